/- live: Live. No condition. -/
import Derived.Test.YtnbochlghdkfkaaBlH
import Derived.Test.YtnbochlghdkfkaaBlC
import Derived.Laws.StructEq
import Derived.Laws.Small
import Derived.ChangeKeysEq
import Derived.Test.YtnbochlghdkfkaaBlG
import Derived.Test.YtnbochlghdkfkaaBlF
import Derived.Test.YtnbochlghdkfkaaBlE
import Derived.Test.YtnbochlghdkfkaaBlD
set_option linter.unusedVariables false
set_option linter.unusedSimpArgs false
set_option maxRecDepth 20000
namespace Go.Proofs.Ytnbochlghdkfkaa
open Go.RowKit Go.Lp Go.Sy
open Go.Proofs.Try
attribute [local irreducible] aL aB awp aC fwp
def numOf (x : GLink) (p : GPlace) : Int := elt x.first.l p.obj + p.sec
def rootK (x : GLink) (p : GPlace) : List Int := if (elt (elt x.objs.l p.obj).secs.l p.sec).keep then [numOf x p] else []
def rootsK (x : GLink) (L : List GPlace) : List Int := L.flatMap (rootK x)
theorem rootK_le (x : GLink) (p : GPlace) : (rootK x p).length ≤ 1 := by unfold rootK; split <;> simp
theorem keptsSec_mem {x : GLink} {k j : Nat} {p : GPlace} (h : p ∈ keptsSec x k j) : ∃ s : Nat, s < j ∧ p = ⟨k, s⟩ ∧ keptF x.objs.l x.keep.l (k : Int) (s : Int) = true := by
  obtain ⟨s, hs, h⟩ := List.mem_filterMap.1 h
  split at h
  · rename_i hk; simp only [Option.some.injEq] at h; exact ⟨s, List.mem_range.1 hs, h.symm, hk⟩
  · cases h
theorem keptsF_mem {x : GLink} {n : Nat} {p : GPlace} (h : p ∈ keptsF x n) : ∃ k s : Nat, k < n ∧ p = ⟨k, s⟩ ∧ keptF x.objs.l x.keep.l (k : Int) (s : Int) = true := by
  obtain ⟨k, hk, h⟩ := List.mem_flatMap.1 h
  obtain ⟨s, _, h1, h2⟩ := keptsSec_mem h
  exact ⟨k, s, List.mem_range.1 hk, h1, h2⟩
theorem keptsSec_le (x : GLink) (k j : Nat) : (keptsSec x k j).length ≤ j := by
  unfold keptsSec; exact Nat.le_trans (List.length_filterMap_le _ _) (by simp)
theorem keptsF_le {x : GLink} (hf : FewL x.objs.l) : ∀ n, n ≤ x.objs.l.length → (keptsF x n).length ≤ 6 * n
  | 0, _ => Nat.le_refl _
  | n + 1, h => by
    have ih := keptsF_le hf n (by omega)
    have hm := hf.of _ (List.mem_of_getElem? (elt_nat (l := x.objs.l) (i := n) h))
    have := keptsSec_le x n (elt x.objs.l (n : Int)).secs.l.length
    rw [keptsF_succ, List.length_append]; omega
def entryF (x : GLink) (y : GSymbol) : Bool := (!x.r.lib && decide (y.name.toList = x.r.entry.toList)) && (decide (y.version.toList = []) || y.main)
def symRoot (x : GLink) (k j : Nat) (y : GSymbol) : List Int :=
  if (choiceF x.choices.l (k : Int) (j : Int)).kind = 2 ∧ (choiceF x.choices.l (k : Int) (j : Int)).obj = k ∧ (choiceF x.choices.l (k : Int) (j : Int)).sym = j ∧ (entryF x y = true ∨ (hidF x.objs.l y.name).getD false = false) then (sectionF x k j).toList else []
def rootsSyms (x : GLink) (k : Nat) (l : List GSymbol) (n : Nat) : List Int := (List.range n).flatMap fun j => symRoot x k j (elt l (j : Int))
def rootsInits (x : GLink) (k : Nat) (l : List GInit) : List Int := l.flatMap fun i => (sectionF x k i.sym).toList
def rootsOb (x : GLink) (k : Nat) : List Int := rootsSyms x k (elt x.objs.l (k : Int)).syms.l (elt x.objs.l (k : Int)).syms.l.length ++ rootsInits x k (elt x.objs.l (k : Int)).inits.l
def rootsF (x : GLink) (n : Nat) : List Int := rootsK x (keptsF x x.objs.l.length) ++ (List.range n).flatMap (rootsOb x)
theorem opt_le (o : Option Int) : o.toList.length ≤ 1 := by cases o <;> simp
theorem symRoot_le (x : GLink) (k j : Nat) (y : GSymbol) : (symRoot x k j y).length ≤ 1 := by unfold symRoot; split <;> simp [opt_le]
theorem rootsSyms_le (x : GLink) (k : Nat) (l : List GSymbol) (n : Nat) : (rootsSyms x k l n).length ≤ n := by have := flatMap_le (fun j => symRoot x k j (elt l (j : Int))) (fun _ => symRoot_le _ _ _ _) (List.range n); simpa [rootsSyms] using this
theorem rootsInits_le (x : GLink) (k : Nat) (l : List GInit) : (rootsInits x k l).length ≤ l.length := flatMap_le _ (fun _ => opt_le _) l
theorem rootsF_succ (x : GLink) (n : Nat) : rootsF x (n + 1) = rootsF x n ++ rootsOb x n := by unfold rootsF; rw [List.range_succ, List.flatMap_append, List.append_assoc]; simp
theorem rootsF_le {x : GLink} (hf : FewL x.objs.l) : ∀ n, n ≤ x.objs.l.length → (rootsF x n).length ≤ 24 + 20 * n
  | 0, _ => by
    have h1 := flatMap_le (rootK x) (rootK_le x) (keptsF x x.objs.l.length)
    have h2 := keptsF_le hf _ (Nat.le_refl _)
    have := hf.n
    simp only [rootsF, List.range_zero, List.flatMap_nil, List.append_nil, rootsK]; omega
  | n + 1, h => by
    have ih := rootsF_le hf n (by omega)
    have hm := hf.of _ (List.mem_of_getElem? (elt_nat (l := x.objs.l) (i := n) h))
    have h1 := rootsSyms_le x n (elt x.objs.l (n : Int)).syms.l (elt x.objs.l (n : Int)).syms.l.length
    have h2 := rootsInits_le x n (elt x.objs.l (n : Int)).inits.l
    rw [rootsF_succ, List.length_append]
    unfold rootsOb; rw [List.length_append]; omega
theorem con_roots (x : GLink) (hx : LkOk x) (hf : FewL x.objs.l) (lb : Nat) : Con Try.prog 25 [.pointer (some ⟨lb, 0, none⟩)] [At lb 0 x.row, x.ok] []
    fun r ps hp => hp = [] ∧ ∃ ad c, r = .slice ad (rootsF x x.objs.l.length).length c ∧ ps = [Sh (.slice ad (rootsF x x.objs.l.length).length c) (.sl (iR (rootsF x x.objs.l.length)))] := by
  refine Con.enterM Try.func25 rfl (by simp [Try.ntmps25]) ?_
  show fwp _ _ _ _ _ ⟨[(0, true, _)], _, _⟩
  refine fwp_seq (awp_region ?_)
  refine aL_eff (q := true) rfl (x_box rfl rfl rfl (fun b0_0 => ?_))
  refine aL_hp (by (try simp only [nM, nN]); rfl) ?_
  refine aL_s true rfl rfl (fun _ => q_assign rfl) (aL_nil (thn_n (fwp_seq (awp_shareB 0 rfl rfl ?_))))
  show awp _ _ _ _ ⟨_, At _ 0 _ :: _, _⟩
  refine awp_region ?_
  refine aL_eff (q := true) rfl (x_alloc (zs := [.slice none 0 0]) (by kernel_rfl) rfl (fun b1_0 => ?_))
  refine aL_hp (by (try simp only [nM, nN]); rfl) ?_
  refine aL_nil (thn_n (fwp_seq (awp_nil 3 1 ?_)))
  show awp _ _ _ _ ⟨_, _, [_, _, _]⟩
  refine awp_region (aL_s true rfl rfl (fun _ => q_func (l := [.tmp 1, .tmp 3]) rfl) (aL_s true rfl rfl (fun _ => q_assign rfl) (aL_nil (thn_n (fwp_seq2 (awp_region (aL_s true rfl rfl (fun _ => q_loadDE (o := 0) tk70 rfl (.of (psAt 0 rfl)) rfl) ?_)))))))
  refine aL_eff (q := true) rfl (e_call [] [] (by kernel_rfl) rfl rfl rfl rfl (con_kepts x lb) ?_)
  rintro _ _ _ ⟨rfl, bk, rfl, rfl⟩
  refine aL_st (by (try simp only [nM, nN]); rfl) (by (try simp only [putB, place, Nat.reduceBEq, nA, if_true, if_false, reduceIte, nB, nC, nD, nE, nF, nG, nH, nI, Nat.reduceAdd, nJ, beq_self_eq_true, nK, nL, nM, nN]); rfl) ?_
  refine aL_nil (thn_n ?_)
  refine fwp_range (Rr := fun _ ps hp2 => ps = [] ∧ ∃ v, hp2 = [Box b1_0 37 [v], OwnS v 3 1 (iR (rootsK x (keptsF x x.objs.l.length)))]) [3, 2, 1, 0] [1, 2] rfl rfl (by kernel_rfl) rfl (fun l1 r1 ht1 he1 hs1 hn1 hp1 ha1 hb1 => ?_) (fun D1 RA1 RB1 w1 ps1 hq1 hR1 => ?_)
  ·skip
   refine con_bun (((con_kepts1 x hx lb bk l1 (X := List Int × Value) (fun q => Bun [LoopR l1 r1, Box b1_0 37 [q.2], OwnS q.2 3 1 (iR q.1)]) (fun i q => q.1 = rootsK x ((keptsF x x.objs.l.length).take i)) (AndP (At b0_0 0 [.v (.pointer (some ⟨lb, 0, none⟩))]) (AndP (At lb 0 x.row) x.ok)) ([], .slice none 0 0) rfl (fun i p q hp hq => ?_)).pre ?_).post (fun v ps' hp' ⟨e1, q, hq, e2⟩ => ⟨_, e2, r1, _, rfl, by rw [hs1]; decide, hn1, e1, q.2, by rw [hq, List.take_length]⟩))
   · have hpr : (0 ≤ p.obj ∧ p.obj < x.objs.l.length) ∧ (0 ≤ p.sec ∧ p.sec < (elt x.objs.l p.obj).secs.l.length) := by
       obtain ⟨kk, ss, _, rfl, hkp⟩ := keptsF_mem (List.mem_of_getElem? hp)
       have := keptF_iff hkp
       exact ⟨this.1, this.2.1⟩
     have hql : q.1.length ≤ 24 := by
       have h1 := flatMap_le (rootK x) (rootK_le x) ((keptsF x x.objs.l.length).take i)
       have h2 := keptsF_le hf _ (Nat.le_refl _)
       have := hf.n
       rw [hq]; unfold rootsK; rw [List.length_take] at h1; omega
     refine ConY.post (ConY.pre (cony_bun (R := fun v ps hp => v = .bool true ∧ ps = [] ∧ ∃ v', hp = [LoopR l1 r1, Box b1_0 37 [v'], OwnS v' 3 1 (iR (q.1 ++ rootK x p))]) (ps := [At b0_0 0 [.v (.pointer (some ⟨lb, 0, none⟩))], At lb 0 x.row, x.ok]) ?_) ?_) ?_
     · skip
       refine con_yield ht1 hp1 ha1 hb1 hs1 rfl he1 rfl (awp_seq (awp_region (aL_s true rfl rfl (fun _ => q_assign rfl) (aL_nil (thn_n (awp_region ?_))))))
       refine aL_eff (q := true) rfl (x_alloc (zs := [.int .i64 0, .int .i64 0]) (by kernel_rfl) rfl (fun b5_0 => ?_))
       refine aL_hp (by (try simp only [nM, nN]); rfl) ?_
       refine aL_eff rfl (x_store 3 tk36 rfl rfl rfl rfl ?_)
       refine aL_hp (by simp only [nK, nL]; rfl) ?_
       refine aL_nil ?_
       refine thn_n ⟨rfl, ?_⟩
       refine aw_hp (by (try simp only [nK, nL]); rfl) ?_
       refine awp_block (awp_seq ?_)
       refine awp_drawnC [] [] [b5_0] (by kernel_rfl) ?_
       show aC _ _ _ _ _ _ _ 14 #[false, false, false, false, false, false, false, false, false, false, false, false, false, false] _
       refine aC_f 0 rfl (by kernel_rfl) true rfl rfl (fun _ => q_loadDE (o := 0) tk70 rfl (.of (psAt 0 rfl)) rfl) ?_
       refine aC_f 1 rfl (by kernel_rfl) true rfl rfl (fun _ => q_nilCheck rfl) ?_
       refine aC_f 2 rfl (by kernel_rfl) true rfl rfl (fun _ => q_fieldAddr (off := 7) (by kernel_rfl) rfl) ?_
       refine aC_f 3 rfl (by kernel_rfl) true rfl rfl (fun _ => q_loadDE (o := 7) tk26 rfl (.of (psAt 1 rfl)) rfl) ?_
       refine aC_f 4 rfl (by kernel_rfl) true rfl rfl (fun _ => q_fieldAddr (off := 0) (by kernel_rfl) rfl) ?_
       refine aC_box 5 3 rfl (by kernel_rfl) true rfl rfl (by simp) tk3 (fun _ => rfl) rfl rfl ?_
       refine aC_R1 6 rfl (by kernel_rfl) rfl rfl (q_indexAddrGR Try.underlying26 tk53 rfl ((GLink.f_objs (.of (psAt 2 rfl)))) rfl (rows_elt (i := p.obj) (by omega) (by omega)) (by omega) rfl) (fun ⟨b6_6, o6_6⟩ => ?_)
       refine aC_f 7 rfl (by kernel_rfl) true rfl rfl (fun _ => q_fieldAddr (off := 1) (by kernel_rfl) rfl) ?_
       refine aC_f 8 rfl (by kernel_rfl) true rfl rfl (fun _ => q_loadDE (o := 1) tk42 rfl (.of (psAt 0 rfl)) rfl) ?_
       refine aC_f 9 rfl (by kernel_rfl) true rfl rfl (fun _ => q_fieldAddr (off := 1) (by kernel_rfl) rfl) ?_
       refine aC_box 10 3 rfl (by kernel_rfl) true rfl rfl (by simp) tk3 (fun _ => rfl) rfl rfl ?_
       refine aC_R1 11 rfl (by kernel_rfl) rfl rfl (q_indexAddrGR Try.underlying42 tk60 rfl ((GObject.f_secs ((GLink.f_objsA (.of (psAt 3 rfl))).elt (i := p.obj) (by omega) (by omega)))) rfl (rows_elt (i := p.sec) (by omega) (by omega)) (by omega) rfl) (fun ⟨b6_11, o6_11⟩ => ?_)
       refine aC_f 12 rfl (by kernel_rfl) true rfl rfl (fun _ => q_fieldAddr (off := 5) (by kernel_rfl) rfl) ?_
       refine aC_f 13 rfl (by kernel_rfl) true rfl rfl (fun _ => q_loadDE (o := 5) tk4 rfl (.of (psAt 0 rfl)) rfl) ?_
       refine aC_nil (by kernel_rfl) ?_
       refine thn_n ?_
       refine awp_cond _ rfl (fun h1 => ?_) (fun h1 => ?_)
       ·skip
        refine awp_region (aL_s true rfl rfl (fun _ => q_load 1 tk37 rfl rfl rfl) (aL_s true rfl rfl (fun _ => q_move rfl) ?_))
        refine aL_eff (q := true) rfl (w_lit (zs := [.int .i64 0]) (l := [(0, .tmp 36)]) el37 (by kernel_rfl) (by decide) (by decide) (by decide) rfl rfl rfl (.more rfl (.v rfl .nil) .nil) rfl rfl (fun v7_2 => ?_))
        refine aL_hp (by (try simp only [nM, nN]); rfl) ?_
        refine aL_eff rfl (w_append 2 el37 rfl rfl rfl rfl (w_srcO 4 el37 rfl (by simp)) (by first | assumption | simp) (by simp [iR_len]; omega) _ rfl (fun v7_3 c7_3 => ?_))
        refine aL_hp (by simp only [nK, nL]; rfl) ?_
        refine aL_eff rfl (x_store 1 tk37 rfl rfl rfl rfl ?_)
        refine aL_hp (by simp only [nK, nL]; rfl) ?_
        refine aL_nil (blk_n ?_)
        refine ⟨none, [], [0, 1, 2], rfl, rfl, rfl, ?_⟩
        simp only [nK, nL]
        exact ⟨rfl, rfl, _, by rw [ended_none hs1 hn1, show rootK x p = [numOf x p] from if_pos h1, iR_snoc]; rfl⟩
       ·skip
        refine awp_skip (blk_n ?_)
        refine ⟨none, [], [0, 1, 2], rfl, rfl, rfl, ?_⟩
        simp only [nK, nL]
        exact ⟨rfl, rfl, _, by rw [ended_none hs1 hn1, show rootK x p = [] from if_neg (by rw [h1]; decide), List.append_nil]; rfl⟩
     · intro p' hp'
       simp only [List.mem_cons, List.not_mem_nil, or_false] at hp'
       rcases hp' with rfl | rfl | rfl
       · exact (Ent.of List.mem_cons_self).left
       · exact (Ent.of List.mem_cons_self).right.left
       · exact (Ent.of List.mem_cons_self).right.right
     · rintro v ps' hp' ⟨l', e, h1, h2, v', h3⟩
       refine ⟨h1, h2, (q.1 ++ rootK x p, v'), ?_, e.trans (by rw [h3])⟩
       dsimp only
       rw [hq, List.take_add_one, hp]; unfold rootsK; rw [List.flatMap_append]; simp
   · intro p' hp'
     simp only [List.mem_cons, List.not_mem_nil, or_false] at hp'
     rcases hp' with rfl | rfl | rfl | rfl
     · exact .mk2 (.of (psAt 1 rfl)) (.mk2 (.of (psAt 2 rfl)) (.of (psAt 3 rfl)))
     · exact .of (psAt 0 rfl)
     · exact .of (psAt 2 rfl)
     · exact .of (psAt 3 rfl)
  obtain ⟨rfl, v, rfl⟩ := hR1
  refine fwp_st (by (try simp only [nM, nN]); rfl) (by (try simp only [nM, nN, nK, nL, nH, nI, putB, place, Nat.reduceBEq, nA, if_true, if_false, reduceIte, nB, nC, nD, nE, nF, nG, nH, nI, Nat.reduceAdd, nJ, beq_self_eq_true, nK, nL, nM, nN]); rfl) ?_
  refine fwp_of_awp (awp_seq (awp_region (aL_s true rfl rfl (fun _ => q_loadDE (o := 0) tk70 rfl (.of (psAt 1 rfl)) rfl) ?_)))
  refine aL_eff (q := true) rfl (e_call [1, 0] [] (by kernel_rfl) rfl rfl rfl rfl (con_hidden x lb) ?_)
  rintro _ _ _ ⟨rfl, bh, rfl, rfl⟩
  refine aL_st (by (try simp only [nM, nN]); rfl) (by (try simp only [putB, place, Nat.reduceBEq, nA, if_true, if_false, reduceIte, nB, nC, nD, nE, nF, nG, nH, nI, Nat.reduceAdd, nJ, beq_self_eq_true, nK, nL, nM, nN]); rfl) ?_
  refine aL_s true rfl rfl (fun _ => q_assign rfl) (aL_nil (thn_n (awp_seq (awp_seq (awp_region (aL_s true rfl rfl (fun _ => q_loadDE (o := 0) tk70 rfl (.of (psAt 1 rfl)) rfl) (aL_s true rfl rfl (fun _ => q_nilCheck rfl) ?_)))))))
  refine aL_s true rfl rfl (fun _ => q_fieldAddr (off := 7) (by kernel_rfl) rfl) ?_
  refine aL_s true rfl rfl (fun _ => q_loadDE (o := 7) tk26 rfl (.of (psAt 2 rfl)) rfl) (aL_s true rfl rfl (fun _ => q_lenS Try.underlying26 rfl) (aL_s true rfl rfl (fun _ => q_move rfl) (aL_nil (thn_n (awp_block ?_)))))
  refine awp_lenE (GLink.f_objs (.of (psAt 3 rfl))) (fun hlen => ?_)
  refine awp_loopK [1, 3, 4, 7, 44, 45, 46] [2, 1, 0] [1, 2, 3, 5] (fun (p : Nat × Value) s => p.1 ≤ x.objs.l.length ∧ s = ⟨[(1, true, .pointer (some ⟨b0_0, 0, none⟩)), (3, true, .pointer (some ⟨b1_0, 0, none⟩)), (4, true, .func (.func 39) #[] #[.pointer (some ⟨b0_0, 0, none⟩), .pointer (some ⟨b1_0, 0, none⟩)]), (7, true, .map (some bh)), (44, true, x.objs.val), (45, true, .int .i64 x.objs.l.length), (46, true, .int .i64 p.1)],
    [At b0_0 0 [.v (.pointer (some ⟨lb, 0, none⟩))], At lb 0 x.row, x.ok], [Box b1_0 37 [p.2], OwnS p.2 3 1 (iR (rootsF x p.1)), DfdR D1, MapR bh kS vB (hidF x.objs.l)]⟩) (fun p => x.objs.l.length - p.1) rfl (⟨(0, _), Nat.zero_le _, by rw [show rootsF x 0 = rootsK x (keptsF x x.objs.l.length) by simp [rootsF]]; rfl⟩) ?_
  rintro ⟨k, v⟩ s ⟨hk, rfl⟩
  dsimp only at hk
  refine awp_seq (awp_region (aL_s true rfl rfl (fun _ => q_lss rfl rfl) (aL_nil (thn_n (awp_seq ?_)))))
  refine awp_cond _ rfl (fun h1 => ?_) (fun h1 => ?_)
  ·skip
   have hk' : k < x.objs.l.length := by simpa using h1
   have ho := elt_nat hk'
   have hfo := hf.of _ (List.mem_of_getElem? ho)
   have hacc := rootsF_le hf k hk
   have hn4 := hf.n
   have hoi : (0 : Int) ≤ k ∧ (k : Int) < x.objs.l.length := by omega
   generalize hoo : elt x.objs.l (k : Int) = o at ho hfo
   refine awp_skip (thn_n (awp_seq (awp_block (awp_seq (awp_region (aL_s true rfl rfl (fun _ => q_move rfl) ?_))))))
   refine aL_E true rfl rfl (fun _ => q_indexAddrG Try.underlying26 tk53 rfl ((GLink.f_objs (.of (psAt 2 rfl)))) rfl (rows_get ho) rfl rfl) (fun h => absurd h (by decide)) (fun ⟨b11_1, o11_1⟩ => ?_)
   refine aL_s true rfl rfl (fun _ => q_loadD (o := 0) tk53 rfl (psAt 0 rfl) rfl rfl) ?_
   refine aL_eff (q := true) rfl (x_alloc (zs := [.string .empty, .slice none 0 0, .slice none 0 0, .slice none 0 0, .slice none 0 0, .slice none 0 0, .slice none 0 0, .slice none 0 0, .slice none 0 0, .slice none 0 0, .slice none 0 0]) (by kernel_rfl) rfl (fun b11_3 => ?_))
   refine aL_hp (by (try simp only [nM, nN]); rfl) ?_
   refine aL_s true rfl rfl (fun _ => q_assign rfl) ?_
   refine aL_eff rfl (x_store 4 tk53 rfl rfl rfl rfl ?_)
   refine aL_hp (by simp only [nK, nL]; rfl) ?_
   refine aL_nil (thn_n (awp_seq (awp_seq (awp_region ?_))))
   refine aL_s true rfl rfl (fun _ => q_fieldAddr (off := 2) (by kernel_rfl) rfl) ?_
   refine aL_s true rfl rfl (fun _ => q_load 4 tk43 rfl rfl rfl) (aL_s true rfl rfl (fun _ => q_lenS Try.underlying43 rfl) (aL_s true rfl rfl (fun _ => q_move rfl) (aL_nil (thn_n (awp_block ?_)))))
   refine awp_loopK [1, 3, 4, 7, 8, 44, 45, 46, 9, 52, 53, 54] [2, 1, 0] [0, 1, 2, 3, 4] (fun (p : Nat × Value) s => p.1 ≤ o.syms.l.length ∧ s = ⟨[(1, true, .pointer (some ⟨b0_0, 0, none⟩)), (3, true, .pointer (some ⟨b1_0, 0, none⟩)), (4, true, .func (.func 39) #[] #[.pointer (some ⟨b0_0, 0, none⟩), .pointer (some ⟨b1_0, 0, none⟩)]), (7, true, .map (some bh)), (8, true, .int .i64 k), (44, true, x.objs.val), (45, true, .int .i64 x.objs.l.length), (46, true, .int .i64 k), (9, true, .pointer (some ⟨b11_3, 0, none⟩)), (52, true, o.syms.val), (53, true, .int .i64 o.syms.l.length), (54, true, .int .i64 p.1)],
     [At b0_0 0 [.v (.pointer (some ⟨lb, 0, none⟩))], At lb 0 x.row, x.ok], [Box b1_0 37 [p.2], OwnS p.2 3 1 (iR (rootsF x k ++ rootsSyms x k o.syms.l p.1)), DfdR D1, MapR bh kS vB (hidF x.objs.l), Box b11_3 53 o.vs]⟩) (fun p => o.syms.l.length - p.1) rfl (⟨(0, _), Nat.zero_le _, by rw [show rootsSyms x k o.syms.l 0 = [] from rfl, List.append_nil]; rfl⟩) ?_
   rintro ⟨j, v⟩ s ⟨hj, rfl⟩
   dsimp only at hj
   refine awp_seq (awp_region (aL_s true rfl rfl (fun _ => q_lss rfl rfl) (aL_nil (thn_n (awp_seq ?_)))))
   refine awp_cond _ rfl (fun h2 => ?_) (fun h2 => ?_)
   ·skip
    have hj' : j < o.syms.l.length := by simpa using h2
    have hy := elt_nat hj'
    generalize hyy : elt o.syms.l (j : Int) = y at hy
    have hlr : (rootsF x k ++ rootsSyms x k o.syms.l j).length ≤ 1000000 := by
      have := rootsSyms_le x k o.syms.l j
      rw [List.length_append]; omega
    have hstep : rootsF x k ++ rootsSyms x k o.syms.l (j + 1) = rootsF x k ++ rootsSyms x k o.syms.l j ++ symRoot x k j y := by
      unfold rootsSyms; rw [List.range_succ, List.flatMap_append, List.append_assoc]; simp [hyy]
    refine awp_skip (thn_n (awp_seq (awp_block (awp_seq (awp_region (aL_s true rfl rfl (fun _ => q_move rfl) ?_))))))
    refine aL_E true rfl rfl (fun _ => q_indexAddrG Try.underlying43 tk88 rfl ((GObject.f_syms ((GLink.f_objsA (.of (psAt 2 rfl))).all ho))) rfl (rows_get hy) rfl rfl) (fun h => absurd h (by decide)) (fun ⟨b14_1, o14_1⟩ => ?_)
    refine aL_s true rfl rfl (fun _ => q_loadD (o := 0) tk88 rfl (psAt 0 rfl) rfl rfl) ?_
    refine aL_eff (q := true) rfl (x_alloc (zs := [.string .empty, .string .empty, .bool false, .int .i64 0, .int .i64 0, .int .i64 0, .int .i64 0, .int .i64 0, .int .i64 0, .int .i64 0]) (by kernel_rfl) rfl (fun b14_3 => ?_))
    refine aL_hp (by (try simp only [nM, nN]); rfl) ?_
    refine aL_s true rfl rfl (fun _ => q_assign rfl) ?_
    refine aL_eff rfl (x_store 5 tk88 rfl rfl rfl rfl ?_)
    refine aL_hp (by simp only [nK, nL]; rfl) ?_
    refine aL_nil (thn_n (awp_seq (awp_region (aL_s true rfl rfl (fun _ => q_loadDE (o := 0) tk70 rfl (.of (psAt 1 rfl)) rfl) (aL_s true rfl rfl (fun _ => q_move rfl) (aL_s true rfl rfl (fun _ => q_move rfl) ?_))))))
    refine aL_s true rfl rfl (fun _ => q_call (by kernel_rfl) rfl (fun w S fp hst => (con_choice x lb _ _).quiet2 (psAt 2 rfl) (psAt 3 rfl) hst)) ?_
    refine aL_eff (q := true) rfl (x_alloc (zs := [.int .i64 0, .int .i64 0, .int .i64 0, .int .i64 0, .int .i64 0, .bool false]) (by kernel_rfl) rfl (fun b15_4 => ?_))
    refine aL_hp (by (try simp only [nM, nN]); rfl) ?_
    refine aL_eff rfl (x_store 6 tk68 rfl rfl rfl rfl ?_)
    refine aL_hp (by simp only [nK, nL]; rfl) ?_
    refine aL_nil (thn_n (awp_seq ?_))
    refine awp_drawnC [] [] [b14_3] (by kernel_rfl) ?_
    show aC _ _ _ _ _ _ _ 26 #[false, false, false, false, false, false, false, false, false, false, false, false, false, false, false, false, false, false, false, false, false, false, false, false, false, false] _
    refine aC_f 0 rfl (by kernel_rfl) true rfl rfl (fun _ => q_loadDE (o := 0) tk70 rfl (.of (psAt 1 rfl)) rfl) ?_
    refine aC_f 1 rfl (by kernel_rfl) true rfl rfl (fun _ => q_nilCheck rfl) ?_
    refine aC_f 2 rfl (by kernel_rfl) true rfl rfl (fun _ => q_fieldAddr (off := 0) (by kernel_rfl) rfl) ?_
    refine aC_f 3 rfl (by kernel_rfl) true rfl rfl (fun _ => q_fieldAddr (off := 1) (by kernel_rfl) rfl) ?_
    refine aC_f 4 rfl (by kernel_rfl) true rfl rfl (fun _ => q_loadDE (o := 1) tk4 rfl (.of (psAt 2 rfl)) rfl) ?_
    refine aC_f 5 rfl (by kernel_rfl) true rfl rfl (fun _ => q_not rfl) ?_
    refine aC_f 6 rfl (by kernel_rfl) true rfl rfl (fun _ => q_move rfl) ?_
    refine aC_f 7 rfl (by kernel_rfl) _ rfl rfl (fun hc => q_fieldAddr (off := 0) (by kernel_rfl) rfl) ?_
    refine aC_box 8 5 rfl (by kernel_rfl) _ rfl rfl (by simp) tk9 (fun hc => (ev_yes rfl hc)) rfl rfl ?_
    refine aC_f 9 rfl (by kernel_rfl) _ rfl rfl (fun hc => q_loadDE (o := 0) tk70 rfl (.of (psAt 1 rfl)) rfl) ?_
    refine aC_f 10 rfl (by kernel_rfl) _ rfl rfl (fun hc => q_nilCheck (ev_yes rfl hc)) ?_
    refine aC_f 11 rfl (by kernel_rfl) _ rfl rfl (fun hc => q_fieldAddr (off := 0) (by kernel_rfl) (ev_yes rfl hc)) ?_
    refine aC_f 12 rfl (by kernel_rfl) _ rfl rfl (fun hc => q_fieldAddr (off := 4) (by kernel_rfl) (ev_yes rfl hc)) ?_
    refine aC_f 13 rfl (by kernel_rfl) _ rfl rfl (fun hc => q_loadDE (o := 4) tk9 (ev_yes rfl hc) (.of (psAt 2 rfl)) rfl) ?_
    refine aC_f 14 rfl (by kernel_rfl) _ rfl rfl (fun hc => qs_eql (ev_yes rfl hc) (ev_yes rfl hc)) ?_
    refine aC_f 15 rfl (by kernel_rfl) true rfl rfl (fun _ => q_and rfl rfl (fun h => gt rfl h)) ?_
    refine aC_f 16 rfl (by kernel_rfl) true rfl rfl (fun _ => q_move rfl) ?_
    refine aC_f 17 rfl (by kernel_rfl) _ rfl rfl (fun hc => q_fieldAddr (off := 1) (by kernel_rfl) rfl) ?_
    refine aC_box 18 5 rfl (by kernel_rfl) _ rfl rfl (by simp) tk9 (fun hc => (ev_yes rfl hc)) rfl rfl ?_
    refine aC_f 19 rfl (by kernel_rfl) _ rfl rfl (fun hc => qs_eql (ev_yes rfl hc) rfl) ?_
    refine aC_f 20 rfl (by kernel_rfl) _ rfl rfl (fun hc => q_move (ev_yes rfl hc)) ?_
    refine aC_f 21 rfl (by kernel_rfl) _ rfl rfl (fun hc => q_fieldAddr (off := 2) (by kernel_rfl) rfl) ?_
    refine aC_box 22 5 rfl (by kernel_rfl) _ rfl rfl (by simp) tk4 (fun hc => (ev_yes rfl hc)) rfl rfl ?_
    refine aC_f 23 rfl (by kernel_rfl) _ rfl rfl (fun hc => q_or (ev_yes rfl hc) rfl (fun h => gf hc h)) ?_
    refine aC_f 24 rfl (by kernel_rfl) true rfl rfl (fun _ => q_and rfl rfl (fun h => gt rfl h)) ?_
    refine aC_f 25 rfl (by kernel_rfl) true rfl rfl (fun _ => q_assign rfl) ?_
    refine aC_nil (by kernel_rfl) ?_
    refine thn_n (awp_seq (awp_region ?_))
    refine aL_s true rfl rfl (fun _ => q_fieldAddr (off := 0) (by kernel_rfl) rfl) ?_
    refine aL_s true rfl rfl (fun _ => q_load 6 tk3 rfl rfl rfl) (aL_s true rfl rfl (fun _ => q_eql rfl rfl) (aL_s true rfl rfl (fun _ => q_move rfl) ?_))
    refine aL_s _ rfl rfl (fun hc => q_fieldAddr (off := 1) (by kernel_rfl) rfl) ?_
    refine aL_s _ rfl rfl (fun hc => q_load 6 tk3 (ev_yes rfl hc) rfl rfl) (aL_s _ rfl rfl (fun hc => q_move rfl) (aL_s _ rfl rfl (fun hc => q_eql (ev_yes rfl hc) (ev_yes rfl hc)) (aL_s true rfl rfl (fun _ => q_and rfl rfl (fun h => gt rfl h)) (aL_s true rfl rfl (fun _ => q_move rfl) ?_))))
    refine aL_s _ rfl rfl (fun hc => q_fieldAddr (off := 2) (by kernel_rfl) rfl) ?_
    refine aL_s _ rfl rfl (fun hc => q_load 6 tk3 (ev_yes rfl hc) rfl rfl) (aL_s _ rfl rfl (fun hc => q_move rfl) (aL_s _ rfl rfl (fun hc => q_eql (ev_yes rfl hc) (ev_yes rfl hc)) (aL_s true rfl rfl (fun _ => q_and rfl rfl (fun h => gt rfl h)) (aL_s true rfl rfl (fun _ => q_move rfl) (aL_s _ rfl rfl (fun hc => q_move rfl) (aL_s _ rfl rfl (fun hc => q_move (ev_yes rfl hc)) (aL_s _ rfl rfl (fun hc => q_move rfl) ?_)))))))
    refine aL_s _ rfl rfl (fun hc => q_fieldAddr (off := 0) (by kernel_rfl) rfl) ?_
    refine aL_s _ rfl rfl (fun hc => q_load 5 tk9 (ev_yes rfl hc) rfl rfl) ?_
    refine aL_s _ rfl rfl (fun hc => q_look (k := y.name) (v0 := false) 3 Try.underlying103 (keyS) (by kernel_rfl) (ev_yes rfl hc) (ev_yes rfl hc) rfl) ?_
    refine aL_s _ rfl rfl (fun hc => q_not (ev_yes rfl hc)) (aL_s _ rfl rfl (fun hc => q_or (ev_yes rfl hc) rfl (fun h => gf hc h)) (aL_s true rfl rfl (fun _ => q_and rfl rfl (fun h => gt rfl h)) (aL_nil (thn_n ?_))))
    refine awp_cond _ rfl (fun h3 => ?_) (fun h3 => ?_)
    ·skip
     refine awp_region (aL_s true rfl rfl (fun _ => q_move rfl) (aL_s true rfl rfl (fun _ => q_move rfl) (aL_s true rfl rfl (fun _ => q_move rfl) ?_)))
     refine aL_eff (q := false) rfl (e_callC [2, 1, 0] [0, 1] (by kernel_rfl) rfl rfl rfl rfl rfl (con_roots1 x hx _ lb _ k j hoi _ _ hlr) ?_)
     rintro r18 _ _ ⟨rfl, v', rfl⟩
     refine aL_st (by (try simp only [nM, nN]); rfl) (by (try simp only [putB, place, Nat.reduceBEq, nA, if_true, if_false, reduceIte, nB, nC, nD, nE, nF, nG, nH, nI, Nat.reduceAdd, nJ, beq_self_eq_true, nK, nL, nM, nN]); rfl) ?_
     refine aL_nil (blk_n (thn_n (awp_region ?_)))
     refine aL_s true rfl rfl (fun _ => q_addi rfl rfl (by omega)) ?_
     refine aL_s true rfl rfl (fun _ => q_move rfl) (aL_nil (thn_n ?_))
     refine ⟨[1, 3, 4, 7, 8, 44, 45, 46, 9, 52, 53, 54], [2, 1, 0], [0, 1, 2, 3, 4], rfl, ?_⟩
     refine ⟨(j + 1, v'), ⟨by dsimp only; omega, ?_⟩, by dsimp only; omega⟩
     rw [hstep, show symRoot x k j y = (sectionF x k j).toList from if_pos (by simpa [entryF, and_assoc] using h3)]
     rfl
    ·skip
     refine awp_skip (blk_n (thn_n (awp_region ?_)))
     refine aL_s true rfl rfl (fun _ => q_addi rfl rfl (by omega)) ?_
     refine aL_s true rfl rfl (fun _ => q_move rfl) (aL_nil (thn_n ?_))
     refine ⟨[1, 3, 4, 7, 8, 44, 45, 46, 9, 52, 53, 54], [2, 1, 0], [0, 1, 2, 3, 4], rfl, ?_⟩
     refine ⟨(j + 1, v), ⟨by dsimp only; omega, ?_⟩, by dsimp only; omega⟩
     rw [hstep, show symRoot x k j y = [] from if_neg (by simpa [entryF] using h3), List.append_nil]
     rfl
   ·skip
    obtain rfl : j = o.syms.l.length := by have := (by simpa using h2 : o.syms.l.length ≤ j); omega
    refine awp_lenE (GObject.f_inits ((GLink.f_objsA (.of (psAt 2 rfl))).all ho)) (fun hleni => ?_)
    refine awp_exit (thn_e (thn_e (blk_hit (thn_n (awp_seq (awp_region ?_))))))
    refine aL_s true rfl rfl (fun _ => q_fieldAddr (off := 5) (by kernel_rfl) rfl) ?_
    refine aL_s true rfl rfl (fun _ => q_load 4 tk46 rfl rfl rfl) (aL_s true rfl rfl (fun _ => q_lenS Try.underlying46 rfl) (aL_s true rfl rfl (fun _ => q_move rfl) (aL_nil (thn_n (awp_block ?_)))))
    refine awp_loopK [1, 3, 4, 7, 8, 44, 45, 46, 119, 120, 121] [2, 1, 0] [0, 1, 2, 3] (fun (p : Nat × Value) s => p.1 ≤ o.inits.l.length ∧ s = ⟨[(1, true, .pointer (some ⟨b0_0, 0, none⟩)), (3, true, .pointer (some ⟨b1_0, 0, none⟩)), (4, true, .func (.func 39) #[] #[.pointer (some ⟨b0_0, 0, none⟩), .pointer (some ⟨b1_0, 0, none⟩)]), (7, true, .map (some bh)), (8, true, .int .i64 k), (44, true, x.objs.val), (45, true, .int .i64 x.objs.l.length), (46, true, .int .i64 k), (119, true, o.inits.val), (120, true, .int .i64 o.inits.l.length), (121, true, .int .i64 p.1)],
      [At b0_0 0 [.v (.pointer (some ⟨lb, 0, none⟩))], At lb 0 x.row, x.ok], [Box b1_0 37 [p.2], OwnS p.2 3 1 (iR (rootsF x k ++ rootsSyms x k o.syms.l o.syms.l.length ++ rootsInits x k (o.inits.l.take p.1))), DfdR D1, MapR bh kS vB (hidF x.objs.l)]⟩) (fun p => o.inits.l.length - p.1) rfl (⟨(0, _), Nat.zero_le _, by rw [List.take_zero, show rootsInits x k [] = [] from rfl, List.append_nil]; rfl⟩) ?_
    rintro ⟨i, v⟩ s ⟨hi, rfl⟩
    dsimp only at hi
    refine awp_seq (awp_region (aL_s true rfl rfl (fun _ => q_lss rfl rfl) (aL_nil (thn_n (awp_seq ?_)))))
    refine awp_cond _ rfl (fun h4 => ?_) (fun h4 => ?_)
    ·skip
     have hi' : i < o.inits.l.length := by simpa using h4
     obtain ⟨z, hz⟩ : ∃ z, o.inits.l[i]? = some z := ⟨o.inits.l[i]'hi', by simp⟩
     have hlr : (rootsF x k ++ rootsSyms x k o.syms.l o.syms.l.length ++ rootsInits x k (o.inits.l.take i)).length ≤ 1000000 := by
       have := rootsSyms_le x k o.syms.l o.syms.l.length
       have := rootsInits_le x k (o.inits.l.take i)
       rw [List.length_take] at this; rw [List.length_append, List.length_append]; omega
     refine awp_skip (thn_n (awp_seq (awp_block (awp_seq (awp_region ?_)))))
     refine aL_E true rfl rfl (fun _ => q_indexAddrG Try.underlying46 tk92 rfl ((GObject.f_inits ((GLink.f_objsA (.of (psAt 2 rfl))).all ho))) rfl (rows_get hz) rfl rfl) (fun h => absurd h (by decide)) (fun ⟨b22_0, o22_0⟩ => ?_)
     refine aL_s true rfl rfl (fun _ => q_loadD (o := 0) tk92 rfl (psAt 0 rfl) rfl rfl) ?_
     refine aL_eff (q := true) rfl (x_alloc (zs := [.int .i64 0, .int .i64 0, .bool false]) (by kernel_rfl) rfl (fun b22_2 => ?_))
     refine aL_hp (by (try simp only [nM, nN]); rfl) ?_
     refine aL_eff rfl (x_store 4 tk92 rfl rfl rfl rfl ?_)
     refine aL_hp (by simp only [nK, nL]; rfl) ?_
     refine aL_nil (thn_n (awp_region (aL_s true rfl rfl (fun _ => q_move rfl) (aL_s true rfl rfl (fun _ => q_move rfl) ?_))))
     refine aL_s true rfl rfl (fun _ => q_fieldAddr (off := 0) (by kernel_rfl) rfl) ?_
     refine aL_s true rfl rfl (fun _ => q_load 4 tk3 rfl rfl rfl) ?_
     refine aL_eff (q := false) rfl (e_callC [2, 1, 0] [0, 1] (by kernel_rfl) rfl rfl rfl rfl rfl (con_roots1 x hx _ lb _ k z.sym hoi _ _ hlr) ?_)
     rintro r23 _ _ ⟨rfl, v', rfl⟩
     refine aL_st (by (try simp only [nM, nN]); rfl) (by (try simp only [putB, place, Nat.reduceBEq, nA, if_true, if_false, reduceIte, nB, nC, nD, nE, nF, nG, nH, nI, Nat.reduceAdd, nJ, beq_self_eq_true, nK, nL, nM, nN]); rfl) ?_
     refine aL_nil (blk_n (thn_n (awp_region ?_)))
     refine aL_s true rfl rfl (fun _ => q_addi rfl rfl (by omega)) ?_
     refine aL_s true rfl rfl (fun _ => q_move rfl) (aL_nil (thn_n ?_))
     refine ⟨[1, 3, 4, 7, 8, 44, 45, 46, 119, 120, 121], [2, 1, 0], [0, 1, 2, 3], rfl, ?_⟩
     refine ⟨(i + 1, v'), ⟨by dsimp only; omega, ?_⟩, by dsimp only; omega⟩
     rw [show rootsF x k ++ rootsSyms x k o.syms.l o.syms.l.length ++ rootsInits x k (o.inits.l.take (i + 1)) = rootsF x k ++ rootsSyms x k o.syms.l o.syms.l.length ++ rootsInits x k (o.inits.l.take i) ++ (sectionF x k z.sym).toList by
       unfold rootsInits; rw [List.take_add_one, hz, List.flatMap_append, List.append_assoc]; simp]
     rfl
    ·skip
     have hi2 : o.inits.l.take i = o.inits.l := List.take_of_length_le (by simpa using h4)
     refine awp_exit (thn_e (thn_e (blk_hit (blk_n (thn_n (awp_region ?_))))))
     refine aL_s true rfl rfl (fun _ => q_addi rfl rfl (by omega)) ?_
     refine aL_s true rfl rfl (fun _ => q_move rfl) (aL_nil (thn_n ?_))
     refine ⟨[1, 3, 4, 7, 44, 45, 46], [2, 1, 0], [0, 1, 2, 3], rfl, ?_⟩
     refine ⟨(k + 1, v), ⟨by dsimp only; omega, ?_⟩, by dsimp only; omega⟩
     rw [hi2, rootsF_succ]; unfold rootsOb; rw [hoo, ← List.append_assoc]
     rfl
  ·skip
   obtain rfl : k = x.objs.l.length := by have := (by simpa using h1 : x.objs.l.length ≤ k); omega
   refine awp_exit (thn_e (thn_e (blk_hit (thn_n (awp_seq (awp_region (aL_s true rfl rfl (fun _ => q_load 0 tk37 rfl rfl rfl) ?_)))))))
   refine aL_s true rfl rfl (fun _ => q_assign rfl) (aL_nil (thn_n (awp_share 1 rfl ?_)))
   refine awp_form (.of (psAt 0 rfl)) (fun ad kc hv => ?_)
   rw [iR_len] at hv
   refine awp_ret ?_
   refine fin1G [3] [] [2] [D1] rfl Try.results25 rfl rfl rfl ?_ (.inr rfl)
   exact ⟨rfl, ad, kc, hv, by rw [← hv]; rfl⟩
end Go.Proofs.Ytnbochlghdkfkaa
namespace Go.Sy
open Go.RowKit
section
variable {P : Program} {n : Fr} {s : Sta} {d : Option Tmp} {ty : TypeId} {pos : String} {af : Array Edge} {gd : Option (Nat × Bool)} {x y : Operand} {t t' : TypeId}
theorem qb_eql {b1 b2 : Bool} (hT : P.underlying t = some .bool) (hx : ev s.env x = some (true, .bool b1)) (hy : ev s.env y = some (true, .bool b2)) : Quiet P n ⟨d, .binOp .eql t x y t', ty, pos, af, gd⟩ s (.bool (b1 == b2)) :=
  .run2 hx hy fun ρ w h1 h2 => by
    unfold execOp; dsimp only; rw [h1, h2]
    simp only [eqGuard_at_bool, binOp, Sem.run_bind, Sem.run_pure, run_equal_bool w t b1 b2 hT, Result.andThen_ok]
theorem qb_neq {b1 b2 : Bool} (hT : P.underlying t = some .bool) (hx : ev s.env x = some (true, .bool b1)) (hy : ev s.env y = some (true, .bool b2)) : Quiet P n ⟨d, .binOp .neq t x y t', ty, pos, af, gd⟩ s (.bool (!(b1 == b2))) :=
  .run2 hx hy fun ρ w h1 h2 => by
    unfold execOp; dsimp only; rw [h1, h2]
    simp only [eqGuard_at_bool, binOp, Sem.run_bind, Sem.run_pure, run_equal_bool w t b1 b2 hT, Result.andThen_ok]
theorem qa_eql {xs ys : Array Value} {b : Bool} (hT : P.underlying t = some (.struct (P.fieldsOf t))) (hp : P.stoodInHeld t = false) (hm : P.eqGuardType P.depth t = false)
    (hr : ∀ w, (Op.eqFields 9999 xs ys (P.fieldsOf t).toList).run P w = .ok b w) (hx : ev s.env x = some (true, .agg xs)) (hy : ev s.env y = some (true, .agg ys)) : Quiet P n ⟨d, .binOp .eql t x y t', ty, pos, af, gd⟩ s (.bool b) :=
  .run2 hx hy fun ρ w h1 h2 => by
    unfold execOp; dsimp only; rw [h1, h2]
    simp only [Sem.run_bind, run_eqGuard_agg w _ t _ _ xs ys hm, Result.andThen_ok, run_eql_struct, run_equalIn_struct w 9999 t xs ys hT hp, hr w]
    rfl
theorem qa_neq {xs ys : Array Value} {b : Bool} (hT : P.underlying t = some (.struct (P.fieldsOf t))) (hp : P.stoodInHeld t = false) (hm : P.eqGuardType P.depth t = false)
    (hr : ∀ w, (Op.eqFields 9999 xs ys (P.fieldsOf t).toList).run P w = .ok b w) (hx : ev s.env x = some (true, .agg xs)) (hy : ev s.env y = some (true, .agg ys)) : Quiet P n ⟨d, .binOp .neq t x y t', ty, pos, af, gd⟩ s (.bool (!b)) :=
  .run2 hx hy fun ρ w h1 h2 => by
    unfold execOp; dsimp only; rw [h1, h2]
    simp only [Sem.run_bind, run_eqGuard_agg w _ t _ _ xs ys hm, Result.andThen_ok, run_neq_struct, run_equalIn_struct w 9999 t xs ys hT hp, hr w]
    rfl
theorem q_shl {k yk : IntKind} {a b : Int} (hx : ev s.env x = some (true, .int k a)) (hy : ev s.env y = some (true, .int yk b)) (hb : 0 ≤ b) : Quiet P n ⟨d, .binOp .shl t x y t', ty, pos, af, gd⟩ s (.int k (k.wrap (a * 2 ^ min b.toNat k.bits))) :=
  .run2 hx hy fun ρ w h1 h2 => by
    have e : Op.shift .shl k a yk b = pure (.int k (k.wrap (a * 2 ^ min b.toNat k.bits))) := by unfold Op.shift; rw [if_neg (by omega)]
    unfold execOp; dsimp only; rw [h1, h2]
    have e2 : (do eqGuard BinOp.shl t x y (Value.int k a) (Value.int yk b); binOp BinOp.shl t (Value.int k a) (Value.int yk b)) = Op.shift .shl k a yk b := by cases k <;> cases yk <;> rfl
    rw [e2, e]; rfl
theorem q_shr {k yk : IntKind} {a b : Int} (hx : ev s.env x = some (true, .int k a)) (hy : ev s.env y = some (true, .int yk b)) (hb : 0 ≤ b) : Quiet P n ⟨d, .binOp .shr t x y t', ty, pos, af, gd⟩ s (.int k (a.fdiv (2 ^ min b.toNat k.bits))) :=
  .run2 hx hy fun ρ w h1 h2 => by
    have e : Op.shift .shr k a yk b = pure (.int k (a.fdiv (2 ^ min b.toNat k.bits))) := by unfold Op.shift; rw [if_neg (by omega)]
    unfold execOp; dsimp only; rw [h1, h2]
    have e2 : (do eqGuard BinOp.shr t x y (Value.int k a) (Value.int yk b); binOp BinOp.shr t (Value.int k a) (Value.int yk b)) = Op.shift .shr k a yk b := by cases k <;> cases yk <;> rfl
    rw [e2, e]; rfl
theorem q_orB {k : IntKind} {a b : Int} (hx : ev s.env x = some (true, .int k a)) (hy : ev s.env y = some (true, .int k b)) : Quiet P n ⟨d, .binOp .or t x y t', ty, pos, af, gd⟩ s (.int k (k.wrap (BitVec.ofInt k.bits a ||| BitVec.ofInt k.bits b).toNat)) :=
  .run2 hx hy fun ρ w h1 h2 => by
    unfold execOp; dsimp only; rw [h1, h2]; cases k <;> rfl
theorem q_andB {k : IntKind} {a b : Int} (hx : ev s.env x = some (true, .int k a)) (hy : ev s.env y = some (true, .int k b)) : Quiet P n ⟨d, .binOp .and t x y t', ty, pos, af, gd⟩ s (.int k (k.wrap (BitVec.ofInt k.bits a &&& BitVec.ofInt k.bits b).toNat)) :=
  .run2 hx hy fun ρ w h1 h2 => by
    unfold execOp; dsimp only; rw [h1, h2]; cases k <;> rfl
end
end Go.Sy
namespace Go.Sy
open Go.RowKit
def isIntB (P : Program) (t : TypeId) : Bool := match P.underlying t with
  | some (.int _) => true
  | _ => false
def intAt (xs : Array Value) (o : Nat) : Option Int := match xs[o]? with
  | some (.int .i64 a) => some a
  | _ => none
def eqInts (xs ys : Array Value) (l : List Nat) : Bool := l.all fun o => match intAt xs o, intAt ys o with
  | some a, some b => a == b
  | _, _ => true
def allInts (xs : Array Value) (l : List Nat) : Bool := l.all fun o => (intAt xs o).isSome
theorem eqFields_ints {P : Program} (d : Nat) (xs ys : Array Value) : ∀ (fs : List Field) (w : World), fs.all (fun f => decide (f.name ≠ "_") && isIntB P f.type) = true → allInts xs (fs.map (·.offset)) = true → allInts ys (fs.map (·.offset)) = true →
    (Op.eqFields (d + 1) xs ys fs).run P w = .ok (eqInts xs ys (fs.map (·.offset))) w
  | [], w, _, _, _ => rfl
  | f :: fs, w, h, hx, hy => by
    simp only [List.all_cons, Bool.and_eq_true, decide_eq_true_eq] at h
    obtain ⟨⟨h1, h2⟩, h3⟩ := h
    simp only [allInts, List.map_cons, List.all_cons, Bool.and_eq_true] at hx hy
    have ih := eqFields_ints d xs ys fs w h3 hx.2 hy.2
    obtain ⟨k, hk⟩ : ∃ k, P.underlying f.type = some (.int k) := by
      unfold isIntB at h2; split at h2
      · exact ⟨_, by assumption⟩
      · cases h2
    have hp : P.plainKey f.type = true := by unfold Program.plainKey; rw [hk]
    have key : ∀ zs : Array Value, (intAt zs f.offset).isSome = true → ∃ a, zs[f.offset]? = some (.int .i64 a) ∧ intAt zs f.offset = some a := fun zs hz => by
      unfold intAt at hz ⊢
      split at hz
      · rename_i a hh; exact ⟨a, hh, rfl⟩
      · cases hz
    obtain ⟨a, ha, ha'⟩ := key xs hx.1
    obtain ⟨b, hb, hb'⟩ := key ys hy.1
    simp only [Op.eqFields, if_pos h1, Sem.run_bind, run_part_plain w hp ha, run_part_plain w hp hb, Result.andThen_ok, run_equalIn_int w d f.type .i64 k a b hk, Sem.run_ite, Sem.run_pure, ih]
    simp only [eqInts, List.map_cons, List.all_cons, ha', hb']
    cases h : (a == b) <;> simp
end Go.Sy
namespace Go.Proofs.Ytnbochlghdkfkaa
open Go.RowKit Go.Lp Go.Sy
open Go.Proofs.Try
attribute [local irreducible] aL aB awp aC fwp
/-- the number of sections of the first objects -/
def cntF (os : List GObject) : Nat → Nat
  | 0 => 0
  | k + 1 => cntF os k + (elt os (k : Int)).secs.l.length
def firstsF (os : List GObject) (k : Nat) : List Int := (List.range k).map fun i : Nat => (cntF os i : Int)
theorem firsts_len (os : List GObject) (k : Nat) : (firstsF os k).length = k := by simp [firstsF]
theorem firsts_succ (os : List GObject) (k : Nat) : firstsF os (k + 1) = firstsF os k ++ [(cntF os k : Int)] := by simp [firstsF, List.range_succ]
abbrev lkF (x : GLink) (ad : Option Addr) (cap : Nat) (k : Nat) : GLink := ⟨x.r, x.objs, x.keep, x.choices, ⟨ad, cap, firstsF x.objs.l k⟩, (cntF x.objs.l k : Int)⟩
theorem GLink.ok_first {x : GLink} {f : Sl Int} {c : Int} {w : World} {S : Blks} (h : x.ok.holds w S) (hf : (ShF (fun z => [.v (.int .i64 z)]) f).holds w S) : (GLink.ok ⟨x.r, x.objs, x.keep, x.choices, f, c⟩).holds w S :=
  ⟨h.1, h.2.1, h.2.2.1, h.2.2.2.1, h.2.2.2.2.1, h.2.2.2.2.2.1, h.2.2.2.2.2.2.1, hf⟩
theorem cnt_le {os : List GObject} (hf : ∀ o ∈ os, o.secs.l.length ≤ 6) : ∀ k, k ≤ os.length → cntF os k ≤ 6 * k
  | 0, _ => Nat.le_refl _
  | k + 1, h => by
    have ih := cnt_le hf k (by omega)
    have := hf _ (List.mem_of_getElem? (elt_nat (l := os) (i := k) h))
    unfold cntF; omega
theorem con_open (x : GLink) (hn : x.objs.l.length ≤ 4) (hs : ∀ o ∈ x.objs.l, o.secs.l.length ≤ 6) : Con Try.prog 20 [x.r.val, x.objs.val, x.keep.val, x.choices.val] [x.ok] []
    fun r ps hp => hp = [] ∧ ∃ lb ad cap, r = .pointer (some ⟨lb, 0, none⟩) ∧ ps = [At lb 0 (lkF x ad cap x.objs.l.length).row, (lkF x ad cap x.objs.l.length).ok] := by
  refine Con.enter Try.func20 rfl (by simp [Try.ntmps20]) ?_
  show awp _ _ _ _ ⟨[(0, true, _), (1, true, _), (2, true, _), (3, true, _)], _, _⟩
  refine awp_seq (awp_region ?_)
  refine aL_eff (q := true) rfl (x_box rfl rfl rfl (fun b0_0 => ?_))
  refine aL_hp (by (try simp only [nM, nN]); rfl) ?_
  refine aL_s true rfl rfl (fun _ => q_assign rfl) (aL_nil (thn_n (awp_seq (awp_region (aL_s true rfl rfl (fun _ => q_load 0 tk25 rfl rfl rfl) (aL_s true rfl rfl (fun _ => q_move rfl) (aL_s true rfl rfl (fun _ => q_move rfl) ?_)))))))
  refine aL_s true rfl rfl (fun _ => q_move rfl) ?_
  refine aL_s true rfl rfl (fun _ => q_bld (l := [(0, .tmp 12), (1, .tmp 13), (2, .tmp 14), (3, .tmp 15)]) (zs := [.string .empty, .bool false, .slice none 0 0, .slice none 0 0, .string .empty, .int .i64 0, .slice none 0 0, .slice none 0 0, .slice none 0 0, .slice none 0 0, .slice none 0 0, .int .i64 0]) (pl := [(0, 7), (7, 1), (8, 1), (9, 1), (10, 1), (11, 1)]) (by kernel_rfl) (by kernel_rfl) (by kernel_rfl) rfl rfl rfl) ?_
  refine aL_eff (q := true) rfl (x_box rfl rfl rfl (fun b1_5 => ?_))
  refine aL_hp (by (try simp only [nM, nN]); rfl) ?_
  refine aL_s true rfl rfl (fun _ => q_assign rfl) (aL_nil (thn_n (awp_seq (awp_seq (awp_nil 3 1 ?_)))))
  show awp _ _ _ _ ⟨_, _, [_, _, _]⟩
  refine awp_region (aL_s true rfl rfl (fun _ => q_move rfl) (aL_s true rfl rfl (fun _ => q_lenS Try.underlying26 rfl) (aL_s true rfl rfl (fun _ => q_move rfl) (aL_nil (thn_n (awp_block (awp_loopK [9, 18, 19, 20] [0] [1, 2] (fun (p : Nat × Option Addr × Nat) s => p.1 ≤ x.objs.l.length ∧ s = ⟨[(9, true, .pointer (some ⟨b1_5, 0, none⟩)), (18, true, x.objs.val), (19, true, .int .i64 x.objs.l.length), (20, true, .int .i64 p.1)], [x.ok], [Box b1_5 79 (lkF x p.2.1 p.2.2 p.1).vs, OwnS (.slice p.2.1 (firstsF x.objs.l p.1).length p.2.2) 3 1 (encR encI (firstsF x.objs.l p.1))]⟩) (fun p => x.objs.l.length - p.1) rfl (⟨(0, none, 0), Nat.zero_le _, rfl⟩) ?_)))))))
  rintro ⟨k, ad, cap⟩ s ⟨hk, rfl⟩
  dsimp only at hk
  refine awp_seq (awp_region (aL_s true rfl rfl (fun _ => q_lss rfl rfl) (aL_nil (thn_n (awp_seq ?_)))))
  refine awp_cond _ rfl (fun h1 => ?_) (fun h1 => ?_)
  ·skip
   have hk' : k < x.objs.l.length := by simpa using h1
   have ho := elt_nat hk'
   have hcnt := cnt_le hs k hk
   have hos := hs _ (List.mem_of_getElem? ho)
   refine awp_skip (thn_n (awp_seq (awp_block (awp_seq (awp_region ?_)))))
   refine aL_E true rfl rfl (fun _ => q_indexAddrG Try.underlying26 tk53 rfl ((GLink.f_objs (.of (psAt 0 rfl)))) rfl (rows_get ho) rfl rfl) (fun h => absurd h (by decide)) (fun ⟨b4_0, o4_0⟩ => ?_)
   refine aL_s true rfl rfl (fun _ => q_loadD (o := 0) tk53 rfl (psAt 0 rfl) rfl rfl) ?_
   refine aL_eff (q := true) rfl (x_alloc (zs := [.string .empty, .slice none 0 0, .slice none 0 0, .slice none 0 0, .slice none 0 0, .slice none 0 0, .slice none 0 0, .slice none 0 0, .slice none 0 0, .slice none 0 0, .slice none 0 0]) (by kernel_rfl) rfl (fun b4_2 => ?_))
   refine aL_hp (by (try simp only [nM, nN]); rfl) ?_
   refine aL_eff rfl (x_store 2 tk53 rfl rfl rfl rfl ?_)
   refine aL_hp (by simp only [nK, nL]; rfl) ?_
   refine aL_nil (thn_n (awp_seq ?_))
   refine awp_drawnC [10, 13] [13] [b1_5, b4_2] (by kernel_rfl) ?_
   show aC _ _ _ _ _ _ _ 14 #[false, false, false, false, false, false, false, false, false, false, false, false, false, false] _
   refine aC_f 0 rfl (by kernel_rfl) true rfl rfl (fun _ => q_move rfl) ?_
   refine aC_f 1 rfl (by kernel_rfl) true rfl rfl (fun _ => q_move rfl) ?_
   refine aC_f 2 rfl (by kernel_rfl) true rfl rfl (fun _ => q_nilCheck rfl) ?_
   refine aC_f 3 rfl (by kernel_rfl) true rfl rfl (fun _ => q_fieldAddr (off := 10) (by kernel_rfl) rfl) ?_
   refine aC_box 4 0 rfl (by kernel_rfl) true rfl rfl (by simp) tk37 (fun _ => rfl) rfl rfl ?_
   refine aC_f 5 rfl (by kernel_rfl) true rfl rfl (fun _ => q_move rfl) ?_
   refine aC_f 6 rfl (by kernel_rfl) true rfl rfl (fun _ => q_nilCheck rfl) ?_
   refine aC_f 7 rfl (by kernel_rfl) true rfl rfl (fun _ => q_fieldAddr (off := 11) (by kernel_rfl) rfl) ?_
   refine aC_box 8 0 rfl (by kernel_rfl) true rfl rfl (by simp) tk3 (fun _ => rfl) rfl rfl ?_
   refine aC_arms 9 [] (by kernel_rfl) (arms_cons ?_ arms_nil)
   refine aC_arm 9 rfl rfl (Eff.x ?_)
   refine id (w_lit (zs := [.int .i64 0]) (l := [(0, .tmp 32)]) el37 (by kernel_rfl) (by decide) (by decide) (by decide) rfl rfl rfl (.more rfl (.v rfl .nil) .nil) rfl rfl (fun v5_9 => ?_))
   refine aC_st (by (try simp only [nO, nK, nL]); rfl) (by (try simp only [nM, nN]); rfl) (by (try simp only [keepH, nQ, nR, putB, place, Nat.reduceBEq, nA, if_true, if_false, reduceIte, nB, nC, nD, nE, nF, nG, nH, nI, Nat.reduceAdd, nJ, beq_self_eq_true, nK, nL, nM, nN]); rfl) ?_
   refine aC_arms 10 [] (by kernel_rfl) (arms_cons ?_ arms_nil)
   refine aC_arm 10 rfl rfl (Eff.framed (q := false) [1, 3] rfl rfl (zcons 0 rfl rfl (zcons 2 rfl rfl znil)) ?_)
   refine id (w_append 0 el37 rfl rfl rfl rfl (w_srcO 1 el37 rfl (by simp)) (by first | assumption | simp) (by rw [encR_len, firsts_len]; simp; omega) ((firstsF x.objs.l (k + 1)).length) (by rw [encR_len, firsts_len, firsts_len]; rfl) (fun v5_10 c5_10 => ?_))
   refine fr_mk ?_
   refine aC_st (by (try simp only [nO, nK, nL]); rfl) (by (try simp only [nM, nN]); rfl) (by (try simp only [keepH, nQ, nR, putB, place, Nat.reduceBEq, nA, if_true, if_false, reduceIte, nB, nC, nD, nE, nF, nG, nH, nI, Nat.reduceAdd, nJ, beq_self_eq_true, nK, nL, nM, nN]); rfl) ?_
   refine aC_f 11 rfl (by kernel_rfl) true rfl rfl (fun _ => q_nilCheck rfl) ?_
   refine aC_f 12 rfl (by kernel_rfl) true rfl rfl (fun _ => q_fieldAddr (off := 10) (by kernel_rfl) rfl) ?_
   refine aC_arms 13 [] (by kernel_rfl) (arms_cons ?_ arms_nil)
   refine aC_arm 13 rfl rfl (Eff.wild (q := false) ?_)
   refine id (x_store 0 tk37 rfl rfl rfl rfl ?_)
   refine aC_st (by (try simp only [nO, nK, nL]); rfl) (by (try simp only [nM, nN]); rfl) (by (try simp only [keepH, nQ, nR, putB, place, Nat.reduceBEq, nA, if_true, if_false, reduceIte, nB, nC, nD, nE, nF, nG, nH, nI, Nat.reduceAdd, nJ, beq_self_eq_true, nK, nL, nM, nN]); rfl) ?_
   refine aC_nil (by kernel_rfl) ?_
   refine thn_n ?_
   refine awp_drawnC [10] [10] [b1_5, b4_2] (by kernel_rfl) ?_
   show aC _ _ _ _ _ _ _ 11 #[false, false, false, false, false, false, false, false, false, false, false] _
   refine aC_f 0 rfl (by kernel_rfl) true rfl rfl (fun _ => q_move rfl) ?_
   refine aC_f 1 rfl (by kernel_rfl) true rfl rfl (fun _ => q_nilCheck rfl) ?_
   refine aC_f 2 rfl (by kernel_rfl) true rfl rfl (fun _ => q_fieldAddr (off := 11) (by kernel_rfl) rfl) ?_
   refine aC_box 3 0 rfl (by kernel_rfl) true rfl rfl (by simp) tk3 (fun _ => rfl) rfl rfl ?_
   refine aC_f 4 rfl (by kernel_rfl) true rfl rfl (fun _ => q_fieldAddr (off := 1) (by kernel_rfl) rfl) ?_
   refine aC_box 5 2 rfl (by kernel_rfl) true rfl rfl (by simp) tk42 (fun _ => rfl) rfl rfl ?_
   refine aC_f 6 rfl (by kernel_rfl) true rfl rfl (fun _ => q_lenS Try.underlying42 rfl) ?_
   refine aC_f 7 rfl (by kernel_rfl) true rfl rfl (fun _ => q_addi rfl rfl (by omega)) ?_
   refine aC_f 8 rfl (by kernel_rfl) true rfl rfl (fun _ => q_nilCheck rfl) ?_
   refine aC_f 9 rfl (by kernel_rfl) true rfl rfl (fun _ => q_fieldAddr (off := 11) (by kernel_rfl) rfl) ?_
   refine aC_arms 10 [] (by kernel_rfl) (arms_cons ?_ arms_nil)
   refine aC_arm 10 rfl rfl (Eff.wild (q := false) ?_)
   refine id (x_store 0 tk3 rfl rfl rfl rfl ?_)
   refine aC_st (by (try simp only [nO, nK, nL]); rfl) (by (try simp only [nM, nN]); rfl) (by (try simp only [keepH, nQ, nR, putB, place, Nat.reduceBEq, nA, if_true, if_false, reduceIte, nB, nC, nD, nE, nF, nG, nH, nI, Nat.reduceAdd, nJ, beq_self_eq_true, nK, nL, nM, nN]); rfl) ?_
   refine aC_nil (by kernel_rfl) ?_
   refine blk_n (thn_n (awp_region ?_))
   refine aL_s true rfl rfl (fun _ => q_addi rfl rfl (by omega)) ?_
   refine aL_s true rfl rfl (fun _ => q_move rfl) (aL_nil (thn_n ?_))
   refine ⟨[9, 18, 19, 20], [0], [0, 1], rfl, ?_⟩
   refine ⟨(k + 1, v5_10, c5_10), ⟨by dsimp only; omega, ?_⟩, by dsimp only; omega⟩
   dsimp only
   rw [show encR encI (firstsF x.objs.l (k + 1)) = encR encI (firstsF x.objs.l k) ++ [[.v (encI (cntF x.objs.l k : Int))]] by simp [encR, firsts_succ]]
   rfl
  ·skip
   have hkn : k = x.objs.l.length := by simp at h1; omega
   subst hkn
   dsimp only
   refine awp_exit (thn_e (thn_e (blk_hit (thn_n (awp_seq (awp_share 1 rfl (awp_fact (lkF x ad cap x.objs.l.length).ok (fun w S hps => GLink.ok_first (hps _ (List.mem_cons_of_mem _ List.mem_cons_self)) (hps _ List.mem_cons_self)) ?_)))))))
   refine awp_shareB 0 rfl rfl (awp_region (aL_s true rfl rfl (fun _ => q_move rfl) (aL_s true rfl rfl (fun _ => q_assign rfl) (aL_nil (thn_n (awp_ret ?_))))))
   refine fin1 [3, 2] [] rfl Try.results20 rfl ?_ (.inr rfl)
   exact ⟨rfl, b1_5, ad, cap, rfl, rfl⟩
end Go.Proofs.Ytnbochlghdkfkaa
namespace Go.Sy
open Go.RowKit Go.Lp
section
variable {P : Program} {n : Fr} {s : Sta} {d : Option Tmp} {ty : TypeId} {pos : String} {af : Array Edge} {gd : Option (Nat × Bool)} {x y1 y2 y3 : Operand}
theorem q_slice3S {R : World → World → Prop} {T E : TypeId} {sz nn c : Nat} {ad : Option Addr} {rows : List (List D)} {k1 k2 k3 : IntKind} {z1 z2 z3 : Int} (lo m : Nat) (hel : elB P T E sz = true) (hx : ev s.env x = some (true, .slice ad nn c)) (hs : Sh (.slice ad nn c) (.sl rows) ∈ s.ps)
    (hy1 : ev s.env y1 = some (true, .int k1 z1)) (hy2 : ev s.env y2 = some (true, .int k2 z2)) (hy3 : ev s.env y3 = some (true, .int k3 z3)) (e1 : z1 = (lo : Int)) (e2 : z2 = ((lo + m : Nat) : Int)) (e3 : z3 = ((lo + m : Nat) : Int)) (hk : lo + m ≤ rows.length) (hrl : ∀ r ∈ rows, r.length = sz) :
    QuietR (β := Option Addr × Nat) P R n ⟨d, .slice T x (some y1) (some y2) (some y3), ty, pos, af, gd⟩ s (fun p => .slice p.1 m p.2) (fun p => [Sh (.slice p.1 m p.2) (.sl ((rows.drop lo).take m))]) := fun w S fp a hst he hn => by
  have h1 := he.val hx rfl
  subst e1; subst e2; subst e3
  have h2 := he.val hy1 rfl
  have h3 := he.val hy2 rfl
  have h4 := he.val hy3 rfl
  obtain ⟨hT, it, hi, _, hsz, _⟩ := elB_spec hel
  have hrep := hst.per _ hs
  have hc : rows.length ≤ c ∧ c ≤ maxLen := by
    cases hrep with
    | e a c hc => exact ⟨Nat.zero_le _, hc⟩
    | sl b o _ sz' _ us hb hn' hc hrl hcell hd => exact ⟨hn', hc⟩
  have hE : P.elem T = E := by unfold Program.elem; rw [hT]
  have hrun : ∀ w1, (execOp a.eval ⟨d, .slice T x (some y1) (some y2) (some y3), ty, pos, af, gd⟩).run P w1 = .ok (.value (sliced ad lo (lo + m) (lo + m) sz)) w1 := fun w1 => by
    unfold execOp; dsimp only; simp only [Option.map_some]; rw [h1, h2, h3, h4]
    show ((Instr.sliceAt T (.slice ad nn c) (some (.int k1 lo)) (some (.int k2 ((lo + m : Nat) : Int))) (some (.int k3 ((lo + m : Nat) : Int)))).bind fun r => Sem.pure (Next.value r)).run P w1 = _
    have hT' : P.underlying T = some (.slice (P.elem T)) := by rw [hT, hE]
    rw [Sem.run_bind', run_sliceAt_slice w1 T _ _ _ _ hT', run_slice_lhm w1 T ad nn c hT' k1 k2 k3 _ _ _ (by omega) (by omega) (by omega) (by omega), hE, run_sizeOf' hi, hsz]
    rfl
  have hval : sliced ad lo (lo + m) (lo + m) sz = .slice (if m = 0 then ad else ad.map (·.add (lo * sz))) m m := by
    unfold sliced
    rw [Nat.add_sub_cancel_left]
    by_cases h : m = 0
    · rw [if_pos (by omega), if_pos h]
    · rw [if_neg (by omega), if_neg h]
  refine ⟨(if m = 0 then ad else ad.map (·.add (lo * sz)), m), fun w1 _ => by rw [hrun, hval]; exact uponQ_ok _ _, fun p hp => ?_⟩
  simp only [List.mem_singleton] at hp
  subst hp
  show RepD w S (.slice (if m = 0 then ad else ad.map (·.add (lo * sz))) m m) (.sl ((rows.drop lo).take m))
  by_cases hm : m = 0
  · subst hm; rw [List.take_zero]; exact .e _ _ (by unfold maxLen; omega)
  · cases hrep with
    | e a c hc => simp at hk; omega
    | sl b o c sz' _ us hb hn' hc hrl' hcell hd =>
      have hsz' : sz' = sz := by
        obtain ⟨r, hr⟩ : ∃ r, rows[0]? = some r := ⟨_, List.getElem?_eq_getElem (by omega)⟩
        rw [← hrl' 0 r hr]; exact hrl r (List.mem_of_getElem? hr)
      subst hsz'
      have hlen : ((rows.drop lo).take m).length = m := by rw [List.length_take, List.length_drop]; omega
      have hget : ∀ (i : Nat) (r : List D), ((rows.drop lo).take m)[i]? = some r → rows[lo + i]? = some r := fun i r h => by
        rw [List.getElem?_take] at h
        split at h
        · rwa [List.getElem?_drop] at h
        · cases h
      rw [if_neg hm, Option.map_some, add_at]
      have := RepD.sl (w := w) (S := S) b (o + lo * sz') m sz' ((rows.drop lo).take m) (fun i j => us (lo + i) j) hb (by rw [hlen]; exact Nat.le_refl _) (by omega) (fun i r h => hrl' (lo + i) r (hget i r h)) (fun i j r d h1 h2 => ?_) (fun i j r d h1 h2 => hd (lo + i) j r d (hget i r h1) h2)
      · rwa [hlen] at this
      · have := hcell (lo + i) j r d (hget i r h1) h2
        rwa [Nat.add_mul, ← Nat.add_assoc] at this
end
end Go.Sy
namespace Go.Sy
open Go.RowKit Go.Lp
/-- a fact on blocks of its own -/
def PrivR (p : Per) : Res := ⟨fun w _ F => p.holds w F, fun h h1 _ _ => p.mono h h1 (fun _ h => h)⟩
/-- nothing shared is needed -/
def Indep (R : Res) : Prop := ∀ w S S' F, R.holds w S F → R.holds w S' F
theorem indep_priv (p : Per) : Indep (PrivR p) := fun _ _ _ _ h => h
theorem indep_own {v : Value} {E : TypeId} {sz : Nat} {rows : List (List D)} (hr : ∀ r ∈ rows, ∀ d ∈ r, ∃ u, d = D.v u) : Indep (OwnS v E sz rows) := fun w S S' F h => by
  rcases h with ⟨h1, h2, h3⟩ | ⟨b, cap, h1, ⟨cs, sp, hb, ha, hl, hle, hc⟩, hF⟩
  · exact .inl ⟨h1, h2, h3⟩
  · refine .inr ⟨b, cap, h1, ⟨cs, sp, hb, ⟨ha.len, ha.row, ha.one, fun i j r d h1 h2 => ?_⟩, hl, hle, hc⟩, hF⟩
    obtain ⟨u, hu, hd⟩ := ha.rep i j r d h1 h2
    obtain ⟨u', rfl⟩ := hr r (List.mem_of_getElem? h1) d (List.mem_of_getElem? h2)
    refine ⟨u, hu, ?_⟩
    cases hd; exact .v _
theorem indep_star {A B : Res} (hA : Indep A) (hB : Indep B) : Indep (Star A B) := fun w S S' F ⟨G, H, h1, h2, h3, h4⟩ => ⟨G, H, hA w S S' G h1, hB w S S' H h2, h3, h4⟩
/-- a call that is lent what it only reads -/
theorem Con.borrow {P : Program} {f : FuncId} {args : List Value} {ps : List Per} {p : Per} {B : Res} {R : Value → List Per → List Res → Prop} (h : Con P f args (p :: ps) [] R)
    (hB : ∀ w S F, B.holds w S F → p.holds w (fun b => S b ∨ F b)) (hR : ∀ v ps' hp', R v ps' hp' → ∀ r ∈ hp', Indep r) :
    Con P f args ps [B] (fun v ps' hp' => ps' = [] ∧ ∃ ps2 hp2, R v ps2 hp2 ∧ hp' = B :: hp2) := fun w S fp hst => by
  have hS : ∀ b, S b → (S b ∨ fp 0 b) := fun _ h => .inl h
  have hb0 := hst.res 0 B rfl
  have h2 : St w (fun b => S b ∨ fp 0 b) (fun _ _ => False) (p :: ps) [] := ⟨fun q hq => by
      rcases List.mem_cons.1 hq with rfl | hq
      · exact hB w S (fp 0) hb0
      · exact q.mono (hst.per q hq) (fun _ _ => rfl) hS, fun i R hi => by simp at hi, fun i hi => by simp at hi, fun i j hi => by simp at hi, fun b hb => hb.elim (hst.slt b) fun h => (hst.lt 0 (by simp) b h).1⟩
  have h0 : ∀ b, ¬ tot (fun _ _ => False) ([] : List Res).length b := fun b ⟨j, hj, _⟩ => by simp at hj
  refine (h w _ _ h2).mono fun e w' ⟨v, ps', hp', S', fp', he, hR', hst', hE, hb⟩ => ?_
  have hFlt : ∀ b, fp 0 b → b < w.heap.size ∧ ¬ S b := hst.lt 0 (by simp)
  have hsame : ∀ b, b < w.heap.size → w'.heap[b]? = w.heap[b]? := fun b hb' => hE.block b hb' (h0 b)
  refine ⟨v, [], B :: hp', fun b => S' b ∧ ¬ fp 0 b, fun i => match i with | 0 => fp 0 | i + 1 => fp' i, he, ⟨rfl, ps', hp', hR', rfl⟩, ⟨fun q hq => (by cases hq), fun i R hi => ?_, fun i hi b hbi => ?_, fun i j hi hj hne b hbi hbj => ?_, fun b hb' => hst'.slt b hb'.1⟩, ⟨hE.os, hE.tape, hE.output, hE.size, fun b hb' _ => hsame b hb', fun b hb' => ⟨hE.more b (.inl hb'), fun hf => (hFlt b hf).2 hb'⟩, fun b hb' => ?_⟩, fun b ⟨i, hi, hbi⟩ => ?_⟩
  · cases i with
    | zero =>
      simp only [List.getElem?_cons_zero, Option.some.injEq] at hi
      subst hi
      exact B.mono hb0 (fun b hb' => hsame b (hFlt b hb').1) (fun b hb' => hsame b (hst.slt b hb')) (fun b hb' => ⟨hE.more b (.inl hb'), fun hf => (hFlt b hf).2 hb'⟩)
    | succ i =>
      rw [List.getElem?_cons_succ] at hi
      exact hR v ps' hp' hR' R (List.mem_of_getElem? hi) _ _ _ _ (hst'.res i R hi)
  · cases i with
    | zero => exact ⟨Nat.lt_of_lt_of_le (hFlt b hbi).1 hE.size, fun h => h.2 hbi⟩
    | succ i =>
      have := hst'.lt i (by simpa using hi) b hbi
      exact ⟨this.1, fun h => this.2 h.1⟩
  · cases i with
    | zero => cases j with
      | zero => exact hne rfl
      | succ j => exact (hst'.lt j (by simpa using hj) b hbj).2 (hE.more b (.inr hbi))
    | succ i => cases j with
      | zero => exact (hst'.lt i (by simpa using hi) b hbi).2 (hE.more b (.inr hbj))
      | succ j => exact hst'.dj i j (by simpa using hi) (by simpa using hj) (fun h => hne (by rw [h])) b hbi hbj
  · rcases hE.new b hb'.1 with (h | h) | h | h
    · exact .inl h
    · exact (hb'.2 h).elim
    · exact (h0 b h).elim
    · exact .inr (.inr h)
  · cases i with
    | zero => exact .inl ⟨0, by simp, hbi⟩
    | succ i => exact (hb b ⟨i, by simpa using hi, hbi⟩).elim (fun h => (h0 b h).elim) .inr
/-- a window of data -/
theorem rep_win {w : World} {S : Blks} {ad : Option Addr} {nn c sz : Nat} {rows : List (List D)} (hrep : RepD w S (.slice ad nn c) (.sl rows)) (lo m : Nat) (hk : lo + m ≤ rows.length) (hrl : ∀ r ∈ rows, r.length = sz) :
    RepD w S (.slice (if m = 0 then ad else ad.map (·.add (lo * sz))) m m) (.sl ((rows.drop lo).take m)) := by
  by_cases hm : m = 0
  · subst hm; rw [List.take_zero]; exact .e _ _ (by unfold maxLen; omega)
  · cases hrep with
    | e a c hc => simp at hk; omega
    | sl b o c sz' _ us hb hn' hc hrl' hcell hd =>
      have hsz' : sz' = sz := by
        obtain ⟨r, hr⟩ : ∃ r, rows[0]? = some r := ⟨_, List.getElem?_eq_getElem (by omega)⟩
        rw [← hrl' 0 r hr]; exact hrl r (List.mem_of_getElem? hr)
      subst hsz'
      have hlen : ((rows.drop lo).take m).length = m := by rw [List.length_take, List.length_drop]; omega
      have hget : ∀ (i : Nat) (r : List D), ((rows.drop lo).take m)[i]? = some r → rows[lo + i]? = some r := fun i r h => by
        rw [List.getElem?_take] at h
        split at h
        · rwa [List.getElem?_drop] at h
        · cases h
      rw [if_neg hm, Option.map_some, add_at]
      have := RepD.sl (w := w) (S := S) b (o + lo * sz') m sz' ((rows.drop lo).take m) (fun i j => us (lo + i) j) hb (by rw [hlen]; exact Nat.le_refl _) (by omega) (fun i r h => hrl' (lo + i) r (hget i r h)) (fun i j r d h1 h2 => ?_) (fun i j r d h1 h2 => hd (lo + i) j r d (hget i r h1) h2)
      · rwa [hlen] at this
      · have := hcell (lo + i) j r d (hget i r h1) h2
        rwa [Nat.add_mul, ← Nat.add_assoc] at this
section
variable {P : Program} {n : Fr} {s : Sta} {d : Option Tmp} {ty : TypeId} {pos : String} {af : Array Edge} {gd : Option (Nat × Bool)} {x y1 y2 y3 : Operand}
theorem q_slice3V {T E : TypeId} {sz nn c : Nat} {ad : Option Addr} {k1 k2 k3 : IntKind} {z1 z2 z3 : Int} (lo m : Nat) (hel : elB P T E sz = true) (hx : ev s.env x = some (true, .slice ad nn c))
    (hy1 : ev s.env y1 = some (true, .int k1 z1)) (hy2 : ev s.env y2 = some (true, .int k2 z2)) (hy3 : ev s.env y3 = some (true, .int k3 z3)) (e1 : z1 = (lo : Int)) (e2 : z2 = ((lo + m : Nat) : Int)) (e3 : z3 = ((lo + m : Nat) : Int)) (hk : lo + m ≤ c) :
    Quiet P n ⟨d, .slice T x (some y1) (some y2) (some y3), ty, pos, af, gd⟩ s (.slice (if m = 0 then ad else ad.map (·.add (lo * sz))) m m) := fun w S fp a hst he hn => by
  have h1 := he.val hx rfl
  subst e1; subst e2; subst e3
  have h2 := he.val hy1 rfl
  have h3 := he.val hy2 rfl
  have h4 := he.val hy3 rfl
  obtain ⟨hT, it, hi, _, hsz, _⟩ := elB_spec hel
  have hE : P.elem T = E := by unfold Program.elem; rw [hT]
  have hrun : ∀ w1, (execOp a.eval ⟨d, .slice T x (some y1) (some y2) (some y3), ty, pos, af, gd⟩).run P w1 = .ok (.value (sliced ad lo (lo + m) (lo + m) sz)) w1 := fun w1 => by
    unfold execOp; dsimp only; simp only [Option.map_some]; rw [h1, h2, h3, h4]
    show ((Instr.sliceAt T (.slice ad nn c) (some (.int k1 lo)) (some (.int k2 ((lo + m : Nat) : Int))) (some (.int k3 ((lo + m : Nat) : Int)))).bind fun r => Sem.pure (Next.value r)).run P w1 = _
    have hT' : P.underlying T = some (.slice (P.elem T)) := by rw [hT, hE]
    rw [Sem.run_bind', run_sliceAt_slice w1 T _ _ _ _ hT', run_slice_lhm w1 T ad nn c hT' k1 k2 k3 _ _ _ (by omega) (by omega) (by omega) (by omega), hE, run_sizeOf' hi, hsz]
    rfl
  have hval : sliced ad lo (lo + m) (lo + m) sz = .slice (if m = 0 then ad else ad.map (·.add (lo * sz))) m m := by
    unfold sliced
    rw [Nat.add_sub_cancel_left]
    by_cases h : m = 0
    · rw [if_pos (by omega), if_pos h]
    · rw [if_neg (by omega), if_neg h]
  rw [hrun, hval]; exact uponQ_ok _ _
end
end Go.Sy
namespace Go.Proofs.Ytnbochlghdkfkaa
open Go.RowKit Go.Lp Go.Sy Go.Lv
open Go.Proofs.Try
attribute [local irreducible] aL aB awp aC fwp
theorem cnt_mono (os : List GObject) : ∀ {i j : Nat}, i ≤ j → cntF os i ≤ cntF os j
  | i, 0, h => by obtain rfl : i = 0 := by omega
                  exact Nat.le_refl _
  | i, j + 1, h => by
    by_cases hij : i = j + 1
    · rw [hij]; exact Nat.le_refl _
    · have := cnt_mono os (i := i) (j := j) (by omega)
      show _ ≤ cntF os j + _
      omega
theorem firsts_elt (os : List GObject) {n : Nat} {o : Int} (h0 : 0 ≤ o) (h1 : o < n) : elt (firstsF os n) o = (cntF os o.toNat : Int) := by
  unfold elt firstsF
  rw [List.getD_eq_getElem?_getD, List.getElem?_map, List.getElem?_range (by omega)]; rfl
/-- the number of a section -/
def numF (os : List GObject) (o s : Int) : Int := (cntF os o.toNat : Int) + s
theorem num_lt {os : List GObject} {kp : List (Sl Bool)} {o s : Int} (h : keptF os kp o s = true) : 0 ≤ numF os o s ∧ numF os o s < (cntF os os.length : Int) := by
  obtain ⟨ho, hs, _⟩ := keptF_iff h
  have h1 : cntF os (o.toNat + 1) ≤ cntF os os.length := cnt_mono os (by omega)
  have h2 : cntF os (o.toNat + 1) = cntF os o.toNat + (elt os ((o.toNat : Nat) : Int)).secs.l.length := rfl
  rw [Int.toNat_of_nonneg ho.1] at h2
  unfold numF; omega
section
variable {x : GLink} {ad : Option Addr} {cap : Nat}
theorem lk_first {o s : Int} (h : keptF x.objs.l x.keep.l o s = true) : elt (firstsF x.objs.l x.objs.l.length) o + s = numF x.objs.l o s := by
  obtain ⟨ho, _⟩ := keptF_iff h
  rw [firsts_elt _ ho.1 ho.2]; rfl
theorem lk_ok (hn : x.objs.l.length ≤ 4) (hs : ∀ o ∈ x.objs.l, o.secs.l.length ≤ 6) : LkOk (lkF x ad cap x.objs.l.length) where
  len := firsts_len _ _
  bound o s h := by
    replace h : keptF x.objs.l x.keep.l o s = true := h
    have h1 := lk_first h
    have h2 := num_lt h
    have h3 := cnt_le hs _ (Nat.le_refl _)
    obtain ⟨ho, hs', _⟩ := keptF_iff h
    have h4 : elt (firstsF x.objs.l x.objs.l.length) o = (cntF x.objs.l o.toNat : Int) := firsts_elt _ ho.1 ho.2
    exact ⟨by show 0 ≤ elt (firstsF x.objs.l x.objs.l.length) o; omega, by show elt (firstsF x.objs.l x.objs.l.length) o + s ≤ _; omega⟩
theorem section_lt {o k z : Int} (h : sectionF (lkF x ad cap x.objs.l.length) o k = some z) : 0 ≤ z ∧ z < (cntF x.objs.l x.objs.l.length : Int) := by
  unfold sectionF at h
  split at h
  · cases h
  · split at h
    · rename_i hk
      simp only [Option.some.injEq] at h
      subst h
      have hk' : keptF x.objs.l x.keep.l (choiceF x.choices.l o k).obj (secOf (lkF x ad cap x.objs.l.length) o k) = true := hk
      have := lk_first hk'
      show 0 ≤ elt (firstsF x.objs.l x.objs.l.length) _ + _ ∧ elt (firstsF x.objs.l x.objs.l.length) _ + _ < _
      rw [this]; exact num_lt hk'
    · cases h
theorem arcOf_ok {o s k : Int} : ∀ a ∈ arcOf (lkF x ad cap x.objs.l.length) o s k, arcOk (cntF x.objs.l x.objs.l.length) a := fun a ha => by
  unfold arcOf at ha
  split at ha
  · rename_i h
    rw [Bool.and_eq_true] at h
    rw [List.mem_singleton.1 ha]
    obtain ⟨z, hz⟩ := Option.isSome_iff_exists.1 h.1
    have hk : keptF x.objs.l x.keep.l o s = true := h.2
    refine ⟨?_, ?_⟩
    · show 0 ≤ elt (firstsF x.objs.l x.objs.l.length) _ + _ ∧ elt (firstsF x.objs.l x.objs.l.length) _ + _ < _
      rw [lk_first hk]; exact num_lt hk
    · dsimp only; rw [hz]; exact section_lt hz
  · cases ha
theorem arcs_ok : ∀ a ∈ arcsF (lkF x ad cap x.objs.l.length) x.objs.l.length, arcOk (cntF x.objs.l x.objs.l.length) a := fun a ha => by
  unfold arcsF at ha
  obtain ⟨k, _, ha⟩ := List.mem_flatMap.1 ha
  unfold arcsOb at ha
  rcases List.mem_append.1 ha with ha | ha
  · unfold arcsRel at ha
    obtain ⟨r, _, ha⟩ := List.mem_flatMap.1 ha
    exact arcOf_ok a ha
  · unfold arcsCv at ha
    obtain ⟨r, _, ha⟩ := List.mem_flatMap.1 ha
    exact arcOf_ok a ha
end
abbrev encB (b : Bool) : Value := .bool b
def markF (N : Nat) (l : List Int) : List Bool := l.foldl (fun b v => b.set v.toNat true) (List.replicate N false)
theorem mark_len (N : Nat) (l : List Int) : (markF N l).length = N := by
  have : ∀ (l : List Int) (b : List Bool), (l.foldl (fun b v => b.set v.toNat true) b).length = b.length := by
    intro l
    induction l with
    | nil => intro b; rfl
    | cons v l ih => intro b; rw [List.foldl_cons, ih]; simp
  unfold markF; rw [this]; simp
theorem mark_snoc (N : Nat) (l : List Int) {k : Nat} {v : Int} (h : l[k]? = some v) : markF N (l.take (k + 1)) = (markF N (l.take k)).set v.toNat true := by
  unfold markF; rw [List.take_add_one, h, List.foldl_append]; rfl
theorem encRB_set (l : List Bool) (i : Nat) (v : Bool) : encR encB (l.set i v) = (encR encB l).set i [.v (encB v)] := by simp [encR, List.map_set]
theorem encRB_get {l : List Bool} {k : Nat} {v : Bool} (h : l[k]? = some v) : (encR encB l)[k]? = some [.v (encB v)] := by simp [encR, h]
theorem mem_reach {N : Nat} {b : List Int} {v : Int} (h : v ∈ reachF N b) : 0 ≤ v ∧ v < N := by
  unfold reachF at h
  obtain ⟨k, hk, rfl⟩ := List.mem_map.1 h
  have := List.mem_range.1 (List.mem_filter.1 hk).1
  omega
/-- rows of bools -/
abbrev TabF (t : Sl (Sl Bool)) : Per := AndP (ShF (fun s : Sl Bool => [.v s.val]) t) (AllF (ShF fun b => [.v (.bool b)]) t.l)
abbrev tabL (t : Sl (Sl Bool)) : List (List Bool) := t.l.map (·.l)
/-- a window of the slice of all -/
def winV (os : List GObject) (ad : Option Addr) (k : Nat) : Value := .slice (if (elt os (k : Int)).secs.l.length = 0 then ad else ad.map (·.add (cntF os k * 1))) (elt os (k : Int)).secs.l.length (elt os (k : Int)).secs.l.length
def winF (os : List GObject) (all : List Bool) (k : Nat) : List Bool := (all.drop (cntF os k)).take (elt os (k : Int)).secs.l.length
def winS (os : List GObject) (all : List Bool) (v : Option Addr) (k : Nat) : Sl Bool := ⟨if (elt os (k : Int)).secs.l.length = 0 then v else v.map (·.add (cntF os k * 1)), (elt os (k : Int)).secs.l.length, winF os all k⟩
/-- the numbers that are live -/
def liveN (x : GLink) : List Int := reachF (cntF x.objs.l x.objs.l.length) (graphF (cntF x.objs.l x.objs.l.length) (arcsF x x.objs.l.length) (rootsF x x.objs.l.length))
def liveF (x : GLink) : List (List Bool) := (List.range x.objs.l.length).map (winF x.objs.l (markF (cntF x.objs.l x.objs.l.length) (liveN x)))
theorem set_fill {α : Type} (l : List α) (z y : α) (n : Nat) (h : l.length < n) : (l ++ List.replicate (n - l.length) z).set l.length y = (l ++ [y]) ++ List.replicate (n - (l.length + 1)) z := by
  rw [List.set_append_right _ _ (Nat.le_refl _), Nat.sub_self]
  obtain ⟨k, hk⟩ : ∃ k, n - l.length = k + 1 := ⟨n - l.length - 1, by omega⟩
  rw [hk, show n - (l.length + 1) = k by omega, List.replicate_succ, List.set_cons_zero, List.append_assoc]; rfl
theorem win_len {os : List GObject} {all : List Bool} {k : Nat} (h : all.length = cntF os os.length) (hk : k < os.length) : (winF os all k).length = (elt os (k : Int)).secs.l.length ∧ cntF os k + (elt os (k : Int)).secs.l.length ≤ all.length := by
  have h1 : cntF os k + (elt os (k : Int)).secs.l.length ≤ cntF os os.length := cnt_mono os (i := k + 1) (by omega)
  refine ⟨?_, by omega⟩
  unfold winF; rw [List.length_take, List.length_drop]; omega
theorem tab_priv {os : List GObject} {all : List Bool} {v ao : Option Addr} (h : all.length = cntF os os.length) {w : World} {S F : Blks}
    (hh : (Star (OwnS (.slice v (cntF os os.length) (cntF os os.length)) 4 1 (encR encB all)) (OwnS (.slice ao os.length os.length) 54 1 ((List.range os.length).map fun i => [D.v (winV os v i)]))).holds w S F) :
    (PrivR (TabF ⟨ao, os.length, (List.range os.length).map (winS os all v)⟩)).holds w S F := by
  obtain ⟨G, H, hG, hH, _, he⟩ := hh
  have iG : Indep (OwnS (.slice v (cntF os os.length) (cntF os os.length)) 4 1 (encR encB all)) := indep_own fun r hr d hd => by
    obtain ⟨b, _, rfl⟩ := List.mem_map.1 hr
    rw [List.mem_singleton.1 hd]; exact ⟨_, rfl⟩
  have iH : Indep (OwnS (.slice ao os.length os.length) 54 1 ((List.range os.length).map fun i => [D.v (winV os v i)])) := indep_own fun r hr d hd => by
    obtain ⟨b, _, rfl⟩ := List.mem_map.1 hr
    rw [List.mem_singleton.1 hd]; exact ⟨_, rfl⟩
  have rG := own_rep (iG _ _ (fun _ => False) _ hG)
  have rH := own_rep (iH _ _ (fun _ => False) _ hH)
  have hwin : ∀ i, i < os.length → (winF os all i).length = (elt os (i : Int)).secs.l.length := fun i hi => (win_len h hi).1
  refine ⟨?_, fun t ht => ?_⟩
  · have := rH.mono (fun _ _ => rfl) (S' := F) (fun b hb => (he b).2 (hb.elim False.elim .inr))
    show RepD w F (.slice ao ((List.range os.length).map _).length os.length) (.sl (((List.range os.length).map _).map fun s : Sl Bool => [D.v s.val]))
    rw [List.length_map, List.length_range, List.map_map]
    have e : (List.range os.length).map (fun i => [D.v (winV os v i)]) = (List.range os.length).map ((fun s : Sl Bool => [D.v s.val]) ∘ (winS os all v)) := by
      refine List.map_congr_left fun i hi => ?_
      show [D.v (winV os v i)] = [D.v (.slice _ (winF os all i).length _)]
      rw [hwin i (List.mem_range.1 hi)]; rfl
    rw [← e]; exact this
  · obtain ⟨i, hi, rfl⟩ := List.mem_map.1 ht
    have hi' := List.mem_range.1 hi
    have h1 := rG.mono (fun _ _ => rfl) (S' := F) (fun b hb => (he b).2 (hb.elim False.elim .inl))
    have h2 := rep_win h1 (cntF os i) (elt os (i : Int)).secs.l.length (by rw [encR_len]; exact (win_len h hi').2) (sz := 1) (fun r hr => by obtain ⟨b, _, rfl⟩ := List.mem_map.1 hr; rfl)
    show RepD w F (.slice _ (winF os all i).length _) (.sl ((winF os all i).map _))
    rw [hwin i hi']
    have e : (winF os all i).map (fun b => [D.v (.bool b)]) = List.take (elt os (i : Int)).secs.l.length (List.drop (cntF os i) (encR encB all)) := by simp [winF, encR, List.map_take, List.map_drop]
    rw [e]; exact h2
theorem con_live (x : GLink) (hf : FewL x.objs.l) : Con Try.prog 12 [x.r.val, x.objs.val, x.keep.val, x.choices.val] [x.ok] []
    fun r ps hp => ps = [] ∧ ∃ (s : Sl (Sl Bool)) (ad : Option Addr) (cap : Nat), r = s.val ∧ tabL s = liveF (lkF x ad cap x.objs.l.length) ∧ hp = [PrivR (TabF s)] := by
  have hs6 : ∀ o ∈ x.objs.l, o.secs.l.length ≤ 6 := fun o ho => (hf.of o ho).1
  have hcn := cnt_le hs6 _ (Nat.le_refl _)
  have hn4 := hf.n
  refine Con.enter Try.func12 rfl (by simp [Try.ntmps12]) ?_
  show awp _ _ _ _ ⟨[(0, true, _), (1, true, _), (2, true, _), (3, true, _)], _, _⟩
  refine awp_seq (awp_region ?_)
  refine aL_eff (q := true) rfl (x_box rfl rfl rfl (fun b0_0 => ?_))
  refine aL_hp (by (try simp only [nM, nN]); rfl) ?_
  refine aL_s true rfl rfl (fun _ => q_assign rfl) (aL_nil (thn_n (awp_seq (awp_region (aL_s true rfl rfl (fun _ => q_load 0 tk25 rfl rfl rfl) (aL_s true rfl rfl (fun _ => q_move rfl) (aL_s true rfl rfl (fun _ => q_move rfl) ?_)))))))
  refine aL_s true rfl rfl (fun _ => q_move rfl) ?_
  refine aL_eff (q := true) rfl (e_call [0] [] (by kernel_rfl) rfl rfl rfl rfl (con_open x hn4 hs6) ?_)
  rintro _ _ _ ⟨rfl, lb, af, cf, rfl, rfl⟩
  refine aL_st (by (try simp only [nM, nN]); rfl) (by (try simp only [putB, place, Nat.reduceBEq, nA, if_true, if_false, reduceIte, nB, nC, nD, nE, nF, nG, nH, nI, Nat.reduceAdd, nJ, beq_self_eq_true, nK, nL, nM, nN]); rfl) ?_
  refine aL_s true rfl rfl (fun _ => q_assign rfl) (aL_nil (thn_n (awp_seq (awp_region (aL_s true rfl rfl (fun _ => q_move rfl) (aL_s true rfl rfl (fun _ => q_nilCheck rfl) ?_))))))
  refine aL_s true rfl rfl (fun _ => q_fieldAddr (off := 11) (by kernel_rfl) rfl) ?_
  refine aL_s true rfl rfl (fun _ => q_loadDE (o := 11) tk3 rfl (.of (psAt 0 rfl)) rfl) ?_
  refine aL_eff (q := true) rfl (w_make (m := cntF x.objs.l x.objs.l.length) (zs := [.bool false]) el54 (by kernel_rfl) rfl (by decide) (ev_int rfl (rfl)) (ev_int rfl (rfl)) (by omega) rfl (fun v2_4 => ?_))
  refine aL_hp (by (try simp only [nM, nN]); rfl) ?_
  refine aL_s true rfl rfl (fun _ => q_assign rfl) (aL_nil (thn_n (awp_seq (awp_seq ?_))))
  refine awp_drawnC [] [] [] (by kernel_rfl) ?_
  show aC _ _ _ _ _ _ _ 11 #[false, false, false, false, false, false, false, false, false, false, false] _
  refine aC_join (X := Option Addr × Nat) (fun q => ⟨[(1, true, x.objs.val), (9, true, .pointer (some ⟨lb, 0, none⟩)), (10, true, .slice v2_4 (cntF x.objs.l x.objs.l.length) (cntF x.objs.l x.objs.l.length)), (34, true, .slice q.1 (liveN (lkF x af cf x.objs.l.length)).length q.2), (35, true, .int .i64 (liveN (lkF x af cf x.objs.l.length)).length), (36, true, .int .i64 0)], [At lb 0 ((lkF x af cf x.objs.l.length)).row, ((lkF x af cf x.objs.l.length)).ok], [OwnS (.slice v2_4 (cntF x.objs.l x.objs.l.length) (cntF x.objs.l x.objs.l.length)) 4 1 (List.replicate (cntF x.objs.l x.objs.l.length) [.v (.bool false)]), OwnS (.slice q.1 (liveN (lkF x af cf x.objs.l.length)).length q.2) 3 1 (encR encI (liveN (lkF x af cf x.objs.l.length)))]⟩) ?_ ?_
  ·skip
   refine aC_f 0 rfl (by kernel_rfl) true rfl rfl (fun _ => q_move rfl) ?_
   refine aC_f 1 rfl (by kernel_rfl) true rfl rfl (fun _ => q_nilCheck rfl) ?_
   refine aC_f 2 rfl (by kernel_rfl) true rfl rfl (fun _ => q_fieldAddr (off := 11) (by kernel_rfl) rfl) ?_
   refine aC_f 3 rfl (by kernel_rfl) true rfl rfl (fun _ => q_loadDE (o := 11) tk3 rfl (.of (psAt 0 rfl)) rfl) ?_
   refine aC_f 4 rfl (by kernel_rfl) true rfl rfl (fun _ => q_move rfl) ?_
   refine aC_f 6 rfl (by kernel_rfl) true rfl rfl (fun _ => q_move rfl) ?_
   refine aC_f 10 rfl (by kernel_rfl) true rfl rfl (fun _ => q_move rfl) ?_
   refine aC_arms 5 [] (by kernel_rfl) (arms_cons ?_ arms_nil)
   refine aC_arm 5 rfl rfl (Eff.x ?_)
   refine id (e_call [2, 1] [] (by kernel_rfl) rfl rfl rfl rfl (con_arcs (lkF x af cf x.objs.l.length) (lk_ok hn4 hs6) hf lb) ?_)
   rintro _ _ _ ⟨rfl, aa, ca, rfl, rfl⟩
   refine aC_st (by (try simp only [nO, nK, nL]); rfl) (by (try simp only [nM, nN]); rfl) (by (try simp only [keepH, nQ, nR, putB, place, Nat.reduceBEq, nA, if_true, if_false, reduceIte, nB, nC, nD, nE, nF, nG, nH, nI, Nat.reduceAdd, nJ, beq_self_eq_true, nK, nL, nM, nN]); rfl) ?_
   refine aC_arms 7 [] (by kernel_rfl) (arms_cons ?_ arms_nil)
   refine aC_arm 7 rfl rfl (Eff.x ?_)
   refine id (e_call [2, 1] [] (by kernel_rfl) rfl rfl rfl rfl (con_roots (lkF x af cf x.objs.l.length) (lk_ok hn4 hs6) hf lb) ?_)
   rintro _ _ _ ⟨rfl, ar, cr, rfl, rfl⟩
   refine aC_st (by (try simp only [nO, nK, nL]); rfl) (by (try simp only [nM, nN]); rfl) (by (try simp only [keepH, nQ, nR, putB, place, Nat.reduceBEq, nA, if_true, if_false, reduceIte, nB, nC, nD, nE, nF, nG, nH, nI, Nat.reduceAdd, nJ, beq_self_eq_true, nK, nL, nM, nN]); rfl) ?_
   refine aC_arms 8 [] (by kernel_rfl) (arms_cons ?_ arms_nil)
   refine aC_arm 8 rfl rfl (Eff.x ?_)
   refine id (e_call [3, 4] [] (by kernel_rfl) rfl rfl rfl rfl (con_reach (cntF x.objs.l x.objs.l.length) (by omega) ⟨aa, ca, arcsF (lkF x af cf x.objs.l.length) x.objs.l.length⟩ (by have := arcsF_le (x := (lkF x af cf x.objs.l.length)) hf _ (Nat.le_refl _); dsimp only at this ⊢; omega) arcs_ok ⟨ar, cr, rootsF (lkF x af cf x.objs.l.length) x.objs.l.length⟩ (by have := rootsF_le (x := (lkF x af cf x.objs.l.length)) hf _ (Nat.le_refl _); dsimp only at this ⊢; omega)) ?_)
   rintro r34 _ _ ⟨rfl, ad, c, rfl, rfl⟩
   refine aC_st (by (try simp only [nO, nK, nL]); rfl) (by (try simp only [nM, nN]); rfl) (by (try simp only [keepH, nQ, nR, putB, place, Nat.reduceBEq, nA, if_true, if_false, reduceIte, nB, nC, nD, nE, nF, nG, nH, nI, Nat.reduceAdd, nJ, beq_self_eq_true, nK, nL, nM, nN]); rfl) ?_
   refine aC_f 9 rfl (by kernel_rfl) true rfl rfl (fun _ => q_lenS Try.underlying37 rfl) ?_
   refine aC_nil (by kernel_rfl) ?_
   exact ⟨rfl, [1, 9, 10, 34, 35, 36], [2, 1], [1, 2], (ad, c), rfl, rfl⟩
  ·skip
   rintro ⟨ad, c⟩
   refine thn_n (awp_block (awp_share 1 rfl ?_))
   refine awp_loopK [1, 9, 10, 34, 35, 36] [2, 1, 0] [0] (fun (k : Nat) s => k ≤ (liveN (lkF x af cf x.objs.l.length)).length ∧ s = ⟨[(1, true, x.objs.val), (9, true, .pointer (some ⟨lb, 0, none⟩)), (10, true, .slice v2_4 (cntF x.objs.l x.objs.l.length) (cntF x.objs.l x.objs.l.length)), (34, true, .slice ad (liveN (lkF x af cf x.objs.l.length)).length c), (35, true, .int .i64 (liveN (lkF x af cf x.objs.l.length)).length), (36, true, .int .i64 k)], [Sh (.slice ad (liveN (lkF x af cf x.objs.l.length)).length c) (.sl (encR encI (liveN (lkF x af cf x.objs.l.length)))), At lb 0 ((lkF x af cf x.objs.l.length)).row, ((lkF x af cf x.objs.l.length)).ok], [OwnS (.slice v2_4 (cntF x.objs.l x.objs.l.length) (cntF x.objs.l x.objs.l.length)) 4 1 (encR encB (markF (cntF x.objs.l x.objs.l.length) ((liveN (lkF x af cf x.objs.l.length)).take k)))]⟩) (fun k => (liveN (lkF x af cf x.objs.l.length)).length - k) rfl (⟨0, Nat.zero_le _, by rw [show encR encB (markF (cntF x.objs.l x.objs.l.length) ((liveN (lkF x af cf x.objs.l.length)).take 0)) = List.replicate (cntF x.objs.l x.objs.l.length) [.v (.bool false)] by simp [encR, markF]]; rfl⟩) ?_
   rintro k s ⟨hk, rfl⟩
   have hml := mark_len (cntF x.objs.l x.objs.l.length) ((liveN (lkF x af cf x.objs.l.length)).take k)
   have hlN : (liveN (lkF x af cf x.objs.l.length)).length ≤ (cntF x.objs.l x.objs.l.length) := reach_le _ _
   refine awp_seq (awp_region (aL_s true rfl rfl (fun _ => q_lss rfl rfl) (aL_nil (thn_n (awp_seq ?_)))))
   refine awp_cond _ rfl (fun h1 => ?_) (fun h1 => ?_)
   ·skip
    have hk' : k < (liveN (lkF x af cf x.objs.l.length)).length := by simp at h1; omega
    obtain ⟨v, hv⟩ : ∃ v, (liveN (lkF x af cf x.objs.l.length))[k]? = some v := ⟨_, List.getElem?_eq_getElem hk'⟩
    have hvn : 0 ≤ v ∧ v < ((cntF x.objs.l x.objs.l.length) : Int) := mem_reach (List.mem_of_getElem? hv)
    have hst := mark_snoc (cntF x.objs.l x.objs.l.length) _ hv
    refine awp_skip (thn_n (awp_seq (awp_block (awp_seq (awp_region ?_)))))
    refine aL_E true rfl rfl (fun _ => q_indexAddrG Try.underlying37 tk3 rfl ((.of (psAt 0 rfl))) rfl (encR_get hv) rfl rfl) (fun h => absurd h (by decide)) (fun ⟨b5_0, o5_0⟩ => ?_)
    refine aL_s true rfl rfl (fun _ => q_loadD (o := 0) tk3 rfl (psAt 0 rfl) rfl rfl) (aL_s true rfl rfl (fun _ => q_assign rfl) (aL_nil (thn_n ?_)))
    refine awp_formO 0 rfl (fun h0 => by have := congrArg List.length h0; rw [encR_len, hml, List.length_nil] at this; omega) (fun B cp hvb => ?_)
    obtain ⟨rfl, rfl⟩ : v2_4 = some ⟨B, 0, none⟩ ∧ (cntF x.objs.l x.objs.l.length) = cp := by simp at hvb; exact ⟨hvb.1, hvb.2.2⟩
    obtain ⟨o, ho⟩ : ∃ o, (markF (cntF x.objs.l x.objs.l.length) ((liveN (lkF x af cf x.objs.l.length)).take k))[v.toNat]? = some o := ⟨_, List.getElem?_eq_getElem (by rw [hml]; omega)⟩
    refine awp_region (aL_s true rfl rfl (fun _ => q_move rfl) (aL_s true rfl rfl (fun _ => q_move rfl) ?_))
    refine aL_s true rfl rfl (fun _ => q_idxV v.toNat el54 rfl rfl (by omega) (by omega)) ?_
    refine aL_eff (q := false) rfl (e_storeO 0 v.toNat 0 tk4 rfl rfl rfl (encRB_get ho) rfl (.v rfl .nil) rfl (by decide) ?_)
    refine aL_nil (blk_n (thn_n (awp_region ?_)))
    refine aL_s true rfl rfl (fun _ => q_addi rfl rfl (by omega)) ?_
    refine aL_s true rfl rfl (fun _ => q_move rfl) (aL_nil (thn_n ?_))
    refine ⟨[1, 9, 10, 34, 35, 36], [2, 1, 0], [0], rfl, ?_⟩
    refine ⟨k + 1, ⟨by omega, ?_⟩, by omega⟩
    rw [hst, encRB_set]
    rfl
   ·skip
    have hkl : k = (liveN (lkF x af cf x.objs.l.length)).length := by simp at h1; omega
    subst hkl
    rw [List.take_length]
    refine awp_exit (thn_e (thn_e (blk_hit (thn_n (awp_seq (awp_region (aL_s true rfl rfl (fun _ => q_move rfl) ?_)))))))
    refine aL_s true rfl rfl (fun _ => q_lenS Try.underlying26 rfl) ?_
    refine aL_eff (q := true) rfl (w_make (m := x.objs.l.length) (zs := [.slice none 0 0]) el27 (by kernel_rfl) rfl (by decide) (ev_int rfl (rfl)) (ev_int rfl (rfl)) (by omega) rfl (fun v8_2 => ?_))
    refine aL_hp (by (try simp only [nM, nN]); rfl) ?_
    refine aL_s true rfl rfl (fun _ => q_assign rfl) (aL_nil (thn_n (awp_seq (awp_seq (awp_region (aL_s true rfl rfl (fun _ => q_move rfl) (aL_s true rfl rfl (fun _ => q_lenS Try.underlying26 rfl) ?_)))))))
    refine aL_s true rfl rfl (fun _ => q_move rfl) (aL_nil (thn_n (awp_block ?_)))
    obtain ⟨all, hall⟩ : ∃ all, markF (cntF x.objs.l x.objs.l.length) (liveN (lkF x af cf x.objs.l.length)) = all := ⟨_, rfl⟩
    rw [List.take_length] at hml
    rw [hall] at hml ⊢
    refine awp_loopK [9, 10, 13, 47, 48, 49] [1, 0] [0, 1] (fun (k : Nat) s => k ≤ x.objs.l.length ∧ s = ⟨[(9, true, .pointer (some ⟨lb, 0, none⟩)), (10, true, .slice v2_4 (cntF x.objs.l x.objs.l.length) (cntF x.objs.l x.objs.l.length)), (13, true, .slice v8_2 x.objs.l.length x.objs.l.length), (47, true, x.objs.val), (48, true, .int .i64 x.objs.l.length), (49, true, .int .i64 k)], [At lb 0 ((lkF x af cf x.objs.l.length)).row, ((lkF x af cf x.objs.l.length)).ok], [OwnS (.slice v2_4 (cntF x.objs.l x.objs.l.length) (cntF x.objs.l x.objs.l.length)) 4 1 (encR encB all), OwnS (.slice v8_2 x.objs.l.length x.objs.l.length) 54 1 (((List.range k).map fun i => [D.v (winV x.objs.l v2_4 i)]) ++ List.replicate (x.objs.l.length - k) [.v (.slice none 0 0)])]⟩) (fun k => x.objs.l.length - k) rfl (⟨0, Nat.zero_le _, rfl⟩) ?_
    rintro k s ⟨hk2, rfl⟩
    refine awp_seq (awp_region (aL_s true rfl rfl (fun _ => q_lss rfl rfl) (aL_nil (thn_n (awp_seq ?_)))))
    refine awp_cond _ rfl (fun h2 => ?_) (fun h2 => ?_)
    ·skip
     have hk' : k < x.objs.l.length := by simp at h2; omega
     have ho := elt_nat hk'
     obtain ⟨hwn, hwb⟩ := win_len hml hk'
     have hfk : (firstsF x.objs.l x.objs.l.length)[k]? = some (cntF x.objs.l k : Int) := by simp [firstsF, hk']
     refine awp_skip (thn_n (awp_seq (awp_block (awp_seq (awp_region (aL_s true rfl rfl (fun _ => q_move rfl) ?_))))))
     refine aL_E true rfl rfl (fun _ => q_indexAddrG Try.underlying26 tk53 rfl ((GLink.f_objs (x := (lkF x af cf x.objs.l.length)) (.of (psAt 1 rfl)))) rfl (rows_get ho) rfl rfl) (fun h => absurd h (by decide)) (fun ⟨b11_1, o11_1⟩ => ?_)
     refine aL_s true rfl rfl (fun _ => q_loadD (o := 0) tk53 rfl (psAt 0 rfl) rfl rfl) ?_
     refine aL_eff (q := true) rfl (x_alloc (zs := [.string .empty, .slice none 0 0, .slice none 0 0, .slice none 0 0, .slice none 0 0, .slice none 0 0, .slice none 0 0, .slice none 0 0, .slice none 0 0, .slice none 0 0, .slice none 0 0]) (by kernel_rfl) rfl (fun b11_3 => ?_))
     refine aL_hp (by (try simp only [nM, nN]); rfl) ?_
     refine aL_s true rfl rfl (fun _ => q_assign rfl) ?_
     refine aL_eff rfl (x_store 2 tk53 rfl rfl rfl rfl ?_)
     refine aL_hp (by simp only [nK, nL]; rfl) ?_
     refine aL_nil (thn_n ?_)
     refine awp_formO 1 rfl (fun h0 => by have := congrArg List.length h0; simp at this; omega) (fun B cp hvb => ?_)
     obtain ⟨rfl, rfl⟩ : v8_2 = some ⟨B, 0, none⟩ ∧ x.objs.l.length = cp := by simp at hvb; exact ⟨hvb.1, hvb.2.2⟩
     have hrow : (((List.range k).map fun i => [D.v (winV x.objs.l v2_4 i)]) ++ List.replicate (x.objs.l.length - k) [D.v (.slice none 0 0)])[k]? = some [.v (.slice none 0 0)] := by rw [List.getElem?_append_right (by simp), List.length_map, List.length_range, Nat.sub_self, List.getElem?_replicate, if_pos (by omega)]
     refine awp_drawnC [34] [34] [b11_3] (by kernel_rfl) ?_
     show aC _ _ _ _ _ _ _ 35 #[false, false, false, false, false, false, false, false, false, false, false, false, false, false, false, false, false, false, false, false, false, false, false, false, false, false, false, false, false, false, false, false, false, false, false] _
     refine aC_f 0 rfl (by kernel_rfl) true rfl rfl (fun _ => q_move rfl) ?_
     refine aC_f 1 rfl (by kernel_rfl) true rfl rfl (fun _ => q_move rfl) ?_
     refine aC_f 2 rfl (by kernel_rfl) true rfl rfl (fun _ => q_move rfl) ?_
     refine aC_f 3 rfl (by kernel_rfl) true rfl rfl (fun _ => q_move rfl) ?_
     refine aC_f 4 rfl (by kernel_rfl) true rfl rfl (fun _ => q_nilCheck rfl) ?_
     refine aC_f 5 rfl (by kernel_rfl) true rfl rfl (fun _ => q_fieldAddr (off := 10) (by kernel_rfl) rfl) ?_
     refine aC_f 6 rfl (by kernel_rfl) true rfl rfl (fun _ => q_loadDE (o := 10) tk37 rfl (.of (psAt 1 rfl)) rfl) ?_
     refine aC_f 7 rfl (by kernel_rfl) true rfl rfl (fun _ => q_move rfl) ?_
     refine aC_R1 8 rfl (by kernel_rfl) rfl rfl (q_indexAddrGR Try.underlying37 tk3 rfl ((GLink.f_first (x := (lkF x af cf x.objs.l.length)) (.of (psAt 2 rfl)))) rfl (rows_get hfk) rfl rfl) (fun ⟨b12_8, o12_8⟩ => ?_)
     refine aC_f 9 rfl (by kernel_rfl) true rfl rfl (fun _ => q_loadDE (o := 0) tk3 rfl (.of (psAt 0 rfl)) rfl) ?_
     refine aC_f 10 rfl (by kernel_rfl) true rfl rfl (fun _ => q_move rfl) ?_
     refine aC_f 11 rfl (by kernel_rfl) true rfl rfl (fun _ => q_nilCheck rfl) ?_
     refine aC_f 12 rfl (by kernel_rfl) true rfl rfl (fun _ => q_fieldAddr (off := 10) (by kernel_rfl) rfl) ?_
     refine aC_f 13 rfl (by kernel_rfl) true rfl rfl (fun _ => q_loadDE (o := 10) tk37 rfl (.of (psAt 2 rfl)) rfl) ?_
     refine aC_f 14 rfl (by kernel_rfl) true rfl rfl (fun _ => q_move rfl) ?_
     refine aC_R1 15 rfl (by kernel_rfl) rfl rfl (q_indexAddrGR Try.underlying37 tk3 rfl ((GLink.f_first (x := (lkF x af cf x.objs.l.length)) (.of (psAt 3 rfl)))) rfl (rows_get hfk) rfl rfl) (fun ⟨b12_15, o12_15⟩ => ?_)
     refine aC_f 16 rfl (by kernel_rfl) true rfl rfl (fun _ => q_loadDE (o := 0) tk3 rfl (.of (psAt 0 rfl)) rfl) ?_
     refine aC_f 17 rfl (by kernel_rfl) true rfl rfl (fun _ => q_fieldAddr (off := 1) (by kernel_rfl) rfl) ?_
     refine aC_box 18 2 rfl (by kernel_rfl) true rfl rfl (by simp) tk42 (fun _ => rfl) rfl rfl ?_
     refine aC_f 19 rfl (by kernel_rfl) true rfl rfl (fun _ => q_lenS Try.underlying42 rfl) ?_
     refine aC_f 20 rfl (by kernel_rfl) true rfl rfl (fun _ => q_addi rfl rfl (by omega)) ?_
     refine aC_f 21 rfl (by kernel_rfl) true rfl rfl (fun _ => q_move rfl) ?_
     refine aC_f 22 rfl (by kernel_rfl) true rfl rfl (fun _ => q_nilCheck rfl) ?_
     refine aC_f 23 rfl (by kernel_rfl) true rfl rfl (fun _ => q_fieldAddr (off := 10) (by kernel_rfl) rfl) ?_
     refine aC_f 24 rfl (by kernel_rfl) true rfl rfl (fun _ => q_loadDE (o := 10) tk37 rfl (.of (psAt 3 rfl)) rfl) ?_
     refine aC_f 25 rfl (by kernel_rfl) true rfl rfl (fun _ => q_move rfl) ?_
     refine aC_R1 26 rfl (by kernel_rfl) rfl rfl (q_indexAddrGR Try.underlying37 tk3 rfl ((GLink.f_first (x := (lkF x af cf x.objs.l.length)) (.of (psAt 4 rfl)))) rfl (rows_get hfk) rfl rfl) (fun ⟨b12_26, o12_26⟩ => ?_)
     refine aC_f 27 rfl (by kernel_rfl) true rfl rfl (fun _ => q_loadDE (o := 0) tk3 rfl (.of (psAt 0 rfl)) rfl) ?_
     refine aC_f 28 rfl (by kernel_rfl) true rfl rfl (fun _ => q_fieldAddr (off := 1) (by kernel_rfl) rfl) ?_
     refine aC_box 29 2 rfl (by kernel_rfl) true rfl rfl (by simp) tk42 (fun _ => rfl) rfl rfl ?_
     refine aC_f 30 rfl (by kernel_rfl) true rfl rfl (fun _ => q_lenS Try.underlying42 rfl) ?_
     refine aC_f 31 rfl (by kernel_rfl) true rfl rfl (fun _ => q_addi rfl rfl (by omega)) ?_
     refine aC_f 32 rfl (by kernel_rfl) true rfl rfl (fun _ => q_slice3V (cntF x.objs.l k) (elt x.objs.l (k : Int)).secs.l.length el54 rfl rfl rfl rfl rfl rfl rfl (by rw [← hml]; exact hwb)) ?_
     refine aC_f 33 rfl (by kernel_rfl) true rfl rfl (fun _ => q_idxV k el27 rfl rfl rfl hk') ?_
     refine aC_arms 34 [] (by kernel_rfl) (arms_cons ?_ arms_nil)
     refine aC_arm 34 rfl rfl (Eff.wild (q := false) ?_)
     refine e_storeO 1 k 0 tk54 rfl rfl rfl hrow rfl (.v rfl .nil) rfl (by decide) ?_
     refine aC_st (by (try simp only [nO, nK, nL]); rfl) (by (try simp only [nM, nN]); rfl) (by (try simp only [keepH, nQ, nR, putB, place, Nat.reduceBEq, nA, if_true, if_false, reduceIte, nB, nC, nD, nE, nF, nG, nH, nI, Nat.reduceAdd, nJ, beq_self_eq_true, nK, nL, nM, nN]); rfl) ?_
     refine aC_nil (by kernel_rfl) ?_
     refine blk_n (thn_n (awp_region ?_))
     refine aL_s true rfl rfl (fun _ => q_addi rfl rfl (by omega)) ?_
     refine aL_s true rfl rfl (fun _ => q_move rfl) (aL_nil (thn_n ?_))
     refine ⟨[9, 10, 13, 47, 48, 49], [1, 0], [0, 1], rfl, ?_⟩
     refine ⟨k + 1, ⟨by omega, ?_⟩, by omega⟩
     have e2 := set_fill ((List.range k).map fun i => [D.v (winV x.objs.l v2_4 i)]) [D.v (.slice none 0 0)] [D.v (winV x.objs.l v2_4 k)] x.objs.l.length (by simpa using hk')
     rw [List.length_map, List.length_range] at e2
     rw [List.range_succ, List.map_append, show List.map (fun i => [D.v (winV x.objs.l v2_4 i)]) [k] = [[D.v (winV x.objs.l v2_4 k)]] from rfl, ← e2]
     rfl
    ·skip
     have hwe : k = x.objs.l.length := by simp at h2; omega
     subst hwe
     rw [Nat.sub_self, List.replicate_zero, List.append_nil]
     refine awp_exit (thn_e (thn_e (blk_hit (thn_n (awp_seq (awp_star 0 1 rfl rfl rfl (awp_conv 0 (PrivR (TabF ⟨v8_2, x.objs.l.length, (List.range x.objs.l.length).map (winS x.objs.l all v2_4)⟩)) rfl (fun w S F hh => tab_priv hml hh) ?_)))))))
     refine awp_region (aL_s true rfl rfl (fun _ => q_move rfl) (aL_s true rfl rfl (fun _ => q_assign rfl) (aL_nil (thn_n (awp_ret ?_)))))
     refine fin1 [] [0] rfl Try.results12 rfl ?_ (.inr rfl)
     refine ⟨rfl, ⟨v8_2, x.objs.l.length, (List.range x.objs.l.length).map (winS x.objs.l all v2_4)⟩, af, cf, ?_, ?_, rfl⟩
     · simp [Sl.val]
     · rw [show liveF (lkF x af cf x.objs.l.length) = (List.range x.objs.l.length).map (winF x.objs.l all) by rw [← hall]; rfl]; simp [tabL, Function.comp_def, winS]
end Go.Proofs.Ytnbochlghdkfkaa
