/- live: Way. No condition. -/
import Derived.Test.YtnbochlghdkfkaaBlH
import Derived.Test.YtnbochlghdkfkaaBlI
set_option linter.unusedVariables false
set_option linter.unusedSimpArgs false
set_option maxRecDepth 20000
namespace Go.Proofs.Ytnbochlghdkfkaa
open Go.RowKit Go.Lp Go.Sy
open Go.Proofs.Try
attribute [local irreducible] aL aB awp aC fwp
def chosenF (x : GLink) (o k : Int) : Bool := decide ((choiceF x.choices.l o k).kind = 2) && decide ((choiceF x.choices.l o k).obj = o) && decide ((choiceF x.choices.l o k).sym = k)
def rootSymF (x : GLink) (a b : Int) (i k : Nat) (y : GSymbol) : Bool := (chosenF x i k && leadsF x i k a b) && (entryF x y || !hiddenF x.objs.l y.name)
def rootSyms (x : GLink) (a b : Int) (i : Nat) (l : List GSymbol) (n : Nat) : Bool := (List.range n).any fun k => rootSymF x a b i k (elt l (k : Int))
def rootInits (x : GLink) (a b : Int) (i : Nat) (l : List GInit) : Bool := l.any fun z => leadsF x i z.sym a b
def rootObs (x : GLink) (a b : Int) (n : Nat) : Bool := (List.range n).any fun i => rootSyms x a b i (elt x.objs.l (i : Int)).syms.l (elt x.objs.l (i : Int)).syms.l.length || rootInits x a b i (elt x.objs.l (i : Int)).inits.l
def rootF (x : GLink) (a b : Int) : Bool := keptF x.objs.l x.keep.l a b && ((elt (elt x.objs.l a).secs.l b).keep || rootObs x a b x.objs.l.length)
theorem rootSyms_succ (x : GLink) (a b : Int) (i : Nat) (l : List GSymbol) (n : Nat) : rootSyms x a b i l (n + 1) = (rootSyms x a b i l n || rootSymF x a b i n (elt l (n : Int))) := by unfold rootSyms; rw [List.range_succ, List.any_append]; simp
theorem rootObs_succ (x : GLink) (a b : Int) (n : Nat) : rootObs x a b (n + 1) = (rootObs x a b n || (rootSyms x a b n (elt x.objs.l (n : Int)).syms.l (elt x.objs.l (n : Int)).syms.l.length || rootInits x a b n (elt x.objs.l (n : Int)).inits.l)) := by unfold rootObs; rw [List.range_succ, List.any_append]; simp
theorem rootObs_mono {x : GLink} {a b : Int} {i n : Nat} (h : i < n) (hh : (rootSyms x a b i (elt x.objs.l (i : Int)).syms.l (elt x.objs.l (i : Int)).syms.l.length || rootInits x a b i (elt x.objs.l (i : Int)).inits.l) = true) : rootObs x a b n = true := List.any_eq_true.2 ⟨i, List.mem_range.2 h, hh⟩
theorem entry_eq (x : GLink) (y : GSymbol) : (!x.r.lib && y.name.toList == x.r.entry.toList && (y.version.toList == (⟨#[]⟩ : ByteArray).toList || y.main)) = entryF x y := by
  unfold entryF
  rw [Bool.eq_iff_iff]; simp
theorem con_root (x : GLink) (a b : Int) : Con Try.prog 15 [x.r.val, x.objs.val, x.keep.val, x.choices.val, .int .i64 a, .int .i64 b] [x.ok] [] fun r _ _ => r = .bool (rootF x a b) := by
  refine Con.enter Try.func15 rfl (by simp [Try.ntmps15]) ?_
  show awp _ _ _ _ ⟨[(0, true, _), (1, true, _), (2, true, _), (3, true, _), (4, true, _), (5, true, _)], _, _⟩
  refine awp_lenE (GLink.f_objs (.of (psAt 0 rfl))) (fun hlen => ?_)
  refine awp_seq (awp_region ?_)
  refine aL_eff (q := true) rfl (x_box rfl rfl rfl (fun b0_0 => ?_))
  refine aL_hp (by (try simp only [nM, nN]); rfl) ?_
  refine aL_s true rfl rfl (fun _ => q_assign rfl) (aL_nil (thn_n (awp_seq (awp_seq (awp_region (aL_s true rfl rfl (fun _ => q_move rfl) (aL_s true rfl rfl (fun _ => q_move rfl) ?_)))))))
  refine aL_s true rfl rfl (fun _ => q_move rfl) (aL_s true rfl rfl (fun _ => q_move rfl) ?_)
  refine aL_s true rfl rfl (fun _ => q_call (by kernel_rfl) rfl (fun w S fp hst => (con_rkept x _ _).quiet1 (psAt 0 rfl) hst)) ?_
  refine aL_s true rfl rfl (fun _ => q_not rfl) (aL_nil (thn_n ?_))
  refine awp_cond _ rfl (fun h1 => ?_) (fun h1 => ?_)
  ·skip
   have hkp : keptF x.objs.l x.keep.l a b = false := by simpa using h1
   refine awp_seq (awp_region (aL_s true rfl rfl (fun _ => q_assign rfl) (aL_nil (thn_n (awp_ret (thn_r ?_))))))
   refine fin1 [] [] rfl Try.results15 rfl ?_ (.inr rfl)
   unfold rootF; rw [hkp]; rfl
  ·skip
   have hkp : keptF x.objs.l x.keep.l a b = true := by simpa using h1
   have hki := keptF_iff hkp
   refine awp_skip (thn_n (awp_seq (awp_seq (awp_region (aL_s true rfl rfl (fun _ => q_move rfl) (aL_s true rfl rfl (fun _ => q_move rfl) ?_))))))
   refine aL_E true rfl rfl (fun _ => q_indexAddrG Try.underlying26 tk53 rfl ((GLink.f_objs (.of (psAt 0 rfl)))) rfl (rows_elt (i := a) (by omega) (by omega)) (by omega) rfl) (fun h => absurd h (by decide)) (fun ⟨b3_2, o3_2⟩ => ?_)
   refine aL_s true rfl rfl (fun _ => q_fieldAddr (off := 1) (by kernel_rfl) rfl) ?_
   refine aL_s true rfl rfl (fun _ => q_loadD (o := 1) tk42 rfl (psAt 0 rfl) rfl rfl) (aL_s true rfl rfl (fun _ => q_move rfl) ?_)
   refine aL_E true rfl rfl (fun _ => q_indexAddrG Try.underlying42 tk60 rfl ((GObject.f_secs ((GLink.f_objsA (.of (psAt 1 rfl))).elt (i := a) (by omega) (by omega)))) rfl (rows_elt (i := b) (by omega) (by omega)) (by omega) rfl) (fun h => absurd h (by decide)) (fun ⟨b3_6, o3_6⟩ => ?_)
   refine aL_s true rfl rfl (fun _ => q_fieldAddr (off := 5) (by kernel_rfl) rfl) ?_
   refine aL_s true rfl rfl (fun _ => q_loadD (o := 5) tk4 rfl (psAt 0 rfl) rfl rfl) (aL_nil (thn_n ?_))
   refine awp_cond _ rfl (fun h2 => ?_) (fun h2 => ?_)
   ·skip
    have hkeep : (elt (elt x.objs.l a).secs.l b).keep = true := h2
    refine awp_seq (awp_region (aL_s true rfl rfl (fun _ => q_assign rfl) (aL_nil (thn_n (awp_ret (thn_r ?_))))))
    refine fin1 [] [] rfl Try.results15 rfl ?_ (.inr rfl)
    unfold rootF; rw [hkp, hkeep]; rfl
   ·skip
    have hkeep : (elt (elt x.objs.l a).secs.l b).keep = false := h2
    have hroot : rootF x a b = rootObs x a b x.objs.l.length := by unfold rootF; rw [hkp, hkeep]; rfl
    rw [hroot]
    refine awp_skip (thn_n (awp_seq (awp_seq (awp_region (aL_s true rfl rfl (fun _ => q_assign rfl) (aL_nil (thn_n ?_)))))))
    refine awp_block (awp_loopK [1, 2, 3, 4, 5, 6, 12, 13] [0] [0] (fun (k : Nat) s => (k ≤ x.objs.l.length ∧ rootObs x a b k = false) ∧ s = ⟨[(1, true, x.objs.val), (2, true, x.keep.val), (3, true, x.choices.val), (4, true, .int .i64 a), (5, true, .int .i64 b), (6, true, .pointer (some ⟨b0_0, 0, none⟩)), (12, true, .bool false), (13, true, .int .i64 k)], [x.ok], [Box b0_0 25 x.r.vs]⟩) (fun k => x.objs.l.length - k) rfl (⟨0, ⟨Nat.zero_le _, rfl⟩, rfl⟩) ?_)
    rintro k s ⟨⟨hk, hno⟩, rfl⟩
    refine awp_seq (awp_seq (awp_region (aL_s true rfl rfl (fun _ => q_move rfl) (aL_s true rfl rfl (fun _ => q_move rfl) (aL_s true rfl rfl (fun _ => q_lenS Try.underlying26 rfl) (aL_s true rfl rfl (fun _ => q_lss rfl rfl) (aL_nil ?_)))))))
    refine thn_n ?_
    refine awp_cond _ rfl (fun h3 => ?_) (fun h3 => ?_)
    ·skip
     have hk' : k < x.objs.l.length := by simp at h3; omega
     have ho := elt_nat hk'
     have hkk : (0 : Int) ≤ (k : Int) ∧ (k : Int) < x.objs.l.length := by omega
     obtain ⟨o, hoo⟩ : ∃ o, elt x.objs.l (k : Int) = o := ⟨_, rfl⟩
     rw [hoo] at ho
     refine awp_lenE (GObject.f_syms ((GLink.f_objsA (.of (psAt 0 rfl))).all ho)) (fun hlen2 => ?_)
     refine awp_lenE (GObject.f_inits ((GLink.f_objsA (.of (psAt 0 rfl))).all ho)) (fun hlen3 => ?_)
     refine awp_skip (thn_n (awp_seq (awp_block (awp_seq (awp_seq (awp_region (aL_s true rfl rfl (fun _ => q_assign rfl) ?_)))))))
     refine aL_nil (thn_n (awp_block (awp_loopK [1, 2, 3, 4, 5, 6, 12, 13, 14] [0] [0] (fun (j : Nat) s => (j ≤ o.syms.l.length ∧ rootSyms x a b k o.syms.l j = false) ∧ s = ⟨[(1, true, x.objs.val), (2, true, x.keep.val), (3, true, x.choices.val), (4, true, .int .i64 a), (5, true, .int .i64 b), (6, true, .pointer (some ⟨b0_0, 0, none⟩)), (12, true, .bool false), (13, true, .int .i64 k), (14, true, .int .i64 j)], [x.ok], [Box b0_0 25 x.r.vs]⟩) (fun j => o.syms.l.length - j) rfl (⟨0, ⟨Nat.zero_le _, rfl⟩, rfl⟩) ?_)))
     rintro j s ⟨⟨hj, hnj⟩, rfl⟩
     refine awp_seq (awp_seq (awp_region (aL_s true rfl rfl (fun _ => q_move rfl) (aL_s true rfl rfl (fun _ => q_move rfl) (aL_s true rfl rfl (fun _ => q_move rfl) ?_)))))
     refine aL_E true rfl rfl (fun _ => q_indexAddrG Try.underlying26 tk53 rfl ((GLink.f_objs (.of (psAt 0 rfl)))) rfl (rows_get ho) rfl rfl) (fun h => absurd h (by decide)) (fun ⟨b9_3, o9_3⟩ => ?_)
     refine aL_s true rfl rfl (fun _ => q_fieldAddr (off := 2) (by kernel_rfl) rfl) ?_
     refine aL_s true rfl rfl (fun _ => q_loadD (o := 2) tk43 rfl (psAt 0 rfl) rfl rfl) (aL_s true rfl rfl (fun _ => q_lenS Try.underlying43 rfl) (aL_s true rfl rfl (fun _ => q_lss rfl rfl) (aL_nil (thn_n ?_))))
     refine awp_cond _ rfl (fun h4 => ?_) (fun h4 => ?_)
     ·skip
      have hj' : j < o.syms.l.length := by simp at h4; omega
      have hy := elt_nat hj'
      obtain ⟨y, hyy⟩ : ∃ y, elt o.syms.l (j : Int) = y := ⟨_, rfl⟩
      rw [hyy] at hy
      have hst := rootSyms_succ x a b k o.syms.l j
      rw [hyy, hnj] at hst
      refine awp_skip (thn_n (awp_seq (awp_block (awp_seq (awp_region (aL_s true rfl rfl (fun _ => q_move rfl) (aL_s true rfl rfl (fun _ => q_move rfl) ?_)))))))
      refine aL_E true rfl rfl (fun _ => q_indexAddrG Try.underlying26 tk53 rfl ((GLink.f_objs (.of (psAt 1 rfl)))) rfl (rows_get ho) rfl rfl) (fun h => absurd h (by decide)) (fun ⟨b11_2, o11_2⟩ => ?_)
      refine aL_s true rfl rfl (fun _ => q_fieldAddr (off := 2) (by kernel_rfl) rfl) ?_
      refine aL_s true rfl rfl (fun _ => q_loadD (o := 2) tk43 rfl (psAt 0 rfl) rfl rfl) (aL_s true rfl rfl (fun _ => q_move rfl) ?_)
      refine aL_E true rfl rfl (fun _ => q_indexAddrG Try.underlying43 tk88 rfl ((GObject.f_syms ((GLink.f_objsA (.of (psAt 2 rfl))).all ho))) rfl (rows_get hy) rfl rfl) (fun h => absurd h (by decide)) (fun ⟨b11_6, o11_6⟩ => ?_)
      refine aL_s true rfl rfl (fun _ => q_loadD (o := 0) tk88 rfl (psAt 0 rfl) rfl rfl) ?_
      refine aL_eff (q := true) rfl (x_alloc (zs := [.string .empty, .string .empty, .bool false, .int .i64 0, .int .i64 0, .int .i64 0, .int .i64 0, .int .i64 0, .int .i64 0, .int .i64 0]) (by kernel_rfl) rfl (fun b11_8 => ?_))
      refine aL_hp (by (try simp only [nM, nN]); rfl) ?_
      refine aL_eff rfl (x_store 1 tk88 rfl rfl rfl rfl ?_)
      refine aL_hp (by simp only [nK, nL]; rfl) ?_
      refine aL_nil (thn_n (awp_seq (awp_seq (awp_region (aL_s true rfl rfl (fun _ => q_move rfl) (aL_s true rfl rfl (fun _ => q_move rfl) (aL_s true rfl rfl (fun _ => q_move rfl) ?_)))))))
      refine aL_s true rfl rfl (fun _ => q_call (by kernel_rfl) rfl (fun w S fp hst => (con_rchosen x _ _).quiet1 (psAt 3 rfl) hst)) ?_
      refine aL_s true rfl rfl (fun _ => q_not rfl) (aL_s true rfl rfl (fun _ => q_move rfl) (aL_s _ rfl rfl (fun hc => q_move rfl) (aL_s _ rfl rfl (fun hc => q_move rfl) (aL_s _ rfl rfl (fun hc => q_move rfl) (aL_s _ rfl rfl (fun hc => q_move rfl) (aL_s _ rfl rfl (fun hc => q_move rfl) (aL_s _ rfl rfl (fun hc => q_move rfl) ?_)))))))
      refine aL_s _ rfl rfl (fun hc => q_move rfl) ?_
      refine aL_s _ rfl rfl (fun hc => q_call (by kernel_rfl) (evs_cons (ev_yes rfl hc) (evs_cons (ev_yes rfl hc) (evs_cons (ev_yes rfl hc) (evs_cons (ev_yes rfl hc) (evs_cons (ev_yes rfl hc) (evs_cons (ev_yes rfl hc) (evs_cons (ev_yes rfl hc) rfl))))))) (fun w S fp hst => (con_rleads x _ _ _ _ hkk).quiet1 (psAt 3 rfl) hst)) ?_
      refine aL_s _ rfl rfl (fun hc => q_not (ev_yes rfl hc)) (aL_s true rfl rfl (fun _ => q_or rfl rfl (fun h => gf rfl h)) (aL_nil (thn_n ?_)))
      refine awp_cond _ rfl (fun h5 => ?_) (fun h5 => ?_)
      ·skip
       have hch : (chosenF x k j && leadsF x k j a b) = false := by have h := h5; rw [← Bool.not_and] at h; unfold chosenF; simpa only [Bool.not_eq_true'] using h
       refine awp_exit (thn_e (blk_hit (thn_n (awp_region (aL_s true rfl rfl (fun _ => q_move rfl) ?_)))))
       refine aL_s true rfl rfl (fun _ => q_addi rfl rfl (by omega)) ?_
       refine aL_s true rfl rfl (fun _ => q_assign rfl) (aL_nil (thn_n ?_))
       refine ⟨[1, 2, 3, 4, 5, 6, 12, 13, 14], [0], [0], rfl, ?_⟩
       refine ⟨j + 1, ⟨⟨by omega, ?_⟩, rfl⟩, by omega⟩
       rw [hst]; unfold rootSymF; rw [hch]; rfl
      ·skip
       have hch : (chosenF x k j && leadsF x k j a b) = true := by have h := h5; rw [← Bool.not_and] at h; unfold chosenF; simpa only [Bool.not_eq_false'] using h
       refine awp_skip (thn_n (awp_seq (awp_region ?_)))
       refine aL_s true rfl rfl (fun _ => q_fieldAddr (off := 1) (by kernel_rfl) rfl) ?_
       refine aL_s true rfl rfl (fun _ => q_load 0 tk4 rfl rfl rfl) (aL_s true rfl rfl (fun _ => q_not rfl) (aL_s true rfl rfl (fun _ => q_move rfl) ?_))
       refine aL_s _ rfl rfl (fun hc => q_fieldAddr (off := 0) (by kernel_rfl) rfl) ?_
       refine aL_s _ rfl rfl (fun hc => q_load 1 tk9 (ev_yes rfl hc) rfl rfl) ?_
       refine aL_s _ rfl rfl (fun hc => q_fieldAddr (off := 4) (by kernel_rfl) rfl) ?_
       refine aL_s _ rfl rfl (fun hc => q_load 0 tk9 (ev_yes rfl hc) rfl rfl) (aL_s _ rfl rfl (fun hc => qs_eql (ev_yes rfl hc) (ev_yes rfl hc)) (aL_s true rfl rfl (fun _ => q_and rfl rfl (fun h => gt rfl h)) (aL_s true rfl rfl (fun _ => q_move rfl) ?_)))
       refine aL_s _ rfl rfl (fun hc => q_fieldAddr (off := 1) (by kernel_rfl) rfl) ?_
       refine aL_s _ rfl rfl (fun hc => q_load 1 tk9 (ev_yes rfl hc) rfl rfl) (aL_s _ rfl rfl (fun hc => qs_eql (ev_yes rfl hc) rfl) (aL_s _ rfl rfl (fun hc => q_move (ev_yes rfl hc)) ?_))
       refine aL_s _ rfl rfl (fun hc => q_fieldAddr (off := 2) (by kernel_rfl) rfl) ?_
       refine aL_s _ rfl rfl (fun hc => q_load 1 tk4 (ev_yes rfl hc) rfl rfl) (aL_s _ rfl rfl (fun hc => q_or (ev_yes rfl hc) rfl (fun h => gf hc h)) (aL_s true rfl rfl (fun _ => q_and rfl rfl (fun h => gt rfl h)) (aL_s true rfl rfl (fun _ => q_move rfl) (aL_s _ rfl rfl (fun hc => q_move rfl) ?_))))
       refine aL_s _ rfl rfl (fun hc => q_fieldAddr (off := 0) (by kernel_rfl) rfl) ?_
       refine aL_s _ rfl rfl (fun hc => q_load 1 tk9 (ev_yes rfl hc) rfl rfl) ?_
       refine aL_s _ rfl rfl (fun hc => q_call (by kernel_rfl) (evs_cons (ev_yes rfl hc) (evs_cons (ev_yes rfl hc) rfl)) (fun w S fp hst => (con_rhidden x _).quiet1 (psAt 3 rfl) hst)) ?_
       refine aL_s _ rfl rfl (fun hc => q_not (ev_yes rfl hc)) (aL_s true rfl rfl (fun _ => q_or rfl rfl (fun h => gf rfl h)) (aL_nil (thn_n ?_)))
       refine awp_cond _ rfl (fun h6 => ?_) (fun h6 => ?_)
       ·skip
        have hen : (entryF x y || !hiddenF x.objs.l y.name) = true := by rw [← entry_eq]; exact h6
        refine awp_seq (awp_region (aL_s true rfl rfl (fun _ => q_assign rfl) (aL_nil (thn_n (awp_ret (blk_r (thn_r ?_)))))))
        refine thn_r (blk_r (thn_r (blk_r (thn_r (thn_r (blk_r (thn_r ?_)))))))
        refine fin1 [] [] rfl Try.results15 rfl ?_ (.inr rfl)
        have hs : rootSymF x a b k j y = true := by unfold rootSymF; rw [hch, hen]; rfl
        have h2 : rootSyms x a b k o.syms.l o.syms.l.length = true := List.any_eq_true.2 ⟨j, List.mem_range.2 hj', by rw [hyy]; exact hs⟩
        rw [rootObs_mono hk' (by rw [hoo, h2]; rfl)]
       ·skip
        have hen : (entryF x y || !hiddenF x.objs.l y.name) = false := by rw [← entry_eq]; exact h6
        refine awp_skip (blk_n (thn_n (awp_region (aL_s true rfl rfl (fun _ => q_move rfl) ?_))))
        refine aL_s true rfl rfl (fun _ => q_addi rfl rfl (by omega)) ?_
        refine aL_s true rfl rfl (fun _ => q_assign rfl) (aL_nil (thn_n ?_))
        refine ⟨[1, 2, 3, 4, 5, 6, 12, 13, 14], [0], [0], rfl, ?_⟩
        refine ⟨j + 1, ⟨⟨by omega, ?_⟩, rfl⟩, by omega⟩
        rw [hst]; unfold rootSymF; rw [hch, hen]; rfl
     ·skip
      have hjl : j = o.syms.l.length := by simp at h4; omega
      subst hjl
      refine awp_exit (thn_e (thn_e (blk_hit (thn_n (awp_seq (awp_region (aL_s true rfl rfl (fun _ => q_assign rfl) ?_)))))))
      refine aL_nil (thn_n (awp_block (awp_loopK [1, 2, 3, 4, 5, 6, 12, 13, 16] [0] [0] (fun (i : Nat) s => (i ≤ o.inits.l.length ∧ rootInits x a b k (o.inits.l.take i) = false) ∧ s = ⟨[(1, true, x.objs.val), (2, true, x.keep.val), (3, true, x.choices.val), (4, true, .int .i64 a), (5, true, .int .i64 b), (6, true, .pointer (some ⟨b0_0, 0, none⟩)), (12, true, .bool false), (13, true, .int .i64 k), (16, true, .int .i64 i)], [x.ok], [Box b0_0 25 x.r.vs]⟩) (fun i => o.inits.l.length - i) rfl (⟨0, ⟨Nat.zero_le _, rfl⟩, rfl⟩) ?_)))
      rintro i s ⟨⟨hi, hni⟩, rfl⟩
      refine awp_seq (awp_seq (awp_region (aL_s true rfl rfl (fun _ => q_move rfl) (aL_s true rfl rfl (fun _ => q_move rfl) (aL_s true rfl rfl (fun _ => q_move rfl) ?_)))))
      refine aL_E true rfl rfl (fun _ => q_indexAddrG Try.underlying26 tk53 rfl ((GLink.f_objs (.of (psAt 0 rfl)))) rfl (rows_get ho) rfl rfl) (fun h => absurd h (by decide)) (fun ⟨b16_3, o16_3⟩ => ?_)
      refine aL_s true rfl rfl (fun _ => q_fieldAddr (off := 5) (by kernel_rfl) rfl) ?_
      refine aL_s true rfl rfl (fun _ => q_loadD (o := 5) tk46 rfl (psAt 0 rfl) rfl rfl) (aL_s true rfl rfl (fun _ => q_lenS Try.underlying46 rfl) (aL_s true rfl rfl (fun _ => q_lss rfl rfl) (aL_nil (thn_n ?_))))
      refine awp_cond _ rfl (fun h7 => ?_) (fun h7 => ?_)
      ·skip
       have hi' : i < o.inits.l.length := by simp at h7; omega
       obtain ⟨z, hz⟩ : ∃ z, o.inits.l[i]? = some z := ⟨_, List.getElem?_eq_getElem hi'⟩
       refine awp_skip (thn_n (awp_seq (awp_block (awp_seq (awp_region (aL_s true rfl rfl (fun _ => q_move rfl) (aL_s true rfl rfl (fun _ => q_move rfl) ?_)))))))
       refine aL_s true rfl rfl (fun _ => q_move rfl) (aL_s true rfl rfl (fun _ => q_move rfl) (aL_s true rfl rfl (fun _ => q_move rfl) (aL_s true rfl rfl (fun _ => q_move rfl) ?_)))
       refine aL_E true rfl rfl (fun _ => q_indexAddrG Try.underlying26 tk53 rfl ((GLink.f_objs (.of (psAt 1 rfl)))) rfl (rows_get ho) rfl rfl) (fun h => absurd h (by decide)) (fun ⟨b18_6, o18_6⟩ => ?_)
       refine aL_s true rfl rfl (fun _ => q_fieldAddr (off := 5) (by kernel_rfl) rfl) ?_
       refine aL_s true rfl rfl (fun _ => q_loadD (o := 5) tk46 rfl (psAt 0 rfl) rfl rfl) (aL_s true rfl rfl (fun _ => q_move rfl) ?_)
       refine aL_E true rfl rfl (fun _ => q_indexAddrG Try.underlying46 tk92 rfl ((GObject.f_inits ((GLink.f_objsA (.of (psAt 2 rfl))).all ho))) rfl (rows_get hz) rfl rfl) (fun h => absurd h (by decide)) (fun ⟨b18_10, o18_10⟩ => ?_)
       refine aL_s true rfl rfl (fun _ => q_fieldAddr (off := 0) (by kernel_rfl) rfl) ?_
       refine aL_s true rfl rfl (fun _ => q_loadD (o := 0) tk3 rfl (psAt 0 rfl) rfl rfl) (aL_s true rfl rfl (fun _ => q_move rfl) (aL_s true rfl rfl (fun _ => q_move rfl) ?_))
       refine aL_s true rfl rfl (fun _ => q_call (by kernel_rfl) rfl (fun w S fp hst => (con_rleads x _ _ _ _ hkk).quiet1 (psAt 3 rfl) hst)) ?_
       refine aL_nil (thn_n ?_)
       refine awp_cond _ rfl (fun h8 => ?_) (fun h8 => ?_)
       ·skip
        refine awp_seq (awp_region (aL_s true rfl rfl (fun _ => q_assign rfl) (aL_nil (thn_n (awp_ret (blk_r (thn_r ?_)))))))
        refine thn_r (blk_r (blk_r (thn_r (thn_r (blk_r (thn_r ?_))))))
        refine fin1 [] [] rfl Try.results15 rfl ?_ (.inr rfl)
        have h2 : rootInits x a b k o.inits.l = true := List.any_eq_true.2 ⟨z, List.mem_of_getElem? hz, h8⟩
        rw [rootObs_mono hk' (by rw [hoo, h2, Bool.or_true])]
       ·skip
        refine awp_skip (blk_n (thn_n (awp_region (aL_s true rfl rfl (fun _ => q_move rfl) ?_))))
        refine aL_s true rfl rfl (fun _ => q_addi rfl rfl (by omega)) ?_
        refine aL_s true rfl rfl (fun _ => q_assign rfl) (aL_nil (thn_n ?_))
        refine ⟨[1, 2, 3, 4, 5, 6, 12, 13, 16], [0], [0], rfl, ?_⟩
        refine ⟨i + 1, ⟨⟨by omega, ?_⟩, rfl⟩, by omega⟩
        unfold rootInits at hni ⊢
        rw [List.take_add_one, hz, List.any_append, hni]; simpa using h8
      ·skip
       have hil : o.inits.l.take i = o.inits.l := List.take_of_length_le (by simp at h7; omega)
       rw [hil] at hni
       refine awp_exit (thn_e (thn_e (blk_hit (blk_n (thn_n (awp_region (aL_s true rfl rfl (fun _ => q_move rfl) ?_)))))))
       refine aL_s true rfl rfl (fun _ => q_addi rfl rfl (by omega)) ?_
       refine aL_s true rfl rfl (fun _ => q_assign rfl) (aL_nil (thn_n ?_))
       refine ⟨[1, 2, 3, 4, 5, 6, 12, 13], [0], [0], rfl, ?_⟩
       refine ⟨k + 1, ⟨⟨by omega, ?_⟩, rfl⟩, by omega⟩
       rw [rootObs_succ, hno, hoo, hnj, hni]; rfl
    ·skip
     have hkl : k = x.objs.l.length := by simp at h3; omega
     subst hkl
     refine awp_exit (thn_e (thn_e (blk_hit (thn_n (awp_seq (awp_region (aL_s true rfl rfl (fun _ => q_assign rfl) ?_)))))))
     refine aL_nil (thn_n (awp_ret ?_))
     refine fin1 [] [] rfl Try.results15 rfl ?_ (.inr rfl)
     rw [hno]
def needsRel (x : GLink) (a b o s : Int) (l : List GRel) : Bool := l.any fun r => decide (r.sec = b) && leadsF x a r.sym o s
def needsCv (x : GLink) (a b o s : Int) (l : List GConvert) : Bool := l.any fun c => decide (c.sec = b) && leadsF x a c.code o s
def needsF (x : GLink) (a b o s : Int) : Bool := keptF x.objs.l x.keep.l a b && (needsRel x a b o s (elt x.objs.l a).rels.l || needsCv x a b o s (elt x.objs.l a).converts.l)
theorem con_needs (x : GLink) (a b o s : Int) : Con Try.prog 18 [x.objs.val, x.keep.val, x.choices.val, .int .i64 a, .int .i64 b, .int .i64 o, .int .i64 s] [x.ok] [] fun r _ _ => r = .bool (needsF x a b o s) := by
  refine Con.enter Try.func18 rfl (by simp [Try.ntmps18]) ?_
  show awp _ _ _ _ ⟨[(0, true, _), (1, true, _), (2, true, _), (3, true, _), (4, true, _), (5, true, _), (6, true, _)], _, _⟩
  refine awp_seq (awp_region (aL_s true rfl rfl (fun _ => q_assign rfl) (aL_nil (thn_n (awp_seq (awp_seq (awp_region ?_)))))))
  refine aL_s true rfl rfl (fun _ => q_move rfl) (aL_s true rfl rfl (fun _ => q_move rfl) (aL_s true rfl rfl (fun _ => q_move rfl) (aL_s true rfl rfl (fun _ => q_move rfl) ?_)))
  refine aL_s true rfl rfl (fun _ => q_call (by kernel_rfl) rfl (fun w S fp hst => (con_rkept x _ _).quiet1 (psAt 0 rfl) hst)) ?_
  refine aL_s true rfl rfl (fun _ => q_not rfl) (aL_nil (thn_n ?_))
  refine awp_cond _ rfl (fun h1 => ?_) (fun h1 => ?_)
  ·skip
   have hkp : keptF x.objs.l x.keep.l a b = false := by simpa using h1
   refine awp_seq (awp_region (aL_s true rfl rfl (fun _ => q_assign rfl) (aL_nil (thn_n (awp_ret (thn_r ?_))))))
   refine fin1 [] [] rfl Try.results18 rfl ?_ (.inr rfl)
   unfold needsF; rw [hkp]; rfl
  ·skip
   have hkp : keptF x.objs.l x.keep.l a b = true := by simpa using h1
   have hki := keptF_iff hkp
   obtain ⟨oo, hoo⟩ : ∃ oo, elt x.objs.l a = oo := ⟨_, rfl⟩
   have hn : needsF x a b o s = (needsRel x a b o s oo.rels.l || needsCv x a b o s oo.converts.l) := by unfold needsF; rw [hkp, hoo]; rfl
   rw [hn]
   have hok : Ent [x.ok] (GObject.ok oo) := by rw [← hoo]; exact (GLink.f_objsA (.of (psAt 0 rfl))).elt (i := a) (by omega) (by omega)
   have hgo : x.objs.l[a.toNat]? = some oo := by rw [← hoo]; exact elt_some (by omega) (by omega)
   refine awp_lenE (GObject.f_rels hok) (fun hlenr => ?_)
   refine awp_lenE (GObject.f_converts hok) (fun hlenc => ?_)
   refine awp_skip (thn_n (awp_seq (awp_region (aL_s true rfl rfl (fun _ => q_move rfl) (aL_s true rfl rfl (fun _ => q_move rfl) ?_)))))
   refine aL_E true rfl rfl (fun _ => q_indexAddrG Try.underlying26 tk53 rfl ((GLink.f_objs (.of (psAt 0 rfl)))) rfl (rows_get hgo) (by omega) rfl) (fun h => absurd h (by decide)) (fun ⟨b3_2, o3_2⟩ => ?_)
   refine aL_s true rfl rfl (fun _ => q_loadD (o := 0) tk53 rfl (psAt 0 rfl) rfl rfl) ?_
   refine aL_eff (q := true) rfl (x_alloc (zs := [.string .empty, .slice none 0 0, .slice none 0 0, .slice none 0 0, .slice none 0 0, .slice none 0 0, .slice none 0 0, .slice none 0 0, .slice none 0 0, .slice none 0 0, .slice none 0 0]) (by kernel_rfl) rfl (fun b3_4 => ?_))
   refine aL_hp (by (try simp only [nM, nN]); rfl) ?_
   refine aL_eff rfl (x_store 0 tk53 rfl rfl rfl rfl ?_)
   refine aL_hp (by simp only [nK, nL]; rfl) ?_
   refine aL_nil (thn_n (awp_seq (awp_seq (awp_region (aL_s true rfl rfl (fun _ => q_assign rfl) (aL_nil (thn_n ?_)))))))
   refine awp_block (awp_loopK [0, 1, 2, 3, 4, 5, 6, 14, 15, 16] [0] [0] (fun (k : Nat) st => (k ≤ oo.rels.l.length ∧ needsRel x a b o s (oo.rels.l.take k) = false) ∧ st = ⟨[(0, true, x.objs.val), (1, true, x.keep.val), (2, true, x.choices.val), (3, true, .int .i64 a), (4, true, .int .i64 b), (5, true, .int .i64 o), (6, true, .int .i64 s), (14, true, .bool false), (15, true, .pointer (some ⟨b3_4, 0, none⟩)), (16, true, .int .i64 k)], [x.ok], [Box b3_4 53 oo.vs]⟩) (fun k => oo.rels.l.length - k) rfl (⟨0, ⟨Nat.zero_le _, rfl⟩, rfl⟩) ?_)
   rintro k st ⟨⟨hk, hno⟩, rfl⟩
   refine awp_seq (awp_seq (awp_region (aL_s true rfl rfl (fun _ => q_move rfl) ?_)))
   refine aL_s true rfl rfl (fun _ => q_fieldAddr (off := 3) (by kernel_rfl) rfl) ?_
   refine aL_s true rfl rfl (fun _ => q_load 0 tk44 rfl rfl rfl) (aL_s true rfl rfl (fun _ => q_lenS Try.underlying44 rfl) (aL_s true rfl rfl (fun _ => q_lss rfl rfl) (aL_nil (thn_n ?_))))
   refine awp_cond _ rfl (fun h2 => ?_) (fun h2 => ?_)
   ·skip
    have hk' : k < oo.rels.l.length := by simp at h2; omega
    obtain ⟨r, hr⟩ : ∃ r, oo.rels.l[k]? = some r := ⟨_, List.getElem?_eq_getElem hk'⟩
    refine awp_skip (thn_n (awp_seq (awp_block (awp_seq (awp_region ?_)))))
    refine aL_s true rfl rfl (fun _ => q_fieldAddr (off := 3) (by kernel_rfl) rfl) ?_
    refine aL_s true rfl rfl (fun _ => q_load 0 tk44 rfl rfl rfl) (aL_s true rfl rfl (fun _ => q_move rfl) ?_)
    refine aL_E true rfl rfl (fun _ => q_indexAddrG Try.underlying44 tk62 rfl ((GObject.f_rels (Ent.allm (f := GObject.ok) (GLink.f_objsA (.of (psAt 0 rfl))) (List.mem_of_getElem? hgo)))) rfl (rows_get hr) rfl rfl) (fun h => absurd h (by decide)) (fun ⟨b7_3, o7_3⟩ => ?_)
    refine aL_s true rfl rfl (fun _ => q_fieldAddr (off := 0) (by kernel_rfl) rfl) ?_
    refine aL_s true rfl rfl (fun _ => q_loadD (o := 0) tk3 rfl (psAt 0 rfl) rfl rfl) (aL_s true rfl rfl (fun _ => q_move rfl) (aL_s true rfl rfl (fun _ => q_eql rfl rfl) (aL_s true rfl rfl (fun _ => q_move rfl) (aL_s _ rfl rfl (fun hc => q_move rfl) (aL_s _ rfl rfl (fun hc => q_move rfl) (aL_s _ rfl rfl (fun hc => q_move rfl) (aL_s _ rfl rfl (fun hc => q_move rfl) ?_)))))))
    refine aL_s _ rfl rfl (fun hc => q_fieldAddr (off := 3) (by kernel_rfl) rfl) ?_
    refine aL_s _ rfl rfl (fun hc => q_load 0 tk44 (ev_yes rfl hc) rfl rfl) (aL_s _ rfl rfl (fun hc => q_move rfl) ?_)
    refine aL_E _ rfl rfl (fun hc => q_indexAddrG Try.underlying44 tk62 (ev_yes rfl hc) ((GObject.f_rels (Ent.allm (f := GObject.ok) (GLink.f_objsA (.of (psAt 1 rfl))) (List.mem_of_getElem? hgo)))) (ev_yes rfl hc) (rows_get hr) rfl rfl) (fun _ => ⟨(0, 0)⟩) (fun ⟨b7_16, o7_16⟩ => ?_)
    refine aL_s _ rfl rfl (fun hc => q_fieldAddr (off := 3) (by kernel_rfl) (ev_yes rfl hc)) ?_
    refine aL_s _ rfl rfl (fun hc => q_loadD (o := 3) tk3 (ev_yes rfl hc) (psAt 0 rfl) hc rfl) (aL_s _ rfl rfl (fun hc => q_move rfl) (aL_s _ rfl rfl (fun hc => q_move rfl) ?_))
    refine aL_s _ rfl rfl (fun hc => q_call (by kernel_rfl) (evs_cons (ev_yes rfl hc) (evs_cons (ev_yes rfl hc) (evs_cons (ev_yes rfl hc) (evs_cons (ev_yes rfl hc) (evs_cons (ev_yes rfl hc) (evs_cons (ev_yes rfl hc) (evs_cons (ev_yes rfl hc) rfl))))))) (fun w S fp hst => (con_rleads x _ _ _ _ hki.1).quiet1 (psAt 2 rfl) hst)) ?_
    refine aL_s true rfl rfl (fun _ => q_and rfl rfl (fun h => gt rfl h)) (aL_nil (thn_n ?_))
    refine awp_cond _ rfl (fun h3 => ?_) (fun h3 => ?_)
    ·skip
     refine awp_seq (awp_region (aL_s true rfl rfl (fun _ => q_assign rfl) (aL_nil (thn_n (awp_ret (blk_r (thn_r ?_)))))))
     refine thn_r (blk_r (thn_r ?_))
     refine fin1 [] [] rfl Try.results18 rfl ?_ (.inr rfl)
     rw [show needsRel x a b o s oo.rels.l = true from List.any_eq_true.2 ⟨r, List.mem_of_getElem? hr, h3⟩]; rfl
    ·skip
     refine awp_skip (blk_n (thn_n (awp_region (aL_s true rfl rfl (fun _ => q_move rfl) ?_))))
     refine aL_s true rfl rfl (fun _ => q_addi rfl rfl (by omega)) ?_
     refine aL_s true rfl rfl (fun _ => q_assign rfl) (aL_nil (thn_n ?_))
     refine ⟨[0, 1, 2, 3, 4, 5, 6, 14, 15, 16], [0], [0], rfl, ?_⟩
     refine ⟨k + 1, ⟨⟨by omega, ?_⟩, rfl⟩, by omega⟩
     unfold needsRel at hno ⊢
     rw [List.take_add_one, hr, List.any_append, hno]; simpa using h3
   ·skip
    have hkl : oo.rels.l.take k = oo.rels.l := List.take_of_length_le (by simp at h2; omega)
    rw [hkl] at hno
    rw [hno, Bool.false_or]
    refine awp_exit (thn_e (thn_e (blk_hit (thn_n (awp_seq (awp_seq (awp_region ?_)))))))
    refine aL_s true rfl rfl (fun _ => q_assign rfl) (aL_nil (thn_n (awp_block (awp_loopK [0, 1, 2, 3, 4, 5, 6, 14, 15, 17] [0] [0] (fun (k : Nat) st => (k ≤ oo.converts.l.length ∧ needsCv x a b o s (oo.converts.l.take k) = false) ∧ st = ⟨[(0, true, x.objs.val), (1, true, x.keep.val), (2, true, x.choices.val), (3, true, .int .i64 a), (4, true, .int .i64 b), (5, true, .int .i64 o), (6, true, .int .i64 s), (14, true, .bool false), (15, true, .pointer (some ⟨b3_4, 0, none⟩)), (17, true, .int .i64 k)], [x.ok], [Box b3_4 53 oo.vs]⟩) (fun k => oo.converts.l.length - k) rfl (⟨0, ⟨Nat.zero_le _, rfl⟩, rfl⟩) ?_))))
    rintro k2 st ⟨⟨hk2, hno2⟩, rfl⟩
    refine awp_seq (awp_seq (awp_region (aL_s true rfl rfl (fun _ => q_move rfl) ?_)))
    refine aL_s true rfl rfl (fun _ => q_fieldAddr (off := 10) (by kernel_rfl) rfl) ?_
    refine aL_s true rfl rfl (fun _ => q_load 0 tk51 rfl rfl rfl) (aL_s true rfl rfl (fun _ => q_lenS Try.underlying51 rfl) (aL_s true rfl rfl (fun _ => q_lss rfl rfl) (aL_nil (thn_n ?_))))
    refine awp_cond _ rfl (fun h4 => ?_) (fun h4 => ?_)
    ·skip
     have hk2' : k2 < oo.converts.l.length := by simp at h4; omega
     obtain ⟨c, hc0⟩ : ∃ c, oo.converts.l[k2]? = some c := ⟨_, List.getElem?_eq_getElem hk2'⟩
     refine awp_skip (thn_n (awp_seq (awp_block (awp_seq (awp_region ?_)))))
     refine aL_s true rfl rfl (fun _ => q_fieldAddr (off := 10) (by kernel_rfl) rfl) ?_
     refine aL_s true rfl rfl (fun _ => q_load 0 tk51 rfl rfl rfl) (aL_s true rfl rfl (fun _ => q_move rfl) ?_)
     refine aL_E true rfl rfl (fun _ => q_indexAddrG Try.underlying51 tk65 rfl ((GObject.f_converts (Ent.allm (f := GObject.ok) (GLink.f_objsA (.of (psAt 0 rfl))) (List.mem_of_getElem? hgo)))) rfl (rows_get hc0) rfl rfl) (fun h => absurd h (by decide)) (fun ⟨b12_3, o12_3⟩ => ?_)
     refine aL_s true rfl rfl (fun _ => q_fieldAddr (off := 0) (by kernel_rfl) rfl) ?_
     refine aL_s true rfl rfl (fun _ => q_loadD (o := 0) tk3 rfl (psAt 0 rfl) rfl rfl) (aL_s true rfl rfl (fun _ => q_move rfl) (aL_s true rfl rfl (fun _ => q_eql rfl rfl) (aL_s true rfl rfl (fun _ => q_move rfl) (aL_s _ rfl rfl (fun hc => q_move rfl) (aL_s _ rfl rfl (fun hc => q_move rfl) (aL_s _ rfl rfl (fun hc => q_move rfl) (aL_s _ rfl rfl (fun hc => q_move rfl) ?_)))))))
     refine aL_s _ rfl rfl (fun hc => q_fieldAddr (off := 10) (by kernel_rfl) rfl) ?_
     refine aL_s _ rfl rfl (fun hc => q_load 0 tk51 (ev_yes rfl hc) rfl rfl) (aL_s _ rfl rfl (fun hc => q_move rfl) ?_)
     refine aL_E _ rfl rfl (fun hc => q_indexAddrG Try.underlying51 tk65 (ev_yes rfl hc) ((GObject.f_converts (Ent.allm (f := GObject.ok) (GLink.f_objsA (.of (psAt 1 rfl))) (List.mem_of_getElem? hgo)))) (ev_yes rfl hc) (rows_get hc0) rfl rfl) (fun _ => ⟨(0, 0)⟩) (fun ⟨b12_16, o12_16⟩ => ?_)
     refine aL_s _ rfl rfl (fun hc => q_fieldAddr (off := 3) (by kernel_rfl) (ev_yes rfl hc)) ?_
     refine aL_s _ rfl rfl (fun hc => q_loadD (o := 3) tk3 (ev_yes rfl hc) (psAt 0 rfl) hc rfl) (aL_s _ rfl rfl (fun hc => q_move rfl) (aL_s _ rfl rfl (fun hc => q_move rfl) ?_))
     refine aL_s _ rfl rfl (fun hc => q_call (by kernel_rfl) (evs_cons (ev_yes rfl hc) (evs_cons (ev_yes rfl hc) (evs_cons (ev_yes rfl hc) (evs_cons (ev_yes rfl hc) (evs_cons (ev_yes rfl hc) (evs_cons (ev_yes rfl hc) (evs_cons (ev_yes rfl hc) rfl))))))) (fun w S fp hst => (con_rleads x _ _ _ _ hki.1).quiet1 (psAt 2 rfl) hst)) ?_
     refine aL_s true rfl rfl (fun _ => q_and rfl rfl (fun h => gt rfl h)) (aL_nil (thn_n ?_))
     refine awp_cond _ rfl (fun h5 => ?_) (fun h5 => ?_)
     ·skip
      refine awp_seq (awp_region (aL_s true rfl rfl (fun _ => q_assign rfl) (aL_nil (thn_n (awp_ret (blk_r (thn_r ?_)))))))
      refine thn_r (blk_r (thn_r ?_))
      refine fin1 [] [] rfl Try.results18 rfl ?_ (.inr rfl)
      rw [show needsCv x a b o s oo.converts.l = true from List.any_eq_true.2 ⟨c, List.mem_of_getElem? hc0, h5⟩]
     ·skip
      refine awp_skip (blk_n (thn_n (awp_region (aL_s true rfl rfl (fun _ => q_move rfl) ?_))))
      refine aL_s true rfl rfl (fun _ => q_addi rfl rfl (by omega)) ?_
      refine aL_s true rfl rfl (fun _ => q_assign rfl) (aL_nil (thn_n ?_))
      refine ⟨[0, 1, 2, 3, 4, 5, 6, 14, 15, 17], [0], [0], rfl, ?_⟩
      refine ⟨k2 + 1, ⟨⟨by omega, ?_⟩, rfl⟩, by omega⟩
      unfold needsCv at hno2 ⊢
      rw [List.take_add_one, hc0, List.any_append, hno2]; simpa using h5
    ·skip
     have hkl2 : oo.converts.l.take k2 = oo.converts.l := List.take_of_length_le (by simp at h4; omega)
     refine awp_exit (thn_e (thn_e (blk_hit (thn_n (awp_seq (awp_region (aL_s true rfl rfl (fun _ => q_assign rfl) ?_)))))))
     refine aL_nil (thn_n (awp_ret ?_))
     refine fin1 [] [] rfl Try.results18 rfl ?_ (.inr rfl)
     rw [hkl2] at hno2; rw [hno2]
def sameF (a b : List (List Bool)) : Bool := decide (a = b)
theorem con_same (a b : Sl (Sl Bool)) : Con Try.prog 11 [a.val, b.val] [TabF a, TabF b] [] fun r _ _ => r = .bool (sameF (tabL a) (tabL b)) := by
  refine Con.enter Try.func11 rfl (by simp [Try.ntmps11]) ?_
  show awp _ _ _ _ ⟨[(0, true, _), (1, true, _)], _, _⟩
  refine awp_lenE (.left (.of (psAt 0 rfl))) (fun hlen => ?_)
  refine awp_seq (awp_region (aL_s true rfl rfl (fun _ => q_assign rfl) (aL_nil (thn_n (awp_seq (awp_seq (awp_region ?_)))))))
  refine aL_s true rfl rfl (fun _ => q_move rfl) (aL_s true rfl rfl (fun _ => q_lenS Try.underlying27 rfl) (aL_s true rfl rfl (fun _ => q_move rfl) (aL_s true rfl rfl (fun _ => q_lenS Try.underlying27 rfl) (aL_s true rfl rfl (fun _ => q_neq rfl rfl) (aL_nil (thn_n ?_))))))
  refine awp_cond _ rfl (fun h1 => ?_) (fun h1 => ?_)
  ·skip
   have hne : a.l.length ≠ b.l.length := by simp at h1; omega
   refine awp_seq (awp_region (aL_s true rfl rfl (fun _ => q_assign rfl) (aL_nil (thn_n (awp_ret (thn_r ?_))))))
   refine fin1 [] [] rfl Try.results11 rfl ?_ (.inr rfl)
   rw [show sameF (tabL a) (tabL b) = false from decide_eq_false fun h => hne (by have := congrArg List.length h; simpa using this)]
  ·skip
   have hle : a.l.length = b.l.length := by simp at h1; omega
   refine awp_skip (thn_n (awp_seq (awp_seq (awp_region (aL_s true rfl rfl (fun _ => q_assign rfl) (aL_nil (thn_n ?_)))))))
   refine awp_block (awp_loopK [0, 1, 4, 5] [1, 0] [] (fun (k : Nat) st => (k ≤ a.l.length ∧ (tabL a).take k = (tabL b).take k) ∧ st = ⟨[(0, true, a.val), (1, true, b.val), (4, true, .bool false), (5, true, .int .i64 k)], [TabF a, TabF b], []⟩) (fun k => a.l.length - k) rfl (⟨0, ⟨Nat.zero_le _, rfl⟩, rfl⟩) ?_)
   rintro k st ⟨⟨hk, heq⟩, rfl⟩
   refine awp_seq (awp_seq (awp_region (aL_s true rfl rfl (fun _ => q_move rfl) (aL_s true rfl rfl (fun _ => q_move rfl) (aL_s true rfl rfl (fun _ => q_lenS Try.underlying27 rfl) (aL_s true rfl rfl (fun _ => q_lss rfl rfl) (aL_nil ?_)))))))
   refine thn_n ?_
   refine awp_cond _ rfl (fun h2 => ?_) (fun h2 => ?_)
   ·skip
    have hk' : k < a.l.length := by simp at h2; omega
    obtain ⟨ra, hra⟩ : ∃ r, a.l[k]? = some r := ⟨_, List.getElem?_eq_getElem hk'⟩
    obtain ⟨rb, hrb⟩ : ∃ r, b.l[k]? = some r := ⟨_, List.getElem?_eq_getElem (by omega)⟩
    refine awp_lenE (Ent.all (f := ShF fun b : Bool => [.v (.bool b)]) (Ent.right (.of (psAt 0 rfl))) hra) (fun hlen2 => ?_)
    have hsame : sameF (tabL a) (tabL b) = true → ra.l = rb.l := fun h => by
      have h0 := of_decide_eq_true h
      have h1 : (tabL a)[k]? = some ra.l := by simp [tabL, hra]
      have h2 : (tabL b)[k]? = some rb.l := by simp [tabL, hrb]
      rw [h0, h2] at h1; exact (Option.some.inj h1).symm
    refine awp_skip (thn_n (awp_seq (awp_block (awp_seq (awp_seq ?_)))))
    refine awp_drawn [] (by kernel_rfl) ?_
    show aB _ _ _ _ _ 11 #[false, false, false, false, false, false, false, false, false, false, false] _
    refine aB_s 0 rfl (by kernel_rfl) true rfl rfl (fun _ => q_move rfl) ?_
    refine aB_hp (by simp only [nO, nK, nL]; rfl) rfl ?_
    refine aB_s 1 rfl (by kernel_rfl) true rfl rfl (fun _ => q_move rfl) ?_
    refine aB_hp (by simp only [nO, nK, nL]; rfl) rfl ?_
    refine aB_E 2 rfl (by kernel_rfl) true rfl rfl (fun _ => q_indexAddrG Try.underlying27 tk54 rfl ((.left (.of (psAt 0 rfl)))) rfl (rows_get hra) rfl rfl) (fun h => absurd h (by decide)) (fun ⟨b6_2, o6_2⟩ => ?_)
    refine aB_hp (by simp only [nO, nK, nL]; rfl) rfl ?_
    refine aB_s 3 rfl (by kernel_rfl) true rfl rfl (fun _ => q_loadD (o := 0) tk54 rfl (psAt 0 rfl) rfl rfl) ?_
    refine aB_hp (by simp only [nO, nK, nL]; rfl) rfl ?_
    refine aB_s 4 rfl (by kernel_rfl) true rfl rfl (fun _ => q_lenS Try.underlying54 rfl) ?_
    refine aB_hp (by simp only [nO, nK, nL]; rfl) rfl ?_
    refine aB_s 5 rfl (by kernel_rfl) true rfl rfl (fun _ => q_move rfl) ?_
    refine aB_hp (by simp only [nO, nK, nL]; rfl) rfl ?_
    refine aB_s 6 rfl (by kernel_rfl) true rfl rfl (fun _ => q_move rfl) ?_
    refine aB_hp (by simp only [nO, nK, nL]; rfl) rfl ?_
    refine aB_E 7 rfl (by kernel_rfl) true rfl rfl (fun _ => q_indexAddrG Try.underlying27 tk54 rfl ((.left (.of (psAt 2 rfl)))) rfl (rows_get hrb) rfl rfl) (fun h => absurd h (by decide)) (fun ⟨b6_7, o6_7⟩ => ?_)
    refine aB_hp (by simp only [nO, nK, nL]; rfl) rfl ?_
    refine aB_s 8 rfl (by kernel_rfl) true rfl rfl (fun _ => q_loadD (o := 0) tk54 rfl (psAt 0 rfl) rfl rfl) ?_
    refine aB_hp (by simp only [nO, nK, nL]; rfl) rfl ?_
    refine aB_s 9 rfl (by kernel_rfl) true rfl rfl (fun _ => q_lenS Try.underlying54 rfl) ?_
    refine aB_hp (by simp only [nO, nK, nL]; rfl) rfl ?_
    refine aB_s 10 rfl (by kernel_rfl) true rfl rfl (fun _ => q_neq rfl rfl) ?_
    refine aB_hp (by simp only [nO, nK, nL]; rfl) rfl ?_
    refine aB_nil (by kernel_rfl) ?_
    refine thn_n ?_
    refine awp_cond _ rfl (fun h3 => ?_) (fun h3 => ?_)
    ·skip
     have hne : ra.l.length ≠ rb.l.length := by simp at h3; omega
     refine awp_seq (awp_region (aL_s true rfl rfl (fun _ => q_assign rfl) (aL_nil (thn_n (awp_ret (thn_r (blk_r ?_)))))))
     refine thn_r (thn_r (blk_r (thn_r ?_)))
     refine fin1 [] [] rfl Try.results11 rfl ?_ (.inr rfl)
     rw [show sameF (tabL a) (tabL b) = false from Bool.eq_false_iff.2 fun h => hne (by rw [hsame h])]
    ·skip
     have hle2 : ra.l.length = rb.l.length := by simp at h3; omega
     refine awp_skip (thn_n (awp_seq (awp_region (aL_s true rfl rfl (fun _ => q_assign rfl) (aL_nil (thn_n (awp_block ?_)))))))
     refine awp_loopK [0, 1, 4, 5, 6] [1, 0] [] (fun (j : Nat) st => (j ≤ ra.l.length ∧ ra.l.take j = rb.l.take j) ∧ st = ⟨[(0, true, a.val), (1, true, b.val), (4, true, .bool false), (5, true, .int .i64 k), (6, true, .int .i64 j)], [TabF a, TabF b], []⟩) (fun j => ra.l.length - j) rfl (⟨0, ⟨Nat.zero_le _, rfl⟩, rfl⟩) ?_
     rintro j st ⟨⟨hj, hej⟩, rfl⟩
     refine awp_seq (awp_seq (awp_region (aL_s true rfl rfl (fun _ => q_move rfl) (aL_s true rfl rfl (fun _ => q_move rfl) (aL_s true rfl rfl (fun _ => q_move rfl) ?_)))))
     refine aL_E true rfl rfl (fun _ => q_indexAddrG Try.underlying27 tk54 rfl ((.left (.of (psAt 0 rfl)))) rfl (rows_get hra) rfl rfl) (fun h => absurd h (by decide)) (fun ⟨b9_3, o9_3⟩ => ?_)
     refine aL_s true rfl rfl (fun _ => q_loadD (o := 0) tk54 rfl (psAt 0 rfl) rfl rfl) (aL_s true rfl rfl (fun _ => q_lenS Try.underlying54 rfl) (aL_s true rfl rfl (fun _ => q_lss rfl rfl) (aL_nil (thn_n ?_))))
     refine awp_cond _ rfl (fun h4 => ?_) (fun h4 => ?_)
     ·skip
      have hj' : j < ra.l.length := by simp at h4; omega
      obtain ⟨va, hva⟩ : ∃ v, ra.l[j]? = some v := ⟨_, List.getElem?_eq_getElem hj'⟩
      obtain ⟨vb, hvb⟩ : ∃ v, rb.l[j]? = some v := ⟨_, List.getElem?_eq_getElem (by omega)⟩
      refine awp_skip (thn_n (awp_seq (awp_block (awp_seq ?_))))
      refine awp_drawn [] (by kernel_rfl) ?_
      show aB _ _ _ _ _ 15 #[false, false, false, false, false, false, false, false, false, false, false, false, false, false, false] _
      refine aB_s 0 rfl (by kernel_rfl) true rfl rfl (fun _ => q_move rfl) ?_
      refine aB_hp (by simp only [nO, nK, nL]; rfl) rfl ?_
      refine aB_s 1 rfl (by kernel_rfl) true rfl rfl (fun _ => q_move rfl) ?_
      refine aB_hp (by simp only [nO, nK, nL]; rfl) rfl ?_
      refine aB_E 2 rfl (by kernel_rfl) true rfl rfl (fun _ => q_indexAddrG Try.underlying27 tk54 rfl ((.left (.of (psAt 1 rfl)))) rfl (rows_get hra) rfl rfl) (fun h => absurd h (by decide)) (fun ⟨b11_2, o11_2⟩ => ?_)
      refine aB_hp (by simp only [nO, nK, nL]; rfl) rfl ?_
      refine aB_s 3 rfl (by kernel_rfl) true rfl rfl (fun _ => q_loadD (o := 0) tk54 rfl (psAt 0 rfl) rfl rfl) ?_
      refine aB_hp (by simp only [nO, nK, nL]; rfl) rfl ?_
      refine aB_s 4 rfl (by kernel_rfl) true rfl rfl (fun _ => q_move rfl) ?_
      refine aB_hp (by simp only [nO, nK, nL]; rfl) rfl ?_
      refine aB_E 5 rfl (by kernel_rfl) true rfl rfl (fun _ => q_indexAddrG Try.underlying54 tk4 rfl ((Ent.all (f := ShF fun b : Bool => [.v (.bool b)]) (Ent.right (.of (psAt 2 rfl))) hra)) rfl (rows_get hva) rfl rfl) (fun h => absurd h (by decide)) (fun ⟨b11_5, o11_5⟩ => ?_)
      refine aB_hp (by simp only [nO, nK, nL]; rfl) rfl ?_
      refine aB_s 6 rfl (by kernel_rfl) true rfl rfl (fun _ => q_loadD (o := 0) tk4 rfl (psAt 0 rfl) rfl rfl) ?_
      refine aB_hp (by simp only [nO, nK, nL]; rfl) rfl ?_
      refine aB_s 7 rfl (by kernel_rfl) true rfl rfl (fun _ => q_move rfl) ?_
      refine aB_hp (by simp only [nO, nK, nL]; rfl) rfl ?_
      refine aB_s 8 rfl (by kernel_rfl) true rfl rfl (fun _ => q_move rfl) ?_
      refine aB_hp (by simp only [nO, nK, nL]; rfl) rfl ?_
      refine aB_E 9 rfl (by kernel_rfl) true rfl rfl (fun _ => q_indexAddrG Try.underlying27 tk54 rfl ((.left (.of (psAt 4 rfl)))) rfl (rows_get hrb) rfl rfl) (fun h => absurd h (by decide)) (fun ⟨b11_9, o11_9⟩ => ?_)
      refine aB_hp (by simp only [nO, nK, nL]; rfl) rfl ?_
      refine aB_s 10 rfl (by kernel_rfl) true rfl rfl (fun _ => q_loadD (o := 0) tk54 rfl (psAt 0 rfl) rfl rfl) ?_
      refine aB_hp (by simp only [nO, nK, nL]; rfl) rfl ?_
      refine aB_s 11 rfl (by kernel_rfl) true rfl rfl (fun _ => q_move rfl) ?_
      refine aB_hp (by simp only [nO, nK, nL]; rfl) rfl ?_
      refine aB_E 12 rfl (by kernel_rfl) true rfl rfl (fun _ => q_indexAddrG Try.underlying54 tk4 rfl ((Ent.all (f := ShF fun b : Bool => [.v (.bool b)]) (Ent.right (.of (psAt 5 rfl))) hrb)) rfl (rows_get hvb) rfl rfl) (fun h => absurd h (by decide)) (fun ⟨b11_12, o11_12⟩ => ?_)
      refine aB_hp (by simp only [nO, nK, nL]; rfl) rfl ?_
      refine aB_s 13 rfl (by kernel_rfl) true rfl rfl (fun _ => q_loadD (o := 0) tk4 rfl (psAt 0 rfl) rfl rfl) ?_
      refine aB_hp (by simp only [nO, nK, nL]; rfl) rfl ?_
      refine aB_s 14 rfl (by kernel_rfl) true rfl rfl (fun _ => qb_neq (by kernel_rfl) rfl rfl) ?_
      refine aB_hp (by simp only [nO, nK, nL]; rfl) rfl ?_
      refine aB_nil (by kernel_rfl) ?_
      refine thn_n ?_
      refine awp_cond _ rfl (fun h5 => ?_) (fun h5 => ?_)
      ·skip
       have hvn : va ≠ vb := by simpa using h5
       refine awp_seq (awp_region (aL_s true rfl rfl (fun _ => q_assign rfl) (aL_nil (thn_n (awp_ret (blk_r (thn_r ?_)))))))
       refine thn_r (blk_r (blk_r (thn_r (thn_r (blk_r (thn_r ?_))))))
       refine fin1 [] [] rfl Try.results11 rfl ?_ (.inr rfl)
       rw [show sameF (tabL a) (tabL b) = false from Bool.eq_false_iff.2 fun h => hvn (by have h6 := hva; rw [hsame h, hvb] at h6; exact (Option.some.inj h6).symm)]
      ·skip
       have hve : va = vb := by simpa using h5
       refine awp_skip (blk_n (thn_n (awp_region (aL_s true rfl rfl (fun _ => q_move rfl) ?_))))
       refine aL_s true rfl rfl (fun _ => q_addi rfl rfl (by omega)) ?_
       refine aL_s true rfl rfl (fun _ => q_assign rfl) (aL_nil (thn_n ?_))
       refine ⟨[0, 1, 4, 5, 6], [1, 0], [], rfl, ?_⟩
       refine ⟨j + 1, ⟨⟨by omega, ?_⟩, rfl⟩, by omega⟩
       rw [List.take_add_one, List.take_add_one, hva, hvb, hej, hve]
     ·skip
      have hjl : j = ra.l.length := by simp at h4; omega
      have hre : ra.l = rb.l := by rw [List.take_of_length_le (by omega), List.take_of_length_le (by omega)] at hej; exact hej
      refine awp_exit (thn_e (thn_e (blk_hit (blk_n (thn_n (awp_region (aL_s true rfl rfl (fun _ => q_move rfl) ?_)))))))
      refine aL_s true rfl rfl (fun _ => q_addi rfl rfl (by omega)) ?_
      refine aL_s true rfl rfl (fun _ => q_assign rfl) (aL_nil (thn_n ?_))
      refine ⟨[0, 1, 4, 5], [1, 0], [], rfl, ?_⟩
      refine ⟨k + 1, ⟨⟨by omega, ?_⟩, rfl⟩, by omega⟩
      rw [List.take_add_one, List.take_add_one, heq, show (tabL a)[k]? = some ra.l by simp [tabL, hra], show (tabL b)[k]? = some rb.l by simp [tabL, hrb], hre]
   ·skip
    refine awp_exit (thn_e (thn_e (blk_hit (thn_n (awp_seq (awp_region (aL_s true rfl rfl (fun _ => q_assign rfl) ?_)))))))
    refine aL_nil (thn_n (awp_ret ?_))
    refine fin1 [] [] rfl Try.results11 rfl ?_ (.inr rfl)
    rw [show sameF (tabL a) (tabL b) = true from decide_eq_true (by
      have hkl : k = a.l.length := by simp at h2; omega
      rw [List.take_of_length_le (by simp [tabL]; omega), List.take_of_length_le (by simp [tabL]; omega)] at heq; exact heq)]
end Go.Proofs.Ytnbochlghdkfkaa
namespace Go.Proofs.Ytnbochlghdkfkaa
open Go.RowKit Go.Lp Go.Sy
open Go.Proofs.Try
attribute [local irreducible] aL aB awp aC fwp
def fewO (o : GObject) : Bool := decide (o.secs.l.length ≤ 6 ∧ o.syms.l.length ≤ 14 ∧ o.rels.l.length ≤ 14 ∧ o.inits.l.length ≤ 6 ∧ o.converts.l.length ≤ 6)
def fewF (x : GLink) : Bool := decide (x.objs.l.length ≤ 4 ∧ x.keep.l.length ≤ 6 ∧ x.choices.l.length ≤ 6) && (x.objs.l.all fewO && (x.keep.l.all (fun t => decide (t.l.length ≤ 10)) && x.choices.l.all (fun t => decide (t.l.length ≤ 20))))
theorem few_of {x : GLink} (h : fewF x = true) : FewL x.objs.l := by
  unfold fewF at h
  simp only [Bool.and_eq_true, decide_eq_true_eq, List.all_eq_true] at h
  exact ⟨h.1.1, fun o ho => by have := h.2.1 o ho; unfold fewO at this; simpa using this⟩
theorem con_few (x : GLink) : Con Try.prog 8 [x.objs.val, x.keep.val, x.choices.val] [x.ok] [] fun r _ _ => r = .bool (fewF x) := by
  refine Con.enter Try.func8 rfl (by simp [Try.ntmps8]) ?_
  show awp _ _ _ _ ⟨[(0, true, _), (1, true, _), (2, true, _)], _, _⟩
  refine awp_seq (awp_region (aL_s true rfl rfl (fun _ => q_assign rfl) (aL_nil (thn_n (awp_seq (awp_seq (awp_region ?_)))))))
  refine aL_s true rfl rfl (fun _ => q_move rfl) (aL_s true rfl rfl (fun _ => q_lenS Try.underlying26 rfl) (aL_s true rfl rfl (fun _ => q_gtr rfl rfl) (aL_s true rfl rfl (fun _ => q_move rfl) (aL_s _ rfl rfl (fun hc => q_move rfl) (aL_s _ rfl rfl (fun hc => q_lenS Try.underlying27 (ev_yes rfl hc)) (aL_s _ rfl rfl (fun hc => q_gtr (ev_yes rfl hc) rfl) (aL_s true rfl rfl (fun _ => q_or rfl rfl (fun h => gf rfl h)) ?_)))))))
  refine aL_s true rfl rfl (fun _ => q_move rfl) (aL_s _ rfl rfl (fun hc => q_move rfl) (aL_s _ rfl rfl (fun hc => q_lenS Try.underlying28 (ev_yes rfl hc)) (aL_s _ rfl rfl (fun hc => q_gtr (ev_yes rfl hc) rfl) (aL_s true rfl rfl (fun _ => q_or rfl rfl (fun h => gf rfl h)) (aL_nil (thn_n ?_))))))
  refine awp_cond _ rfl (fun h1 => ?_) (fun h1 => ?_)
  ·skip
   have hno : ¬ (x.objs.l.length ≤ 4 ∧ x.keep.l.length ≤ 6 ∧ x.choices.l.length ≤ 6) := by simp at h1; omega
   refine awp_seq (awp_region (aL_s true rfl rfl (fun _ => q_assign rfl) (aL_nil (thn_n (awp_ret (thn_r ?_))))))
   refine fin1 [] [] rfl Try.results8 rfl ?_ (.inr rfl)
   rw [show fewF x = false by unfold fewF; rw [decide_eq_false hno]; rfl]
  ·skip
   have hyes : x.objs.l.length ≤ 4 ∧ x.keep.l.length ≤ 6 ∧ x.choices.l.length ≤ 6 := by simp at h1; omega
   have hF : fewF x = (x.objs.l.all fewO && (x.keep.l.all (fun t => decide (t.l.length ≤ 10)) && x.choices.l.all (fun t => decide (t.l.length ≤ 20)))) := by unfold fewF; rw [decide_eq_true hyes]; rfl
   rw [hF]
   refine awp_skip (thn_n (awp_seq (awp_seq (awp_region (aL_s true rfl rfl (fun _ => q_assign rfl) (aL_nil (thn_n ?_)))))))
   refine awp_block (awp_loopK [0, 1, 2, 6, 7] [0] [] (fun (k : Nat) st => (k ≤ x.objs.l.length ∧ (x.objs.l.take k).all fewO = true) ∧ st = ⟨[(0, true, x.objs.val), (1, true, x.keep.val), (2, true, x.choices.val), (6, true, .bool false), (7, true, .int .i64 k)], [x.ok], []⟩) (fun k => x.objs.l.length - k) rfl (⟨0, ⟨Nat.zero_le _, rfl⟩, rfl⟩) ?_)
   rintro k st ⟨⟨hk, hall⟩, rfl⟩
   refine awp_seq (awp_seq (awp_region (aL_s true rfl rfl (fun _ => q_move rfl) (aL_s true rfl rfl (fun _ => q_move rfl) (aL_s true rfl rfl (fun _ => q_lenS Try.underlying26 rfl) (aL_s true rfl rfl (fun _ => q_lss rfl rfl) (aL_nil ?_)))))))
   refine thn_n ?_
   refine awp_cond _ rfl (fun h2 => ?_) (fun h2 => ?_)
   ·skip
    have hk' : k < x.objs.l.length := by simp at h2; omega
    obtain ⟨o, ho⟩ : ∃ o, x.objs.l[k]? = some o := ⟨_, List.getElem?_eq_getElem hk'⟩
    refine awp_skip (thn_n (awp_seq (awp_block (awp_seq (awp_region (aL_s true rfl rfl (fun _ => q_move rfl) (aL_s true rfl rfl (fun _ => q_move rfl) ?_)))))))
    refine aL_E true rfl rfl (fun _ => q_indexAddrG Try.underlying26 tk53 rfl ((GLink.f_objs (.of (psAt 0 rfl)))) rfl (rows_get ho) rfl rfl) (fun h => absurd h (by decide)) (fun ⟨b6_2, o6_2⟩ => ?_)
    refine aL_s true rfl rfl (fun _ => q_loadD (o := 0) tk53 rfl (psAt 0 rfl) rfl rfl) ?_
    refine aL_eff (q := true) rfl (x_alloc (zs := [.string .empty, .slice none 0 0, .slice none 0 0, .slice none 0 0, .slice none 0 0, .slice none 0 0, .slice none 0 0, .slice none 0 0, .slice none 0 0, .slice none 0 0, .slice none 0 0]) (by kernel_rfl) rfl (fun b6_4 => ?_))
    refine aL_hp (by (try simp only [nM, nN]); rfl) ?_
    refine aL_eff rfl (x_store 0 tk53 rfl rfl rfl rfl ?_)
    refine aL_hp (by simp only [nK, nL]; rfl) ?_
    refine aL_nil (thn_n (awp_seq (awp_region ?_)))
    refine aL_s true rfl rfl (fun _ => q_fieldAddr (off := 1) (by kernel_rfl) rfl) ?_
    refine aL_s true rfl rfl (fun _ => q_load 0 tk42 rfl rfl rfl) (aL_s true rfl rfl (fun _ => q_lenS Try.underlying42 rfl) (aL_s true rfl rfl (fun _ => q_gtr rfl rfl) (aL_s true rfl rfl (fun _ => q_move rfl) ?_)))
    refine aL_s _ rfl rfl (fun hc => q_fieldAddr (off := 2) (by kernel_rfl) rfl) ?_
    refine aL_s _ rfl rfl (fun hc => q_load 0 tk43 (ev_yes rfl hc) rfl rfl) (aL_s _ rfl rfl (fun hc => q_lenS Try.underlying43 (ev_yes rfl hc)) (aL_s _ rfl rfl (fun hc => q_gtr (ev_yes rfl hc) rfl) (aL_s true rfl rfl (fun _ => q_or rfl rfl (fun h => gf rfl h)) (aL_s true rfl rfl (fun _ => q_move rfl) ?_))))
    refine aL_s _ rfl rfl (fun hc => q_fieldAddr (off := 3) (by kernel_rfl) rfl) ?_
    refine aL_s _ rfl rfl (fun hc => q_load 0 tk44 (ev_yes rfl hc) rfl rfl) (aL_s _ rfl rfl (fun hc => q_lenS Try.underlying44 (ev_yes rfl hc)) (aL_s _ rfl rfl (fun hc => q_gtr (ev_yes rfl hc) rfl) (aL_s true rfl rfl (fun _ => q_or rfl rfl (fun h => gf rfl h)) (aL_s true rfl rfl (fun _ => q_move rfl) ?_))))
    refine aL_s _ rfl rfl (fun hc => q_fieldAddr (off := 5) (by kernel_rfl) rfl) ?_
    refine aL_s _ rfl rfl (fun hc => q_load 0 tk46 (ev_yes rfl hc) rfl rfl) (aL_s _ rfl rfl (fun hc => q_lenS Try.underlying46 (ev_yes rfl hc)) (aL_s _ rfl rfl (fun hc => q_gtr (ev_yes rfl hc) rfl) (aL_s true rfl rfl (fun _ => q_or rfl rfl (fun h => gf rfl h)) (aL_s true rfl rfl (fun _ => q_move rfl) ?_))))
    refine aL_s _ rfl rfl (fun hc => q_fieldAddr (off := 10) (by kernel_rfl) rfl) ?_
    refine aL_s _ rfl rfl (fun hc => q_load 0 tk51 (ev_yes rfl hc) rfl rfl) (aL_s _ rfl rfl (fun hc => q_lenS Try.underlying51 (ev_yes rfl hc)) (aL_s _ rfl rfl (fun hc => q_gtr (ev_yes rfl hc) rfl) (aL_s true rfl rfl (fun _ => q_or rfl rfl (fun h => gf rfl h)) (aL_nil (thn_n ?_)))))
    refine awp_cond _ rfl (fun h3 => ?_) (fun h3 => ?_)
    ·skip
     have hno : fewO o = false := by unfold fewO; simp at h3; simp; omega
     refine awp_seq (awp_region (aL_s true rfl rfl (fun _ => q_assign rfl) (aL_nil (thn_n (awp_ret (blk_r (thn_r ?_)))))))
     refine thn_r (blk_r (thn_r ?_))
     refine fin1 [] [] rfl Try.results8 rfl ?_ (.inr rfl)
     rw [show x.objs.l.all fewO = false from List.all_eq_false.2 ⟨o, List.mem_of_getElem? ho, by rw [hno]; decide⟩]; rfl
    ·skip
     have hyes3 : fewO o = true := by unfold fewO; simp at h3; simp; omega
     refine awp_skip (blk_n (thn_n (awp_region (aL_s true rfl rfl (fun _ => q_move rfl) ?_))))
     refine aL_s true rfl rfl (fun _ => q_addi rfl rfl (by omega)) ?_
     refine aL_s true rfl rfl (fun _ => q_assign rfl) (aL_nil (thn_n ?_))
     refine ⟨[0, 1, 2, 6, 7], [0], [], rfl, ?_⟩
     refine ⟨k + 1, ⟨⟨by omega, ?_⟩, rfl⟩, by omega⟩
     rw [List.take_add_one, ho, List.all_append, hall]; simp [hyes3]
   ·skip
    have hal1 : x.objs.l.all fewO = true := by rw [List.take_of_length_le (by simp at h2; omega)] at hall; exact hall
    rw [hal1, Bool.true_and]
    refine awp_exit (thn_e (thn_e (blk_hit (thn_n (awp_seq (awp_seq (awp_region ?_)))))))
    refine aL_s true rfl rfl (fun _ => q_assign rfl) (aL_nil (thn_n (awp_block (awp_loopK [1, 2, 6, 9] [0] [] (fun (k : Nat) st => (k ≤ x.keep.l.length ∧ (x.keep.l.take k).all (fun t => decide (t.l.length ≤ 10)) = true) ∧ st = ⟨[(1, true, x.keep.val), (2, true, x.choices.val), (6, true, .bool false), (9, true, .int .i64 k)], [x.ok], []⟩) (fun k => x.keep.l.length - k) rfl (⟨0, ⟨Nat.zero_le _, rfl⟩, rfl⟩) ?_))))
    rintro k2 st ⟨⟨hk2, hall2⟩, rfl⟩
    refine awp_seq (awp_seq (awp_region (aL_s true rfl rfl (fun _ => q_move rfl) (aL_s true rfl rfl (fun _ => q_move rfl) (aL_s true rfl rfl (fun _ => q_lenS Try.underlying27 rfl) (aL_s true rfl rfl (fun _ => q_lss rfl rfl) (aL_nil ?_)))))))
    refine thn_n ?_
    refine awp_cond _ rfl (fun h4 => ?_) (fun h4 => ?_)
    ·skip
     have hk2' : k2 < x.keep.l.length := by simp at h4; omega
     obtain ⟨t, ht⟩ : ∃ o, x.keep.l[k2]? = some o := ⟨_, List.getElem?_eq_getElem hk2'⟩
     refine awp_skip (thn_n (awp_seq (awp_block (awp_seq (awp_region (aL_s true rfl rfl (fun _ => q_move rfl) (aL_s true rfl rfl (fun _ => q_move rfl) ?_)))))))
     refine aL_E true rfl rfl (fun _ => q_indexAddrG Try.underlying27 tk54 rfl ((GLink.f_keep (.of (psAt 0 rfl)))) rfl (rows_get ht) rfl rfl) (fun h => absurd h (by decide)) (fun ⟨b12_2, o12_2⟩ => ?_)
     refine aL_s true rfl rfl (fun _ => q_loadD (o := 0) tk54 rfl (psAt 0 rfl) rfl rfl) (aL_s true rfl rfl (fun _ => q_lenS Try.underlying54 rfl) (aL_s true rfl rfl (fun _ => q_gtr rfl rfl) (aL_nil (thn_n ?_))))
     refine awp_cond _ rfl (fun h5 => ?_) (fun h5 => ?_)
     ·skip
      have hno : ¬ t.l.length ≤ 10 := by simp at h5; omega
      refine awp_seq (awp_region (aL_s true rfl rfl (fun _ => q_assign rfl) (aL_nil (thn_n (awp_ret (blk_r (thn_r ?_)))))))
      refine thn_r (blk_r (thn_r ?_))
      refine fin1 [] [] rfl Try.results8 rfl ?_ (.inr rfl)
      rw [show x.keep.l.all (fun t => decide (t.l.length ≤ 10)) = false from List.all_eq_false.2 ⟨t, List.mem_of_getElem? ht, by simpa using hno⟩]; rfl
     ·skip
      have hy5 : t.l.length ≤ 10 := by simp at h5; omega
      refine awp_skip (blk_n (thn_n (awp_region (aL_s true rfl rfl (fun _ => q_move rfl) ?_))))
      refine aL_s true rfl rfl (fun _ => q_addi rfl rfl (by omega)) ?_
      refine aL_s true rfl rfl (fun _ => q_assign rfl) (aL_nil (thn_n ?_))
      refine ⟨[1, 2, 6, 9], [0], [], rfl, ?_⟩
      refine ⟨k2 + 1, ⟨⟨by omega, ?_⟩, rfl⟩, by omega⟩
      rw [List.take_add_one, ht, List.all_append, hall2]; simp [hy5]
    ·skip
     have hal2 : x.keep.l.all (fun t => decide (t.l.length ≤ 10)) = true := by rw [List.take_of_length_le (by simp at h4; omega)] at hall2; exact hall2
     rw [hal2, Bool.true_and]
     refine awp_exit (thn_e (thn_e (blk_hit (thn_n (awp_seq (awp_seq (awp_region ?_)))))))
     refine aL_s true rfl rfl (fun _ => q_assign rfl) (aL_nil (thn_n (awp_block (awp_loopK [2, 6, 10] [0] [] (fun (k : Nat) st => (k ≤ x.choices.l.length ∧ (x.choices.l.take k).all (fun t => decide (t.l.length ≤ 20)) = true) ∧ st = ⟨[(2, true, x.choices.val), (6, true, .bool false), (10, true, .int .i64 k)], [x.ok], []⟩) (fun k => x.choices.l.length - k) rfl (⟨0, ⟨Nat.zero_le _, rfl⟩, rfl⟩) ?_))))
     rintro k3 st ⟨⟨hk3, hall3⟩, rfl⟩
     refine awp_seq (awp_seq (awp_region (aL_s true rfl rfl (fun _ => q_move rfl) (aL_s true rfl rfl (fun _ => q_move rfl) (aL_s true rfl rfl (fun _ => q_lenS Try.underlying28 rfl) (aL_s true rfl rfl (fun _ => q_lss rfl rfl) (aL_nil ?_)))))))
     refine thn_n ?_
     refine awp_cond _ rfl (fun h6 => ?_) (fun h6 => ?_)
     ·skip
      have hk3' : k3 < x.choices.l.length := by simp at h6; omega
      obtain ⟨t, ht⟩ : ∃ o, x.choices.l[k3]? = some o := ⟨_, List.getElem?_eq_getElem hk3'⟩
      refine awp_skip (thn_n (awp_seq (awp_block (awp_seq (awp_region (aL_s true rfl rfl (fun _ => q_move rfl) (aL_s true rfl rfl (fun _ => q_move rfl) ?_)))))))
      refine aL_E true rfl rfl (fun _ => q_indexAddrG Try.underlying28 tk69 rfl ((GLink.f_choices (.of (psAt 0 rfl)))) rfl (rows_get ht) rfl rfl) (fun h => absurd h (by decide)) (fun ⟨b17_2, o17_2⟩ => ?_)
      refine aL_s true rfl rfl (fun _ => q_loadD (o := 0) tk69 rfl (psAt 0 rfl) rfl rfl) (aL_s true rfl rfl (fun _ => q_lenS Try.underlying69 rfl) (aL_s true rfl rfl (fun _ => q_gtr rfl rfl) (aL_nil (thn_n ?_))))
      refine awp_cond _ rfl (fun h7 => ?_) (fun h7 => ?_)
      ·skip
       have hno : ¬ t.l.length ≤ 20 := by simp at h7; omega
       refine awp_seq (awp_region (aL_s true rfl rfl (fun _ => q_assign rfl) (aL_nil (thn_n (awp_ret (blk_r (thn_r ?_)))))))
       refine thn_r (blk_r (thn_r ?_))
       refine fin1 [] [] rfl Try.results8 rfl ?_ (.inr rfl)
       rw [show x.choices.l.all (fun t => decide (t.l.length ≤ 20)) = false from List.all_eq_false.2 ⟨t, List.mem_of_getElem? ht, by simpa using hno⟩]
      ·skip
       have hy7 : t.l.length ≤ 20 := by simp at h7; omega
       refine awp_skip (blk_n (thn_n (awp_region (aL_s true rfl rfl (fun _ => q_move rfl) ?_))))
       refine aL_s true rfl rfl (fun _ => q_addi rfl rfl (by omega)) ?_
       refine aL_s true rfl rfl (fun _ => q_assign rfl) (aL_nil (thn_n ?_))
       refine ⟨[2, 6, 10], [0], [], rfl, ?_⟩
       refine ⟨k3 + 1, ⟨⟨by omega, ?_⟩, rfl⟩, by omega⟩
       rw [List.take_add_one, ht, List.all_append, hall3]; simp [hy7]
     ·skip
      have hal3 : x.choices.l.all (fun t => decide (t.l.length ≤ 20)) = true := by rw [List.take_of_length_le (by simp at h6; omega)] at hall3; exact hall3
      refine awp_exit (thn_e (thn_e (blk_hit (thn_n (awp_seq (awp_region (aL_s true rfl rfl (fun _ => q_assign rfl) ?_)))))))
      refine aL_nil (thn_n (awp_ret ?_))
      refine fin1 [] [] rfl Try.results8 rfl ?_ (.inr rfl)
      rw [hal3]
def fitsF (t : Sl (Sl Bool)) (os : List GObject) : Bool := decide (t.l.map (·.l.length) = os.map (·.secs.l.length))
theorem fits_iff {t : Sl (Sl Bool)} {os : List GObject} : fitsF t os = true ↔ t.l.length = os.length ∧ ∀ i, i < os.length → (elt t.l (i : Int)).l.length = (elt os (i : Int)).secs.l.length := by
  unfold fitsF
  rw [decide_eq_true_eq]
  constructor
  · intro h
    have hl : t.l.length = os.length := by have := congrArg List.length h; simpa using this
    refine ⟨hl, fun i hi => ?_⟩
    have h1 := elt_nat (l := t.l) (i := i) (by omega)
    have h2 := elt_nat (l := os) (i := i) hi
    have h3 := congrArg (fun l => l[i]?) h
    simp only [List.getElem?_map, h1, h2, Option.map_some, Option.some.injEq] at h3
    exact h3
  · rintro ⟨hl, h⟩
    refine List.ext_getElem? fun i => ?_
    by_cases hi : i < os.length
    · have h1 := elt_nat (l := t.l) (i := i) (by omega)
      have h2 := elt_nat (l := os) (i := i) hi
      rw [List.getElem?_map, List.getElem?_map, h1, h2, Option.map_some, Option.map_some, h i hi]
    · rw [List.getElem?_eq_none (by simpa using by omega), List.getElem?_eq_none (by simpa using by omega)]
theorem con_fits (x : GLink) (t : Sl (Sl Bool)) : Con Try.prog 14 [t.val, x.objs.val] [TabF t, x.ok] [] fun r _ _ => r = .bool (fitsF t x.objs.l) := by
  refine Con.enter Try.func14 rfl (by simp [Try.ntmps14]) ?_
  show awp _ _ _ _ ⟨[(0, true, _), (1, true, _)], _, _⟩
  refine awp_lenE (GLink.f_objs (.of (psAt 1 rfl))) (fun hlen => ?_)
  refine awp_seq (awp_region (aL_s true rfl rfl (fun _ => q_assign rfl) (aL_nil (thn_n (awp_seq (awp_seq (awp_region ?_)))))))
  refine aL_s true rfl rfl (fun _ => q_move rfl) (aL_s true rfl rfl (fun _ => q_lenS Try.underlying27 rfl) (aL_s true rfl rfl (fun _ => q_move rfl) (aL_s true rfl rfl (fun _ => q_lenS Try.underlying26 rfl) (aL_s true rfl rfl (fun _ => q_neq rfl rfl) (aL_nil (thn_n ?_))))))
  refine awp_cond _ rfl (fun h1 => ?_) (fun h1 => ?_)
  ·skip
   have hno : t.l.length ≠ x.objs.l.length := by simp at h1; omega
   refine awp_seq (awp_region (aL_s true rfl rfl (fun _ => q_assign rfl) (aL_nil (thn_n (awp_ret (thn_r ?_))))))
   refine fin1 [] [] rfl Try.results14 rfl ?_ (.inr rfl)
   rw [show fitsF t x.objs.l = false from Bool.eq_false_iff.2 fun h => hno (fits_iff.1 h).1]
  ·skip
   have hle : t.l.length = x.objs.l.length := by simp at h1; omega
   refine awp_skip (thn_n (awp_seq (awp_seq (awp_region (aL_s true rfl rfl (fun _ => q_assign rfl) (aL_nil (thn_n ?_)))))))
   refine awp_block ?_
   refine awp_loopK [0, 1, 4, 5] [1, 0] [] (fun (k : Nat) st => (k ≤ x.objs.l.length ∧ ∀ i, i < k → (elt t.l (i : Int)).l.length = (elt x.objs.l (i : Int)).secs.l.length) ∧ st = ⟨[(0, true, t.val), (1, true, x.objs.val), (4, true, .bool false), (5, true, .int .i64 k)], [TabF t, x.ok], []⟩) (fun k => x.objs.l.length - k) rfl (⟨0, ⟨Nat.zero_le _, fun i hi => by omega⟩, rfl⟩) ?_
   rintro k st ⟨⟨hk, hall⟩, rfl⟩
   refine awp_seq (awp_seq (awp_region (aL_s true rfl rfl (fun _ => q_move rfl) (aL_s true rfl rfl (fun _ => q_move rfl) (aL_s true rfl rfl (fun _ => q_lenS Try.underlying26 rfl) (aL_s true rfl rfl (fun _ => q_lss rfl rfl) (aL_nil ?_)))))))
   refine thn_n ?_
   refine awp_cond _ rfl (fun h2 => ?_) (fun h2 => ?_)
   ·skip
    have hk' : k < x.objs.l.length := by simp at h2; omega
    have ho := elt_nat hk'
    have ht := elt_nat (l := t.l) (i := k) (by omega)
    refine awp_skip (thn_n (awp_seq (awp_block (awp_seq ?_))))
    refine awp_drawn [] (by kernel_rfl) ?_
    show aB _ _ _ _ _ 12 #[false, false, false, false, false, false, false, false, false, false, false, false] _
    refine aB_s 0 rfl (by kernel_rfl) true rfl rfl (fun _ => q_move rfl) ?_
    refine aB_hp (by simp only [nO, nK, nL]; rfl) rfl ?_
    refine aB_s 1 rfl (by kernel_rfl) true rfl rfl (fun _ => q_move rfl) ?_
    refine aB_hp (by simp only [nO, nK, nL]; rfl) rfl ?_
    refine aB_E 2 rfl (by kernel_rfl) true rfl rfl (fun _ => q_indexAddrG Try.underlying27 tk54 rfl ((.left (.of (psAt 0 rfl)))) rfl (rows_get ht) rfl rfl) (fun h => absurd h (by decide)) (fun ⟨b6_2, o6_2⟩ => ?_)
    refine aB_hp (by simp only [nO, nK, nL]; rfl) rfl ?_
    refine aB_s 3 rfl (by kernel_rfl) true rfl rfl (fun _ => q_loadD (o := 0) tk54 rfl (psAt 0 rfl) rfl rfl) ?_
    refine aB_hp (by simp only [nO, nK, nL]; rfl) rfl ?_
    refine aB_s 4 rfl (by kernel_rfl) true rfl rfl (fun _ => q_lenS Try.underlying54 rfl) ?_
    refine aB_hp (by simp only [nO, nK, nL]; rfl) rfl ?_
    refine aB_s 5 rfl (by kernel_rfl) true rfl rfl (fun _ => q_move rfl) ?_
    refine aB_hp (by simp only [nO, nK, nL]; rfl) rfl ?_
    refine aB_s 6 rfl (by kernel_rfl) true rfl rfl (fun _ => q_move rfl) ?_
    refine aB_hp (by simp only [nO, nK, nL]; rfl) rfl ?_
    refine aB_E 7 rfl (by kernel_rfl) true rfl rfl (fun _ => q_indexAddrG Try.underlying26 tk53 rfl ((GLink.f_objs (.of (psAt 2 rfl)))) rfl (rows_get ho) rfl rfl) (fun h => absurd h (by decide)) (fun ⟨b6_7, o6_7⟩ => ?_)
    refine aB_hp (by simp only [nO, nK, nL]; rfl) rfl ?_
    refine aB_s 8 rfl (by kernel_rfl) true rfl rfl (fun _ => q_fieldAddr (off := 1) (by kernel_rfl) rfl) ?_
    refine aB_hp (by simp only [nO, nK, nL]; rfl) rfl ?_
    refine aB_s 9 rfl (by kernel_rfl) true rfl rfl (fun _ => q_loadD (o := 1) tk42 rfl (psAt 0 rfl) rfl rfl) ?_
    refine aB_hp (by simp only [nO, nK, nL]; rfl) rfl ?_
    refine aB_s 10 rfl (by kernel_rfl) true rfl rfl (fun _ => q_lenS Try.underlying42 rfl) ?_
    refine aB_hp (by simp only [nO, nK, nL]; rfl) rfl ?_
    refine aB_s 11 rfl (by kernel_rfl) true rfl rfl (fun _ => q_neq rfl rfl) ?_
    refine aB_hp (by simp only [nO, nK, nL]; rfl) rfl ?_
    refine aB_nil (by kernel_rfl) ?_
    refine thn_n ?_
    refine awp_cond _ rfl (fun h3 => ?_) (fun h3 => ?_)
    ·skip
     have hno : (elt t.l (k : Int)).l.length ≠ (elt x.objs.l (k : Int)).secs.l.length := by simp at h3; omega
     refine awp_seq (awp_region (aL_s true rfl rfl (fun _ => q_assign rfl) (aL_nil (thn_n (awp_ret (blk_r (thn_r ?_)))))))
     refine thn_r (blk_r (thn_r ?_))
     refine fin1 [] [] rfl Try.results14 rfl ?_ (.inr rfl)
     rw [show fitsF t x.objs.l = false from Bool.eq_false_iff.2 fun h => hno ((fits_iff.1 h).2 k hk')]
    ·skip
     have hyy : (elt t.l (k : Int)).l.length = (elt x.objs.l (k : Int)).secs.l.length := by simp at h3; omega
     refine awp_skip (blk_n (thn_n (awp_region (aL_s true rfl rfl (fun _ => q_move rfl) ?_))))
     refine aL_s true rfl rfl (fun _ => q_addi rfl rfl (by omega)) ?_
     refine aL_s true rfl rfl (fun _ => q_assign rfl) (aL_nil (thn_n ?_))
     refine ⟨[0, 1, 4, 5], [1, 0], [], rfl, ?_⟩
     refine ⟨k + 1, ⟨⟨by omega, fun i hi => ?_⟩, rfl⟩, by omega⟩
     by_cases hik : i = k
     · rw [hik]; exact hyy
     · exact hall i (by omega)
   ·skip
    have hkl : k = x.objs.l.length := by simp at h2; omega
    subst hkl
    refine awp_exit (thn_e (thn_e (blk_hit (thn_n (awp_seq (awp_region (aL_s true rfl rfl (fun _ => q_assign rfl) ?_)))))))
    refine aL_nil (thn_n (awp_ret ?_))
    refine fin1 [] [] rfl Try.results14 rfl ?_ (.inr rfl)
    rw [show fitsF t x.objs.l = true from fits_iff.2 ⟨hle, hall⟩]
def closedR (x : GLink) (t : Sl (Sl Bool)) (a b : Int) (i n : Nat) : Bool := (List.range n).all fun k => elt (elt t.l (i : Int)).l (k : Int) || !needsF x a b (i : Int) (k : Int)
def closedF (x : GLink) (t : Sl (Sl Bool)) (a b : Int) (n : Nat) : Bool := (List.range n).all fun i => closedR x t a b i (elt x.objs.l (i : Int)).secs.l.length
theorem con_closed (x : GLink) (t : Sl (Sl Bool)) (hfit : fitsF t x.objs.l = true) (a b : Int) : Con Try.prog 17 [x.objs.val, x.keep.val, x.choices.val, t.val, .int .i64 a, .int .i64 b] [TabF t, x.ok] [] fun r _ _ => r = .bool (closedF x t a b x.objs.l.length) := by
  have hft := fits_iff.1 hfit
  refine Con.enter Try.func17 rfl (by simp [Try.ntmps17]) ?_
  show awp _ _ _ _ ⟨[(0, true, _), (1, true, _), (2, true, _), (3, true, _), (4, true, _), (5, true, _)], _, _⟩
  refine awp_lenE (GLink.f_objs (.of (psAt 1 rfl))) (fun hlen => ?_)
  refine awp_seq (awp_region (aL_s true rfl rfl (fun _ => q_assign rfl) (aL_nil (thn_n (awp_seq (awp_seq (awp_region ?_)))))))
  refine aL_s true rfl rfl (fun _ => q_assign rfl) (aL_nil (thn_n (awp_block (awp_loopK [0, 1, 2, 3, 4, 5, 12, 13] [1, 0] [] (fun (k : Nat) st => (k ≤ x.objs.l.length ∧ closedF x t a b k = true) ∧ st = ⟨[(0, true, x.objs.val), (1, true, x.keep.val), (2, true, x.choices.val), (3, true, t.val), (4, true, .int .i64 a), (5, true, .int .i64 b), (12, true, .bool false), (13, true, .int .i64 k)], [TabF t, x.ok], []⟩) (fun k => x.objs.l.length - k) rfl (⟨0, ⟨Nat.zero_le _, rfl⟩, rfl⟩) ?_))))
  rintro k st ⟨⟨hk, hall⟩, rfl⟩
  refine awp_seq (awp_seq (awp_region (aL_s true rfl rfl (fun _ => q_move rfl) (aL_s true rfl rfl (fun _ => q_move rfl) (aL_s true rfl rfl (fun _ => q_lenS Try.underlying26 rfl) (aL_s true rfl rfl (fun _ => q_lss rfl rfl) (aL_nil ?_)))))))
  refine thn_n ?_
  refine awp_cond _ rfl (fun h1 => ?_) (fun h1 => ?_)
  ·skip
   have hk' : k < x.objs.l.length := by simp at h1; omega
   have ho := elt_nat hk'
   have ht := elt_nat (l := t.l) (i := k) (by omega)
   have hlk := hft.2 k hk'
   refine awp_lenE (GObject.f_secs ((GLink.f_objsA (.of (psAt 1 rfl))).all ho)) (fun hlen2 => ?_)
   refine awp_skip (thn_n (awp_seq (awp_block (awp_seq (awp_region (aL_s true rfl rfl (fun _ => q_assign rfl) (aL_nil ?_)))))))
   refine thn_n (awp_block (awp_loopK [0, 1, 2, 3, 4, 5, 12, 13, 14] [1, 0] [] (fun (j : Nat) st => (j ≤ (elt x.objs.l (k : Int)).secs.l.length ∧ closedR x t a b k j = true) ∧ st = ⟨[(0, true, x.objs.val), (1, true, x.keep.val), (2, true, x.choices.val), (3, true, t.val), (4, true, .int .i64 a), (5, true, .int .i64 b), (12, true, .bool false), (13, true, .int .i64 k), (14, true, .int .i64 j)], [TabF t, x.ok], []⟩) (fun j => (elt x.objs.l (k : Int)).secs.l.length - j) rfl (⟨0, ⟨Nat.zero_le _, rfl⟩, rfl⟩) ?_))
   rintro j st ⟨⟨hj, hall2⟩, rfl⟩
   refine awp_seq (awp_seq (awp_region (aL_s true rfl rfl (fun _ => q_move rfl) (aL_s true rfl rfl (fun _ => q_move rfl) (aL_s true rfl rfl (fun _ => q_move rfl) ?_)))))
   refine aL_E true rfl rfl (fun _ => q_indexAddrG Try.underlying26 tk53 rfl ((GLink.f_objs (.of (psAt 1 rfl)))) rfl (rows_get ho) rfl rfl) (fun h => absurd h (by decide)) (fun ⟨b5_3, o5_3⟩ => ?_)
   refine aL_s true rfl rfl (fun _ => q_fieldAddr (off := 1) (by kernel_rfl) rfl) ?_
   refine aL_s true rfl rfl (fun _ => q_loadD (o := 1) tk42 rfl (psAt 0 rfl) rfl rfl) (aL_s true rfl rfl (fun _ => q_lenS Try.underlying42 rfl) (aL_s true rfl rfl (fun _ => q_lss rfl rfl) (aL_nil (thn_n ?_))))
   refine awp_cond _ rfl (fun h2 => ?_) (fun h2 => ?_)
   ·skip
    have hj' : j < (elt x.objs.l (k : Int)).secs.l.length := by simp at h2; omega
    have hv := elt_nat (l := (elt t.l (k : Int)).l) (i := j) (by omega)
    refine awp_skip (thn_n (awp_seq (awp_block (awp_seq (awp_region (aL_s true rfl rfl (fun _ => q_move rfl) (aL_s true rfl rfl (fun _ => q_move rfl) ?_)))))))
    refine aL_E true rfl rfl (fun _ => q_indexAddrG Try.underlying27 tk54 rfl ((.left (.of (psAt 1 rfl)))) rfl (rows_get ht) rfl rfl) (fun h => absurd h (by decide)) (fun ⟨b7_2, o7_2⟩ => ?_)
    refine aL_s true rfl rfl (fun _ => q_loadD (o := 0) tk54 rfl (psAt 0 rfl) rfl rfl) (aL_s true rfl rfl (fun _ => q_move rfl) ?_)
    refine aL_E true rfl rfl (fun _ => q_indexAddrG Try.underlying54 tk4 rfl ((Ent.all (f := ShF fun b : Bool => [.v (.bool b)]) (Ent.right (.of (psAt 2 rfl))) ht)) rfl (rows_get hv) rfl rfl) (fun h => absurd h (by decide)) (fun ⟨b7_5, o7_5⟩ => ?_)
    refine aL_s true rfl rfl (fun _ => q_loadD (o := 0) tk4 rfl (psAt 0 rfl) rfl rfl) (aL_s true rfl rfl (fun _ => q_not rfl) (aL_s true rfl rfl (fun _ => q_move rfl) (aL_s _ rfl rfl (fun hc => q_move rfl) (aL_s _ rfl rfl (fun hc => q_move rfl) (aL_s _ rfl rfl (fun hc => q_move rfl) (aL_s _ rfl rfl (fun hc => q_move rfl) (aL_s _ rfl rfl (fun hc => q_move rfl) ?_)))))))
    refine aL_s _ rfl rfl (fun hc => q_move rfl) (aL_s _ rfl rfl (fun hc => q_move rfl) ?_)
    refine aL_s _ rfl rfl (fun hc => q_call (by kernel_rfl) (evs_cons (ev_yes rfl hc) (evs_cons (ev_yes rfl hc) (evs_cons (ev_yes rfl hc) (evs_cons (ev_yes rfl hc) (evs_cons (ev_yes rfl hc) (evs_cons (ev_yes rfl hc) (evs_cons (ev_yes rfl hc) rfl))))))) (fun w S fp hst => (con_needs x _ _ _ _).quiet1 (psAt 4 rfl) hst)) ?_
    refine aL_s true rfl rfl (fun _ => q_and rfl rfl (fun h => gt rfl h)) (aL_nil (thn_n ?_))
    refine awp_cond _ rfl (fun h3 => ?_) (fun h3 => ?_)
    ·skip
     have hbad : (elt (elt t.l (k : Int)).l (j : Int) || !needsF x a b (k : Int) (j : Int)) = false := by have h := h3; revert h; cases elt (elt t.l (k : Int)).l (j : Int) <;> cases needsF x a b (k : Int) (j : Int) <;> simp
     have hr : closedR x t a b k (elt x.objs.l (k : Int)).secs.l.length = false := List.all_eq_false.2 ⟨j, List.mem_range.2 hj', by rw [hbad]; decide⟩
     refine awp_seq (awp_region (aL_s true rfl rfl (fun _ => q_assign rfl) (aL_nil (thn_n (awp_ret (blk_r (thn_r ?_)))))))
     refine thn_r (blk_r (blk_r (thn_r (thn_r (blk_r (thn_r ?_))))))
     refine fin1 [] [] rfl Try.results17 rfl ?_ (.inr rfl)
     rw [show closedF x t a b x.objs.l.length = false from List.all_eq_false.2 ⟨k, List.mem_range.2 hk', by rw [hr]; decide⟩]
    ·skip
     have hgood : (elt (elt t.l (k : Int)).l (j : Int) || !needsF x a b (k : Int) (j : Int)) = true := by have h := h3; revert h; cases elt (elt t.l (k : Int)).l (j : Int) <;> cases needsF x a b (k : Int) (j : Int) <;> simp
     refine awp_skip (blk_n (thn_n (awp_region (aL_s true rfl rfl (fun _ => q_move rfl) ?_))))
     refine aL_s true rfl rfl (fun _ => q_addi rfl rfl (by omega)) ?_
     refine aL_s true rfl rfl (fun _ => q_assign rfl) (aL_nil (thn_n ?_))
     refine ⟨[0, 1, 2, 3, 4, 5, 12, 13, 14], [1, 0], [], rfl, ?_⟩
     refine ⟨j + 1, ⟨⟨by omega, ?_⟩, rfl⟩, by omega⟩
     unfold closedR at hall2 ⊢
     rw [List.range_succ, List.all_append, hall2]; simpa using hgood
   ·skip
    have hjl : j = (elt x.objs.l (k : Int)).secs.l.length := by simp at h2; omega
    subst hjl
    refine awp_exit (thn_e (thn_e (blk_hit (blk_n (thn_n (awp_region (aL_s true rfl rfl (fun _ => q_move rfl) ?_)))))))
    refine aL_s true rfl rfl (fun _ => q_addi rfl rfl (by omega)) ?_
    refine aL_s true rfl rfl (fun _ => q_assign rfl) (aL_nil (thn_n ?_))
    refine ⟨[0, 1, 2, 3, 4, 5, 12, 13], [1, 0], [], rfl, ?_⟩
    refine ⟨k + 1, ⟨⟨by omega, ?_⟩, rfl⟩, by omega⟩
    unfold closedF at hall ⊢
    rw [List.range_succ, List.all_append, hall]; simpa using hall2
  ·skip
   have hkl : k = x.objs.l.length := by simp at h1; omega
   subst hkl
   refine awp_exit (thn_e (thn_e (blk_hit (thn_n (awp_seq (awp_region (aL_s true rfl rfl (fun _ => q_assign rfl) ?_)))))))
   refine aL_nil (thn_n (awp_ret ?_))
   refine fin1 [] [] rfl Try.results17 rfl ?_ (.inr rfl)
   rw [hall]
end Go.Proofs.Ytnbochlghdkfkaa
namespace Go.Proofs.Ytnbochlghdkfkaa
open Go.RowKit Go.Lp Go.Sy Go.Lv
open Go.Proofs.Try
attribute [local irreducible] aL aB awp aC fwp
abbrev kI (z : Int) : Value := .int .i64 z
abbrev vP (p : GPlace) : Value := p.val
theorem keyI : KeyOK Try.prog 3 kI := keyInt Try.underlying3
/-- the places by their numbers -/
def numbersF (x : GLink) (L : List GPlace) : Int → Option GPlace := L.foldl (fun m p => mput m (numOf x p) p) (fun _ => none)
theorem numbers_snoc (x : GLink) (L : List GPlace) {k : Nat} {p : GPlace} (h : L[k]? = some p) : numbersF x (L.take (k + 1)) = mput (numbersF x (L.take k)) (numOf x p) p := by
  unfold numbersF; rw [List.take_add_one, h, List.foldl_append]; rfl
/-- the numbers of the way -/
def wayN (x : GLink) (z : Int) : List Int := trackF (graphF (cntF x.objs.l x.objs.l.length) (arcsF x x.objs.l.length) (rootsF x x.objs.l.length)) (rank (graphW (cntF x.objs.l x.objs.l.length) (arcsF x x.objs.l.length) (rootsF x x.objs.l.length))) z
def wayF (x : GLink) (o s : Int) : List GPlace := if keptF x.objs.l x.keep.l o s then (wayN x (elt x.first.l o + s)).map fun z => (numbersF x (keptsF x x.objs.l.length) z).getD default else []
theorem chain_le (l : List Int) : ∀ (f : Nat) (v : Int), (chain l f v).length ≤ f + 1
  | 0, v => Nat.le_refl _
  | f + 1, v => by
    unfold chain
    split
    · simp
    · have := chain_le l f (elt l v); rw [List.length_cons]; omega
theorem track_le (l : List Int) (ρ : Int → Nat) (v : Int) : (trackF l ρ v).length ≤ ρ v + 1 := by
  unfold trackF; split
  · simp
  · rw [List.length_reverse]; exact chain_le _ _ _
theorem con_lway (x : GLink) (hf : FewL x.objs.l) (o s : Int) : Con Try.prog 9 [x.r.val, x.objs.val, x.keep.val, x.choices.val, .int .i64 o, .int .i64 s] [x.ok] []
    fun r ps hp => ps = [] ∧ ∃ (t : Sl GPlace) (ad : Option Addr) (cap : Nat), r = t.val ∧ t.l = wayF (lkF x ad cap x.objs.l.length) o s ∧ hp = [OwnS t.val 36 2 (t.l.map GPlace.row)] := by
  have hs6 : ∀ o ∈ x.objs.l, o.secs.l.length ≤ 6 := fun o ho => (hf.of o ho).1
  have hcn := cnt_le hs6 _ (Nat.le_refl _)
  have hn4 := hf.n
  refine Con.enterM Try.func9 rfl (by simp [Try.ntmps9]) ?_
  show fwp _ _ _ _ _ ⟨[(0, true, _), (1, true, _), (2, true, _), (3, true, _), (4, true, _), (5, true, _)], _, _⟩
  refine fwp_seq (awp_region ?_)
  refine aL_eff (q := true) rfl (x_box rfl rfl rfl (fun b0_0 => ?_))
  refine aL_hp (by (try simp only [nM, nN]); rfl) ?_
  refine aL_s true rfl rfl (fun _ => q_assign rfl) (aL_nil (thn_n (fwp_seq (awp_region (aL_s true rfl rfl (fun _ => q_load 0 tk25 rfl rfl rfl) (aL_s true rfl rfl (fun _ => q_move rfl) (aL_s true rfl rfl (fun _ => q_move rfl) ?_)))))))
  refine aL_s true rfl rfl (fun _ => q_move rfl) ?_
  refine aL_eff (q := true) rfl (e_call [0] [] (by kernel_rfl) rfl rfl rfl rfl (con_open x hn4 hs6) ?_)
  rintro _ _ _ ⟨rfl, lb, af, cf, rfl, rfl⟩
  refine aL_st (by (try simp only [nM, nN]); rfl) (by (try simp only [putB, place, Nat.reduceBEq, nA, if_true, if_false, reduceIte, nB, nC, nD, nE, nF, nG, nH, nI, Nat.reduceAdd, nJ, beq_self_eq_true, nK, nL, nM, nN]); rfl) ?_
  refine aL_s true rfl rfl (fun _ => q_assign rfl) (aL_nil (thn_n (fwp_seq (awp_seq (awp_region (aL_s true rfl rfl (fun _ => q_move rfl) (aL_s true rfl rfl (fun _ => q_move rfl) ?_)))))))
  refine aL_s true rfl rfl (fun _ => q_move rfl) ?_
  refine aL_s true rfl rfl (fun _ => q_bld (l := [(0, .tmp 26), (1, .tmp 27)]) (zs := [.int .i64 0, .int .i64 0]) (pl := [(0, 1), (1, 1)]) (by kernel_rfl) (by kernel_rfl) (by kernel_rfl) rfl rfl rfl) ?_
  refine aL_s true rfl rfl (fun _ => q_call (by kernel_rfl) rfl (fun w S fp hst => (con_kept (lkF x af cf x.objs.l.length) lb _ _).quiet2 (psAt 0 rfl) (psAt 1 rfl) hst)) ?_
  refine aL_s true rfl rfl (fun _ => q_not rfl) (aL_nil (thn_n ?_))
  refine awp_cond _ rfl (fun h1 => ?_) (fun h1 => ?_)
  ·skip
   have hk : keptF x.objs.l x.keep.l o s = false := by simpa using h1
   refine awp_seq (awp_region (aL_s true rfl rfl (fun _ => q_assign rfl) (aL_nil (thn_n (awp_nil 36 2 ?_)))))
   show awp _ _ _ _ ⟨_, _, [_, _]⟩
   refine awp_ret (thn_r ?_)
   refine fin1G [] [1] [] [] rfl Try.results9 rfl rfl rfl ?_ (.inr rfl)
   exact ⟨rfl, ⟨none, 0, []⟩, af, cf, rfl, (if_neg (by rw [show keptF (lkF x af cf x.objs.l.length).objs.l (lkF x af cf x.objs.l.length).keep.l o s = false from hk]; decide)).symm, rfl⟩
  ·skip
   have hk : keptF x.objs.l x.keep.l o s = true := by simpa using h1
   refine awp_skip (thn_n (fwp_seq (awp_region ?_)))
   refine aL_eff (q := true) rfl (e_makeMap (kI) (vP) rfl (fun b4_0 => ?_))
   refine aL_hp (by (try simp only [nM, nN]); rfl) ?_
   refine aL_eff (q := true) rfl (x_alloc (zs := [.map none]) (by kernel_rfl) rfl (fun b4_1 => ?_))
   refine aL_hp (by (try simp only [nM, nN]); rfl) ?_
   refine aL_eff rfl (x_store 2 tk73 rfl rfl rfl rfl ?_)
   refine aL_hp (by simp only [nK, nL]; rfl) ?_
   refine aL_nil (thn_n (fwp_seq2 (awp_region (aL_s true rfl rfl (fun _ => q_move rfl) ?_))))
   refine aL_eff (q := true) rfl (e_call [] [] (by kernel_rfl) rfl rfl rfl rfl (con_kepts (lkF x af cf x.objs.l.length) lb) ?_)
   rintro _ _ _ ⟨rfl, bk, rfl, rfl⟩
   refine aL_st (by (try simp only [nM, nN]); rfl) (by (try simp only [putB, place, Nat.reduceBEq, nA, if_true, if_false, reduceIte, nB, nC, nD, nE, nF, nG, nH, nI, Nat.reduceAdd, nJ, beq_self_eq_true, nK, nL, nM, nN]); rfl) ?_
   refine aL_nil (thn_n ?_)
   refine fwp_range (Rr := fun _ ps hp2 => ps = [] ∧ hp2 = [MapR b4_0 kI vP (numbersF (lkF x af cf x.objs.l.length) (keptsF (lkF x af cf x.objs.l.length) x.objs.l.length)), Box b4_1 73 [.map (some b4_0)]]) [3, 2, 1] [1, 2] rfl rfl (by kernel_rfl) rfl (fun l1 r1 ht1 he1 hs1 hn1 hp1 ha1 hb1 => ?_) (fun D1 RA1 RB1 w1 ps1 hq1 hR1 => ?_)
   ·skip
    refine con_bun (((con_kepts1 (lkF x af cf x.objs.l.length) (lk_ok hn4 hs6) lb bk l1 (X := Int → Option GPlace) (fun q => Bun [LoopR l1 r1, MapR b4_0 kI vP q, Box b4_1 73 [.map (some b4_0)]]) (fun i q => q = numbersF (lkF x af cf x.objs.l.length) ((keptsF (lkF x af cf x.objs.l.length) x.objs.l.length).take i)) (At lb 0 ((lkF x af cf x.objs.l.length)).row) (fun _ => none) rfl (fun i p q hp hq => ?_)).pre ?_).post (fun v ps' hp' ⟨e1, q, hq, e2⟩ => ⟨_, e2, r1, _, rfl, by rw [hs1]; decide, hn1, e1, by rw [hq, List.take_length]⟩))
    · refine ConY.post (cony_bun (R := fun v ps hp => v = .bool true ∧ ps = [] ∧ hp = [LoopR l1 r1, MapR b4_0 kI vP (mput q (numOf (lkF x af cf x.objs.l.length) p) p), Box b4_1 73 [.map (some b4_0)]]) (ps := [At lb 0 ((lkF x af cf x.objs.l.length)).row]) ?_) ?_
      · skip
        refine con_yield ht1 hp1 ha1 hb1 hs1 rfl he1 rfl (awp_seq (awp_region (aL_s true rfl rfl (fun _ => q_assign rfl) (aL_nil (thn_n (awp_region ?_))))))
        refine aL_eff (q := true) rfl (x_alloc (zs := [.int .i64 0, .int .i64 0]) (by kernel_rfl) rfl (fun b7_0 => ?_))
        refine aL_hp (by (try simp only [nM, nN]); rfl) ?_
        refine aL_eff rfl (x_store 3 tk36 rfl rfl rfl rfl ?_)
        refine aL_hp (by simp only [nK, nL]; rfl) ?_
        refine aL_nil ?_
        refine thn_n ⟨rfl, ?_⟩
        refine aw_hp (by (try simp only [nK, nL]); rfl) ?_
        refine awp_block (awp_region (aL_s true rfl rfl (fun _ => q_load 2 tk73 rfl rfl rfl) (aL_s true rfl rfl (fun _ => q_move rfl) (aL_s true rfl rfl (fun _ => q_load 3 tk36 rfl rfl rfl) ?_))))
        refine aL_eff rfl (e_mapUpdate (k := numOf (lkF x af cf x.objs.l.length) p) (v := p) 1 Try.underlying73 (keyI) rfl rfl rfl rfl ?_)
        refine aL_hp (by simp only [nK, nL]; rfl) ?_
        refine aL_nil (blk_n ?_)
        refine ⟨none, [], [0, 1, 2], rfl, rfl, rfl, ?_⟩
        simp only [nK, nL]
        exact ⟨rfl, rfl, by rw [ended_none hs1 hn1]; rfl⟩
      · rintro v ps' hp' ⟨l', e, h1, h2, h3⟩
        refine ⟨h1, h2, mput q (numOf (lkF x af cf x.objs.l.length) p) p, ?_, e.trans (by rw [h3])⟩
        rw [hq, numbers_snoc _ _ hp]
    · intro p' hp'
      simp only [List.mem_cons, List.not_mem_nil, or_false] at hp'
      rcases hp' with rfl | rfl | rfl | rfl
      · exact .of (psAt 1 rfl)
      · exact .of (psAt 0 rfl)
      · exact .of (psAt 1 rfl)
      · exact .of (psAt 2 rfl)
   obtain ⟨rfl, rfl⟩ := hR1
   refine fwp_st (by (try simp only [nM, nN]); rfl) (by (try simp only [nM, nN, nK, nL, nH, nI, putB, place, Nat.reduceBEq, nA, if_true, if_false, reduceIte, nB, nC, nD, nE, nF, nG, nH, nI, Nat.reduceAdd, nJ, beq_self_eq_true, nK, nL, nM, nN]); rfl) ?_
   refine fwp_of_awp (awp_seq (awp_nil 36 2 ?_))
   show awp _ _ _ _ ⟨_, _, [_, _, _, _, _, _]⟩
   have hkb := (lk_ok (ad := af) (cap := cf) hn4 hs6).bound o s hk
   obtain ⟨ho, hos, _⟩ := keptF_iff hk
   have hfl := firsts_len x.objs.l x.objs.l.length
   refine awp_region (aL_s true rfl rfl (fun _ => q_assign rfl) (aL_nil (thn_n (awp_seq (awp_seq ?_)))))
   refine awp_drawnC [] [] [] (by kernel_rfl) ?_
   show aC _ _ _ _ _ _ _ 20 #[false, false, false, false, false, false, false, false, false, false, false, false, false, false, false, false, false, false, false, false] _
   refine aC_join (X := Option Addr × Nat) (fun q => ⟨[(14, true, .pointer (some ⟨b4_1, 0, none⟩)), (17, true, .slice none 0 0), (56, true, .slice q.1 (wayN (lkF x af cf x.objs.l.length) (elt ((lkF x af cf x.objs.l.length)).first.l o + s)).length q.2), (57, true, .int .i64 (wayN (lkF x af cf x.objs.l.length) (elt ((lkF x af cf x.objs.l.length)).first.l o + s)).length), (58, true, .int .i64 0)], [Sh (.slice q.1 (wayN (lkF x af cf x.objs.l.length) (elt ((lkF x af cf x.objs.l.length)).first.l o + s)).length q.2) (.sl (encR encI (wayN (lkF x af cf x.objs.l.length) (elt ((lkF x af cf x.objs.l.length)).first.l o + s))))], [MapR b4_0 kI vP (numbersF (lkF x af cf x.objs.l.length) (keptsF (lkF x af cf x.objs.l.length) x.objs.l.length)), Box b4_1 73 [.map (some b4_0)], DfdR D1, OwnS (.slice none 0 0) 36 2 []]⟩) ?_ ?_
   ·skip
    refine aC_f 0 rfl (by kernel_rfl) true rfl rfl (fun _ => q_move rfl) ?_
    refine aC_f 1 rfl (by kernel_rfl) true rfl rfl (fun _ => q_nilCheck rfl) ?_
    refine aC_f 2 rfl (by kernel_rfl) true rfl rfl (fun _ => q_fieldAddr (off := 11) (by kernel_rfl) rfl) ?_
    refine aC_f 3 rfl (by kernel_rfl) true rfl rfl (fun _ => q_loadDE (o := 11) tk3 rfl (.of (psAt 1 rfl)) rfl) ?_
    refine aC_f 4 rfl (by kernel_rfl) true rfl rfl (fun _ => q_move rfl) ?_
    refine aC_f 6 rfl (by kernel_rfl) true rfl rfl (fun _ => q_move rfl) ?_
    refine aC_f 8 rfl (by kernel_rfl) true rfl rfl (fun _ => q_move rfl) ?_
    refine aC_f 9 rfl (by kernel_rfl) true rfl rfl (fun _ => q_nilCheck rfl) ?_
    refine aC_f 10 rfl (by kernel_rfl) true rfl rfl (fun _ => q_fieldAddr (off := 10) (by kernel_rfl) rfl) ?_
    refine aC_f 11 rfl (by kernel_rfl) true rfl rfl (fun _ => q_loadDE (o := 10) tk37 rfl (.of (psAt 1 rfl)) rfl) ?_
    refine aC_f 12 rfl (by kernel_rfl) true rfl rfl (fun _ => q_move rfl) ?_
    refine aC_R1 13 rfl (by kernel_rfl) rfl rfl (q_indexAddrGR Try.underlying37 tk3 rfl ((GLink.f_first (x := (lkF x af cf x.objs.l.length)) (.of (psAt 2 rfl)))) rfl (rows_elt (i := o) (by rw [hfl]; omega) (by omega)) (by omega) rfl) (fun ⟨b10_13, o10_13⟩ => ?_)
    refine aC_f 14 rfl (by kernel_rfl) true rfl rfl (fun _ => q_loadDE (o := 0) tk3 rfl (.of (psAt 0 rfl)) rfl) ?_
    refine aC_f 15 rfl (by kernel_rfl) true rfl rfl (fun _ => q_move rfl) ?_
    refine aC_f 16 rfl (by kernel_rfl) true rfl rfl (fun _ => q_addi rfl rfl (by omega)) ?_
    refine aC_f 19 rfl (by kernel_rfl) true rfl rfl (fun _ => q_move rfl) ?_
    refine aC_arms 5 [] (by kernel_rfl) (arms_cons ?_ arms_nil)
    refine aC_arm 5 rfl rfl (Eff.x ?_)
    refine id (e_call [2, 1] [] (by kernel_rfl) rfl rfl rfl rfl (con_arcs (lkF x af cf x.objs.l.length) (lk_ok hn4 hs6) hf lb) ?_)
    rintro _ _ _ ⟨rfl, aa, ca, rfl, rfl⟩
    refine aC_st (by (try simp only [nO, nK, nL]); rfl) (by (try simp only [nM, nN]); rfl) (by (try simp only [keepH, nQ, nR, putB, place, Nat.reduceBEq, nA, if_true, if_false, reduceIte, nB, nC, nD, nE, nF, nG, nH, nI, Nat.reduceAdd, nJ, beq_self_eq_true, nK, nL, nM, nN]); rfl) ?_
    refine aC_arms 7 [] (by kernel_rfl) (arms_cons ?_ arms_nil)
    refine aC_arm 7 rfl rfl (Eff.x ?_)
    refine id (e_call [2, 1] [] (by kernel_rfl) rfl rfl rfl rfl (con_roots (lkF x af cf x.objs.l.length) (lk_ok hn4 hs6) hf lb) ?_)
    rintro _ _ _ ⟨rfl, ar, cr, rfl, rfl⟩
    refine aC_st (by (try simp only [nO, nK, nL]); rfl) (by (try simp only [nM, nN]); rfl) (by (try simp only [keepH, nQ, nR, putB, place, Nat.reduceBEq, nA, if_true, if_false, reduceIte, nB, nC, nD, nE, nF, nG, nH, nI, Nat.reduceAdd, nJ, beq_self_eq_true, nK, nL, nM, nN]); rfl) ?_
    refine aC_arms 17 [] (by kernel_rfl) (arms_cons ?_ arms_nil)
    refine aC_arm 17 rfl rfl (Eff.x ?_)
    refine id (e_call [5, 6] [] (by kernel_rfl) rfl rfl rfl rfl (con_way (cntF x.objs.l x.objs.l.length) (by omega) ⟨aa, ca, arcsF (lkF x af cf x.objs.l.length) x.objs.l.length⟩ (by have := arcsF_le (x := (lkF x af cf x.objs.l.length)) hf _ (Nat.le_refl _); dsimp only at this ⊢; omega) arcs_ok ⟨ar, cr, rootsF (lkF x af cf x.objs.l.length) x.objs.l.length⟩ (by have := rootsF_le (x := (lkF x af cf x.objs.l.length)) hf _ (Nat.le_refl _); dsimp only at this ⊢; omega) (elt ((lkF x af cf x.objs.l.length)).first.l o + s) (by have := num_lt hk; rw [← lk_first hk] at this; exact this)) ?_)
    rintro r56 _ _ ⟨rfl, aw, cw, rfl, rfl⟩
    refine aC_st (by (try simp only [nO, nK, nL]); rfl) (by (try simp only [nM, nN]); rfl) (by (try simp only [keepH, nQ, nR, putB, place, Nat.reduceBEq, nA, if_true, if_false, reduceIte, nB, nC, nD, nE, nF, nG, nH, nI, Nat.reduceAdd, nJ, beq_self_eq_true, nK, nL, nM, nN]); rfl) ?_
    refine aC_f 18 rfl (by kernel_rfl) true rfl rfl (fun _ => q_lenS Try.underlying37 rfl) ?_
    refine aC_nil (by kernel_rfl) ?_
    exact ⟨rfl, [14, 17, 56, 57, 58], [7], [1, 2, 3, 5], (aw, cw), rfl, rfl⟩
   ·skip
    rintro ⟨aw, cw⟩
    refine thn_n (awp_block ?_)
    obtain ⟨wl, hwl⟩ : ∃ wl, (wayN (lkF x af cf x.objs.l.length) (elt ((lkF x af cf x.objs.l.length)).first.l o + s)) = wl := ⟨_, rfl⟩
    have hwn : wl.length ≤ 1000000 := by
      rw [← hwl]
      refine Nat.le_trans (track_le _ _ _) ?_
      have h1 := rank_le (graphW (cntF x.objs.l x.objs.l.length) (arcsF (lkF x af cf x.objs.l.length) x.objs.l.length) (rootsF (lkF x af cf x.objs.l.length) x.objs.l.length)) (elt ((lkF x af cf x.objs.l.length)).first.l o + s)
      have h2 : (graphW (cntF x.objs.l x.objs.l.length) (arcsF (lkF x af cf x.objs.l.length) x.objs.l.length) (rootsF (lkF x af cf x.objs.l.length) x.objs.l.length)).length ≤ _ := wave_len (rs := uniqI (rootsF (lkF x af cf x.objs.l.length) x.objs.l.length)) (outOk arcs_ok)
      have h3 := uniqI_le (rootsF (lkF x af cf x.objs.l.length) x.objs.l.length)
      have h4 := rootsF_le (x := (lkF x af cf x.objs.l.length)) hf _ (Nat.le_refl _)
      dsimp only at h4
      show rank (graphW (cntF x.objs.l x.objs.l.length) (arcsF (lkF x af cf x.objs.l.length) x.objs.l.length) (rootsF (lkF x af cf x.objs.l.length) x.objs.l.length)) (elt ((lkF x af cf x.objs.l.length)).first.l o + s) + 1 ≤ _
      omega
    obtain ⟨pl, hpl⟩ : ∃ pl : Int → GPlace, pl = fun z => (numbersF (lkF x af cf x.objs.l.length) (keptsF (lkF x af cf x.objs.l.length) x.objs.l.length) z).getD default := ⟨_, rfl⟩
    have hpz : ∀ z, (numbersF (lkF x af cf x.objs.l.length) (keptsF (lkF x af cf x.objs.l.length) x.objs.l.length) z).getD default = pl z := fun z => by rw [hpl]
    rw [hwl]
    refine awp_loopK [14, 17, 56, 57, 58] [0] [0, 1, 2, 3] (fun (p : Nat × Value) s => p.1 ≤ wl.length ∧ s = ⟨[(14, true, .pointer (some ⟨b4_1, 0, none⟩)), (17, true, p.2), (56, true, .slice aw wl.length cw), (57, true, .int .i64 wl.length), (58, true, .int .i64 p.1)], [Sh (.slice aw wl.length cw) (.sl (encR encI wl))], [MapR b4_0 kI vP (numbersF (lkF x af cf x.objs.l.length) (keptsF (lkF x af cf x.objs.l.length) x.objs.l.length)), Box b4_1 73 [.map (some b4_0)], DfdR D1, OwnS p.2 36 2 ((wl.take p.1).map fun z => GPlace.row (pl z))]⟩) (fun p => wl.length - p.1) rfl (⟨(0, .slice none 0 0), Nat.zero_le _, rfl⟩) ?_
    rintro ⟨k, vo⟩ s ⟨hk', rfl⟩
    dsimp only at hk'
    refine awp_seq (awp_region (aL_s true rfl rfl (fun _ => q_lss rfl rfl) (aL_nil (thn_n (awp_seq ?_)))))
    refine awp_cond _ rfl (fun h2 => ?_) (fun h2 => ?_)
    ·skip
     have hkl : k < wl.length := by simp at h2; omega
     obtain ⟨v, hv⟩ : ∃ v, wl[k]? = some v := ⟨_, List.getElem?_eq_getElem hkl⟩
     refine awp_skip (thn_n (awp_seq (awp_block (awp_seq (awp_region ?_)))))
     refine aL_E true rfl rfl (fun _ => q_indexAddrG Try.underlying37 tk3 rfl ((.of (psAt 0 rfl))) rfl (encR_get hv) rfl rfl) (fun h => absurd h (by decide)) (fun ⟨b12_0, o12_0⟩ => ?_)
     refine aL_s true rfl rfl (fun _ => q_loadD (o := 0) tk3 rfl (psAt 0 rfl) rfl rfl) (aL_s true rfl rfl (fun _ => q_assign rfl) (aL_nil (thn_n (awp_region (aL_s true rfl rfl (fun _ => q_move rfl) (aL_s true rfl rfl (fun _ => q_load 1 tk73 rfl rfl rfl) (aL_s true rfl rfl (fun _ => q_move rfl) ?_)))))))
     refine aL_s true rfl rfl (fun _ => q_look (k := v) (v0 := default) 0 Try.underlying73 (keyI) (by kernel_rfl) rfl rfl rfl) ?_
     refine aL_eff (q := true) rfl (w_lit (zs := [.int .i64 0, .int .i64 0]) (l := [(0, .tmp 65)]) el31 (by kernel_rfl) (by decide) (by decide) (by decide) rfl rfl rfl (.more rfl (.v rfl (.v rfl .nil)) .nil) rfl rfl (fun v13_4 => ?_))
     refine aL_hp (by (try simp only [nM, nN]); rfl) ?_
     refine aL_eff rfl (w_append 3 el31 rfl rfl rfl rfl (w_srcO 4 el31 rfl (by simp)) (by first | assumption | simp) (by simp; omega) _ rfl (fun v13_5 c13_5 => ?_))
     refine aL_hp (by simp only [nK, nL]; rfl) ?_
     refine aL_s true rfl rfl (fun _ => q_assign rfl) (aL_nil (blk_n (thn_n (awp_region ?_))))
     refine aL_s true rfl rfl (fun _ => q_addi rfl rfl (by omega)) ?_
     refine aL_s true rfl rfl (fun _ => q_move rfl) (aL_nil (thn_n ?_))
     refine ⟨[14, 17, 56, 57, 58], [0], [0, 1, 2, 3], rfl, ?_⟩
     refine ⟨(k + 1, .slice v13_5 (((wl.take k).map fun z => GPlace.row (pl z)).length + 1) c13_5), ⟨by dsimp only; omega, ?_⟩, by dsimp only; omega⟩
     dsimp only
     rw [hpz v, show (wl.take (k + 1)).map (fun z => GPlace.row (pl z)) = (wl.take k).map (fun z => GPlace.row (pl z)) ++ [GPlace.row (pl v)] by rw [List.take_add_one, hv, List.map_append]; rfl]
     rfl
    ·skip
     have hkl : k = wl.length := by simp at h2; omega
     subst hkl
     rw [List.take_length]
     dsimp only
     refine awp_exit (thn_e (thn_e (blk_hit (thn_n (awp_seq (awp_region (aL_s true rfl rfl (fun _ => q_move rfl) ?_)))))))
     refine aL_s true rfl rfl (fun _ => q_assign rfl) (aL_nil (thn_n ?_))
     refine awp_formV 3 rfl (fun ad kc hv => ?_)
     rw [List.length_map] at hv
     subst hv
     refine awp_ret ?_
     refine fin1G [] [3] [2] [D1] rfl Try.results9 rfl rfl rfl ?_ (.inr rfl)
     refine ⟨rfl, ⟨ad, kc, wl.map pl⟩, af, cf, ?_, ?_, ?_⟩
     · simp [Sl.val]
     · rw [hpl, ← hwl]; exact (if_pos (show keptF (lkF x af cf x.objs.l.length).objs.l (lkF x af cf x.objs.l.length).keep.l o s = true from hk)).symm
     · show [OwnS (.slice ad wl.length kc) _ _ _] = [OwnS (.slice ad (wl.map pl).length kc) _ _ ((wl.map pl).map GPlace.row)]
       rw [List.map_map, List.length_map]; rfl
end Go.Proofs.Ytnbochlghdkfkaa
