/- Parts of the proof, in build order. No condition. -/
import Derived.Test.YtgmiihmahaahiaaGreatDoorQa13
import Derived.Test.YtgmiihmahaahiaaGreatDoorQa03
set_option linter.unusedSimpArgs false
set_option linter.unusedVariables false
set_option maxHeartbeats 1000000
set_option maxRecDepth 20000
namespace Go.Proofs.YtgmiihmahaahiaaGreatDoor
open Go.RowKit Go.Lp Go.Sy
open Go.Proofs.Tryz
attribute [local irreducible] aL aB awp aC fwp
def visStep (n : ByteArray) (v : Int) (d : Dfn) : Int := if d.s.name = n ∧ d.s.bind ≠ 0 then max v d.s.vis else v
theorem visR_snoc (L : List Dfn) (d : Dfn) (n : ByteArray) : visR (L ++ [d]) n = visStep n (visR L n) d := by unfold visR visStep; rw [List.foldl_append]; rfl
theorem con_vis (l : Sl GObject) (n : ByteArray) : Con Tryz.prog 16 [l.val, .string n] [ShF GObject.row l, AllF GObject.ok l.l] [] (fun r _ _ => r = .int .i64 (visR (flatF l.l) n)) := by
 refine Con.enter Tryz.func16 rfl (by simp [Tryz.ntmps16]) ?_
 show awp _ _ _ _ ⟨[(0, true, _), (1, true, _)], _, _⟩
 refine awp_lenE (.of (psAt 0 rfl)) (fun hlen => ?_)
 refine aSR (aA rfl (aNn (aSR (aA rfl (aNs (aSR (aM rfl (aU rfl (q_lenS Tryz.underlying22 rfl) (aM rfl ?_)))))))))
 refine aNn (awp_block (awp_loopK [1, 5, 10, 11, 12] [1, 0] [] (fun (i : Nat) st => i ≤ l.l.length ∧ st = ⟨[(1, true, .string n), (5, true, .int .i64 (visR (flatTo l.l i) n)), (10, true, l.val), (11, true, .int .i64 l.l.length), (12, true, .int .i64 i)], [ShF GObject.row l, AllF GObject.ok l.l], []⟩) (fun i => l.l.length - i) rfl (⟨0, Nat.zero_le _, rfl⟩) ?_))
 rintro i st ⟨hi, rfl⟩
 refine aSR (aU rfl (q_lss rfl rfl) (aNs ?_))
 refine awp_cond _ rfl (fun h1 => ?_) (fun h1 => ?_)
 ·skip
  have hi' : i < l.l.length := by simp at h1; omega
  have ho := elt_nat hi'
  generalize hoo : elt l.l (i : Int) = o at ho
  refine awp_skip (thn_n (awp_seq (awp_block (aSR ?_))))
  refine aL_E true rfl rfl (fun _ => q_indexAddrG Tryz.underlying22 tk61 rfl ((.of (psAt 0 rfl))) rfl (rows_get ho) rfl rfl) (fun h => absurd h (by decide)) (fun ⟨b4_0, o4_0⟩ => ?_)
  refine aU rfl (q_loadD (o := 0) tk61 rfl (psAt 0 rfl) rfl rfl) ?_
  refine aL_eff (q := true) rfl (x_alloc (zs := [.string .empty, .slice none 0 0, .slice none 0 0, .slice none 0 0, .slice none 0 0, .slice none 0 0, .slice none 0 0, .slice none 0 0, .slice none 0 0, .slice none 0 0, .slice none 0 0]) (by kernel_rfl) rfl (fun b4_2 => ?_))
  refine aL_hp (by (try simp only [nM, nN]); rfl) ?_
  refine aL_eff rfl (x_store 0 tk61 rfl rfl rfl rfl ?_)
  refine aL_hp (by (try simp only [nK, nL]); rfl) ?_
  refine aNs ?_
  refine awp_lenE (GObject.f_syms (Ent.all (.of (psAt 2 rfl)) ho)) (fun hlen2 => ?_)
  refine awp_region ?_
  refine aU rfl (q_fieldAddr (off := 2) (by kernel_rfl) rfl) ?_
  refine aU rfl (q_load 0 tk51 rfl rfl rfl) (aU rfl (q_lenS Tryz.underlying51 rfl) (aM rfl (aNn (awp_block ?_))))
  refine awp_loopK [1, 5, 10, 11, 12, 17, 18, 19] [1, 0] [] (fun (k : Nat) st => k ≤ o.syms.l.length ∧ st = ⟨[(1, true, .string n), (5, true, .int .i64 (visR (flatTo l.l i ++ rowD (i : Int) (o.syms.l.take k)) n)), (10, true, l.val), (11, true, .int .i64 l.l.length), (12, true, .int .i64 i), (17, true, o.syms.val), (18, true, .int .i64 o.syms.l.length), (19, true, .int .i64 k)], [ShF GObject.row l, AllF GObject.ok l.l], []⟩) (fun k => o.syms.l.length - k) rfl (⟨0, Nat.zero_le _, by rw [List.take_zero, show rowD (i : Int) [] = [] from rfl, List.append_nil]; rfl⟩) ?_
  rintro k st ⟨hk, rfl⟩
  refine aSR (aU rfl (q_lss rfl rfl) (aNs ?_))
  refine awp_cond _ rfl (fun h2 => ?_) (fun h2 => ?_)
  ·skip
   have hk' : k < o.syms.l.length := by simp at h2; omega
   obtain ⟨s, hs'⟩ : ∃ s, o.syms.l[k]? = some s := ⟨_, List.getElem?_eq_getElem hk'⟩
   have hstep : visR (flatTo l.l i ++ rowD (i : Int) (o.syms.l.take (k + 1))) n = visStep n (visR (flatTo l.l i ++ rowD (i : Int) (o.syms.l.take k)) n) ⟨⟨(i : Int), (k : Int)⟩, s⟩ := by
     rw [rowD_take hs', ← List.append_assoc, visR_snoc]
   refine awp_skip (thn_n (awp_seq (awp_block (aSR ?_))))
   refine aL_E true rfl rfl (fun _ => q_indexAddrG Tryz.underlying51 tk63 rfl ((GObject.f_syms (Ent.all (.of (psAt 1 rfl)) ho))) rfl (rows_get hs') rfl rfl) (fun h => absurd h (by decide)) (fun ⟨b7_0, o7_0⟩ => ?_)
   refine aU rfl (q_loadD (o := 0) tk63 rfl (psAt 0 rfl) rfl rfl) ?_
   refine aL_eff (q := true) rfl (x_alloc (zs := [.string .empty, .string .empty, .bool false, .int .i64 0, .int .i64 0, .int .i64 0, .int .i64 0, .int .i64 0, .int .i64 0, .int .i64 0]) (by kernel_rfl) rfl (fun b7_2 => ?_))
   refine aL_hp (by (try simp only [nM, nN]); rfl) ?_
   refine aL_eff rfl (x_store 0 tk63 rfl rfl rfl rfl ?_)
   refine aL_hp (by (try simp only [nK, nL]); rfl) ?_
   refine aNn (aSR ?_)
   refine aU rfl (q_fieldAddr (off := 0) (by kernel_rfl) rfl) ?_
   refine aU rfl (q_load 0 tk9 rfl rfl rfl) (aM rfl (aU rfl (qs_eqlD rfl rfl) (aM rfl ?_)))
   refine aG rfl rfl (fun hc => q_fieldAddr (off := 3) (by kernel_rfl) rfl) ?_
   refine aG rfl rfl (fun hc => q_load 0 tk3 (ev_yes rfl hc) rfl rfl) (aG rfl rfl (fun hc => q_neq (ev_yes rfl hc) rfl) (aU rfl (q_and rfl rfl (fun h => gt rfl h)) (aNn ?_)))
   refine awp_cond _ rfl (fun h3 => ?_) (fun h3 => ?_)
   ·skip
    have hc3 : s.name = n ∧ s.bind ≠ 0 := by simpa using h3
    refine awp_region (aM rfl ?_)
    refine aU rfl (q_fieldAddr (off := 4) (by kernel_rfl) rfl) ?_
    refine aU rfl (q_load 0 tk3 rfl rfl rfl) (aU rfl (q_max rfl rfl) (aA rfl (aL_nil (blk_n (thn_n (awp_region ?_))))))
    refine aU rfl (q_addi rfl rfl (by omega)) ?_
    refine aM rfl (aNn ?_)
    refine ⟨[1, 5, 10, 11, 12, 17, 18, 19], [1, 0], [], rfl, ?_⟩
    exact ⟨k + 1, ⟨by omega, by rw [hstep]; unfold visStep; rw [if_pos hc3]; rfl⟩, by omega⟩
   ·skip
    have hc3 : ¬ (s.name = n ∧ s.bind ≠ 0) := by simpa using h3
    refine awp_skip (blk_n (thn_n (awp_region ?_)))
    refine aU rfl (q_addi rfl rfl (by omega)) ?_
    refine aM rfl (aNn ?_)
    refine ⟨[1, 5, 10, 11, 12, 17, 18, 19], [1, 0], [], rfl, ?_⟩
    exact ⟨k + 1, ⟨by omega, by rw [hstep]; unfold visStep; rw [if_neg hc3]; rfl⟩, by omega⟩
  ·skip
   refine awp_exit (thn_e (thn_e (blk_hit (blk_n (thn_n (awp_region ?_))))))
   refine aU rfl (q_addi rfl rfl (by omega)) ?_
   refine aM rfl (aNn ?_)
   refine ⟨[1, 5, 10, 11, 12], [1, 0], [], rfl, ?_⟩
   rw [List.take_of_length_le (by simp at h2; omega)]
   exact ⟨i + 1, ⟨by omega, by rw [flatTo_succ, hoo]; rfl⟩, by omega⟩
 ·skip
  refine awp_exit (thn_e (thn_e (blk_hit (thn_n (aSR (aM rfl (aA rfl (aNn (awp_ret ?_)))))))))
  refine fin1 [] [] rfl Tryz.results16 rfl ?_ (.inr rfl)
  rw [show i = l.l.length by simp at h1; omega]; rfl
def RLink.fin (x : RLink) (L : List Dfn) (st : CS) (mM : ByteArray → Option GCulprit) : Per :=
 AndP (ShM x.ball kPair slV st.mA) (AndP (ShM x.bch kPair GCulprit.val (chP x.kp.l L)) (AndP (ShM x.bnm kStr slV st.mN) (AndP (ShM x.bmn kStr GCulprit.val mM) (Go.Sy.AllK keyR st.mN))))
section
variable {ps : List Per} {x : RLink} {L : List Dfn} {st : CS} {mM : ByteArray → Option GCulprit} (h : Ent ps (x.fin L st mM))
include h
theorem RLink.g_all : Ent ps (ShM x.ball kPair slV st.mA) := h.left
theorem RLink.g_ch : Ent ps (ShM x.bch kPair GCulprit.val (chP x.kp.l L)) := h.right.left
theorem RLink.g_nm : Ent ps (ShM x.bnm kStr slV st.mN) := h.right.right.left
theorem RLink.g_mn : Ent ps (ShM x.bmn kStr GCulprit.val mM) := h.right.right.right.left
theorem RLink.g_keys : Ent ps (Go.Sy.AllK keyR st.mN) := h.right.right.right.right
end
structure FinOk (x : RLink) (L : List Dfn) (st : CS) (mM : ByteArray → Option GCulprit) : Prop where
 flat : L = flatF x.objs.l
 inv : CInv x.kp.l L st
 mains : ∀ n, mM n = (mainL x.kp.l L n).head?.map (·.p)
 twice : twice2 x.kp.l L = none
theorem FinOk.asc {x : RLink} {L : List Dfn} {st : CS} {mM : ByteArray → Option GCulprit} (h : FinOk x L st mM) : Asc L := by rw [h.flat]; exact flatTo_asc _ _
theorem con_why (x : RLink) (hok : RsOk x.objs.l x.kp.l) (lb : Nat) (L : List Dfn) (st : CS) (mM : ByteArray → Option GCulprit) (hF : FinOk x L st mM) (s : GSymbol) (e : Dfn) (he : e ∈ L) : Con Tryz.prog 91 [.pointer (some ⟨lb, 0, none⟩), s.val, e.p.val] [At lb 0 x.row, x.ok, x.fin L st mM] [] (fun r _ _ => r = .int .i64 (whyR x.kp.l L s e)) := by
 have hin : InD x.objs.l e := by rw [← inD_iff, ← hF.flat]; exact he
 have hl : ((st.mA e.key).getD ⟨none, 0, []⟩).l.length = (allK x.kp.l L e.key).length := by
   have := congrArg List.length (hF.inv.all e.key)
   rw [List.length_map] at this; exact this
 refine Con.enter Tryz.func91 rfl (by simp [Tryz.ntmps91]) ?_
 show awp _ _ _ _ ⟨[(0, true, _), (1, true, _), (2, true, _)], _, _⟩
 refine aSR ?_
 refine aL_eff (q := true) rfl (x_box rfl rfl rfl (fun b0_0 => ?_))
 refine aL_hp (by (try simp only [nM, nN]); rfl) ?_
 refine aL_eff (q := true) rfl (x_box rfl rfl rfl (fun b0_1 => ?_))
 refine aL_hp (by (try simp only [nM, nN]); rfl) ?_
 refine aA rfl (aNn (aSR (aM rfl (aU rfl (q_load 1 tk34 rfl rfl rfl) ?_))))
 refine aU rfl (q_call (by kernel_rfl) rfl (fun w S fp hst => (con_sym x lb e hin).quiet2 (psAt 0 rfl) (psAt 1 rfl) hst)) ?_
 refine aL_eff (q := true) rfl (x_alloc (zs := [.string .empty, .string .empty, .bool false, .int .i64 0, .int .i64 0, .int .i64 0, .int .i64 0, .int .i64 0, .int .i64 0, .int .i64 0]) (by kernel_rfl) rfl (fun b1_3 => ?_))
 refine aL_hp (by (try simp only [nM, nN]); rfl) ?_
 refine aL_eff rfl (x_store 2 tk63 rfl rfl rfl rfl ?_)
 refine aL_hp (by (try simp only [nK, nL]); rfl) ?_
 refine aNs (awp_block (aSR ?_))
 refine aU rfl (q_fieldAddr (off := 3) (by kernel_rfl) rfl) ?_
 refine aU rfl (q_load 2 tk3 rfl rfl rfl) (aU rfl (q_eql rfl rfl) (aA rfl (aNn ?_)))
 refine awp_cond _ rfl (fun h1 => ?_) (fun h1 => ?_)
 ·skip
  have c1 : e.s.bind = 3 := by simpa using h1
  refine aSR (aA rfl (aNn (awp_ret (blk_r (thn_r ?_)))))
  refine fin1 [] [] rfl Tryz.results91 rfl ?_ (.inr rfl)
  unfold whyR; rw [if_pos c1]
 ·skip
  have c1 : ¬ e.s.bind = 3 := by simpa using h1
  refine aSR ?_
  refine aU rfl (q_fieldAddr (off := 1) (by kernel_rfl) rfl) ?_
  refine aU rfl (q_load 2 tk9 rfl rfl rfl) ?_
  refine aU rfl (q_fieldAddr (off := 1) (by kernel_rfl) rfl) ?_
  refine aU rfl (q_load 0 tk9 rfl rfl rfl) (aU rfl (qs_neqD rfl rfl) (aA rfl (aNn ?_)))
  refine awp_cond _ rfl (fun h2 => ?_) (fun h2 => ?_)
  ·skip
   have c2 : e.s.version ≠ s.version := by simpa using h2
   refine aSR (aA rfl (aNn (awp_ret (blk_r (thn_r ?_)))))
   refine fin1 [] [] rfl Tryz.results91 rfl ?_ (.inr rfl)
   unfold whyR; rw [if_neg c1, if_pos c2]
  ·skip
   have c2 : ¬ e.s.version ≠ s.version := by simpa using h2
   refine awp_seq ?_
   refine awp_drawn [] (by kernel_rfl) ?_
   show aB _ _ _ _ _ 13 #[false, false, false, false, false, false, false, false, false, false, false, false, false] _
   refine bU 0 rfl (by kernel_rfl) rfl (q_move rfl) ?_
   refine bU 1 rfl (by kernel_rfl) rfl (q_nilCheck rfl) ?_
   refine bU 2 rfl (by kernel_rfl) rfl (q_fieldAddr (off := 5) (by kernel_rfl) rfl) ?_
   refine bU 3 rfl (by kernel_rfl) rfl (q_loadDE (o := 5) tk102 rfl (.of (psAt 0 rfl)) rfl) ?_
   refine bU 4 rfl (by kernel_rfl) rfl (q_fieldAddr (off := 0) (by kernel_rfl) rfl) ?_
   refine bU 5 rfl (by kernel_rfl) rfl (q_load 2 tk9 rfl rfl rfl) ?_
   refine bU 6 rfl (by kernel_rfl) rfl (q_fieldAddr (off := 1) (by kernel_rfl) rfl) ?_
   refine bU 7 rfl (by kernel_rfl) rfl (q_load 2 tk9 rfl rfl rfl) ?_
   refine bU 8 rfl (by kernel_rfl) rfl (q_bld (l := [(0, .tmp 27), (1, .tmp 29)]) (zs := [.string .empty, .string .empty]) (pl := [(0, 1), (1, 1)]) (by kernel_rfl) (by kernel_rfl) (by kernel_rfl) rfl rfl rfl) ?_
   refine bU 9 rfl (by kernel_rfl) rfl (qs_look (k := e.key) (v0 := (⟨none, 0, []⟩ : Sl GCulprit)) Tryz.underlying102 (kyK) (by kernel_rfl) rfl rfl ((RLink.g_all (.of (psAt 2 rfl))))) ?_
   refine bU 10 rfl (by kernel_rfl) rfl (q_lenS Tryz.underlying158 rfl) ?_
   refine bU 11 rfl (by kernel_rfl) rfl (q_eql rfl rfl) ?_
   refine bU 12 rfl (by kernel_rfl) rfl (q_assign rfl) ?_
   refine aB_nil (by kernel_rfl) ?_
   refine thn_n ?_
   refine awp_cond _ rfl (fun h3 => ?_) (fun h3 => ?_)
   ·skip
    have c3 : (allK x.kp.l L e.key).length = 1 := by
      have := of_decide_eq_true h3; rw [hl] at this; omega
    refine aSR (aA rfl (aNn (awp_ret (blk_r (thn_r ?_)))))
    refine fin1 [] [] rfl Tryz.results91 rfl ?_ (.inr rfl)
    unfold whyR; rw [if_neg c1, if_neg c2, if_pos c3]
   ·skip
    have c3 : ¬ (allK x.kp.l L e.key).length = 1 := by
      have := of_decide_eq_false h3; rw [hl] at this; omega
    refine aSR ?_
    refine aU rfl (q_fieldAddr (off := 3) (by kernel_rfl) rfl) ?_
    refine aU rfl (q_load 2 tk3 rfl rfl rfl) (aU rfl (q_eql rfl rfl) (aA rfl (aNn ?_)))
    refine awp_cond _ rfl (fun h4 => ?_) (fun h4 => ?_)
    ·skip
     have c4 : e.s.bind = 1 := by simpa using h4
     refine aSR (aA rfl (aNn (awp_ret (blk_r (thn_r ?_)))))
     refine fin1 [] [] rfl Tryz.results91 rfl ?_ (.inr rfl)
     unfold whyR; rw [if_neg c1, if_neg c2, if_neg c3, if_pos c4]
    ·skip
     have c4 : ¬ e.s.bind = 1 := by simpa using h4
     refine awp_skip (blk_n (thn_n (aSR (aA rfl (aNn (awp_ret ?_))))))
     refine fin1 [] [] rfl Tryz.results91 rfl ?_ (.inr rfl)
     unfold whyR; rw [if_neg c1, if_neg c2, if_neg c3, if_neg c4]
end Go.Proofs.YtgmiihmahaahiaaGreatDoor

namespace Go.Proofs.YtgmiihmahaahiaaGreatDoor
open Go.RowKit Go.Lp Go.Sy
open Go.Proofs.Tryz
attribute [local irreducible] aL aB awp aC fwp
theorem con_servesL (x : RLink) (a b : ByteArray) (SV : ByteArray → ByteArray → Bool) (hSV : ∀ p q, SV p q = true ↔ Srv x.vs.l p q) : Con Tryz.prog 22 [x.vs.val, .string a, .string b] [x.ok] [] fun r _ _ => r = .bool (SV a b) :=
 (con_serves x.vs a b SV hSV).pre fun p hp => by
   simp only [List.mem_cons, List.not_mem_nil, or_false] at hp
   rcases hp with rfl | rfl
   · exact RLink.f_vs (.of (psAt 0 rfl))
   · exact RLink.f_vsA (.of (psAt 0 rfl))
structure LsInv (kp : List (Sl Bool)) (L : List Dfn) (SV : ByteArray → ByteArray → Bool) (v : ByteArray) (ks : List RKey) (fa : GCulprit × Bool) : Prop where
 tw : fa.2 = true → ∃ k ∈ ks, ∃ e, chosenK kp L k = some e ∧ SV k.2 v = true ∧ fa.1 = e.p
 lo : ∀ k ∈ ks, ∀ e, chosenK kp L k = some e → SV k.2 v = true → fa.2 = true ∧ ¬ ltC e.p fa.1
section
variable {kp : List (Sl Bool)} {L : List Dfn} {SV : ByteArray → ByteArray → Bool} {v : ByteArray} {ks : List RKey} {fa : GCulprit × Bool}
theorem LsInv.start (p : GCulprit) : LsInv kp L SV v [] (p, false) := ⟨fun h => (by cases h), fun _ h => by cases h⟩
theorem LsInv.hit (h : LsInv kp L SV v ks fa) {k : RKey} {e : Dfn} (he : chosenK kp L k = some e) (hs : SV k.2 v = true) : LsInv kp L SV v (ks ++ [k]) (leastF fa e.p) where
 tw hb := by
   unfold leastF at hb ⊢
   split
   · exact ⟨k, by simp, e, he, hs, rfl⟩
   · rename_i hno
     rw [if_neg hno] at hb
     obtain ⟨k2, h1, h2⟩ := h.tw hb
     exact ⟨k2, List.mem_append_left _ h1, h2⟩
 lo k2 hk e2 he2 hs2 := by
   rcases List.mem_append.1 hk with hk | hk
   · obtain ⟨h1, h2⟩ := h.lo k2 hk e2 he2 hs2
     unfold leastF
     split
     · rename_i hc
       refine ⟨rfl, fun hlt => ?_⟩
       rcases hc with hc | hc
       · rw [h1] at hc; cases hc
       · exact h2 (ltC_trans hlt hc)
     · exact ⟨h1, h2⟩
   · rw [List.mem_singleton.1 hk, he] at he2
     obtain rfl := Option.some.inj he2
     unfold leastF
     split
     · exact ⟨rfl, ltC_irr _⟩
     · rename_i hno
       refine ⟨?_, fun hlt => hno (.inr hlt)⟩
       cases hb3 : fa.2 with
       | true => rfl
       | false => exact (hno (.inl hb3)).elim
theorem LsInv.miss (h : LsInv kp L SV v ks fa) {k : RKey} (hs : ¬ SV k.2 v = true) : LsInv kp L SV v (ks ++ [k]) fa where
 tw hb := by
   obtain ⟨k2, h1, h2⟩ := h.tw hb
   exact ⟨k2, List.mem_append_left _ h1, h2⟩
 lo k2 hk e2 he2 hs2 := by
   rcases List.mem_append.1 hk with hk | hk
   · exact h.lo k2 hk e2 he2 hs2
   · rw [List.mem_singleton.1 hk] at hs2; exact (hs hs2).elim
theorem LsInv.fin {n : ByteArray} (h : LsInv kp L SV v (namesK kp L n) fa) (hA : Asc L) : match L.find? fun d => decide (d.s.name = n) && (isCh kp L d && SV d.s.version v) with
   | some d => fa.2 = true ∧ fa.1 = d.p
   | none => fa.2 = false := by
 have pred : ∀ k ∈ namesK kp L n, ∀ e, chosenK kp L k = some e → SV k.2 v = true → e ∈ L ∧ (decide (e.s.name = n) && (isCh kp L e && SV e.s.version v)) = true := fun k hk e he hs => by
   obtain ⟨m1, _, m3⟩ := chosenK_mem he
   refine ⟨m1, ?_⟩
   have h1 : e.s.name = n := by rw [← (namesK_mem.1 hk).2, ← m3]
   have h2 : SV e.s.version v = true := by rw [show e.s.version = k.2 from congrArg Prod.snd m3]; exact hs
   simp [h1, h2, chosen_is hA he]
 cases hf : L.find? fun d => decide (d.s.name = n) && (isCh kp L d && SV d.s.version v) with
 | none =>
   rw [List.find?_eq_none] at hf
   dsimp only
   cases hb : fa.2 with
   | false => rfl
   | true =>
     obtain ⟨k, hk, e, he, hs, _⟩ := h.tw hb
     obtain ⟨m1, m2⟩ := pred k hk e he hs
     exact (hf e m1 m2).elim
 | some d =>
   have h1 := List.find?_some hf
   have hm := List.mem_of_find?_eq_some hf
   simp only [Bool.and_eq_true, decide_eq_true_eq] at h1
   have hc := (isCh_iff hA hm).1 h1.2.1
   have hk : d.key ∈ namesK kp L n := namesK_mem.2 ⟨fun h0 => (by rw [← chosenK_none (kp := kp)] at h0; rw [h0] at hc; cases hc), h1.1⟩
   obtain ⟨g1, g2⟩ := h.lo d.key hk d hc h1.2.2
   refine ⟨g1, ?_⟩
   obtain ⟨k, hk2, e, he, hs, hp⟩ := h.tw g1
   obtain ⟨m1, m2⟩ := pred k hk2 e he hs
   rcases find?_asc hA m1 m2 hf with hd | hd
   · rw [hp, hd]
   · rw [← hp] at hd; exact (g2 hd).elim
end
theorem con_find (x : RLink) (hok : RsOk x.objs.l x.kp.l) (lb : Nat) (L : List Dfn) (st : CS) (mM : ByteArray → Option GCulprit) (hF : FinOk x L st mM) (SV : ByteArray → ByteArray → Bool) (hSV : ∀ p q, SV p q = true ↔ Srv x.vs.l p q) (n v : ByteArray) :
   Con Tryz.prog 90 [.pointer (some ⟨lb, 0, none⟩), kPair (n, v)] [At lb 0 x.row, x.ok, x.fin L st mM] [] (fun r ps hp => ps = [] ∧ hp = [] ∧ ∃ p : GCulprit, r = .tuple #[p.val, .bool (findR x.kp.l L SV n v).isSome] ∧ ∀ e, findR x.kp.l L SV n v = some e → p = e.p) := by
 have hlN : ((getS st.mN n).l).length ≤ 70 := by
   rw [hF.inv.names]
   have := namesK_le (kp := x.kp.l) L n
   have h2 := flat_le hok
   rw [← hF.flat] at h2; omega
 refine Con.enter Tryz.func90 rfl (by simp [Tryz.ntmps90]) ?_
 show awp _ _ _ _ ⟨[(0, true, _), (1, true, _)], _, _⟩
 refine aSR ?_
 refine aL_eff (q := true) rfl (x_box rfl rfl rfl (fun b0_0 => ?_))
 refine aL_hp (by (try simp only [nM, nN]); rfl) ?_
 refine aL_eff (q := true) rfl (x_alloc (zs := [.int .i64 0, .int .i64 0]) (by kernel_rfl) rfl (fun b0_1 => ?_))
 refine aL_hp (by (try simp only [nM, nN]); rfl) ?_
 refine aA rfl (aNs (aSR ?_))
 refine aU rfl (q_fieldAddr (off := 1) (by kernel_rfl) rfl) ?_
 refine aU rfl (q_load 0 tk9 rfl rfl rfl) (aU rfl (qs_eqlD rfl rfl) (aNn ?_))
 refine awp_cond _ rfl (fun h1 => ?_) (fun h1 => ?_)
 ·skip
  have c1 : v = .empty := of_decide_eq_true h1
  refine awp_seq ?_
  refine awp_drawn [11] (by kernel_rfl) ?_
  show aB _ _ _ _ _ 13 #[false, false, false, false, false, false, false, false, false, false, false, false, false] _
  refine bU 0 rfl (by kernel_rfl) rfl (q_move rfl) ?_
  refine bU 1 rfl (by kernel_rfl) rfl (q_nilCheck rfl) ?_
  refine bU 2 rfl (by kernel_rfl) rfl (q_fieldAddr (off := 8) (by kernel_rfl) rfl) ?_
  refine bU 3 rfl (by kernel_rfl) rfl (q_loadDE (o := 8) tk105 rfl (.of (psAt 0 rfl)) rfl) ?_
  refine bU 4 rfl (by kernel_rfl) rfl (q_fieldAddr (off := 0) (by kernel_rfl) rfl) ?_
  refine bU 5 rfl (by kernel_rfl) rfl (q_load 0 tk9 rfl rfl rfl) ?_
  refine bU 6 rfl (by kernel_rfl) rfl (qs_lookOk (k := n) (v0 := (⟨0, 0⟩ : GCulprit)) Tryz.underlying105 (kyT) (by kernel_rfl) rfl rfl ((RLink.g_mn (.of (psAt 2 rfl))))) ?_
  refine bU 7 rfl (by kernel_rfl) rfl (q_move rfl) ?_
  refine bU 8 rfl (by kernel_rfl) rfl (q_extract rfl rfl) ?_
  refine aB_p 9 rfl (by kernel_rfl) true rfl rfl (fun _ => q_extract rfl rfl) ?_
  refine aB_eff (q := true) 10 rfl (by kernel_rfl) rfl rfl (x_alloc (zs := [.int .i64 0, .int .i64 0]) (by kernel_rfl) rfl (fun b2_10 => ?_))
  refine aB_st rfl (by (try simp only [nM, nN]); rfl) (by (try simp only [putB, place, Nat.reduceBEq, if_true, if_false, reduceIte, Nat.reduceAdd, nW]); rfl) ?_
  refine aB_eff 11 rfl (by kernel_rfl) rfl rfl (x_store 2 tk34 rfl rfl rfl rfl ?_)
  refine aB_st rfl (by (try simp only [nM, nN]); rfl) (by (try simp only [putB, place, Nat.reduceBEq, if_true, if_false, reduceIte, Nat.reduceAdd, nW]); rfl) ?_
  refine bU 12 rfl (by kernel_rfl) rfl (q_assign rfl) ?_
  refine aB_nil (by kernel_rfl) ?_
  refine thn_n (aSR (aU rfl (q_load 2 tk34 rfl rfl rfl) (aM rfl ?_)))
  refine aL_eff rfl (x_store 1 tk34 rfl rfl rfl rfl ?_)
  refine aL_hp (by (try simp only [nK, nL]); rfl) ?_
  refine aA rfl (aNn (awp_ret (thn_r ?_)))
  refine finR2 [] [] rfl Tryz.results90 (rv_cell 1 tk34 rfl rfl rfl) (rv_tmp rfl) ?_ (.inr rfl)
  have hfr : findR x.kp.l L SV n v = (mainL x.kp.l L n).head? := by unfold findR; rw [if_pos c1]
  refine ⟨rfl, rfl, (mM n).getD ⟨0, 0⟩, ?_, fun e he => ?_⟩
  · rw [hfr, hF.mains]; cases (mainL x.kp.l L n).head? <;> rfl
  · rw [hF.mains, ← hfr, he]; rfl
 ·skip
  have c1 : ¬ v = .empty := of_decide_eq_false h1
  refine awp_skip (thn_n (awp_seq (awp_seq ?_)))
  refine awp_drawn [10] (by kernel_rfl) ?_
  show aB _ _ _ _ _ 12 #[false, false, false, false, false, false, false, false, false, false, false, false] _
  refine bU 0 rfl (by kernel_rfl) rfl (q_move rfl) ?_
  refine bU 1 rfl (by kernel_rfl) rfl (q_nilCheck rfl) ?_
  refine bU 2 rfl (by kernel_rfl) rfl (q_fieldAddr (off := 6) (by kernel_rfl) rfl) ?_
  refine bU 3 rfl (by kernel_rfl) rfl (q_loadDE (o := 6) tk103 rfl (.of (psAt 0 rfl)) rfl) ?_
  refine bU 4 rfl (by kernel_rfl) rfl (q_load 0 tk157 rfl rfl rfl) ?_
  refine bU 5 rfl (by kernel_rfl) rfl (qs_lookOk (k := (n, v)) (v0 := (⟨0, 0⟩ : GCulprit)) Tryz.underlying103 (kyK) (by kernel_rfl) rfl rfl ((RLink.g_ch (.of (psAt 2 rfl))))) ?_
  refine bU 6 rfl (by kernel_rfl) rfl (q_move rfl) ?_
  refine bU 7 rfl (by kernel_rfl) rfl (q_extract rfl rfl) ?_
  refine aB_p 8 rfl (by kernel_rfl) true rfl rfl (fun _ => q_extract rfl rfl) ?_
  refine aB_eff (q := true) 9 rfl (by kernel_rfl) rfl rfl (x_alloc (zs := [.int .i64 0, .int .i64 0]) (by kernel_rfl) rfl (fun b4_9 => ?_))
  refine aB_st rfl (by (try simp only [nM, nN]); rfl) (by (try simp only [putB, place, Nat.reduceBEq, if_true, if_false, reduceIte, Nat.reduceAdd, nW]); rfl) ?_
  refine aB_eff 10 rfl (by kernel_rfl) rfl rfl (x_store 2 tk34 rfl rfl rfl rfl ?_)
  refine aB_st rfl (by (try simp only [nM, nN]); rfl) (by (try simp only [putB, place, Nat.reduceBEq, if_true, if_false, reduceIte, Nat.reduceAdd, nW]); rfl) ?_
  refine bU 11 rfl (by kernel_rfl) rfl (q_assign rfl) ?_
  refine aB_nil (by kernel_rfl) ?_
  refine thn_n (aSR (aM rfl (aNn ?_)))
  refine awp_cond _ rfl (fun h2 => ?_) (fun h2 => ?_)
  ·skip
   obtain ⟨e, he⟩ : ∃ e, chosenK x.kp.l L (n, v) = some e := by
     cases hc : chosenK x.kp.l L (n, v) with
     | some e => exact ⟨e, rfl⟩
     | none => unfold chP at h2; rw [hc] at h2; cases h2
   have hp0 : (chP x.kp.l L (n, v)).getD ⟨0, 0⟩ = e.p := by unfold chP; rw [he]; rfl
   refine aSR (aU rfl (q_load 2 tk34 rfl rfl rfl) ?_)
   refine aL_eff rfl (x_store 1 tk34 rfl rfl rfl rfl ?_)
   refine aL_hp (by (try simp only [nK, nL]); rfl) ?_
   refine aA rfl (aNn (awp_ret (thn_r ?_)))
   refine finR2 [] [] rfl Tryz.results90 (rv_cell 1 tk34 rfl rfl rfl) (rv_tmp rfl) ?_ (.inr rfl)
   have hfr : findR x.kp.l L SV n v = some e := by unfold findR; rw [if_neg c1, he]; rfl
   refine ⟨rfl, rfl, (chP x.kp.l L (n, v)).getD ⟨0, 0⟩, by rw [hfr]; rfl, fun e2 he2 => ?_⟩
   rw [hfr] at he2
   rw [hp0, Option.some.inj he2]
  ·skip
   have he : chosenK x.kp.l L (n, v) = none := by
     cases hc : chosenK x.kp.l L (n, v) with
     | none => rfl
     | some e => unfold chP at h2; rw [hc] at h2; cases h2
   refine awp_skip (thn_n (aSR ?_))
   refine aL_eff (q := true) rfl (x_alloc (zs := [.int .i64 0, .int .i64 0]) (by kernel_rfl) rfl (fun b7_0 => ?_))
   refine aL_hp (by (try simp only [nM, nN]); rfl) ?_
   refine aNn (aSR ?_)
   refine aL_eff (q := true) rfl (x_alloc (zs := [.bool false]) (by kernel_rfl) rfl (fun b8_0 => ?_))
   refine aL_hp (by (try simp only [nM, nN]); rfl) ?_
   refine aL_eff rfl (x_store 4 tk4 rfl rfl rfl rfl ?_)
   refine aL_hp (by (try simp only [nK, nL]); rfl) ?_
   refine aNs (awp_seq ?_)
   refine awp_drawn [] (by kernel_rfl) ?_
   show aB _ _ _ _ _ 9 #[false, false, false, false, false, false, false, false, false] _
   refine bU 0 rfl (by kernel_rfl) rfl (q_move rfl) ?_
   refine bU 1 rfl (by kernel_rfl) rfl (q_nilCheck rfl) ?_
   refine bU 2 rfl (by kernel_rfl) rfl (q_fieldAddr (off := 7) (by kernel_rfl) rfl) ?_
   refine bU 3 rfl (by kernel_rfl) rfl (q_loadDE (o := 7) tk104 rfl (.of (psAt 0 rfl)) rfl) ?_
   refine bU 4 rfl (by kernel_rfl) rfl (q_fieldAddr (off := 0) (by kernel_rfl) rfl) ?_
   refine bU 5 rfl (by kernel_rfl) rfl (q_load 0 tk9 rfl rfl rfl) ?_
   refine bU 6 rfl (by kernel_rfl) rfl (qs_look (k := n) (v0 := (⟨none, 0, []⟩ : Sl RKey)) Tryz.underlying104 (kyT) (by kernel_rfl) rfl rfl ((RLink.g_nm (.of (psAt 2 rfl))))) ?_
   refine bU 7 rfl (by kernel_rfl) rfl (q_lenS Tryz.underlying159 rfl) ?_
   refine bU 8 rfl (by kernel_rfl) rfl (q_move rfl) ?_
   refine aB_nil (by kernel_rfl) ?_
   refine thn_n (awp_block ?_)
   refine awp_loopK [0, 3, 4, 10, 11, 46, 47, 48] [2, 1, 0] [0, 1, 3, 4] (fun (q : Nat × (GCulprit × Bool)) s => (q.1 ≤ (getS st.mN n).l.length ∧ LsInv x.kp.l L SV v ((getS st.mN n).l.take q.1) q.2) ∧ s = ⟨[(0, true, .pointer (some ⟨lb, 0, none⟩)), (3, true, .pointer (some ⟨b0_0, 0, none⟩)), (4, true, .pointer (some ⟨b0_1, 0, none⟩)), (10, true, .pointer (some ⟨b7_0, 0, none⟩)), (11, true, .pointer (some ⟨b8_0, 0, none⟩)), (46, true, slV (getS st.mN n)), (47, true, .int .i64 (getS st.mN n).l.length), (48, true, .int .i64 q.1)],
     [At lb 0 x.row, x.ok, x.fin L st mM], [Box b0_0 157 [.string n, .string v], Box b0_1 34 [.int .i64 0, .int .i64 0], Box b7_0 34 q.2.1.vs, Box b8_0 4 [.bool q.2.2]]⟩) (fun q => (getS st.mN n).l.length - q.1) rfl (⟨(0, (⟨0, 0⟩, false)), ⟨Nat.zero_le _, .start _⟩, rfl⟩) ?_
   rintro ⟨j, fa⟩ s ⟨⟨hj, hL⟩, rfl⟩
   dsimp only at hj hL
   refine aSR (aU rfl (q_lss rfl rfl) (aNs ?_))
   refine awp_cond _ rfl (fun h3 => ?_) (fun h3 => ?_)
   ·skip
    have hj' : j < (getS st.mN n).l.length := by simp at h3; omega
    obtain ⟨kk, hkk⟩ : ∃ kk, (getS st.mN n).l[j]? = some kk := ⟨_, List.getElem?_eq_getElem hj'⟩
    obtain ⟨ee, hee⟩ : ∃ ee, chosenK x.kp.l L kk = some ee := by
      cases hc : chosenK x.kp.l L kk with
      | some ee => exact ⟨ee, rfl⟩
      | none => exact ((namesK_mem.1 (by rw [← hF.inv.names]; exact List.mem_of_getElem? hkk)).1 (chosenK_none.1 hc)).elim
    refine awp_skip (thn_n (awp_seq (awp_block (aSR ?_))))
    refine aL_E true rfl rfl (fun _ => q_indexAddrG Tryz.underlying159 tk157 rfl ((Ent.getS (RLink.g_keys (.of (psAt 2 rfl))) n)) rfl (rows_get hkk) rfl rfl) (fun h => absurd h (by decide)) (fun ⟨b11_0, o11_0⟩ => ?_)
    refine aU rfl (q_loadD (o := 0) tk157 rfl (psAt 0 rfl) rfl rfl) ?_
    refine aL_eff (q := true) rfl (x_alloc (zs := [.string .empty, .string .empty]) (by kernel_rfl) rfl (fun b11_2 => ?_))
    refine aL_hp (by (try simp only [nM, nN]); rfl) ?_
    refine aL_eff rfl (x_store 4 tk157 rfl rfl rfl rfl ?_)
    refine aL_hp (by (try simp only [nK, nL]); rfl) ?_
    refine aNs ?_
    refine awp_drawn [] (by kernel_rfl) ?_
    show aB _ _ _ _ _ 9 #[false, false, false, false, false, false, false, false, false] _
    refine bU 0 rfl (by kernel_rfl) rfl (q_move rfl) ?_
    refine bU 1 rfl (by kernel_rfl) rfl (q_nilCheck rfl) ?_
    refine bU 2 rfl (by kernel_rfl) rfl (q_fieldAddr (off := 4) (by kernel_rfl) rfl) ?_
    refine bU 3 rfl (by kernel_rfl) rfl (q_loadDE (o := 4) tk24 rfl (.of (psAt 1 rfl)) rfl) ?_
    refine bU 4 rfl (by kernel_rfl) rfl (q_fieldAddr (off := 1) (by kernel_rfl) rfl) ?_
    refine bU 5 rfl (by kernel_rfl) rfl (q_load 4 tk9 rfl rfl rfl) ?_
    refine bU 6 rfl (by kernel_rfl) rfl (q_fieldAddr (off := 1) (by kernel_rfl) rfl) ?_
    refine bU 7 rfl (by kernel_rfl) rfl (q_load 0 tk9 rfl rfl rfl) ?_
    refine bU 8 rfl (by kernel_rfl) rfl (q_call (by kernel_rfl) rfl (fun w S fp hst => (con_servesL x kk.2 v SV hSV).quiet1 (psAt 2 rfl) hst)) ?_
    refine aB_nil (by kernel_rfl) ?_
    refine thn_n ?_
    refine awp_cond _ rfl (fun h4 => ?_) (fun h4 => ?_)
    ·skip
     refine awp_drawn [6] (by kernel_rfl) ?_
     show aB _ _ _ _ _ 7 #[false, false, false, false, false, false, false] _
     refine bU 0 rfl (by kernel_rfl) rfl (q_move rfl) ?_
     refine bU 1 rfl (by kernel_rfl) rfl (q_nilCheck rfl) ?_
     refine bU 2 rfl (by kernel_rfl) rfl (q_fieldAddr (off := 6) (by kernel_rfl) rfl) ?_
     refine bU 3 rfl (by kernel_rfl) rfl (q_loadDE (o := 6) tk103 rfl (.of (psAt 1 rfl)) rfl) ?_
     refine bU 4 rfl (by kernel_rfl) rfl (q_load 4 tk157 rfl rfl rfl) ?_
     refine bU 5 rfl (by kernel_rfl) rfl ((qs_look (k := kk) (v0 := (⟨0, 0⟩ : GCulprit)) Tryz.underlying103 (kyK) (by kernel_rfl) rfl rfl ((RLink.g_ch (.of (psAt 3 rfl))))).castV (v' := GCulprit.val ee.p) (congrArg GCulprit.val (by unfold chP; rw [hee]; rfl))) ?_
     refine aB_eff (q := false) 6 rfl (by kernel_rfl) rfl rfl (e_call [] [2, 3] (by kernel_rfl) rfl rfl rfl rfl (con_least b7_0 b8_0 fa ee.p) ?_)
     rintro _ _ _ ⟨rfl, rfl⟩
     refine aB_st rfl (by (try simp only [nM, nN]); rfl) (by (try simp only [putB, place, Nat.reduceBEq, if_true, if_false, reduceIte, Nat.reduceAdd, nW]); rfl) ?_
     refine aB_nil (by kernel_rfl) ?_
     refine blk_n (thn_n (awp_region ?_))
     refine aU rfl (q_addi rfl rfl (by omega)) ?_
     refine aM rfl (aNn ?_)
     refine ⟨[0, 3, 4, 10, 11, 46, 47, 48], [2, 1, 0], [0, 1, 2, 3], rfl, ?_⟩
     exact ⟨(j + 1, leastF fa ee.p), ⟨⟨by dsimp only; omega, by dsimp only; rw [List.take_add_one, hkk]; exact hL.hit hee h4⟩, rfl⟩, by dsimp only; omega⟩
    ·skip
     refine awp_skip (blk_n (thn_n (awp_region ?_)))
     refine aU rfl (q_addi rfl rfl (by omega)) ?_
     refine aM rfl (aNn ?_)
     refine ⟨[0, 3, 4, 10, 11, 46, 47, 48], [2, 1, 0], [0, 1, 2, 3], rfl, ?_⟩
     exact ⟨(j + 1, fa), ⟨⟨by dsimp only; omega, by dsimp only; rw [List.take_add_one, hkk]; exact hL.miss (by rw [h4]; decide)⟩, rfl⟩, by dsimp only; omega⟩
   ·skip
    have hfin : LsInv x.kp.l L SV v (namesK x.kp.l L n) fa := by
      rw [List.take_of_length_le (by simp at h3; omega), hF.inv.names] at hL; exact hL
    have hlast := hfin.fin hF.asc
    have hfr : findR x.kp.l L SV n v = L.find? fun d => decide (d.s.name = n) && (isCh x.kp.l L d && SV d.s.version v) := by unfold findR; rw [if_neg c1, he]; rfl
    rw [← hfr] at hlast
    refine awp_exit (thn_e (thn_e (blk_hit (thn_n (awp_seq ?_)))))
    refine awp_drawn [2] (by kernel_rfl) ?_
    show aB _ _ _ _ _ 4 #[false, false, false, false] _
    refine bU 0 rfl (by kernel_rfl) rfl (q_load 2 tk34 rfl rfl rfl) ?_
    refine aB_or (qi := true) (qj := false) 1 2 (by kernel_rfl) rfl rfl rfl rfl rfl rfl ?_ ?_
    ·skip
     refine Quiet.eff (q_load 3 tk4 rfl rfl rfl) rfl ?_
     refine aB_st rfl (by (try simp only [nM, nN]); rfl) (by (try simp only [putB, place, Nat.reduceBEq, if_true, if_false, reduceIte, Nat.reduceAdd, nW]); rfl) ?_
     refine aB_eff 2 rfl (by kernel_rfl) rfl rfl (x_store 1 tk34 rfl rfl rfl rfl ?_)
     refine aB_st rfl (by (try simp only [nM, nN]); rfl) (by (try simp only [putB, place, Nat.reduceBEq, if_true, if_false, reduceIte, Nat.reduceAdd, nW]); rfl) ?_
     refine bU 3 rfl (by kernel_rfl) rfl (q_assign rfl) ?_
     refine aB_nil (by kernel_rfl) ?_
     refine thn_n (awp_ret ?_)
     refine finR2 [] [] rfl Tryz.results90 (rv_cell 1 tk34 rfl rfl rfl) (rv_tmp rfl) ?_ (.inr rfl)
     refine ⟨rfl, rfl, fa.1, ?_, fun e2 he2 => ?_⟩
     · cases hc : findR x.kp.l L SV n v with
       | none => rw [hc] at hlast; dsimp only at hlast; show Value.tuple #[_, Value.bool fa.2] = _; rw [hlast]; rfl
       | some d => rw [hc] at hlast; dsimp only at hlast; show Value.tuple #[_, Value.bool fa.2] = _; rw [hlast.1]; rfl
     · rw [he2] at hlast; exact hlast.2
    ·skip
     refine id (x_store 1 tk34 rfl rfl rfl rfl ?_)
     refine aB_st rfl (by (try simp only [nM, nN]); rfl) (by (try simp only [putB, place, Nat.reduceBEq, if_true, if_false, reduceIte, Nat.reduceAdd, nW]); rfl) ?_
     refine bU 1 rfl (by kernel_rfl) rfl (q_load 3 tk4 rfl rfl rfl) ?_
     refine bU 3 rfl (by kernel_rfl) rfl (q_assign rfl) ?_
     refine aB_nil (by kernel_rfl) ?_
     refine thn_n (awp_ret ?_)
     refine finR2 [] [] rfl Tryz.results90 (rv_cell 1 tk34 rfl rfl rfl) (rv_tmp rfl) ?_ (.inr rfl)
     refine ⟨rfl, rfl, fa.1, ?_, fun e2 he2 => ?_⟩
     · cases hc : findR x.kp.l L SV n v with
       | none => rw [hc] at hlast; dsimp only at hlast; show Value.tuple #[_, Value.bool fa.2] = _; rw [hlast]; rfl
       | some d => rw [hc] at hlast; dsimp only at hlast; show Value.tuple #[_, Value.bool fa.2] = _; rw [hlast.1]; rfl
     · rw [he2] at hlast; exact hlast.2
end Go.Proofs.YtgmiihmahaahiaaGreatDoor

namespace Go.Proofs.YtgmiihmahaahiaaGreatDoor
open Go.RowKit Go.Lp Go.Sy
open Go.Proofs.Tryz
attribute [local irreducible] aL aB awp aC fwp
open Classical in
noncomputable def srvB (vs : List GVersionDef) (a b : ByteArray) : Bool := decide (Srv vs a b)
open Classical in
theorem srvB_iff {vs : List GVersionDef} {a b : ByteArray} : srvB vs a b = true ↔ Srv vs a b := by unfold srvB; exact decide_eq_true_iff
noncomputable def exR (f : GIface) (k : RKey) (e : GExport) : Bool := decide (e.name = k.1) && (if k.2 = .empty then e.main || decide (e.version = .empty) else srvB f.versions.l e.version k.2)
noncomputable def ifR (k : RKey) (f : GIface) : Bool := f.exports.l.any (exR f k)
def idxI (o : Option Nat) : Int := match o with
 | some i => i
 | none => -1
noncomputable def libR (ifs : List GIface) (n v : ByteArray) : Int := idxI (ifs.findIdx? (ifR (n, v)))
theorem idxI_ge {α : Type} (p : α → Bool) (l : List α) : decide (idxI (l.findIdx? p) ≥ 0) = l.any p := by
 cases h : l.findIdx? p with
 | none =>
   rw [List.findIdx?_eq_none_iff] at h
   have : l.any p = false := by rw [List.any_eq_false]; exact fun x hx => by rw [h x hx]; simp
   rw [this]; rfl
 | some i =>
   rw [List.findIdx?_eq_some_iff_getElem] at h
   obtain ⟨hi, h1, _⟩ := h
   have : l.any p = true := List.any_eq_true.2 ⟨_, List.getElem_mem hi, h1⟩
   rw [this, decide_eq_true_eq]; exact Int.natCast_nonneg i
theorem findIdx_take {α : Type} {p : α → Bool} {l : List α} {k : Nat} {a : α} (h : ∀ x ∈ l.take k, p x = false) (ha : l[k]? = some a) (hp : p a = true) : l.findIdx? p = some k := by
 obtain ⟨hk, rfl⟩ := List.getElem?_eq_some_iff.1 ha
 rw [List.findIdx?_eq_some_iff_getElem]
 refine ⟨hk, hp, fun j hj => ?_⟩
 rw [h _ (List.mem_take_iff_getElem.2 ⟨j, by omega, rfl⟩)]; simp
theorem con_servesF (f : GIface) (a b : ByteArray) : Con Tryz.prog 22 [f.versions.val, .string a, .string b] [f.ok] [] fun r _ _ => r = .bool (srvB f.versions.l a b) :=
 (con_serves f.versions a b (srvB f.versions.l) (fun _ _ => srvB_iff)).pre fun p hp => by
   simp only [List.mem_cons, List.not_mem_nil, or_false] at hp
   rcases hp with rfl | rfl
   · exact GIface.f_versions (.of (psAt 0 rfl))
   · exact GIface.f_versionsA (.of (psAt 0 rfl))
theorem con_ex (kb fb : Nat) (k : RKey) (f : GIface) (e : GExport) : Con Tryz.prog 195 [e.val, .pointer (some ⟨kb, 0, none⟩), .pointer (some ⟨fb, 0, none⟩)] [At kb 0 [.v (.string k.1), .v (.string k.2)], At fb 0 f.row, f.ok] [] (fun r _ _ => r = .bool (exR f k e)) := by
 obtain ⟨n, v⟩ := k
 refine Con.enter Tryz.func195 rfl (by simp [Tryz.ntmps195]) ?_
 show awp _ _ _ _ ⟨[(0, true, _), (1, true, _), (2, true, _)], _, _⟩
 refine aSR ?_
 refine aL_eff (q := true) rfl (x_box rfl rfl rfl (fun b0_0 => ?_))
 refine aL_hp (by (try simp only [nM, nN]); rfl) ?_
 refine aA rfl (aNs (aSR ?_))
 refine aU rfl (q_fieldAddr (off := 0) (by kernel_rfl) rfl) ?_
 refine aU rfl (q_load 0 tk9 rfl rfl rfl) ?_
 refine aU rfl (q_fieldAddr (off := 0) (by kernel_rfl) rfl) ?_
 refine aU rfl (q_loadDE (o := 0) tk9 rfl (.of (psAt 0 rfl)) rfl) (aU rfl (qs_neqD rfl rfl) (aNn ?_))
 refine awp_cond _ rfl (fun h1 => ?_) (fun h1 => ?_)
 ·skip
  have c1 : ¬ e.name = n := by simpa using h1
  refine aSR (aA rfl (aNn (awp_ret (thn_r ?_))))
  refine fin1 [] [] rfl Tryz.results195 rfl ?_ (.inr rfl)
  unfold exR; rw [decide_eq_false c1]; rfl
 ·skip
  have c1 : e.name = n := by simpa using h1
  refine awp_skip (thn_n (awp_seq (aSR ?_)))
  refine aU rfl (q_fieldAddr (off := 1) (by kernel_rfl) rfl) ?_
  refine aU rfl (q_loadDE (o := 1) tk9 rfl (.of (psAt 0 rfl)) rfl) (aU rfl (qs_eqlD rfl rfl) (aNn ?_))
  refine awp_cond _ rfl (fun h2 => ?_) (fun h2 => ?_)
  ·skip
   have c2 : v = .empty := of_decide_eq_true h2
   refine aSR ?_
   refine aU rfl (q_fieldAddr (off := 2) (by kernel_rfl) rfl) ?_
   refine aU rfl (q_load 0 tk4 rfl rfl rfl) (aM rfl ?_)
   refine aG rfl rfl (fun hc => q_fieldAddr (off := 1) (by kernel_rfl) rfl) ?_
   refine aG rfl rfl (fun hc => q_load 0 tk9 (ev_yes rfl hc) rfl rfl) (aG rfl rfl (fun hc => qs_eqlD (ev_yes rfl hc) rfl) (aU rfl (q_or rfl rfl (fun h => gf rfl h)) (aA rfl (aNn (awp_ret (thn_r ?_))))))
   refine fin1 [] [] rfl Tryz.results195 rfl ?_ (.inr rfl)
   unfold exR; rw [decide_eq_true c1, if_pos c2]; rfl
  ·skip
   have c2 : ¬ v = .empty := of_decide_eq_false h2
   refine awp_skip (thn_n (aSR ?_))
   refine aU rfl (q_fieldAddr (off := 2) (by kernel_rfl) rfl) ?_
   refine aU rfl (q_loadDE (o := 2) tk24 rfl (.of (psAt 1 rfl)) rfl) ?_
   refine aU rfl (q_fieldAddr (off := 1) (by kernel_rfl) rfl) ?_
   refine aU rfl (q_load 0 tk9 rfl rfl rfl) ?_
   refine aU rfl (q_fieldAddr (off := 1) (by kernel_rfl) rfl) ?_
   refine aU rfl (q_loadDE (o := 1) tk9 rfl (.of (psAt 0 rfl)) rfl) ?_
   refine aU rfl (q_call (by kernel_rfl) rfl (fun w S fp hst => (con_servesF f e.version v).quiet1 (psAt 2 rfl) hst)) ?_
   refine aA rfl (aNn (awp_ret ?_))
   refine fin1 [] [] rfl Tryz.results195 rfl ?_ (.inr rfl)
   unfold exR; rw [decide_eq_true c1, if_neg c2]; rfl
theorem con_idxf_export (l : Sl GExport) (F : FuncId) (caps : List Value) (p : Per) (g : GExport → Bool) (hF : callOk Tryz.prog F = true) (h : ∀ a ∈ l.l, Con Tryz.prog F (a.val :: caps) [p] [] (fun r _ _ => r = .bool (g a))) : Con Tryz.prog 260 [l.val, .func (.func F) #[] caps.toArray] [ShF GExport.row l, p] []
   (fun r _ _ => r = .int .i64 (idxI (l.l.findIdx? g))) := by
 refine Con.enter Tryz.func260 rfl (by simp [Tryz.ntmps260]) ?_
 show awp _ _ _ _ ⟨[(0, true, _), (1, true, _)], _, _⟩
 refine awp_lenE (.of (psAt 0 rfl)) (fun hlen => ?_)
 refine aSR (aA rfl (aNs (aSR (aM rfl (aU rfl (q_lenS Tryz.underlying71 rfl) (aM rfl (aNn (awp_block ?_))))))))
 refine awp_loopK [0, 1, 7, 8] [1, 0] [] (fun (k : Nat) s => (k ≤ l.l.length ∧ ∀ a ∈ l.l.take k, g a = false) ∧ s = ⟨[(0, true, l.val), (1, true, .func (.func F) #[] caps.toArray), (7, true, .int .i64 l.l.length), (8, true, .int .i64 k)], [ShF GExport.row l, p], []⟩) (fun k => l.l.length - k) rfl (⟨0, ⟨Nat.zero_le _, fun a ha => by cases ha⟩, rfl⟩) ?_
 rintro k s ⟨⟨hk, hno⟩, rfl⟩
 refine aSR (aU rfl (q_lss rfl rfl) (aNs ?_))
 refine awp_cond _ rfl (fun h1 => ?_) (fun h1 => ?_)
 ·skip
  have hk' : k < l.l.length := by simpa using h1
  obtain ⟨a, ha⟩ : ∃ a, l.l[k]? = some a := ⟨l.l[k]'hk', by simp⟩
  refine awp_skip (thn_n (awp_seq (awp_block (aSR (aM rfl (aA rfl (aNn (aSR (aM rfl (aM rfl (aM rfl ?_)))))))))))
  refine aL_E true rfl rfl (fun _ => q_indexAddrG Tryz.underlying71 tk128 rfl ((.of (psAt 0 rfl))) rfl (rows_get ha) rfl rfl) (fun h => absurd h (by decide)) (fun ⟨b4_3, o4_3⟩ => ?_)
  refine aU rfl (q_loadD (o := 0) tk128 rfl (psAt 0 rfl) rfl rfl) (aU rfl (q_callC hF rfl rfl (fun w S fp hst => (h a (List.mem_of_getElem? ha)).quiet1 (psAt 2 rfl) hst)) (aNn ?_))
  refine awp_cond _ rfl (fun h2 => ?_) (fun h2 => ?_)
  ·skip
   refine aSR (aM rfl (aA rfl (aNn (awp_ret (blk_r (thn_r (thn_r (blk_r (thn_r ?_)))))))))
   refine fin1 [] [] rfl Tryz.results260 rfl ?_ (.inr rfl)
   rw [findIdx_take hno ha h2]; rfl
  ·skip
   refine awp_skip (blk_n (thn_n (awp_region ?_)))
   refine aU rfl (q_addi rfl rfl (by omega)) ?_
   refine aM rfl (aNn ?_)
   refine ⟨[0, 1, 7, 8], [1, 0], [], rfl, ?_⟩
   refine ⟨k + 1, ⟨⟨by omega, ?_⟩, rfl⟩, by omega⟩
   intro y hy
   rw [List.take_add_one, ha, List.mem_append] at hy
   rcases hy with hy | hy
   · exact hno y hy
   · simp at hy; subst hy; exact h2
 ·skip
  refine awp_exit (thn_e (thn_e (blk_hit (thn_n (aSR (aA rfl (aNn (awp_ret ?_))))))))
  refine fin1 [] [] rfl Tryz.results260 rfl ?_ (.inr rfl)
  rw [List.take_of_length_le (by simpa using h1)] at hno
  rw [List.findIdx?_eq_none_iff.2 fun x hx => hno x hx]; rfl
theorem con_cont_export (l : Sl GExport) (F : FuncId) (caps : List Value) (p : Per) (g : GExport → Bool) (hF : callOk Tryz.prog F = true) (h : ∀ a ∈ l.l, Con Tryz.prog F (a.val :: caps) [p] [] (fun r _ _ => r = .bool (g a))) : Con Tryz.prog 194 [l.val, .func (.func F) #[] caps.toArray] [ShF GExport.row l, p] []
   (fun r _ _ => r = .bool (l.l.any g)) := by
 refine Con.enter Tryz.func194 rfl (by simp [Tryz.ntmps194]) ?_
 show awp _ _ _ _ ⟨[(0, true, _), (1, true, _)], _, _⟩
 refine aSR (aA rfl (aNn (aSR (aM rfl (aM rfl ?_)))))
 refine aU rfl (q_call (by kernel_rfl) rfl (fun w S fp hst => (con_idxf_export l F caps p g hF h).quiet2 (psAt 0 rfl) (psAt 1 rfl) hst)) ?_
 refine aU rfl (q_geq rfl rfl) (aA rfl (aNn (awp_ret ?_)))
 refine fin1 [] [] rfl Tryz.results194 rfl ?_ (.inr rfl)
 rw [← idxI_ge]
theorem con_exA (kb fb : Nat) (k : RKey) (f : GIface) (e : GExport) : Con Tryz.prog 195 [e.val, .pointer (some ⟨kb, 0, none⟩), .pointer (some ⟨fb, 0, none⟩)] [AndP (At kb 0 [.v (.string k.1), .v (.string k.2)]) (AndP (At fb 0 f.row) f.ok)] [] (fun r _ _ => r = .bool (exR f k e)) :=
 (con_ex kb fb k f e).pre fun p hp => by
   simp only [List.mem_cons, List.not_mem_nil, or_false] at hp
   rcases hp with rfl | rfl | rfl
   · exact .left (.of (psAt 0 rfl))
   · exact .left (.right (.of (psAt 0 rfl)))
   · exact .right (.right (.of (psAt 0 rfl)))
theorem con_contE (kb fb : Nat) (k : RKey) (f : GIface) : Con Tryz.prog 194 [f.exports.val, .func (.func 195) #[] #[.pointer (some ⟨kb, 0, none⟩), .pointer (some ⟨fb, 0, none⟩)]] [At fb 0 f.row, At kb 0 [.v (.string k.1), .v (.string k.2)], f.ok] []
   (fun r _ _ => r = .bool (ifR k f)) :=
 (con_cont_export f.exports 195 [.pointer (some ⟨kb, 0, none⟩), .pointer (some ⟨fb, 0, none⟩)] _ (exR f k) (by kernel_rfl) (fun a _ => con_exA kb fb k f a)).pre fun p hp => by
   simp only [List.mem_cons, List.not_mem_nil, or_false] at hp
   rcases hp with rfl | rfl
   · exact GIface.f_exports (.of (psAt 2 rfl))
   · exact .mk2 (.of (psAt 1 rfl)) (.mk2 (.of (psAt 0 rfl)) (.of (psAt 2 rfl)))
theorem con_if (kb : Nat) (k : RKey) (f : GIface) : Con Tryz.prog 193 [f.val, .pointer (some ⟨kb, 0, none⟩)] [At kb 0 [.v (.string k.1), .v (.string k.2)], f.ok] [] (fun r _ _ => r = .bool (ifR k f)) := by
 refine Con.enter Tryz.func193 rfl (by simp [Tryz.ntmps193]) ?_
 show awp _ _ _ _ ⟨[(0, true, _), (1, true, _)], _, _⟩
 refine aSR ?_
 refine aL_eff (q := true) rfl (x_box rfl rfl rfl (fun b0_0 => ?_))
 refine aL_hp (by (try simp only [nM, nN]); rfl) ?_
 refine aA rfl (aNs (awp_shareB 0 rfl rfl ?_))
 show awp _ _ _ _ ⟨_, At _ 0 _ :: _, _⟩
 refine awp_region ?_
 refine aU rfl (q_fieldAddr (off := 1) (by kernel_rfl) rfl) ?_
 refine aU rfl (q_loadDE (o := 1) tk71 rfl (.of (psAt 0 rfl)) rfl) (aU rfl (q_func (l := [.tmp 1, .tmp 2]) rfl) ?_)
 refine aU rfl (q_call (by kernel_rfl) rfl (fun w S fp hst => (con_contE kb b0_0 k f).quiet3 (psAt 0 rfl) (psAt 1 rfl) (psAt 2 rfl) hst)) ?_
 refine aA rfl (aNn (awp_ret ?_))
 refine fin1 [] [] rfl Tryz.results193 rfl ?_ (.inr rfl)
 rfl
theorem con_idxf_iface (l : Sl GIface) (F : FuncId) (caps : List Value) (p : Per) (g : GIface → Bool) (hF : callOk Tryz.prog F = true) (h : ∀ a ∈ l.l, Con Tryz.prog F (a.val :: caps) [p] [] (fun r _ _ => r = .bool (g a))) : Con Tryz.prog 192 [l.val, .func (.func F) #[] caps.toArray] [ShF GIface.row l, p] []
   (fun r _ _ => r = .int .i64 (idxI (l.l.findIdx? g))) := by
 refine Con.enter Tryz.func192 rfl (by simp [Tryz.ntmps192]) ?_
 show awp _ _ _ _ ⟨[(0, true, _), (1, true, _)], _, _⟩
 refine awp_lenE (.of (psAt 0 rfl)) (fun hlen => ?_)
 refine aSR (aA rfl (aNs (aSR (aM rfl (aU rfl (q_lenS Tryz.underlying23 rfl) (aM rfl (aNn (awp_block ?_))))))))
 refine awp_loopK [0, 1, 7, 8] [1, 0] [] (fun (k : Nat) s => (k ≤ l.l.length ∧ ∀ a ∈ l.l.take k, g a = false) ∧ s = ⟨[(0, true, l.val), (1, true, .func (.func F) #[] caps.toArray), (7, true, .int .i64 l.l.length), (8, true, .int .i64 k)], [ShF GIface.row l, p], []⟩) (fun k => l.l.length - k) rfl (⟨0, ⟨Nat.zero_le _, fun a ha => by cases ha⟩, rfl⟩) ?_
 rintro k s ⟨⟨hk, hno⟩, rfl⟩
 refine aSR (aU rfl (q_lss rfl rfl) (aNs ?_))
 refine awp_cond _ rfl (fun h1 => ?_) (fun h1 => ?_)
 ·skip
  have hk' : k < l.l.length := by simpa using h1
  obtain ⟨a, ha⟩ : ∃ a, l.l[k]? = some a := ⟨l.l[k]'hk', by simp⟩
  refine awp_skip (thn_n (awp_seq (awp_block (aSR (aM rfl (aA rfl (aNn (aSR (aM rfl (aM rfl (aM rfl ?_)))))))))))
  refine aL_E true rfl rfl (fun _ => q_indexAddrG Tryz.underlying23 tk73 rfl ((.of (psAt 0 rfl))) rfl (rows_get ha) rfl rfl) (fun h => absurd h (by decide)) (fun ⟨b4_3, o4_3⟩ => ?_)
  refine aU rfl (q_loadD (o := 0) tk73 rfl (psAt 0 rfl) rfl rfl) (aU rfl (q_callC hF rfl rfl (fun w S fp hst => (h a (List.mem_of_getElem? ha)).quiet1 (psAt 2 rfl) hst)) (aNn ?_))
  refine awp_cond _ rfl (fun h2 => ?_) (fun h2 => ?_)
  ·skip
   refine aSR (aM rfl (aA rfl (aNn (awp_ret (blk_r (thn_r (thn_r (blk_r (thn_r ?_)))))))))
   refine fin1 [] [] rfl Tryz.results192 rfl ?_ (.inr rfl)
   rw [findIdx_take hno ha h2]; rfl
  ·skip
   refine awp_skip (blk_n (thn_n (awp_region ?_)))
   refine aU rfl (q_addi rfl rfl (by omega)) ?_
   refine aM rfl (aNn ?_)
   refine ⟨[0, 1, 7, 8], [1, 0], [], rfl, ?_⟩
   refine ⟨k + 1, ⟨⟨by omega, ?_⟩, rfl⟩, by omega⟩
   intro y hy
   rw [List.take_add_one, ha, List.mem_append] at hy
   rcases hy with hy | hy
   · exact hno y hy
   · simp at hy; subst hy; exact h2
 ·skip
  refine awp_exit (thn_e (thn_e (blk_hit (thn_n (aSR (aA rfl (aNn (awp_ret ?_))))))))
  refine fin1 [] [] rfl Tryz.results192 rfl ?_ (.inr rfl)
  rw [List.take_of_length_le (by simpa using h1)] at hno
  rw [List.findIdx?_eq_none_iff.2 fun x hx => hno x hx]; rfl
theorem con_ifA (ifs : Sl GIface) (kb : Nat) (k : RKey) (f : GIface) (hf : f ∈ ifs.l) : Con Tryz.prog 193 [f.val, .pointer (some ⟨kb, 0, none⟩)] [AndP (At kb 0 [.v (.string k.1), .v (.string k.2)]) (AllF GIface.ok ifs.l)] [] (fun r _ _ => r = .bool (ifR k f)) :=
 (con_if kb k f).pre fun p hp => by
   simp only [List.mem_cons, List.not_mem_nil, or_false] at hp
   rcases hp with rfl | rfl
   · exact .left (.of (psAt 0 rfl))
   · exact .allm (.right (.of (psAt 0 rfl))) hf
theorem con_idxI (x : RLink) (kb : Nat) (k : RKey) : Con Tryz.prog 192 [x.ifs.val, .func (.func 193) #[] #[.pointer (some ⟨kb, 0, none⟩)]] [At kb 0 [.v (.string k.1), .v (.string k.2)], x.ok] []
   (fun r _ _ => r = .int .i64 (libR x.ifs.l k.1 k.2)) :=
 (con_idxf_iface x.ifs 193 [.pointer (some ⟨kb, 0, none⟩)] _ (ifR k) (by kernel_rfl) (fun a ha => con_ifA x.ifs kb k a ha)).pre fun p hp => by
   simp only [List.mem_cons, List.not_mem_nil, or_false] at hp
   rcases hp with rfl | rfl
   · exact RLink.f_ifs (.of (psAt 1 rfl))
   · exact .mk2 (.of (psAt 0 rfl)) (RLink.f_ifsA (.of (psAt 1 rfl)))
theorem con_library (x : RLink) (lb : Nat) (n v : ByteArray) : Con Tryz.prog 92 [.pointer (some ⟨lb, 0, none⟩), kPair (n, v)] [At lb 0 x.row, x.ok] [] (fun r _ _ => r = .int .i64 (libR x.ifs.l n v)) := by
 refine Con.enter Tryz.func92 rfl (by simp [Tryz.ntmps92]) ?_
 show awp _ _ _ _ ⟨[(0, true, _), (1, true, _)], _, _⟩
 refine aSR ?_
 refine aL_eff (q := true) rfl (x_box rfl rfl rfl (fun b0_0 => ?_))
 refine aL_hp (by (try simp only [nM, nN]); rfl) ?_
 refine aA rfl (aNs (awp_shareB 0 rfl rfl ?_))
 show awp _ _ _ _ ⟨_, At _ 0 _ :: _, _⟩
 refine awp_region (aM rfl (aU rfl (q_nilCheck rfl) ?_))
 refine aU rfl (q_fieldAddr (off := 3) (by kernel_rfl) rfl) ?_
 refine aU rfl (q_loadDE (o := 3) tk23 rfl (.of (psAt 1 rfl)) rfl) (aU rfl (q_func (l := [.tmp 3]) rfl) ?_)
 refine aU rfl (q_call (by kernel_rfl) rfl (fun w S fp hst => (con_idxI x b0_0 (n, v)).quiet2 (psAt 0 rfl) (psAt 2 rfl) hst)) ?_
 refine aA rfl (aNn (awp_ret ?_))
 refine fin1 [] [] rfl Tryz.results92 rfl ?_ (.inr rfl)
 rfl
end Go.Proofs.YtgmiihmahaahiaaGreatDoor

namespace Go.Proofs.YtgmiihmahaahiaaGreatDoor
open Go.RowKit Go.Lp Go.Sy
open Go.Proofs.Tryz
attribute [local irreducible] aL aB awp aC fwp
theorem con_visX (x : RLink) (n : ByteArray) : Con Tryz.prog 16 [x.objs.val, .string n] [x.ok] [] (fun r _ _ => r = .int .i64 (visR (flatF x.objs.l) n)) :=
 (con_vis x.objs n).pre fun p hp => by
   simp only [List.mem_cons, List.not_mem_nil, or_false] at hp
   rcases hp with rfl | rfl
   · exact RLink.f_objs (.of (psAt 0 rfl))
   · exact RLink.f_objsA (.of (psAt 0 rfl))
theorem con_choice (x : RLink) (hok : RsOk x.objs.l x.kp.l) (lb : Nat) (L : List Dfn) (st : CS) (mM : ByteArray → Option GCulprit) (hF : FinOk x L st mM) (SV : ByteArray → ByteArray → Bool) (hSV : ∀ p q, SV p q = true ↔ Srv x.vs.l p q) (d : Dfn) (hd : InD x.objs.l d) :
   Con Tryz.prog 38 [.pointer (some ⟨lb, 0, none⟩), d.p.val, d.s.val] [At lb 0 x.row, x.ok, x.fin L st mM] [] (fun r ps hp => ps = [] ∧ hp = [] ∧ ∃ c : GChoice, r = .tuple #[c.val, .bool (choiceR x.kp.l L SV (libR x.ifs.l) x.lib d).isSome] ∧ ((choiceR x.kp.l L SV (libR x.ifs.l) x.lib d).getD noneC) = c) := by
 obtain ⟨i, k, hi, hk, hpd⟩ := hd
 obtain ⟨p, s⟩ := d
 dsimp only at hk hpd
 subst hpd
 have ho := elt_nat hi
 have hkn := hok.kn
 have hkp := elt_nat (l := x.kp.l) (i := i) (by omega)
 have hks := hok.ks i hi
 have hsec := hok.sec _ (List.mem_of_getElem? ho) s (List.mem_of_getElem? hk)
 refine Con.enter Tryz.func38 rfl (by simp [Tryz.ntmps38]) ?_
 show awp _ _ _ _ ⟨[(0, true, _), (1, true, _), (2, true, _)], _, _⟩
 refine aSR ?_
 refine aL_eff (q := true) rfl (x_box rfl rfl rfl (fun b0_0 => ?_))
 refine aL_hp (by (try simp only [nM, nN]); rfl) ?_
 refine aL_eff (q := true) rfl (x_box rfl rfl rfl (fun b0_1 => ?_))
 refine aL_hp (by (try simp only [nM, nN]); rfl) ?_
 refine aL_eff (q := true) rfl (x_alloc (zs := [.int .i64 0, .int .i64 0, .int .i64 0, .int .i64 0, .int .i64 0, .bool false]) (by kernel_rfl) rfl (fun b0_2 => ?_))
 refine aL_hp (by (try simp only [nM, nN]); rfl) ?_
 refine aA rfl (aNs (aSR ?_))
 refine aU rfl (q_fieldAddr (off := 3) (by kernel_rfl) rfl) ?_
 refine aU rfl (q_load 1 tk3 rfl rfl rfl) (aU rfl (q_eql rfl rfl) (aNn ?_))
 refine awp_cond _ rfl (fun h1 => ?_) (fun h1 => ?_)
 ·skip
  have c1 : s.bind = 0 := by simpa using h1
  refine awp_seq (awp_seq ?_)
  refine awp_drawn [] (by kernel_rfl) ?_
  show aB _ _ _ _ _ 13 #[false, false, false, false, false, false, false, false, false, false, false, false, false] _
  refine bU 0 rfl (by kernel_rfl) rfl (q_move rfl) ?_
  refine bU 1 rfl (by kernel_rfl) rfl (q_nilCheck rfl) ?_
  refine bU 2 rfl (by kernel_rfl) rfl (q_fieldAddr (off := 1) (by kernel_rfl) rfl) ?_
  refine bU 3 rfl (by kernel_rfl) rfl (q_loadDE (o := 1) tk27 rfl (.of (psAt 0 rfl)) rfl) ?_
  refine bU 4 rfl (by kernel_rfl) rfl (q_fieldAddr (off := 0) (by kernel_rfl) rfl) ?_
  refine bU 5 rfl (by kernel_rfl) rfl (q_load 0 tk3 rfl rfl rfl) ?_
  refine aB_E 6 rfl (by kernel_rfl) true rfl rfl (fun _ => q_indexAddrG Tryz.underlying27 tk68 rfl ((RLink.f_kp (.of (psAt 1 rfl)))) rfl (rows_get hkp) rfl rfl) (fun h => absurd h (by decide)) (fun ⟨b2_6, o2_6⟩ => ?_)
  refine bU 7 rfl (by kernel_rfl) rfl (q_loadD (o := 0) tk68 rfl (psAt 0 rfl) rfl rfl) ?_
  refine bU 8 rfl (by kernel_rfl) rfl (q_fieldAddr (off := 6) (by kernel_rfl) rfl) ?_
  refine bU 9 rfl (by kernel_rfl) rfl (q_load 1 tk3 rfl rfl rfl) ?_
  refine aB_E 10 rfl (by kernel_rfl) true rfl rfl (fun _ => q_indexAddrG Tryz.underlying68 tk4 rfl ((Ent.all (f := ShF bR) (RLink.f_kpA (.of (psAt 2 rfl))) hkp)) rfl (rows_elt (i := s.sec) (by omega) (by omega)) (by omega) rfl) (fun h => absurd h (by decide)) (fun ⟨b2_10, o2_10⟩ => ?_)
  refine bU 11 rfl (by kernel_rfl) rfl (q_loadD (o := 0) tk4 rfl (psAt 0 rfl) rfl rfl) ?_
  refine bU 12 rfl (by kernel_rfl) rfl (q_not rfl) ?_
  refine aB_nil (by kernel_rfl) ?_
  refine thn_n ?_
  refine awp_cond _ rfl (fun h2 => ?_) (fun h2 => ?_)
  ·skip
   have c2 : ¬ keptB x.kp.l i s.sec = true := by unfold keptB; simpa using h2
   refine aSR ?_
   refine aU rfl (q_bld (l := []) (zs := [.int .i64 0, .int .i64 0, .int .i64 0, .int .i64 0, .int .i64 0, .bool false]) (pl := [(0, 1), (1, 1), (2, 1), (3, 1), (4, 1), (5, 1)]) (by kernel_rfl) (by kernel_rfl) (by kernel_rfl) rfl rfl rfl) ?_
   refine aL_eff rfl (x_store 2 tk65 rfl rfl rfl rfl ?_)
   refine aL_hp (by (try simp only [nK, nL]); rfl) ?_
   refine aA rfl (aNn (awp_ret (thn_r (thn_r ?_))))
   refine finR2 [] [] rfl Tryz.results38 (rv_cell 2 tk65 rfl rfl rfl) (rv_tmp rfl) ?_ (.inr rfl)
   have hC : choiceR x.kp.l L SV (libR x.ifs.l) x.lib ⟨⟨i, k⟩, s⟩ = some noneC := by unfold choiceR; rw [if_pos c1, if_neg c2]
   exact ⟨rfl, rfl, noneC, by rw [hC]; rfl, by rw [hC]; rfl⟩
  ·skip
   have c2 : keptB x.kp.l i s.sec = true := by unfold keptB; simpa using h2
   refine awp_skip (thn_n (aSR ?_))
   refine aU rfl (q_fieldAddr (off := 0) (by kernel_rfl) rfl) ?_
   refine aU rfl (q_load 0 tk3 rfl rfl rfl) ?_
   refine aU rfl (q_fieldAddr (off := 1) (by kernel_rfl) rfl) ?_
   refine aU rfl (q_load 0 tk3 rfl rfl rfl) ?_
   refine aU rfl (q_bld (l := [(0, .const (.int .i64 1)), (1, .tmp 31), (2, .tmp 33), (4, .const (.int .i64 0))]) (zs := [.int .i64 0, .int .i64 0, .int .i64 0, .int .i64 0, .int .i64 0, .bool false]) (pl := [(0, 1), (1, 1), (2, 1), (3, 1), (4, 1), (5, 1)]) (by kernel_rfl) (by kernel_rfl) (by kernel_rfl) rfl rfl rfl) ?_
   refine aL_eff rfl (x_store 2 tk65 rfl rfl rfl rfl ?_)
   refine aL_hp (by (try simp only [nK, nL]); rfl) ?_
   refine aA rfl (aNn (awp_ret (thn_r ?_)))
   refine finR2 [] [] rfl Tryz.results38 (rv_cell 2 tk65 rfl rfl rfl) (rv_tmp rfl) ?_ (.inr rfl)
   have hC : choiceR x.kp.l L SV (libR x.ifs.l) x.lib ⟨⟨i, k⟩, s⟩ = some ⟨1, i, k, 0, 0, false⟩ := by unfold choiceR; rw [if_pos c1, if_pos c2]
   exact ⟨rfl, rfl, (⟨1, (i : Int), (k : Int), 0, 0, false⟩ : GChoice), by rw [hC]; rfl, by rw [hC]; rfl⟩
 ·skip
  have c1 : ¬ s.bind = 0 := by simpa using h1
  refine awp_skip (thn_n (aSR ?_))
  refine aU rfl (q_fieldAddr (off := 0) (by kernel_rfl) rfl) ?_
  refine aU rfl (q_load 1 tk9 rfl rfl rfl) ?_
  refine aU rfl (q_fieldAddr (off := 1) (by kernel_rfl) rfl) ?_
  refine aU rfl (q_load 1 tk9 rfl rfl rfl) ?_
  refine aU rfl (q_bld (l := [(0, .tmp 36), (1, .tmp 38)]) (zs := [.string .empty, .string .empty]) (pl := [(0, 1), (1, 1)]) (by kernel_rfl) (by kernel_rfl) (by kernel_rfl) rfl rfl rfl) ?_
  refine aL_eff (q := true) rfl (x_alloc (zs := [.string .empty, .string .empty]) (by kernel_rfl) rfl (fun b5_5 => ?_))
  refine aL_hp (by (try simp only [nM, nN]); rfl) ?_
  refine aL_eff rfl (x_store 3 tk157 rfl rfl rfl rfl ?_)
  refine aL_hp (by (try simp only [nK, nL]); rfl) ?_
  refine aNs (aSR (aM rfl (aU rfl (q_load 3 tk157 rfl rfl rfl) ?_)))
  refine aL_eff (q := true) rfl (e_call [2, 1, 0] [] (by kernel_rfl) rfl rfl rfl rfl (con_find x hok lb L st mM hF SV hSV s.name s.version) ?_)
  rintro _ _ _ ⟨rfl, rfl, q, rfl, hfe⟩
  refine aL_st (by (try simp only [nM, nN]); rfl) (by (try simp only [putB, place, Nat.reduceBEq, if_true, if_false, reduceIte, Nat.reduceAdd, nW]); rfl) ?_
  refine aM rfl (aU rfl (q_extract rfl rfl) (aU rfl (q_extract rfl rfl) ?_))
  refine aL_eff (q := true) rfl (x_alloc (zs := [.int .i64 0, .int .i64 0]) (by kernel_rfl) rfl (fun b6_6 => ?_))
  refine aL_hp (by (try simp only [nM, nN]); rfl) ?_
  refine aL_eff rfl (x_store 4 tk34 rfl rfl rfl rfl ?_)
  refine aL_hp (by (try simp only [nK, nL]); rfl) ?_
  refine aA rfl (aNn (aSR (aM rfl (aNn ?_))))
  refine awp_cond _ rfl (fun h3 => ?_) (fun h3 => ?_)
  ·skip
   obtain ⟨e, he⟩ : ∃ e, findR x.kp.l L SV s.name s.version = some e := Option.isSome_iff_exists.1 h3
   obtain ⟨he1, _, _⟩ := findR_spec hF.asc he
   obtain rfl := hfe e he
   refine awp_seq ?_
   refine awp_drawnC [24] [24] [b0_0, b0_1, b5_5] (by kernel_rfl) ?_
   show aC _ _ _ _ _ _ _ 25 #[false, false, false, false, false, false, false, false, false, false, false, false, false, false, false, false, false, false, false, false, false, false, false, false, false] _
   refine aC_f 0 rfl (by kernel_rfl) true rfl rfl (fun _ => q_fieldAddr (off := 0) (by kernel_rfl) rfl) ?_
   refine aC_q 1 rfl (by kernel_rfl) true rfl rfl (fun _ => q_load 4 tk3 rfl rfl rfl) ?_
   refine aC_f 2 rfl (by kernel_rfl) true rfl rfl (fun _ => q_fieldAddr (off := 1) (by kernel_rfl) rfl) ?_
   refine aC_q 3 rfl (by kernel_rfl) true rfl rfl (fun _ => q_load 4 tk3 rfl rfl rfl) ?_
   refine aC_f 4 rfl (by kernel_rfl) true rfl rfl (fun _ => q_move rfl) ?_
   refine aC_box 5 1 rfl (by kernel_rfl) true rfl rfl (by simp) tk63 (fun _ => rfl) rfl rfl ?_
   refine aC_q 6 rfl (by kernel_rfl) true rfl rfl (fun _ => q_load 4 tk34 rfl rfl rfl) ?_
   refine aC_f 7 rfl (by kernel_rfl) true rfl rfl (fun _ => q_call (by kernel_rfl) rfl (fun w S fp hst => (con_why x hok lb L st mM hF s e he1).quiet3 (psAt 0 rfl) (psAt 1 rfl) (psAt 2 rfl) hst)) ?_
   refine aC_f 8 rfl (by kernel_rfl) true rfl rfl (fun _ => q_move rfl) ?_
   refine aC_f 9 rfl (by kernel_rfl) true rfl rfl (fun _ => q_nilCheck rfl) ?_
   refine aC_f 10 rfl (by kernel_rfl) true rfl rfl (fun _ => q_fieldAddr (off := 2) (by kernel_rfl) rfl) ?_
   refine aC_f 11 rfl (by kernel_rfl) true rfl rfl (fun _ => q_loadDE (o := 2) tk4 rfl (.of (psAt 0 rfl)) rfl) ?_
   refine aC_f 12 rfl (by kernel_rfl) true rfl rfl (fun _ => q_move rfl) ?_
   refine aC_f 13 rfl (by kernel_rfl) _ rfl rfl (fun hc => q_move rfl) ?_
   refine aC_f 14 rfl (by kernel_rfl) _ rfl rfl (fun hc => q_nilCheck (ev_yes rfl hc)) ?_
   refine aC_f 15 rfl (by kernel_rfl) _ rfl rfl (fun hc => q_fieldAddr (off := 0) (by kernel_rfl) (ev_yes rfl hc)) ?_
   refine aC_f 16 rfl (by kernel_rfl) _ rfl rfl (fun hc => q_loadDE (o := 0) tk22 (ev_yes rfl hc) (.of (psAt 0 rfl)) rfl) ?_
   refine aC_f 17 rfl (by kernel_rfl) _ rfl rfl (fun hc => q_fieldAddr (off := 0) (by kernel_rfl) rfl) ?_
   refine aC_box 18 1 rfl (by kernel_rfl) _ rfl rfl (by simp) tk9 (fun hc => (ev_yes rfl hc)) rfl rfl ?_
   refine aC_f 19 rfl (by kernel_rfl) _ rfl rfl (fun hc => q_call (by kernel_rfl) (evs_cons (ev_yes rfl hc) (evs_cons (ev_yes rfl hc) rfl)) (fun w S fp hst => (con_visX x s.name).quiet1 (psAt 1 rfl) hst)) ?_
   refine aC_f 20 rfl (by kernel_rfl) _ rfl rfl (fun hc => q_eql (ev_yes rfl hc) rfl) ?_
   refine aC_f 21 rfl (by kernel_rfl) true rfl rfl (fun _ => q_and rfl rfl (fun h => gt rfl h)) ?_
   refine aC_f 22 rfl (by kernel_rfl) true rfl rfl (fun _ => q_bld (l := [(0, .const (.int .i64 2)), (1, .tmp 48), (2, .tmp 50), (4, .tmp 54), (5, .tmp 68)]) (zs := [.int .i64 0, .int .i64 0, .int .i64 0, .int .i64 0, .int .i64 0, .bool false]) (pl := [(0, 1), (1, 1), (2, 1), (3, 1), (4, 1), (5, 1)]) (by kernel_rfl) (by kernel_rfl) (by kernel_rfl) rfl rfl rfl) ?_
   refine aC_arms 23 [] (by kernel_rfl) (arms_cons ?_ arms_nil)
   refine aC_arm 23 rfl rfl (Eff.x ?_)
   refine id (x_alloc (zs := [.int .i64 0, .int .i64 0, .int .i64 0, .int .i64 0, .int .i64 0, .bool false]) (by kernel_rfl) rfl (fun b8_23 => ?_))
   refine aC_st (by (try simp only [nO, nK, nL]); rfl) (by (try simp only [nM, nN]); rfl) (by (try simp only [keepH, nQ, nR, putB, place, Nat.reduceBEq, if_true, if_false, reduceIte, Nat.reduceAdd, nW]); rfl) ?_
   refine aC_arms 24 [] (by kernel_rfl) (arms_cons ?_ arms_nil)
   refine aC_arm 24 rfl rfl (Eff.wild (q := false) ?_)
   refine id (x_store 5 tk65 rfl rfl rfl rfl ?_)
   refine aC_st (by (try simp only [nO, nK, nL]); rfl) (by (try simp only [nM, nN]); rfl) (by (try simp only [keepH, nQ, nR, putB, place, Nat.reduceBEq, if_true, if_false, reduceIte, Nat.reduceAdd, nW]); rfl) ?_
   refine aC_nil (by kernel_rfl) ?_
   refine thn_n (awp_seq (aSR (aM rfl (aU rfl (q_load 4 tk34 rfl rfl rfl) ?_))))
   refine aU rfl (q_call (by kernel_rfl) rfl (fun w S fp hst => (con_sym x lb e (by rw [← inD_iff, ← hF.flat]; exact he1)).quiet2 (psAt 0 rfl) (psAt 1 rfl) hst)) ?_
   refine aU rfl (q_fieldV (off := 3) (by kernel_rfl) rfl rfl) ?_
   refine aU rfl (q_eql rfl rfl) (aNn ?_)
   refine awp_cond _ rfl (fun h4 => ?_) (fun h4 => ?_)
   ·skip
    have c4 : e.s.bind = 3 := by simpa using h4
    refine awp_region ?_
    refine aU rfl (q_fieldAddr (off := 0) (by kernel_rfl) rfl) ?_
    refine aL_eff rfl (x_store 5 tk3 rfl rfl rfl rfl ?_)
    refine aL_hp (by (try simp only [nK, nL]); rfl) ?_
    refine aNn (aSR (aU rfl (q_load 5 tk65 rfl rfl rfl) ?_))
    refine aL_eff rfl (x_store 2 tk65 rfl rfl rfl rfl ?_)
    refine aL_hp (by (try simp only [nK, nL]); rfl) ?_
    refine aA rfl (aNn (awp_ret (thn_r ?_)))
    refine finR2 [] [] rfl Tryz.results38 (rv_cell 2 tk65 rfl rfl rfl) (rv_tmp rfl) ?_ (.inr rfl)
    have hC : choiceR x.kp.l L SV (libR x.ifs.l) x.lib ⟨⟨i, k⟩, s⟩ = some ⟨3, e.p.obj, e.p.sym, 0, whyR x.kp.l L s e, x.lib && decide (visR L s.name = 0)⟩ := by unfold choiceR; rw [if_neg c1]; dsimp only; rw [he]; dsimp only; rw [if_pos c4]
    exact ⟨rfl, rfl, (⟨3, e.p.obj, e.p.sym, 0, whyR x.kp.l L s e, x.lib && decide (visR L s.name = 0)⟩ : GChoice), by rw [hC, hF.flat]; cases hlib : x.lib <;> simp [hlib], by rw [hC]; rfl⟩
   ·skip
    have c4 : ¬ e.s.bind = 3 := by simpa using h4
    refine awp_skip (thn_n (aSR (aU rfl (q_load 5 tk65 rfl rfl rfl) ?_)))
    refine aL_eff rfl (x_store 2 tk65 rfl rfl rfl rfl ?_)
    refine aL_hp (by (try simp only [nK, nL]); rfl) ?_
    refine aA rfl (aNn (awp_ret (thn_r ?_)))
    refine finR2 [] [] rfl Tryz.results38 (rv_cell 2 tk65 rfl rfl rfl) (rv_tmp rfl) ?_ (.inr rfl)
    have hC : choiceR x.kp.l L SV (libR x.ifs.l) x.lib ⟨⟨i, k⟩, s⟩ = some ⟨2, e.p.obj, e.p.sym, 0, whyR x.kp.l L s e, x.lib && decide (visR L s.name = 0)⟩ := by unfold choiceR; rw [if_neg c1]; dsimp only; rw [he]; dsimp only; rw [if_neg c4]
    exact ⟨rfl, rfl, (⟨2, e.p.obj, e.p.sym, 0, whyR x.kp.l L s e, x.lib && decide (visR L s.name = 0)⟩ : GChoice), by rw [hC, hF.flat]; cases hlib : x.lib <;> simp [hlib], by rw [hC]; rfl⟩
  ·skip
   have he : findR x.kp.l L SV s.name s.version = none := by simpa using h3
   refine awp_skip (thn_n (awp_seq (aSR (aM rfl (aU rfl (q_load 3 tk157 rfl rfl rfl) ?_)))))
   refine aU rfl (q_call (by kernel_rfl) rfl (fun w S fp hst => (con_library x lb s.name s.version).quiet2 (psAt 0 rfl) (psAt 1 rfl) hst)) ?_
   refine aA rfl (aNn (aSR (aM rfl (aU rfl (q_geq rfl rfl) (aNn ?_)))))
   refine awp_cond _ rfl (fun h5 => ?_) (fun h5 => ?_)
   ·skip
    have c5 : libR x.ifs.l s.name s.version ≥ 0 := by simpa using h5
    refine aSR (aM rfl ?_)
    refine aU rfl (q_bld (l := [(0, .const (.int .i64 4)), (3, .tmp 82), (4, .const (.int .i64 6))]) (zs := [.int .i64 0, .int .i64 0, .int .i64 0, .int .i64 0, .int .i64 0, .bool false]) (pl := [(0, 1), (1, 1), (2, 1), (3, 1), (4, 1), (5, 1)]) (by kernel_rfl) (by kernel_rfl) (by kernel_rfl) rfl rfl rfl) ?_
    refine aL_eff rfl (x_store 2 tk65 rfl rfl rfl rfl ?_)
    refine aL_hp (by (try simp only [nK, nL]); rfl) ?_
    refine aA rfl (aNn (awp_ret (thn_r ?_)))
    refine finR2 [] [] rfl Tryz.results38 (rv_cell 2 tk65 rfl rfl rfl) (rv_tmp rfl) ?_ (.inr rfl)
    have hC : choiceR x.kp.l L SV (libR x.ifs.l) x.lib ⟨⟨i, k⟩, s⟩ = some ⟨4, 0, 0, libR x.ifs.l s.name s.version, 6, false⟩ := by unfold choiceR; rw [if_neg c1]; dsimp only; rw [he]; dsimp only; rw [if_pos c5]
    exact ⟨rfl, rfl, (⟨4, 0, 0, libR x.ifs.l s.name s.version, 6, false⟩ : GChoice), by rw [hC]; rfl, by rw [hC]; rfl⟩
   ·skip
    have c5 : ¬ libR x.ifs.l s.name s.version ≥ 0 := by simpa using h5
    refine awp_skip (thn_n (awp_seq (awp_block (aSR ?_))))
    refine aU rfl (q_fieldAddr (off := 6) (by kernel_rfl) rfl) ?_
    refine aU rfl (q_load 1 tk3 rfl rfl rfl) (aU rfl (q_neq rfl rfl) (aA rfl (aNn ?_)))
    refine awp_cond _ rfl (fun h6 => ?_) (fun h6 => ?_)
    ·skip
     have c6 : s.sec ≠ -1 := by simpa using h6
     refine aSR ?_
     refine aU rfl (q_bld (l := []) (zs := [.int .i64 0, .int .i64 0, .int .i64 0, .int .i64 0, .int .i64 0, .bool false]) (pl := [(0, 1), (1, 1), (2, 1), (3, 1), (4, 1), (5, 1)]) (by kernel_rfl) (by kernel_rfl) (by kernel_rfl) rfl rfl rfl) ?_
     refine aL_eff rfl (x_store 2 tk65 rfl rfl rfl rfl ?_)
     refine aL_hp (by (try simp only [nK, nL]); rfl) ?_
     refine aA rfl (aNn (awp_ret (blk_r (thn_r ?_))))
     refine finR2 [] [] rfl Tryz.results38 (rv_cell 2 tk65 rfl rfl rfl) (rv_tmp rfl) ?_ (.inr rfl)
     have hC : choiceR x.kp.l L SV (libR x.ifs.l) x.lib ⟨⟨i, k⟩, s⟩ = some noneC := by unfold choiceR; rw [if_neg c1]; dsimp only; rw [he]; dsimp only; rw [if_neg c5, if_pos c6]
     exact ⟨rfl, rfl, noneC, by rw [hC]; rfl, by rw [hC]; rfl⟩
    ·skip
     have c6 : ¬ s.sec ≠ -1 := by simpa using h6
     refine aSR ?_
     refine aU rfl (q_fieldAddr (off := 3) (by kernel_rfl) rfl) ?_
     refine aU rfl (q_load 1 tk3 rfl rfl rfl) (aU rfl (q_eql rfl rfl) (aA rfl (aNn ?_)))
     refine awp_cond _ rfl (fun h7 => ?_) (fun h7 => ?_)
     ·skip
      have c7 : s.bind = 2 := by simpa using h7
      refine aSR ?_
      refine aU rfl (q_bld (l := [(0, .const (.int .i64 5)), (4, .const (.int .i64 7))]) (zs := [.int .i64 0, .int .i64 0, .int .i64 0, .int .i64 0, .int .i64 0, .bool false]) (pl := [(0, 1), (1, 1), (2, 1), (3, 1), (4, 1), (5, 1)]) (by kernel_rfl) (by kernel_rfl) (by kernel_rfl) rfl rfl rfl) ?_
      refine aL_eff rfl (x_store 2 tk65 rfl rfl rfl rfl ?_)
      refine aL_hp (by (try simp only [nK, nL]); rfl) ?_
      refine aA rfl (aNn (awp_ret (blk_r (thn_r ?_))))
      refine finR2 [] [] rfl Tryz.results38 (rv_cell 2 tk65 rfl rfl rfl) (rv_tmp rfl) ?_ (.inr rfl)
      have hC : choiceR x.kp.l L SV (libR x.ifs.l) x.lib ⟨⟨i, k⟩, s⟩ = some ⟨5, 0, 0, 0, 7, false⟩ := by unfold choiceR; rw [if_neg c1]; dsimp only; rw [he]; dsimp only; rw [if_neg c5, if_neg c6, if_pos c7]
      exact ⟨rfl, rfl, (⟨5, 0, 0, 0, 7, false⟩ : GChoice), by rw [hC]; rfl, by rw [hC]; rfl⟩
     ·skip
      have c7 : ¬ s.bind = 2 := by simpa using h7
      refine awp_skip (blk_n (thn_n (aSR ?_)))
      refine aU rfl (q_bld (l := []) (zs := [.int .i64 0, .int .i64 0, .int .i64 0, .int .i64 0, .int .i64 0, .bool false]) (pl := [(0, 1), (1, 1), (2, 1), (3, 1), (4, 1), (5, 1)]) (by kernel_rfl) (by kernel_rfl) (by kernel_rfl) rfl rfl rfl) ?_
      refine aL_eff rfl (x_store 2 tk65 rfl rfl rfl rfl ?_)
      refine aL_hp (by (try simp only [nK, nL]); rfl) ?_
      refine aA rfl (aNn (awp_ret ?_))
      refine finR2 [] [] rfl Tryz.results38 (rv_cell 2 tk65 rfl rfl rfl) (rv_tmp rfl) ?_ (.inr rfl)
      have hC : choiceR x.kp.l L SV (libR x.ifs.l) x.lib ⟨⟨i, k⟩, s⟩ = none := by unfold choiceR; rw [if_neg c1]; dsimp only; rw [he]; dsimp only; rw [if_neg c5, if_neg c6, if_neg c7]
      exact ⟨rfl, rfl, noneC, by rw [hC]; rfl, by rw [hC]; rfl⟩
end Go.Proofs.YtgmiihmahaahiaaGreatDoor

namespace Go.Proofs.YtgmiihmahaahiaaGreatDoor
open Go.RowKit Go.Lp Go.Sy
open Go.Proofs.Tryz
attribute [local irreducible] aL aB awp aC fwp
structure BS where
 mC : Nat → Option (Sl GChoice)
 fa : GCulprit × Bool
def outR (m : Nat → Option (Sl GChoice)) (n : Nat) : List (List D) := (List.range n).map fun i => [.v (slV (getS m i))]
structure BInv (ch : Dfn → Option GChoice) (M : List Dfn) (st : BS) : Prop where
 rows : ∀ i : Nat, (getS st.mC i).l = (M.filter fun d => decide (d.p.obj = (i : Int))).map fun d => (ch d).getD noneC
 tw : (M.find? fun d => decide (ch d = none)).map (·.p) = if st.fa.2 = true then some st.fa.1 else none
abbrev bRes (vo : Value) (a b n : Nat) (st : BS) : List Res :=
 [OwnS vo 66 1 (outR st.mC n), Pool 65 6 GChoice.row st.mC, Box a 34 st.fa.1.vs, Box b 4 [.bool st.fa.2]]
theorem outR_len (m : Nat → Option (Sl GChoice)) (n : Nat) : (outR m n).length = n := by simp [outR]
theorem outR_get (m : Nat → Option (Sl GChoice)) {n i : Nat} (h : i < n) : (outR m n)[i]? = some [.v (slV (getS m i))] := by simp [outR, h]
theorem outR_set (m : Nat → Option (Sl GChoice)) (n i : Nat) (s : Sl GChoice) : (outR m n).set i [.v (slV s)] = outR (mput m i s) n := by
 apply List.ext_getElem?
 intro j
 rw [List.getElem?_set]
 by_cases hj : j < n
 · rw [outR_get _ hj, outR_get _ hj, getS_put, outR_len]
   by_cases h : i = j
   · subst h; rw [if_pos rfl, if_pos hj, if_pos rfl]
   · rw [if_neg h, if_neg (Ne.symm h)]
 · have h1 : (outR m n)[j]? = none := List.getElem?_eq_none (by rw [outR_len]; omega)
   have h2 : (outR (mput m i s) n)[j]? = none := List.getElem?_eq_none (by rw [outR_len]; omega)
   rw [h1, h2, outR_len]
   by_cases h : i = j
   · subst h; rw [if_pos rfl, if_neg hj]
   · rw [if_neg h]
theorem BInv.start (ch : Dfn → Option GChoice) (p : GCulprit) : BInv ch [] ⟨fun _ => none, (p, false)⟩ := ⟨fun _ => rfl, rfl⟩
theorem BInv.step {ch : Dfn → Option GChoice} {M : List Dfn} {st : BS} (h : BInv ch M st) {d : Dfn} {i : Nat} (hi : d.p.obj = (i : Int)) (hA : Asc (M ++ [d])) {s : Sl GChoice} (hs : s.l = (getS st.mC i).l ++ [(ch d).getD noneC]) {fa : GCulprit × Bool}
   (hf : fa = if ch d = none then leastF st.fa d.p else st.fa) : BInv ch (M ++ [d]) ⟨mput st.mC i s, fa⟩ where
 rows j := by
   rw [getS_put, List.filter_append, List.map_append]
   by_cases hj : j = i
   · subst hj
     rw [if_pos rfl, hs, h.rows]
     have : [d].filter (fun d => decide (d.p.obj = (j : Int))) = [d] := by simp [hi]
     rw [this]; rfl
   · rw [if_neg hj, h.rows]
     have : [d].filter (fun d => decide (d.p.obj = (j : Int))) = [] := by
       rw [List.filter_cons_of_neg (by rw [decide_eq_true_eq, hi]; omega)]; rfl
     rw [this]; simp
 tw := by
   show _ = if fa.2 = true then some fa.1 else none
   rw [List.find?_append, Option.map_or, h.tw, hf]
   by_cases hc : ch d = none
   · rw [if_pos hc, List.find?_cons_of_pos (by rw [decide_eq_true_eq]; exact hc)]
     unfold leastF
     cases hb : st.fa.2 with
     | false => simp
     | true =>
       have := h.tw
       rw [if_pos hb, Option.map_eq_some_iff] at this
       obtain ⟨e, he, hp⟩ := this
       have hlt := (List.pairwise_append.1 hA).2.2 e (List.mem_of_find?_eq_some he) d (List.mem_singleton.2 rfl)
       rw [hp] at hlt
       have : ¬ ltC d.p st.fa.1 := fun h => ltC_irr _ (ltC_trans h hlt)
       simp [this, hb]
   · rw [if_neg hc, List.find?_cons_of_neg (by rw [decide_eq_true_eq]; exact hc)]
     simp
theorem con_bind1 (x : RLink) (hok : RsOk x.objs.l x.kp.l) (lb bl bo : Nat) (L : List Dfn) (st : CS) (mM : ByteArray → Option GCulprit) (hF : FinOk x L st mM) (SV : ByteArray → ByteArray → Bool) (hSV : ∀ p q, SV p q = true ↔ Srv x.vs.l p q) (vo : Value) (a b : Nat) (M : List Dfn) (d : Dfn) (hd : InD x.objs.l d) (hlen : M.length < 70) (hpre : ∃ N, flatF x.objs.l = (M ++ [d]) ++ N)
   (t : BS) (hI : BInv (choiceR x.kp.l L SV (libR x.ifs.l) x.lib) M t) :
   Con Tryz.prog 37 [d.p.val, d.s.val, .pointer (some ⟨bl, 0, none⟩), .pointer (some ⟨a, 0, none⟩), .pointer (some ⟨b, 0, none⟩), .pointer (some ⟨bo, 0, none⟩)] [At bl 0 [.v (.pointer (some ⟨lb, 0, none⟩))], At bo 0 [.v vo], At lb 0 x.row, x.ok, x.fin L st mM] (bRes vo a b x.objs.l.length t)
     fun _ ps hp => ps = [] ∧ ∃ y, BInv (choiceR x.kp.l L SV (libR x.ifs.l) x.lib) (M ++ [d]) y ∧ hp = bRes vo a b x.objs.l.length y := by
 obtain ⟨i, k, hi, hk, hpd⟩ := hd
 have hpo : d.p.obj = (i : Int) := by rw [hpd]
 refine Con.conv (R := fun _ ps hp => ps = [] ∧ ∃ (s : Sl GChoice) (fa : GCulprit × Bool) (v : Value) (rows : List (List D)), BInv (choiceR x.kp.l L SV (libR x.ifs.l) x.lib) (M ++ [d]) ⟨mput t.mC i s, fa⟩ ∧ v = s.val ∧ rows = s.l.map GChoice.row ∧
   hp = [OwnS vo 66 1 (outR (mput t.mC i s) x.objs.l.length), Pool 65 6 GChoice.row (mdel t.mC i), Box a 34 fa.1.vs, Box b 4 [.bool fa.2], OwnS v 65 6 rows]) ?_ fun _ ps' hp' ⟨h1, s, fa, v, rows, hc, hv, hr, h⟩ => ?_
 rotate_left
 · subst h1 h
   refine ⟨_, _, (StE.put (row := GChoice.row) 1 4 i s rfl rfl hv hr (mdel_self _ _) rfl).trans (StE.keep [] [0, 1, 2, 3] rfl), rfl, ⟨mput t.mC i s, fa⟩, hc, ?_⟩
   rw [mput_del]; rfl
 have hA : Asc (M ++ [d]) := by
   obtain ⟨N, hN⟩ := hpre
   have := flatTo_asc x.objs.l x.objs.l.length
   rw [show flatTo x.objs.l x.objs.l.length = flatF x.objs.l from rfl, hN] at this
   exact (List.pairwise_append.1 this).1
 have hlC : ((getS t.mC i).l).length ≤ 70 := by
   rw [hI.rows, List.length_map]
   exact Nat.le_trans (List.length_filter_le _ _) (by omega)
 refine Con.enter Tryz.func37 rfl (by simp [Tryz.ntmps37]) ?_
 show awp _ _ _ _ ⟨[(0, true, _), (1, true, _), (2, true, _), (3, true, _), (4, true, _), (5, true, _)], _, _⟩
 refine aSR ?_
 refine aL_eff (q := true) rfl (x_box rfl rfl rfl (fun b0_0 => ?_))
 refine aL_hp (by (try simp only [nM, nN]); rfl) ?_
 refine aL_eff (q := true) rfl (x_box rfl rfl rfl (fun b0_1 => ?_))
 refine aL_hp (by (try simp only [nM, nN]); rfl) ?_
 refine aNn (aSR (aU rfl (q_loadDE (o := 0) tk101 rfl (.of (psAt 0 rfl)) rfl) (aU rfl (q_load 4 tk34 rfl rfl rfl) (aU rfl (q_load 5 tk63 rfl rfl rfl) ?_))))
 refine aL_eff (q := true) rfl (e_call [2, 1, 0] [] (by kernel_rfl) rfl rfl rfl rfl (con_choice x hok lb L st mM hF SV hSV d ⟨i, k, hi, hk, hpd⟩) ?_)
 rintro _ _ _ ⟨rfl, rfl, c, rfl, hc⟩
 refine aL_st (by (try simp only [nM, nN]); rfl) (by (try simp only [putB, place, Nat.reduceBEq, if_true, if_false, reduceIte, Nat.reduceAdd, nW]); rfl) ?_
 refine aM rfl (aU rfl (q_extract rfl rfl) (aU rfl (q_extract rfl rfl) ?_))
 refine aL_eff (q := true) rfl (x_alloc (zs := [.int .i64 0, .int .i64 0, .int .i64 0, .int .i64 0, .int .i64 0, .bool false]) (by kernel_rfl) rfl (fun b1_7 => ?_))
 refine aL_hp (by (try simp only [nM, nN]); rfl) ?_
 refine aL_eff rfl (x_store 6 tk65 rfl rfl rfl rfl ?_)
 refine aL_hp (by (try simp only [nK, nL]); rfl) ?_
 refine aA rfl (aNs (aSR (aM rfl (aU rfl (q_not rfl) (aNn ?_)))))
 refine awp_cond _ rfl (fun h1 => ?_) (fun h1 => ?_)
 ·skip
  have hcn : choiceR x.kp.l L SV (libR x.ifs.l) x.lib d = none := by
    cases hh : choiceR x.kp.l L SV (libR x.ifs.l) x.lib d with
    | none => rfl
    | some c => rw [hh] at h1; cases h1
  refine awp_region (aU rfl (q_load 4 tk34 rfl rfl rfl) ?_)
  refine aL_eff (q := false) rfl (e_call [] [2, 3] (by kernel_rfl) rfl rfl rfl rfl (con_least a b t.fa d.p) ?_)
  rintro _ _ _ ⟨rfl, rfl⟩
  refine aL_st (by (try simp only [nM, nN]); rfl) (by (try simp only [putB, place, Nat.reduceBEq, if_true, if_false, reduceIte, Nat.reduceAdd, nW]); rfl) ?_
  refine aNn (awp_take (row := GChoice.row) 1 i rfl ?_)
  refine awp_drawnC [10, 12] [12] [b0_0, b1_7] (by kernel_rfl) ?_
  show aC _ _ _ _ _ _ _ 13 #[false, false, false, false, false, false, false, false, false, false, false, false, false] _
  refine aC_f 0 rfl (by kernel_rfl) true rfl rfl (fun _ => q_loadDE (o := 0) tk31 rfl (.of (psAt 1 rfl)) rfl) ?_
  refine aC_f 1 rfl (by kernel_rfl) true rfl rfl (fun _ => q_fieldAddr (off := 0) (by kernel_rfl) rfl) ?_
  refine aC_box 2 4 rfl (by kernel_rfl) true rfl rfl (by simp) tk3 (fun _ => rfl) rfl rfl ?_
  refine aC_f 3 rfl (by kernel_rfl) true rfl rfl (fun _ => q_loadDE (o := 0) tk31 rfl (.of (psAt 1 rfl)) rfl) ?_
  refine aC_f 4 rfl (by kernel_rfl) true rfl rfl (fun _ => q_fieldAddr (off := 0) (by kernel_rfl) rfl) ?_
  refine aC_box 5 4 rfl (by kernel_rfl) true rfl rfl (by simp) tk3 (fun _ => rfl) rfl rfl ?_
  refine aC_q 6 rfl (by kernel_rfl) true rfl rfl (fun _ => q_idxO 0 i el31 rfl rfl rfl hpo (by rw [outR_len]; exact hi)) ?_
  refine aC_q 7 rfl (by kernel_rfl) true rfl rfl (fun _ => q_loadO 0 i 0 tk66 rfl rfl (outR_get _ hi) rfl rfl) ?_
  refine aC_box 8 6 rfl (by kernel_rfl) true rfl rfl (by simp) tk65 (fun _ => rfl) rfl rfl ?_
  refine aC_arms 9 [] (by kernel_rfl) (arms_cons ?_ arms_nil)
  refine aC_arm 9 rfl rfl (Eff.x ?_)
  refine id (w_lit (zs := [.int .i64 0, .int .i64 0, .int .i64 0, .int .i64 0, .int .i64 0, .bool false]) (l := [(0, .tmp 29)]) el66 (by kernel_rfl) (by decide) (by decide) (by decide) rfl rfl rfl (.more rfl (.v rfl (.v rfl (.v rfl (.v rfl (.v rfl (.v rfl .nil)))))) .nil) rfl rfl (fun v4_9 => ?_))
  refine aC_st (by (try simp only [nO, nK, nL]); rfl) (by (try simp only [nM, nN]); rfl) (by (try simp only [keepH, nQ, nR, putB, place, Nat.reduceBEq, if_true, if_false, reduceIte, Nat.reduceAdd, nW]); rfl) ?_
  refine aC_arms 10 [] (by kernel_rfl) (arms_cons ?_ arms_nil)
  refine aC_arm 10 rfl rfl (Eff.framed (q := false) [7, 8] rfl rfl (zcons 4 rfl rfl (zcons 6 rfl rfl znil)) ?_)
  refine id (w_append 0 el66 rfl rfl rfl rfl (w_srcO 1 el66 rfl (by simp)) (by first | assumption | simp) (by show ((getS t.mC i).l.map GChoice.row).length + 1 ≤ _; rw [List.length_map]; exact Nat.le_trans (Nat.add_le_add_right hlC 1) (by decide)) (((getS t.mC i).l ++ [c]).length) (by show ((getS t.mC i).l.map GChoice.row).length + 1 = _; rw [List.length_map, List.length_append]; rfl) (fun v4_10 c4_10 => ?_))
  refine fr_mk ?_
  refine aC_st (by (try simp only [nO, nK, nL]); rfl) (by (try simp only [nM, nN]); rfl) (by (try simp only [keepH, nQ, nR, putB, place, Nat.reduceBEq, if_true, if_false, reduceIte, Nat.reduceAdd, nW]); rfl) ?_
  refine aC_q 11 rfl (by kernel_rfl) true rfl rfl (fun _ => q_idxO 0 i el31 rfl rfl rfl hpo (by rw [outR_len]; exact hi)) ?_
  refine aC_arms 12 [] (by kernel_rfl) (arms_cons ?_ arms_nil)
  refine aC_arm 12 rfl rfl (Eff.wild (q := false) ?_)
  refine e_storeO 0 i 0 tk66 rfl rfl rfl (outR_get _ hi) rfl (.v rfl .nil) rfl (by decide) ?_
  refine aC_st (by (try simp only [nO, nK, nL]); rfl) (by (try simp only [nM, nN]); rfl) (by (try simp only [keepH, nQ, nR, putB, place, Nat.reduceBEq, if_true, if_false, reduceIte, Nat.reduceAdd, nW]); rfl) ?_
  refine aC_nil (by kernel_rfl) ?_
  refine fin0 [] [0, 1, 2, 3, 7] rfl Tryz.results37 ?_ (.inl rfl)
  exact ⟨rfl, ⟨v4_10, c4_10, (getS t.mC i).l ++ [c]⟩, _, _, _, hI.step hpo hA (by rw [hc]) (by rw [if_pos hcn]), rfl, (by rw [List.map_append]), by rw [← outR_set]; rfl⟩
 ·skip
  have hcn : ¬ choiceR x.kp.l L SV (libR x.ifs.l) x.lib d = none := fun hh => by rw [hh] at h1; cases h1
  refine awp_skip (thn_n (awp_take (row := GChoice.row) 1 i rfl ?_))
  refine awp_drawnC [10, 12] [12] [b0_0, b1_7] (by kernel_rfl) ?_
  show aC _ _ _ _ _ _ _ 13 #[false, false, false, false, false, false, false, false, false, false, false, false, false] _
  refine aC_f 0 rfl (by kernel_rfl) true rfl rfl (fun _ => q_loadDE (o := 0) tk31 rfl (.of (psAt 1 rfl)) rfl) ?_
  refine aC_f 1 rfl (by kernel_rfl) true rfl rfl (fun _ => q_fieldAddr (off := 0) (by kernel_rfl) rfl) ?_
  refine aC_box 2 4 rfl (by kernel_rfl) true rfl rfl (by simp) tk3 (fun _ => rfl) rfl rfl ?_
  refine aC_f 3 rfl (by kernel_rfl) true rfl rfl (fun _ => q_loadDE (o := 0) tk31 rfl (.of (psAt 1 rfl)) rfl) ?_
  refine aC_f 4 rfl (by kernel_rfl) true rfl rfl (fun _ => q_fieldAddr (off := 0) (by kernel_rfl) rfl) ?_
  refine aC_box 5 4 rfl (by kernel_rfl) true rfl rfl (by simp) tk3 (fun _ => rfl) rfl rfl ?_
  refine aC_q 6 rfl (by kernel_rfl) true rfl rfl (fun _ => q_idxO 0 i el31 rfl rfl rfl hpo (by rw [outR_len]; exact hi)) ?_
  refine aC_q 7 rfl (by kernel_rfl) true rfl rfl (fun _ => q_loadO 0 i 0 tk66 rfl rfl (outR_get _ hi) rfl rfl) ?_
  refine aC_box 8 6 rfl (by kernel_rfl) true rfl rfl (by simp) tk65 (fun _ => rfl) rfl rfl ?_
  refine aC_arms 9 [] (by kernel_rfl) (arms_cons ?_ arms_nil)
  refine aC_arm 9 rfl rfl (Eff.x ?_)
  refine id (w_lit (zs := [.int .i64 0, .int .i64 0, .int .i64 0, .int .i64 0, .int .i64 0, .bool false]) (l := [(0, .tmp 29)]) el66 (by kernel_rfl) (by decide) (by decide) (by decide) rfl rfl rfl (.more rfl (.v rfl (.v rfl (.v rfl (.v rfl (.v rfl (.v rfl .nil)))))) .nil) rfl rfl (fun v4_9 => ?_))
  refine aC_st (by (try simp only [nO, nK, nL]); rfl) (by (try simp only [nM, nN]); rfl) (by (try simp only [keepH, nQ, nR, putB, place, Nat.reduceBEq, if_true, if_false, reduceIte, Nat.reduceAdd, nW]); rfl) ?_
  refine aC_arms 10 [] (by kernel_rfl) (arms_cons ?_ arms_nil)
  refine aC_arm 10 rfl rfl (Eff.framed (q := false) [7, 8] rfl rfl (zcons 4 rfl rfl (zcons 6 rfl rfl znil)) ?_)
  refine id (w_append 0 el66 rfl rfl rfl rfl (w_srcO 1 el66 rfl (by simp)) (by first | assumption | simp) (by show ((getS t.mC i).l.map GChoice.row).length + 1 ≤ _; rw [List.length_map]; exact Nat.le_trans (Nat.add_le_add_right hlC 1) (by decide)) (((getS t.mC i).l ++ [c]).length) (by show ((getS t.mC i).l.map GChoice.row).length + 1 = _; rw [List.length_map, List.length_append]; rfl) (fun v4_10 c4_10 => ?_))
  refine fr_mk ?_
  refine aC_st (by (try simp only [nO, nK, nL]); rfl) (by (try simp only [nM, nN]); rfl) (by (try simp only [keepH, nQ, nR, putB, place, Nat.reduceBEq, if_true, if_false, reduceIte, Nat.reduceAdd, nW]); rfl) ?_
  refine aC_q 11 rfl (by kernel_rfl) true rfl rfl (fun _ => q_idxO 0 i el31 rfl rfl rfl hpo (by rw [outR_len]; exact hi)) ?_
  refine aC_arms 12 [] (by kernel_rfl) (arms_cons ?_ arms_nil)
  refine aC_arm 12 rfl rfl (Eff.wild (q := false) ?_)
  refine e_storeO 0 i 0 tk66 rfl rfl rfl (outR_get _ hi) rfl (.v rfl .nil) rfl (by decide) ?_
  refine aC_st (by (try simp only [nO, nK, nL]); rfl) (by (try simp only [nM, nN]); rfl) (by (try simp only [keepH, nQ, nR, putB, place, Nat.reduceBEq, if_true, if_false, reduceIte, Nat.reduceAdd, nW]); rfl) ?_
  refine aC_nil (by kernel_rfl) ?_
  refine fin0 [] [0, 1, 2, 3, 7] rfl Tryz.results37 ?_ (.inl rfl)
  exact ⟨rfl, ⟨v4_10, c4_10, (getS t.mC i).l ++ [c]⟩, _, _, _, hI.step hpo hA (by rw [hc]) (by rw [if_neg hcn]), rfl, (by rw [List.map_append]), by rw [← outR_set]; rfl⟩
end Go.Proofs.YtgmiihmahaahiaaGreatDoor

