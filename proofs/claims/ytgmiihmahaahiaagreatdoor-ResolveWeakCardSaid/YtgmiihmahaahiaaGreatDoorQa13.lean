/- Parts of the proof, in build order. No condition. -/
import Derived.Test.YtgmiihmahaahiaaGreatDoorQa12
import Derived.Test.YtgmiihmahaahiaaGreatDoorQa03
import Derived.Test.YtgmiihmahaahiaaGreatDoorQa10
import Derived.Test.YtgmiihmahaahiaaGreatDoorQa07
import Derived.Shelf.SlSortCmp.WholeK
import Derived.Shelf.SlSortCmp.NoneTotal
import Derived.Test.YtgmiihmahaahiaaGreatDoorProg
import Derived.Ground.SlsfProg
set_option linter.unusedSimpArgs false
set_option linter.unusedVariables false
set_option maxHeartbeats 1000000
set_option maxRecDepth 20000
namespace Go.Proofs.YtgmiihmahaahiaaGreatDoor
open Go.RowKit Go.Lp Go.Sy
open Go.Proofs.Tryz
attribute [local irreducible] aL aB awp aC fwp
theorem con_repB (ad : Option Addr) (c : Nat) (v : Bool) (N : Nat) (hN : N ≤ 1000000) : Con Tryz.prog 31 [.slice ad 1 c, .int .i64 N] [Sh (.slice ad 1 c) (.sl (encR Value.bool [v]))] [] fun r ps hp => ps = [] ∧ hp = [OwnS r 4 1 (encR Value.bool (List.replicate N v))] := by
 rcases Nat.eq_zero_or_pos N with rfl | h
 · exact con_repB0 v
 · exact con_repB1 v N hN h
def CpAll (m : ByteArray → Option Cp) : Per := ⟨fun w S => ∀ n c, m n = some c → c.ok.holds w S, fun h h1 h2 n c hc => c.ok.mono (h n c hc) h1 h2⟩
abbrev cp0 : Cp := ⟨0, ⟨none, 0, []⟩, ⟨none, 0, []⟩⟩
theorem cpAll_get {ps : List Per} {m : ByteArray → Option Cp} (h : Ent ps (CpAll m)) {n : ByteArray} (hn : (m n).isSome = true) : Ent ps ((m n).getD cp0).ok := fun w S hp => by
 obtain ⟨c, hc⟩ := Option.isSome_iff_exists.1 hn
 rw [hc]; exact h w S hp n c hc
theorem cpAll_put {ps : List Per} {m : ByteArray → Option Cp} (h : Ent ps (CpAll m)) {n : ByteArray} {c : Cp} (hc : Ent ps c.ok) : Ent ps (CpAll (mput m n c)) := fun w S hp a c2 hm => by
 unfold mput at hm
 split at hm
 · rw [← Option.some.inj hm]; exact hc w S hp
 · exact h w S hp a c2 hm
theorem allF_snoc {ps : List Per} {K : List (Sl Bool)} {s : Sl Bool} (h : Ent ps (AllF (ShF bR) K)) (hs : Ent ps (ShF bR s)) : Ent ps (AllF (ShF bR) (K ++ [s])) := fun w S hp x hx => by
 rcases List.mem_append.1 hx with hx | hx
 · exact h w S hp x hx
 · rw [List.mem_singleton.1 hx]; exact hs w S hp
abbrev rowDf : ByteArray × (Int × Int) → List D := fun x => [.v (.string x.1), .v (.int .i64 x.2.1), .v (.int .i64 x.2.2)]
theorem lens_snoc {os : List GObject} {K : List (Sl Bool)} {s : Sl Bool} (h : ∀ i : Nat, i < K.length → (elt K (i : Int)).l.length = (elt os (i : Int)).secs.l.length) (hs : s.l.length = (elt os (K.length : Int)).secs.l.length) : ∀ i : Nat, i < K.length + 1 → (elt (K ++ [s]) (i : Int)).l.length = (elt os (i : Int)).secs.l.length := fun i hi => by
 have h1 := elt_nat (l := K ++ [s]) (i := i) (by rw [List.length_append]; exact hi)
 by_cases hlt : i < K.length
 · rw [List.getElem?_append_left hlt, elt_nat hlt] at h1
   rw [← Option.some.inj h1]; exact h i hlt
 · obtain rfl : i = K.length := by omega
   rw [List.getElem?_append_right (Nat.le_refl _), Nat.sub_self] at h1
   rw [← Option.some.inj h1]; exact hs
theorem con_keep (os : Sl GObject) (hn : os.l.length ≤ 1000) (hf : ∀ o ∈ os.l, RtFew o) (hr : ∀ o ∈ os.l, RtOk o) :
   Con Tryz.prog 12 [os.val] [constAt, turnsAt, ShF GObject.row os, AllF GObject.ok os.l] [] fun r ps hp => hp = [] ∧ ∃ (K : Sl (Sl Bool)) (dv : Value), r = .tuple #[K.val, dv] ∧ K.l.length = os.l.length ∧ (∀ i : Nat, i < os.l.length → (elt K.l (i : Int)).l.length = (elt os.l (i : Int)).secs.l.length) ∧ ps = [AllF (ShF bR) K.l, ShF slR K] := by
 refine Con.conv (R := fun r ps hp => ∃ (ka : Option Addr) (kc : Nat) (K : List (Sl Bool)) (dv : Value), r = .tuple #[.slice ka K.length kc, dv] ∧ K.length = os.l.length ∧ (∀ i : Nat, i < os.l.length → (elt K (i : Int)).l.length = (elt os.l (i : Int)).secs.l.length) ∧ ps = [AllF (ShF bR) K] ∧ hp = [OwnS (.slice ka K.length kc) 68 1 (K.map slR)]) ?_ fun _ _ _ ⟨ka, kc, K, dv, h1, h2, h3, h4, h5⟩ => ?_
 rotate_left
 · subst h1 h4 h5
   exact ⟨_, _, (StE.share 0 (ShF slR ⟨ka, kc, K⟩) rfl fun _ _ _ h => own_rep h).trans (StE.keep [0, 1] [] rfl |>.trans (StE.ents (ps' := [AllF (ShF bR) K, ShF slR ⟨ka, kc, K⟩]) (ent2 (.of (psAt 0 rfl)) (.of (psAt 1 rfl))))), rfl, ⟨ka, kc, K⟩, dv, rfl, h2, h3, rfl⟩
 refine Con.enter Tryz.func12 rfl (by simp [Tryz.ntmps12]) ?_
 show awp _ _ _ _ ⟨[(0, true, _)], _, _⟩
 refine awp_lenE (.of (psAt 2 rfl)) (fun hlen => ?_)
 refine aSR (aA rfl (aA rfl (aNn (aSR (aA rfl (aNn (aSR (aA rfl (aNn (aSR ?_))))))))))
 refine aL_eff (q := true) rfl (e_makeMap (kStr) (Cp.val) rfl (fun b3_0 => ?_))
 refine aL_hp (by (try simp only [nM, nN]); rfl) ?_
 refine aA rfl (aNs (awp_seq ?_))
 refine awp_nil 68 1 (awp_nil 100 3 ?_)
 refine awp_entF (CpAll (fun _ => none)) (fun _ _ _ _ _ h => by cases h) (awp_entF (AllF (ShF bR) []) (fun _ _ _ _ h => by cases h) ?_)
 show awp _ _ _ _ ⟨_, _, [_, _, _]⟩
 refine awp_region (aM rfl (aU rfl (q_lenS Tryz.underlying22 rfl) (aM rfl (aNn (awp_block (awp_loopK [0, 4, 5, 6, 19, 20, 21] [5, 4, 3, 2, 1, 0] [0, 1, 2] (fun (q : Nat × ((Value × List (Sl Bool)) × ((Value × List (ByteArray × (Int × Int))) × (ByteArray → Option Cp)))) st => (q.1 ≤ os.l.length ∧ q.2.1.2.length = q.1 ∧ (∀ i : Nat, i < q.1 → (elt q.2.1.2 (i : Int)).l.length = (elt os.l (i : Int)).secs.l.length) ∧ q.2.2.1.2.length ≤ 1000 * q.1) ∧ st = ⟨[(0, true, os.val), (4, true, q.2.1.1), (5, true, q.2.2.1.1), (6, true, .map (some b3_0)), (19, true, os.val), (20, true, .int .i64 os.l.length), (21, true, .int .i64 q.1)], [AllF (ShF bR) q.2.1.2, CpAll q.2.2.2, constAt, turnsAt, ShF GObject.row os, AllF GObject.ok os.l], [MapR b3_0 kStr Cp.val q.2.2.2, OwnS q.2.1.1 68 1 (q.2.1.2.map slR), OwnS q.2.2.1.1 100 3 (q.2.2.1.2.map rowDf)]⟩) (fun q => os.l.length - q.1) rfl (⟨(0, ((.slice none 0 0, []), ((.slice none 0 0, []), fun _ => none))), ⟨Nat.zero_le _, rfl, (fun (i : Nat) (h : i < 0) => absurd h (Nat.not_lt_zero i)), Nat.le_refl _⟩, rfl⟩) ?_))))))
 rintro ⟨i, ⟨kv, K⟩, ⟨dv, df⟩, m⟩ st ⟨⟨hi, hK, hKl, hd⟩, rfl⟩
 dsimp only at hi hK hKl hd ⊢
 refine aSR (aU rfl (q_lss rfl rfl) (aNs ?_))
 refine awp_cond _ rfl (fun h1 => ?_) (fun h1 => ?_)
 ·skip
  have hi' : i < os.l.length := by simpa using h1
  have ho := elt_nat hi'
  have hmem := List.mem_of_getElem? ho
  have hfo := hf _ hmem
  have hro := hr _ hmem
  generalize hoo : elt os.l (i : Int) = o at ho hmem hfo hro
  refine awp_skip (thn_n (awp_seq (awp_block (aSR (aM rfl ?_)))))
  refine aL_E true rfl rfl (fun _ => q_indexAddrG Tryz.underlying22 tk61 rfl ((.of (psAt 4 rfl))) rfl (rows_get ho) rfl rfl) (fun h => absurd h (by decide)) (fun ⟨b6_1, o6_1⟩ => ?_)
  refine aU rfl (q_loadD (o := 0) tk61 rfl (psAt 0 rfl) rfl rfl) ?_
  refine aL_eff (q := true) rfl (x_alloc (zs := [.string .empty, .slice none 0 0, .slice none 0 0, .slice none 0 0, .slice none 0 0, .slice none 0 0, .slice none 0 0, .slice none 0 0, .slice none 0 0, .slice none 0 0, .slice none 0 0]) (by kernel_rfl) rfl (fun b6_3 => ?_))
  refine aL_hp (by (try simp only [nM, nN]); rfl) ?_
  refine aA rfl ?_
  refine aL_eff rfl (x_store 3 tk61 rfl rfl rfl rfl ?_)
  refine aL_hp (by (try simp only [nK, nL]); rfl) ?_
  refine aNs ?_
  refine awp_lenE (GObject.f_secs (Ent.all (.of (psAt 6 rfl)) ho)) (fun hls => ?_)
  refine awp_lenE (GObject.f_groups (Ent.all (.of (psAt 6 rfl)) ho)) (fun hlg => ?_)
  refine awp_region ?_
  refine aL_litG (zs := [.bool false]) (l := [(0, .const (.bool true))]) el68 (by kernel_rfl) (by decide) (by decide) (by decide) rfl _ rfl (fun hc => rfl) rfl (.more rfl (.v rfl .nil) .nil) rfl rfl (fun v7_0 => ?_)
  refine aU rfl (q_fieldAddr (off := 1) (by kernel_rfl) rfl) ?_
  refine aU rfl (q_load 3 tk50 rfl rfl rfl) (aU rfl (q_lenS Tryz.underlying50 rfl) ?_)
  refine aL_eff (q := true) rfl (e_call [7] [] (by kernel_rfl) rfl rfl rfl rfl ((con_repB v7_0 1 true o.secs.l.length (by have := hfo.secs; omega)).pre (fun p hp => (List.mem_singleton.1 hp) ▸ .yes (.of (psAt 0 rfl)) rfl)) ?_)
  rintro r7 _ _ ⟨rfl, rfl⟩
  refine aL_st (by (try simp only [nM, nN]); rfl) (by (try simp only [putB, place, Nat.reduceBEq, if_true, if_false, reduceIte, Nat.reduceAdd, nW]); rfl) ?_
  refine aA rfl (aNs (aSR ?_))
  refine aU rfl (q_fieldAddr (off := 4) (by kernel_rfl) rfl) ?_
  refine aU rfl (q_load 3 tk53 rfl rfl rfl) (aU rfl (q_lenS Tryz.underlying53 rfl) (aM rfl (aNn (awp_block ?_))))
  refine awp_loopK [0, 4, 5, 6, 7, 8, 9, 19, 20, 21, 32, 33, 34] [5, 4, 3, 2, 1, 0] [0, 1, 2, 3, 4] (fun (q : Nat × ((Value × List (ByteArray × (Int × Int))) × ((ByteArray → Option Cp) × List Bool))) st => (q.1 ≤ o.groups.l.length ∧ q.2.1.2.length ≤ df.length + q.1 ∧ q.2.2.2.length = o.secs.l.length) ∧ st = ⟨[(0, true, os.val), (4, true, kv), (5, true, q.2.1.1), (6, true, .map (some b3_0)), (7, true, .int .i64 i), (8, true, .pointer (some ⟨b6_3, 0, none⟩)), (9, true, r7), (19, true, os.val), (20, true, .int .i64 os.l.length), (21, true, .int .i64 i), (32, true, o.groups.val), (33, true, .int .i64 o.groups.l.length), (34, true, .int .i64 q.1)], [AllF (ShF bR) K, CpAll q.2.2.1, constAt, turnsAt, ShF GObject.row os, AllF GObject.ok os.l], [MapR b3_0 kStr Cp.val q.2.2.1, OwnS kv 68 1 (K.map slR), OwnS q.2.1.1 100 3 (q.2.1.2.map rowDf), Box b6_3 61 o.vs, OwnS r7 4 1 (q.2.2.2.map bR)]⟩) (fun q => o.groups.l.length - q.1) rfl (⟨(0, ((dv, df), (m, List.replicate o.secs.l.length true))), ⟨Nat.zero_le _, Nat.le_refl _, by simp⟩, rfl⟩) ?_
  rintro ⟨j, ⟨dv2, df2⟩, m2, ks⟩ st ⟨⟨hj, hd2, hks⟩, rfl⟩
  dsimp only at hj hd2 hks ⊢
  refine aSR (aU rfl (q_lss rfl rfl) (aNs ?_))
  refine awp_cond _ rfl (fun h2 => ?_) (fun h2 => ?_)
  ·skip
   have hj' : j < o.groups.l.length := by simpa using h2
   obtain ⟨g, hg⟩ : ∃ g, o.groups.l[j]? = some g := ⟨_, List.getElem?_eq_getElem hj'⟩
   have hgr := hro.groups g (List.mem_of_getElem? hg)
   have hfs := hfo.secs
   refine awp_skip (thn_n (awp_seq (awp_block (aSR ?_))))
   refine aL_E true rfl rfl (fun _ => q_indexAddrG Tryz.underlying53 tk92 rfl ((GObject.f_groups (Ent.all (.of (psAt 5 rfl)) ho))) rfl (rows_get hg) rfl rfl) (fun h => absurd h (by decide)) (fun ⟨b10_0, o10_0⟩ => ?_)
   refine aU rfl (q_loadD (o := 0) tk92 rfl (psAt 0 rfl) rfl rfl) ?_
   refine aL_eff (q := true) rfl (x_alloc (zs := [.string .empty, .slice none 0 0]) (by kernel_rfl) rfl (fun b10_2 => ?_))
   refine aL_hp (by (try simp only [nM, nN]); rfl) ?_
   refine aL_eff rfl (x_store 5 tk92 rfl rfl rfl rfl ?_)
   refine aL_hp (by (try simp only [nK, nL]); rfl) ?_
   refine aNn (aSR (aU rfl (q_load 3 tk61 rfl rfl rfl) (aU rfl (q_load 5 tk92 rfl rfl rfl) ?_)))
   refine aL_eff (q := true) rfl (e_call [0] [] (by kernel_rfl) rfl rfl rfl rfl ((con_sections o g (by omega) hgr.2).pre (ent2 (GGroup.f_secs (Ent.all (GObject.f_groupsA (Ent.all (.of (psAt 0 rfl)) ho)) hg)) (Ent.all (.of (psAt 0 rfl)) ho))) ?_)
   rintro _ _ _ ⟨rfl, sl, hsl, rfl, rfl⟩
   refine aL_st (by (try simp only [nM, nN]); rfl) (by (try simp only [putB, place, Nat.reduceBEq, if_true, if_false, reduceIte, Nat.reduceAdd, nW]); rfl) ?_
   refine aA rfl (aNn (aSR (aM rfl (aM rfl (aM rfl ?_)))))
   refine aL_eff (q := true) rfl (e_call [7, 3, 2, 1, 0] [] (by kernel_rfl) rfl rfl rfl rfl (con_read os i hi' (by rw [hoo]; exact hro.secs) sl (by rw [hsl]; omega) (by rw [hoo, hsl]; exact hgr.2)) ?_)
   rintro _ _ _ ⟨rfl, cp, rfl, rfl⟩
   refine aL_st (by (try simp only [nM, nN]); rfl) (by (try simp only [putB, place, Nat.reduceBEq, if_true, if_false, reduceIte, Nat.reduceAdd, nW]); rfl) ?_
   refine aL_eff (q := true) rfl (x_alloc (zs := [.int .i64 0, .slice none 0 0, .slice none 0 0]) (by kernel_rfl) rfl (fun b12_4 => ?_))
   refine aL_hp (by (try simp only [nM, nN]); rfl) ?_
   refine aL_eff rfl (x_store 6 tk95 rfl rfl rfl rfl ?_)
   refine aL_hp (by (try simp only [nK, nL]); rfl) ?_
   refine aNn (aSR (aM rfl ?_))
   refine aU rfl (q_fieldAddr (off := 0) (by kernel_rfl) rfl) ?_
   refine aU rfl (q_load 5 tk9 rfl rfl rfl) ?_
   refine aU rfl (q_lookOk (k := g.name) (v0 := cp0) 0 Tryz.underlying88 (kyT) (by kernel_rfl) rfl rfl rfl) ?_
   refine aM rfl (aU rfl (q_extract rfl rfl) (aU rfl (q_extract rfl rfl) ?_))
   refine aL_eff (q := true) rfl (x_alloc (zs := [.int .i64 0, .slice none 0 0, .slice none 0 0]) (by kernel_rfl) rfl (fun b13_7 => ?_))
   refine aL_hp (by (try simp only [nM, nN]); rfl) ?_
   refine aL_eff rfl (x_store 7 tk95 rfl rfl rfl rfl ?_)
   refine aL_hp (by (try simp only [nK, nL]); rfl) ?_
   refine aA rfl (aNs (aSR (aM rfl (aU rfl (q_not rfl) (aNn ?_)))))
   refine awp_cond _ rfl (fun h3 => ?_) (fun h3 => ?_)
   ·skip
    refine awp_seq (awp_entF (CpAll (mput m2 g.name cp)) (cpAll_put (.of (psAt 4 rfl)) (.of (psAt 0 rfl))) (awp_region (aM rfl ?_)))
    refine aU rfl (q_fieldAddr (off := 0) (by kernel_rfl) rfl) ?_
    refine aU rfl (q_load 5 tk9 rfl rfl rfl) (aU rfl (q_load 6 tk95 rfl rfl rfl) ?_)
    refine aL_eff rfl (e_mapUpdate (k := g.name) (v := cp) 0 Tryz.underlying88 (kyT) rfl rfl rfl rfl ?_)
    refine aL_hp (by (try simp only [nK, nL]); rfl) ?_
    refine aNn (awp_exit (thn_e (blk_hit (thn_n (awp_region ?_)))))
    refine aU rfl (q_addi rfl rfl (by omega)) ?_
    refine aM rfl (aNn ?_)
    refine ⟨[0, 4, 5, 6, 7, 8, 9, 19, 20, 21, 32, 33, 34], [5, 9, 3, 2, 1, 0], [0, 1, 2, 3, 4], rfl, ?_⟩
    exact ⟨(j + 1, ((dv2, df2), (mput m2 g.name cp, ks))), ⟨⟨by dsimp only; omega, by dsimp only; omega, hks⟩, rfl⟩, by dsimp only; omega⟩
   ·skip
    have hsome : (m2 g.name).isSome = true := by simpa using h3
    refine awp_skip (thn_n (awp_seq (awp_seq ?_)))
    refine awp_lenE (.of (psAt 1 rfl)) (fun hsl2 => ?_)
    refine awp_region (aM rfl (aU rfl (q_lenS Tryz.underlying90 rfl) (aM rfl (aNn (awp_block (awp_loopK [0, 4, 5, 6, 7, 8, 9, 11, 13, 14, 19, 20, 21, 32, 33, 34, 58, 59, 60] [8, 7, 5, 4, 3, 2, 1, 0] [0, 1, 2, 3, 4, 5, 6, 7] (fun (q : Nat × List Bool) st => (q.1 ≤ sl.l.length ∧ q.2.length = o.secs.l.length) ∧ st = ⟨[(0, true, os.val), (4, true, kv), (5, true, dv2), (6, true, .map (some b3_0)), (7, true, .int .i64 i), (8, true, .pointer (some ⟨b6_3, 0, none⟩)), (9, true, r7), (11, true, .pointer (some ⟨b10_2, 0, none⟩)), (13, true, .pointer (some ⟨b12_4, 0, none⟩)), (14, true, .pointer (some ⟨b13_7, 0, none⟩)), (19, true, os.val), (20, true, .int .i64 os.l.length), (21, true, .int .i64 i), (32, true, o.groups.val), (33, true, .int .i64 o.groups.l.length), (34, true, .int .i64 j), (58, true, sl.val), (59, true, .int .i64 sl.l.length), (60, true, .int .i64 q.1)], [cp.ok, ShF rowI sl, AllF (ShF bR) K, CpAll m2, constAt, turnsAt, ShF GObject.row os, AllF GObject.ok os.l], [MapR b3_0 kStr Cp.val m2, OwnS kv 68 1 (K.map slR), OwnS dv2 100 3 (df2.map rowDf), Box b6_3 61 o.vs, OwnS r7 4 1 (q.2.map bR), Box b10_2 92 g.vs, Box b12_4 95 cp.vs, Box b13_7 95 ((m2 g.name).getD cp0).vs]⟩) (fun q => sl.l.length - q.1) rfl (⟨(0, ks), ⟨Nat.zero_le _, hks⟩, rfl⟩) ?_))))))
    rintro ⟨kk, ks3⟩ st ⟨⟨hkk, hks3⟩, rfl⟩
    dsimp only at hkk hks3 ⊢
    refine aSR (aU rfl (q_lss rfl rfl) (aNs ?_))
    refine awp_cond _ rfl (fun h4 => ?_) (fun h4 => ?_)
    ·skip
     have hkk' : kk < sl.l.length := by simpa using h4
     obtain ⟨z, hzk⟩ : ∃ z, sl.l[kk]? = some z := ⟨_, List.getElem?_eq_getElem hkk'⟩
     have hzr := hgr.2 z (by rw [← hsl]; exact List.mem_of_getElem? hzk)
     obtain ⟨z0, rfl⟩ := Int.eq_ofNat_of_zero_le hzr.1
     obtain ⟨bb, hbb⟩ : ∃ bb, ks3[z0]? = some bb := ⟨_, List.getElem?_eq_getElem (by omega)⟩
     refine awp_skip (thn_n (awp_seq (awp_block (aSR ?_))))
     refine aL_E true rfl rfl (fun _ => q_indexAddrG Tryz.underlying90 tk3 rfl ((.of (psAt 1 rfl))) rfl (rows_get hzk) rfl rfl) (fun h => absurd h (by decide)) (fun ⟨b18_0, o18_0⟩ => ?_)
     refine aU rfl (q_loadD (o := 0) tk3 rfl (psAt 0 rfl) rfl rfl) (aA rfl (aNn (awp_region (aM rfl (aM rfl ?_)))))
     refine aU rfl (q_idxO 4 z0 el68 rfl rfl rfl rfl (by rw [List.length_map]; omega)) ?_
     refine aL_eff (q := false) rfl (e_storeO 4 z0 0 tk4 rfl rfl rfl (rows_get hbb) rfl (.v rfl .nil) rfl (by decide) ?_)
     refine aL_nil (blk_n (thn_n (awp_region ?_)))
     refine aU rfl (q_addi rfl rfl (by omega)) ?_
     refine aM rfl (aNn ?_)
     refine ⟨[0, 4, 5, 6, 7, 8, 9, 11, 13, 14, 19, 20, 21, 32, 33, 34, 58, 59, 60], [7, 6, 5, 4, 3, 2, 1, 0], [0, 1, 2, 3, 4, 5, 6, 7], rfl, ?_⟩
     exact ⟨(kk + 1, ks3.set z0 false), ⟨⟨by dsimp only; omega, by dsimp only; rw [List.length_set]; exact hks3⟩, by dsimp only; rw [List.map_set]; rfl⟩, by dsimp only; omega⟩
    ·skip
     refine awp_exit (thn_e (thn_e (blk_hit (thn_n (aSR (aU rfl (q_load 7 tk95 rfl rfl rfl) (aU rfl (q_load 6 tk95 rfl rfl rfl) ?_)))))))
     refine aL_callN (caps := []) [7, 4] (false) (by kernel_rfl) true rfl rfl (fun _ => rfl) (fun hc => rfl) (fun hc => by rw [List.append_nil]; exact (con_alike ((m2 g.name).getD cp0) cp).pre (ent2 (cpAll_get (.of (psAt 1 rfl)) hsome) (.of (psAt 0 rfl)))) (fun c5 hc5 => ?_)
     refine aU rfl (q_not rfl) (aNn ?_)
     refine awp_cond _ rfl (fun h5 => ?_) (fun h5 => ?_)
     ·skip
      refine awp_region (aM rfl ?_)
      refine aU rfl (q_fieldAddr (off := 0) (by kernel_rfl) rfl) ?_
      refine aU rfl (q_load 5 tk9 rfl rfl rfl) ?_
      refine aU rfl (q_fieldAddr (off := 0) (by kernel_rfl) rfl) ?_
      refine aU rfl (q_load 7 tk3 rfl rfl rfl) (aM rfl ?_)
      refine aU rfl (q_bld (l := [(0, .tmp 74), (1, .tmp 76), (2, .tmp 77)]) (zs := [.string .empty, .int .i64 0, .int .i64 0]) (pl := [(0, 1), (1, 1), (2, 1)]) (by kernel_rfl) (by kernel_rfl) (by kernel_rfl) rfl rfl rfl) ?_
      refine aL_eff (q := true) rfl (w_lit (zs := [.string .empty, .int .i64 0, .int .i64 0]) (l := [(0, .tmp 78)]) el28 (by kernel_rfl) (by decide) (by decide) (by decide) rfl rfl rfl (.more rfl (.v rfl (.v rfl (.v rfl .nil))) .nil) rfl rfl (fun v22_7 => ?_))
      refine aL_hp (by (try simp only [nM, nN]); rfl) ?_
      refine aL_eff rfl (w_append 2 el28 rfl rfl rfl rfl (w_srcO 8 el28 rfl (by simp)) (by first | assumption | simp) (by have := hfo.groups; show (df2.map rowDf).length + 1 ≤ _; rw [List.length_map]; exact Nat.le_trans (show df2.length + 1 ≤ 2000000 by omega) (by decide)) ((df2.length + 1)) (by show (df2.map rowDf).length + 1 = _; rw [List.length_map]) (fun v22_8 c22_8 => ?_))
      refine aL_hp (by (try simp only [nK, nL]); rfl) ?_
      refine aA rfl (aL_nil (blk_n (thn_n (awp_region ?_))))
      refine aU rfl (q_addi rfl rfl (by omega)) ?_
      refine aM rfl (aNn ?_)
      refine ⟨[0, 4, 5, 6, 7, 8, 9, 19, 20, 21, 32, 33, 34], [5, 4, 3, 2, 1, 0], [0, 1, 2, 3, 4], rfl, ?_⟩
      exact ⟨(j + 1, ((_, df2 ++ [(g.name, (((m2 g.name).getD cp0).obj, (i : Int)))]), (m2, ks3))), ⟨⟨by dsimp only; omega, by dsimp only; rw [List.length_append]; simp; omega, hks3⟩, by dsimp only; rw [List.map_append]; rfl⟩, by dsimp only; omega⟩
     ·skip
      refine awp_skip (blk_n (thn_n (awp_region ?_)))
      refine aU rfl (q_addi rfl rfl (by omega)) ?_
      refine aM rfl (aNn ?_)
      refine ⟨[0, 4, 5, 6, 7, 8, 9, 19, 20, 21, 32, 33, 34], [5, 4, 3, 2, 1, 0], [0, 1, 2, 3, 4], rfl, ?_⟩
      exact ⟨(j + 1, ((dv2, df2), (m2, ks3))), ⟨⟨by dsimp only; omega, by dsimp only; omega, hks3⟩, rfl⟩, by dsimp only; omega⟩
  ·skip
   refine awp_exit (thn_e (thn_e (blk_hit (thn_n ?_))))
   refine awp_ownForm 4 rfl (fun ka kc hv => ?_)
   rw [List.length_map] at hv
   subst hv
   refine awp_shareR 4 (ShF bR ⟨ka, kc, ks⟩) rfl (fun _ _ _ h => own_rep h) (awp_entF (AllF (ShF bR) (K ++ [⟨ka, kc, ks⟩])) (allF_snoc (.of (psAt 1 rfl)) (.of (psAt 0 rfl))) ?_)
   show awp _ _ _ _ ⟨_, [_, _, _, _, _, _, _, _], [_, _, _, _, _]⟩
   refine awp_region (aM rfl (aM rfl ?_))
   refine aL_eff (q := true) rfl (w_lit (zs := [.slice none 0 0]) (l := [(0, .tmp 83)]) el27 (by kernel_rfl) (by decide) (by decide) (by decide) rfl rfl rfl (.more rfl (.v rfl .nil) .nil) rfl rfl (fun v24_2 => ?_))
   refine aL_hp (by (try simp only [nM, nN]); rfl) ?_
   refine aL_eff rfl (w_append 1 el27 rfl rfl rfl rfl (w_srcO 5 el27 rfl (by simp)) (by first | assumption | simp) (by show (K.map slR).length + 1 ≤ _; rw [List.length_map]; exact Nat.le_trans (show K.length + 1 ≤ 1001 by omega) (by decide)) ((K.length + 1)) (by show (K.map slR).length + 1 = _; rw [List.length_map]) (fun v24_3 c24_3 => ?_))
   refine aL_hp (by (try simp only [nK, nL]); rfl) ?_
   refine aA rfl (aL_nil (blk_n (thn_n (awp_region ?_))))
   refine aU rfl (q_addi rfl rfl (by omega)) ?_
   refine aM rfl (aNn ?_)
   refine ⟨[0, 4, 5, 6, 19, 20, 21], [7, 4, 3, 2, 1, 0], [0, 1, 2], rfl, ?_⟩
   have hje : j = o.groups.l.length := by simp at h2; omega
   have hgg := hfo.groups
   refine ⟨(i + 1, ((_, K ++ [⟨ka, kc, ks⟩]), ((dv2, df2), m2))), ⟨⟨by dsimp only; omega, by dsimp only; rw [List.length_append, hK]; rfl, ?_, by dsimp only; omega⟩, by dsimp only; rw [List.map_append]; rfl⟩, by dsimp only; omega⟩
   dsimp only
   have := lens_snoc (os := os.l) (K := K) (s := ⟨ka, kc, ks⟩) (by rw [hK]; exact hKl) (by rw [hK, hoo]; exact hks)
   rw [hK] at this; exact this
 ·skip
  refine awp_exit (thn_e (thn_e (blk_hit (thn_n (awp_seq ?_)))))
  refine awp_ownForm 1 rfl (fun ka kc hv => ?_)
  rw [List.length_map] at hv
  subst hv
  have hie : i = os.l.length := by simp at h1; omega
  refine awp_region (aM rfl (aM rfl (aA rfl (aA rfl (aNn (awp_ret ?_))))))
  refine fin2 [5] [1] rfl Tryz.results12 rfl rfl ?_ (.inr rfl)
  exact ⟨ka, kc, K, dv, rfl, by omega, (by rw [← hie]; exact hKl), rfl, rfl⟩
end Go.Proofs.YtgmiihmahaahiaaGreatDoor

namespace Go.Proofs.YtgmiihmahaahiaaGreatDoor
open Go.RowKit Go.Lp Go.Sy
def vIdx (vs : List GVersionDef) (s : ByteArray) : Option Nat := vs.findIdx? fun d => decide (d.name = s)
def parF (vs : List GVersionDef) (s : ByteArray) : List ByteArray := match vIdx vs s with
 | some i => (elt vs (i : Int)).parents.l
 | none => []
inductive Srv (vs : List GVersionDef) (a : ByteArray) : ByteArray → Prop where
 | refl : Srv vs a a
 | step {b c : ByteArray} (h : Srv vs a b) (hc : c ∈ parF vs b) : Srv vs a c
section
variable {vs : List GVersionDef}
theorem Srv.trans {a b c : ByteArray} (h : Srv vs a b) (k : Srv vs b c) : Srv vs a c := by
 induction k with
 | refl => exact h
 | step _ hc ih => exact .step ih hc
def univ (vs : List GVersionDef) (v : ByteArray) : List ByteArray := v :: vs.flatMap fun d => d.parents.l
theorem par_univ {v s c : ByteArray} (h : c ∈ parF vs s) : c ∈ univ vs v := by
 unfold parF at h
 cases hi : vIdx vs s with
 | none => rw [hi] at h; cases h
 | some i =>
   rw [hi] at h
   dsimp only at h
   unfold vIdx at hi
   have hl : i < vs.length := by
     rw [List.findIdx?_eq_some_iff_getElem] at hi; exact hi.1
   exact List.mem_cons_of_mem _ (List.mem_flatMap.2 ⟨_, List.mem_of_getElem? (elt_nat hl), h⟩)
def left {α : Type} [DecidableEq α] (U l : List α) : Nat := U.countP fun x => decide (x ∉ l)
theorem left_le {α : Type} [DecidableEq α] {U l l2 : List α} (h : ∀ x ∈ l, x ∈ l2) : left U l2 ≤ left U l := by
 unfold left
 refine List.countP_mono_left fun x _ hx => ?_
 simp only [decide_eq_true_eq] at hx ⊢
 exact fun hh => hx (h x hh)
theorem left_lt {α : Type} [DecidableEq α] {U l : List α} {s : α} (hU : s ∈ U) (hs : s ∉ l) : left U (l ++ [s]) < left U l := by
 induction U with
 | nil => cases hU
 | cons a U ih =>
   unfold left at *
   rw [List.countP_cons, List.countP_cons]
   have hle : U.countP (fun x => decide (x ∉ l ++ [s])) ≤ U.countP (fun x => decide (x ∉ l)) := left_le (U := U) fun x hx => List.mem_append_left _ hx
   rcases List.mem_cons.1 hU with rfl | h
   · rw [if_neg (by simp), if_pos (by simpa using hs)]; omega
   · have := ih h
     by_cases ha : a ∉ l ++ [s]
     · rw [if_pos (by simpa using ha), if_pos (by simp at ha ⊢; exact ha.1)]; omega
     · rw [if_neg (by simpa using ha)]; omega
structure Vis (vs : List GVersionDef) (s : ByteArray) (l l2 : List ByteArray) : Prop where
 sub : ∀ x ∈ l, x ∈ l2
 self : s ∈ l2
 from_ : ∀ x ∈ l2, x ∈ l ∨ Srv vs s x
 closed : ∀ x ∈ l2, x ∉ l → ∀ c ∈ parF vs x, c ∈ l2
theorem Vis.hit {s : ByteArray} {l : List ByteArray} (h : s ∈ l) : Vis vs s l l := ⟨fun _ h => h, h, fun _ h => .inl h, fun _ h h2 => (h2 h).elim⟩
structure VisK (vs : List GVersionDef) (s : ByteArray) (l l2 : List ByteArray) (k : Nat) : Prop where
 sub : ∀ x ∈ l ++ [s], x ∈ l2
 from_ : ∀ x ∈ l2, x ∈ l ∨ Srv vs s x
 closed : ∀ x ∈ l2, x ∉ l → x ≠ s → ∀ c ∈ parF vs x, c ∈ l2
 done : ∀ c ∈ (parF vs s).take k, c ∈ l2
theorem VisK.start {s : ByteArray} {l : List ByteArray} : VisK vs s l (l ++ [s]) 0 := ⟨fun _ h => h, fun _ h => (List.mem_append.1 h).imp id fun h => by rw [List.mem_singleton.1 h]; exact .refl, fun _ h h1 h2 => by
 rcases List.mem_append.1 h with h | h
 · exact (h1 h).elim
 · exact (h2 (List.mem_singleton.1 h)).elim, fun c h => by rw [List.take_zero] at h; cases h⟩
theorem VisK.step {s p : ByteArray} {l l2 l3 : List ByteArray} {k : Nat} (h : VisK vs s l l2 k) (hp : (parF vs s)[k]? = some p) (hv : Vis vs p l2 l3) : VisK vs s l l3 (k + 1) where
 sub x hx := hv.sub x (h.sub x hx)
 from_ x hx := by
   rcases hv.from_ x hx with h1 | h1
   · exact h.from_ x h1
   · exact .inr ((Srv.step .refl (List.mem_of_getElem? hp)).trans h1)
 closed x hx h1 h2 c hc := by
   by_cases hx2 : x ∈ l2
   · exact hv.sub c (h.closed x hx2 h1 h2 c hc)
   · exact hv.closed x hx hx2 c hc
 done c hc := by
   rw [List.take_add_one, hp, List.mem_append] at hc
   rcases hc with hc | hc
   · exact hv.sub c (h.done c hc)
   · simp at hc; subst hc; exact hv.self
theorem VisK.fin {s : ByteArray} {l l2 : List ByteArray} {k : Nat} (h : VisK vs s l l2 k) (hk : (parF vs s).length ≤ k) : Vis vs s l l2 where
 sub x hx := h.sub x (List.mem_append_left _ hx)
 self := h.sub s (by simp)
 from_ := h.from_
 closed x hx h1 c hc := by
   by_cases hs : x = s
   · subst hs; exact h.done c (by rw [List.take_of_length_le hk]; exact hc)
   · exact h.closed x hx h1 hs c hc
theorem Vis.all {s : ByteArray} {l2 : List ByteArray} (h : Vis vs s [] l2) (x : ByteArray) : x ∈ l2 ↔ Srv vs s x := by
 constructor
 · intro hx
   rcases h.from_ x hx with h1 | h1
   · cases h1
   · exact h1
 · intro hx
   induction hx with
   | refl => exact h.self
   | step _ hc ih => exact h.closed _ ih (by simp) _ hc
structure AllK (vs : List GVersionDef) (v : ByteArray) (l : List ByteArray) (i k : Nat) : Prop where
 nd : l.Nodup
 first : v ∈ l
 from_ : ∀ x ∈ l, Srv vs v x
 uni : ∀ x ∈ l, x ∈ univ vs v
 done : ∀ (j : Nat) (x : ByteArray), l[j]? = some x → j < i → ∀ c ∈ parF vs x, c ∈ l
 now : ∀ x, l[i]? = some x → ∀ c ∈ (parF vs x).take k, c ∈ l
end
end Go.Proofs.YtgmiihmahaahiaaGreatDoor

namespace Go.Proofs.YtgmiihmahaahiaaGreatDoor
open Go.RowKit Go.Lp Go.Sy
open Go.Proofs.Tryz
attribute [local irreducible] aL aB awp aC fwp
abbrev vMap (vs : List GVersionDef) : ByteArray → Option Int := fun s => (vIdx vs s).map fun i : Nat => (i : Int)
theorem vIdx_snoc (l : List GVersionDef) (d : GVersionDef) (s : ByteArray) : vIdx (l ++ [d]) s = (vIdx l s).or (if d.name = s then some l.length else none) := by
 unfold vIdx
 rw [List.findIdx?_append]
 congr 1
 by_cases h : d.name = s <;> simp [h, List.findIdx?_cons]
theorem con_vindex (l : Sl GVersionDef) : Con Tryz.prog 101 [l.val] [ShF GVersionDef.row l] [] fun r ps hp => ps = [] ∧ ∃ b, r = .map (some b) ∧ hp = [MapR b kStr eI (vMap l.l)] := by
 refine Con.enter Tryz.func101 rfl (by simp [Tryz.ntmps101]) ?_
 show awp _ _ _ _ ⟨[(0, true, _)], _, _⟩
 refine awp_lenE (.of (psAt 0 rfl)) (fun hlen => ?_)
 refine aSR (aA rfl (aNn (aSR ?_)))
 refine aL_eff (q := true) rfl (e_makeMap (kStr) (eI) rfl (fun b1_0 => ?_))
 refine aL_hp (by (try simp only [nM, nN]); rfl) ?_
 refine aA rfl (aNs (aSR (aM rfl (aU rfl (q_lenS Tryz.underlying24 rfl) ?_))))
 refine aM rfl (aNn (awp_block (awp_loopK [3, 9, 10, 11] [0] [0] (fun (k : Nat) s => k ≤ l.l.length ∧ s = ⟨[(3, true, .map (some b1_0)), (9, true, l.val), (10, true, .int .i64 l.l.length), (11, true, .int .i64 k)], [ShF GVersionDef.row l], [MapR b1_0 kStr eI (vMap (l.l.take k))]⟩) (fun k => l.l.length - k) rfl (⟨0, Nat.zero_le _, rfl⟩) ?_)))
 rintro k s ⟨hk, rfl⟩
 refine aSR (aU rfl (q_lss rfl rfl) (aNs ?_))
 refine awp_cond _ rfl (fun h1 => ?_) (fun h1 => ?_)
 ·skip
  have hk' : k < l.l.length := by simpa using h1
  obtain ⟨a, ha⟩ : ∃ a, l.l[k]? = some a := ⟨l.l[k]'hk', by simp⟩
  have hlt : (l.l.take k).length = k := by rw [List.length_take]; omega
  refine awp_skip (thn_n (awp_seq (awp_block (aSR (aM rfl ?_)))))
  refine aL_E true rfl rfl (fun _ => q_indexAddrG Tryz.underlying24 tk178 rfl ((.of (psAt 0 rfl))) rfl (rows_get ha) rfl rfl) (fun h => absurd h (by decide)) (fun ⟨b4_1, o4_1⟩ => ?_)
  refine aU rfl (q_loadD (o := 0) tk178 rfl (psAt 0 rfl) rfl rfl) ?_
  refine aL_eff (q := true) rfl (x_alloc (zs := [.string .empty, .slice none 0 0]) (by kernel_rfl) rfl (fun b4_3 => ?_))
  refine aL_hp (by (try simp only [nM, nN]); rfl) ?_
  refine aA rfl ?_
  refine aL_eff rfl (x_store 1 tk178 rfl rfl rfl rfl ?_)
  refine aL_hp (by (try simp only [nK, nL]); rfl) ?_
  refine aNn (aSR (aM rfl ?_))
  refine aU rfl (q_fieldAddr (off := 0) (by kernel_rfl) rfl) ?_
  refine aU rfl (q_load 1 tk9 rfl rfl rfl) ?_
  refine aU rfl (q_lookOk (k := a.name) (v0 := (0 : Int)) 0 Tryz.underlying173 (kyT) (by kernel_rfl) rfl rfl rfl) ?_
  refine aM rfl (aU rfl (q_extract rfl rfl) (aU rfl (q_extract rfl rfl) (aA rfl (aA rfl (aNn (aSR (aM rfl (aU rfl (q_not rfl) (aNn ?_)))))))))
  refine awp_cond _ rfl (fun h2 => ?_) (fun h2 => ?_)
  ·skip
   have hno : vIdx (l.l.take k) a.name = none := by simpa using h2
   have hm : mput (vMap (l.l.take k)) a.name (k : Int) = vMap (l.l.take (k + 1)) := by
     funext s
     unfold vMap mput
     rw [List.take_add_one, ha, Option.toList_some, vIdx_snoc, hlt]
     by_cases hs : s = a.name
     · subst hs; rw [if_pos rfl, hno, if_pos rfl]; rfl
     · rw [if_neg hs, if_neg (Ne.symm hs), Option.or_none]
   refine awp_region (aM rfl ?_)
   refine aU rfl (q_fieldAddr (off := 0) (by kernel_rfl) rfl) ?_
   refine aU rfl (q_load 1 tk9 rfl rfl rfl) (aM rfl ?_)
   refine aL_eff rfl (e_mapUpdate (k := a.name) (v := (k : Int)) 0 Tryz.underlying173 (kyT) rfl rfl rfl rfl ?_)
   refine aL_hp (by (try simp only [nK, nL]); rfl) ?_
   refine aL_nil (blk_n (thn_n (awp_region ?_)))
   refine aU rfl (q_addi rfl rfl (by omega)) ?_
   refine aM rfl (aNn ?_)
   refine ⟨[3, 9, 10, 11], [0], [0], rfl, ?_⟩
   exact ⟨k + 1, ⟨by omega, by rw [← hm]; rfl⟩, by omega⟩
  ·skip
   have hyes : (vIdx (l.l.take k) a.name).isSome = true := by simpa using h2
   have hm : vMap (l.l.take k) = vMap (l.l.take (k + 1)) := by
     funext s
     unfold vMap
     rw [List.take_add_one, ha, Option.toList_some, vIdx_snoc]
     by_cases hs : a.name = s
     · subst hs
       obtain ⟨i, hi⟩ := Option.isSome_iff_exists.1 hyes
       rw [hi]; rfl
     · rw [if_neg hs, Option.or_none]
   refine awp_skip (blk_n (thn_n (awp_region ?_)))
   refine aU rfl (q_addi rfl rfl (by omega)) ?_
   refine aM rfl (aNn ?_)
   refine ⟨[3, 9, 10, 11], [0], [0], rfl, ?_⟩
   exact ⟨k + 1, ⟨by omega, by rw [← hm]; rfl⟩, by omega⟩
 ·skip
  refine awp_exit (thn_e (thn_e (blk_hit (thn_n (aSR (aM rfl (aA rfl (aNn (awp_ret ?_)))))))))
  refine fin1 [] [0] rfl Tryz.results101 rfl ?_ (.inr rfl)
  exact ⟨rfl, b1_0, rfl, by rw [List.take_of_length_le (by simpa using h1)]; rfl⟩
theorem tk175 : tyk Tryz.prog 175 = some (false, 1) := by kernel_rfl
abbrev visPs (l : Sl GVersionDef) (bo ba bl bv bout bat : Nat) : List Per :=
 [At bo 0 [.v (.map (some bout))], At ba 0 [.v (.map (some bat))], At bl 0 [.v (slV l)], At bv 0 [.v (.func (.func 102) #[] #[.pointer (some ⟨bo, 0, none⟩), .pointer (some ⟨ba, 0, none⟩), .pointer (some ⟨bl, 0, none⟩), .pointer (some ⟨bv, 0, none⟩)])], ShM bat kStr eI (vMap l.l), ShF GVersionDef.row l, AllF GVersionDef.ok l.l]
abbrev VisCon (l : Sl GVersionDef) (bo ba bl bv bout bat : Nat) (s : ByteArray) (m : List ByteArray) : Prop :=
 Con Tryz.prog 102 [.string s, .pointer (some ⟨bo, 0, none⟩), .pointer (some ⟨ba, 0, none⟩), .pointer (some ⟨bl, 0, none⟩), .pointer (some ⟨bv, 0, none⟩)] (visPs l bo ba bl bv bout bat) [MapR bout kStr vBo (setM m)]
   fun _ ps hp => ps = [] ∧ ∃ m2, Vis l.l s m m2 ∧ hp = [MapR bout kStr vBo (setM m2)]
theorem con_visitS (l : Sl GVersionDef) (v : ByteArray) (bo ba bl bv bout bat : Nat) (s : ByteArray) (m : List ByteArray) (hs : s ∈ univ l.l v) (ih : ∀ s' m', left (univ l.l v) m' < left (univ l.l v) m → s' ∈ univ l.l v → VisCon l bo ba bl bv bout bat s' m') : VisCon l bo ba bl bv bout bat s m := by
 refine Con.enter Tryz.func102 rfl (by simp [Tryz.ntmps102]) ?_
 show awp _ _ _ _ ⟨[(0, true, _), (1, true, _), (2, true, _), (3, true, _), (4, true, _)], _, _⟩
 refine awp_seq (aSR (aU rfl (q_loadDE (o := 0) tk125 rfl (.of (psAt 0 rfl)) rfl) (aM rfl ?_)))
 refine aU rfl (q_look (k := s) (v0 := false) 0 Tryz.underlying125 (kyT) (by kernel_rfl) rfl rfl rfl) ?_
 refine aNn ?_
 refine awp_cond _ rfl (fun h1 => ?_) (fun h1 => ?_)
 ·skip
  have hin : s ∈ m := by have h1' : ((setM m s).getD false) = true := h1; rw [setM_get] at h1'; simpa using h1'
  refine awp_ret (thn_r ?_)
  refine fin0 [] [0] rfl Tryz.results102 ?_ (.inr rfl)
  exact ⟨rfl, m, .hit hin, rfl⟩
 ·skip
  have hin : s ∉ m := by have h1' : ((setM m s).getD false) = false := h1; rw [setM_get] at h1'; simpa using h1'
  have hlt := left_lt hs hin
  refine awp_skip (thn_n (aSR (aU rfl (q_loadDE (o := 0) tk125 rfl (.of (psAt 0 rfl)) rfl) (aM rfl ?_))))
  refine aL_eff rfl (e_mapUpdate (k := s) (v := true) 0 Tryz.underlying125 (kyT) rfl rfl rfl rfl ?_)
  refine aL_hp (by (try simp only [nK, nL]); rfl) ?_
  refine aNs ?_
  rw [← setM_put]
  refine awp_region (aU rfl (q_loadDE (o := 0) tk173 rfl (.of (psAt 1 rfl)) rfl) (aM rfl ?_))
  refine aU rfl (qs_lookOk (k := s) (v0 := (0 : Int)) Tryz.underlying173 (kyT) (by kernel_rfl) rfl rfl ((.of (psAt 4 rfl)))) ?_
  refine aM rfl (aU rfl (q_extract rfl rfl) (aU rfl (q_extract rfl rfl) (aA rfl (aA rfl (aNn (aSR (aM rfl (aNn ?_))))))))
  refine awp_cond _ rfl (fun h2 => ?_) (fun h2 => ?_)
  ·skip
   obtain ⟨i, hi⟩ : ∃ i, vIdx l.l s = some i := by
     cases hc : vIdx l.l s with
     | some i => exact ⟨i, rfl⟩
     | none => simp [hc] at h2
   have hz : ((vIdx l.l s).map fun i : Nat => (i : Int)).getD 0 = i := by rw [hi]; rfl
   have hil : i < l.l.length := by unfold vIdx at hi; rw [List.findIdx?_eq_some_iff_getElem] at hi; exact hi.1
   have hpar : parF l.l s = (elt l.l (i : Int)).parents.l := by unfold parF; rw [hi]
   refine aSR (aU rfl (q_loadDE (o := 0) tk24 rfl (.of (psAt 2 rfl)) rfl) (aM rfl ?_))
   refine aL_E true rfl rfl (fun _ => q_indexAddrG Tryz.underlying24 tk178 rfl ((.of (psAt 5 rfl))) rfl (rows_get (elt_nat hil)) (hz) rfl) (fun h => absurd h (by decide)) (fun ⟨b4_2, o4_2⟩ => ?_)
   refine aU rfl (q_fieldAddr (off := 1) (by kernel_rfl) rfl) ?_
   refine aU rfl (q_loadD (o := 1) tk77 rfl (psAt 0 rfl) rfl rfl) (aU rfl (q_lenS Tryz.underlying77 rfl) (aM rfl (aNn (awp_block ?_))))
   refine awp_lenE (GVersionDef.f_parents (Ent.all (f := GVersionDef.ok) (.of (psAt 7 rfl)) (elt_nat hil))) (fun hlen => ?_)
   refine awp_loopK [1, 2, 3, 4, 26, 27, 28] [6, 5, 4, 3, 2, 1, 0] [0] (fun (q : Nat × List ByteArray) st => (q.1 ≤ (elt l.l (i : Int)).parents.l.length ∧ VisK l.l s m q.2 q.1) ∧ st = ⟨[(1, true, .pointer (some ⟨bo, 0, none⟩)), (2, true, .pointer (some ⟨ba, 0, none⟩)), (3, true, .pointer (some ⟨bl, 0, none⟩)), (4, true, .pointer (some ⟨bv, 0, none⟩)), (26, true, (elt l.l (i : Int)).parents.val), (27, true, .int .i64 (elt l.l (i : Int)).parents.l.length), (28, true, .int .i64 q.1)], visPs l bo ba bl bv bout bat, [MapR bout kStr vBo (setM q.2)]⟩) (fun q => (elt l.l (i : Int)).parents.l.length - q.1) rfl (⟨(0, m ++ [s]), ⟨Nat.zero_le _, .start⟩, rfl⟩) ?_
   rintro ⟨k, m2⟩ st ⟨⟨hk, hV⟩, rfl⟩
   dsimp only at hk hV
   refine aSR (aU rfl (q_lss rfl rfl) (aNs ?_))
   refine awp_cond _ rfl (fun h3 => ?_) (fun h3 => ?_)
   ·skip
    have hk' : k < (elt l.l (i : Int)).parents.l.length := by simp at h3; omega
    obtain ⟨p, hp⟩ : ∃ p, (elt l.l (i : Int)).parents.l[k]? = some p := ⟨_, List.getElem?_eq_getElem hk'⟩
    have hp2 : (parF l.l s)[k]? = some p := by rw [hpar]; exact hp
    refine awp_skip (thn_n (awp_seq (awp_block (aSR ?_))))
    refine aL_E true rfl rfl (fun _ => q_indexAddrG Tryz.underlying77 tk9 rfl ((GVersionDef.f_parents (Ent.all (f := GVersionDef.ok) (.of (psAt 6 rfl)) (elt_nat hil)))) rfl (rows_get hp) rfl rfl) (fun h => absurd h (by decide)) (fun ⟨b6_0, o6_0⟩ => ?_)
    refine aU rfl (q_loadD (o := 0) tk9 rfl (psAt 0 rfl) rfl rfl) (aA rfl (aNn (awp_region (aU rfl (q_loadDE (o := 0) tk175 rfl (.of (psAt 4 rfl)) rfl) (aM rfl ?_)))))
    refine aL_eff (q := false) rfl (e_callC [6, 5, 4, 3, 2, 1, 0] [0] (by kernel_rfl) rfl rfl rfl rfl rfl (ih p m2 (Nat.lt_of_le_of_lt (left_le fun x hx => hV.sub x hx) hlt) (par_univ (List.mem_of_getElem? hp2))) ?_)
    rintro _ _ _ ⟨rfl, m3, hv3, rfl⟩
    refine aL_st (by (try simp only [nM, nN]); rfl) (by (try simp only [putB, place, Nat.reduceBEq, if_true, if_false, reduceIte, Nat.reduceAdd, nW]); rfl) ?_
    refine aL_nil (blk_n (thn_n (awp_region ?_)))
    refine aU rfl (q_addi rfl rfl (by omega)) ?_
    refine aM rfl (aNn ?_)
    refine ⟨[1, 2, 3, 4, 26, 27, 28], [6, 5, 4, 3, 2, 1, 0], [0], rfl, ?_⟩
    exact ⟨(k + 1, m3), ⟨⟨by dsimp only; omega, hV.step hp2 hv3⟩, rfl⟩, by dsimp only; omega⟩
   ·skip
    refine awp_exit (thn_e (thn_e (blk_hit ?_)))
    refine fin0 [] [0] rfl Tryz.results102 ?_ (.inl rfl)
    exact ⟨rfl, m2, hV.fin (by rw [hpar]; simp at h3; omega), rfl⟩
  ·skip
   have hpar : parF l.l s = [] := by
     unfold parF
     cases hc : vIdx l.l s with
     | none => rfl
     | some i => simp [hc] at h2
   refine awp_skip ?_
   refine fin0 [] [0] rfl Tryz.results102 ?_ (.inl rfl)
   exact ⟨rfl, m ++ [s], VisK.start.fin (by rw [hpar]; exact Nat.le_refl _), rfl⟩
theorem con_visit (l : Sl GVersionDef) (v : ByteArray) (bo ba bl bv bout bat : Nat) : ∀ (N : Nat) (s : ByteArray) (m : List ByteArray), left (univ l.l v) m < N → s ∈ univ l.l v → VisCon l bo ba bl bv bout bat s m
 | 0, _, _, h, _ => by omega
 | N + 1, s, m, h, hs => con_visitS l v bo ba bl bv bout bat s m hs fun s' m' h' hs' => con_visit l v bo ba bl bv bout bat N s' m' (by omega) hs'
theorem con_served (l : Sl GVersionDef) (v : ByteArray) : Con Tryz.prog 47 [l.val, .string v] [ShF GVersionDef.row l, AllF GVersionDef.ok l.l] [] fun r ps hp => ps = [] ∧ ∃ b m, r = .map (some b) ∧ (∀ x, x ∈ m ↔ Srv l.l v x) ∧ hp = [MapR b kStr vBo (setM m)] := by
 refine Con.enter Tryz.func47 rfl (by simp [Tryz.ntmps47]) ?_
 show awp _ _ _ _ ⟨[(0, true, _), (1, true, _)], _, _⟩
 refine aSR ?_
 refine aL_eff (q := true) rfl (e_boxV ([slV l]) rfl rfl rfl (fun b0_0 => ?_))
 refine aL_hp (by (try simp only [nM, nN]); rfl) ?_
 refine aA rfl (aNn (aSR (aU rfl (q_load 0 tk24 rfl rfl rfl) ?_)))
 refine aL_eff (q := true) rfl (e_call [1] [] (by kernel_rfl) rfl rfl rfl rfl (con_vindex l) ?_)
 rintro _ _ _ ⟨rfl, bat, rfl, rfl⟩
 refine aL_st (by (try simp only [nM, nN]); rfl) (by (try simp only [putB, place, Nat.reduceBEq, if_true, if_false, reduceIte, Nat.reduceAdd, nW]); rfl) ?_
 refine aL_eff (q := true) rfl (x_alloc (zs := [.map none]) (by kernel_rfl) rfl (fun b1_2 => ?_))
 refine aL_hp (by (try simp only [nM, nN]); rfl) ?_
 refine aL_eff rfl (x_store 2 tk173 rfl rfl rfl rfl ?_)
 refine aL_hp (by (try simp only [nK, nL]); rfl) ?_
 refine aNn (aSR ?_)
 refine aL_eff (q := true) rfl (e_makeMap (kStr) (vBo) rfl (fun b2_0 => ?_))
 refine aL_hp (by (try simp only [nM, nN]); rfl) ?_
 refine aL_eff (q := true) rfl (x_alloc (zs := [.map none]) (by kernel_rfl) rfl (fun b2_1 => ?_))
 refine aL_hp (by (try simp only [nM, nN]); rfl) ?_
 refine aL_eff rfl (x_store 4 tk125 rfl rfl rfl rfl ?_)
 refine aL_hp (by (try simp only [nK, nL]); rfl) ?_
 refine aNn (aSR ?_)
 refine aL_eff (q := true) rfl (x_alloc (zs := [.nilFunc]) (by kernel_rfl) rfl (fun b3_0 => ?_))
 refine aL_hp (by (try simp only [nM, nN]); rfl) ?_
 refine aNn (aSR (aU rfl (q_func (l := [.tmp 6, .tmp 5, .tmp 2, .tmp 7]) rfl) ?_))
 refine aL_eff rfl (x_store 5 tk175 rfl rfl rfl rfl ?_)
 refine aL_hp (by (try simp only [nK, nL]); rfl) ?_
 refine aNs (awp_shareR 1 (ShM bat kStr eI (vMap l.l)) rfl (fun _ _ _ hh => map_rep hh) (awp_shareB 5 rfl rfl (awp_shareB 0 rfl rfl (awp_shareB 2 rfl rfl (awp_shareB 4 rfl rfl ?_)))))
 show awp _ _ _ _ ⟨_, At b2_1 0 [.v (.map (some b2_0))] :: At b1_2 0 [.v (.map (some bat))] :: At b0_0 0 [.v (slV l)] :: At b3_0 0 [.v (.func (.func 102) #[] #[.pointer (some ⟨b2_1, 0, none⟩), .pointer (some ⟨b1_2, 0, none⟩), .pointer (some ⟨b0_0, 0, none⟩), .pointer (some ⟨b3_0, 0, none⟩)])] :: ShM bat kStr eI (vMap l.l) :: _ :: _ :: [], _⟩
 refine awp_region (aU rfl (q_loadDE (o := 0) tk175 rfl (.of (psAt 3 rfl)) rfl) (aM rfl ?_))
 refine aL_eff (q := false) rfl (e_callC [6, 5, 4, 3, 2, 1, 0] [3] (by kernel_rfl) rfl rfl rfl rfl rfl (con_visit l v b2_1 b1_2 b0_0 b3_0 b2_0 bat _ v [] (Nat.lt_succ_self _) List.mem_cons_self) ?_)
 rintro _ _ _ ⟨rfl, m2, hv, rfl⟩
 refine aL_st (by (try simp only [nM, nN]); rfl) (by (try simp only [putB, place, Nat.reduceBEq, if_true, if_false, reduceIte, Nat.reduceAdd, nW]); rfl) ?_
 refine aNn (aSR (aU rfl (q_loadDE (o := 0) tk125 rfl (.of (psAt 0 rfl)) rfl) (aA rfl (aNn (awp_ret ?_)))))
 refine fin1 [] [3] rfl Tryz.results47 rfl ?_ (.inr rfl)
 exact ⟨rfl, b2_0, m2, rfl, hv.all, rfl⟩
theorem con_serves_eq (l : Sl GVersionDef) (a : ByteArray) : Con Tryz.prog 22 [l.val, .string a, .string a] [ShF GVersionDef.row l, AllF GVersionDef.ok l.l] [] fun r _ _ => r = .bool true := by
 refine Con.enter Tryz.func22 rfl (by simp [Tryz.ntmps22]) ?_
 show awp _ _ _ _ ⟨[(0, true, _), (1, true, _), (2, true, _)], _, _⟩
 refine aSR (aA rfl (aNn (aSR (aM rfl (aM rfl ?_)))))
 refine aU rfl ((qs_eqlD rfl rfl).castV (v' := .bool true) (by rw [decide_eq_true rfl])) ?_
 refine aM rfl (aG rfl rfl (fun hc => q_move rfl) (aG rfl rfl (fun hc => q_move rfl) ?_))
 refine aL_callN (caps := []) [1, 0] (none) (by kernel_rfl) _ rfl rfl (fun _ => rfl) (fun hc => (evs_cons (ev_yes rfl hc) (evs_cons (ev_yes rfl hc) rfl))) (fun hc => by rw [List.append_nil]; exact (absurd hc (by decide) : Con _ _ _ _ _ (YN (fun m : Option Nat => Value.map m) fun _ => True))) (fun m6 hm6 => ?_)
 refine aG rfl rfl (fun hc => q_move rfl) ?_
 refine aG rfl rfl (fun hc => (absurd hc (by decide) : Quiet _ _ _ _ (.bool false))) ?_
 refine aU rfl (q_or rfl rfl (fun h => gf rfl h)) (aA rfl (aNn (awp_ret ?_)))
 refine fin1 [] [] rfl Tryz.results22 rfl ?_ (.inr rfl)
 rfl
theorem con_serves_ne (l : Sl GVersionDef) (a b : ByteArray) (hab : a ≠ b) (SV : ByteArray → ByteArray → Bool) (hSV : ∀ x y, SV x y = true ↔ Srv l.l x y) : Con Tryz.prog 22 [l.val, .string a, .string b] [ShF GVersionDef.row l, AllF GVersionDef.ok l.l] [] fun r _ _ => r = .bool (SV a b) := by
 refine Con.enter Tryz.func22 rfl (by simp [Tryz.ntmps22]) ?_
 show awp _ _ _ _ ⟨[(0, true, _), (1, true, _), (2, true, _)], _, _⟩
 refine aSR (aA rfl (aNn (aSR (aM rfl (aM rfl ?_)))))
 refine aU rfl ((qs_eqlD rfl rfl).castV (v' := .bool false) (by rw [decide_eq_false hab])) ?_
 refine aM rfl (aM rfl (aM rfl ?_))
 refine aL_eff (q := true) rfl (e_call [1, 0] [] (by kernel_rfl) rfl rfl rfl rfl (con_served l a) ?_)
 rintro _ _ _ ⟨rfl, bm, m, rfl, hm, rfl⟩
 refine aL_st (by (try simp only [nM, nN]); rfl) (by (try simp only [putB, place, Nat.reduceBEq, if_true, if_false, reduceIte, Nat.reduceAdd, nW]); rfl) ?_
 refine aM rfl ?_
 refine aU rfl ((q_look (k := b) (v0 := false) 0 Tryz.underlying125 (kyT) (by kernel_rfl) rfl rfl rfl).castV (v' := .bool (SV a b)) (by (show Value.bool ((setM m b).getD false) = _); rw [setM_get]; congr 1; rw [Bool.eq_iff_iff, hSV, ← hm]; simp)) ?_
 refine aU rfl (q_or rfl rfl (fun _ => rfl)) (aA rfl (aNn (awp_ret ?_)))
 refine fin1 [] [] rfl Tryz.results22 rfl ?_ (.inr rfl)
 rfl
theorem con_serves (l : Sl GVersionDef) (a b : ByteArray) (SV : ByteArray → ByteArray → Bool) (hSV : ∀ x y, SV x y = true ↔ Srv l.l x y) : Con Tryz.prog 22 [l.val, .string a, .string b] [ShF GVersionDef.row l, AllF GVersionDef.ok l.l] [] fun r _ _ => r = .bool (SV a b) := by
 by_cases hab : a = b
 · subst hab
   rw [show SV a a = true from (hSV a a).2 .refl]
   exact con_serves_eq l a
 · exact con_serves_ne l a b hab SV hSV
end Go.Proofs.YtgmiihmahaahiaaGreatDoor

namespace Go.Sy
open Go.RowKit Go.Lp Go.Sort Go.Proofs
section
variable {α : Type} [Inhabited α] {enc : α → List Value} {k : Nat}
omit [Inhabited α] in
theorem flat_len (hk : ∀ x, (enc x).length = k) : ∀ zs : List α, (zs.flatMap enc).length = zs.length * k
 | [] => by simp
 | x :: zs => by rw [List.flatMap_cons, List.length_append, flat_len hk zs, hk, List.length_cons, Nat.add_mul, Nat.one_mul]; omega
omit [Inhabited α] in
theorem flat_get (hk : ∀ x, (enc x).length = k) : ∀ (zs : List α) (i j : Nat) (x : α), zs[i]? = some x → j < k → (zs.flatMap enc)[i * k + j]? = (enc x)[j]?
 | [], i, j, x, h, _ => by simp at h
 | y :: zs, 0, j, x, h, hj => by
   simp only [List.getElem?_cons_zero, Option.some.injEq] at h
   subst h
   rw [List.flatMap_cons, Nat.zero_mul, Nat.zero_add, List.getElem?_append_left (by rw [hk]; exact hj)]
 | y :: zs, i + 1, j, x, h, hj => by
   rw [List.getElem?_cons_succ] at h
   rw [List.flatMap_cons, List.getElem?_append_right (by rw [hk, Nat.add_mul]; omega), hk, show (i + 1) * k + j - k = i * k + j by rw [Nat.add_mul]; omega]
   exact flat_get hk zs i j x h hj
theorem flatK_list (hk : ∀ x, (enc x).length = k) (d : Array α) : flatK enc k d = (d.toList.flatMap enc).toArray := by
 apply Array.ext'
 apply List.ext_getElem?
 intro t
 show (flatK enc k d).toList[t]? = (d.toList.flatMap enc)[t]?
 by_cases ht : t < d.size * k
 · have k0 : 0 < k := by rcases Nat.eq_zero_or_pos k with h | h
                         · subst h; simp at ht
                         · exact h
   have hd : t / k < d.size := (Nat.div_lt_iff_lt_mul k0).2 ht
   have h1 := flat_get hk d.toList (t / k) (t % k) d[t / k]! (by simp [hd]) (Nat.mod_lt _ k0)
   rw [show t / k * k + t % k = t by rw [Nat.mul_comm]; exact Nat.div_add_mod t k] at h1
   rw [h1, Array.getElem?_toList]
   have h2 := get_flatK enc k d t ht
   have h3 : t % k < (enc d[t / k]!).length := by rw [hk]; exact Nat.mod_lt _ k0
   rw [List.getElem?_eq_getElem h3]
   have hs : t < (flatK enc k d).size := by rw [size_flatK]; exact ht
   rw [Array.getElem?_eq_getElem hs]
   rw [getElem!_pos _ t hs] at h2
   rw [h2, getElem!_pos (enc d[t / k]!) (t % k) h3]
 · rw [List.getElem?_eq_none (by simpa using ht), List.getElem?_eq_none (by rw [flat_len hk]; simpa using ht)]
abbrev encRK (enc : α → List Value) (l : List α) : List (List D) := l.map fun x => (enc x).map D.v
theorem own_rowK (hk : ∀ x, (enc x).length = k) (k0 : 0 < k) {w : World} {S F : Blks} {v : Value} {T : TypeId} {zs : List α} (h : (OwnS v T k (encRK enc zs)).holds w S F) :
   (v = .slice none 0 0 ∧ zs = []) ∨ ∃ b cap sp, v = .slice (some ⟨b, 0, none⟩) zs.length cap ∧ w.heap[b]? = some (.cells (zs.flatMap enc ++ sp).toArray T (0, 0)) ∧ zs.length * k + sp.length = cap * k ∧ zs.length ≤ cap ∧ cap ≤ maxLen ∧ (∀ j, F j ↔ j = b) ∧ HoldsK enc k w b 0 zs.toArray := by
 rcases h with ⟨h1, h2, _⟩ | ⟨b, cap, hv, ⟨cs, sp, hb, hr, hl, hle, hc⟩, hF⟩
 · left; exact ⟨h1, by simpa using h2⟩
 · right
   have hlen := hr.len
   rw [List.length_map] at hlen
   have hcs : cs = zs.flatMap enc := by
     apply List.ext_getElem?
     intro t
     by_cases ht : t < zs.length * k
     · have hd : t / k < zs.length := (Nat.div_lt_iff_lt_mul k0).2 ht
       have hj := Nat.mod_lt t k0
       have hx : zs[t / k]? = some (zs[t / k]'hd) := List.getElem?_eq_getElem hd
       have h1 := flat_get hk zs (t / k) (t % k) _ hx hj
       have h3 : t % k < (enc (zs[t / k]'hd)).length := by rw [hk]; exact hj
       obtain ⟨u, hu, hrep⟩ := hr.rep (t / k) (t % k) ((enc (zs[t / k]'hd)).map D.v) (.v ((enc (zs[t / k]'hd))[t % k]'h3)) (by rw [List.getElem?_map, hx]; rfl) (by rw [List.getElem?_map, List.getElem?_eq_getElem h3]; rfl)
       rw [show t / k * k + t % k = t by rw [Nat.mul_comm]; exact Nat.div_add_mod t k] at h1 hu
       cases hrep
       rw [hu, h1, List.getElem?_eq_getElem h3]
     · rw [List.getElem?_eq_none (by omega), List.getElem?_eq_none (by rw [flat_len hk]; omega)]
   subst hcs
   refine ⟨b, cap, sp, by rw [hv, List.length_map], hb, by rw [← hl, List.length_append, flat_len hk], by rwa [List.length_map] at hle, hc, hF, fun j hj => ?_⟩
   rw [flatK_list hk] at hj ⊢
   have hj' : j < (zs.flatMap enc).length := by simpa using hj
   refine ⟨?_, ?_⟩
   · rw [Nat.zero_add, cell_box hb, List.getElem?_append_left hj', List.getElem?_eq_getElem hj']
     congr 1
     show _ = (zs.flatMap enc).toArray[j]!
     rw [getElem!_pos (zs.flatMap enc).toArray j (by simpa using hj')]; simp
   · unfold World.frozen?
     rw [hb]
     simp
theorem con_sortK {P : Program} {ρ : Go.Shelf.Ren} (L : SlLaysF0.n6 P ρ) (k0 : 0 < k) (aE : ∀ w, (isAgg (ρ.t 24)).run P w = .ok true w) (zE : ∀ w, (Go.sizeOf (ρ.t 24)).run P w = .ok k w) (hk : ∀ x, (enc x).length = k) (h1 : ∀ x, ∀ v ∈ enc x, v.oneCell' = true)
   (cf : α → α → Int) (hO : SWO (ltOf cf)) (g : FuncId) (hg : callOk P g = true) (hcmp : ∀ x y, Con P g [.agg (enc x).toArray, .agg (enc y).toArray] [] [] fun r _ _ => r = .int .i64 (cf x y)) {T : TypeId} {v : Value} (zs : List α) (hz : zs.length < 4611686018427387904) :
   Con P (ρ.f 6) [v, .func (.func g) #[] #[]] [] [OwnS v T k (encRK enc zs)] fun _ ps' hp' => ps' = [] ∧ ∃ q : List α, q.Perm zs ∧ (q.Pairwise fun a b => ¬ cf b a < 0) ∧ hp' = [OwnS v T k (encRK enc q)] := fun w S fp hst => by
 have hr := hst.res 0 _ rfl
 rcases own_rowK hk k0 hr with ⟨e1, e2⟩ | ⟨b, cap, sp, hv, hb, hl, hle, hc, hF, hH⟩
 · subst e1 e2
   refine (AnyF.slices_SortFunc_none L none 0 (.func (.func g) #[] #[]) w).mono fun e w' ⟨he, hw⟩ => ?_
   have hbl : Go.Sy.Below w.heap.size w w' := by rw [hw]; exact .refl _ _
   exact ⟨_, [], _, S, fp, he, ⟨rfl, [], List.Perm.refl _, List.Pairwise.nil, rfl⟩, ⟨(fun p hp => by cases hp), (hst.below hbl).res, (hst.below hbl).lt, hst.dj, (hst.below hbl).slt⟩, Evo.of_below _ _ hbl, fun b hb => .inl hb⟩
 · have hbl := lt_of_heap hb
   have eg : ∀ args w, (callFunc g args).run P w = .ok (.enter g args) w := run_callFunc hg
   have hlays : CmpLays P g #[] enc k cf b 0 zs.toArray.size w := fun m os dk _ x y => by
     have hst0 : ∀ W : World, St W (fun _ => False) (fun _ _ => False) [] [] := fun W => ⟨fun p hp => (by cases hp), fun i R hi => (by simp at hi), fun i hi => (by simp at hi), fun i j hi => (by simp at hi), fun b hb => hb.elim⟩
     refine ((hcmp x y).quiet0 (hst0 (sortWorldK enc k w b 0 m dk os))).mono fun e w' ⟨he, hbw⟩ => ⟨he, ?_⟩
     obtain ⟨objs, d, rfl⟩ := ext_of_below hbw.kit
     have hd := hbw.drawn
     refine ⟨d - (sortWorldK enc k w b 0 m dk os).drawn, objs, ?_⟩
     unfold World.ext grow World.drewN
     have hd' : (sortWorldK enc k w b 0 m dk os).drawn ≤ d := hd
     simp only [World.mk.injEq, true_and, and_true]
     omega
   have hcall := AnyQ.slices_SortFunc L k aE zE enc hk h1 cf hO g #[] b 0 cap zs.toArray w eg hlays hH hbl (by simpa using hz)
   rw [show zs.toArray.size = zs.length by simp, ← hv] at hcall
   refine hcall.mono fun e w' ⟨he, d', n, os, hp, hs, hw⟩ => ?_
   obtain ⟨p1, _, p3⟩ := hp
   have hsz' : d'.toList.length = zs.length := by simpa using p1
   have hperm : d'.toList.Perm zs := by
     have e1 : (d'.extract 0 zs.length).toList = d'.toList := by
       rw [Array.toList_extract, List.extract_eq_take_drop, List.drop_zero, List.take_of_length_le (by omega)]
     have e2 : (zs.toArray.extract 0 zs.length).toList = zs := by simp
     rw [e1, e2] at p3; exact p3
   have hsort : d'.toList.Pairwise fun a b => ¬ cf b a < 0 := by
     rw [List.pairwise_iff_getElem]
     intro i j hi hj hij
     have hi' : i < d'.size := by simpa using hi
     have hj' : j < d'.size := by simpa using hj
     have := hs i j (Nat.zero_le _) hij (by omega)
     rw [getElem!_pos d' i hi', getElem!_pos d' j hj'] at this
     unfold ltOf at this
     simpa using this
   have hfl : (flatK enc k d') = (d'.toList.flatMap enc).toArray := flatK_list hk d'
   have hlen' : (d'.toList.flatMap enc).length = zs.length * k := by rw [flat_len hk, hsz']
   have hb' : w'.heap[b]? = some (.cells (d'.toList.flatMap enc ++ sp).toArray T (0, 0)) := by
     rw [hw]
     show ((w.heap.modify b (onCells (putCells id 0 (flatK enc k d')))) ++ os)[b]? = _
     rw [Array.getElem?_append_left (by simpa using hbl), Array.getElem?_modify, if_pos rfl, hb, Option.map_some]
     show some (Obj.cells (putCells id 0 (flatK enc k d') (zs.flatMap enc ++ sp).toArray) T (0, 0)) = _
     rw [hfl, putCells_list id (d'.toList.flatMap enc) (zs.flatMap enc) sp (by rw [hlen', flat_len hk]), List.map_id]
   have hoth : ∀ j, j < w.heap.size → j ≠ b → w'.heap[j]? = w.heap[j]? := fun j hj hne => by
     rw [hw]
     show ((w.heap.modify b (onCells (putCells id 0 (flatK enc k d')))) ++ os)[j]? = _
     rw [Array.getElem?_append_left (by simpa using hj), Array.getElem?_modify, if_neg (Ne.symm hne)]
   have hsz : w.heap.size ≤ w'.heap.size := by
     rw [hw]
     show _ ≤ ((w.heap.modify b (onCells (putCells id 0 (flatK enc k d')))) ++ os).size
     simp
   have hfb : fp 0 b := (hF b).2 rfl
   refine ⟨_, [], [OwnS v T k (encRK enc d'.toList)], S, fp, he, ⟨rfl, d'.toList, hperm, hsort, rfl⟩, ⟨(fun p hp => by cases hp), fun i R' hi => ?_, fun i hi j hj => ?_, hst.dj, fun j hj => Nat.lt_of_lt_of_le (hst.slt j hj) hsz⟩, ⟨by rw [hw]; rfl, by rw [hw]; rfl, by rw [hw]; rfl, hsz, by rw [hw]; exact Nat.le_add_right _ _, fun j hj hx => hoth j hj fun e => hx ⟨0, by simp, e ▸ hfb⟩, fun _ h => h, fun _ h => .inl h⟩, fun j hj => .inl hj⟩
   · cases i with
     | succ i => simp at hi
     | zero =>
       simp only [List.getElem?_cons_zero, Option.some.injEq] at hi
       subst hi
       refine .inr ⟨b, cap, by rw [List.length_map, hsz', hv], ⟨d'.toList.flatMap enc, sp, hb', ⟨by rw [List.length_map, flat_len hk], fun i r hi => ?_, fun u hu => ?_, fun i j r d g1 g2 => ?_⟩, by rw [List.length_append, hlen']; exact hl, by rw [List.length_map, hsz']; exact hle, hc⟩, hF⟩
       · rw [List.getElem?_map, Option.map_eq_some_iff] at hi
         obtain ⟨x, _, rfl⟩ := hi; rw [List.length_map, hk]
       · obtain ⟨x, _, hx⟩ := List.mem_flatMap.1 hu; exact h1 x u hx
       · rw [List.getElem?_map, Option.map_eq_some_iff] at g1
         obtain ⟨x, hx, rfl⟩ := g1
         rw [List.getElem?_map, Option.map_eq_some_iff] at g2
         obtain ⟨u, hu, rfl⟩ := g2
         have hj : j < k := by rw [← hk x]; exact (List.getElem?_eq_some_iff.1 hu).1
         exact ⟨u, by rw [flat_get hk _ i j x hx hj]; exact hu, .v u⟩
   · have hi' : i < [OwnS v T k (encRK enc zs)].length := by simpa using hi
     exact ⟨Nat.lt_of_lt_of_le (hst.lt i hi' j hj).1 hsz, (hst.lt i hi' j hj).2⟩
end
def fldPl (P : Program) (T : TypeId) (i : Nat) : Option Nat := match P.underlying T with
 | some (.struct fs) => (match fs[i]? with
   | some f => if P.plainKey f.type = true then some f.offset else none
   | none => none)
 | _ => none
theorem q_fieldV {P : Program} {n : Fr} {s : Sta} {d : Option Tmp} {ty : TypeId} {pos : String} {af : Array Edge} {gd : Option (Nat × Bool)} {T : TypeId} {i off : Nat} {x : Operand} {xs : Array Value} {v : Value} (hf : fldPl P T i = some off) (hx : ev s.env x = some (true, .agg xs)) (hv : xs[off]? = some v) :
   Quiet P n ⟨d, .field T x i, ty, pos, af, gd⟩ s v := fun w S fp a hst he hn => by
 have h1 := he.val hx rfl
 unfold fldPl at hf
 cases hu : P.underlying T with
 | none => rw [hu] at hf; cases hf
 | some t =>
   rw [hu] at hf
   cases t with
   | struct fs =>
     dsimp only at hf
     cases hi : fs[i]? with
     | none => rw [hi] at hf; cases hf
     | some f =>
       rw [hi] at hf
       dsimp only at hf
       split at hf
       · rename_i hp
         obtain rfl := Option.some.inj hf
         have : (execOp a.eval ⟨d, .field T x i, ty, pos, af, gd⟩).run P w = .ok (.value v) w := by
           unfold execOp; dsimp only; rw [h1]
           show ((Instr.field T (.agg xs) i).bind fun r => Sem.pure (Next.value r)).run P w = _
           have h2 : (Instr.field T (.agg xs) i).run P w = .ok v w := by
             simp only [Instr.field, Sem.run_bind, run_underlying hu, Result.andThen, hi, asAgg, Sem.run_pure]
             exact run_part_plain w hp hv
           rw [Sem.run_bind', h2]; rfl
         rw [this]; exact uponQ_ok _ _
       · cases hf
   | _ => cases hf
end Go.Sy

namespace Go.Proofs
open Go.Shelf
def Tryz.sortO_ren : Go.Shelf.Ren := ⟨fun | 6 => 42 | 15 => 98 | 14 => 97 | 28 => 206 | 29 => 207 | 20 => 198 | 21 => 199 | 22 => 200 | 23 => 201 | 24 => 202 | 25 => 203 | 26 => 204 | 27 => 205 | 46 => 261 | 47 => 262 | 48 => 263 | 49 => 264 | 50 => 265 | 57 => 289 | n => n, fun | 22 => 41 | 24 => 46 | 25 => 123 | 3 => 3 | 39 => 147 | 0 => 0 | 53 => 272 | 55 => 275 | 4 => 4 | 46 => 292 | 45 => 291 | 50 => 176 | 5 => 5 | 9 => 9 | 66 => 328 | 70 => 332 | 76 => 357 | 77 => 358 | n => n, fun | n => n⟩
theorem Tryz.sortO : Go.Proofs.SlLaysF0.n6 Tryz.prog Tryz.sortO_ren := {
 mixed := by kernel_rfl
 f6 := ⟨Tryz.f42.name, by decide, Tryz.func42.trans (congrArg some (by kernel_rfl))⟩
 f14 := ⟨Tryz.f97.name, by decide, Tryz.func97.trans (congrArg some (by kernel_rfl))⟩
 f15 := Tryz.func98.trans (congrArg some (by kernel_rfl))
 f20 := ⟨Tryz.f198.name, by decide, Tryz.func198.trans (congrArg some (by kernel_rfl))⟩
 f21 := ⟨Tryz.f199.name, by decide, Tryz.func199.trans (congrArg some (by kernel_rfl))⟩
 f22 := ⟨Tryz.f200.name, by decide, Tryz.func200.trans (congrArg some (by kernel_rfl))⟩
 f23 := ⟨Tryz.f201.name, by decide, Tryz.func201.trans (congrArg some (by kernel_rfl))⟩
 f24 := ⟨Tryz.f202.name, by decide, Tryz.func202.trans (congrArg some (by kernel_rfl))⟩
 f25 := ⟨Tryz.f203.name, by decide, Tryz.func203.trans (congrArg some (by kernel_rfl))⟩
 f26 := ⟨Tryz.f204.name, by decide, Tryz.func204.trans (congrArg some (by kernel_rfl))⟩
 f27 := ⟨Tryz.f205.name, by decide, Tryz.func205.trans (congrArg some (by kernel_rfl))⟩
 f28 := Tryz.func206.trans (congrArg some (by kernel_rfl))
 f29 := Tryz.func207.trans (congrArg some (by kernel_rfl))
 f46 := ⟨Tryz.f261.name, by decide, Tryz.func261.trans (congrArg some (by kernel_rfl))⟩
 f47 := Tryz.func262.trans (congrArg some (by kernel_rfl))
 f48 := Tryz.func263.trans (congrArg some (by kernel_rfl))
 f49 := ⟨Tryz.f264.name, by decide, Tryz.func264.trans (congrArg some (by kernel_rfl))⟩
 f50 := ⟨Tryz.f265.name, by decide, Tryz.func265.trans (congrArg some (by kernel_rfl))⟩
 f57 := ⟨Tryz.f289.name, by decide, Tryz.func289.trans (congrArg some (by kernel_rfl))⟩
 t0 := Tryz.underlying0
 a0 := Tryz.isAgg0
 z0 := Tryz.sizeOf0
 v0 := Tryz.zeroValue0
 t3 := Tryz.underlying3
 a3 := Tryz.isAgg3
 z3 := Tryz.sizeOf3
 v3 := Tryz.zeroValue3
 t4 := Tryz.underlying4
 a4 := Tryz.isAgg4
 z4 := Tryz.sizeOf4
 v4 := Tryz.zeroValue4
 t5 := Tryz.underlying5
 a5 := Tryz.isAgg5
 z5 := Tryz.sizeOf5
 v5 := Tryz.zeroValue5
 t9 := Tryz.underlying9
 a9 := Tryz.isAgg9
 z9 := Tryz.sizeOf9
 v9 := Tryz.zeroValue9
 t22 := Tryz.underlying41
 a22 := Tryz.isAgg41
 z22 := Tryz.sizeOf41
 v22 := Tryz.zeroValue41
 t25 := Tryz.underlying123
 a25 := Tryz.isAgg123
 z25 := Tryz.sizeOf123
 v25 := Tryz.zeroValue123
 t39 := Tryz.underlying147
 a39 := Tryz.isAgg147
 z39 := Tryz.sizeOf147
 v39 := Tryz.zeroValue147
 t45 := Tryz.underlying291
 a45 := Tryz.isAgg291
 z45 := Tryz.sizeOf291
 v45 := Tryz.zeroValue291
 t46 := Tryz.underlying292
 a46 := Tryz.isAgg292
 z46 := Tryz.sizeOf292
 v46 := Tryz.zeroValue292
 t50 := Tryz.underlying176
 a50 := Tryz.isAgg176
 z50 := Tryz.sizeOf176
 v50 := Tryz.zeroValue176
 t53 := Tryz.underlying272
 a53 := Tryz.isAgg272
 z53 := Tryz.sizeOf272
 v53 := Tryz.zeroValue272
 t55 := Tryz.underlying275
 a55 := Tryz.isAgg275
 z55 := Tryz.sizeOf275
 v55 := Tryz.zeroValue275
 t66 := Tryz.underlying328
 a66 := Tryz.isAgg328
 z66 := Tryz.sizeOf328
 v66 := Tryz.zeroValue328
 t70 := Tryz.underlying332
 a70 := Tryz.isAgg332
 z70 := Tryz.sizeOf332
 v70 := Tryz.zeroValue332
 t76 := Tryz.underlying357
 a76 := Tryz.isAgg357
 z76 := Tryz.sizeOf357
 v76 := Tryz.zeroValue357
 t77 := Tryz.underlying358
 a77 := Tryz.isAgg358
 z77 := Tryz.sizeOf358
 v77 := Tryz.zeroValue358 }
def Tryz.sortC_ren : Go.Shelf.Ren := ⟨fun | 6 => 88 | 15 => 98 | 14 => 191 | 28 => 206 | 29 => 207 | 20 => 252 | 21 => 253 | 22 => 254 | 23 => 255 | 24 => 256 | 25 => 257 | 26 => 258 | 27 => 259 | 46 => 286 | 47 => 262 | 48 => 263 | 49 => 287 | 50 => 288 | 57 => 306 | n => n, fun | 22 => 158 | 24 => 34 | 25 => 163 | 3 => 3 | 39 => 147 | 0 => 0 | 53 => 272 | 55 => 275 | 4 => 4 | 46 => 292 | 45 => 291 | 50 => 176 | 5 => 5 | 9 => 9 | 66 => 328 | 70 => 332 | 76 => 357 | 77 => 358 | n => n, fun | n => n⟩
theorem Tryz.sortC : Go.Proofs.SlLaysF0.n6 Tryz.prog Tryz.sortC_ren := {
 mixed := by kernel_rfl
 f6 := ⟨Tryz.f88.name, by decide, Tryz.func88.trans (congrArg some (by kernel_rfl))⟩
 f14 := ⟨Tryz.f191.name, by decide, Tryz.func191.trans (congrArg some (by kernel_rfl))⟩
 f15 := Tryz.func98.trans (congrArg some (by kernel_rfl))
 f20 := ⟨Tryz.f252.name, by decide, Tryz.func252.trans (congrArg some (by kernel_rfl))⟩
 f21 := ⟨Tryz.f253.name, by decide, Tryz.func253.trans (congrArg some (by kernel_rfl))⟩
 f22 := ⟨Tryz.f254.name, by decide, Tryz.func254.trans (congrArg some (by kernel_rfl))⟩
 f23 := ⟨Tryz.f255.name, by decide, Tryz.func255.trans (congrArg some (by kernel_rfl))⟩
 f24 := ⟨Tryz.f256.name, by decide, Tryz.func256.trans (congrArg some (by kernel_rfl))⟩
 f25 := ⟨Tryz.f257.name, by decide, Tryz.func257.trans (congrArg some (by kernel_rfl))⟩
 f26 := ⟨Tryz.f258.name, by decide, Tryz.func258.trans (congrArg some (by kernel_rfl))⟩
 f27 := ⟨Tryz.f259.name, by decide, Tryz.func259.trans (congrArg some (by kernel_rfl))⟩
 f28 := Tryz.func206.trans (congrArg some (by kernel_rfl))
 f29 := Tryz.func207.trans (congrArg some (by kernel_rfl))
 f46 := ⟨Tryz.f286.name, by decide, Tryz.func286.trans (congrArg some (by kernel_rfl))⟩
 f47 := Tryz.func262.trans (congrArg some (by kernel_rfl))
 f48 := Tryz.func263.trans (congrArg some (by kernel_rfl))
 f49 := ⟨Tryz.f287.name, by decide, Tryz.func287.trans (congrArg some (by kernel_rfl))⟩
 f50 := ⟨Tryz.f288.name, by decide, Tryz.func288.trans (congrArg some (by kernel_rfl))⟩
 f57 := ⟨Tryz.f306.name, by decide, Tryz.func306.trans (congrArg some (by kernel_rfl))⟩
 t0 := Tryz.underlying0
 a0 := Tryz.isAgg0
 z0 := Tryz.sizeOf0
 v0 := Tryz.zeroValue0
 t3 := Tryz.underlying3
 a3 := Tryz.isAgg3
 z3 := Tryz.sizeOf3
 v3 := Tryz.zeroValue3
 t4 := Tryz.underlying4
 a4 := Tryz.isAgg4
 z4 := Tryz.sizeOf4
 v4 := Tryz.zeroValue4
 t5 := Tryz.underlying5
 a5 := Tryz.isAgg5
 z5 := Tryz.sizeOf5
 v5 := Tryz.zeroValue5
 t9 := Tryz.underlying9
 a9 := Tryz.isAgg9
 z9 := Tryz.sizeOf9
 v9 := Tryz.zeroValue9
 t22 := Tryz.underlying158
 a22 := Tryz.isAgg158
 z22 := Tryz.sizeOf158
 v22 := Tryz.zeroValue158
 t25 := Tryz.underlying163
 a25 := Tryz.isAgg163
 z25 := Tryz.sizeOf163
 v25 := Tryz.zeroValue163
 t39 := Tryz.underlying147
 a39 := Tryz.isAgg147
 z39 := Tryz.sizeOf147
 v39 := Tryz.zeroValue147
 t45 := Tryz.underlying291
 a45 := Tryz.isAgg291
 z45 := Tryz.sizeOf291
 v45 := Tryz.zeroValue291
 t46 := Tryz.underlying292
 a46 := Tryz.isAgg292
 z46 := Tryz.sizeOf292
 v46 := Tryz.zeroValue292
 t50 := Tryz.underlying176
 a50 := Tryz.isAgg176
 z50 := Tryz.sizeOf176
 v50 := Tryz.zeroValue176
 t53 := Tryz.underlying272
 a53 := Tryz.isAgg272
 z53 := Tryz.sizeOf272
 v53 := Tryz.zeroValue272
 t55 := Tryz.underlying275
 a55 := Tryz.isAgg275
 z55 := Tryz.sizeOf275
 v55 := Tryz.zeroValue275
 t66 := Tryz.underlying328
 a66 := Tryz.isAgg328
 z66 := Tryz.sizeOf328
 v66 := Tryz.zeroValue328
 t70 := Tryz.underlying332
 a70 := Tryz.isAgg332
 z70 := Tryz.sizeOf332
 v70 := Tryz.zeroValue332
 t76 := Tryz.underlying357
 a76 := Tryz.isAgg357
 z76 := Tryz.sizeOf357
 v76 := Tryz.zeroValue357
 t77 := Tryz.underlying358
 a77 := Tryz.isAgg358
 z77 := Tryz.sizeOf358
 v77 := Tryz.zeroValue358 }
end Go.Proofs

namespace Go.Proofs.YtgmiihmahaahiaaGreatDoor
open Go.RowKit Go.Lp Go.Sy Go.Sort
open Go.Proofs.Tryz
attribute [local irreducible] aL aB awp aC fwp
theorem ltOf_cmpC (p q : GCulprit) : ltOf cmpC p q = decide (ltC p q) := by
 unfold ltOf; rw [Bool.eq_iff_iff, decide_eq_true_eq, decide_eq_true_eq, cmpC_neg]
theorem swo_cmpC : SWO (ltOf cmpC) where
 irrefl x := by rw [ltOf_cmpC, decide_eq_false_iff_not]; exact ltC_irr x
 trans x y z h1 h2 := by rw [ltOf_cmpC, decide_eq_true_eq] at *; exact ltC_trans h1 h2
 ntrans x y z h1 h2 := by
   rw [ltOf_cmpC, decide_eq_false_iff_not] at *
   unfold ltC at *; omega
theorem con_sortC (v : Value) (zs : List GCulprit) (hz : zs.length ≤ 1000) : Con Tryz.prog 88 [v, .func (.func 89) #[] #[]] [] [OwnS v 34 2 (zs.map GCulprit.row)]
   fun _ ps hp => ps = [] ∧ ∃ q : List GCulprit, q.Perm zs ∧ (q.Pairwise fun a b => ¬ ltC b a) ∧ hp = [OwnS v 34 2 (q.map GCulprit.row)] :=
 (con_sortK (enc := GCulprit.vs) Tryz.sortC (by decide) Tryz.isAgg34 Tryz.sizeOf34 (fun _ => rfl) (fun x v hv => by simp at hv; rcases hv with rfl | rfl <;> rfl) cmpC swo_cmpC 89 (by kernel_rfl) (fun x y => con_before x y) (T := 34) (v := v) zs (by omega)).post
   fun _ _ _ ⟨h1, q, h2, h3, h4⟩ => ⟨h1, q, h2, h3.imp fun h => by rw [cmpC_neg] at h; exact h, h4⟩
section
variable {kp : List (Sl Bool)} {L : List Dfn}
structure MInv (kp : List (Sl Bool)) (L : List Dfn) (seen : List ByteArray) (mM : ByteArray → Option GCulprit) (fa : GCulprit × Bool) : Prop where
 got : ∀ n ∈ seen, mM n = (mainL kp L n)[0]?.map (·.p)
 not : ∀ n, n ∉ seen → mM n = none
 tw : fa.2 = true → ∃ n ∈ seen, ∃ d, (mainL kp L n)[1]? = some d ∧ fa.1 = d.p
 lo : ∀ n ∈ seen, ∀ d, (mainL kp L n)[1]? = some d → fa.2 = true ∧ ¬ ltC d.p fa.1
theorem MInv.start {fa : GCulprit × Bool} (h : fa.2 = false) : MInv kp L [] (fun _ => none) fa := ⟨fun _ h => (by cases h), fun _ _ => rfl, fun h2 => (by rw [h] at h2; cases h2), fun _ h => by cases h⟩
theorem MInv.step {seen : List ByteArray} {mM : ByteArray → Option GCulprit} {fa : GCulprit × Bool} (h : MInv kp L seen mM fa) {n : ByteArray} (hn : n ∉ seen) {mM' : ByteArray → Option GCulprit} {fa' : GCulprit × Bool}
   (hm : mM' = match (mainL kp L n)[0]? with | some d => mput mM n d.p | none => mM) (hf : fa' = match (mainL kp L n)[1]? with | some d => leastF fa d.p | none => fa) : MInv kp L (n :: seen) mM' fa' where
 got a ha := by
   rw [hm]
   rcases List.mem_cons.1 ha with rfl | ha
   · cases h0 : (mainL kp L a)[0]? with
     | none => exact h.not a hn
     | some d => exact mput_at _ _ _
   · have hne : a ≠ n := fun e => hn (e ▸ ha)
     cases h0 : (mainL kp L n)[0]? with
     | none => exact h.got a ha
     | some d => exact (mput_ne _ _ hne).trans (h.got a ha)
 not a ha := by
   rw [hm]
   have hne : a ≠ n := fun e => ha (e ▸ List.mem_cons_self)
   have h2 := h.not a fun h => ha (List.mem_cons_of_mem _ h)
   cases h0 : (mainL kp L n)[0]? with
   | none => exact h2
   | some d => exact (mput_ne _ _ hne).trans h2
 tw hb := by
   rw [hf] at hb ⊢
   cases h1 : (mainL kp L n)[1]? with
   | none =>
     rw [h1] at hb
     obtain ⟨a, ha, d, h2, h3⟩ := h.tw hb
     exact ⟨a, List.mem_cons_of_mem _ ha, d, h2, h3⟩
   | some d =>
     unfold leastF
     dsimp only
     split
     · exact ⟨n, List.mem_cons_self, d, h1, rfl⟩
     · rename_i hno
       have hb2 : fa.2 = true := by
         cases hb3 : fa.2 with
         | true => rfl
         | false => exact (hno (.inl hb3)).elim
       obtain ⟨a, ha, d2, h2, h3⟩ := h.tw hb2
       exact ⟨a, List.mem_cons_of_mem _ ha, d2, h2, h3⟩
 lo a ha d hd := by
   rw [hf]
   have old : ∀ p : GCulprit, fa.2 = true → ¬ ltC p fa.1 → ∀ q : GCulprit, (leastF fa q).2 = true ∧ ¬ ltC p (leastF fa q).1 := fun p hb hp q => by
     unfold leastF
     split
     · rename_i hc
       refine ⟨rfl, fun hlt => ?_⟩
       rcases hc with hc | hc
       · rw [hb] at hc; cases hc
       · exact hp (ltC_trans hlt hc)
     · exact ⟨hb, hp⟩
   rcases List.mem_cons.1 ha with rfl | ha
   · rw [hd]
     dsimp only
     unfold leastF
     split
     · exact ⟨rfl, ltC_irr _⟩
     · rename_i hno
       refine ⟨?_, fun hlt => hno (.inr hlt)⟩
       cases hb3 : fa.2 with
       | true => rfl
       | false => exact (hno (.inl hb3)).elim
   · obtain ⟨h1, h2⟩ := h.lo a ha d hd
     cases h3 : (mainL kp L n)[1]? with
     | none => exact ⟨h1, h2⟩
     | some d2 => exact old _ h1 h2 _
theorem MInv.fin {seen : List ByteArray} {mM : ByteArray → Option GCulprit} {fa : GCulprit × Bool} (h : MInv kp L seen mM fa) (hA : Asc L) (hall : ∀ n, n ∉ seen → mainL kp L n = []) :
   twice2 kp L = (if fa.2 = true then some fa.1 else none) ∧ ∀ n, mM n = (mainL kp L n).head?.map (·.p) := by
 refine ⟨?_, fun n => ?_⟩
 · cases hb : fa.2 with
   | true =>
     obtain ⟨n, hn, d, h1, h2⟩ := h.tw hb
     rw [if_pos rfl, h2]
     refine twice2_some hA h1 fun n2 d2 h3 => ?_
     by_cases hs : n2 ∈ seen
     · rw [← h2]; exact (h.lo n2 hs d2 h3).2
     · rw [hall n2 hs] at h3; cases h3
   | false =>
     rw [if_neg (by decide)]
     refine twice2_none hA fun n => ?_
     by_cases hs : n ∈ seen
     · cases h1 : (mainL kp L n)[1]? with
       | none => rfl
       | some d => have := (h.lo n hs d h1).1; rw [hb] at this; cases this
     · rw [hall n hs]; rfl
 · by_cases hs : n ∈ seen
   · rw [h.got n hs, List.head?_eq_getElem?]
   · rw [h.not n hs, hall n hs]; rfl
theorem mainL_none (hA : Asc L) {n : ByteArray} (h : namesK kp L n = []) : mainL kp L n = [] := by
 apply List.eq_nil_iff_forall_not_mem.2
 intro d hd
 have : d.p ∈ (mainL kp L n).map (·.p) := List.mem_map_of_mem hd
 rw [← mainP_mem hA, h] at this
 simp [mainP] at this
end
def collE (kp : List (Sl Bool)) (L : List Dfn) : Option GCulprit := (twiceK kp L).or (twice2 kp L)
theorem con_collEach (x : RLink) (hok : RsOk x.objs.l x.kp.l) (lb b1 a b : Nat) : Con Tryz.prog 36 [.pointer (some ⟨lb, 0, none⟩), .func (.func 84) #[] #[.pointer (some ⟨b1, 0, none⟩), .pointer (some ⟨a, 0, none⟩), .pointer (some ⟨b, 0, none⟩)]]
   [At b1 0 [.v (.pointer (some ⟨lb, 0, none⟩))], At lb 0 x.row, x.ok] (cRes x a b [] ⟨fun _ => none, fun _ => none, (⟨0, 0⟩, false)⟩) fun _ ps hp => ps = [] ∧ ∃ st, CInv x.kp.l (flatF x.objs.l) st ∧ hp = cRes x a b (flatF x.objs.l) st := by
 refine (con_exlist (I := CInv x.kp.l []) (I' := CInv x.kp.l (flatF x.objs.l)) (l := cRes x a b []) (l' := cRes x a b (flatF x.objs.l)) (x := ⟨fun _ => none, fun _ => none, (⟨0, 0⟩, false)⟩)
   ((con_each x hok.n hok.sy lb 84 [.pointer (some ⟨b1, 0, none⟩), .pointer (some ⟨a, 0, none⟩), .pointer (some ⟨b, 0, none⟩)] (AndP (At b1 0 [.v (.pointer (some ⟨lb, 0, none⟩))]) (AndP (At lb 0 x.row) x.ok)) (fun L => AnyR (CInv x.kp.l L) (cRes x a b L)) (by kernel_rfl)
     fun L d hd hl hp => con_exbun fun st hst => (con_coll1 x hok lb b1 a b L d hd hl hp st hst).pre fun p hp => ?_).pre fun p hp => ?_) ⟨fun _ => rfl, fun _ => rfl, rfl⟩)
 · simp only [List.mem_cons, List.not_mem_nil, or_false] at hp
   rcases hp with rfl | rfl | rfl
   · exact (Ent.of (List.mem_singleton.2 rfl)).left
   · exact (Ent.of (List.mem_singleton.2 rfl)).right.left
   · exact (Ent.of (List.mem_singleton.2 rfl)).right.right
 · simp only [List.mem_cons, List.not_mem_nil, or_false] at hp
   rcases hp with rfl | rfl | rfl
   · exact .of (psAt 1 rfl)
   · exact .of (psAt 2 rfl)
   · exact .mk2 (.of (psAt 0 rfl)) (.mk2 (.of (psAt 1 rfl)) (.of (psAt 2 rfl)))
theorem flat_le {os : List GObject} {kp : List (Sl Bool)} (hok : RsOk os kp) : (flatF os).length ≤ 70 := by
 have hfl : ∀ i, i ≤ os.length → (flatTo os i).length ≤ 14 * i := fun i => by
   induction i with
   | zero => intro _; exact Nat.le_refl _
   | succ i ih =>
     intro hi
     rw [flatTo_succ, List.length_append]
     have h1 := ih (by omega)
     have h2 := hok.sy _ (List.mem_of_getElem? (elt_nat (l := os) (i := i) (by omega)))
     have h3 : (rowD (i : Int) (elt os (i : Int)).syms.l).length = (elt os (i : Int)).syms.l.length := by unfold rowD; simp
     omega
 have := hfl _ (Nat.le_refl _)
 have := hok.n
 unfold flatF; omega
theorem con_collect (x : RLink) (hok : RsOk x.objs.l x.kp.l) (lb : Nat) : Con Tryz.prog 35 [.pointer (some ⟨lb, 0, none⟩)] [At lb 0 x.row, x.ok]
   [MapR x.ball kPair slV (fun _ => none : RKey → Option (Sl GCulprit)), Pool 34 2 GCulprit.row (fun _ => none : RKey → Option (Sl GCulprit)), MapR x.bch kPair GCulprit.val (chP x.kp.l []), MapR x.bnm kStr slV (fun _ => none : ByteArray → Option (Sl RKey)), Pool 157 2 keyR (fun _ => none : ByteArray → Option (Sl RKey)), MapR x.bmn kStr GCulprit.val (fun _ => none : ByteArray → Option GCulprit)]
   fun r ps hp => ps = [] ∧ ∃ (st : CS) (at_ : GCulprit) (mM : ByteArray → Option GCulprit), CInv x.kp.l (flatF x.objs.l) st ∧ r = .tuple #[.int .i64 (if (collE x.kp.l (flatF x.objs.l)).isSome then 4 else 0), at_.val] ∧ (∀ p, collE x.kp.l (flatF x.objs.l) = some p → at_ = p) ∧
     (collE x.kp.l (flatF x.objs.l) = none → ∀ n, mM n = (mainL x.kp.l (flatF x.objs.l) n).head?.map (·.p)) ∧
     hp = [MapR x.ball kPair slV st.mA, Pool 34 2 GCulprit.row st.mA, MapR x.bch kPair GCulprit.val (chP x.kp.l (flatF x.objs.l)), MapR x.bnm kStr slV st.mN, Pool 157 2 keyR st.mN, MapR x.bmn kStr GCulprit.val mM] := by
 have hA : Asc (flatF x.objs.l) := flatTo_asc _ _
 have hfl : (flatF x.objs.l).length ≤ 70 := flat_le hok
 generalize hL : flatF x.objs.l = L at hA hfl
 have hin : ∀ e ∈ L, InD x.objs.l e := fun e he => by rw [← inD_iff, hL]; exact he
 refine Con.enter Tryz.func35 rfl (by simp [Tryz.ntmps35]) ?_
 show awp _ _ _ _ ⟨[(0, true, _)], _, _⟩
 refine aSR ?_
 refine aL_eff (q := true) rfl (x_box rfl rfl rfl (fun b0_0 => ?_))
 refine aL_hp (by (try simp only [nM, nN]); rfl) ?_
 refine aA rfl ?_
 refine aL_eff (q := true) rfl (x_alloc (zs := [.int .i64 0, .int .i64 0]) (by kernel_rfl) rfl (fun b0_2 => ?_))
 refine aL_hp (by (try simp only [nM, nN]); rfl) ?_
 refine aNn (aSR ?_)
 refine aL_eff (q := true) rfl (x_alloc (zs := [.int .i64 0, .int .i64 0]) (by kernel_rfl) rfl (fun b1_0 => ?_))
 refine aL_hp (by (try simp only [nM, nN]); rfl) ?_
 refine aNn (aSR ?_)
 refine aL_eff (q := true) rfl (x_alloc (zs := [.bool false]) (by kernel_rfl) rfl (fun b2_0 => ?_))
 refine aL_hp (by (try simp only [nM, nN]); rfl) ?_
 refine aL_eff rfl (x_store 9 tk4 rfl rfl rfl rfl ?_)
 refine aL_hp (by (try simp only [nK, nL]); rfl) ?_
 refine aNs (awp_shareB 6 rfl rfl ?_)
 show awp _ _ _ _ ⟨_, At _ 0 _ :: _, _⟩
 refine awp_region (aU rfl (q_loadDE (o := 0) tk101 rfl (.of (psAt 0 rfl)) rfl) (aU rfl (q_func (l := [.tmp 1, .tmp 4, .tmp 5]) rfl) ?_))
 refine aL_eff (q := false) rfl (e_call [2, 1, 0] [0, 1, 2, 3, 4, 8, 9] (by kernel_rfl) rfl rfl rfl rfl (con_collEach x hok lb b0_0 b1_0 b2_0) ?_)
 rintro _ _ _ ⟨rfl, st, hI, rfl⟩
 refine aL_st (by (try simp only [nM, nN]); rfl) (by (try simp only [putB, place, Nat.reduceBEq, if_true, if_false, reduceIte, Nat.reduceAdd, nW]); rfl) ?_
 refine aNs (awp_seq ?_)
 rw [hL] at hI
 rw [hL]
 refine awp_region (aU rfl (q_load 9 tk4 rfl rfl rfl) (aNn ?_))
 refine awp_cond _ rfl (fun h1 => ?_) (fun h1 => ?_)
 ·skip
  have hce : collE x.kp.l L = some st.fa.1 := by unfold collE; rw [hI.tw, if_pos h1]; rfl
  refine awp_seq ?_
  refine awp_drawn [2] (by kernel_rfl) ?_
  show aB _ _ _ _ _ 3 #[false, false, false] _
  refine bU 0 rfl (by kernel_rfl) rfl (q_load 8 tk34 rfl rfl rfl) ?_
  refine bU 1 rfl (by kernel_rfl) rfl (q_assign rfl) ?_
  refine aB_eff 2 rfl (by kernel_rfl) rfl rfl (x_store 7 tk34 rfl rfl rfl rfl ?_)
  refine aB_st rfl (by (try simp only [nM, nN]); rfl) (by (try simp only [putB, place, Nat.reduceBEq, if_true, if_false, reduceIte, Nat.reduceAdd, nW]); rfl) ?_
  refine aB_nil (by kernel_rfl) ?_
  refine thn_n (awp_ret (thn_r ?_))
  refine finR2 [] [0, 1, 2, 3, 4, 5] rfl Tryz.results35 (rv_tmp rfl) (rv_cell 7 tk34 rfl rfl rfl) ?_ (.inr rfl)
  exact ⟨rfl, st, st.fa.1, fun _ => none, hI, by rw [hce]; rfl, (fun p hp => by rw [hce] at hp; exact Option.some.inj hp), (fun h => by rw [hce] at h; cases h), rfl⟩
 ·skip
  have htw : twiceK x.kp.l L = none := by rw [hI.tw, if_neg (by rw [h1]; decide)]
  have hst0 : MInv x.kp.l L [] (fun _ => none) st.fa := .start (by cases hb : st.fa.2 with | false => rfl | true => rw [hb] at h1; cases h1)
  have hlN : ∀ n, ((getS st.mN n).l).length ≤ 70 := fun n => by rw [hI.names]; have := namesK_le (kp := x.kp.l) L n; omega
  refine awp_skip (thn_n (awp_seq (aSR (aU rfl (q_loadDE (o := 0) tk101 rfl (.of (psAt 0 rfl)) rfl) (aU rfl (q_nilCheck rfl) ?_)))))
  refine aU rfl (q_fieldAddr (off := 7) (by kernel_rfl) rfl) ?_
  refine aU rfl (q_loadDE (o := 7) tk104 rfl (.of (psAt 1 rfl)) rfl) ?_
  refine aL_eff rfl (e_range 3 Tryz.underlying104 rfl rfl rfl (fun r6_4 N6_4 => ?_))
  refine aL_hp (by (try simp only [nK, nL]); rfl) ?_
  refine aNn (awp_block ?_)
  refine awp_loopK [1, 3, 4, 5, 21] [2, 1, 0] [0, 1, 2, 3, 4, 5, 7, 8, 9] (fun (q : List ByteArray × (ByteArray → Option GCulprit) × (GCulprit × Bool)) s => MInv x.kp.l L q.1 q.2.1 q.2.2 ∧ s = ⟨[(1, true, .pointer (some ⟨b0_0, 0, none⟩)), (3, true, .pointer (some ⟨b0_2, 0, none⟩)), (4, true, .pointer (some ⟨b1_0, 0, none⟩)), (5, true, .pointer (some ⟨b2_0, 0, none⟩)), (21, true, .pointer (some ⟨r6_4, 0, none⟩))], [At b0_0 0 [.v (.pointer (some ⟨lb, 0, none⟩))], At lb 0 x.row, x.ok],
    [MapR x.ball kPair slV st.mA, Pool 34 2 GCulprit.row st.mA, MapR x.bch kPair GCulprit.val (chP x.kp.l L), ItR x.bnm r6_4 kStr slV st.mN N6_4 q.1, Pool 157 2 keyR st.mN, MapR x.bmn kStr GCulprit.val q.2.1, Box b0_2 34 [.int .i64 0, .int .i64 0], Box b1_0 34 q.2.2.1.vs, Box b2_0 4 [.bool q.2.2.2]]⟩) (fun q => N6_4 - q.1.length) rfl (⟨([], fun _ => none, st.fa), hst0, rfl⟩) ?_
  rintro ⟨seen, mM, fa⟩ s ⟨hM, rfl⟩
  dsimp only at hM
  refine aSR ?_
  refine aL_eff rfl (e_next 3 (kyT) rfl rfl rfl (fun hend7 => ?_) (fun ka7 va7 hm7 hns7 hlt7 => ?_))
  ·skip
   refine aU rfl (q_extract rfl rfl) (aNs ?_)
   refine awp_cond _ rfl (fun h => absurd h (by decide)) (fun _ => ?_)
   refine awp_exit (thn_e (thn_e (blk_hit (thn_n (awp_seq (awp_seq ?_))))))
   have hfin := MInv.fin hM hA (fun n hn => mainL_none hA (by
     rw [← hI.names n]
     unfold getS
     cases hc : st.mN n with
     | none => rfl
     | some v => exact (hn (hend7 n v hc)).elim))
   refine awp_itMap 3 rfl (fun J => ?_)
   refine awp_region (aU rfl (q_load 8 tk4 rfl rfl rfl) (aNn ?_))
   refine awp_cond _ rfl (fun h2 => ?_) (fun h2 => ?_)
   ·skip
    have hce : collE x.kp.l L = some fa.1 := by unfold collE; rw [htw, hfin.1, if_pos h2]; rfl
    refine awp_seq ?_
    refine awp_drawn [2] (by kernel_rfl) ?_
    show aB _ _ _ _ _ 3 #[false, false, false] _
    refine bU 0 rfl (by kernel_rfl) rfl (q_load 7 tk34 rfl rfl rfl) ?_
    refine bU 1 rfl (by kernel_rfl) rfl (q_assign rfl) ?_
    refine aB_eff 2 rfl (by kernel_rfl) rfl rfl (x_store 6 tk34 rfl rfl rfl rfl ?_)
    refine aB_st rfl (by (try simp only [nM, nN]); rfl) (by (try simp only [putB, place, Nat.reduceBEq, if_true, if_false, reduceIte, Nat.reduceAdd, nW]); rfl) ?_
    refine aB_nil (by kernel_rfl) ?_
    refine thn_n (awp_ret (thn_r ?_))
    refine finR2 [] [0, 1, 2, 3, 4, 5] rfl Tryz.results35 (rv_tmp rfl) (rv_cell 6 tk34 rfl rfl rfl) ?_ (.inr rfl)
    exact ⟨rfl, st, fa.1, mM, hI, by rw [hce]; rfl, (fun p hp => by rw [hce] at hp; exact Option.some.inj hp), (fun h => by rw [hce] at h; cases h), rfl⟩
   ·skip
    have hce : collE x.kp.l L = none := by unfold collE; rw [htw, hfin.1, if_neg (by rw [h2]; decide)]; rfl
    refine awp_skip (thn_n (awp_seq ?_))
    refine awp_drawn [2] (by kernel_rfl) ?_
    show aB _ _ _ _ _ 3 #[false, false, false] _
    refine bU 0 rfl (by kernel_rfl) rfl (q_load 7 tk34 rfl rfl rfl) ?_
    refine bU 1 rfl (by kernel_rfl) rfl (q_assign rfl) ?_
    refine aB_eff 2 rfl (by kernel_rfl) rfl rfl (x_store 6 tk34 rfl rfl rfl rfl ?_)
    refine aB_st rfl (by (try simp only [nM, nN]); rfl) (by (try simp only [putB, place, Nat.reduceBEq, if_true, if_false, reduceIte, Nat.reduceAdd, nW]); rfl) ?_
    refine aB_nil (by kernel_rfl) ?_
    refine thn_n (awp_ret ?_)
    refine finR2 [] [0, 1, 2, 3, 4, 5] rfl Tryz.results35 (rv_tmp rfl) (rv_cell 6 tk34 rfl rfl rfl) ?_ (.inr rfl)
    exact ⟨rfl, st, fa.1, mM, hI, by rw [hce]; rfl, (fun p hp => by rw [hce] at hp; cases hp), (fun _ => hfin.2), rfl⟩
  ·skip
   refine aL_hp (by (try simp only [nK, nL]); rfl) ?_
   refine aU rfl (q_extract rfl rfl) (aNs ?_)
   refine awp_cond _ rfl (fun _ => ?_) (fun h => absurd h (by decide))
   refine awp_skip (thn_n (awp_block (aSR (aU rfl (q_entry 3 (kyT) rfl rfl (hm7)) (aU rfl (q_extract rfl rfl) (aU rfl (q_extract rfl rfl) (aA rfl (aA rfl (aNs ?_)))))))))
   have hg : getS st.mN ka7 = va7 := by unfold getS; rw [hm7]; rfl
   have hnm : va7.l = namesK x.kp.l L ka7 := by rw [← hg]; exact hI.names ka7
   have hvl : va7.l.length ≤ 70 := by rw [← hg]; exact hlN ka7
   refine awp_take (row := keyR) 4 ka7 rfl ?_
   rw [hg]
   refine awp_region (aA rfl (aNs (awp_seq (awp_nil 34 2 ?_))))
   show awp _ _ _ _ ⟨_, _, [_, _, _, _, _, _, _, _, _, _, _]⟩
   refine awp_region (aM rfl (aU rfl (q_lenS Tryz.underlying159 rfl) (aM rfl (aNn (awp_block ?_)))))
   refine awp_loopK [1, 3, 4, 5, 6, 8, 21, 27, 28, 29] [2, 1, 0] [0, 1, 2, 3, 4, 5, 6, 7, 8, 9, 10] (fun (q : Nat × Value) s => q.1 ≤ va7.l.length ∧ s = ⟨[(1, true, .pointer (some ⟨b0_0, 0, none⟩)), (3, true, .pointer (some ⟨b0_2, 0, none⟩)), (4, true, .pointer (some ⟨b1_0, 0, none⟩)), (5, true, .pointer (some ⟨b2_0, 0, none⟩)), (6, true, .string ka7), (8, true, q.2), (21, true, .pointer (some ⟨r6_4, 0, none⟩)), (27, true, slV va7), (28, true, .int .i64 va7.l.length), (29, true, .int .i64 q.1)], [At b0_0 0 [.v (.pointer (some ⟨lb, 0, none⟩))], At lb 0 x.row, x.ok],
     [MapR x.ball kPair slV st.mA, Pool 34 2 GCulprit.row st.mA, MapR x.bch kPair GCulprit.val (chP x.kp.l L), ItR x.bnm r6_4 kStr slV st.mN N6_4 (ka7 :: seen), Pool 157 2 keyR (mdel st.mN ka7), MapR x.bmn kStr GCulprit.val mM, Box b0_2 34 [.int .i64 0, .int .i64 0], Box b1_0 34 fa.1.vs, Box b2_0 4 [.bool fa.2], OwnS (slV va7) 157 2 (va7.l.map keyR), OwnS q.2 34 2 ((mainP x.kp.l L (va7.l.take q.1)).map GCulprit.row)]⟩) (fun q => va7.l.length - q.1) rfl (⟨(0, _), Nat.zero_le _, rfl⟩) ?_
   rintro ⟨j, v⟩ s ⟨hj, rfl⟩
   dsimp only at hj
   refine aSR (aU rfl (q_lss rfl rfl) (aNs ?_))
   refine awp_cond _ rfl (fun h3 => ?_) (fun h3 => ?_)
   ·skip
    have hj' : j < va7.l.length := by simp at h3; omega
    obtain ⟨kk, hkk⟩ : ∃ kk, va7.l[j]? = some kk := ⟨_, List.getElem?_eq_getElem hj'⟩
    obtain ⟨ee, hee⟩ : ∃ ee, chosenK x.kp.l L kk = some ee := by
      cases hc : chosenK x.kp.l L kk with
      | some ee => exact ⟨ee, rfl⟩
      | none => exact ((namesK_mem.1 (by rw [← hnm]; exact List.mem_of_getElem? hkk)).1 (chosenK_none.1 hc)).elim
    have hmp := mainP_le (kp := x.kp.l) L (va7.l.take j)
    rw [List.length_take] at hmp
    refine awp_skip (thn_n (awp_seq (awp_block (aSR ?_))))
    refine aU rfl (q_idxO 9 j el159 rfl rfl rfl rfl (by rw [List.length_map]; exact hj')) ?_
    refine aU rfl (q_loadO 9 j 0 tk157 rfl rfl (rows_get hkk) rfl rfl) ?_
    refine aL_eff (q := true) rfl (x_alloc (zs := [.string .empty, .string .empty]) (by kernel_rfl) rfl (fun b12_2 => ?_))
    refine aL_hp (by (try simp only [nM, nN]); rfl) ?_
    refine aL_eff rfl (x_store 11 tk157 rfl rfl rfl rfl ?_)
    refine aL_hp (by (try simp only [nK, nL]); rfl) ?_
    refine aNs ?_
    refine awp_drawn [7] (by kernel_rfl) ?_
    show aB _ _ _ _ _ 8 #[false, false, false, false, false, false, false, false] _
    refine bU 0 rfl (by kernel_rfl) rfl (q_loadDE (o := 0) tk101 rfl (.of (psAt 0 rfl)) rfl) ?_
    refine bU 1 rfl (by kernel_rfl) rfl (q_nilCheck rfl) ?_
    refine bU 2 rfl (by kernel_rfl) rfl (q_fieldAddr (off := 6) (by kernel_rfl) rfl) ?_
    refine bU 3 rfl (by kernel_rfl) rfl (q_loadDE (o := 6) tk103 rfl (.of (psAt 1 rfl)) rfl) ?_
    refine bU 4 rfl (by kernel_rfl) rfl (q_load 11 tk157 rfl rfl rfl) ?_
    refine bU 5 rfl (by kernel_rfl) rfl ((q_look (k := kk) (v0 := (⟨0, 0⟩ : GCulprit)) 2 Tryz.underlying103 (kyK) (by kernel_rfl) rfl rfl rfl).castV (v' := GCulprit.val ee.p) (congrArg GCulprit.val (by unfold chP; rw [hee]; rfl))) ?_
    refine aB_eff (q := true) 6 rfl (by kernel_rfl) rfl rfl (x_alloc (zs := [.int .i64 0, .int .i64 0]) (by kernel_rfl) rfl (fun b13_6 => ?_))
    refine aB_st rfl (by (try simp only [nM, nN]); rfl) (by (try simp only [putB, place, Nat.reduceBEq, if_true, if_false, reduceIte, Nat.reduceAdd, nW]); rfl) ?_
    refine aB_eff 7 rfl (by kernel_rfl) rfl rfl (x_store 12 tk34 rfl rfl rfl rfl ?_)
    refine aB_st rfl (by (try simp only [nM, nN]); rfl) (by (try simp only [putB, place, Nat.reduceBEq, if_true, if_false, reduceIte, Nat.reduceAdd, nW]); rfl) ?_
    refine aB_nil (by kernel_rfl) ?_
    refine thn_n (aSR ?_)
    refine aU rfl (q_fieldAddr (off := 1) (by kernel_rfl) rfl) ?_
    refine aU rfl (q_load 11 tk9 rfl rfl rfl) (aU rfl (qs_eqlD rfl rfl) (aM rfl (aG rfl rfl (fun hc => q_loadDE (o := 0) tk101 rfl (.of (psAt 0 rfl)) rfl) (aG rfl rfl (fun hc => q_load 12 tk34 rfl rfl rfl) ?_))))
    refine aG rfl rfl (fun hc => q_call (by kernel_rfl) (evs_cons (ev_yes rfl hc) (evs_cons (ev_yes rfl hc) rfl)) (fun w S fp hst => (con_sym x lb ee (hin ee (chosenK_mem hee).1)).quiet2 (psAt 1 rfl) (psAt 2 rfl) hst)) ?_
    refine aG rfl rfl (fun hc => q_fieldV (off := 2) (by kernel_rfl) (ev_yes rfl hc) rfl) ?_
    refine aU rfl (q_or rfl rfl (fun h => gf rfl h)) (aNn ?_)
    refine awp_cond _ rfl (fun h4 => ?_) (fun h4 => ?_)
    ·skip
     have hc4 : kk.2 = .empty ∨ ee.s.main = true := by
       rw [Bool.or_eq_true, decide_eq_true_eq] at h4; exact h4
     have hmp2 : mainP x.kp.l L (va7.l.take (j + 1)) = mainP x.kp.l L (va7.l.take j) ++ [ee.p] := by
       rw [List.take_add_one, hkk, Option.toList_some, mainP_snoc L _ kk hee, if_pos hc4]
     refine awp_region (aM rfl (aU rfl (q_load 12 tk34 rfl rfl rfl) ?_))
     refine aL_eff (q := true) rfl (w_lit (zs := [.int .i64 0, .int .i64 0]) (l := [(0, .tmp 49)]) el158 (by kernel_rfl) (by decide) (by decide) (by decide) rfl rfl rfl (.more rfl (.v rfl (.v rfl .nil)) .nil) rfl rfl (fun v15_2 => ?_))
     refine aL_hp (by (try simp only [nM, nN]); rfl) ?_
     refine aL_eff rfl (w_append 10 el158 rfl rfl rfl rfl (w_srcO 13 el158 rfl (by simp)) (by first | assumption | simp) (by show ((mainP x.kp.l L (va7.l.take j)).map GCulprit.row).length + 1 ≤ _; rw [List.length_map]; omega) (((mainP x.kp.l L (va7.l.take j)) ++ [ee.p]).length) (by show ((mainP x.kp.l L (va7.l.take j)).map GCulprit.row).length + 1 = _; rw [List.length_map, List.length_append]; rfl) (fun v15_3 c15_3 => ?_))
     refine aL_hp (by (try simp only [nK, nL]); rfl) ?_
     refine aA rfl (aL_nil (blk_n (thn_n (awp_region ?_))))
     refine aU rfl (q_addi rfl rfl (by omega)) ?_
     refine aM rfl (aNn ?_)
     refine ⟨[1, 3, 4, 5, 6, 8, 21, 27, 28, 29], [2, 1, 0], [0, 1, 2, 3, 4, 5, 6, 7, 8, 9, 10], rfl, ?_⟩
     exact ⟨(j + 1, _), ⟨by dsimp only; omega, by dsimp only; rw [hmp2, List.map_append]; rfl⟩, by dsimp only; omega⟩
    ·skip
     have hc4 : ¬ (kk.2 = .empty ∨ ee.s.main = true) := by
       rw [← decide_eq_true_eq (p := kk.2 = .empty), ← Bool.or_eq_true]; exact fun h => by rw [show (decide (kk.2 = ByteArray.empty) || ee.s.main) = false from h4] at h; cases h
     have hmp2 : mainP x.kp.l L (va7.l.take (j + 1)) = mainP x.kp.l L (va7.l.take j) := by
       rw [List.take_add_one, hkk, Option.toList_some, mainP_snoc L _ kk hee, if_neg hc4, List.append_nil]
     refine awp_skip (blk_n (thn_n (awp_region ?_)))
     refine aU rfl (q_addi rfl rfl (by omega)) ?_
     refine aM rfl (aNn ?_)
     refine ⟨[1, 3, 4, 5, 6, 8, 21, 27, 28, 29], [2, 1, 0], [0, 1, 2, 3, 4, 5, 6, 7, 8, 9, 10], rfl, ?_⟩
     exact ⟨(j + 1, _), ⟨by dsimp only; omega, by dsimp only; rw [hmp2]; rfl⟩, by dsimp only; omega⟩
   ·skip
    have hjl : j = va7.l.length := by simp at h3; omega
    have hmpl := mainP_le (kp := x.kp.l) L va7.l
    dsimp only
    rw [hjl, List.take_length]
    refine awp_exit (thn_e (thn_e (blk_hit (thn_n (aSR (aM rfl ?_))))))
    refine aL_eff (q := false) rfl (e_call [] [10] (by kernel_rfl) rfl rfl rfl rfl (con_sortC v (mainP x.kp.l L va7.l) (by omega)) ?_)
    rintro _ _ _ ⟨rfl, q, hqp, hqs, rfl⟩
    refine aL_st (by (try simp only [nM, nN]); rfl) (by (try simp only [putB, place, Nat.reduceBEq, if_true, if_false, reduceIte, Nat.reduceAdd, nW]); rfl) ?_
    refine aNs (awp_seq ?_)
    have hq : q = (mainL x.kp.l L ka7).map (·.p) := mainP_sorted hA (by rw [← hnm]; exact hqp) hqs
    refine awp_region (aM rfl (aU rfl (q_lenO 10 Tryz.underlying158 rfl rfl) (aU rfl (q_gtr rfl rfl) (aNn ?_))))
    refine awp_cond _ rfl (fun h5 => ?_) (fun h5 => ?_)
    ·skip
     obtain ⟨p1, hp1⟩ : ∃ p1, q[1]? = some p1 := ⟨_, List.getElem?_eq_getElem (by simp at h5; omega)⟩
     refine awp_region (aM rfl ?_)
     refine aU rfl (q_idxO 10 1 el158 rfl rfl rfl rfl (by rw [List.length_map]; exact (List.getElem?_eq_some_iff.1 hp1).1)) ?_
     refine aU rfl (q_loadO 10 1 0 tk34 rfl rfl (rows_get hp1) rfl rfl) ?_
     refine aL_eff (q := false) rfl (e_call [] [7, 8] (by kernel_rfl) rfl rfl rfl rfl (con_least b1_0 b2_0 fa p1) ?_)
     rintro _ _ _ ⟨rfl, rfl⟩
     refine aL_st (by (try simp only [nM, nN]); rfl) (by (try simp only [putB, place, Nat.reduceBEq, if_true, if_false, reduceIte, Nat.reduceAdd, nW]); rfl) ?_
     refine aNs (awp_put (row := keyR) 4 9 ka7 va7 rfl rfl rfl rfl (mdel_self _ _) rfl ?_)
     rw [mput_del, mput_same hm7]
     refine awp_region (aM rfl (aU rfl (q_lenO 10 Tryz.underlying158 rfl rfl) (aU rfl (q_gtr rfl rfl) (aNn ?_))))
     refine awp_cond _ rfl (fun h6 => ?_) (fun h6 => ?_)
     ·skip
      obtain ⟨p0, hp0⟩ : ∃ p0, q[0]? = some p0 := ⟨_, List.getElem?_eq_getElem (by simp at h6; omega)⟩
      refine awp_drawn [8] (by kernel_rfl) ?_
      show aB _ _ _ _ _ 9 #[false, false, false, false, false, false, false, false, false] _
      refine bU 0 rfl (by kernel_rfl) rfl (q_loadDE (o := 0) tk101 rfl (.of (psAt 0 rfl)) rfl) ?_
      refine bU 1 rfl (by kernel_rfl) rfl (q_nilCheck rfl) ?_
      refine bU 2 rfl (by kernel_rfl) rfl (q_fieldAddr (off := 8) (by kernel_rfl) rfl) ?_
      refine bU 3 rfl (by kernel_rfl) rfl (q_loadDE (o := 8) tk105 rfl (.of (psAt 1 rfl)) rfl) ?_
      refine bU 4 rfl (by kernel_rfl) rfl (q_move rfl) ?_
      refine bU 5 rfl (by kernel_rfl) rfl (q_move rfl) ?_
      refine bU 6 rfl (by kernel_rfl) rfl (q_idxO 10 0 el158 rfl rfl rfl rfl (by rw [List.length_map]; exact (List.getElem?_eq_some_iff.1 hp0).1)) ?_
      refine bU 7 rfl (by kernel_rfl) rfl (q_loadO 10 0 0 tk34 rfl rfl (rows_get hp0) rfl rfl) ?_
      refine aB_eff 8 rfl (by kernel_rfl) rfl rfl (e_mapUpdate (k := ka7) (v := p0) 5 Tryz.underlying105 (kyT) rfl rfl rfl rfl ?_)
      refine aB_st rfl (by (try simp only [nM, nN]); rfl) (by (try simp only [putB, place, Nat.reduceBEq, if_true, if_false, reduceIte, Nat.reduceAdd, nW]); rfl) ?_
      refine aB_nil (by kernel_rfl) ?_
      refine blk_n (thn_n ?_)
      refine ⟨[1, 3, 4, 5, 21], [2, 1, 0], [0, 1, 2, 3, 4, 5, 6, 7, 8], rfl, ?_⟩
      rw [hq, List.getElem?_map, Option.map_eq_some_iff] at hp0 hp1
      obtain ⟨d0, hd0, rfl⟩ := hp0
      obtain ⟨d1, hd1, rfl⟩ := hp1
      exact ⟨(ka7 :: seen, mput mM ka7 d0.p, leastF fa d1.p), ⟨hM.step hns7 (by rw [hd0]) (by rw [hd1]), rfl⟩, by dsimp only at hlt7 ⊢; rw [List.length_cons]; omega⟩
     ·skip
      exfalso; have := (List.getElem?_eq_some_iff.1 hp1).1; simp at h6; rw [h6] at this; simp at this
    ·skip
     refine awp_skip (thn_n (awp_seq (awp_put (row := keyR) 4 9 ka7 va7 rfl rfl rfl rfl (mdel_self _ _) rfl ?_)))
     rw [mput_del, mput_same hm7]
     refine awp_region (aM rfl (aU rfl (q_lenO 10 Tryz.underlying158 rfl rfl) (aU rfl (q_gtr rfl rfl) (aNn ?_))))
     refine awp_cond _ rfl (fun h7 => ?_) (fun h7 => ?_)
     ·skip
      obtain ⟨p0, hp0⟩ : ∃ p0, q[0]? = some p0 := ⟨_, List.getElem?_eq_getElem (by simp at h7; omega)⟩
      refine awp_drawn [8] (by kernel_rfl) ?_
      show aB _ _ _ _ _ 9 #[false, false, false, false, false, false, false, false, false] _
      refine bU 0 rfl (by kernel_rfl) rfl (q_loadDE (o := 0) tk101 rfl (.of (psAt 0 rfl)) rfl) ?_
      refine bU 1 rfl (by kernel_rfl) rfl (q_nilCheck rfl) ?_
      refine bU 2 rfl (by kernel_rfl) rfl (q_fieldAddr (off := 8) (by kernel_rfl) rfl) ?_
      refine bU 3 rfl (by kernel_rfl) rfl (q_loadDE (o := 8) tk105 rfl (.of (psAt 1 rfl)) rfl) ?_
      refine bU 4 rfl (by kernel_rfl) rfl (q_move rfl) ?_
      refine bU 5 rfl (by kernel_rfl) rfl (q_move rfl) ?_
      refine bU 6 rfl (by kernel_rfl) rfl (q_idxO 10 0 el158 rfl rfl rfl rfl (by rw [List.length_map]; exact (List.getElem?_eq_some_iff.1 hp0).1)) ?_
      refine bU 7 rfl (by kernel_rfl) rfl (q_loadO 10 0 0 tk34 rfl rfl (rows_get hp0) rfl rfl) ?_
      refine aB_eff 8 rfl (by kernel_rfl) rfl rfl (e_mapUpdate (k := ka7) (v := p0) 5 Tryz.underlying105 (kyT) rfl rfl rfl rfl ?_)
      refine aB_st rfl (by (try simp only [nM, nN]); rfl) (by (try simp only [putB, place, Nat.reduceBEq, if_true, if_false, reduceIte, Nat.reduceAdd, nW]); rfl) ?_
      refine aB_nil (by kernel_rfl) ?_
      refine blk_n (thn_n ?_)
      refine ⟨[1, 3, 4, 5, 21], [2, 1, 0], [0, 1, 2, 3, 4, 5, 6, 7, 8], rfl, ?_⟩
      have hn1 : (mainL x.kp.l L ka7)[1]? = none := List.getElem?_eq_none (by rw [hq, List.length_map] at h5; simp at h5; omega)
      rw [hq, List.getElem?_map, Option.map_eq_some_iff] at hp0
      obtain ⟨d0, hd0, rfl⟩ := hp0
      exact ⟨(ka7 :: seen, mput mM ka7 d0.p, fa), ⟨hM.step hns7 (by rw [hd0]) (by rw [hn1]), rfl⟩, by dsimp only at hlt7 ⊢; rw [List.length_cons]; omega⟩
     ·skip
      refine awp_skip (blk_n (thn_n ?_))
      refine ⟨[1, 3, 4, 5, 21], [2, 1, 0], [0, 1, 2, 3, 4, 5, 6, 7, 8], rfl, ?_⟩
      have hn1 : (mainL x.kp.l L ka7)[1]? = none := List.getElem?_eq_none (by rw [hq, List.length_map] at h5; simp at h5; omega)
      have hn0 : (mainL x.kp.l L ka7)[0]? = none := List.getElem?_eq_none (by rw [hq, List.length_map] at h7; simp at h7; rw [h7]; simp)
      exact ⟨(ka7 :: seen, mM, fa), ⟨hM.step hns7 (by rw [hn0]) (by rw [hn1]), rfl⟩, by dsimp only at hlt7 ⊢; rw [List.length_cons]; omega⟩
end Go.Proofs.YtgmiihmahaahiaaGreatDoor

