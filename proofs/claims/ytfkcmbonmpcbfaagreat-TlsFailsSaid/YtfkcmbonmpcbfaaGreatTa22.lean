/- Parts of the proof, in build order. No condition. -/
import Derived.Test.YtfkcmbonmpcbfaaGreatTa21
import Derived.Test.YtfkcmbonmpcbfaaGreatTa16
import Derived.Test.YtfkcmbonmpcbfaaGreatTa05
import Derived.Test.YtfkcmbonmpcbfaaGreatTa10
set_option linter.unusedSimpArgs false
set_option linter.unusedVariables false
set_option maxHeartbeats 1000000
set_option maxRecDepth 20000
namespace Go.Proofs.YtfkcmbonmpcbfaaGreat
open Go.RowKit Go.Lp Go.Sy Go.Lv Go.Sort
open Go.Proofs.Tryz
attribute [local irreducible] aL aB awp aC fwp Quiet
def sD(a b:bt):Int:=jO a.at_ b.at_
theorem jV(a b:bt):ltOf sD a b=decide (a.at_<b.at_):=by
 unfold ltOf sD
 exact decide_eq_decide.2 (kq _ _)
theorem zu:SWO (ltOf sD) where
 irrefl x:=by rw [jV,decide_eq_false_iff_not];omega
 trans x y z h1 h2:=by rw [jV,decide_eq_true_eq] at *;omega
 ntrans x y z h1 h2:=by
   rw [jV,decide_eq_false_iff_not] at *
   omega
theorem uI(a b:bt):Con Tryz.prog 249 [a.val,b.val] [] [] fun r _ _=>r=.int .i64 (sD a b):=by
 refine EN2 Tryz.func249 rfl (aSR (LT rfl (bC rfl rfl rfl (fun b0_0=>(aHN ?_)))))
 refine LT rfl (bC rfl rfl rfl (fun b0_1=>(aHN ?_)))
 refine aA rfl (aNn (aSR (UO 0 rfl rfl (UL 0 tk3 rfl rfl rfl rfl (UO 0 rfl rfl (UL 1 tk3 rfl rfl rfl rfl (aU rfl (Q0 rfl (kr _ _)) (aA rfl (aNn (aj (FZ1 [] Tryz.results249 rfl ?_)))))))))))
 rfl
theorem uZ(v:Value)(zs:List bt)(hz:zs.length≤1000000):Con Tryz.prog 248 [v,.func (.func 249) #[] #[]] [] [az v 222 2 (zs.map bt.row)]
   fun _ ps hp=>ps=[]∧∃ q:List bt,q.Perm zs∧(q.Pairwise fun a b=>¬ jO b.at_ a.at_<0)∧hp=[az v 222 2 (q.map bt.row)] :=
 qf (enc:=bt.vs) Tryz.sortSp (by decide) Tryz.isAgg222 Tryz.sizeOf222 (fun _=>rfl) (fun x v hv=>by simp at hv;rcases hv with rfl | rfl<;>rfl) sD zu 249 (by kernel_rfl) (fun x y=>uI x y) (T:=222) (v:=v) zs (by omega)
theorem uJ(b:Nat)(q:Sl bt)(hf:se q.l)(hql:q.l.length≤1000000)(i:Nat)(a:bt)(ha:q.l[i]? = some a):Con Tryz.prog 251 [.int .i64 i,a.val,.pointer (some ⟨b,0,none⟩)] [cg (At b 0 [.v (.slice q.ad q.l.length q.cap)]) (ShF bt.row q)] [] fun r _ _=>r=.bool (zO q.l i a):=by
 have hil:=(List.getElem?_eq_some_iff.1 ha).1
 refine EN3 Tryz.func251 rfl (aSR (LT rfl (bC rfl rfl rfl (fun b0_0=>(aHN ?_)))))
 refine aA rfl (aNs (DR [] 21 (VM 0 rfl rfl (bV 1 rfl rfl (bp rfl rfl) (VM 2 rfl rfl (bW 3 rfl rfl rfl (fun hc=>aS (o:=0) tk32 rfl (Ent.left (.of (aF 0 rfl))) rfl) (bW 4 rfl rfl rfl (fun hc=>ax rfl) ?_)))))))
 refine bW 5 rfl rfl rfl (fun hc=>bQ (aa rfl hc) rfl (by (first | omega | (simp at hc;omega)))) ?_
 refine nf 6 rfl (by kernel_rfl) _ rfl rfl (fun hc=>aZ Tryz.underlying32 tk222 (aa rfl hc) ((Ent.right (.of (aF 0 rfl)))) (aa rfl hc) (et (i:=(i:Int)-1) (by omega) (by simp at hc;omega)) ((Int.toNat_of_nonneg (by simp at hc;omega)).symm) rfl) (fun _=>⟨(0,0)⟩) (fun ⟨b1_6,o1_6⟩ => ?_)
 refine bW 7 rfl rfl rfl (fun hc=>qFA (off:=0) (aa rfl hc)) (bW 8 rfl rfl rfl (fun hc=>ei (o:=0) tk3 (aa rfl hc) (aF 0 rfl) hc rfl) (bW 9 rfl rfl rfl (fun hc=>aS (o:=0) tk32 rfl (Ent.left (.of (aF 1 rfl))) rfl) (bW 10 rfl rfl rfl (fun hc=>ax rfl) ?_)))
 refine bW 11 rfl rfl rfl (fun hc=>bQ (aa rfl hc) rfl (by (first | omega | (simp at hc;omega)))) ?_
 refine nf 12 rfl (by kernel_rfl) _ rfl rfl (fun hc=>aZ Tryz.underlying32 tk222 (aa rfl hc) ((Ent.right (.of (aF 1 rfl)))) (aa rfl hc) (et (i:=(i:Int)-1) (by omega) (by simp at hc;omega)) ((Int.toNat_of_nonneg (by simp at hc;omega)).symm) rfl) (fun _=>⟨(0,0)⟩) (fun ⟨b1_12,o1_12⟩ => ?_)
 refine bW 13 rfl rfl rfl (fun hc=>qFA (off:=1) (aa rfl hc)) (bW 14 rfl rfl rfl (fun hc=>ei (o:=1) tk3 (aa rfl hc) (aF 0 rfl) hc rfl) ?_)
 refine bW 15 rfl rfl rfl (fun hc=>aO (aa rfl hc) (aa rfl hc) (by (have h9:=hf (elt q.l ((i:Int)-1)) (List.mem_of_getElem? (gr (by omega) (by simp at hc;omega)));omega))) ?_
 refine bW 16 rfl rfl rfl (fun hc=>qFA (off:=0) rfl) (bW 17 rfl rfl rfl (fun hc=>bS 0 tk3 (aa rfl hc) rfl rfl) (bW 18 rfl rfl rfl (fun hc=>di (aa rfl hc) (aa rfl hc)) (bV 19 rfl rfl (cC rfl rfl (fun h=>gf rfl h)) (bV 20 rfl rfl (bz rfl) (BN (ak (aj (FZ1 [] Tryz.results251 rfl ?_))))))))
 rfl
theorem qa(l:Sl bt)(hl:l.l.length≤1000000)(hf:se l.l):Con Tryz.prog 148 [l.val] [ShF bt.row l] [] fun r _ _=>r=.bool (nk l.l):=by
 have hfl:(l.l.filter fh).length≤1000000:=Nat.le_trans (List.length_filter_le _ _) hl
 refine EN1 Tryz.func148 rfl (aSR (LT rfl (acW ([.slice l.ad l.l.length l.cap]) rfl rfl rfl (fun b0_0=>(aHN ?_)))))
 refine aA rfl (aNn (aSR (UL 0 tk32 rfl rfl rfl rfl (LT rfl (EC [0] [] rfl (s5 l hl) ?_)))))
 rintro _ _ _ ⟨rfl,ad1,c1,rfl,rfl⟩
 refine aST ?_
 refine LF rfl (EC [] [1] rfl ((ym _ l.l hl).know (φ:=fun r=>∃ ad cp,r=.slice ad (l.l.filter fh).length cp) (fun v ps' hp' w S fp ⟨_,h2⟩ hst=>by subst h2;have:=e7 (hst.res 0 _ rfl);rwa [List.length_map] at this)) ?_)
 rintro _ _ _ ⟨⟨rfl,rfl⟩,ad2,c2,rfl⟩
 refine aST ?_
 refine aJ rfl (aV 0 tk32 rfl rfl rfl rfl (aHK ?_))
 refine aNn (aSR (UL 0 tk32 rfl rfl rfl rfl (LF rfl (EC [] [1] rfl (uZ _ _ hfl) ?_))))
 rintro _ _ _ ⟨rfl,q,hqp,hqs,rfl⟩
 refine aST ?_
 refine aNs ?_
 rw [← hqp.length_eq]
 refine eu 1 rfl ?_
 have hqf:se q:=fun s hs=>hf s (List.mem_filter.1 (hqp.mem_iff.1 hs)).1
 refine bj 0 rfl rfl ?_
 show awp _ _ _ _ ⟨_,At _ 0 _::_,_⟩
 refine ae (UD 0 tk32 0 rfl rfl rfl rfl (aU rfl (dy (l:=[.tmp 1]) rfl) ?_))
 refine aU rfl (QC rfl (fun w S fp hst=>(((pC ⟨ad2,c2,q⟩ 251 [.pointer (some ⟨b0_0,0,none⟩)] (cg (At b0_0 0 [.v (.slice ad2 q.length c2)]) (ShF bt.row ⟨ad2,c2,q⟩)) (fun i a=>zO q i a) (by kernel_rfl) (fun i a ha=>uJ b0_0 ⟨ad2,c2,q⟩ hqf (by have:=hqp.length_eq;dsimp only;omega) i a ha)).post (fun _ _ _ h=>h.2.2)).pre2 (ps:=[At b0_0 0 [.v (.slice ad2 q.length c2)],ShF bt.row ⟨ad2,c2,q⟩]) (.of (aF 1 rfl)) (Ent.mk2 (.of (aF 0 rfl)) (.of (aF 1 rfl)))).quiet2 (aF 0 rfl) (aF 1 rfl) hst)) ?_
 refine aA rfl (aNn (aj (FZ1 [] Tryz.results148 rfl ?_)))
 exact congrArg Value.bool (sA hqp hqs)
end Go.Proofs.YtfkcmbonmpcbfaaGreat

namespace Go.Proofs.YtfkcmbonmpcbfaaGreat
open Go.RowKit Go.Lp Go.Sy Go.Lv
open Go.Proofs.Tryz
attribute [local irreducible] aL aB awp aC fwp Quiet
theorem kyP:eC Tryz.prog 241 cQ:=yJ Tryz.underlying241 rfl (by kernel_rfl) Tryz.underlying9
theorem uU(im:an)(b i:Nat)(x:bu)(hx:im.nodes.l[i]? = some x):Con Tryz.prog 145 [.int .i64 i,x.val,.pointer (some ⟨b,0,none⟩)] [cg (At b 0 im.row) im.ok] [] fun r _ _=>r=.bool (jH im x):=by
 refine EN3 Tryz.func145 rfl (eE (bu.f_sec (Ent.all (f:=bu.ok) (an.f_nodesA (Ent.right (.of (aF 0 rfl)))) hx)) (fun hs=>(eE (bu.f_obj (Ent.all (f:=bu.ok) (an.f_nodesA (Ent.right (.of (aF 0 rfl)))) hx)) (fun ho=>(aSR (LT rfl (bC rfl rfl rfl (fun b0_0=>(aHN ?_)))))))))
 refine aA rfl (aNn (aSR (aU rfl (aS (o:=0) tk40 rfl (Ent.left (.of (aF 0 rfl))) rfl) (UL 0 tk153 rfl rfl rfl rfl (aU rfl (Q0 rfl (yc im x hs ho)) (aA rfl (aNn (aj (FZ1 [] Tryz.results145 rfl ?_)))))))))
 rfl
theorem yh (im:an) (hS:eZ im):Con Tryz.prog 66 [im.val] [im.ok] [] fun r _ _=>r=.bool (lL im):=by
 have hc0:=hS.c0
 have hcd:=hS.cd
 have hdz:=hS.dz
 have hzm:=hS.zm
 refine EN1 Tryz.func66 rfl (aSR (LT rfl (bC rfl rfl rfl (fun b0_0=>(aHN ?_)))))
 refine aA rfl (aNs (aq (bj 0 rfl rfl ?_)))
 show awp _ _ _ _ ⟨_,At _ 0 _::_,_⟩
 refine ae (UO 8 rfl rfl (UD 8 tk23 0 rfl rfl rfl rfl (aU rfl (aY Tryz.underlying23 rfl) (aU rfl (db rfl rfl) (aM rfl (GO 12 rfl rfl rfl (aG rfl rfl (fun hc=>aS (o:=12) tk26 (aa rfl hc) (.of (aF 0 rfl)) rfl) (aG rfl rfl (fun hc=>aY Tryz.underlying26 (aa rfl hc)) (aG rfl rfl (fun hc=>db (aa rfl hc) rfl) (aU rfl (cC rfl rfl (fun h=>gf rfl h)) (aM rfl (GO 8 rfl rfl rfl (aG rfl rfl (fun hc=>aS (o:=8) tk23 (aa rfl hc) (.of (aF 0 rfl)) rfl) (aG rfl rfl (fun hc=>dy (l:=[.tmp 1]) rfl) (aG rfl rfl (fun hc=>QC (aD (aa rfl hc) (aD (aa rfl hc) rfl)) (fun w S fp hst=>(((mG im.nodes 145 [.pointer (some ⟨b0_0,0,none⟩)] (cg (At b0_0 0 im.row) im.ok) (fun _ x=>jH im x) (by kernel_rfl) (fun i x hx=>uU im b0_0 i x hx)).post (fun _ _ _ h=>h.2.2)).pre2 (ps:=[At b0_0 0 im.row,im.ok]) (an.f_nodes (.of (aF 1 rfl))) (Ent.mk2 (.of (aF 0 rfl)) (.of (aF 1 rfl)))).quiet2 (aF 0 rfl) (aF 1 rfl) hst)) ?_)))))))))))))))
 refine aG rfl rfl (fun hc=>bX (aa rfl hc)) (aU rfl (cC rfl rfl (fun h=>gf rfl h)) (aNn ?_))
 refine ah _ rfl (fun h1 => ?_) (fun h1 => ?_)
 ·skip
  have hh:mW im=true:=h1
  refine aSR (aA rfl (aNn (aj (aK (FZ1 [] Tryz.results66 rfl ?_)))))
  unfold lL;rw [hh];rfl
 ·skip
  have hh:mW im=false:=h1
  have hh2:(im.nodes.l.length≤4096∧im.stubs.l.length≤4096)∧allI (fun _ x=>jH im x) 0 im.nodes.l=true:=by
    unfold mW at hh
    simp only [Bool.or_eq_false_iff,Bool.not_eq_false',decide_eq_false_iff_not] at hh
    exact ⟨⟨by omega,by omega⟩,hh.2⟩
  obtain ⟨⟨hnl,hsl⟩,hall⟩:=hh2
  refine ai (ak (aSR (aA rfl (aA rfl (aNs (dO 222 2 (dO 222 2 ?_)))))))
  show awp _ _ _ _ ⟨_,_,[_,_,_]⟩
  refine ae (LT rfl (dU (cQ) (vBo) rfl (fun b4_0=>(aHN ?_))))
  refine aA rfl (aNs (aSR (UO 8 rfl rfl (UD 8 tk23 0 rfl rfl rfl rfl (aU rfl (aY Tryz.underlying23 rfl) (aM rfl (aNn (ao ?_))))))))
  refine aP [1,3,4,5,31,32,33] [1,0] [1,2,3] (fun (q:(Nat × (Value × Value)) × (List bt × List bt)) st=>NdI im q.1.1 q.2.1 q.2.2∧st=⟨[(1,true,.pointer (some ⟨b0_0,0,none⟩)),(3,true,q.1.2.1),(4,true,q.1.2.2),(5,true,.map (some b4_0)),(31,true,im.nodes.val),(32,true,.int .i64 im.nodes.l.length),(33,true,.int .i64 q.1.1)],[At b0_0 0 im.row,im.ok],[az q.1.2.1 222 2 (q.2.1.map bt.row),az q.1.2.2 222 2 (q.2.2.map bt.row),cr b4_0 cQ vBo (eB ((im.nodes.l.take q.1.1).map keyOf))]⟩) (fun q=>im.nodes.l.length-q.1.1) rfl (⟨((0,(.slice none 0 0,.slice none 0 0)),([],[])),NdI.start im,by show _=(⟨_,_,[_,_,cr b4_0 cQ vBo (eB [])]⟩:Sta);rw [← o7];rfl⟩) ?_
  rintro ⟨⟨k,mv,bv⟩,mem,blk⟩ st ⟨hI,rfl⟩
  dsimp only at hI ⊢
  have hil:=hI.len
  have hile:=hI.le
  refine aSR (aU rfl (bd rfl rfl) (aNs ?_))
  refine ah _ rfl (fun h2 => ?_) (fun h2 => ?_)
  ·skip
   have hk':k<im.nodes.l.length:=by simpa using h2
   obtain ⟨x,hx⟩:∃ x,im.nodes.l[k]? = some x:=⟨_,List.getElem?_eq_getElem hk'⟩
   have ht1:(im.nodes.l.take (k+1)).map keyOf=(im.nodes.l.take k).map keyOf++[keyOf x]:=by rw [List.take_add_one,hx,List.map_append];rfl
   refine ai (ak (aq (ao (aSR (gb true rfl rfl (fun _=>aZ Tryz.underlying23 tk153 rfl ((an.f_nodes (.of (aF 1 rfl)))) rfl (aH hx) rfl rfl) (fun h=>absurd h (by decide)) (fun ⟨b7_0,o7_0⟩=>(US 0 tk153 0 rfl rfl rfl rfl rfl (LT rfl (bg (zs:=[.string .empty,.string .empty,.int .i64 0,.int .i64 0,.int .i64 0,.string .empty,.string .empty]) (by kernel_rfl) rfl (fun b7_2=>(aHN ?_)))))))))))
   refine aJ rfl (aV 3 tk153 rfl rfl rfl rfl (aHK ?_))
   refine aNn (aSR (UO 0 rfl rfl (UL 3 tk9 rfl rfl rfl rfl (UO 1 rfl rfl (UL 3 tk9 rfl rfl rfl rfl (aU rfl (iG (l:=[(0,.tmp 38),(1,.tmp 40)]) (zs:=[.string .empty,.string .empty]) (sz:=1) (m:=2) (by kernel_rfl) (by kernel_rfl) rfl rfl rfl) (LT rfl (bg (zs:=[.string .empty,.string .empty]) (by kernel_rfl) rfl (fun b8_5=>(aHN ?_))))))))))
   refine aJ rfl (aV 4 tk241 rfl rfl rfl rfl (aHK ?_))
   refine aNs (aSR (aM rfl (UL 4 tk241 rfl rfl rfl rfl (aU rfl (gQ (k:=(x.obj,x.sec)) (v0:=false) 2 Tryz.underlying240 (kyP) (by kernel_rfl) rfl rfl rfl) (aNn ?_)))))
   refine ah _ rfl (fun h3 => ?_) (fun h3 => ?_)
   ·skip
    have hdup:keyOf x∈(im.nodes.l.take k).map keyOf:=xe.1 h3
    refine aSR (aA rfl (aNn (aj (aK (bF (aK (aK (bF (aK (FZ1 [] Tryz.results66 rfl (congrArg Value.bool (Eq.symm ?_))))))))))))
    unfold lL
    rw [decide_eq_false (NdI.dup hx hdup),Bool.false_and,Bool.and_false]
   ·skip
    have hdup:keyOf x ∉ (im.nodes.l.take k).map keyOf:=fun hm=>by rw [xe.2 hm] at h3;cases h3
    have hst1:=hI.step hx hdup
    refine ai (ak (aSR (aM rfl (UL 4 tk241 rfl rfl rfl rfl (aJ rfl (cO (k:=(x.obj,x.sec)) (v:=true) 2 Tryz.underlying240 (kyP) rfl rfl rfl rfl (aHK ?_)))))))
    refine aNn (aSR (UO 3 rfl rfl (UL 3 tk3 rfl rfl rfl rfl (UO 4 rfl rfl (UL 3 tk3 rfl rfl rfl rfl (aU rfl (eH (l:=[(0,.tmp 48),(1,.tmp 50)]) (zs:=[.int .i64 0,.int .i64 0]) (pl:=[(0,1),(1,1)]) (by kernel_rfl) (by kernel_rfl) (by kernel_rfl) rfl rfl rfl) (LT rfl (bg (zs:=[.int .i64 0,.int .i64 0]) (by kernel_rfl) rfl (fun b12_5=>(aHN ?_))))))))))
    refine aJ rfl (aV 5 tk222 rfl rfl rfl rfl (aHK ?_))
    refine aNn (aSR (UO 2 rfl rfl (UL 3 tk3 rfl rfl rfl rfl (aU rfl (Q0 rfl (yb _)) (aNn ?_)))))
    refine ah _ rfl (fun h4 => ?_) (fun h4 => ?_)
    ·skip
     rw [if_pos h4,if_pos h4] at hst1
     refine ae (aM rfl (UL 5 tk222 rfl rfl rfl rfl (LT rfl (WL (zs:=[.int .i64 0,.int .i64 0]) el32 rfl rfl rfl (.more rfl (.v rfl (.v rfl .nil)) .nil) rfl rfl (fun v14_2=>(aHN ?_))))))
     refine aJ rfl (cB 0 el32 rfl rfl rfl rfl (dK 6 el32 rfl (by simp)) (by first | assumption | simp) (by rw [List.length_map];show mem.length+1≤_;omega) (mem.length+1) (by rw [List.length_map];rfl) (fun v14_3 c14_3 => ?_))
     refine aHK ?_
     refine aA rfl (bE (bb (ak (ae (aU rfl (aO rfl rfl (by omega)) (aM rfl (aNn ?_)))))))
     refine ⟨[1,3,4,5,31,32,33],[1,0],[0,1,2],rfl,?_⟩
     refine ⟨((k+1,(.slice v14_3 (mem.length+1) c14_3,bv)),(mem++[gE x],blk)),⟨hst1,?_⟩,by dsimp only;omega⟩
     show _=(⟨_,_,[az (.slice v14_3 (mem.length+1) c14_3) 222 2 ((mem++[gE x]).map bt.row),_,cr b4_0 cQ vBo (eB ((im.nodes.l.take (k+1)).map keyOf))]⟩:Sta)
     rw [ht1,fV,List.map_append];rfl
    ·skip
     rw [if_neg (by rw [h4];decide),if_neg (by rw [h4];decide)] at hst1
     refine ae (aM rfl (UL 5 tk222 rfl rfl rfl rfl (LT rfl (WL (zs:=[.int .i64 0,.int .i64 0]) el32 rfl rfl rfl (.more rfl (.v rfl (.v rfl .nil)) .nil) rfl rfl (fun v15_2=>(aHN ?_))))))
     refine aJ rfl (cB 1 el32 rfl rfl rfl rfl (dK 6 el32 rfl (by simp)) (by first | assumption | simp) (by rw [List.length_map];show blk.length+1≤_;omega) (blk.length+1) (by rw [List.length_map];rfl) (fun v15_3 c15_3 => ?_))
     refine aHK ?_
     refine aA rfl (bE (bb (ak (ae (aU rfl (aO rfl rfl (by omega)) (aM rfl (aNn ?_)))))))
     refine ⟨[1,3,4,5,31,32,33],[1,0],[0,1,2],rfl,?_⟩
     refine ⟨((k+1,(mv,.slice v15_3 (blk.length+1) c15_3)),(mem,blk++[gE x])),⟨hst1,?_⟩,by dsimp only;omega⟩
     show _=(⟨_,_,[_,az (.slice v15_3 (blk.length+1) c15_3) 222 2 ((blk++[gE x]).map bt.row),cr b4_0 cQ vBo (eB ((im.nodes.l.take (k+1)).map keyOf))]⟩:Sta)
     rw [ht1,fV,List.map_append];rfl
  ·skip
   have hkn:k=im.nodes.l.length:=by simp at h2;omega
   have hmN:mem=pJ im.nodes.l:=by have:=hI.m;rwa [hkn,List.take_length] at this
   have hbN:blk=su im.nodes.l:=by have:=hI.b;rwa [hkn,List.take_length] at this
   have hnd:(im.nodes.l.map keyOf).Nodup:=by have:=hI.nd;rwa [hkn,List.take_length] at this
   refine aQ (aR (aR (aX (ak (aq (aSR (UO 12 rfl rfl (UD 12 tk26 0 rfl rfl rfl rfl (aU rfl (aY Tryz.underlying26 rfl) (aM rfl (aNn (ao ?_))))))))))))
   refine aP [1,3,4,65,66,67] [1,0] [0,1] (fun (q:Nat × (Value × List bt)) st=>(q.1≤im.stubs.l.length∧q.2.2=pJ im.nodes.l++(im.stubs.l.take q.1).map ui∧∀ i s,i<q.1→im.stubs.l[i]? = some s→jJ im i s=true)∧st=⟨[(1,true,.pointer (some ⟨b0_0,0,none⟩)),(3,true,q.2.1),(4,true,bv),(65,true,im.stubs.val),(66,true,.int .i64 im.stubs.l.length),(67,true,.int .i64 q.1)],[At b0_0 0 im.row,im.ok],[az q.2.1 222 2 (q.2.2.map bt.row),az bv 222 2 (blk.map bt.row)]⟩) (fun q=>im.stubs.l.length-q.1) rfl (⟨(0,(mv,mem)),⟨Nat.zero_le _,by simp [hmN],fun i s h=>absurd h (Nat.not_lt_zero _)⟩,rfl⟩) ?_
   rintro ⟨j,mv2,mem2⟩ st ⟨⟨hj,hm2,hpre⟩,rfl⟩
   dsimp only at hj hm2 hpre ⊢
   have hm2l:mem2.length≤8192:=by rw [hm2,← hmN,List.length_append,List.length_map,List.length_take];omega
   refine aSR (aU rfl (bd rfl rfl) (aNs ?_))
   refine ah _ rfl (fun h5 => ?_) (fun h5 => ?_)
   ·skip
    have hj':j<im.stubs.l.length:=by simpa using h5
    obtain ⟨s,hs⟩:∃ s,im.stubs.l[j]? = some s:=⟨_,List.getElem?_eq_getElem hj'⟩
    refine ai (ak (aq (ao (aSR (aM rfl (gb true rfl rfl (fun _=>aZ Tryz.underlying26 tk3 rfl ((an.f_stubs (.of (aF 1 rfl)))) rfl (aH hs) rfl rfl) (fun h=>absurd h (by decide)) (fun ⟨b19_1,o19_1⟩=>(US 0 tk3 0 rfl rfl rfl rfl rfl (aA rfl (aA rfl (aNs (aSR (UD 0 tk40 1 rfl rfl rfl rfl (aM rfl (aU rfl (Q0 rfl (con_instr im ⟨hc0,by omega⟩ s)) ?_)))))))))))))))
    refine aU rfl (bX rfl) (aM rfl (aG rfl rfl (fun hc=>ax rfl) (aG rfl rfl (fun hc=>db (aa rfl hc) rfl) (aG rfl rfl (fun hc=>ax (aa rfl hc)) (GO 12 rfl rfl rfl (aG rfl rfl (fun hc=>aS (o:=12) tk26 (aa rfl hc) (.of (aF 1 rfl)) rfl) (aG rfl rfl (fun hc=>ax rfl) ?_)))))))
    refine aG rfl rfl (fun hc=>bQ (aa rfl hc) rfl (by (first | omega | (simp at hc;omega)))) ?_
    refine gb _ rfl rfl (fun hc=>aZ Tryz.underlying26 tk3 (aa rfl hc) ((an.f_stubs (.of (aF 2 rfl)))) (aa rfl hc) (et (i:=(j:Int)-1) (by omega) (by simp at hc;omega)) ((Int.toNat_of_nonneg (by simp at hc;omega)).symm) rfl) (fun _=>⟨(0,0)⟩) (fun ⟨b20_12,o20_12⟩ => ?_)
    refine aG rfl rfl (fun hc=>ei (o:=0) tk3 (aa rfl hc) (aF 0 rfl) hc rfl) (aG rfl rfl (fun hc=>ax rfl) (aG rfl rfl (fun hc=>dY (aa rfl hc) (aa rfl hc)) (aG rfl rfl (fun hc=>aT (aa rfl hc) rfl (fun h=>gt hc h)) (aU rfl (cC rfl rfl (fun h=>gf rfl h)) (aNn ?_)))))
    refine ah _ rfl (fun h6 => ?_) (fun h6 => ?_)
    ·skip
     have hsb:jJ im j s=false:=by unfold jJ;rw [Bool.not_eq_false'];exact h6
     refine aSR (aA rfl (aNn (aj (aK (bF (aK (aK (bF (aK (FZ1 [] Tryz.results66 rfl (congrArg Value.bool (Eq.symm ?_))))))))))))
     have hf:allI (jJ im) 0 im.stubs.l=false:=by
       cases h:allI (jJ im) 0 im.stubs.l with
       | false=>rfl
       | true=>have:=gV.1 h j s hs;rw [Nat.zero_add,hsb] at this;cases this
     unfold lL
     rw [hf,Bool.false_and,Bool.and_false,Bool.and_false]
    ·skip
     have hsb:jJ im j s=true:=by unfold jJ;rw [Bool.not_eq_true'];exact h6
     refine ai (ak (ae (aM rfl (aM rfl (aU rfl (eH (l:=[(0,.tmp 91),(1,.const (.int .i64 8))]) (zs:=[.int .i64 0,.int .i64 0]) (pl:=[(0,1),(1,1)]) (by kernel_rfl) (by kernel_rfl) (by kernel_rfl) rfl rfl rfl) (LT rfl (WL (zs:=[.int .i64 0,.int .i64 0]) el32 rfl rfl rfl (.more rfl (.v rfl (.v rfl .nil)) .nil) rfl rfl (fun v22_3=>(aHN ?_)))))))))
     refine aJ rfl (cB 0 el32 rfl rfl rfl rfl (dK 2 el32 rfl (by simp)) (by first | assumption | simp) (by rw [List.length_map];show mem2.length+1≤_;omega) (mem2.length+1) (by rw [List.length_map];rfl) (fun v22_4 c22_4 => ?_))
     refine aHK ?_
     refine aA rfl (bE (bb (ak (ae (aU rfl (aO rfl rfl (by omega)) (aM rfl (aNn ?_)))))))
     refine ⟨[1,3,4,65,66,67],[1,0],[0,1],rfl,?_⟩
     refine ⟨(j+1,(.slice v22_4 (mem2.length+1) c22_4,mem2++[ui s])),⟨⟨hj',?_,fun i t hi ht => ?_⟩,?_⟩,by dsimp only;omega⟩
     · dsimp only;rw [hm2,List.append_assoc,List.take_add_one,hs,List.map_append];rfl
     · rcases Nat.lt_or_ge i j with h | h
       · exact hpre i t h ht
       · obtain rfl:i=j:=by dsimp only at hi;omega
         rw [hs] at ht;obtain rfl:=Option.some.inj ht;exact hsb
     · show _=(⟨_,_,[az (.slice v22_4 (mem2.length+1) c22_4) 222 2 ((mem2++[ui s]).map bt.row),_]⟩:Sta)
       rw [List.map_append];rfl
   ·skip
    have hjn:j=im.stubs.l.length:=by simp at h5;omega
    have hstubs:allI (jJ im) 0 im.stubs.l=true:=gV.2 fun i t ht=>by rw [Nat.zero_add];exact hpre i t (by rw [hjn];exact (List.getElem?_eq_some_iff.1 ht).1) ht
    have hm3:mem2=pJ im.nodes.l++im.stubs.l.map ui:=by rw [hm2,hjn,List.take_length]
    have hfM:se mem2:=fun t ht=>by
      rw [hm3] at ht
      rcases List.mem_append.1 ht with h | h
      · exact qB hall h
      · obtain ⟨z,hz,rfl⟩:=List.mem_map.1 h
        obtain ⟨i,hi⟩:=List.mem_iff_getElem?.1 hz
        have:=gV.1 hstubs i z hi
        unfold jJ instrB at this
        simp only [Bool.not_eq_true',Bool.or_eq_false_iff,Bool.not_eq_false',Bool.and_eq_true,km] at this
        have h9:=this.1.1
        exact ⟨⟨h9.1,by show z≤_;omega⟩,by show 0≤(8:Int)∧(8:Int)≤1048576;decide⟩
    have hfB:se blk:=fun t ht=>by rw [hbN] at ht;exact qB hall ht
    refine aQ (aR (aR (aX (ak (aq (fg 0 rfl (fun w S F hh=>e7 hh) (fun hov => ?_)))))))
    obtain ⟨mad,mcp,rfl⟩:=hov
    refine fg 1 rfl (fun w S F hh=>e7 hh) (fun hov => ?_)
    obtain ⟨bad,bcp,rfl⟩:=hov
    rw [List.length_map,List.length_map]
    refine eu 0 rfl (eu 1 rfl (ae (aM rfl ?_)))
    refine aU rfl (Q1 rfl (qa ⟨mad,mcp,mem2⟩ (by dsimp only;omega) hfM) 1 rfl) ?_
    refine aM rfl (aG rfl rfl (fun hc=>ax rfl) ?_)
    refine aG rfl rfl (fun hc=>Q1 (aD (aa rfl hc) rfl) (qa ⟨bad,bcp,blk⟩ (by dsimp only;omega) hfB) 0 rfl) ?_
    refine aU rfl (aT rfl rfl (fun h=>gt rfl h)) (aA rfl (aNn (aj (FZ1 [] Tryz.results66 rfl (congrArg Value.bool ?_)))))
    unfold lL
    rw [hh,decide_eq_true hnd,hstubs,← hm3,← hbN];rfl
end Go.Proofs.YtfkcmbonmpcbfaaGreat

namespace Go.Proofs.YtfkcmbonmpcbfaaGreat
open Go.RowKit Go.Lp Go.Sy Go.Lv
def wY(im:an)(x:bT):Int:=if x.kind=2 then im.block else im.zero
def ad9(y x:bT):Int:=if uH y.name x.name≠0 then uH y.name x.name else uH y.version x.version
def iZ(im:an)(i:Nat)(x:bT):Bool:=decide ((i:Int)>0) && decide (ad9 (elt im.exports.l ((i:Int)-1)) x≥0)
def mR(x:bT):Bool:=x.main || decide (x.version=⟨#[]⟩)
def adK(im:an)(x:bT):Bool:=(((ee x.name && kH x.version) && gg x.kind 0 2) && decide (x.size≥0)) && gg x.at_ 0 (wY im x)
def vC(im:an)(s:List ByteArray)(i:Nat)(x:bT):Bool × List ByteArray :=
 if iZ im i x=true then (false,s) else if mR x=true then (if (eB s x.name).getD false=true then (false,s) else (adK im x,s++[x.name])) else (adK im x,s)
def tq(im:an):Bool:=decide ((im.exports.l.length:Int)≤4096) && (eS (vC im) [] 0 im.exports.l).1
abbrev ac5(x:b6):ByteArray × ByteArray:=(x.name,x.version)
abbrev kQ(im:an)(i:Nat):Int:=elt im.slots.l (i:Int)
def vE(im:an)(st:List (ByteArray × ByteArray) × List Int)(i:Nat)(x:b6):Bool :=
 (eB st.1 (ac5 x)).getD false || ((!decide (kQ im i = -1)) && (((eB st.2 (kQ im i)).getD false || !gg (kQ im i) im.code (im.data-8)) || !decide ((kQ im i).tmod 8=0)))
def aeb(x:b6):Bool:=(ee x.name && kH x.version) && gg x.kind 0 2
def vF(im:an)(st:List (ByteArray × ByteArray) × List Int)(i:Nat)(x:b6):Bool × (List (ByteArray × ByteArray) × List Int) :=
 if vE im st i x=true then (false,st) else (aeb x,(st.1++[ac5 x],st.2++[kQ im i]))
def tB(im:an):Bool:=decide ((im.imports.l.length:Int)>4096) || !decide ((im.slots.l.length:Int)=im.imports.l.length)
def ib(im:an):Bool:=if tB im=true then false else (eS (vF im) ([],[]) 0 im.imports.l).1
def og(im:an)(e:Int)(x:mE):Bool:=((!gg x.kind 0 7) || (!gg x.at_ e (im.data-c9 x.kind))) || (!gg x.import_ (-1) (im.imports.l.length-1))
def rz(im:an)(x:mE):Bool:=decide (x.import_<0) || (!decide (elt im.slots.l x.import_=x.at_))
def fX(im:an)(st:Int × Int)(_:Nat)(x:mE):Bool × (Int × Int) :=
 if og im st.1 x=true then (false,st) else
 if x.kind=3 then (if rz im x=true then (false,st) else (true,(x.at_+c9 x.kind,st.2+1))) else
 if (x.kind=5∨x.kind=6∨x.kind=7)∧x.import_<0 then (false,st) else (true,(x.at_+c9 x.kind,st.2))
def kR(l:List Int):Int:=((l.filter fun s => !decide (s = -1)).length:Nat)
def mn(im:an):Bool:=(eS (fX im) (0,0) 0 im.dyns.l).1 && decide ((eS (fX im) (0,0) 0 im.dyns.l).2.2-kR im.slots.l=0)
theorem vu{im:an}{e:Int}{x:mE}(h:og im e x=false):(0≤x.kind∧x.kind≤7)∧(e≤x.at_∧x.at_≤im.data-c9 x.kind)∧(-1≤x.import_∧x.import_≤im.imports.l.length-1):=by
 unfold og at h
 simp only [Bool.or_eq_false_iff,Bool.not_eq_false',km] at h
 exact ⟨h.1.1,h.1.2,h.2⟩
theorem yI(k:Int):c9 k=4∨c9 k=8:=by unfold c9;split<;>simp
theorem wj(l:List Int)(s:Int):kR (l++[s])=if s = -1 then kR l else kR l+1:=by
 unfold kR
 rw [List.filter_append]
 by_cases h:s = -1
 · rw [if_pos h];simp [h]
 · rw [if_neg h];simp [h]
theorem uf(l:List Int):0≤kR l∧kR l≤l.length:=by
 unfold kR
 have:=List.length_filter_le (fun s:Int => !decide (s = -1)) l
 omega
end Go.Proofs.YtfkcmbonmpcbfaaGreat

namespace Go.Sy
open Go.RowKit Go.Lp
theorem zK{P:Program}{n:Fr}{ops:Array Oper}{Q:Exit→Sta→Prop}{env:Env}{ps:List Per}{hp:List Res}{rest:List Oper}(i:Nat)(h:aL P n ops Q rest ⟨env,ps,hp.set i emp⟩):aL P n ops Q rest ⟨env,ps,hp⟩:=fun w S fp a hst he hn hd=>by
 have hX:∀ b,tot (fun k=>if k=i then (fun _=>False) else fp k) (hp.set i emp).length b→tot fp hp.length b:=fun b ⟨k,hk,hb⟩=>by
   dsimp only at hb
   by_cases e:k=i
   · rw [if_pos e] at hb;exact hb.elim
   · rw [if_neg e] at hb;exact ⟨k,by simpa using hk,hb⟩
 exact eO (fun e a' w' hp'=>hp'.trans (Evo.refl _ _ _) fun b hb=>.inl (hX b hb)) _ _ _ (h w S _ a (hst.drop i) he hn hd)
theorem pT{P:Program}{n:Fr}{ops:Array Oper}{Q:Exit→Sta→Prop}{env:Env}{ps:List Per}{hp:List Res}{ty:TypeId}{pos:String}{af:Array Edge}{gd:Option (Nat × Bool)}{rest:List Oper}{t:Nat}{f:FuncId}{g:Operand}{caps:List Value}{l:List Operand}{ts:Array TypeId}{vs:List Value}{v:Value}(lp:List Nat)(i:Nat)(hf:cL P f=true)(c:Bool)(hc:guardOf ops env ⟨some t,.call ⟨.value g,l.toArray,ts⟩,ty,pos,af,gd⟩=some c)(ht:fits n.size (some t)=true)(hi:i<hp.length)
   (hgv:c=true→ev env g=some (true,.func (.func f) #[] caps.toArray)) (hx:c=true→evs env l=some vs) (hcon:c=true→Con P f (vs++caps) (dw ps lp) (bH hp [i]) fun r ps' hp'=>ps'=[]∧hp'=[]∧r=v)
   (h:aL P n ops Q rest ⟨(t,c,v)::env,ps,hp.set i emp⟩):aL P n ops Q (⟨some t,.call ⟨.value g,l.toArray,ts⟩,ty,pos,af,gd⟩::rest) ⟨env,ps,hp⟩:=by
 cases c with
 | true =>
   refine aJ (q:=false) hc (fO lp [i] hf (hgv rfl) (hx rfl) ht (by simp [okH,hi]) rfl (hcon rfl) ?_)
   rintro _ _ _ ⟨rfl,rfl,rfl⟩
   refine iL ?_ h
   apply List.ext_getElem?;intro j;rw [i7,List.getElem?_set,Nat.zero_add]
   by_cases hj:j<hp.length
   · rw [if_pos hj]
     by_cases e:i=j
     · subst e;rw [if_pos rfl,if_pos hj];simp [place]
     · rw [if_neg e];simp [place,e]
   · rw [if_neg hj,if_neg (by omega),List.getElem?_eq_none (by simp),List.getElem?_eq_none (by omega)]
 | false=>exact ng (v:=v) false hc ht (fun h=>by cases h) (zK i h)
theorem abE{P:Program}{f:FuncId}{args:List Value}{ps:List Per}{l:List Res}{R:Value→List Per→List Res→Prop}(h:Con P f args ps l R):Con P f args ps [Bun l] fun v ps' hp'=>∃ l',hp'=[Bun l']∧R v ps' l':=fun w S fp hst=>by
 obtain ⟨fp2,k1,k2⟩:=hst.unbun
 refine (h w S fp2 k1).mono fun e w' ⟨v,ps',hp',S',fp',he,hR,hst',hE,hg⟩ => ?_
 exact ⟨v,ps',[Bun hp'],S',_,he,⟨hp',rfl,hR⟩,hst'.bun,hE.wider k2,fun b hb=>(hg b ((mZ _ b (Bun hp')).1 hb)).imp (k2 b) id⟩
end Go.Sy

namespace Go.Proofs.YtfkcmbonmpcbfaaGreat
open Go.RowKit Go.Lp Go.Sy Go.Lv
open Go.Proofs.Tryz
attribute [local irreducible] aL aB awp aC fwp Quiet
theorem ri(im:an)(hlen:im.exports.l.length≤4096)(b bm b3:Nat)(s:List ByteArray)(i:Nat)(x:bT)(hx:im.exports.l[i]? = some x) :
   Con Tryz.prog 150 [.int .i64 i,x.val,.pointer (some ⟨b,0,none⟩),.pointer (some ⟨b3,0,none⟩)] [cg (At b 0 im.row) (cg (At b3 0 [.v (.map (some bm))]) im.ok)] [cr bm gO vBo (eB s)]
     fun r ps hp=>ps=[]∧r=.bool (vC im s i x).1∧hp=[cr bm gO vBo (eB (vC im s i x).2)]:=by
 have hil:=(List.getElem?_eq_some_iff.1 hx).1
 refine EN4 Tryz.func150 rfl (bK _ (Ent.left (.of (aF 0 rfl))) (bK _ (Ent.left (Ent.right (.of (aF 1 rfl)))) (bK _ (Ent.right (Ent.right (.of (aF 2 rfl)))) (eE (bT.f_name (Ent.all (f:=bT.ok) (an.f_exportsA (.of (aF 0 rfl))) hx)) (fun hsn=>(eE (bT.f_version (Ent.all (f:=bT.ok) (an.f_exportsA (.of (aF 0 rfl))) hx)) (fun hsv=>(aSR (LT rfl (bC rfl rfl rfl (fun b0_0=>(aHN ?_))))))))))))
 refine aA rfl (aNn (aSR (UO 4 rfl rfl (UD 4 tk3 2 rfl rfl rfl rfl (aA rfl (aNs ?_))))))
 refine fv (X := {z:Int // z=wY im x}) (fun q=>⟨[(0,true,.int .i64 i),(2,true,.pointer (some ⟨b,0,none⟩)),(3,true,.pointer (some ⟨b3,0,none⟩)),(5,true,.pointer (some ⟨b0_0,0,none⟩)),(7,true,.int .i64 q.1)],[im.ok,At b3 0 [.v (.map (some bm))],At b 0 im.row,cg (At b 0 im.row) (cg (At b3 0 [.v (.map (some bm))]) im.ok)],[cr bm gO vBo (eB s),Box b0_0 159 x.vs]⟩) ?_ ?_
 ·skip
  refine aSR (UO 3 rfl rfl (UL 1 tk3 rfl rfl rfl rfl (aU rfl (bp rfl rfl) (aNn ?_))))
  refine ah _ rfl (fun h1 => ?_) (fun h1 => ?_)
  ·skip
   refine ae (UO 7 rfl rfl (UD 7 tk3 2 rfl rfl rfl rfl (aA rfl (aNn ?_))))
   first
   | exact ⟨[0,2,3,5,7],[3,2,1,0],[0,1],⟨im.block,(if_pos (of_decide_eq_true h1)).symm⟩,rfl,rfl⟩
   | exact ⟨[0,2,3,5,7],[3,2,1,0],[0,1],⟨im.zero,(if_neg (of_decide_eq_false h1)).symm⟩,rfl,rfl⟩
  ·skip
   refine ai (ak ?_)
   first
   | exact ⟨[0,2,3,5,7],[3,2,1,0],[0,1],⟨im.block,(if_pos (of_decide_eq_true h1)).symm⟩,rfl,rfl⟩
   | exact ⟨[0,2,3,5,7],[3,2,1,0],[0,1],⟨im.zero,(if_neg (of_decide_eq_false h1)).symm⟩,rfl,rfl⟩
 ·skip
  rintro ⟨_,rfl⟩
  refine aq ?_
  refine fv (X := {z:Unit // iZ im i x=false}) (fun _=>⟨[(0,true,.int .i64 i),(2,true,.pointer (some ⟨b,0,none⟩)),(3,true,.pointer (some ⟨b3,0,none⟩)),(5,true,.pointer (some ⟨b0_0,0,none⟩)),(7,true,.int .i64 (wY im x))],[im.ok,At b3 0 [.v (.map (some bm))],At b 0 im.row,cg (At b 0 im.row) (cg (At b3 0 [.v (.map (some bm))]) im.ok)],[cr bm gO vBo (eB s),Box b0_0 159 x.vs]⟩) ?_ ?_
  ·skip
   refine aSR (aM rfl (aU rfl (db rfl rfl) (aNn ?_)))
   refine ah _ rfl (fun h2 => ?_) (fun h2 => ?_)
   ·skip
    refine aSR (UO 9 rfl rfl (UD 9 tk24 2 rfl rfl rfl rfl (aM rfl ?_)))
    refine aU rfl (bQ rfl rfl (by (simp at h2;omega))) ?_
    refine gb true rfl rfl (fun _=>aZ Tryz.underlying24 tk159 rfl ((an.f_exports (.of (aF 0 rfl)))) rfl (et (i:=(i:Int)-1) (by omega) (by simp at h2;omega)) ((Int.toNat_of_nonneg (by simp at h2;omega)).symm) rfl) (fun h=>absurd h (by decide)) (fun ⟨b5_4,o5_4⟩ => ?_)
    refine US 0 tk159 0 rfl rfl rfl rfl rfl (LT rfl (bg (zs:=[.string .empty,.string .empty,.bool false,.int .i64 0,.int .i64 0,.int .i64 0]) (by kernel_rfl) rfl (fun b5_6=>(aHN ?_))))
    refine aJ rfl (aV 2 tk159 rfl rfl rfl rfl (aHK ?_))
    refine aNs (DR [11] 13 (VO 0 0 rfl rfl rfl (VL 1 2 tk9 rfl rfl rfl rfl rfl (VO 2 0 rfl rfl rfl (VL 3 1 tk9 rfl rfl rfl rfl rfl (bV 4 rfl rfl (Q0 rfl (sO _ _)) (VO 5 1 rfl rfl rfl (VL 6 2 tk9 rfl rfl rfl rfl rfl (VO 7 1 rfl rfl rfl (VL 8 1 tk9 rfl rfl rfl rfl rfl (bV 9 rfl rfl (Q0 rfl (sO _ _)) (iO (q:=true) 10 rfl (by kernel_rfl) rfl rfl (WL (zs:=[.int .i64 0]) el26 rfl rfl rfl (.more rfl (.v rfl .nil) (.more rfl (.v rfl .nil) .nil)) rfl rfl (fun v6_10=>(bST rfl ?_)))))))))))))))
    refine VE 11 rfl rfl (EC [] [3] rfl ((abL (.slice v6_10 2 2) _ _).clean (φ:=fun r=>r=_) (fun _ _ _ h=>h)) ?_)
    rintro _ _ _ ⟨rfl,rfl,rfl⟩
    refine bST rfl ?_
    refine bV 12 rfl rfl (dY rfl rfl) (BN (ak ?_))
    refine ah _ rfl (fun h3 => ?_) (fun h3 => ?_)
    ·skip
     refine aSR (aA rfl (aNn (aj (aK (FZ1 [0] Tryz.results150 rfl ?_)))))
     have hb:iZ im i x=true:=by unfold iZ;rw [decide_eq_true (by simp at h2;omega)];exact h3
     unfold vC;rw [if_pos hb];exact ⟨rfl,rfl,rfl⟩
    ·skip
     refine ai (ak ?_)
     first
     | exact ⟨[0,2,3,5,7],[3,2,1,0],[0,1],⟨(),by unfold iZ;rw [decide_eq_false (by simp at h2;omega)];rfl⟩,rfl,rfl⟩
     | exact ⟨[0,2,3,5,7],[3,2,1,0],[0,1],⟨(),by unfold iZ;rw [decide_eq_true (by simp at h2;omega)];exact h3⟩,rfl,rfl⟩
   ·skip
    refine ai (ak ?_)
    first
    | exact ⟨[0,2,3,5,7],[3,2,1,0],[0,1],⟨(),by unfold iZ;rw [decide_eq_false (by simp at h2;omega)];rfl⟩,rfl,rfl⟩
    | exact ⟨[0,2,3,5,7],[3,2,1,0],[0,1],⟨(),by unfold iZ;rw [decide_eq_true (by simp at h2;omega)];exact h3⟩,rfl,rfl⟩
  ·skip
   rintro ⟨_,hbad⟩
   refine aq ?_
   refine fv (X := {q:List ByteArray // ((mR x=true∧(eB s x.name).getD false=false)∧q=s++[x.name])∨(mR x=false∧q=s)}) (fun q=>⟨[(0,true,.int .i64 i),(2,true,.pointer (some ⟨b,0,none⟩)),(3,true,.pointer (some ⟨b3,0,none⟩)),(5,true,.pointer (some ⟨b0_0,0,none⟩)),(7,true,.int .i64 (wY im x))],[im.ok,At b3 0 [.v (.map (some bm))],At b 0 im.row,cg (At b 0 im.row) (cg (At b3 0 [.v (.map (some bm))]) im.ok)],[cr bm gO vBo (eB q.1),Box b0_0 159 x.vs]⟩) ?_ ?_
   ·skip
    refine aSR (UO 2 rfl rfl (UL 1 tk4 rfl rfl rfl rfl (aM rfl (GO 1 rfl rfl rfl (GL 1 tk9 rfl rfl rfl rfl rfl (aG rfl rfl (fun hc=>rR (aa rfl hc) rfl) (aU rfl (cC rfl rfl (fun h=>gf rfl h)) (aNn ?_))))))))
    refine ah _ rfl (fun h4 => ?_) (fun h4 => ?_)
    ·skip
     refine aq (aSR (UD 0 tk244 1 rfl rfl rfl rfl (UO 0 rfl rfl (UL 1 tk9 rfl rfl rfl rfl (aU rfl (gQ (k:=x.name) (v0:=false) 0 Tryz.underlying244 (kyT) (by kernel_rfl) rfl rfl rfl) (aNn ?_))))))
     refine ah _ rfl (fun h5 => ?_) (fun h5 => ?_)
     ·skip
      refine aSR (aA rfl (aNn (aj (aK (aK (FZ1 [0] Tryz.results150 rfl ?_))))))
      have hm:mR x=true:=h4
      have hd:(eB s x.name).getD false=true:=h5
      unfold vC;rw [if_neg (by rw [hbad];decide),if_pos hm,if_pos hd];exact ⟨rfl,rfl,rfl⟩
     ·skip
      refine ai (ak (ae (UD 0 tk244 1 rfl rfl rfl rfl (UO 0 rfl rfl (UL 1 tk9 rfl rfl rfl rfl (aJ rfl (cO (k:=x.name) (v:=true) 0 Tryz.underlying244 (kyT) rfl rfl rfl rfl (aHK ?_))))))))
      refine bE ?_
      rw [← fV]
      refine ak ?_
      first
      | exact ⟨[0,2,3,5,7],[3,2,1,0],[0,1],⟨s,.inr ⟨h4,rfl⟩⟩,rfl,rfl⟩
      | exact ⟨[0,2,3,5,7],[3,2,1,0],[0,1],⟨s++[x.name],.inl ⟨⟨h4,h5⟩,rfl⟩⟩,rfl,rfl⟩
    ·skip
     refine ai (ak ?_)
     first
     | exact ⟨[0,2,3,5,7],[3,2,1,0],[0,1],⟨s,.inr ⟨h4,rfl⟩⟩,rfl,rfl⟩
     | exact ⟨[0,2,3,5,7],[3,2,1,0],[0,1],⟨s++[x.name],.inl ⟨⟨h4,h5⟩,rfl⟩⟩,rfl,rfl⟩
   ·skip
    rintro ⟨s2,hs2⟩
    refine aSR (UO 0 rfl rfl (UL 1 tk9 rfl rfl rfl rfl (aU rfl (Q0 rfl (fH _ hsn)) (aM rfl (GO 1 rfl rfl rfl (GL 1 tk9 rfl rfl rfl rfl rfl (aG rfl rfl (fun hc=>Q0 (aD (aa rfl hc) rfl) (iz _ hsv)) (aU rfl (aT rfl rfl (fun h=>gt rfl h)) (aM rfl (GO 3 rfl rfl rfl (GL 1 tk3 rfl rfl rfl rfl rfl (aG rfl rfl (fun hc=>dX (by kernel_rfl) (aD (aa rfl hc) (aD (aa rfl rfl) (aD (aa rfl rfl) rfl))) (fun w S fp hst=>(cE _ _ _).quiet0 hst)) (aU rfl (aT rfl rfl (fun h=>gt rfl h)) (aM rfl (GO 5 rfl rfl rfl ?_)))))))))))))))
    refine GL 1 tk3 rfl rfl rfl rfl rfl (aG rfl rfl (fun hc=>dY (aa rfl hc) rfl) (aU rfl (aT rfl rfl (fun h=>gt rfl h)) (aM rfl (GO 4 rfl rfl rfl (GL 1 tk3 rfl rfl rfl rfl rfl (aG rfl rfl (fun hc=>ax rfl) (aG rfl rfl (fun hc=>dX (by kernel_rfl) (aD (aa rfl hc) (aD (aa rfl rfl) (aD (aa rfl hc) rfl))) (fun w S fp hst=>(cE _ _ _).quiet0 hst)) (aU rfl (aT rfl rfl (fun h=>gt rfl h)) (aA rfl (aNn (aj (FZ1 [0] Tryz.results150 rfl ?_))))))))))))
    unfold vC;rw [if_neg (by rw [hbad];decide)]
    rcases hs2 with ⟨⟨hm,hd⟩,rfl⟩ | ⟨hm,rfl⟩
    · rw [if_pos hm,if_neg (by rw [hd];decide)];exact ⟨rfl,rfl,rfl⟩
    · rw [if_neg (by rw [hm];decide)];exact ⟨rfl,rfl,rfl⟩
theorem sP(im:an):Con Tryz.prog 67 [im.val] [im.ok] [] fun r _ _=>r=.bool (tq im):=by
 refine EN1 Tryz.func67 rfl (aSR (LT rfl (bC rfl rfl rfl (fun b0_0=>(aHN ?_)))))
 refine aA rfl (aNn (aSR (LT rfl (dU (gO) (vBo) rfl (fun b1_0=>(aHN ?_))))))
 refine LT rfl (bg (zs:=[.map none]) (by kernel_rfl) rfl (fun b1_1=>(aHN ?_)))
 refine aJ rfl (aV 2 tk244 rfl rfl rfl rfl (aHK ?_))
 refine aNs (bj 2 rfl rfl ?_)
 show awp _ _ _ _ ⟨_,At b1_1 0 [.v (.map (some b1_0))]::_,_⟩
 refine bj 0 rfl rfl ?_
 show awp _ _ _ _ ⟨_,At _ 0 _::_,_⟩
 refine ae (UO 9 rfl rfl (UD 9 tk24 0 rfl rfl rfl rfl (aU rfl (aY Tryz.underlying24 rfl) (aU rfl (di rfl rfl) (aM rfl (GO 9 rfl rfl rfl (aG rfl rfl (fun hc=>aS (o:=9) tk24 (aa rfl hc) (.of (aF 0 rfl)) rfl) (aG rfl rfl (fun hc=>dy (l:=[.tmp 1,.tmp 3]) rfl) ?_))))))))
 refine pT (caps:=[]) [2,1,0] 1 (by kernel_rfl) _ rfl rfl (Nat.le_of_ble_eq_true rfl) (fun _=>rfl) (fun hc=>(aD (aa rfl hc) (aD (aa rfl hc) rfl))) (fun hc=>by rw [List.append_nil];exact (Con.clH (((nT im.exports 150 [.pointer (some ⟨b0_0,0,none⟩),.pointer (some ⟨b1_1,0,none⟩)] (cg (At b0_0 0 im.row) (cg (At b1_1 0 [.v (.map (some b1_0))]) im.ok)) (fun s=>cr b1_0 gO vBo (eB s)) (vC im) [] (by kernel_rfl) (fun s i x hx=>ri im (by simp at hc;omega) b0_0 b1_0 b1_1 s i x hx)).pre2 (an.f_exports (.of (aF 2 rfl))) (Ent.mk2 (.of (aF 0 rfl)) (Ent.mk2 (.of (aF 1 rfl)) (.of (aF 2 rfl)))))) (fun _ _ _ h=>h.2.1))) ?_
 refine aHK ?_
 refine aU rfl (aT rfl rfl (fun h=>gt rfl h)) (aA rfl (aNn (aj (FZ1 [] Tryz.results67 rfl ?_))))
 rfl
abbrev ac3(b1 b2:Nat)(st:List (ByteArray × ByteArray) × List Int):List Res:=[cr b1 cQ vBo (eB st.1),cr b2 kZ vBo (eB st.2)]
abbrev adN(im:an)(b b1 b2 b3 b4:Nat):Per:=cg (At b 0 im.row) (cg (At b3 0 [.v (.map (some b1))]) (cg (At b4 0 [.v (.map (some b2))]) im.ok))
theorem rj(im:an)(hS:eZ im)(hlen:im.imports.l.length≤4096)(hsl:im.slots.l.length=im.imports.l.length)(b b1 b2 b3 b4:Nat)(st:List (ByteArray × ByteArray) × List Int)(i:Nat)(x:b6)(hx:im.imports.l[i]? = some x) :
   Con Tryz.prog 155 [.int .i64 i,x.val,.pointer (some ⟨b,0,none⟩),.pointer (some ⟨b3,0,none⟩),.pointer (some ⟨b4,0,none⟩)] [adN im b b1 b2 b3 b4] (ac3 b1 b2 st)
     fun r ps hp=>ps=[]∧r=.bool (vF im st i x).1∧hp=ac3 b1 b2 (vF im st i x).2:=by
 have hil:=(List.getElem?_eq_some_iff.1 hx).1
 have hc0:=hS.c0
 have hcd:=hS.cd
 have hdz:=hS.dz
 have hzm:=hS.zm
 have hs:im.slots.l[i]? = some (kQ im i):=dG (by omega)
 refine EN5 Tryz.func155 rfl (bK _ (Ent.left (.of (aF 0 rfl))) (bK _ (Ent.left (Ent.right (.of (aF 1 rfl)))) (bK _ (Ent.left (Ent.right (Ent.right (.of (aF 2 rfl))))) (bK _ (Ent.right (Ent.right (Ent.right (.of (aF 3 rfl))))) (eE (b6.f_name (Ent.all (f:=b6.ok) (an.f_importsA (.of (aF 0 rfl))) hx)) (fun hsn=>(eE (b6.f_version (Ent.all (f:=b6.ok) (an.f_importsA (.of (aF 0 rfl))) hx)) (fun hsv=>(aSR (LT rfl (bC rfl rfl rfl (fun b0_0=>(aHN ?_)))))))))))))
 refine aA rfl (aNs (DC [11] [11] [] 13 (CF 0 rfl rfl rfl (qFA (off:=0) rfl) (CQ 1 rfl rfl rfl (bS 2 tk9 rfl rfl rfl) (CF 2 rfl rfl rfl (qFA (off:=1) rfl) (CQ 3 rfl rfl rfl (bS 2 tk9 rfl rfl rfl) (CF 4 rfl rfl rfl (iG (l:=[(0,.tmp 11),(1,.tmp 13)]) (zs:=[.string .empty,.string .empty]) (sz:=1) (m:=2) (by kernel_rfl) (by kernel_rfl) rfl rfl rfl) (CF 5 rfl rfl rfl (qFA (off:=11) rfl) (CF 6 rfl rfl rfl (aS (o:=11) tk26 rfl (.of (aF 3 rfl)) rfl) (CF 7 rfl rfl rfl (ax rfl) (adE 8 rfl (by kernel_rfl) rfl rfl (gP Tryz.underlying26 tk3 rfl ((an.f_slots (.of (aF 0 rfl)))) rfl (aH hs) rfl rfl) (fun ⟨b1_8,o1_8⟩=>(CF 9 rfl rfl rfl (aS (o:=0) tk3 rfl (.of (aF 0 rfl)) rfl) ?_)))))))))))))
 refine bP 10 [] (by kernel_rfl) (bo ?_ bD)
 refine cj 10 rfl rfl (Eff.x (id (bg (zs:=[.string .empty,.string .empty]) (by kernel_rfl) rfl (fun b1_10=>(CST ?_)))))
 refine bP 11 [] (by kernel_rfl) (bo ?_ bD)
 refine cj 11 rfl rfl (Eff.wild (q:=false) (id (aV 3 tk241 rfl rfl rfl rfl (CST ?_))))
 refine CF 12 rfl rfl rfl (bz rfl) (ec (by kernel_rfl) (ak (aq (aSR (UD 0 tk240 3 rfl rfl rfl rfl (UL 3 tk241 rfl rfl rfl rfl (aU rfl (gQ (k:=(x.name,x.version)) (v0:=false) 0 Tryz.underlying240 (kyP) (by kernel_rfl) rfl rfl rfl) (aM rfl (aG rfl rfl (fun hc=>ax rfl) (aG rfl rfl (fun hc=>dE (aa rfl hc) rfl) (aG rfl rfl (fun hc=>ax (aa rfl hc)) (aG rfl rfl (fun hc=>aS (o:=0) tk119 rfl (.of (aF 2 rfl)) rfl) (aG rfl rfl (fun hc=>ax rfl) (aG rfl rfl (fun hc=>gQ (k:=kQ im i) (v0:=false) 1 Tryz.underlying119 (kyI) (by kernel_rfl) (aa rfl hc) (aa rfl hc) rfl) ?_))))))))))))))
 refine aG rfl rfl (fun hc=>ax (aa rfl hc)) (aG rfl rfl (fun hc=>ax rfl) (GO 2 rfl rfl rfl (aG rfl rfl (fun hc=>aS (o:=2) tk3 (aa rfl hc) (.of (aF 4 rfl)) rfl) (GO 3 rfl rfl rfl (aG rfl rfl (fun hc=>aS (o:=3) tk3 (aa rfl hc) (.of (aF 4 rfl)) rfl) ?_)))))
 refine aG rfl rfl (fun hc=>bQ (aa rfl hc) rfl (by (first | omega | (simp at hc;omega)))) ?_
 refine aG rfl rfl (fun hc=>dX (by kernel_rfl) (aD (aa rfl hc) (aD (aa rfl hc) (aD (aa rfl hc) rfl))) (fun w S fp hst=>(cE _ _ _).quiet0 hst)) (aG rfl rfl (fun hc=>bX (aa rfl hc)) (aG rfl rfl (fun hc=>cC (aa rfl hc) rfl (fun h=>gf hc h)) (aG rfl rfl (fun hc=>ax (aa rfl hc)) (aG rfl rfl (fun hc=>ax rfl) (aG rfl rfl (fun hc=>mz (aa rfl hc) rfl (by decide)) (aG rfl rfl (fun hc=>dE (aa rfl hc) rfl) (aG rfl rfl (fun hc=>cC (aa rfl hc) rfl (fun h=>gf hc h)) (aG rfl rfl (fun hc=>aT (aa rfl hc) rfl (fun h=>gt hc h)) (aU rfl (cC rfl rfl (fun h=>gf rfl h)) (aNn ?_))))))))))
 refine ah _ rfl (fun h1 => ?_) (fun h1 => ?_)
 ·skip
  refine aSR (aA rfl (aNn (aj (aK (FZ1 [0,1] Tryz.results155 rfl ?_)))))
  have hb:vE im st i x=true:=h1
  unfold vF;rw [if_pos hb];exact ⟨rfl,rfl,rfl⟩
 ·skip
  have hb:vE im st i x=false:=h1
  refine ai (ak (aq (DC [4,5] [] [] 6 (CF 0 rfl rfl rfl (aS (o:=0) tk240 rfl (.of (aF 3 rfl)) rfl) (CQ 1 rfl rfl rfl (bS 3 tk241 rfl rfl rfl) (CF 2 rfl rfl rfl (aS (o:=0) tk119 rfl (.of (aF 2 rfl)) rfl) (CF 3 rfl rfl rfl (ax rfl) ?_)))))))
  refine bP 4 [] (by kernel_rfl) (bo ?_ bD)
  refine cj 4 rfl rfl (Eff.framed (q:=false) [0] rfl rfl iK (id (cO (k:=(x.name,x.version)) (v:=true) 0 Tryz.underlying240 (kyP) rfl rfl rfl rfl (fA (CST ?_)))))
  refine bP 5 [] (by kernel_rfl) (bo ?_ bD)
  refine cj 5 rfl rfl (Eff.framed (q:=false) [1] rfl rfl iK (id (cO (k:=kQ im i) (v:=true) 0 Tryz.underlying119 (kyI) rfl rfl rfl rfl (fA (CST ?_)))))
  refine ec (by kernel_rfl) (ak (aSR (UO 0 rfl rfl (UL 2 tk9 rfl rfl rfl rfl (aU rfl (Q0 rfl (fH _ hsn)) (aM rfl (GO 1 rfl rfl rfl (GL 2 tk9 rfl rfl rfl rfl rfl (aG rfl rfl (fun hc=>Q0 (aD (aa rfl hc) rfl) (iz _ hsv)) (aU rfl (aT rfl rfl (fun h=>gt rfl h)) (aM rfl (GO 2 rfl rfl rfl (GL 2 tk3 rfl rfl rfl rfl rfl (aG rfl rfl (fun hc=>dX (by kernel_rfl) (aD (aa rfl hc) (aD (aa rfl rfl) (aD (aa rfl rfl) rfl))) (fun w S fp hst=>(cE _ _ _).quiet0 hst)) ?_))))))))))))))
  refine aU rfl (aT rfl rfl (fun h=>gt rfl h)) (aA rfl (aNn (aj (FZ1 [0,1] Tryz.results155 rfl ?_))))
  unfold vF;rw [if_neg (by rw [hb];decide)]
  refine ⟨rfl,rfl,?_⟩
  show _=[cr b1 cQ vBo (eB (st.1++[ac5 x])),cr b2 kZ vBo (eB (st.2++[kQ im i]))]
  rw [fV,fV];rfl
theorem sQ(im:an)(hS:eZ im):Con Tryz.prog 68 [im.val] [im.ok] [] fun r _ _=>r=.bool (ib im):=by
 refine EN1 Tryz.func68 rfl (aSR (LT rfl (bC rfl rfl rfl (fun b0_0=>(aHN ?_)))))
 refine aA rfl (aNs (aq (bj 0 rfl rfl ?_)))
 show awp _ _ _ _ ⟨_,At _ 0 _::_,_⟩
 refine ae (UO 10 rfl rfl (UD 10 tk25 0 rfl rfl rfl rfl (aU rfl (aY Tryz.underlying25 rfl) (aU rfl (db rfl rfl) (aM rfl (GO 11 rfl rfl rfl (aG rfl rfl (fun hc=>aS (o:=11) tk26 (aa rfl hc) (.of (aF 0 rfl)) rfl) (aG rfl rfl (fun hc=>aY Tryz.underlying26 (aa rfl hc)) (GO 10 rfl rfl rfl (aG rfl rfl (fun hc=>aS (o:=10) tk25 (aa rfl hc) (.of (aF 0 rfl)) rfl) (aG rfl rfl (fun hc=>aY Tryz.underlying25 (aa rfl hc)) (aG rfl rfl (fun hc=>dE (aa rfl hc) (aa rfl hc)) (aU rfl (cC rfl rfl (fun h=>gf rfl h)) (aNn ?_))))))))))))))
 refine ah _ rfl (fun h1 => ?_) (fun h1 => ?_)
 ·skip
  refine aSR (aA rfl (aNn (aj (aK (FZ1 [] Tryz.results68 rfl ?_)))))
  have hh:tB im=true:=h1
  unfold ib;rw [if_pos hh]
 ·skip
  have hh:tB im=false:=h1
  have hh2:im.imports.l.length≤4096∧im.slots.l.length=im.imports.l.length:=by
    unfold tB at hh
    simp only [Bool.or_eq_false_iff,Bool.not_eq_false',decide_eq_false_iff_not,decide_eq_true_eq] at hh
    omega
  refine ai (ak (aSR (LT rfl (dU (cQ) (vBo) rfl (fun b3_0=>(aHN ?_))))))
  refine LT rfl (bg (zs:=[.map none]) (by kernel_rfl) rfl (fun b3_1=>(aHN ?_)))
  refine aJ rfl (aV 2 tk240 rfl rfl rfl rfl (aHK ?_))
  refine aNn (aSR (LT rfl (dU (kZ) (vBo) rfl (fun b4_0=>(aHN ?_)))))
  refine LT rfl (bg (zs:=[.map none]) (by kernel_rfl) rfl (fun b4_1=>(aHN ?_)))
  refine aJ rfl (aV 4 tk119 rfl rfl rfl rfl (aHK ?_))
  refine aNs (bj 2 rfl rfl (bj 4 rfl rfl ?_))
  show awp _ _ _ _ ⟨_,At b4_1 0 [.v (.map (some b4_0))]::At b3_1 0 [.v (.map (some b3_0))]::_,_⟩
  refine ae (UO 10 rfl rfl (UD 10 tk25 2 rfl rfl rfl rfl (aU rfl (dy (l:=[.tmp 1,.tmp 3,.tmp 4]) rfl) ?_)))
  refine LF rfl (EC [1,2,3,0] [1,3] rfl (Con.clH (abK (R:=fun r _ _=>r=.bool (eS (vF im) ([],[]) 0 im.imports.l).1) (((nU im.imports 155 [.pointer (some ⟨b0_0,0,none⟩),.pointer (some ⟨b3_1,0,none⟩),.pointer (some ⟨b4_1,0,none⟩)] (adN im b0_0 b3_0 b4_0 b3_1 b4_1) (fun st=>Bun (ac3 b3_0 b4_0 st)) (vF im) ([],[]) (by kernel_rfl) (fun st i x hx=>(abE (rj im hS hh2.1 hh2.2 b0_0 b3_0 b4_0 b3_1 b4_1 st i x hx)).post fun _ _ _ ⟨_,h1,h2,h3,h4⟩=>⟨h2,h3,by rw [h1,h4]⟩)).pre2 (an.f_imports (.of (aF 3 rfl))) (Ent.mk2 (.of (aF 0 rfl)) (Ent.mk2 (.of (aF 1 rfl)) (Ent.mk2 (.of (aF 2 rfl)) (.of (aF 3 rfl)))))).post fun r ps' hp' ⟨_,h2,h3⟩=>⟨_,h3,h2⟩)) (fun _ _ _ h=>h)) ?_)
  rintro _ _ _ ⟨rfl,rfl,rfl⟩
  refine aST ?_
  refine aA rfl (aNn (aj (FZ1 [] Tryz.results68 rfl ?_)))
  unfold ib;rw [if_neg (by rw [hh];decide)]
end Go.Proofs.YtfkcmbonmpcbfaaGreat

