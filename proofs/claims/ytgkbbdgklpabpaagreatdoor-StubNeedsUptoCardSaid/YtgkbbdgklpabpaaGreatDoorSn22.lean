/- Parts of the proof, in build order. No condition. -/
import Derived.Test.YtgkbbdgklpabpaaGreatDoorSn21
import Derived.Test.YtgkbbdgklpabpaaGreatDoorSn07
import Derived.Test.YtgkbbdgklpabpaaGreatDoorSn05
import Derived.Test.YtgkbbdgklpabpaaGreatDoorSn09
import Derived.Test.YtgkbbdgklpabpaaGreatDoorSn06
import Derived.Test.YtgkbbdgklpabpaaGreatDoorSn19
set_option linter.unusedSimpArgs false
set_option linter.unusedVariables false
set_option maxHeartbeats 1000000
set_option maxRecDepth 20000
namespace Go.Proofs.YtgkbbdgklpabpaaGreatDoor
open Go.RowKit Go.Lp Go.Sy
open Go.Proofs.Tryz
attribute [local irreducible] aL aB awp aC fwp Quiet
structure mh (B:Nat) (q:StS):Prop where
 right:bF q.fr
 frl:q.fr.length≤B
 sl:q.S.length≤B
 at_:∀ s∈q.S,-4398046511104≤s.at_∧s.at_≤4398046511104
theorem mh.step{B:Nat}{q q':StS}{ln:List Int}{c:bC}(h:mh B q)(hc:0≤c.at_∧c.at_≤1099511627264)(he:eG ln q c=some q'):mh (B+1) q':=by
 have h1:=h.frl;have h2:=h.sl
 unfold eG at he
 split at he
 · cases he
 split at he
 · cases he;exact ⟨h.right,by omega,by omega,h.at_⟩
 split at he
 · cases he;exact ⟨h.right,by dsimp only;omega,by dsimp only;omega,h.at_⟩
 split at he
 · rename_i hf
   cases he
   obtain ⟨p,hp,k1,k2,k3,k4⟩:=rS (al:=8) (by omega) (by omega) h.right hf
   have hpo:=h.right.ok p hp
   have hg:=jq (x:=(eA 8 8 (c.at_-512) (c.at_+512) q.fr).1) (n:=8) h.right
   exact ⟨hg.1,by dsimp only;omega,by dsimp only;rw [List.length_append];simp;omega,fun s hs=>by
     rcases List.mem_append.1 hs with hs | hs
     · exact h.at_ s hs
     · rw [List.mem_singleton.1 hs];dsimp only;omega⟩
 · cases he
theorem mh.mono{B B':Nat}{q:StS}(h:mh B q)(hb:B≤B'):mh B' q:=⟨h.right,Nat.le_trans h.frl hb,Nat.le_trans h.sl hb,h.at_⟩
def oR(st:Int)(U:List Int)(S:List bt):List bt:=(S.zipIdx.filter fun p=>decide ((p.2:Int)∈U) || decide ((p.2:Int)≥st)).map (·.1)
theorem wH{st:Int}{U:List Int}{S:List bt}{j:Nat}{y:bt}(h:S[j]? = some y):oR st U (S.take (j+1))=oR st U (S.take j)++(if (decide ((j:Int)∈U) || decide ((j:Int)≥st))=true then [y] else []):=by
 have hl:(S.take j).length=j:=by rw [List.length_take];have:=(List.getElem?_eq_some_iff.1 h).1;omega
 unfold oR
 rw [List.take_add_one,h,Option.toList_some,List.zipIdx_append,List.filter_append,List.map_append,hl]
 simp only [List.zipIdx_cons,List.zipIdx_nil,Nat.zero_add]
 by_cases hk:(decide ((j:Int)∈U) || decide ((j:Int)≥st))=true
 · rw [if_pos hk,List.filter_cons_of_pos (by simpa using hk)];rfl
 · rw [if_neg hk,List.filter_cons_of_neg (by simpa using hk)];simp
theorem yO(st:Int)(U:List Int)(S:List bt):(oR st U S).length≤S.length:=by
 unfold oR;rw [List.length_map];exact Nat.le_trans (List.length_filter_le _ _) (by rw [List.length_zipIdx];exact Nat.le_refl _)
set_option maxHeartbeats 2000000 in
theorem xW(bm b:Nat)(u:aI)(l:aS)(sv fv:Value)(st:Int)(q0:StS)(hq0:mh 200000000 q0)(hU:q0.U=[])(hl:l.nodes.l.length=u.nodes.l.length)(hR:dL u.nodes.l≤100000000)
   (hA:∀ (k:Nat) (x:aQ) (a:Int),u.nodes.l[k]? = some x→l.nodes.l[k]? = some a→∀ r∈x.refs.l,-4611686018427387904≤a+r.at_∧a+r.at_≤4611686018427387904)
   (hC:∀ c∈bZ u.nodes.l l.nodes.l,mf l.nodes.l c) (hC2:∀ c∈bZ u.nodes.l l.nodes.l,0≤c.at_∧c.at_≤1099511627264) :
   Con Tryz.prog 26 [.pointer (some ⟨bm,0,none⟩)] [ShF aQ.row u.nodes,bu aQ.ok u.nodes.l,ShF bd l.nodes] [Box bm 105 (mkV u l sv fv st b),aK sv 44 4 (q0.S.map bt.row),aK fv 95 2 (q0.fr.map aX),dZ b eI vBo (fA q0.U)]
     fun r ps hp=>hp=[]∧((gu l.nodes.l (bZ u.nodes.l l.nodes.l) q0=none∧ps=[]∧r=.tuple #[(aS.mk bQ bQ bQ 0 0 0 0).val,.int .i64 6])∨∃ q T,gu l.nodes.l (bZ u.nodes.l l.nodes.l) q0=some q∧T.l=acn st q∧ps=[ShF bt.row T]∧r=.tuple #[({ l with stubs:=T } : aS).val,.int .i64 0]):=by
 have hcl0:∀ (ns:List aQ) (ln:List Int),(bZ ns ln).length≤dL ns:=fun ns=>by
   induction ns with
   | nil=>intro ln;exact Nat.le_refl _
   | cons x ns ih =>
     intro ln
     cases ln with
     | nil=>exact Nat.zero_le _
     | cons a ln =>
       have h1:bZ (x::ns) (a::ln)=fW a x.refs.l++bZ ns ln:=rfl
       have h2:dL (x::ns)=x.refs.l.length+dL ns:=by unfold dL;rw [List.map_cons,List.sum_cons]
       have h3:=sV a x.refs.l
       have h4:=ih ln
       rw [h1,h2,List.length_append];omega
 have hcl:=hcl0 u.nodes.l l.nodes.l
 refine EN1 Tryz.func26 rfl (cX 1 rfl (fun _ _ _ h=>dx h) (fun ⟨a0,c0,hv⟩ => ?_))
 rw [List.length_map] at hv
 subst hv
 refine aSR (LT rfl (aV (zs:=[.slice none 0 0,.slice none 0 0,.slice none 0 0,.int .i64 0,.int .i64 0,.int .i64 0,.int .i64 0]) (by kernel_rfl) rfl (fun b0_0=>(aHN ?_))))
 refine go 4 [0] ?_
 refine DR [] 11 (go 0 [0,0,0,82944,0,0,28,39936,17,0] ?_)
 refine dF (q:=true) 8 rfl (by kernel_rfl) rfl rfl (EC [2,1,0] [] rfl (mU u { l with stubs:=⟨a0,c0,q0.S⟩ } hl hR hA) ?_)
 rintro _ _ _ ⟨rfl,C,⟨rfl,rfl⟩,hCl⟩
 refine bST rfl ?_
 refine go 3 [81,67] ?_
 replace hCl:C.l=bZ u.nodes.l l.nodes.l:=hCl
 refine aF [0,2,3,21,22,23] [3,2,1,0] [0,1,2,3,4] (fun (x:Nat × (Option Addr × Nat) × Value × StS) s=>(x.1≤C.l.length∧gu l.nodes.l (C.l.take x.1) q0=some x.2.2.2∧mh (200000000+x.1) x.2.2.2)∧s=⟨[(0,true,.pointer (some ⟨bm,0,none⟩)),(2,true,.pointer (some ⟨b0_0,0,none⟩)),(3,true,.int .i64 0),(21,true,C.val),(22,true,.int .i64 C.l.length),(23,true,.int .i64 x.1)],[ShF bC.row C,ShF aQ.row u.nodes,bu aQ.ok u.nodes.l,ShF bd l.nodes],[Box bm 105 (mkV u l (.slice x.2.1.1 x.2.2.2.S.length x.2.1.2) x.2.2.1 st b),aK (.slice x.2.1.1 x.2.2.2.S.length x.2.1.2) 44 4 (x.2.2.2.S.map bt.row),aK x.2.2.1 95 2 (x.2.2.2.fr.map aX),dZ b eI vBo (fA x.2.2.2.U),Box b0_0 36 (aS.mk bQ bQ bQ 0 0 0 0).vs]⟩) (fun x=>C.l.length-x.1) rfl (⟨(0,(a0,c0),fv,q0),⟨Nat.zero_le _,rfl,hq0⟩,rfl⟩) ?_
 rintro ⟨k,⟨sa,sc⟩,fw,q⟩ s ⟨⟨hk,hrun,hq⟩,rfl⟩
 dsimp only at hk hrun hq
 have hq1:=hq.frl
 have hq2:=hq.sl
 refine go 3 [0] ?_
 refine aa _ rfl (fun h1 => ?_) (fun h1 => ?_)
 ·skip
  have hk':k<C.l.length:=by simpa using h1
  obtain ⟨c,hc⟩:∃ c,C.l[k]? = some c:=⟨_,List.getElem?_eq_getElem hk'⟩
  have hcm:c∈bZ u.nodes.l l.nodes.l:=hCl ▸ List.mem_of_getElem? hc
  have hcc:=hC c hcm
  have hcb:=hC2 c hcm
  have hsn:=wP (ln:=l.nodes.l) (q:=q0) hc
  rw [hrun,Option.bind_some] at hsn
  have hkb:k≤100000000:=by rw [hCl] at hk;omega
  refine aE (ao (aD (aJ (aSR (UI Tryz.underlying64 tk67 0 rfl rfl rfl rfl rfl (ak hc) rfl rfl (fun ⟨b3_0,o3_0⟩=>(go 0 [23042] ?_)))))))
  refine LT rfl (aV (zs:=[.int .i64 0,.int .i64 0,.int .i64 0,.int .i64 0,.int .i64 0,.int .i64 0,.int .i64 0,.int .i64 0]) (by kernel_rfl) rfl (fun b3_2=>(aHN ?_)))
  refine go 4 [23055] ?_
  refine DR [] 6 (go 0 [46110,0,0,28,39936] ?_)
  refine bV 5 rfl rfl (Q1 rfl (rJ c { l with stubs:=⟨sa,sc,q.S⟩ } hcc) 4 rfl) (BN (ao ?_))
  refine aa _ rfl (fun h2 => ?_) (fun h2 => ?_)
  ·skip
   have hod:qH l.nodes.l c=true:=h2
   have hno:gu l.nodes.l C.l q0=none:=pO (k:=k+1) (by rw [hsn];unfold eG;rw [if_pos hod])
   refine aSR (aU rfl (bO (l:=[]) (zs:=[.slice none 0 0,.slice none 0 0,.slice none 0 0,.int .i64 0,.int .i64 0,.int .i64 0,.int .i64 0]) (pl:=[(0,1),(1,1),(2,1),(3,1),(4,1),(5,1),(6,1)]) (by kernel_rfl) (by kernel_rfl) (by kernel_rfl) rfl rfl rfl) (go 2 [19980,0] ?_))
   refine ae (an (aO (an (an (aO (an ?_))))))
   refine gm [] [] rfl Tryz.results26 (dq 4 tk36 rfl rfl rfl) (fm rfl) ?_ (.inr rfl)
   exact ⟨rfl,.inl ⟨hCl ▸ hno,rfl,rfl⟩⟩
  ·skip
   have hod:¬ qH l.nodes.l c=true:=by simpa using h2
   refine aE (ao (aD (aD (DR [] 7 (go 0 [46110,0,0,28,39936] ?_)))))
   refine bV 5 rfl rfl (Q1 rfl (jn c { l with stubs:=⟨sa,sc,q.S⟩ } hcc) 4 rfl) (go 2 [0] ?_)
   refine aa _ rfl (fun h3 => ?_) (fun h3 => ?_)
   ·skip
    have hnd:dO l.nodes.l c=false:=by simpa using h3
    have hst1:eG l.nodes.l q c=some q:=by unfold eG;rw [if_neg hod,if_pos hnd]
    refine go 1 [0,0] ?_
    refine ao ?_
    refine ⟨[0,2,3,21,22,23],[3,2,1,0],[0,1,2,3,4],rfl,?_⟩
    exact ⟨(k+1,(sa,sc),fw,q),⟨⟨hk',by rw [hsn,hst1],hq.mono (by dsimp only;omega)⟩,rfl⟩,by dsimp only;omega⟩
   ·skip
    have hnd:¬ dO l.nodes.l c=false:=by simpa using h3
    refine aE (ao (aD (DR [6] 8 (go 0 [46110,0,0,28,4,0] ?_))))
    refine VE 6 rfl rfl (EC [] [1] rfl (rI c hcc sa sc q.S (fun s hs=>by have:=hq.at_ s hs;omega)) ?_)
    rintro _ _ _ ⟨rfl,rfl,rfl⟩
    refine bST rfl ?_
    refine go 2 [0,0,0] ?_
    refine aa _ rfl (fun h4 => ?_) (fun h4 => ?_)
    ·skip
     have hfi:¬ 0≤cF c q.S:=by simp at h4;omega
     refine aD (cX 2 rfl (fun _ _ _ h=>dx h) (fun hfv => ?_))
     rw [List.length_map] at hfv
     refine DR [10] 16 (go 0 [0,0,42,0,0,30,0,0,30,0] ?_)
     refine VE 10 rfl rfl (EC [] [2] rfl (xK q.fr fw 8 (c.at_-512) (c.at_+512) 8 hq.right (by omega) (by omega) (by omega) hfv) ?_)
     rintro _ _ _ ⟨rfl,rfl,rfl⟩
     refine bST rfl ?_
     refine go 2 [0,0,0,0,0,0,0] ?_
     refine aa _ rfl (fun h5 => ?_) (fun h5 => ?_)
     ·skip
      have hft:¬ (eA 8 8 (c.at_-512) (c.at_+512) q.fr).2=true:=by simpa using h5
      have hno:gu l.nodes.l C.l q0=none:=pO (k:=k+1) (by rw [hsn];unfold eG;rw [if_neg hod,if_neg hnd,if_neg hfi,if_neg hft])
      refine aSR (aU rfl (bO (l:=[]) (zs:=[.slice none 0 0,.slice none 0 0,.slice none 0 0,.int .i64 0,.int .i64 0,.int .i64 0,.int .i64 0]) (pl:=[(0,1),(1,1),(2,1),(3,1),(4,1),(5,1),(6,1)]) (by kernel_rfl) (by kernel_rfl) (by kernel_rfl) rfl rfl rfl) (go 2 [19980,0] ?_))
      refine ae (an (an (aO (an (an (aO (an ?_)))))))
      refine gm [] [] rfl Tryz.results26 (dq 4 tk36 rfl rfl rfl) (fm rfl) ?_ (.inr rfl)
      exact ⟨rfl,.inl ⟨hCl ▸ hno,rfl,rfl⟩⟩
     ·skip
      have hft:(eA 8 8 (c.at_-512) (c.at_+512) q.fr).2=true:=by simpa using h5
      have hst1:eG l.nodes.l q c=some ⟨q.S++[{ ew c with at_:=(eA 8 8 (c.at_-512) (c.at_+512) q.fr).1 }],i7 (eA 8 8 (c.at_-512) (c.at_+512) q.fr).1 8 q.fr,q.U++[(q.S.length:Int)]⟩:=by unfold eG;rw [if_neg hod,if_neg hnd,if_neg hfi,if_pos hft]
      have hfa : -4398046511104≤(eA 8 8 (c.at_-512) (c.at_+512) q.fr).1∧(eA 8 8 (c.at_-512) (c.at_+512) q.fr).1≤4398046511104:=(hq.step hcb hst1).at_ { ew c with at_:=(eA 8 8 (c.at_-512) (c.at_+512) q.fr).1 } (List.mem_append_right _ (List.mem_singleton.2 rfl))
      refine go 0 [23055] ?_
      refine aU rfl (Q0 rfl (pw c hcc)) (LT rfl (aV (zs:=[.int .i64 0,.int .i64 0,.int .i64 0,.int .i64 0]) (by kernel_rfl) rfl (fun b12_2=>(aHN ?_))))
      refine go 3 [10770,0,0,18,0,0,14,2,0,44,0] ?_
      refine DR [8,12] 13 (go 0 [3,0,0,0,28,4,0,21540] ?_)
      refine dF (q:=true) 7 rfl (by kernel_rfl) rfl rfl (WL (zs:=[.int .i64 0,.int .i64 0,.int .i64 0,.int .i64 0]) el34 rfl rfl rfl (.more rfl (.v rfl (.v rfl (.v rfl (.v rfl .nil)))) .nil) rfl rfl (fun v15_7=>(bST rfl ?_)))
      refine dF 8 rfl (by kernel_rfl) rfl rfl (bY 1 el34 rfl rfl rfl rfl (du 7 el34 rfl (by simp)) (by first | assumption | simp) (by show (q.S.map bt.row).length+1≤_;rw [List.length_map];exact Nat.le_trans (show q.S.length+1≤300000001 by omega) (by decide)) ((q.S++[{ ew c with at_:=(eA 8 8 (c.at_-512) (c.at_+512) q.fr).1 }]).length) (by show (q.S.map bt.row).length+1=_;rw [List.length_map,List.length_append];rfl) (fun v15_8 c15_8 => ?_))
      refine bST rfl ?_
      refine go 0 [0,28,4,7,0,0,0] ?_
      refine aU rfl (bO (l:=[(0,.tmp 90),(1,.const (.int .i64 8))]) (zs:=[.int .i64 0,.int .i64 0]) (pl:=[(0,1),(1,1)]) (by kernel_rfl) (by kernel_rfl) (by kernel_rfl) rfl rfl rfl) ?_
      refine LF rfl (EC [] [0,2] rfl (mV bm u l _ fw st b q.fr _ 8 hq.right (by unfold I64;omega) (by unfold I64;omega) (by omega)) ?_)
      rintro _ _ _ ⟨⟨rfl,rfl⟩,fv',rfl⟩
      refine aST ?_
      refine go 0 [0,0,23,0,0] ?_
      refine aN rfl (cB (k:=_) (v:=true) 3 Tryz.underlying63 (kyI) rfl rfl rfl rfl (aHK ?_))
      refine go 1 [0,0] ?_
      refine ao ?_
      refine ⟨[0,2,3,21,22,23],[3,2,1,0],[0,1,2,3,4],rfl,?_⟩
      exact ⟨(k+1,(v15_8,c15_8),fv',⟨q.S++[{ ew c with at_:=(eA 8 8 (c.at_-512) (c.at_+512) q.fr).1 }],i7 (eA 8 8 (c.at_-512) (c.at_+512) q.fr).1 8 q.fr,q.U++[(q.S.length:Int)]⟩),⟨⟨hk',by rw [hsn,hst1],(hq.step hcb hst1).mono (by dsimp only;omega)⟩,by dsimp only;rw [gw,List.map_append];rfl⟩,by dsimp only;omega⟩
    ·skip
     have hfi:0≤cF c q.S:=by simp at h4;omega
     have hst1:eG l.nodes.l q c=some ⟨q.S,q.fr,q.U++[cF c q.S]⟩:=by unfold eG;rw [if_neg hod,if_neg hnd,if_pos hfi]
     refine go 0 [0,0,23,0,0] ?_
     refine aN rfl (cB (k:=_) (v:=true) 3 Tryz.underlying63 (kyI) rfl rfl rfl rfl (aHK ?_))
     refine go 1 [0,0] ?_
     refine ao ?_
     refine ⟨[0,2,3,21,22,23],[3,2,1,0],[0,1,2,3,4],rfl,?_⟩
     exact ⟨(k+1,(sa,sc),fw,⟨q.S,q.fr,q.U++[cF c q.S]⟩),⟨⟨hk',by rw [hsn,hst1],(hq.step hcb hst1).mono (by dsimp only;omega)⟩,by dsimp only;rw [gw];rfl⟩,by dsimp only;omega⟩
 ·skip
  have hke:k=C.l.length:=by have:=of_decide_eq_false h1;omega
  subst hke
  rw [List.take_length,hCl] at hrun
  have hkb:C.l.length≤100000000:=by rw [hCl];omega
  refine ba (bg (bg (bk (ao (aD (cQ 1 (ShF bt.row ⟨sa,sc,q.S⟩) rfl (fun _ _ _ h=>dm h) (dw 44 4 ?_)))))))
  show awp _ _ _ _ ⟨_,_,[_,_,_,_,_,_]⟩
  refine go 3 [0,0,0,14,2,0,44,0] ?_
  refine aF [0,2,3,10,103,104,105] [4] [0,3,4,5] (fun (x:Nat × (Value × List bt)) s=>(x.1≤q.S.length∧x.2.2=oR st q.U (q.S.take x.1))∧s=⟨[(0,true,.pointer (some ⟨bm,0,none⟩)),(2,true,.pointer (some ⟨b0_0,0,none⟩)),(3,true,.int .i64 0),(10,true,x.2.1),(103,true,.slice sa q.S.length sc),(104,true,.int .i64 q.S.length),(105,true,.int .i64 x.1)],[ShF bt.row ⟨sa,sc,q.S⟩],[Box bm 105 (mkV u l (.slice sa q.S.length sc) fw st b),dZ b eI vBo (fA q.U),Box b0_0 36 (aS.mk bQ bQ bQ 0 0 0 0).vs,aK x.2.1 44 4 (x.2.2.map bt.row)]⟩) (fun x=>q.S.length-x.1) rfl (⟨(0,(_,[])),⟨Nat.zero_le _,rfl⟩,rfl⟩) ?_
  rintro ⟨j,v,zs⟩ s ⟨⟨hj,hz⟩,rfl⟩
  dsimp only at hj hz
  have hzl:=yO st q.U (q.S.take j)
  have htl:=List.length_take_le j q.S
  rw [← hz] at hzl
  refine go 3 [0] ?_
  refine aa _ rfl (fun h6 => ?_) (fun h6 => ?_)
  ·skip
   have hj':j<q.S.length:=by simpa using h6
   obtain ⟨y,hy⟩:∃ y,q.S[j]? = some y:=⟨_,List.getElem?_eq_getElem hj'⟩
   have hos:=wH (st:=st) (U:=q.U) hy
   refine go 0 [0] ?_
   refine UI Tryz.underlying34 tk44 0 rfl rfl rfl rfl rfl (ak hy) rfl rfl (fun ⟨b22_1,o22_1⟩=>(go 0 [10754] ?_))
   refine LT rfl (aV (zs:=[.int .i64 0,.int .i64 0,.int .i64 0,.int .i64 0]) (by kernel_rfl) rfl (fun b22_3=>(aHN ?_)))
   refine go 0 [0,10764,0,0,23,0,0] ?_
   refine aU rfl (fZ (k:=(j:Int)) (v0:=false) 1 Tryz.underlying63 (kyI) (by kernel_rfl) rfl rfl rfl) (go 2 [0,0,0,0,22,0,0,0] ?_)
   refine aa _ rfl (fun h7 => ?_) (fun h7 => ?_)
   ·skip
    have hb:(decide ((j:Int)∈q.U) || decide ((j:Int)≥st))=true:=by rw [← j7];exact h7
    rw [if_pos hb] at hos
    refine go 0 [0,10764] ?_
    refine LT rfl (WL (zs:=[.int .i64 0,.int .i64 0,.int .i64 0,.int .i64 0]) el34 rfl rfl rfl (.more rfl (.v rfl (.v rfl (.v rfl (.v rfl .nil)))) .nil) rfl rfl (fun v24_2=>(aHN ?_)))
    refine aN rfl (bY 3 el34 rfl rfl rfl rfl (du 5 el34 rfl (by simp)) (by first | assumption | simp) (by show (zs.map bt.row).length+1≤_;rw [List.length_map];exact Nat.le_trans (show zs.length+1≤300000001 by omega) (by decide)) ((zs++[y]).length) (by show (zs.map bt.row).length+1=_;rw [List.length_map,List.length_append];rfl) (fun v24_3 c24_3 => ?_))
    refine aHK ?_
    refine go 1 [0,0,0] ?_
    refine ao ?_
    refine ⟨[0,2,3,10,103,104,105],[0],[0,1,2,3],rfl,?_⟩
    exact ⟨(j+1,(_,zs++[y])),⟨⟨hj',by dsimp only;rw [hos,hz]⟩,by dsimp only;rw [List.map_append];rfl⟩,by dsimp only;omega⟩
   ·skip
    have hb:¬ (decide ((j:Int)∈q.U) || decide ((j:Int)≥st))=true:=by rw [← j7];exact Bool.not_eq_true _ ▸ h7
    rw [if_neg hb,List.append_nil] at hos
    refine go 1 [0,0] ?_
    refine ao ?_
    refine ⟨[0,2,3,10,103,104,105],[0],[0,1,2,3],rfl,?_⟩
    exact ⟨(j+1,(v,zs)),⟨⟨hj',by dsimp only;rw [hos,hz]⟩,rfl⟩,by dsimp only;omega⟩
  ·skip
   have hje:j=q.S.length:=by have:=of_decide_eq_false h6;omega
   subst hje
   rw [List.take_length] at hz
   refine ba (bg (bg (bk (ao (aD (cX 3 rfl (fun _ _ _ h=>dx h) (fun ⟨a9,c9,hv⟩ => ?_)))))))
   rw [List.length_map] at hv
   dsimp only at hv ⊢
   subst hv
   refine cQ 3 (ShF bt.row ⟨a9,c9,zs⟩) rfl (fun _ _ _ h=>dm h) (go 2 [0,0,0,14,2,0,0,0,14,19968,19974,0] ?_)
   refine ae ?_
   refine gm [1] [] rfl Tryz.results26 (dq 2 tk36 rfl rfl rfl) (fm rfl) ?_ (.inr rfl)
   exact ⟨rfl,.inr ⟨q,⟨a9,c9,zs⟩,hrun,hz,rfl,rfl⟩⟩
theorem rV(u:aI)(l:aS):bF (pA u l)∧(pA u l).length≤1+u.nodes.l.length:=by
 have h:bF (fP (u.nodes.l.zip l.nodes.l) (addN 0 l.code))∧(fP (u.nodes.l.zip l.nodes.l) (addN 0 l.code)).length≤(addN 0 l.code).length+(u.nodes.l.zip l.nodes.l).length:=fS (g:=qz) (fun f p h=>m3 h) _ _ (mm 0 l.code)
 have h1:(addN 0 l.code).length≤1:=by unfold addN;split<;>simp
 have h2:(u.nodes.l.zip l.nodes.l).length≤u.nodes.l.length:=by rw [List.length_zip];omega
 exact ⟨h.1,Nat.le_trans h.2 (by omega)⟩
structure ra (u:aI) (l:aS):Prop where
 len:l.nodes.l.length=u.nodes.l.length
 few:u.nodes.l.length≤100000000
 refs:dL u.nodes.l≤100000000
 ln:∀ z∈l.nodes.l,I64 z
 size:∀ x∈u.nodes.l,I64 x.size
 code:I64 l.code
 at_:∀ (k:Nat) (x:aQ) (a:Int),u.nodes.l[k]? = some x→l.nodes.l[k]? = some a→∀ r∈x.refs.l,-4611686018427387904≤a+r.at_∧a+r.at_≤4611686018427387904
 call:∀ c∈bZ u.nodes.l l.nodes.l,mf l.nodes.l c∧0≤c.at_∧c.at_≤1099511627264
def q0S(u:aI)(l:aS):StS:=⟨[],pA u l,[]⟩
abbrev vh:aS:=⟨bQ,bQ,bQ,0,0,0,0⟩
def zG(cs:List bC)(q0:StS)(st:Int)(l L:aS)(e:Int):Prop :=
 (gu l.nodes.l cs q0=none∧L=vh∧e=6)∨∃ q T,gu l.nodes.l cs q0=some q∧L = { l with stubs:=T } ∧ T.l=oR st q.U q.S∧e=0
theorem vX(bm b:Nat)(u:aI)(l:aS)(sv fv:Value)(st:Int)(q0:StS)(hq0:mh 200000000 q0)(hU:q0.U=[])(h:ra u l) :
   Con Tryz.prog 26 [.pointer (some ⟨bm,0,none⟩)] [ShF aQ.row u.nodes,bu aQ.ok u.nodes.l,ShF bd l.nodes] [Box bm 105 (mkV u l sv fv st b),aK sv 44 4 (q0.S.map bt.row),aK fv 95 2 (q0.fr.map aX),dZ b eI vBo (fA q0.U)]
     fun r ps hp=>hp=[]∧∃ L e,(r=.tuple #[L.val,.int .i64 e]∧ps=[ShF bt.row L.stubs])∧zG (bZ u.nodes.l l.nodes.l) q0 st l L e :=
 Con.conv (xW bm b u l sv fv st q0 hq0 hU h.len h.refs h.at_ (fun c hc=>(h.call c hc).1) fun c hc=>(h.call c hc).2) fun v ps' hp' ⟨h1,h2⟩=>by
   subst h1
   rcases h2 with ⟨h3,h4,h5⟩ | ⟨q,T,h3,h4,h5,h6⟩
   · subst h4 h5
     exact ⟨_,_,StE.ents (ps':=[ShF bt.row bQ]) fun p hp=>by rw [List.mem_singleton.1 hp];exact dT,rfl,vh,6,⟨rfl,rfl⟩,.inl ⟨h3,rfl,rfl⟩⟩
   · subst h5 h6
     exact ⟨_,_,StE.ents (ps':=[ShF bt.row T]) fun p hp=>.of hp,rfl,{ l with stubs:=T },0,⟨rfl,rfl⟩,.inr ⟨q,T,h3,rfl,h4,rfl⟩⟩
theorem mW(u:aI)(l:aS)(h:ra u l):Con Tryz.prog 13 [u.val,l.val] [ShF aQ.row u.nodes,bu aQ.ok u.nodes.l,ShF bd l.nodes] []
   fun r ps hp=>hp=[]∧∃ L e,(r=.tuple #[L.val,.int .i64 e]∧ps=[ShF bt.row L.stubs])∧zG (bZ u.nodes.l l.nodes.l) (q0S u l) 0 l L e:=by
 have hf:=rV u l
 have hfew:=h.few
 refine EN2 Tryz.func13 rfl (aSR (LT rfl (aT rfl rfl rfl (fun b0_0=>(aHN ?_)))))
 refine LT rfl (aT rfl rfl rfl (fun b0_1=>(aHN ?_)))
 refine LT rfl (aV (zs:=[.slice none 0 0,.slice none 0 0,.slice none 0 0,.int .i64 0,.int .i64 0,.int .i64 0,.int .i64 0]) (by kernel_rfl) rfl (fun b0_2=>(aHN ?_)))
 refine go 0 [0,41472,19971] ?_
 refine LT rfl (EC [2,1,0] [] rfl (tA u l h.len ⟨h.ln,h.size,h.code⟩ h.few) ?_)
 rintro _ _ _ ⟨rfl,bm,b,fv,rfl,rfl⟩
 refine aST ?_
 refine LF rfl (EC [2,1,0] [3,4,5,6] rfl (vX bm b u l _ fv 0 (q0S u l) ⟨hf.1,by have:=hf.2;show (pA u l).length≤_;omega,Nat.zero_le _,fun _ h=>by cases h⟩ rfl h) ?_)
 rintro _ _ _ ⟨rfl,L,e,⟨rfl,rfl⟩,hL⟩
 refine aST ?_
 refine go 2 [0,0,19974,0] ?_
 refine ae ?_
 refine gm [3] [] rfl Tryz.results13 (dq 2 tk36 rfl rfl rfl) (fm rfl) ?_ (.inr rfl)
 exact ⟨rfl,L,e,⟨rfl,rfl⟩,hL⟩
def gS(s:Span):List Span→List Span
 | []=>[s]
 | p::l=>if p.1+p.2<s.1 then p::gS s l else if s.1+s.2<p.1 then s::p::l else gS (min p.1 s.1,max (p.1+p.2) (s.1+s.2)-min p.1 s.1) l
def i6(x n:Int)(l:List Span):List Span:=if dQ x n=true∧n≠0 then gS (x,n) l else l
theorem xo(s:Span){l:List Span}{k:Nat}{p:Span}(h:l[k]? = some p):gS s (l.drop k)=if p.1+p.2<s.1 then p::gS s (l.drop (k+1)) else if s.1+s.2<p.1 then s::l.drop k else gS (min p.1 s.1,max (p.1+p.2) (s.1+s.2)-min p.1 s.1) (l.drop (k+1)):=by
 obtain ⟨h1,h2⟩:=List.getElem?_eq_some_iff.1 h
 rw [List.drop_eq_getElem_cons h1,h2];rfl
theorem xz(l:List Span)(ad:Option Addr)(c:Nat)(x n:Int)(hr:rgB l=true)(hl:∀ p∈l,I64 p.1∧I64 p.2)(hx:I64 x)(hn:I64 n)(hll:l.length≤400000000) :
   Con Tryz.prog 58 [.slice ad l.length c,.agg #[.int .i64 x,.int .i64 n]] [Sh (.slice ad l.length c) (.sl (l.map aX))] []
     fun r ps' hp'=>ps'=[]∧∃ ad' c',r=.slice ad' (i6 x n l).length c'∧hp'=[aK (.slice ad' (i6 x n l).length c') 95 2 ((i6 x n l).map aX)]:=by
 have HL:=Lib.hid hl
 have HRR:=Lib.hid hr
 have HR:=Lib.hid (fT.1 hr)
 clear hl hr
 refine EN2 Tryz.func58 rfl (jH 0 rfl (fun hlen => ?_))
 rw [List.length_map] at hlen
 refine aSR (LT rfl (aT rfl rfl rfl (fun b0_0=>(aHN ?_))))
 refine go 0 [0,0] ?_
 refine aU rfl (Q1 rfl (gr l ad c HL.out) 0 rfl) (go 0 [0,0,4608] ?_)
 refine aG rfl rfl (fun hc=>Q0 (aj (ah rfl hc) rfl) (gz _ _ hx hn)) (go 2 [0,0,0,1,0,0,0] ?_)
 refine aa _ rfl (fun h1 => ?_) (fun h1 => ?_)
 ·skip
  have hv:¬ (dQ x n=true∧n≠0):=by
    rintro ⟨g1,g2⟩
    rw [g1,HRR.out] at h1;simp at h1;exact g2 h1
  refine go 0 [0] ?_
  refine LT rfl (EC [0] [] rfl (mz l ad c hll) ?_)
  rintro _ _ _ ⟨rfl,ad',c',rfl,rfl⟩
  refine aST ?_
  refine go 2 [0] ?_
  refine ae (an (FZ1 [1] Tryz.results58 rfl ?_))
  unfold i6;rw [if_neg hv];exact ⟨rfl,ad',c',rfl,rfl⟩
 ·skip
  have hv:dQ x n=true∧n≠0:=by
    simp only [Bool.or_eq_false_iff,Bool.not_eq_false',decide_eq_false_iff_not] at h1
    exact ⟨h1.1.2,h1.2⟩
  have hvi:=dt.1 hv.1
  obtain ⟨t0,ht0⟩:∃ t0,gS (x,n) l=t0:=⟨_,rfl⟩
  refine go 4 [0] ?_
  refine dw 95 2 ?_
  show awp _ _ _ _ ⟨_,_,[_,_]⟩
  refine go 3 [0,95,0] ?_
  refine aF [0,3,5,24,25,26] [0] [0,1] (fun (q:Nat × Span × (Value × List Span)) s=>(q.1≤l.length∧q.2.2.2++gS q.2.1 (l.drop q.1)=t0∧q.2.2.2.length≤q.1∧0≤q.2.1.1∧0≤q.2.1.2∧q.2.1.1+q.2.1.2≤1099511627776)∧s=⟨[(0,true,.slice ad l.length c),(3,true,.pointer (some ⟨b0_0,0,none⟩)),(5,true,q.2.2.1),(24,true,.slice ad l.length c),(25,true,.int .i64 l.length),(26,true,.int .i64 q.1)],[Sh (.slice ad l.length c) (.sl (l.map aX))],[Box b0_0 95 [.int .i64 q.2.1.1,.int .i64 q.2.1.2],aK q.2.2.1 95 2 (q.2.2.2.map aX)]⟩) (fun q=>l.length-q.1) rfl (⟨(0,(x,n),(_,[])),⟨Nat.zero_le _,ht0,Nat.le_refl _,hvi.1,hvi.2.2.1,by dsimp only;omega⟩,rfl⟩) ?_
  rintro ⟨k,⟨sx,sn⟩,v,zs⟩ s ⟨⟨hk,hz,hzl,hs0,hs1,hs2⟩,rfl⟩
  dsimp only at hk hz hzl hs0 hs1 hs2 ⊢
  refine go 3 [0] ?_
  refine aa _ rfl (fun h2 => ?_) (fun h2 => ?_)
  ·skip
   have hk':k<l.length:=by simpa using h2
   obtain ⟨p,hp⟩:∃ p,l[k]? = some p:=⟨l[k]'hk',by simp⟩
   have hpv:=dt.1 (gM (HR.out k p hp))
   obtain ⟨q1,q2,q3,q4⟩:=hpv
   have hat:=xo (sx,sn) hp
   dsimp only at hat
   refine go 0 [0] ?_
   refine bK true rfl rfl (fun _=>eF Tryz.underlying78 tk95 rfl (ax 0 rfl) rfl (row:=aX p) (by simp [hp]) rfl rfl) (fun h=>absurd h (by decide)) (fun ⟨b6_1,o6_1⟩ => ?_)
   refine go 0 [4610] ?_
   refine LT rfl (aV (zs:=[.int .i64 0,.int .i64 0]) (by kernel_rfl) rfl (fun b6_3=>(aHN ?_)))
   refine go 4 [0,4614] ?_
   refine DR [] 6 (go 0 [9228] ?_)
   refine bV 1 rfl rfl (Q0 rfl (fH _ _ (by unfold I64;omega))) ?_
   refine go 2 [0,0,0,0] ?_
   refine aa _ rfl (fun h3 => ?_) (fun h3 => ?_)
   ·skip
    have hc:p.1+p.2<sx:=by simpa using h3
    rw [if_pos hc] at hat
    refine go 0 [0,4614] ?_
    refine LT rfl (WL (zs:=[.int .i64 0,.int .i64 0]) el78 rfl rfl rfl (.more rfl (.v rfl (.v rfl .nil)) .nil) rfl rfl (fun v10_2=>(aHN ?_)))
    refine aN rfl (bY 1 el78 rfl rfl rfl rfl (du 3 el78 rfl (by simp)) (by first | assumption | simp) (by show (zs.map aX).length+1≤_;rw [List.length_map];exact Nat.le_trans (show zs.length+1≤400000001 by omega) (by decide)) ((zs++[p]).length) (by show (zs.map aX).length+1=_;rw [List.length_map,List.length_append];rfl) (fun v10_3 c10_3 => ?_))
    refine aHK ?_
    refine go 1 [0,0,0] ?_
    refine ao ?_
    refine ⟨[0,3,5,24,25,26],[0],[0,1],rfl,?_⟩
    exact ⟨(k+1,(sx,sn),(_,zs++[p])),⟨⟨hk',by dsimp only;rw [← hz,hat,List.append_assoc];rfl,by dsimp only;rw [List.length_append];simp;omega,hs0,hs1,hs2⟩,by dsimp only;rw [List.map_append];rfl⟩,by dsimp only;omega⟩
   ·skip
    have hc:¬ p.1+p.2<sx:=by simpa using h3
    rw [if_neg hc] at hat
    refine aD (DR [] 6 (go 0 [0,12,9216] ?_))
    refine bV 3 rfl rfl (Q0 rfl (fH _ _ (by unfold I64;omega))) ?_
    refine go 2 [0,0] ?_
    refine aa _ rfl (fun h4 => ?_) (fun h4 => ?_)
    ·skip
     have hd:sx+sn<p.1:=by simpa using h4
     rw [if_pos hd] at hat
     have hml:(l.map aX).drop k=(l.drop k).map aX:=List.map_drop.symm
     have hdl:(l.drop k).length=l.length-k:=List.length_drop
     refine aD (DC [3,7] [] [b0_0] 9 (CF 0 rfl rfl rfl (bJ rfl) ?_))
     refine jd 1 0 rfl (by kernel_rfl) true rfl rfl (by simp) tk95 (fun _=>rfl) rfl rfl ?_
     refine CF 4 rfl rfl rfl (bJ rfl) (CF 5 rfl rfl rfl (bJ rfl) ?_)
     refine abv 6 rfl (by kernel_rfl) rfl rfl (wM k (l.length-k) el78 rfl (ax 1 rfl) rfl rfl (by rw [List.length_map];omega) (fun r hr=>by obtain ⟨z,_,rfl⟩:=List.mem_map.1 hr;rfl) (by rw [List.length_map])) (fun ⟨a12_6,c12_6⟩ => ?_)
     refine dY 2 [] (by kernel_rfl) (cW ?_ dH)
     refine eN 2 rfl rfl (Eff.x (id (WL (zs:=[.int .i64 0,.int .i64 0]) el78 rfl rfl rfl (.more rfl (.v rfl (.v rfl .nil)) .nil) rfl rfl (fun v12_2=>(CST ?_)))))
     refine dY 3 [] (by kernel_rfl) (cW ?_ dH)
     refine eN 3 rfl rfl (Eff.framed (q:=false) [1,3] rfl rfl (vg 0 rfl rfl aaD) ?_)
     refine id (bY 0 el78 rfl rfl rfl rfl (du 1 el78 rfl (by simp)) (by first | assumption | simp) (by show (zs.map aX).length+1≤_;rw [List.length_map];exact Nat.le_trans (show zs.length+1≤400000001 by omega) (by decide)) ((zs++[(sx,sn)]).length) (by show (zs.map aX).length+1=_;rw [List.length_map,List.length_append];rfl) (fun v12_3 c12_3 => ?_))
     refine uN (CST ?_)
     refine dY 7 [] (by kernel_rfl) (cW ?_ dH)
     refine eN 7 rfl rfl (Eff.framed (q:=false) [1] rfl rfl (vg 0 rfl rfl aaD) ?_)
     refine id (iZ 0 el78 el78 rfl rfl rfl rfl (ax 0 rfl) ((fun r hr=>by rw [hml] at hr;obtain ⟨z,_,rfl⟩:=List.mem_map.1 hr;rfl)) (by rw [hml];show (zs.map aX++[aX (sx,sn)]).length+((l.drop k).map aX).length≤_;rw [List.length_append,List.length_map,List.length_map,hdl];exact Nat.le_trans (show zs.length+1+(l.length-k)≤400000001 by omega) (by decide)) ((zs++[(sx,sn)]++l.drop k).length) (by simp;try omega) (fun v12_7 c12_7 => ?_))
     refine uN (CST ?_)
     refine CF 8 rfl rfl rfl (eu rfl) (kj (by kernel_rfl) (ao (ae (aO (aO (an (an (aO (an (FZ1 [1] Tryz.results58 rfl ?_))))))))))
     have e:i6 x n l=zs++[(sx,sn)]++l.drop k:=by unfold i6;rw [if_pos hv,ht0,← hz,hat,List.append_assoc];rfl
     rw [e]
     exact ⟨rfl,v12_7,c12_7,rfl,by rw [hml,List.map_append,List.map_append];rfl⟩
    ·skip
     have hd:¬ sx+sn<p.1:=by simpa using h4
     rw [if_neg hd] at hat
     refine go 2 [0,6,0,0,0,0] ?_
     refine DR [9] 10 (go 0 [0,9228] ?_)
     refine bV 2 rfl rfl (Q0 rfl (fH _ _ (by unfold I64;omega))) ?_
     refine go 0 [9216] ?_
     refine bV 4 rfl rfl (Q0 rfl (fH _ _ (by unfold I64;omega))) ?_
     refine go 0 [0,0,0] ?_
     refine bV 8 rfl rfl (bO (l:=[(0,.tmp 36),(1,.tmp 43)]) (zs:=[.int .i64 0,.int .i64 0]) (pl:=[(0,1),(1,1)]) (by kernel_rfl) (by kernel_rfl) (by kernel_rfl) rfl rfl rfl) (go 1 [7,4608,0,0] ?_)
     refine ao ?_
     refine ⟨[0,3,5,24,25,26],[0],[0,1],rfl,?_⟩
     exact ⟨(k+1,(min p.1 sx,max (p.1+p.2) (sx+sn)-min p.1 sx),(v,zs)),⟨⟨hk',by dsimp only;rw [← hz,hat],by dsimp only;omega,by dsimp only;omega,by dsimp only;omega,by dsimp only;omega⟩,rfl⟩,by dsimp only;omega⟩
  ·skip
   have hke:k=l.length:=by have:=of_decide_eq_false h2;omega
   subst hke
   rw [List.drop_length] at hz
   refine go 0 [0,4608] ?_
   refine LT rfl (WL (zs:=[.int .i64 0,.int .i64 0]) el78 rfl rfl rfl (.more rfl (.v rfl (.v rfl .nil)) .nil) rfl rfl (fun v14_2=>(aHN ?_)))
   refine aN rfl (bY 1 el78 rfl rfl rfl rfl (du 2 el78 rfl (by simp)) (by first | assumption | simp) (by show (zs.map aX).length+1≤_;rw [List.length_map];exact Nat.le_trans (show zs.length+1≤400000001 by omega) (by decide)) ((zs++[(sx,sn)]).length) (by show (zs.map aX).length+1=_;rw [List.length_map,List.length_append];rfl) (fun v14_3 c14_3 => ?_))
   refine aHK ?_
   refine go 2 [0] ?_
   refine ae (FZ1 [1] Tryz.results58 rfl ?_)
   have e:i6 x n l=zs++[(sx,sn)]:=by unfold i6;rw [if_pos hv,ht0,← hz];rfl
   rw [e]
   exact ⟨rfl,v14_3,c14_3,rfl,by rw [List.map_append];rfl⟩
theorem oK(l:Sl fM)(F:FuncId)(caps:List Value)(p q:Per)(Ψ:fM→Bool→Prop)(hF:aW Tryz.prog F=true)(h:∀ a∈l.l,Con Tryz.prog F (a.val::caps) [p,q] [] (YN Value.bool (Ψ a))):Con Tryz.prog 193 [l.val,.func (.func F) #[] caps.toArray] [ShF fM.row l,p,q] []
   (YN (fun z:Int=>.int .i64 z) (fun z=>(z≥0→∃ a∈l.l,Ψ a true)∧(¬ z≥0→∀ a∈l.l,Ψ a false))):=by
 refine EN2 Tryz.func193 rfl (aP (.of (ax 0 rfl)) (fun hlen=>(go 3 [0,0,95,0] ?_)))
 refine aF [0,1,7,8] [2,1,0] [] (fun (k:Nat) s=>(k≤l.l.length∧∀ a∈l.l.take k,Ψ a false)∧s=⟨[(0,true,l.val),(1,true,.func (.func F) #[] caps.toArray),(7,true,.int .i64 l.l.length),(8,true,.int .i64 k)],[ShF fM.row l,p,q],[]⟩) (fun k=>l.l.length-k) rfl (⟨0,⟨Nat.zero_le _,fun a ha=>by cases ha⟩,rfl⟩) ?_
 rintro k s ⟨⟨hk,hno⟩,rfl⟩
 refine go 3 [0] ?_
 refine aa _ rfl (fun h1 => ?_) (fun h1 => ?_)
 ·skip
  have hk':k<l.l.length:=by simpa using h1
  obtain ⟨a,ha⟩:∃ a,l.l[k]? = some a:=⟨l.l[k]'hk',by simp⟩
  refine go 0 [0,0,0,0,0] ?_
  refine UI Tryz.underlying78 tk95 0 rfl rfl rfl rfl rfl (ak ha) rfl rfl (fun ⟨b4_3,o4_3⟩=>(go 0 [4610] ?_))
  refine aq [1,0] (false) hF true rfl rfl (fun _=>rfl) (fun hc=>rfl) (fun hc=>h a (List.mem_of_getElem? ha)) (fun c hc=>(aNn ?_))
  refine aa _ rfl (fun h2 => ?_) (fun h2 => ?_)
  ·skip
   refine go 2 [0,0] ?_
   refine ae (aO (an (an (aO (an (FZ1 [] Tryz.results193 rfl ?_))))))
   exact ⟨⟨rfl,rfl⟩,_,rfl,fun _=>⟨a,List.mem_of_getElem? ha,h2 ▸ hc rfl⟩,fun hz=>(hz (Int.natCast_nonneg k)).elim⟩
  ·skip
   refine go 1 [0,0] ?_
   refine ao ?_
   refine ⟨[0,1,7,8],[2,1,0],[],rfl,?_⟩
   refine ⟨k+1,⟨⟨by omega,?_⟩,rfl⟩,by omega⟩
   intro y hy
   rw [List.take_add_one,ha,List.mem_append] at hy
   rcases hy with hy | hy
   · exact hno y hy
   · simp at hy;subst hy;exact h2 ▸ hc rfl
 ·skip
  refine go 2 [0] ?_
  refine ae (FZ1 [] Tryz.results193 rfl ?_)
  refine ⟨⟨rfl,rfl⟩,_,rfl,fun hz=>absurd hz (by decide),fun _ => ?_⟩
  rw [List.take_of_length_le (by simpa using h1)] at hno;exact hno
theorem oD(l:Sl fM)(F:FuncId)(caps:List Value)(p q:Per)(Ψ:fM→Bool→Prop)(hF:aW Tryz.prog F=true)(h:∀ a∈l.l,Con Tryz.prog F (a.val::caps) [p,q] [] (YN Value.bool (Ψ a))):Con Tryz.prog 119 [l.val,.func (.func F) #[] caps.toArray] [ShF fM.row l,p,q] []
   (YN Value.bool (fun b=>(b=true→∃ a∈l.l,Ψ a true)∧(b=false→∀ a∈l.l,Ψ a false))):=by
 refine EN2 Tryz.func119 rfl (go 0 [0,0,0] ?_)
 refine LT rfl (EC [2,1,0] [] rfl (oK l F caps p q Ψ hF h) ?_)
 rintro _ _ _ ⟨⟨rfl,rfl⟩,z,rfl,hz⟩
 refine aST ?_
 refine go 2 [0,0] ?_
 refine ae (FZ1 [] Tryz.results119 rfl ?_)
 exact ⟨⟨rfl,rfl⟩,_,rfl,fun hb=>hz.1 (by simpa using hb),fun hb=>hz.2 (by simpa using hb)⟩

theorem ig:∀ {l:List Span} {s:Span},bF l→0≤s.1→0<s.2→s.1+s.2≤1099511627776→bF (gS s l)∧(∀ b:Int,b<s.1→(∀ p∈l,b<p.1)→∀ q∈gS s l,b<q.1)∧(gS s l).length≤l.length+1
 | [],s,_,h0,h1,h2=>⟨⟨fun p hp=>by rw [show p=s from List.mem_singleton.1 hp];omega,List.pairwise_singleton ..⟩,fun b hb _ q hq=>by rw [show q=s from List.mem_singleton.1 hq];exact hb,Nat.le_refl _⟩
 | p :: l,s,hr,h0,h1,h2=>by
   have hp:=hr.ok p (List.mem_cons_self ..)
   have hg:=List.pairwise_cons.1 hr.gap
   unfold gS
   split
   · rename_i hc
     obtain ⟨i1,i2,i3⟩:=ig hr.tail h0 h1 h2
     refine ⟨⟨fun q hq => ?_,List.pairwise_cons.2 ⟨fun q hq=>i2 (p.1+p.2) hc (fun x hx=>hg.1 x hx) q hq,i1.gap⟩⟩,fun b hb hall q hq => ?_,by simp;omega⟩
     · rcases List.mem_cons.1 hq with rfl | hq
       · exact hp
       · exact i1.ok q hq
     · rcases List.mem_cons.1 hq with rfl | hq
       · exact hall _ (List.mem_cons_self ..)
       · exact i2 b hb (fun x hx=>hall x (List.mem_cons_of_mem _ hx)) q hq
   · split
     · rename_i hc hd
       refine ⟨⟨fun q hq => ?_,List.pairwise_cons.2 ⟨fun q hq => ?_,hr.gap⟩⟩,fun b hb hall q hq => ?_,by simp⟩
       · rcases List.mem_cons.1 hq with rfl | hq
         · omega
         · exact hr.ok q hq
       · rcases List.mem_cons.1 hq with rfl | hq
         · exact hd
         · have:=hg.1 q hq;omega
       · rcases List.mem_cons.1 hq with rfl | hq
         · exact hb
         · exact hall q hq
     · rename_i hc hd
       obtain ⟨i1,i2,i3⟩:=ig (s:=(min p.1 s.1,max (p.1+p.2) (s.1+s.2)-min p.1 s.1)) hr.tail (by dsimp only;omega) (by dsimp only;omega) (by dsimp only;omega)
       refine ⟨i1,fun b hb hall q hq => ?_,by simp;omega⟩
       exact i2 b (by have:=hall p (List.mem_cons_self ..);dsimp only;omega) (fun x hx=>hall x (List.mem_cons_of_mem _ hx)) q hq
theorem sQ{x n:Int}{l:List Span}(h:bF l):bF (i6 x n l)∧(i6 x n l).length≤l.length+1:=by
 unfold i6
 split
 · rename_i hv
   have:=dt.1 hv.1
   have h1:=ig (s:=(x,n)) h (by dsimp only;omega) (by dsimp only;omega) (by dsimp only;omega)
   exact ⟨h1.1,h1.2.2⟩
 · exact ⟨h,Nat.le_succ _⟩
def uR(x n:Int)(p:Span):Bool:=decide (max p.1 x<min (p.1+p.2) (x+n))
def nu(x n:Int)(l:List Span):Bool:=dQ x n && l.any (uR x n)
def toG(p:Span):fM:=⟨p.1,p.2⟩
theorem tn(b:Nat)(x n:Int)(p:fM)(hp:I64 (p.at_+p.size))(hx:I64 (x+n)):Con Tryz.prog 120 [p.val,.pointer (some ⟨b,0,none⟩)] [At b 0 [.v (.int .i64 x),.v (.int .i64 n)],Fa True] [] (YN Value.bool fun r=>r=uR x n (p.at_,p.size)):=by
 refine EN2 Tryz.func120 rfl (aSR (LT rfl (aT rfl rfl rfl (fun b0_0=>(aHN ?_)))))
 refine go 3 [0] ?_
 refine DR [] 12 (go 0 [0,0,0,2,0,9216] ?_)
 refine bV 6 rfl rfl (Q0 rfl (fH _ _ hp)) (go 0 [9218] ?_)
 refine bV 8 rfl rfl (Q0 rfl (fH _ _ hx)) (go 2 [0,0,0] ?_)
 refine ae (FZ1 [] Tryz.results120 rfl ?_)
 exact ⟨⟨rfl,rfl⟩,_,rfl,rfl⟩
theorem tc(l:List Span)(ad:Option Addr)(c:Nat)(F:FuncId)(caps:List Value)(p q:Per)(Ψ:fM→Bool→Prop)(hF:aW Tryz.prog F=true)(h:∀ a∈l.map toG,Con Tryz.prog F (a.val::caps) [p,q] [] (YN Value.bool (Ψ a))):Con Tryz.prog 119 [.slice ad l.length c,.func (.func F) #[] caps.toArray] [Sh (.slice ad l.length c) (.sl (l.map aX)),p,q] []
   (YN Value.bool (fun b=>(b=true→∃ a∈l.map toG,Ψ a true)∧(b=false→∀ a∈l.map toG,Ψ a false))):=by
 have H:=oD ⟨ad,c,l.map toG⟩ F caps p q Ψ hF h
 unfold ShF Sl.val at H
 dsimp only at H
 rw [List.length_map,List.map_map] at H
 exact H
theorem vM (l : List Span) (ad:Option Addr) (c:Nat) (x n:Int) (hr:bF l) (hx:I64 x) (hn:I64 n) :
   Con Tryz.prog 82 [.slice ad l.length c,.agg #[.int .i64 x,.int .i64 n]] [Sh (.slice ad l.length c) (.sl (l.map aX))] [] fun r _ _=>r=.bool (nu x n l):=by
 have hrg:=hr.to
 have hl:=hr.i64
 refine EN2 Tryz.func82 rfl (aSR (LT rfl (aT rfl rfl rfl (fun b0_0=>(aHN ?_)))))
 refine go 0 [0,0] ?_
 refine aU rfl (Q1 rfl (gr l ad c hl) 0 rfl) (go 0 [0,0,4608] ?_)
 refine aG rfl rfl (fun hc=>Q0 (aj (ah rfl hc) rfl) (gz _ _ hx hn)) (go 2 [0,0] ?_)
 refine aa _ rfl (fun h1 => ?_) (fun h1 => ?_)
 ·skip
  have hv:dQ x n=false:=by rw [hrg] at h1;simpa using h1
  refine go 2 [0] ?_
  refine ae (an (FZ1 [] Tryz.results82 rfl ?_))
  unfold nu;rw [hv];rfl
 ·skip
  have hv:dQ x n=true:=by rw [hrg] at h1;simpa using h1
  have hvi:=dt.1 hv
  refine aE (ao (aD (aY 0 rfl rfl ?_)))
  show awp _ _ _ _ ⟨_,At _ 0 _::_,_⟩
  refine az (aM rfl (aU rfl (cx (l:=[.tmp 3]) rfl) ?_))
  refine aq (caps:=[]) [0,1] (false) (by kernel_rfl) true rfl rfl (fun _=>rfl) (fun hc=>rfl) (fun hc=>by rw [List.append_nil];exact (tc l ad c 120 [.pointer (some ⟨b0_0,0,none⟩)] (At b0_0 0 [.v (.int .i64 x),.v (.int .i64 n)]) (Fa True) (fun a r=>r=uR x n (a.at_,a.size)) (by kernel_rfl) (fun a ha=>tn b0_0 x n a (by obtain ⟨z,hz,rfl⟩:=List.mem_map.1 ha;have:=hr.ok z hz;show I64 (z.1+z.2);unfold I64;omega) (by unfold I64;omega))).pre (iq (.of (ax 0 rfl)) (.of (ax 1 rfl)) (fun _ _ _=>trivial))) (fun c1 hc1 => ?_)
  refine go 2 [0] ?_
  refine ae (FZ1 [] Tryz.results82 rfl ?_)
  have he : c1 = nu x n l:=by
    unfold nu;rw [hv,Bool.true_and]
    cases hcc:c1 with
    | true => obtain ⟨a,ha,hm⟩:=(hc1 rfl).1 hcc
              obtain ⟨p,hp,rfl⟩:=List.mem_map.1 ha
              exact (List.any_eq_true.2 ⟨p,hp,hm.symm⟩).symm
    | false => symm;rw [List.any_eq_false];intro p hp
               have:=(hc1 rfl).2 hcc (toG p) (List.mem_map_of_mem hp)
               rw [show uR x n p=false from this.symm];exact Bool.false_ne_true
  rw [he]
end Go.Proofs.YtgkbbdgklpabpaaGreatDoor

namespace Go.Proofs.YtgkbbdgklpabpaaGreatDoor
open Go.RowKit Go.Lp Go.Sy
def sG(r:dR):Bool:=decide (r.to_.kind=1) && (decide (r.kind=7) || decide (r.kind=6))
def oQ(B:List Bool)(r:dR):List Bool:=if sG r=true∧0≤r.to_.n∧r.to_.n<B.length then B.set r.to_.n.toNat true else B
def wz(B:List Bool)(ns:List aQ):List Bool:=ns.foldl (fun B x=>x.refs.l.foldl oQ B) B
def j0(B:List Bool):List Int:=(B.zipIdx.filter (·.1)).map fun p=>(p.2:Int)
def eE(u:aI):List Int:=j0 (wz (List.replicate u.imports.l.length false) u.nodes.l)
theorem yE(B:List Bool)(r:dR):(oQ B r).length=B.length:=by unfold oQ;split<;>simp
theorem nS:∀ (rs:List dR) (B:List Bool),(rs.foldl oQ B).length=B.length
 | [],_=>rfl
 | r::rs,B=>by rw [List.foldl_cons,nS rs,yE]
theorem iw:∀ (ns:List aQ) (B:List Bool),(wz B ns).length=B.length
 | [],_=>rfl
 | x::ns,B=>by
   show (wz (x.refs.l.foldl oQ B) ns).length=_
   rw [iw ns,nS]
theorem tW{B:List Bool}{j:Nat}{y:Bool}(h:B[j]? = some y):j0 (B.take (j+1))=j0 (B.take j)++(if y=true then [(j:Int)] else []):=by
 have hl:(B.take j).length=j:=by rw [List.length_take];have:=(List.getElem?_eq_some_iff.1 h).1;omega
 unfold j0
 rw [List.take_add_one,h,Option.toList_some,List.zipIdx_append,List.filter_append,List.map_append,hl]
 cases y<;>simp
theorem pI(B:List Bool):(j0 B).length≤B.length:=by
 unfold j0;rw [List.length_map];exact Nat.le_trans (List.length_filter_le _ _) (by rw [List.length_zipIdx];exact Nat.le_refl _)
theorem wA{B:List Bool}{i:Int}(h:i∈j0 B):0≤i∧i<B.length:=by
 unfold j0 at h
 obtain ⟨p,hp,rfl⟩:=List.mem_map.1 h
 have:=List.mem_zipIdx (List.mem_filter.1 hp).1
 omega
theorem wD{u:aI}{i:Int}(h:i∈eE u):0≤i∧i<u.imports.l.length:=by
 have:=wA h
 rw [iw,List.length_replicate] at this;exact this
theorem pJ(u:aI):(eE u).length≤u.imports.l.length:=by
 have:=pI (wz (List.replicate u.imports.l.length false) u.nodes.l)
 rw [iw,List.length_replicate] at this;exact this
abbrev CkS:=List Span × Bool
def eV(c:CkS)(a n al f u:Int):CkS :=
 if (c.2 && decide (f≤a) && decide (a≤u-n) && decide (a.tmod al=0) && !nu a n c.1)=true then (i6 a n c.1,true) else (c.1,false)
theorem xx{c:CkS}{a n al f u:Int}(h:bF c.1):bF (eV c a n al f u).1∧(eV c a n al f u).1.length≤c.1.length+1:=by
 unfold eV
 split
 · exact sQ h
 · exact ⟨h,Nat.le_succ _⟩
def fV(k:Int):Bool:=decide (k=3) || decide (k=4)
def ni(k:Int):Int:=if k=0 then 0 else if k=1 then 1 else if k=2 then 2 else 0
theorem aa1(k:Int):ni k=0∨ni k=1∨ni k=2:=by
 unfold ni;split
 · exact .inl rfl
 · split
   · exact .inr (.inl rfl)
   · split
     · exact .inr (.inr rfl)
     · exact .inl rfl
abbrev jU(l:aS):List Int:=[0,l.code,l.data,l.zero]
abbrev Ck2:=CkS × CkS
def kq(l:aS)(q:Ck2)(p:aQ × Int):Ck2 :=
 if fV p.1.kind=true then (q.1,eV q.2 p.2 p.1.size p.1.align 0 l.tls) else (eV q.1 p.2 p.1.size p.1.align (elt (jU l) (ni p.1.kind)) (elt (jU l) (ni p.1.kind+1)),q.2)
def ik(l:aS)(need:List Int)(c:CkS)(p:Int × Nat):CkS:=if (p.2:Int)∈need then eV c p.1 8 8 l.code l.data else (c.1,c.2 && decide (p.1 = -1))
def sX(l:aS)(c:CkS)(s:bt):CkS:=eV c s.at_ 8 8 0 l.code
def jz(u:aI)(l:aS):Bool :=
 decide (l.code.tmod 256=0) && decide (l.data.tmod 256=0) && decide (l.zero.tmod 256=0) && (decide (0≤l.code) && decide (l.code≤l.data) && decide (l.data≤l.zero) && decide (l.zero≤1048576)) && decide (0≤l.tls) && decide (l.tls≤1048576) && decide (l.nodes.l.length=u.nodes.l.length) && decide (l.slots.l.length=u.imports.l.length)
theorem uo{u:aI}{l:aS}(h:jz u l=true):(l.code.tmod 256=0∧l.data.tmod 256=0∧l.zero.tmod 256=0)∧(0≤l.code∧l.code≤l.data∧l.data≤l.zero∧l.zero≤1048576)∧(0≤l.tls∧l.tls≤1048576)∧l.nodes.l.length=u.nodes.l.length∧l.slots.l.length=u.imports.l.length:=by
 unfold jz at h
 simp only [Bool.and_eq_true,decide_eq_true_eq] at h
 omega
def ck0:Ck2:=(([],true),([],true))
def my(u:aI)(l:aS):Ck2:=(u.nodes.l.zip l.nodes.l).foldl (kq l) ck0
def aaG(u:aI)(l:aS):CkS:=l.stubs.l.foldl (sX l) (l.slots.l.zipIdx.foldl (ik l (eE u)) (my u l).1)
def prB(u:aI)(l:aS):Bool:=jz u l && ((aaG u l).2 && (my u l).2.2)
def oy(B:Nat)(c:CkS):Prop:=bF c.1∧c.1.length≤B
theorem oy.use{B:Nat}{c:CkS}(h:oy B c)(a n al f u:Int):oy (B+1) (eV c a n al f u):=by
 have:=xx (a:=a) (n:=n) (al:=al) (f:=f) (u:=u) h.1
 exact ⟨this.1,Nat.le_trans this.2 (Nat.succ_le_succ h.2)⟩
theorem oy.mono{B B':Nat}{c:CkS}(h:oy B c)(hb:B≤B'):oy B' c:=⟨h.1,Nat.le_trans h.2 hb⟩
open Go.Proofs.Tryz
attribute [local irreducible] aL aB awp aC fwp Quiet
def j6(r:dR):eh:=⟨0,r.at_,r.kind,0,r.add⟩
def varOf(v:bR):dN:=⟨0,v.from_,v.to_,v.name,v.where_,v.n⟩
def iD(x:aQ):bz:=⟨x.sec,x.kind,x.align,x.size,x.bytes,false⟩
def zv:bI:=⟨⟨#[100]⟩,.empty,false,1,0,1,-1,0,0,0⟩
theorem yh{α:Type}{f:α→Per}{x:α}{ps:List Per}(h:Ent ps (f x)):Ent ps (bu f [x]):=fun w S hp y hy=>by rw [List.mem_singleton.1 hy];exact h w S hp
structure xd (x:aQ) (o:aH):Prop where
 secs:o.secs.l=[iD x]
 rels:o.rels.l=x.refs.l.map j6
 groups:o.groups.l=[]
 inl:o.inlines=x.inlines
abbrev abh(x:aQ)(a1 a2:Option Addr)(R:Sl eh)(V:Sl dN):aH:=⟨⟨#[111]⟩,⟨a1,1,[iD x]⟩,⟨a2,1,[zv]⟩,R,bQ,bQ,x.lines,x.inlines,V,x.depths,bQ⟩
theorem lB(x:aQ)(h1:x.refs.l.length≤100000000)(h2:x.vars.l.length≤100000000):Con Tryz.prog 68 [x.val] [x.ok] [] fun r ps hp=>hp=[]∧∃ o:aH,(r=o.val∧ps=[o.ok])∧xd x o:=by
 refine Con.conv (R:=fun r ps hp=>hp=[]∧∃ a1 a2 R V,r=(abh x a1 a2 R V).val∧(R.l=x.refs.l.map j6∧V.l=x.vars.l.map varOf)∧ps=[ShF dN.row V,ShF eh.row R,cnd true (Sh (.slice a2 1 1) (.sl [zv.row])),cnd true (Sh (.slice a1 1 1) (.sl [(iD x).row])),x.ok]) ?_ fun _ _ _ ⟨e1,a1,a2,R,V,e2,⟨e3,e4⟩,e5⟩ => ?_
 rotate_left
 · subst e1 e2 e5
   refine ⟨_,_,StE.ents (ps':=[(abh x a1 a2 R V).ok]) fun p hp => ?_,rfl,abh x a1 a2 R V,⟨rfl,rfl⟩,rfl,e3,rfl,rfl⟩
   rw [List.mem_singleton.1 hp]
   have hx:Ent [ShF dN.row V,ShF eh.row R,cnd true (Sh (.slice a2 1 1) (.sl [zv.row])),cnd true (Sh (.slice a1 1 1) (.sl [(iD x).row])),x.ok] x.ok:=.of (ax 4 rfl)
   exact .mk2 (rO (show (⟨#[111]⟩:ByteArray).size≤maxLen by decide)) (.mk2 (.yes (.of (ax 3 rfl)) rfl) (.mk2 (yh (.mk2 (aQ.f_sec hx) (aQ.f_bytes hx))) (.mk2 (.yes (.of (ax 2 rfl)) rfl) (.mk2 (yh (.mk2 (rO (by decide)) (rO (by decide)))) (.mk2 (.of (ax 1 rfl)) (.mk2 dT (.mk2 gW (.mk2 dT (.mk2 (aQ.f_lines hx) (.mk2 (aQ.f_linesA hx) (.mk2 (aQ.f_inlines hx) (.mk2 (aQ.f_inlinesA hx) (.mk2 (.of (ax 0 rfl)) (.mk2 (fun w S h y hy=>by
     rw [e4] at hy
     obtain ⟨z,hz,rfl⟩:=List.mem_map.1 hy
     exact aQ.f_varsA hx w S h z hz) (.mk2 (aQ.f_depths hx) (.mk2 dT gW))))))))))))))))
 refine EN1 Tryz.func68 rfl (aP (aQ.f_refs (.of (ax 0 rfl))) (fun hlen=>(aP (aQ.f_vars (.of (ax 0 rfl))) (fun hlen2=>(aSR (LT rfl (aT rfl rfl rfl (fun b0_0=>(aHN ?_)))))))))
 refine LT rfl (aV (zs:=[.string .empty,.slice none 0 0,.slice none 0 0,.slice none 0 0,.slice none 0 0,.slice none 0 0,.slice none 0 0,.slice none 0 0,.slice none 0 0,.slice none 0 0,.slice none 0 0]) (by kernel_rfl) rfl (fun b0_1=>(aHN ?_)))
 refine go 0 [1,0,2,0,3,0,4,0,5,0] ?_
 refine aU rfl (bO (l:=[(0,.tmp 9),(1,.tmp 11),(2,.tmp 13),(3,.tmp 15),(4,.tmp 17)]) (zs:=[.string .empty,.int .i64 0,.int .i64 0,.int .i64 0,.string .empty,.bool false]) (pl:=[(0,1),(1,1),(2,1),(3,1),(4,1),(5,1)]) (by kernel_rfl) (by kernel_rfl) (by kernel_rfl) rfl rfl rfl) (ey (zs:=[.string .empty,.int .i64 0,.int .i64 0,.int .i64 0,.string .empty,.bool false]) (l:=[(0,.tmp 18)]) el118 (by kernel_rfl) (by decide) (by decide) (by decide) rfl _ rfl (fun hc=>rfl) rfl (.more rfl (.v rfl (.v rfl (.v rfl (.v rfl (.v rfl (.v rfl .nil)))))) .nil) rfl rfl (fun v1_11=>(aU rfl (bO (l:=[(0,.const (.string ⟨#[100]⟩)),(3,.const (.int .i64 1)),(5,.const (.int .i64 1)),(6,.const (.int .i64 (-1)))]) (zs:=[.string .empty,.string .empty,.bool false,.int .i64 0,.int .i64 0,.int .i64 0,.int .i64 0,.int .i64 0,.int .i64 0,.int .i64 0]) (pl:=[(0,1),(1,1),(2,1),(3,1),(4,1),(5,1),(6,1),(7,1),(8,1),(9,1)]) (by kernel_rfl) (by kernel_rfl) (by kernel_rfl) rfl rfl rfl) (ey (zs:=[.string .empty,.string .empty,.bool false,.int .i64 0,.int .i64 0,.int .i64 0,.int .i64 0,.int .i64 0,.int .i64 0,.int .i64 0]) (l:=[(0,.tmp 20)]) el119 (by kernel_rfl) (by decide) (by decide) (by decide) rfl _ rfl (fun hc=>rfl) rfl (.more rfl (.v rfl (.v rfl (.v rfl (.v rfl (.v rfl (.v rfl (.v rfl (.v rfl (.v rfl (.v rfl .nil)))))))))) .nil) rfl rfl (fun v1_13=>(go 0 [8,0,9,0,11,0] ?_))))))
 refine aU rfl (bO (l:=[(0,.const (.string ⟨#[111]⟩)),(1,.tmp 19),(2,.tmp 21),(6,.tmp 23),(7,.tmp 25),(9,.tmp 27)]) (zs:=[.string .empty,.slice none 0 0,.slice none 0 0,.slice none 0 0,.slice none 0 0,.slice none 0 0,.slice none 0 0,.slice none 0 0,.slice none 0 0,.slice none 0 0,.slice none 0 0]) (pl:=[(0,1),(1,1),(2,1),(3,1),(4,1),(5,1),(6,1),(7,1),(8,1),(9,1),(10,1)]) (by kernel_rfl) (by kernel_rfl) (by kernel_rfl) rfl rfl rfl) (LT rfl (aV (zs:=[.string .empty,.slice none 0 0,.slice none 0 0,.slice none 0 0,.slice none 0 0,.slice none 0 0,.slice none 0 0,.slice none 0 0,.slice none 0 0,.slice none 0 0,.slice none 0 0]) (by kernel_rfl) rfl (fun b1_21=>(aHN ?_))))
 refine go 4 [32262] ?_
 refine dw 178 5 ?_
 show awp _ _ _ _ ⟨_,_,[_,_,_,_]⟩
 refine go 3 [6,0,54,0] ?_
 refine aF [1,2,3,30,31,32] [2,1,0] [0,1,2,3] (fun (q:Nat × (Value × List eh)) st=>(q.1≤x.refs.l.length∧q.2.2=(x.refs.l.take q.1).map j6)∧st=⟨[(1,true,.pointer (some ⟨b0_0,0,none⟩)),(2,true,.pointer (some ⟨b0_1,0,none⟩)),(3,true,.pointer (some ⟨b1_21,0,none⟩)),(30,true,x.refs.val),(31,true,.int .i64 x.refs.l.length),(32,true,.int .i64 q.1)],[cnd true (Sh (.slice v1_13 1 1) (.sl [zv.row])),cnd true (Sh (.slice v1_11 1 1) (.sl [(iD x).row])),x.ok],[Box b0_0 52 x.vs,Box b0_1 126 (nmO .empty).vs,Box b1_21 126 [.string ⟨#[111]⟩,.slice v1_11 1 1,.slice v1_13 1 1,q.2.1,.slice none 0 0,.slice none 0 0,x.lines.val,x.inlines.val,.slice none 0 0,x.depths.val,.slice none 0 0],aK q.2.1 178 5 (q.2.2.map eh.row)]⟩) (fun q=>x.refs.l.length-q.1) rfl (⟨(0,(_,[])),⟨Nat.zero_le _,rfl⟩,rfl⟩) ?_
 rintro ⟨k,v,zs⟩ st ⟨⟨hk,hz⟩,rfl⟩
 dsimp only at hk hz
 have hzl:zs.length=k:=by rw [hz,List.length_map,List.length_take];omega
 refine go 3 [0] ?_
 refine aa _ rfl (fun h1 => ?_) (fun h1 => ?_)
 ·skip
  have hk':k<x.refs.l.length:=by simpa using h1
  obtain ⟨r,hr⟩:∃ r,x.refs.l[k]? = some r:=⟨_,List.getElem?_eq_getElem hk'⟩
  refine aE (ao (aD (aJ (aSR (bK true rfl rfl (fun _=>ai Tryz.underlying45 tk54 rfl ((aQ.f_refs (.of (ax 2 rfl)))) rfl (ak hr) rfl rfl) (fun h=>absurd h (by decide)) (fun ⟨b4_0,o4_0⟩=>(go 0 [19970] ?_)))))))
  refine LT rfl (aV (zs:=[.int .i64 0,.int .i64 0,.int .i64 0,.int .i64 0,.int .i64 0,.int .i64 0,.int .i64 0]) (by kernel_rfl) rfl (fun b4_2=>(aHN ?_)))
  refine go 0 [19980,3,6,0,12,1,12,6,12] ?_
  refine aU rfl (bO (l:=[(1,.tmp 39),(2,.tmp 41),(4,.tmp 43)]) (zs:=[.int .i64 0,.int .i64 0,.int .i64 0,.int .i64 0,.int .i64 0]) (pl:=[(0,1),(1,1),(2,1),(3,1),(4,1)]) (by kernel_rfl) (by kernel_rfl) (by kernel_rfl) rfl rfl rfl) (LT rfl (WL (zs:=[.int .i64 0,.int .i64 0,.int .i64 0,.int .i64 0,.int .i64 0]) el120 rfl rfl rfl (.more rfl (.v rfl (.v rfl (.v rfl (.v rfl (.v rfl .nil))))) .nil) rfl rfl (fun v5_9=>(aHN ?_))))
  refine aN rfl (bY 3 el120 rfl rfl rfl rfl (du 5 el120 rfl (by simp)) (by first | assumption | simp) (by show (zs.map eh.row).length+1≤_;rw [List.length_map];exact Nat.le_trans (show zs.length+1≤100000001 by omega) (by decide)) ((zs++[j6 r]).length) (by show (zs.map eh.row).length+1=_;rw [List.length_map,List.length_append];rfl) (fun v5_10 c5_10 => ?_))
  refine aHK ?_
  refine go 1 [3,6,0,0] ?_
  refine ao ?_
  refine ⟨[1,2,3,30,31,32],[2,1,0],[0,1,2,3],rfl,?_⟩
  exact ⟨(k+1,(_,zs++[j6 r])),⟨⟨by dsimp only;omega,by dsimp only;rw [List.take_add_one,hr,List.map_append,← hz];rfl⟩,by dsimp only;rw [List.map_append];rfl⟩,by dsimp only;omega⟩
 ·skip
  have hke:k=x.refs.l.length:=by have:=of_decide_eq_false h1;omega
  subst hke
  rw [List.take_length] at hz
  refine ba (bg (bg (bk (ao (aD (aD (dw 180 6 ?_)))))))
  show awp _ _ _ _ ⟨_,_,[_,_,_,_,_]⟩
  refine go 3 [10,0,134,0] ?_
  refine aF [1,2,3,50,51,52] [2,1,0] [0,1,2,3,4] (fun (q:Nat × (Value × List dN)) st=>(q.1≤x.vars.l.length∧q.2.2=(x.vars.l.take q.1).map varOf)∧st=⟨[(1,true,.pointer (some ⟨b0_0,0,none⟩)),(2,true,.pointer (some ⟨b0_1,0,none⟩)),(3,true,.pointer (some ⟨b1_21,0,none⟩)),(50,true,x.vars.val),(51,true,.int .i64 x.vars.l.length),(52,true,.int .i64 q.1)],[cnd true (Sh (.slice v1_13 1 1) (.sl [zv.row])),cnd true (Sh (.slice v1_11 1 1) (.sl [(iD x).row])),x.ok],[Box b0_0 52 x.vs,Box b0_1 126 (nmO .empty).vs,Box b1_21 126 [.string ⟨#[111]⟩,.slice v1_11 1 1,.slice v1_13 1 1,v,.slice none 0 0,.slice none 0 0,x.lines.val,x.inlines.val,q.2.1,x.depths.val,.slice none 0 0],aK v 178 5 (zs.map eh.row),aK q.2.1 180 6 (q.2.2.map dN.row)]⟩) (fun q=>x.vars.l.length-q.1) rfl (⟨(0,(_,[])),⟨Nat.zero_le _,rfl⟩,rfl⟩) ?_
  rintro ⟨j,w,ys⟩ st ⟨⟨hj,hy⟩,rfl⟩
  dsimp only at hj hy
  have hyl:ys.length=j:=by rw [hy,List.length_map,List.length_take];omega
  refine go 3 [0] ?_
  refine aa _ rfl (fun h2 => ?_) (fun h2 => ?_)
  ·skip
   have hj':j<x.vars.l.length:=by simpa using h2
   obtain ⟨r,hr⟩:∃ r,x.vars.l[j]? = some r:=⟨_,List.getElem?_eq_getElem hj'⟩
   refine aE (ao (aD (aJ (aSR (bK true rfl rfl (fun _=>ai Tryz.underlying49 tk134 rfl ((aQ.f_vars (.of (ax 2 rfl)))) rfl (ak hr) rfl rfl) (fun h=>absurd h (by decide)) (fun ⟨b9_0,o9_0⟩=>(go 0 [26114] ?_)))))))
   refine LT rfl (aV (zs:=[.int .i64 0,.int .i64 0,.string .empty,.int .i64 0,.int .i64 0,.int .i64 0,.int .i64 0,.int .i64 0,.int .i64 0]) (by kernel_rfl) rfl (fun b9_2=>(aHN ?_)))
   refine go 0 [26127,8,6,0,15,1,15,2,15,3,15,4,15] ?_
   refine aU rfl (bO (l:=[(1,.tmp 59),(2,.tmp 61),(3,.tmp 63),(4,.tmp 65),(5,.tmp 67)]) (zs:=[.int .i64 0,.int .i64 0,.int .i64 0,.string .empty,.int .i64 0,.int .i64 0]) (pl:=[(0,1),(1,1),(2,1),(3,1),(4,1),(5,1)]) (by kernel_rfl) (by kernel_rfl) (by kernel_rfl) rfl rfl rfl) (LT rfl (WL (zs:=[.int .i64 0,.int .i64 0,.int .i64 0,.string .empty,.int .i64 0,.int .i64 0]) el123 rfl rfl rfl (.more rfl (.v rfl (.v rfl (.v rfl (.v rfl (.v rfl (.v rfl .nil)))))) .nil) rfl rfl (fun v10_13=>(aHN ?_))))
   refine aN rfl (bY 4 el123 rfl rfl rfl rfl (du 6 el123 rfl (by simp)) (by first | assumption | simp) (by show (ys.map dN.row).length+1≤_;rw [List.length_map];exact Nat.le_trans (show ys.length+1≤100000001 by omega) (by decide)) ((ys++[varOf r]).length) (by show (ys.map dN.row).length+1=_;rw [List.length_map,List.length_append];rfl) (fun v10_14 c10_14 => ?_))
   refine aHK ?_
   refine go 1 [8,6,0,0] ?_
   refine ao ?_
   refine ⟨[1,2,3,50,51,52],[2,1,0],[0,1,2,3,4],rfl,?_⟩
   exact ⟨(j+1,(_,ys++[varOf r])),⟨⟨by dsimp only;omega,by dsimp only;rw [List.take_add_one,hr,List.map_append,← hy];rfl⟩,by dsimp only;rw [List.map_append];rfl⟩,by dsimp only;omega⟩
  ·skip
   have hje:j=x.vars.l.length:=by have:=of_decide_eq_false h2;omega
   subst hje
   rw [List.take_length] at hy
   refine ba (bg (bg (bk (ao (aD (cX 3 rfl (fun _ _ _ h=>dx h) (fun ⟨a3,c3,hv⟩=>(cX 4 rfl (fun _ _ _ h=>dx h) (fun ⟨a4,c4,hw⟩ => ?_)))))))))
   rw [List.length_map] at hv hw
   dsimp only at hv hw ⊢
   subst hv hw
   refine cQ 3 (ShF eh.row ⟨a3,c3,zs⟩) rfl (fun _ _ _ h=>dm h) (cQ 4 (ShF dN.row ⟨a4,c4,ys⟩) rfl (fun _ _ _ h=>dm h) (go 2 [32262,32259] ?_))
   refine ae ?_
   refine rR [4,3,2,1,0] [] rfl Tryz.results68 (dq 1 tk126 rfl rfl rfl) ?_ (.inr rfl)
   exact ⟨rfl,v1_11,v1_13,⟨a3,c3,zs⟩,⟨a4,c4,ys⟩,rfl,⟨hz,hy⟩,rfl⟩
structure SzU (u:aI):Prop where
 nodes:u.nodes.l.length≤100000000
 imports:u.imports.l.length≤100000000
 node:∀ x∈u.nodes.l,x.refs.l.length≤100000000∧x.vars.l.length≤100000000∧x.inlines.l.length≤100000000
end Go.Proofs.YtgkbbdgklpabpaaGreatDoor

