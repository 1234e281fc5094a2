/- Parts of the proof, in build order. No condition. -/
import Derived.Test.YtgkbbdgklpabpaaGreatDoorSc21
import Derived.Test.YtgkbbdgklpabpaaGreatDoorSc07
import Derived.Test.YtgkbbdgklpabpaaGreatDoorSc05
import Derived.Test.YtgkbbdgklpabpaaGreatDoorSc09
import Derived.Test.YtgkbbdgklpabpaaGreatDoorSc06
import Derived.Test.YtgkbbdgklpabpaaGreatDoorSc19
set_option linter.unusedSimpArgs false
set_option linter.unusedVariables false
set_option maxHeartbeats 20000000
set_option maxRecDepth 20000
namespace Go.Proofs.YtgkbbdgklpabpaaGreatDoor
open Go.RowKit Go.Lp Go.Sy
open Go.Proofs.Tryz
attribute [local irreducible] aL aB awp aC fwp Quiet
structure qp (B:Nat) (q:StS):Prop where
 right:bD q.fr
 frl:q.fr.length≤B
 sl:q.S.length≤B
 at_:∀ s∈q.S,-4398046511104≤s.at_∧s.at_≤4398046511104
theorem qp.step{B:Nat}{q q':StS}{ln:List Int}{c:bt}(h:qp B q)(hc:0≤c.at_∧c.at_≤1099511627264)(he:fj ln q c=some q'):qp (B+1) q':=by
 have h1:=h.frl;have h2:=h.sl
 unfold fj at he
 split at he
 · cases he
 split at he
 · cases he;exact ⟨h.right,by omega,by omega,h.at_⟩
 split at he
 · cases he;exact ⟨h.right,by dsimp only;omega,by dsimp only;omega,h.at_⟩
 split at he
 · rename_i hf
   cases he
   obtain ⟨p,hp,k1,k2,k3,k4⟩:=ss (al:=8) (by omega) (by omega) h.right hf
   have hpo:=h.right.ok p hp
   have hg:=jF (x:=(eN 8 8 (c.at_-512) (c.at_+512) q.fr).1) (n:=8) h.right
   exact ⟨hg.1,by dsimp only;omega,by dsimp only;rw [List.length_append];simp;omega,fun s hs=>by
     rcases List.mem_append.1 hs with hs | hs
     · exact h.at_ s hs
     · rw [List.mem_singleton.1 hs];dsimp only;omega⟩
 · cases he
theorem qp.mono{B B':Nat}{q:StS}(h:qp B q)(hb:B≤B'):qp B' q:=⟨h.right,Nat.le_trans h.frl hb,Nat.le_trans h.sl hb,h.at_⟩
def sI(st:Int)(U:List Int)(S:List bj):List bj:=(S.zipIdx.filter fun p=>decide ((p.2:Int)∈U) || decide ((p.2:Int)≥st)).map (·.1)
theorem xt{st:Int}{U:List Int}{S:List bj}{j:Nat}{y:bj}(h:S[j]? = some y):sI st U (S.take (j+1))=sI st U (S.take j)++(if (decide ((j:Int)∈U) || decide ((j:Int)≥st))=true then [y] else []):=by
 have hl:(S.take j).length=j:=by rw [List.length_take];have:=(List.getElem?_eq_some_iff.1 h).1;omega
 unfold sI
 rw [List.take_add_one,h,Option.toList_some,List.zipIdx_append,List.filter_append,List.map_append,hl]
 simp only [List.zipIdx_cons,List.zipIdx_nil,Nat.zero_add]
 by_cases hk:(decide ((j:Int)∈U) || decide ((j:Int)≥st))=true
 · rw [if_pos hk,List.filter_cons_of_pos (by simpa using hk)];rfl
 · rw [if_neg hk,List.filter_cons_of_neg (by simpa using hk)];simp
theorem zv(st:Int)(U:List Int)(S:List bj):(sI st U S).length≤S.length:=by
 unfold sI;rw [List.length_map];exact Nat.le_trans (List.length_filter_le _ _) (by rw [List.length_zipIdx];exact Nat.le_refl _)
set_option maxHeartbeats 2000000 in
theorem yP(bm b:Nat)(u:aJ)(l:aN)(sv fv:Value)(st:Int)(q0:StS)(hq0:qp 200000000 q0)(hU:q0.U=[])(hl:l.nodes.l.length=u.nodes.l.length)(hR:dV u.nodes.l≤100000000)
   (hA:∀ (k:Nat) (x:aQ) (a:Int),u.nodes.l[k]? = some x→l.nodes.l[k]? = some a→∀ r∈x.refs.l,-4611686018427387904≤a+r.at_∧a+r.at_≤4611686018427387904)
   (hC:∀ c∈bR u.nodes.l l.nodes.l,jk l.nodes.l c) (hC2:∀ c∈bR u.nodes.l l.nodes.l,0≤c.at_∧c.at_≤1099511627264) :
   Con Tryz.prog 26 [.pointer (some ⟨bm,0,none⟩)] [ShF aQ.row u.nodes,bu aQ.ok u.nodes.l,ShF bd l.nodes] [Box bm 105 (mkV u l sv fv st b),aP sv 44 4 (q0.S.map bj.row),aP fv 95 2 (q0.fr.map aV),eg b eI vBo (ft q0.U)]
     fun r ps hp=>hp=[]∧((kx l.nodes.l (bR u.nodes.l l.nodes.l) q0=none∧ps=[]∧r=.tuple #[(aN.mk cI cI cI 0 0 0 0).val,.int .i64 6])∨∃ q T,kx l.nodes.l (bR u.nodes.l l.nodes.l) q0=some q∧T.l=ac8 st q∧ps=[ShF bj.row T]∧r=.tuple #[({ l with stubs:=T } : aN).val,.int .i64 0]):=by
 have hcl0:∀ (ns:List aQ) (ln:List Int),(bR ns ln).length≤dV ns:=fun ns=>by
   induction ns with
   | nil=>intro ln;exact Nat.le_refl _
   | cons x ns ih =>
     intro ln
     cases ln with
     | nil=>exact Nat.zero_le _
     | cons a ln =>
       have h1:bR (x::ns) (a::ln)=dY a x.refs.l++bR ns ln:=rfl
       have h2:dV (x::ns)=x.refs.l.length+dV ns:=by unfold dV;rw [List.map_cons,List.sum_cons]
       have h3:=tw a x.refs.l
       have h4:=ih ln
       rw [h1,h2,List.length_append];omega
 have hcl:=hcl0 u.nodes.l l.nodes.l
 refine EN1 Tryz.func26 rfl (cB 1 rfl (fun _ _ _ h=>df h) (fun ⟨a0,c0,hv⟩ => ?_))
 rw [List.length_map] at hv
 subst hv
 refine aSR (LT rfl (aW (zs:=[.slice none 0 0,.slice none 0 0,.slice none 0 0,.int .i64 0,.int .i64 0,.int .i64 0,.int .i64 0]) (by kernel_rfl) rfl (fun b0_0=>(aHN ?_))))
 refine go 4 [0] ?_
 refine DR [] 11 (go 0 [0,0,0,82944,0,0,28,39936,17,0] ?_)
 refine dG (q:=true) 8 rfl (by kernel_rfl) rfl rfl (EC [2,1,0] [] rfl (na u { l with stubs:=⟨a0,c0,q0.S⟩ } hl hR hA) ?_)
 rintro _ _ _ ⟨rfl,C,⟨rfl,rfl⟩,hCl⟩
 refine bST rfl ?_
 refine go 3 [81,67] ?_
 replace hCl:C.l=bR u.nodes.l l.nodes.l:=hCl
 refine aF [0,2,3,21,22,23] [3,2,1,0] [0,1,2,3,4] (fun (x:Nat × (Option Addr × Nat) × Value × StS) s=>(x.1≤C.l.length∧kx l.nodes.l (C.l.take x.1) q0=some x.2.2.2∧qp (200000000+x.1) x.2.2.2)∧s=⟨[(0,true,.pointer (some ⟨bm,0,none⟩)),(2,true,.pointer (some ⟨b0_0,0,none⟩)),(3,true,.int .i64 0),(21,true,C.val),(22,true,.int .i64 C.l.length),(23,true,.int .i64 x.1)],[ShF bt.row C,ShF aQ.row u.nodes,bu aQ.ok u.nodes.l,ShF bd l.nodes],[Box bm 105 (mkV u l (.slice x.2.1.1 x.2.2.2.S.length x.2.1.2) x.2.2.1 st b),aP (.slice x.2.1.1 x.2.2.2.S.length x.2.1.2) 44 4 (x.2.2.2.S.map bj.row),aP x.2.2.1 95 2 (x.2.2.2.fr.map aV),eg b eI vBo (ft x.2.2.2.U),Box b0_0 36 (aN.mk cI cI cI 0 0 0 0).vs]⟩) (fun x=>C.l.length-x.1) rfl (⟨(0,(a0,c0),fv,q0),⟨Nat.zero_le _,rfl,hq0⟩,rfl⟩) ?_
 rintro ⟨k,⟨sa,sc⟩,fw,q⟩ s ⟨⟨hk,hrun,hq⟩,rfl⟩
 dsimp only at hk hrun hq
 have hq1:=hq.frl
 have hq2:=hq.sl
 refine go 3 [0] ?_
 refine aa _ rfl (fun h1 => ?_) (fun h1 => ?_)
 ·skip
  have hk':k<C.l.length:=by simpa using h1
  obtain ⟨c,hc⟩:∃ c,C.l[k]? = some c:=⟨_,List.getElem?_eq_getElem hk'⟩
  have hcm:c∈bR u.nodes.l l.nodes.l:=hCl ▸ List.mem_of_getElem? hc
  have hcc:=hC c hcm
  have hcb:=hC2 c hcm
  have hsn:=xB (ln:=l.nodes.l) (q:=q0) hc
  rw [hrun,Option.bind_some] at hsn
  have hkb:k≤100000000:=by rw [hCl] at hk;omega
  refine aD (an (aq (aH (aSR (UI Tryz.underlying64 tk67 0 rfl rfl rfl rfl rfl (ak hc) rfl rfl (fun ⟨b3_0,o3_0⟩=>(go 0 [23042] ?_)))))))
  refine LT rfl (aW (zs:=[.int .i64 0,.int .i64 0,.int .i64 0,.int .i64 0,.int .i64 0,.int .i64 0,.int .i64 0,.int .i64 0]) (by kernel_rfl) rfl (fun b3_2=>(aHN ?_)))
  refine go 4 [23055] ?_
  refine DR [] 6 (go 0 [46110,0,0,28,39936] ?_)
  refine bV 5 rfl rfl (Q1 rfl (r8 c { l with stubs:=⟨sa,sc,q.S⟩ } hcc) 4 rfl) (BN (an ?_))
  refine aa _ rfl (fun h2 => ?_) (fun h2 => ?_)
  ·skip
   have hod:om l.nodes.l c=true:=h2
   have hno:kx l.nodes.l C.l q0=none:=p6 (k:=k+1) (by rw [hsn];unfold fj;rw [if_pos hod])
   refine aSR (aU rfl (bP (l:=[]) (zs:=[.slice none 0 0,.slice none 0 0,.slice none 0 0,.int .i64 0,.int .i64 0,.int .i64 0,.int .i64 0]) (pl:=[(0,1),(1,1),(2,1),(3,1),(4,1),(5,1),(6,1)]) (by kernel_rfl) (by kernel_rfl) (by kernel_rfl) rfl rfl rfl) (go 2 [19980,0] ?_))
   refine ae (aj (aK (aj (aj (aK (aj ?_))))))
   refine lS [] [] rfl Tryz.results26 (ef 4 tk36 rfl rfl rfl) (jN rfl) ?_ (.inr rfl)
   exact ⟨rfl,.inl ⟨hCl ▸ hno,rfl,rfl⟩⟩
  ·skip
   have hod:¬ om l.nodes.l c=true:=by simpa using h2
   refine aD (an (aq (aq (DR [] 7 (go 0 [46110,0,0,28,39936] ?_)))))
   refine bV 5 rfl rfl (Q1 rfl (jD c { l with stubs:=⟨sa,sc,q.S⟩ } hcc) 4 rfl) (go 2 [0] ?_)
   refine aa _ rfl (fun h3 => ?_) (fun h3 => ?_)
   ·skip
    have hnd:dt l.nodes.l c=false:=by simpa using h3
    have hst1:fj l.nodes.l q c=some q:=by unfold fj;rw [if_neg hod,if_pos hnd]
    refine go 1 [0,0] ?_
    refine an ?_
    refine ⟨[0,2,3,21,22,23],[3,2,1,0],[0,1,2,3,4],rfl,?_⟩
    exact ⟨(k+1,(sa,sc),fw,q),⟨⟨hk',by rw [hsn,hst1],hq.mono (by dsimp only;omega)⟩,rfl⟩,by dsimp only;omega⟩
   ·skip
    have hnd:¬ dt l.nodes.l c=false:=by simpa using h3
    refine aD (an (aq (DR [6] 8 (go 0 [46110,0,0,28,4,0] ?_))))
    refine VE 6 rfl rfl (EC [] [1] rfl (r6 c hcc sa sc q.S (fun s hs=>by have:=hq.at_ s hs;omega)) ?_)
    rintro _ _ _ ⟨rfl,rfl,rfl⟩
    refine bST rfl ?_
    refine go 2 [0,0,0] ?_
    refine aa _ rfl (fun h4 => ?_) (fun h4 => ?_)
    ·skip
     have hfi:¬ 0≤b9 c q.S:=by simp at h4;omega
     refine aq (cB 2 rfl (fun _ _ _ h=>df h) (fun hfv => ?_))
     rw [List.length_map] at hfv
     refine DR [10] 16 (go 0 [0,0,42,0,0,30,0,0,30,0] ?_)
     refine VE 10 rfl rfl (EC [] [2] rfl (yD q.fr fw 8 (c.at_-512) (c.at_+512) 8 hq.right (by omega) (by omega) (by omega) hfv) ?_)
     rintro _ _ _ ⟨rfl,rfl,rfl⟩
     refine bST rfl ?_
     refine go 2 [0,0,0,0,0,0,0] ?_
     refine aa _ rfl (fun h5 => ?_) (fun h5 => ?_)
     ·skip
      have hft:¬ (eN 8 8 (c.at_-512) (c.at_+512) q.fr).2=true:=by simpa using h5
      have hno:kx l.nodes.l C.l q0=none:=p6 (k:=k+1) (by rw [hsn];unfold fj;rw [if_neg hod,if_neg hnd,if_neg hfi,if_neg hft])
      refine aSR (aU rfl (bP (l:=[]) (zs:=[.slice none 0 0,.slice none 0 0,.slice none 0 0,.int .i64 0,.int .i64 0,.int .i64 0,.int .i64 0]) (pl:=[(0,1),(1,1),(2,1),(3,1),(4,1),(5,1),(6,1)]) (by kernel_rfl) (by kernel_rfl) (by kernel_rfl) rfl rfl rfl) (go 2 [19980,0] ?_))
      refine ae (aj (aj (aK (aj (aj (aK (aj ?_)))))))
      refine lS [] [] rfl Tryz.results26 (ef 4 tk36 rfl rfl rfl) (jN rfl) ?_ (.inr rfl)
      exact ⟨rfl,.inl ⟨hCl ▸ hno,rfl,rfl⟩⟩
     ·skip
      have hft:(eN 8 8 (c.at_-512) (c.at_+512) q.fr).2=true:=by simpa using h5
      have hst1:fj l.nodes.l q c=some ⟨q.S++[{ eF c with at_:=(eN 8 8 (c.at_-512) (c.at_+512) q.fr).1 }],jl (eN 8 8 (c.at_-512) (c.at_+512) q.fr).1 8 q.fr,q.U++[(q.S.length:Int)]⟩:=by unfold fj;rw [if_neg hod,if_neg hnd,if_neg hfi,if_pos hft]
      have hfa : -4398046511104≤(eN 8 8 (c.at_-512) (c.at_+512) q.fr).1∧(eN 8 8 (c.at_-512) (c.at_+512) q.fr).1≤4398046511104:=(hq.step hcb hst1).at_ { eF c with at_:=(eN 8 8 (c.at_-512) (c.at_+512) q.fr).1 } (List.mem_append_right _ (List.mem_singleton.2 rfl))
      refine go 0 [23055] ?_
      refine aU rfl (Q0 rfl (pJ c hcc)) (LT rfl (aW (zs:=[.int .i64 0,.int .i64 0,.int .i64 0,.int .i64 0]) (by kernel_rfl) rfl (fun b12_2=>(aHN ?_))))
      refine go 3 [10770,0,0,18,0,0,14,2,0,44,0] ?_
      refine DR [8,12] 13 (go 0 [3,0,0,0,28,4,0,21540] ?_)
      refine dG (q:=true) 7 rfl (by kernel_rfl) rfl rfl (WL (zs:=[.int .i64 0,.int .i64 0,.int .i64 0,.int .i64 0]) el34 rfl rfl rfl (.more rfl (.v rfl (.v rfl (.v rfl (.v rfl .nil)))) .nil) rfl rfl (fun v15_7=>(bST rfl ?_)))
      refine dG 8 rfl (by kernel_rfl) rfl rfl (bH 1 el34 rfl rfl rfl rfl (cP 7 el34 rfl (by simp)) (by first | assumption | simp) (by show (q.S.map bj.row).length+1≤_;rw [List.length_map];exact Nat.le_trans (show q.S.length+1≤300000001 by omega) (by decide)) ((q.S++[{ eF c with at_:=(eN 8 8 (c.at_-512) (c.at_+512) q.fr).1 }]).length) (by show (q.S.map bj.row).length+1=_;rw [List.length_map,List.length_append];rfl) (fun v15_8 c15_8 => ?_))
      refine bST rfl ?_
      refine go 0 [0,28,4,7,0,0,0] ?_
      refine aU rfl (bP (l:=[(0,.tmp 90),(1,.const (.int .i64 8))]) (zs:=[.int .i64 0,.int .i64 0]) (pl:=[(0,1),(1,1)]) (by kernel_rfl) (by kernel_rfl) (by kernel_rfl) rfl rfl rfl) ?_
      refine LF rfl (EC [] [0,2] rfl (nb bm u l _ fw st b q.fr _ 8 hq.right (by unfold I64;omega) (by unfold I64;omega) (by omega)) ?_)
      rintro _ _ _ ⟨⟨rfl,rfl⟩,fv',rfl⟩
      refine aST ?_
      refine go 0 [0,0,23,0,0] ?_
      refine aT rfl (cD (k:=_) (v:=true) 3 Tryz.underlying63 (kyI) rfl rfl rfl rfl (aHK ?_))
      refine go 1 [0,0] ?_
      refine an ?_
      refine ⟨[0,2,3,21,22,23],[3,2,1,0],[0,1,2,3,4],rfl,?_⟩
      exact ⟨(k+1,(v15_8,c15_8),fv',⟨q.S++[{ eF c with at_:=(eN 8 8 (c.at_-512) (c.at_+512) q.fr).1 }],jl (eN 8 8 (c.at_-512) (c.at_+512) q.fr).1 8 q.fr,q.U++[(q.S.length:Int)]⟩),⟨⟨hk',by rw [hsn,hst1],(hq.step hcb hst1).mono (by dsimp only;omega)⟩,by dsimp only;rw [gD,List.map_append];rfl⟩,by dsimp only;omega⟩
    ·skip
     have hfi:0≤b9 c q.S:=by simp at h4;omega
     have hst1:fj l.nodes.l q c=some ⟨q.S,q.fr,q.U++[b9 c q.S]⟩:=by unfold fj;rw [if_neg hod,if_neg hnd,if_pos hfi]
     refine go 0 [0,0,23,0,0] ?_
     refine aT rfl (cD (k:=_) (v:=true) 3 Tryz.underlying63 (kyI) rfl rfl rfl rfl (aHK ?_))
     refine go 1 [0,0] ?_
     refine an ?_
     refine ⟨[0,2,3,21,22,23],[3,2,1,0],[0,1,2,3,4],rfl,?_⟩
     exact ⟨(k+1,(sa,sc),fw,⟨q.S,q.fr,q.U++[b9 c q.S]⟩),⟨⟨hk',by rw [hsn,hst1],(hq.step hcb hst1).mono (by dsimp only;omega)⟩,by dsimp only;rw [gD];rfl⟩,by dsimp only;omega⟩
 ·skip
  have hke:k=C.l.length:=by have:=of_decide_eq_false h1;omega
  subst hke
  rw [List.take_length,hCl] at hrun
  have hkb:C.l.length≤100000000:=by rw [hCl];omega
  refine aY (bb (bb (bg (an (aq (cK 1 (ShF bj.row ⟨sa,sc,q.S⟩) rfl (fun _ _ _ h=>db h) (cV 44 4 ?_)))))))
  show awp _ _ _ _ ⟨_,_,[_,_,_,_,_,_]⟩
  refine go 3 [0,0,0,14,2,0,44,0] ?_
  refine aF [0,2,3,10,103,104,105] [4] [0,3,4,5] (fun (x:Nat × (Value × List bj)) s=>(x.1≤q.S.length∧x.2.2=sI st q.U (q.S.take x.1))∧s=⟨[(0,true,.pointer (some ⟨bm,0,none⟩)),(2,true,.pointer (some ⟨b0_0,0,none⟩)),(3,true,.int .i64 0),(10,true,x.2.1),(103,true,.slice sa q.S.length sc),(104,true,.int .i64 q.S.length),(105,true,.int .i64 x.1)],[ShF bj.row ⟨sa,sc,q.S⟩],[Box bm 105 (mkV u l (.slice sa q.S.length sc) fw st b),eg b eI vBo (ft q.U),Box b0_0 36 (aN.mk cI cI cI 0 0 0 0).vs,aP x.2.1 44 4 (x.2.2.map bj.row)]⟩) (fun x=>q.S.length-x.1) rfl (⟨(0,(_,[])),⟨Nat.zero_le _,rfl⟩,rfl⟩) ?_
  rintro ⟨j,v,zs⟩ s ⟨⟨hj,hz⟩,rfl⟩
  dsimp only at hj hz
  have hzl:=zv st q.U (q.S.take j)
  have htl:=List.length_take_le j q.S
  rw [← hz] at hzl
  refine go 3 [0] ?_
  refine aa _ rfl (fun h6 => ?_) (fun h6 => ?_)
  ·skip
   have hj':j<q.S.length:=by simpa using h6
   obtain ⟨y,hy⟩:∃ y,q.S[j]? = some y:=⟨_,List.getElem?_eq_getElem hj'⟩
   have hos:=xt (st:=st) (U:=q.U) hy
   refine go 0 [0] ?_
   refine UI Tryz.underlying34 tk44 0 rfl rfl rfl rfl rfl (ak hy) rfl rfl (fun ⟨b22_1,o22_1⟩=>(go 0 [10754] ?_))
   refine LT rfl (aW (zs:=[.int .i64 0,.int .i64 0,.int .i64 0,.int .i64 0]) (by kernel_rfl) rfl (fun b22_3=>(aHN ?_)))
   refine go 0 [0,10764,0,0,23,0,0] ?_
   refine aU rfl (gm (k:=(j:Int)) (v0:=false) 1 Tryz.underlying63 (kyI) (by kernel_rfl) rfl rfl rfl) (go 2 [0,0,0,0,22,0,0,0] ?_)
   refine aa _ rfl (fun h7 => ?_) (fun h7 => ?_)
   ·skip
    have hb:(decide ((j:Int)∈q.U) || decide ((j:Int)≥st))=true:=by rw [← kz];exact h7
    rw [if_pos hb] at hos
    refine go 0 [0,10764] ?_
    refine LT rfl (WL (zs:=[.int .i64 0,.int .i64 0,.int .i64 0,.int .i64 0]) el34 rfl rfl rfl (.more rfl (.v rfl (.v rfl (.v rfl (.v rfl .nil)))) .nil) rfl rfl (fun v24_2=>(aHN ?_)))
    refine aT rfl (bH 3 el34 rfl rfl rfl rfl (cP 5 el34 rfl (by simp)) (by first | assumption | simp) (by show (zs.map bj.row).length+1≤_;rw [List.length_map];exact Nat.le_trans (show zs.length+1≤300000001 by omega) (by decide)) ((zs++[y]).length) (by show (zs.map bj.row).length+1=_;rw [List.length_map,List.length_append];rfl) (fun v24_3 c24_3 => ?_))
    refine aHK ?_
    refine go 1 [0,0,0] ?_
    refine an ?_
    refine ⟨[0,2,3,10,103,104,105],[0],[0,1,2,3],rfl,?_⟩
    exact ⟨(j+1,(_,zs++[y])),⟨⟨hj',by dsimp only;rw [hos,hz]⟩,by dsimp only;rw [List.map_append];rfl⟩,by dsimp only;omega⟩
   ·skip
    have hb:¬ (decide ((j:Int)∈q.U) || decide ((j:Int)≥st))=true:=by rw [← kz];exact Bool.not_eq_true _ ▸ h7
    rw [if_neg hb,List.append_nil] at hos
    refine go 1 [0,0] ?_
    refine an ?_
    refine ⟨[0,2,3,10,103,104,105],[0],[0,1,2,3],rfl,?_⟩
    exact ⟨(j+1,(v,zs)),⟨⟨hj',by dsimp only;rw [hos,hz]⟩,rfl⟩,by dsimp only;omega⟩
  ·skip
   have hje:j=q.S.length:=by have:=of_decide_eq_false h6;omega
   subst hje
   rw [List.take_length] at hz
   refine aY (bb (bb (bg (an (aq (cB 3 rfl (fun _ _ _ h=>df h) (fun ⟨a9,c9,hv⟩ => ?_)))))))
   rw [List.length_map] at hv
   dsimp only at hv ⊢
   subst hv
   refine cK 3 (ShF bj.row ⟨a9,c9,zs⟩) rfl (fun _ _ _ h=>db h) (go 2 [0,0,0,14,2,0,0,0,14,19968,19974,0] ?_)
   refine ae ?_
   refine lS [1] [] rfl Tryz.results26 (ef 2 tk36 rfl rfl rfl) (jN rfl) ?_ (.inr rfl)
   exact ⟨rfl,.inr ⟨q,⟨a9,c9,zs⟩,hrun,hz,rfl,rfl⟩⟩
theorem za(u:aJ)(l:aN):bD (sy u l)∧(sy u l).length≤1+u.nodes.l.length:=by
 have h:bD (gg (u.nodes.l.zip l.nodes.l) (addN 0 l.code))∧(gg (u.nodes.l.zip l.nodes.l) (addN 0 l.code)).length≤(addN 0 l.code).length+(u.nodes.l.zip l.nodes.l).length:=gi (g:=qV) (fun f p h=>nh h) _ _ (mI 0 l.code)
 have h1:(addN 0 l.code).length≤1:=by unfold addN;split<;>simp
 have h2:(u.nodes.l.zip l.nodes.l).length≤u.nodes.l.length:=by rw [List.length_zip];omega
 exact ⟨h.1,Nat.le_trans h.2 (by omega)⟩
structure tn (u:aJ) (l:aN):Prop where
 len:l.nodes.l.length=u.nodes.l.length
 few:u.nodes.l.length≤100000000
 refs:dV u.nodes.l≤100000000
 ln:∀ z∈l.nodes.l,I64 z
 size:∀ x∈u.nodes.l,I64 x.size
 code:I64 l.code
 at_:∀ (k:Nat) (x:aQ) (a:Int),u.nodes.l[k]? = some x→l.nodes.l[k]? = some a→∀ r∈x.refs.l,-4611686018427387904≤a+r.at_∧a+r.at_≤4611686018427387904
 call:∀ c∈bR u.nodes.l l.nodes.l,jk l.nodes.l c∧0≤c.at_∧c.at_≤1099511627264
def q0S(u:aJ)(l:aN):StS:=⟨[],sy u l,[]⟩
abbrev abp:aN:=⟨cI,cI,cI,0,0,0,0⟩
def abu(cs:List bt)(q0:StS)(st:Int)(l L:aN)(e:Int):Prop :=
 (kx l.nodes.l cs q0=none∧L=abp∧e=6)∨∃ q T,kx l.nodes.l cs q0=some q∧L = { l with stubs:=T } ∧ T.l=sI st q.U q.S∧e=0
theorem wO(bm b:Nat)(u:aJ)(l:aN)(sv fv:Value)(st:Int)(q0:StS)(hq0:qp 200000000 q0)(hU:q0.U=[])(h:tn u l) :
   Con Tryz.prog 26 [.pointer (some ⟨bm,0,none⟩)] [ShF aQ.row u.nodes,bu aQ.ok u.nodes.l,ShF bd l.nodes] [Box bm 105 (mkV u l sv fv st b),aP sv 44 4 (q0.S.map bj.row),aP fv 95 2 (q0.fr.map aV),eg b eI vBo (ft q0.U)]
     fun r ps hp=>hp=[]∧∃ L e,(r=.tuple #[L.val,.int .i64 e]∧ps=[ShF bj.row L.stubs])∧abu (bR u.nodes.l l.nodes.l) q0 st l L e :=
 Con.conv (yP bm b u l sv fv st q0 hq0 hU h.len h.refs h.at_ (fun c hc=>(h.call c hc).1) fun c hc=>(h.call c hc).2) fun v ps' hp' ⟨h1,h2⟩=>by
   subst h1
   rcases h2 with ⟨h3,h4,h5⟩ | ⟨q,T,h3,h4,h5,h6⟩
   · subst h4 h5
     exact ⟨_,_,StE.ents (ps':=[ShF bj.row cI]) fun p hp=>by rw [List.mem_singleton.1 hp];exact eC,rfl,abp,6,⟨rfl,rfl⟩,.inl ⟨h3,rfl,rfl⟩⟩
   · subst h5 h6
     exact ⟨_,_,StE.ents (ps':=[ShF bj.row T]) fun p hp=>.of hp,rfl,{ l with stubs:=T },0,⟨rfl,rfl⟩,.inr ⟨q,T,h3,rfl,h4,rfl⟩⟩
theorem ua(u:aJ)(l:aN)(h:tn u l):Con Tryz.prog 13 [u.val,l.val] [ShF aQ.row u.nodes,bu aQ.ok u.nodes.l,ShF bd l.nodes] []
   fun r ps hp=>hp=[]∧∃ L e,(r=.tuple #[L.val,.int .i64 e]∧ps=[ShF bj.row L.stubs])∧abu (bR u.nodes.l l.nodes.l) (q0S u l) 0 l L e:=by
 have hf:=za u l
 have hfew:=h.few
 refine EN2 Tryz.func13 rfl (aSR (LT rfl (aS rfl rfl rfl (fun b0_0=>(aHN ?_)))))
 refine LT rfl (aS rfl rfl rfl (fun b0_1=>(aHN ?_)))
 refine LT rfl (aW (zs:=[.slice none 0 0,.slice none 0 0,.slice none 0 0,.int .i64 0,.int .i64 0,.int .i64 0,.int .i64 0]) (by kernel_rfl) rfl (fun b0_2=>(aHN ?_)))
 refine go 0 [0,41472,19971] ?_
 refine LT rfl (EC [2,1,0] [] rfl (tY u l h.len ⟨h.ln,h.size,h.code⟩ h.few) ?_)
 rintro _ _ _ ⟨rfl,bm,b,fv,rfl,rfl⟩
 refine aST ?_
 refine LF rfl (EC [2,1,0] [3,4,5,6] rfl (wO bm b u l _ fv 0 (q0S u l) ⟨hf.1,by have:=hf.2;show (sy u l).length≤_;omega,Nat.zero_le _,fun _ h=>by cases h⟩ rfl h) ?_)
 rintro _ _ _ ⟨rfl,L,e,⟨rfl,rfl⟩,hL⟩
 refine aST ?_
 refine go 2 [0,0,19974,0] ?_
 refine ae ?_
 refine lS [3] [] rfl Tryz.results13 (ef 2 tk36 rfl rfl rfl) (jN rfl) ?_ (.inr rfl)
 exact ⟨rfl,L,e,⟨rfl,rfl⟩,hL⟩
def fY(s:Span):List Span→List Span
 | []=>[s]
 | p::l=>if p.1+p.2<s.1 then p::fY s l else if s.1+s.2<p.1 then s::p::l else fY (min p.1 s.1,max (p.1+p.2) (s.1+s.2)-min p.1 s.1) l
def il(x n:Int)(l:List Span):List Span:=if dA x n=true∧n≠0 then fY (x,n) l else l
theorem ye(s:Span){l:List Span}{k:Nat}{p:Span}(h:l[k]? = some p):fY s (l.drop k)=if p.1+p.2<s.1 then p::fY s (l.drop (k+1)) else if s.1+s.2<p.1 then s::l.drop k else fY (min p.1 s.1,max (p.1+p.2) (s.1+s.2)-min p.1 s.1) (l.drop (k+1)):=by
 obtain ⟨h1,h2⟩:=List.getElem?_eq_some_iff.1 h
 rw [List.drop_eq_getElem_cons h1,h2];rfl
theorem yr(l:List Span)(ad:Option Addr)(c:Nat)(x n:Int)(hr:rgB l=true)(hl:∀ p∈l,I64 p.1∧I64 p.2)(hx:I64 x)(hn:I64 n)(hll:l.length≤400000000) :
   Con Tryz.prog 58 [.slice ad l.length c,.agg #[.int .i64 x,.int .i64 n]] [Sh (.slice ad l.length c) (.sl (l.map aV))] []
     fun r ps' hp'=>ps'=[]∧∃ ad' c',r=.slice ad' (il x n l).length c'∧hp'=[aP (.slice ad' (il x n l).length c') 95 2 ((il x n l).map aV)]:=by
 have HL:=Lib.hid hl
 have HRR:=Lib.hid hr
 have HR:=Lib.hid (gj.1 hr)
 clear hl hr
 refine EN2 Tryz.func58 rfl (jX 0 rfl (fun hlen => ?_))
 rw [List.length_map] at hlen
 refine aSR (LT rfl (aS rfl rfl rfl (fun b0_0=>(aHN ?_))))
 refine go 0 [0,0] ?_
 refine aU rfl (Q1 rfl (gC l ad c HL.out) 0 rfl) (go 0 [0,0,4608] ?_)
 refine aG rfl rfl (fun hc=>Q0 (ao (ah rfl hc) rfl) (gF _ _ hx hn)) (go 2 [0,0,0,1,0,0,0] ?_)
 refine aa _ rfl (fun h1 => ?_) (fun h1 => ?_)
 ·skip
  have hv:¬ (dA x n=true∧n≠0):=by
    rintro ⟨g1,g2⟩
    rw [g1,HRR.out] at h1;simp at h1;exact g2 h1
  refine go 0 [0] ?_
  refine LT rfl (EC [0] [] rfl (mR l ad c hll) ?_)
  rintro _ _ _ ⟨rfl,ad',c',rfl,rfl⟩
  refine aST ?_
  refine go 2 [0] ?_
  refine ae (aj (FZ1 [1] Tryz.results58 rfl ?_))
  unfold il;rw [if_neg hv];exact ⟨rfl,ad',c',rfl,rfl⟩
 ·skip
  have hv:dA x n=true∧n≠0:=by
    simp only [Bool.or_eq_false_iff,Bool.not_eq_false',decide_eq_false_iff_not] at h1
    exact ⟨h1.1.2,h1.2⟩
  have hvi:=cU.1 hv.1
  obtain ⟨t0,ht0⟩:∃ t0,fY (x,n) l=t0:=⟨_,rfl⟩
  refine go 4 [0] ?_
  refine cV 95 2 ?_
  show awp _ _ _ _ ⟨_,_,[_,_]⟩
  refine go 3 [0,95,0] ?_
  refine aF [0,3,5,24,25,26] [0] [0,1] (fun (q:Nat × Span × (Value × List Span)) s=>(q.1≤l.length∧q.2.2.2++fY q.2.1 (l.drop q.1)=t0∧q.2.2.2.length≤q.1∧0≤q.2.1.1∧0≤q.2.1.2∧q.2.1.1+q.2.1.2≤1099511627776)∧s=⟨[(0,true,.slice ad l.length c),(3,true,.pointer (some ⟨b0_0,0,none⟩)),(5,true,q.2.2.1),(24,true,.slice ad l.length c),(25,true,.int .i64 l.length),(26,true,.int .i64 q.1)],[Sh (.slice ad l.length c) (.sl (l.map aV))],[Box b0_0 95 [.int .i64 q.2.1.1,.int .i64 q.2.1.2],aP q.2.2.1 95 2 (q.2.2.2.map aV)]⟩) (fun q=>l.length-q.1) rfl (⟨(0,(x,n),(_,[])),⟨Nat.zero_le _,ht0,Nat.le_refl _,hvi.1,hvi.2.2.1,by dsimp only;omega⟩,rfl⟩) ?_
  rintro ⟨k,⟨sx,sn⟩,v,zs⟩ s ⟨⟨hk,hz,hzl,hs0,hs1,hs2⟩,rfl⟩
  dsimp only at hk hz hzl hs0 hs1 hs2 ⊢
  refine go 3 [0] ?_
  refine aa _ rfl (fun h2 => ?_) (fun h2 => ?_)
  ·skip
   have hk':k<l.length:=by simpa using h2
   obtain ⟨p,hp⟩:∃ p,l[k]? = some p:=⟨l[k]'hk',by simp⟩
   have hpv:=cU.1 (gV (HR.out k p hp))
   obtain ⟨q1,q2,q3,q4⟩:=hpv
   have hat:=ye (sx,sn) hp
   dsimp only at hat
   refine go 0 [0] ?_
   refine bI true rfl rfl (fun _=>eV Tryz.underlying78 tk95 rfl (ax 0 rfl) rfl (row:=aV p) (by simp [hp]) rfl rfl) (fun h=>absurd h (by decide)) (fun ⟨b6_1,o6_1⟩ => ?_)
   refine go 0 [4610] ?_
   refine LT rfl (aW (zs:=[.int .i64 0,.int .i64 0]) (by kernel_rfl) rfl (fun b6_3=>(aHN ?_)))
   refine go 4 [0,4614] ?_
   refine DR [] 6 (go 0 [9228] ?_)
   refine bV 1 rfl rfl (Q0 rfl (fS _ _ (by unfold I64;omega))) ?_
   refine go 2 [0,0,0,0] ?_
   refine aa _ rfl (fun h3 => ?_) (fun h3 => ?_)
   ·skip
    have hc:p.1+p.2<sx:=by simpa using h3
    rw [if_pos hc] at hat
    refine go 0 [0,4614] ?_
    refine LT rfl (WL (zs:=[.int .i64 0,.int .i64 0]) el78 rfl rfl rfl (.more rfl (.v rfl (.v rfl .nil)) .nil) rfl rfl (fun v10_2=>(aHN ?_)))
    refine aT rfl (bH 1 el78 rfl rfl rfl rfl (cP 3 el78 rfl (by simp)) (by first | assumption | simp) (by show (zs.map aV).length+1≤_;rw [List.length_map];exact Nat.le_trans (show zs.length+1≤400000001 by omega) (by decide)) ((zs++[p]).length) (by show (zs.map aV).length+1=_;rw [List.length_map,List.length_append];rfl) (fun v10_3 c10_3 => ?_))
    refine aHK ?_
    refine go 1 [0,0,0] ?_
    refine an ?_
    refine ⟨[0,3,5,24,25,26],[0],[0,1],rfl,?_⟩
    exact ⟨(k+1,(sx,sn),(_,zs++[p])),⟨⟨hk',by dsimp only;rw [← hz,hat,List.append_assoc];rfl,by dsimp only;rw [List.length_append];simp;omega,hs0,hs1,hs2⟩,by dsimp only;rw [List.map_append];rfl⟩,by dsimp only;omega⟩
   ·skip
    have hc:¬ p.1+p.2<sx:=by simpa using h3
    rw [if_neg hc] at hat
    refine aq (DR [] 6 (go 0 [0,12,9216] ?_))
    refine bV 3 rfl rfl (Q0 rfl (fS _ _ (by unfold I64;omega))) ?_
    refine go 2 [0,0] ?_
    refine aa _ rfl (fun h4 => ?_) (fun h4 => ?_)
    ·skip
     have hd:sx+sn<p.1:=by simpa using h4
     rw [if_pos hd] at hat
     have hml:(l.map aV).drop k=(l.drop k).map aV:=List.map_drop.symm
     have hdl:(l.drop k).length=l.length-k:=List.length_drop
     refine aq (DC [3,7] [] [b0_0] 9 (CF 0 rfl rfl rfl (bo rfl) ?_))
     refine jr 1 0 rfl (by kernel_rfl) true rfl rfl (by simp) tk95 (fun _=>rfl) rfl rfl ?_
     refine CF 4 rfl rfl rfl (bo rfl) (CF 5 rfl rfl rfl (bo rfl) ?_)
     refine acf 6 rfl (by kernel_rfl) rfl rfl (xy k (l.length-k) el78 rfl (ax 1 rfl) rfl rfl (by rw [List.length_map];omega) (fun r hr=>by obtain ⟨z,_,rfl⟩:=List.mem_map.1 hr;rfl) (by rw [List.length_map])) (fun ⟨a12_6,c12_6⟩ => ?_)
     refine ed 2 [] (by kernel_rfl) (cZ ?_ dK)
     refine fb 2 rfl rfl (Eff.x (id (WL (zs:=[.int .i64 0,.int .i64 0]) el78 rfl rfl rfl (.more rfl (.v rfl (.v rfl .nil)) .nil) rfl rfl (fun v12_2=>(CST ?_)))))
     refine ed 3 [] (by kernel_rfl) (cZ ?_ dK)
     refine fb 3 rfl rfl (Eff.framed (q:=false) [1,3] rfl rfl (vQ 0 rfl rfl abi) ?_)
     refine id (bH 0 el78 rfl rfl rfl rfl (cP 1 el78 rfl (by simp)) (by first | assumption | simp) (by show (zs.map aV).length+1≤_;rw [List.length_map];exact Nat.le_trans (show zs.length+1≤400000001 by omega) (by decide)) ((zs++[(sx,sn)]).length) (by show (zs.map aV).length+1=_;rw [List.length_map,List.length_append];rfl) (fun v12_3 c12_3 => ?_))
     refine vr (CST ?_)
     refine ed 7 [] (by kernel_rfl) (cZ ?_ dK)
     refine fb 7 rfl rfl (Eff.framed (q:=false) [1] rfl rfl (vQ 0 rfl rfl abi) ?_)
     refine id (ji 0 el78 el78 rfl rfl rfl rfl (ax 0 rfl) ((fun r hr=>by rw [hml] at hr;obtain ⟨z,_,rfl⟩:=List.mem_map.1 hr;rfl)) (by rw [hml];show (zs.map aV++[aV (sx,sn)]).length+((l.drop k).map aV).length≤_;rw [List.length_append,List.length_map,List.length_map,hdl];exact Nat.le_trans (show zs.length+1+(l.length-k)≤400000001 by omega) (by decide)) ((zs++[(sx,sn)]++l.drop k).length) (by simp;try omega) (fun v12_7 c12_7 => ?_))
     refine vr (CST ?_)
     refine CF 8 rfl rfl rfl (dM rfl) (kI (by kernel_rfl) (an (ae (aK (aK (aj (aj (aK (aj (FZ1 [1] Tryz.results58 rfl ?_))))))))))
     have e:il x n l=zs++[(sx,sn)]++l.drop k:=by unfold il;rw [if_pos hv,ht0,← hz,hat,List.append_assoc];rfl
     rw [e]
     exact ⟨rfl,v12_7,c12_7,rfl,by rw [hml,List.map_append,List.map_append];rfl⟩
    ·skip
     have hd:¬ sx+sn<p.1:=by simpa using h4
     rw [if_neg hd] at hat
     refine go 2 [0,6,0,0,0,0] ?_
     refine DR [9] 10 (go 0 [0,9228] ?_)
     refine bV 2 rfl rfl (Q0 rfl (fS _ _ (by unfold I64;omega))) ?_
     refine go 0 [9216] ?_
     refine bV 4 rfl rfl (Q0 rfl (fS _ _ (by unfold I64;omega))) ?_
     refine go 0 [0,0,0] ?_
     refine bV 8 rfl rfl (bP (l:=[(0,.tmp 36),(1,.tmp 43)]) (zs:=[.int .i64 0,.int .i64 0]) (pl:=[(0,1),(1,1)]) (by kernel_rfl) (by kernel_rfl) (by kernel_rfl) rfl rfl rfl) (go 1 [7,4608,0,0] ?_)
     refine an ?_
     refine ⟨[0,3,5,24,25,26],[0],[0,1],rfl,?_⟩
     exact ⟨(k+1,(min p.1 sx,max (p.1+p.2) (sx+sn)-min p.1 sx),(v,zs)),⟨⟨hk',by dsimp only;rw [← hz,hat],by dsimp only;omega,by dsimp only;omega,by dsimp only;omega,by dsimp only;omega⟩,rfl⟩,by dsimp only;omega⟩
  ·skip
   have hke:k=l.length:=by have:=of_decide_eq_false h2;omega
   subst hke
   rw [List.drop_length] at hz
   refine go 0 [0,4608] ?_
   refine LT rfl (WL (zs:=[.int .i64 0,.int .i64 0]) el78 rfl rfl rfl (.more rfl (.v rfl (.v rfl .nil)) .nil) rfl rfl (fun v14_2=>(aHN ?_)))
   refine aT rfl (bH 1 el78 rfl rfl rfl rfl (cP 2 el78 rfl (by simp)) (by first | assumption | simp) (by show (zs.map aV).length+1≤_;rw [List.length_map];exact Nat.le_trans (show zs.length+1≤400000001 by omega) (by decide)) ((zs++[(sx,sn)]).length) (by show (zs.map aV).length+1=_;rw [List.length_map,List.length_append];rfl) (fun v14_3 c14_3 => ?_))
   refine aHK ?_
   refine go 2 [0] ?_
   refine ae (FZ1 [1] Tryz.results58 rfl ?_)
   have e:il x n l=zs++[(sx,sn)]:=by unfold il;rw [if_pos hv,ht0,← hz];rfl
   rw [e]
   exact ⟨rfl,v14_3,c14_3,rfl,by rw [List.map_append];rfl⟩
theorem oX(l:Sl fX)(F:FuncId)(caps:List Value)(p q:Per)(Ψ:fX→Bool→Prop)(hF:aX Tryz.prog F=true)(h:∀ a∈l.l,Con Tryz.prog F (a.val::caps) [p,q] [] (YN Value.bool (Ψ a))):Con Tryz.prog 193 [l.val,.func (.func F) #[] caps.toArray] [ShF fX.row l,p,q] []
   (YN (fun z:Int=>.int .i64 z) (fun z=>(z≥0→∃ a∈l.l,Ψ a true)∧(¬ z≥0→∀ a∈l.l,Ψ a false))):=by
 refine EN2 Tryz.func193 rfl (aO (.of (ax 0 rfl)) (fun hlen=>(go 3 [0,0,95,0] ?_)))
 refine aF [0,1,7,8] [2,1,0] [] (fun (k:Nat) s=>(k≤l.l.length∧∀ a∈l.l.take k,Ψ a false)∧s=⟨[(0,true,l.val),(1,true,.func (.func F) #[] caps.toArray),(7,true,.int .i64 l.l.length),(8,true,.int .i64 k)],[ShF fX.row l,p,q],[]⟩) (fun k=>l.l.length-k) rfl (⟨0,⟨Nat.zero_le _,fun a ha=>by cases ha⟩,rfl⟩) ?_
 rintro k s ⟨⟨hk,hno⟩,rfl⟩
 refine go 3 [0] ?_
 refine aa _ rfl (fun h1 => ?_) (fun h1 => ?_)
 ·skip
  have hk':k<l.l.length:=by simpa using h1
  obtain ⟨a,ha⟩:∃ a,l.l[k]? = some a:=⟨l.l[k]'hk',by simp⟩
  refine go 0 [0,0,0,0,0] ?_
  refine UI Tryz.underlying78 tk95 0 rfl rfl rfl rfl rfl (ak ha) rfl rfl (fun ⟨b4_3,o4_3⟩=>(go 0 [4610] ?_))
  refine aE [1,0] (false) hF true rfl rfl (fun _=>rfl) (fun hc=>rfl) (fun hc=>h a (List.mem_of_getElem? ha)) (fun c hc=>(aNn ?_))
  refine aa _ rfl (fun h2 => ?_) (fun h2 => ?_)
  ·skip
   refine go 2 [0,0] ?_
   refine ae (aK (aj (aj (aK (aj (FZ1 [] Tryz.results193 rfl ?_))))))
   exact ⟨⟨rfl,rfl⟩,_,rfl,fun _=>⟨a,List.mem_of_getElem? ha,h2 ▸ hc rfl⟩,fun hz=>(hz (Int.natCast_nonneg k)).elim⟩
  ·skip
   refine go 1 [0,0] ?_
   refine an ?_
   refine ⟨[0,1,7,8],[2,1,0],[],rfl,?_⟩
   refine ⟨k+1,⟨⟨by omega,?_⟩,rfl⟩,by omega⟩
   intro y hy
   rw [List.take_add_one,ha,List.mem_append] at hy
   rcases hy with hy | hy
   · exact hno y hy
   · simp at hy;subst hy;exact h2 ▸ hc rfl
 ·skip
  refine go 2 [0] ?_
  refine ae (FZ1 [] Tryz.results193 rfl ?_)
  refine ⟨⟨rfl,rfl⟩,_,rfl,fun hz=>absurd hz (by decide),fun _ => ?_⟩
  rw [List.take_of_length_le (by simpa using h1)] at hno;exact hno
theorem oQ(l:Sl fX)(F:FuncId)(caps:List Value)(p q:Per)(Ψ:fX→Bool→Prop)(hF:aX Tryz.prog F=true)(h:∀ a∈l.l,Con Tryz.prog F (a.val::caps) [p,q] [] (YN Value.bool (Ψ a))):Con Tryz.prog 119 [l.val,.func (.func F) #[] caps.toArray] [ShF fX.row l,p,q] []
   (YN Value.bool (fun b=>(b=true→∃ a∈l.l,Ψ a true)∧(b=false→∀ a∈l.l,Ψ a false))):=by
 refine EN2 Tryz.func119 rfl (go 0 [0,0,0] ?_)
 refine LT rfl (EC [2,1,0] [] rfl (oX l F caps p q Ψ hF h) ?_)
 rintro _ _ _ ⟨⟨rfl,rfl⟩,z,rfl,hz⟩
 refine aST ?_
 refine go 2 [0,0] ?_
 refine ae (FZ1 [] Tryz.results119 rfl ?_)
 exact ⟨⟨rfl,rfl⟩,_,rfl,fun hb=>hz.1 (by simpa using hb),fun hb=>hz.2 (by simpa using hb)⟩

theorem iz:∀ {l:List Span} {s:Span},bD l→0≤s.1→0<s.2→s.1+s.2≤1099511627776→bD (fY s l)∧(∀ b:Int,b<s.1→(∀ p∈l,b<p.1)→∀ q∈fY s l,b<q.1)∧(fY s l).length≤l.length+1
 | [],s,_,h0,h1,h2=>⟨⟨fun p hp=>by rw [show p=s from List.mem_singleton.1 hp];omega,List.pairwise_singleton ..⟩,fun b hb _ q hq=>by rw [show q=s from List.mem_singleton.1 hq];exact hb,Nat.le_refl _⟩
 | p :: l,s,hr,h0,h1,h2=>by
   have hp:=hr.ok p (List.mem_cons_self ..)
   have hg:=List.pairwise_cons.1 hr.gap
   unfold fY
   split
   · rename_i hc
     obtain ⟨i1,i2,i3⟩:=iz hr.tail h0 h1 h2
     refine ⟨⟨fun q hq => ?_,List.pairwise_cons.2 ⟨fun q hq=>i2 (p.1+p.2) hc (fun x hx=>hg.1 x hx) q hq,i1.gap⟩⟩,fun b hb hall q hq => ?_,by simp;omega⟩
     · rcases List.mem_cons.1 hq with rfl | hq
       · exact hp
       · exact i1.ok q hq
     · rcases List.mem_cons.1 hq with rfl | hq
       · exact hall _ (List.mem_cons_self ..)
       · exact i2 b hb (fun x hx=>hall x (List.mem_cons_of_mem _ hx)) q hq
   · split
     · rename_i hc hd
       refine ⟨⟨fun q hq => ?_,List.pairwise_cons.2 ⟨fun q hq => ?_,hr.gap⟩⟩,fun b hb hall q hq => ?_,by simp⟩
       · rcases List.mem_cons.1 hq with rfl | hq
         · omega
         · exact hr.ok q hq
       · rcases List.mem_cons.1 hq with rfl | hq
         · exact hd
         · have:=hg.1 q hq;omega
       · rcases List.mem_cons.1 hq with rfl | hq
         · exact hb
         · exact hall q hq
     · rename_i hc hd
       obtain ⟨i1,i2,i3⟩:=iz (s:=(min p.1 s.1,max (p.1+p.2) (s.1+s.2)-min p.1 s.1)) hr.tail (by dsimp only;omega) (by dsimp only;omega) (by dsimp only;omega)
       refine ⟨i1,fun b hb hall q hq => ?_,by simp;omega⟩
       exact i2 b (by have:=hall p (List.mem_cons_self ..);dsimp only;omega) (fun x hx=>hall x (List.mem_cons_of_mem _ hx)) q hq
theorem mH{x n:Int}{l:List Span}(h:bD l):bD (il x n l)∧(il x n l).length≤l.length+1:=by
 unfold il
 split
 · rename_i hv
   have:=cU.1 hv.1
   have h1:=iz (s:=(x,n)) h (by dsimp only;omega) (by dsimp only;omega) (by dsimp only;omega)
   exact ⟨h1.1,h1.2.2⟩
 · exact ⟨h,Nat.le_succ _⟩
def vz(x n:Int)(p:Span):Bool:=decide (max p.1 x<min (p.1+p.2) (x+n))
def fT(x n:Int)(l:List Span):Bool:=dA x n && l.any (vz x n)
def toG(p:Span):fX:=⟨p.1,p.2⟩
theorem tO(b:Nat)(x n:Int)(p:fX)(hp:I64 (p.at_+p.size))(hx:I64 (x+n)):Con Tryz.prog 120 [p.val,.pointer (some ⟨b,0,none⟩)] [At b 0 [.v (.int .i64 x),.v (.int .i64 n)],Fa True] [] (YN Value.bool fun r=>r=vz x n (p.at_,p.size)):=by
 refine EN2 Tryz.func120 rfl (aSR (LT rfl (aS rfl rfl rfl (fun b0_0=>(aHN ?_)))))
 refine go 3 [0] ?_
 refine DR [] 12 (go 0 [0,0,0,2,0,9216] ?_)
 refine bV 6 rfl rfl (Q0 rfl (fS _ _ hp)) (go 0 [9218] ?_)
 refine bV 8 rfl rfl (Q0 rfl (fS _ _ hx)) (go 2 [0,0,0] ?_)
 refine ae (FZ1 [] Tryz.results120 rfl ?_)
 exact ⟨⟨rfl,rfl⟩,_,rfl,rfl⟩
theorem tF(l:List Span)(ad:Option Addr)(c:Nat)(F:FuncId)(caps:List Value)(p q:Per)(Ψ:fX→Bool→Prop)(hF:aX Tryz.prog F=true)(h:∀ a∈l.map toG,Con Tryz.prog F (a.val::caps) [p,q] [] (YN Value.bool (Ψ a))):Con Tryz.prog 119 [.slice ad l.length c,.func (.func F) #[] caps.toArray] [Sh (.slice ad l.length c) (.sl (l.map aV)),p,q] []
   (YN Value.bool (fun b=>(b=true→∃ a∈l.map toG,Ψ a true)∧(b=false→∀ a∈l.map toG,Ψ a false))):=by
 have H:=oQ ⟨ad,c,l.map toG⟩ F caps p q Ψ hF h
 unfold ShF Sl.val at H
 dsimp only at H
 rw [List.length_map,List.map_map] at H
 exact H
theorem wD (l : List Span) (ad:Option Addr) (c:Nat) (x n:Int) (hr:bD l) (hx:I64 x) (hn:I64 n) :
   Con Tryz.prog 82 [.slice ad l.length c,.agg #[.int .i64 x,.int .i64 n]] [Sh (.slice ad l.length c) (.sl (l.map aV))] [] fun r _ _=>r=.bool (fT x n l):=by
 have hrg:=hr.to
 have hl:=hr.i64
 refine EN2 Tryz.func82 rfl (aSR (LT rfl (aS rfl rfl rfl (fun b0_0=>(aHN ?_)))))
 refine go 0 [0,0] ?_
 refine aU rfl (Q1 rfl (gC l ad c hl) 0 rfl) (go 0 [0,0,4608] ?_)
 refine aG rfl rfl (fun hc=>Q0 (ao (ah rfl hc) rfl) (gF _ _ hx hn)) (go 2 [0,0] ?_)
 refine aa _ rfl (fun h1 => ?_) (fun h1 => ?_)
 ·skip
  have hv:dA x n=false:=by rw [hrg] at h1;simpa using h1
  refine go 2 [0] ?_
  refine ae (aj (FZ1 [] Tryz.results82 rfl ?_))
  unfold fT;rw [hv];rfl
 ·skip
  have hv:dA x n=true:=by rw [hrg] at h1;simpa using h1
  have hvi:=cU.1 hv
  refine aD (an (aq (aZ 0 rfl rfl ?_)))
  show awp _ _ _ _ ⟨_,At _ 0 _::_,_⟩
  refine az (aM rfl (aU rfl (cA (l:=[.tmp 3]) rfl) ?_))
  refine aE (caps:=[]) [0,1] (false) (by kernel_rfl) true rfl rfl (fun _=>rfl) (fun hc=>rfl) (fun hc=>by rw [List.append_nil];exact (tF l ad c 120 [.pointer (some ⟨b0_0,0,none⟩)] (At b0_0 0 [.v (.int .i64 x),.v (.int .i64 n)]) (Fa True) (fun a r=>r=vz x n (a.at_,a.size)) (by kernel_rfl) (fun a ha=>tO b0_0 x n a (by obtain ⟨z,hz,rfl⟩:=List.mem_map.1 ha;have:=hr.ok z hz;show I64 (z.1+z.2);unfold I64;omega) (by unfold I64;omega))).pre (jm (.of (ax 0 rfl)) (.of (ax 1 rfl)) (fun _ _ _=>trivial))) (fun c1 hc1 => ?_)
  refine go 2 [0] ?_
  refine ae (FZ1 [] Tryz.results82 rfl ?_)
  have he : c1 = fT x n l:=by
    unfold fT;rw [hv,Bool.true_and]
    cases hcc:c1 with
    | true => obtain ⟨a,ha,hm⟩:=(hc1 rfl).1 hcc
              obtain ⟨p,hp,rfl⟩:=List.mem_map.1 ha
              exact (List.any_eq_true.2 ⟨p,hp,hm.symm⟩).symm
    | false => symm;rw [List.any_eq_false];intro p hp
               have:=(hc1 rfl).2 hcc (toG p) (List.mem_map_of_mem hp)
               rw [show vz x n p=false from this.symm];exact Bool.false_ne_true
  rw [he]
end Go.Proofs.YtgkbbdgklpabpaaGreatDoor

namespace Go.Proofs.YtgkbbdgklpabpaaGreatDoor
open Go.RowKit Go.Lp Go.Sy
def ik(r:dE):Bool:=decide (r.to_.kind=1) && (decide (r.kind=7) || decide (r.kind=6))
def kp(B:List Bool)(r:dE):List Bool:=if ik r=true∧0≤r.to_.n∧r.to_.n<B.length then B.set r.to_.n.toNat true else B
def uD(B:List Bool)(ns:List aQ):List Bool:=ns.foldl (fun B x=>x.refs.l.foldl kp B) B
def kq(B:List Bool):List Int:=(B.zipIdx.filter (·.1)).map fun p=>(p.2:Int)
def du(u:aJ):List Int:=kq (uD (List.replicate u.imports.l.length false) u.nodes.l)
theorem sD(B:List Bool)(r:dE):(kp B r).length=B.length:=by unfold kp;split<;>simp
theorem kr:∀ (rs:List dE) (B:List Bool),(rs.foldl kp B).length=B.length
 | [],_=>rfl
 | r::rs,B=>by rw [List.foldl_cons,kr rs,sD]
theorem oh:∀ (ns:List aQ) (B:List Bool),(uD B ns).length=B.length
 | [],_=>rfl
 | x::ns,B=>by
   show (uD (x.refs.l.foldl kp B) ns).length=_
   rw [oh ns,kr]
theorem uE{B:List Bool}{j:Nat}{y:Bool}(h:B[j]? = some y):kq (B.take (j+1))=kq (B.take j)++(if y=true then [(j:Int)] else []):=by
 have hl:(B.take j).length=j:=by rw [List.length_take];have:=(List.getElem?_eq_some_iff.1 h).1;omega
 unfold kq
 rw [List.take_add_one,h,Option.toList_some,List.zipIdx_append,List.filter_append,List.map_append,hl]
 cases y<;>simp
theorem xl(B:List Bool):(kq B).length≤B.length:=by
 unfold kq;rw [List.length_map];exact Nat.le_trans (List.length_filter_le _ _) (by rw [List.length_zipIdx];exact Nat.le_refl _)
abbrev CkS:=List Span × Bool
def dU(c:CkS)(a n al f u:Int):CkS :=
 if (c.2 && decide (f≤a) && decide (a≤u-n) && decide (a.tmod al=0) && !fT a n c.1)=true then (il a n c.1,true) else (c.1,false)
theorem yp{c:CkS}{a n al f u:Int}(h:bD c.1):bD (dU c a n al f u).1∧(dU c a n al f u).1.length≤c.1.length+1:=by
 unfold dU
 split
 · exact mH h
 · exact ⟨h,Nat.le_succ _⟩
def dH(k:Int):Bool:=decide (k=3) || decide (k=4)
def lj(k:Int):Int:=if k=0 then 0 else if k=1 then 1 else if k=2 then 2 else 0
theorem abG(k:Int):lj k=0∨lj k=1∨lj k=2:=by
 unfold lj;split
 · exact .inl rfl
 · split
   · exact .inr (.inl rfl)
   · split
     · exact .inr (.inr rfl)
     · exact .inl rfl
abbrev iD(l:aN):List Int:=[0,l.code,l.data,l.zero]
abbrev Ck2:=CkS × CkS
def fC(l:aN)(q:Ck2)(p:aQ × Int):Ck2 :=
 if dH p.1.kind=true then (q.1,dU q.2 p.2 p.1.size p.1.align 0 l.tls) else (dU q.1 p.2 p.1.size p.1.align (elt (iD l) (lj p.1.kind)) (elt (iD l) (lj p.1.kind+1)),q.2)
def fm(l:aN)(need:List Int)(c:CkS)(p:Int × Nat):CkS:=if (p.2:Int)∈need then dU c p.1 8 8 l.code l.data else (c.1,c.2 && decide (p.1 = -1))
def qu(l:aN)(c:CkS)(s:bj):CkS:=dU c s.at_ 8 8 0 l.code
def dS(u:aJ)(l:aN):Bool :=
 decide (l.code.tmod 256=0) && decide (l.data.tmod 256=0) && decide (l.zero.tmod 256=0) && (decide (0≤l.code) && decide (l.code≤l.data) && decide (l.data≤l.zero) && decide (l.zero≤1048576)) && decide (0≤l.tls) && decide (l.tls≤1048576) && decide (l.nodes.l.length=u.nodes.l.length) && decide (l.slots.l.length=u.imports.l.length)
theorem dh{u:aJ}{l:aN}(h:dS u l=true):(l.code.tmod 256=0∧l.data.tmod 256=0∧l.zero.tmod 256=0)∧(0≤l.code∧l.code≤l.data∧l.data≤l.zero∧l.zero≤1048576)∧(0≤l.tls∧l.tls≤1048576)∧l.nodes.l.length=u.nodes.l.length∧l.slots.l.length=u.imports.l.length:=by
 unfold dS at h
 simp only [Bool.and_eq_true,decide_eq_true_eq] at h
 omega
def ck0:Ck2:=(([],true),([],true))
def jZ(u:aJ)(l:aN):Ck2:=(u.nodes.l.zip l.nodes.l).foldl (fC l) ck0
def vk(u:aJ)(l:aN):CkS:=l.stubs.l.foldl (qu l) (l.slots.l.zipIdx.foldl (fm l (du u)) (jZ u l).1)
def prB(u:aJ)(l:aN):Bool:=dS u l && ((vk u l).2 && (jZ u l).2.2)
def oL(B:Nat)(c:CkS):Prop:=bD c.1∧c.1.length≤B
theorem oL.use{B:Nat}{c:CkS}(h:oL B c)(a n al f u:Int):oL (B+1) (dU c a n al f u):=by
 have:=yp (a:=a) (n:=n) (al:=al) (f:=f) (u:=u) h.1
 exact ⟨this.1,Nat.le_trans this.2 (Nat.succ_le_succ h.2)⟩
theorem oL.mono{B B':Nat}{c:CkS}(h:oL B c)(hb:B≤B'):oL B' c:=⟨h.1,Nat.le_trans h.2 hb⟩
open Go.Proofs.Tryz
attribute [local irreducible] aL aB awp aC fwp Quiet
def kv(r:dE):eu:=⟨0,r.at_,r.kind,0,r.add⟩
def varOf(v:bS):dP:=⟨0,v.from_,v.to_,v.name,v.where_,v.n⟩
def iM(x:aQ):bw:=⟨x.sec,x.kind,x.align,x.size,x.bytes,false⟩
def aaf:bJ:=⟨⟨#[100]⟩,.empty,false,1,0,1,-1,0,0,0⟩
theorem y0{α:Type}{f:α→Per}{x:α}{ps:List Per}(h:Ent ps (f x)):Ent ps (bu f [x]):=fun w S hp y hy=>by rw [List.mem_singleton.1 hy];exact h w S hp
structure xU (x:aQ) (o:aI):Prop where
 secs:o.secs.l=[iM x]
 rels:o.rels.l=x.refs.l.map kv
 groups:o.groups.l=[]
 inl:o.inlines=x.inlines
abbrev ab0(x:aQ)(a1 a2:Option Addr)(R:Sl eu)(V:Sl dP):aI:=⟨⟨#[111]⟩,⟨a1,1,[iM x]⟩,⟨a2,1,[aaf]⟩,R,cI,cI,x.lines,x.inlines,V,x.depths,cI⟩
theorem lQ(x:aQ)(h1:x.refs.l.length≤100000000)(h2:x.vars.l.length≤100000000):Con Tryz.prog 68 [x.val] [x.ok] [] fun r ps hp=>hp=[]∧∃ o:aI,(r=o.val∧ps=[o.ok])∧xU x o:=by
 refine Con.conv (R:=fun r ps hp=>hp=[]∧∃ a1 a2 R V,r=(ab0 x a1 a2 R V).val∧(R.l=x.refs.l.map kv∧V.l=x.vars.l.map varOf)∧ps=[ShF dP.row V,ShF eu.row R,cnd true (Sh (.slice a2 1 1) (.sl [aaf.row])),cnd true (Sh (.slice a1 1 1) (.sl [(iM x).row])),x.ok]) ?_ fun _ _ _ ⟨e1,a1,a2,R,V,e2,⟨e3,e4⟩,e5⟩ => ?_
 rotate_left
 · subst e1 e2 e5
   refine ⟨_,_,StE.ents (ps':=[(ab0 x a1 a2 R V).ok]) fun p hp => ?_,rfl,ab0 x a1 a2 R V,⟨rfl,rfl⟩,rfl,e3,rfl,rfl⟩
   rw [List.mem_singleton.1 hp]
   have hx:Ent [ShF dP.row V,ShF eu.row R,cnd true (Sh (.slice a2 1 1) (.sl [aaf.row])),cnd true (Sh (.slice a1 1 1) (.sl [(iM x).row])),x.ok] x.ok:=.of (ax 4 rfl)
   exact .mk2 (si (show (⟨#[111]⟩:ByteArray).size≤maxLen by decide)) (.mk2 (.yes (.of (ax 3 rfl)) rfl) (.mk2 (y0 (.mk2 (aQ.f_sec hx) (aQ.f_bytes hx))) (.mk2 (.yes (.of (ax 2 rfl)) rfl) (.mk2 (y0 (.mk2 (si (by decide)) (si (by decide)))) (.mk2 (.of (ax 1 rfl)) (.mk2 eC (.mk2 iq (.mk2 eC (.mk2 (aQ.f_lines hx) (.mk2 (aQ.f_linesA hx) (.mk2 (aQ.f_inlines hx) (.mk2 (aQ.f_inlinesA hx) (.mk2 (.of (ax 0 rfl)) (.mk2 (fun w S h y hy=>by
     rw [e4] at hy
     obtain ⟨z,hz,rfl⟩:=List.mem_map.1 hy
     exact aQ.f_varsA hx w S h z hz) (.mk2 (aQ.f_depths hx) (.mk2 eC iq))))))))))))))))
 refine EN1 Tryz.func68 rfl (aO (aQ.f_refs (.of (ax 0 rfl))) (fun hlen=>(aO (aQ.f_vars (.of (ax 0 rfl))) (fun hlen2=>(aSR (LT rfl (aS rfl rfl rfl (fun b0_0=>(aHN ?_)))))))))
 refine LT rfl (aW (zs:=[.string .empty,.slice none 0 0,.slice none 0 0,.slice none 0 0,.slice none 0 0,.slice none 0 0,.slice none 0 0,.slice none 0 0,.slice none 0 0,.slice none 0 0,.slice none 0 0]) (by kernel_rfl) rfl (fun b0_1=>(aHN ?_)))
 refine go 0 [1,0,2,0,3,0,4,0,5,0] ?_
 refine aU rfl (bP (l:=[(0,.tmp 9),(1,.tmp 11),(2,.tmp 13),(3,.tmp 15),(4,.tmp 17)]) (zs:=[.string .empty,.int .i64 0,.int .i64 0,.int .i64 0,.string .empty,.bool false]) (pl:=[(0,1),(1,1),(2,1),(3,1),(4,1),(5,1)]) (by kernel_rfl) (by kernel_rfl) (by kernel_rfl) rfl rfl rfl) (eK (zs:=[.string .empty,.int .i64 0,.int .i64 0,.int .i64 0,.string .empty,.bool false]) (l:=[(0,.tmp 18)]) el118 (by kernel_rfl) (by decide) (by decide) (by decide) rfl _ rfl (fun hc=>rfl) rfl (.more rfl (.v rfl (.v rfl (.v rfl (.v rfl (.v rfl (.v rfl .nil)))))) .nil) rfl rfl (fun v1_11=>(aU rfl (bP (l:=[(0,.const (.string ⟨#[100]⟩)),(3,.const (.int .i64 1)),(5,.const (.int .i64 1)),(6,.const (.int .i64 (-1)))]) (zs:=[.string .empty,.string .empty,.bool false,.int .i64 0,.int .i64 0,.int .i64 0,.int .i64 0,.int .i64 0,.int .i64 0,.int .i64 0]) (pl:=[(0,1),(1,1),(2,1),(3,1),(4,1),(5,1),(6,1),(7,1),(8,1),(9,1)]) (by kernel_rfl) (by kernel_rfl) (by kernel_rfl) rfl rfl rfl) (eK (zs:=[.string .empty,.string .empty,.bool false,.int .i64 0,.int .i64 0,.int .i64 0,.int .i64 0,.int .i64 0,.int .i64 0,.int .i64 0]) (l:=[(0,.tmp 20)]) el119 (by kernel_rfl) (by decide) (by decide) (by decide) rfl _ rfl (fun hc=>rfl) rfl (.more rfl (.v rfl (.v rfl (.v rfl (.v rfl (.v rfl (.v rfl (.v rfl (.v rfl (.v rfl (.v rfl .nil)))))))))) .nil) rfl rfl (fun v1_13=>(go 0 [8,0,9,0,11,0] ?_))))))
 refine aU rfl (bP (l:=[(0,.const (.string ⟨#[111]⟩)),(1,.tmp 19),(2,.tmp 21),(6,.tmp 23),(7,.tmp 25),(9,.tmp 27)]) (zs:=[.string .empty,.slice none 0 0,.slice none 0 0,.slice none 0 0,.slice none 0 0,.slice none 0 0,.slice none 0 0,.slice none 0 0,.slice none 0 0,.slice none 0 0,.slice none 0 0]) (pl:=[(0,1),(1,1),(2,1),(3,1),(4,1),(5,1),(6,1),(7,1),(8,1),(9,1),(10,1)]) (by kernel_rfl) (by kernel_rfl) (by kernel_rfl) rfl rfl rfl) (LT rfl (aW (zs:=[.string .empty,.slice none 0 0,.slice none 0 0,.slice none 0 0,.slice none 0 0,.slice none 0 0,.slice none 0 0,.slice none 0 0,.slice none 0 0,.slice none 0 0,.slice none 0 0]) (by kernel_rfl) rfl (fun b1_21=>(aHN ?_))))
 refine go 4 [32262] ?_
 refine cV 178 5 ?_
 show awp _ _ _ _ ⟨_,_,[_,_,_,_]⟩
 refine go 3 [6,0,54,0] ?_
 refine aF [1,2,3,30,31,32] [2,1,0] [0,1,2,3] (fun (q:Nat × (Value × List eu)) st=>(q.1≤x.refs.l.length∧q.2.2=(x.refs.l.take q.1).map kv)∧st=⟨[(1,true,.pointer (some ⟨b0_0,0,none⟩)),(2,true,.pointer (some ⟨b0_1,0,none⟩)),(3,true,.pointer (some ⟨b1_21,0,none⟩)),(30,true,x.refs.val),(31,true,.int .i64 x.refs.l.length),(32,true,.int .i64 q.1)],[cnd true (Sh (.slice v1_13 1 1) (.sl [aaf.row])),cnd true (Sh (.slice v1_11 1 1) (.sl [(iM x).row])),x.ok],[Box b0_0 52 x.vs,Box b0_1 126 (nmO .empty).vs,Box b1_21 126 [.string ⟨#[111]⟩,.slice v1_11 1 1,.slice v1_13 1 1,q.2.1,.slice none 0 0,.slice none 0 0,x.lines.val,x.inlines.val,.slice none 0 0,x.depths.val,.slice none 0 0],aP q.2.1 178 5 (q.2.2.map eu.row)]⟩) (fun q=>x.refs.l.length-q.1) rfl (⟨(0,(_,[])),⟨Nat.zero_le _,rfl⟩,rfl⟩) ?_
 rintro ⟨k,v,zs⟩ st ⟨⟨hk,hz⟩,rfl⟩
 dsimp only at hk hz
 have hzl:zs.length=k:=by rw [hz,List.length_map,List.length_take];omega
 refine go 3 [0] ?_
 refine aa _ rfl (fun h1 => ?_) (fun h1 => ?_)
 ·skip
  have hk':k<x.refs.l.length:=by simpa using h1
  obtain ⟨r,hr⟩:∃ r,x.refs.l[k]? = some r:=⟨_,List.getElem?_eq_getElem hk'⟩
  refine aD (an (aq (aH (aSR (bI true rfl rfl (fun _=>ai Tryz.underlying45 tk54 rfl ((aQ.f_refs (.of (ax 2 rfl)))) rfl (ak hr) rfl rfl) (fun h=>absurd h (by decide)) (fun ⟨b4_0,o4_0⟩=>(go 0 [19970] ?_)))))))
  refine LT rfl (aW (zs:=[.int .i64 0,.int .i64 0,.int .i64 0,.int .i64 0,.int .i64 0,.int .i64 0,.int .i64 0]) (by kernel_rfl) rfl (fun b4_2=>(aHN ?_)))
  refine go 0 [19980,3,6,0,12,1,12,6,12] ?_
  refine aU rfl (bP (l:=[(1,.tmp 39),(2,.tmp 41),(4,.tmp 43)]) (zs:=[.int .i64 0,.int .i64 0,.int .i64 0,.int .i64 0,.int .i64 0]) (pl:=[(0,1),(1,1),(2,1),(3,1),(4,1)]) (by kernel_rfl) (by kernel_rfl) (by kernel_rfl) rfl rfl rfl) (LT rfl (WL (zs:=[.int .i64 0,.int .i64 0,.int .i64 0,.int .i64 0,.int .i64 0]) el120 rfl rfl rfl (.more rfl (.v rfl (.v rfl (.v rfl (.v rfl (.v rfl .nil))))) .nil) rfl rfl (fun v5_9=>(aHN ?_))))
  refine aT rfl (bH 3 el120 rfl rfl rfl rfl (cP 5 el120 rfl (by simp)) (by first | assumption | simp) (by show (zs.map eu.row).length+1≤_;rw [List.length_map];exact Nat.le_trans (show zs.length+1≤100000001 by omega) (by decide)) ((zs++[kv r]).length) (by show (zs.map eu.row).length+1=_;rw [List.length_map,List.length_append];rfl) (fun v5_10 c5_10 => ?_))
  refine aHK ?_
  refine go 1 [3,6,0,0] ?_
  refine an ?_
  refine ⟨[1,2,3,30,31,32],[2,1,0],[0,1,2,3],rfl,?_⟩
  exact ⟨(k+1,(_,zs++[kv r])),⟨⟨by dsimp only;omega,by dsimp only;rw [List.take_add_one,hr,List.map_append,← hz];rfl⟩,by dsimp only;rw [List.map_append];rfl⟩,by dsimp only;omega⟩
 ·skip
  have hke:k=x.refs.l.length:=by have:=of_decide_eq_false h1;omega
  subst hke
  rw [List.take_length] at hz
  refine aY (bb (bb (bg (an (aq (aq (cV 180 6 ?_)))))))
  show awp _ _ _ _ ⟨_,_,[_,_,_,_,_]⟩
  refine go 3 [10,0,134,0] ?_
  refine aF [1,2,3,50,51,52] [2,1,0] [0,1,2,3,4] (fun (q:Nat × (Value × List dP)) st=>(q.1≤x.vars.l.length∧q.2.2=(x.vars.l.take q.1).map varOf)∧st=⟨[(1,true,.pointer (some ⟨b0_0,0,none⟩)),(2,true,.pointer (some ⟨b0_1,0,none⟩)),(3,true,.pointer (some ⟨b1_21,0,none⟩)),(50,true,x.vars.val),(51,true,.int .i64 x.vars.l.length),(52,true,.int .i64 q.1)],[cnd true (Sh (.slice v1_13 1 1) (.sl [aaf.row])),cnd true (Sh (.slice v1_11 1 1) (.sl [(iM x).row])),x.ok],[Box b0_0 52 x.vs,Box b0_1 126 (nmO .empty).vs,Box b1_21 126 [.string ⟨#[111]⟩,.slice v1_11 1 1,.slice v1_13 1 1,v,.slice none 0 0,.slice none 0 0,x.lines.val,x.inlines.val,q.2.1,x.depths.val,.slice none 0 0],aP v 178 5 (zs.map eu.row),aP q.2.1 180 6 (q.2.2.map dP.row)]⟩) (fun q=>x.vars.l.length-q.1) rfl (⟨(0,(_,[])),⟨Nat.zero_le _,rfl⟩,rfl⟩) ?_
  rintro ⟨j,w,ys⟩ st ⟨⟨hj,hy⟩,rfl⟩
  dsimp only at hj hy
  have hyl:ys.length=j:=by rw [hy,List.length_map,List.length_take];omega
  refine go 3 [0] ?_
  refine aa _ rfl (fun h2 => ?_) (fun h2 => ?_)
  ·skip
   have hj':j<x.vars.l.length:=by simpa using h2
   obtain ⟨r,hr⟩:∃ r,x.vars.l[j]? = some r:=⟨_,List.getElem?_eq_getElem hj'⟩
   refine aD (an (aq (aH (aSR (bI true rfl rfl (fun _=>ai Tryz.underlying49 tk134 rfl ((aQ.f_vars (.of (ax 2 rfl)))) rfl (ak hr) rfl rfl) (fun h=>absurd h (by decide)) (fun ⟨b9_0,o9_0⟩=>(go 0 [26114] ?_)))))))
   refine LT rfl (aW (zs:=[.int .i64 0,.int .i64 0,.string .empty,.int .i64 0,.int .i64 0,.int .i64 0,.int .i64 0,.int .i64 0,.int .i64 0]) (by kernel_rfl) rfl (fun b9_2=>(aHN ?_)))
   refine go 0 [26127,8,6,0,15,1,15,2,15,3,15,4,15] ?_
   refine aU rfl (bP (l:=[(1,.tmp 59),(2,.tmp 61),(3,.tmp 63),(4,.tmp 65),(5,.tmp 67)]) (zs:=[.int .i64 0,.int .i64 0,.int .i64 0,.string .empty,.int .i64 0,.int .i64 0]) (pl:=[(0,1),(1,1),(2,1),(3,1),(4,1),(5,1)]) (by kernel_rfl) (by kernel_rfl) (by kernel_rfl) rfl rfl rfl) (LT rfl (WL (zs:=[.int .i64 0,.int .i64 0,.int .i64 0,.string .empty,.int .i64 0,.int .i64 0]) el123 rfl rfl rfl (.more rfl (.v rfl (.v rfl (.v rfl (.v rfl (.v rfl (.v rfl .nil)))))) .nil) rfl rfl (fun v10_13=>(aHN ?_))))
   refine aT rfl (bH 4 el123 rfl rfl rfl rfl (cP 6 el123 rfl (by simp)) (by first | assumption | simp) (by show (ys.map dP.row).length+1≤_;rw [List.length_map];exact Nat.le_trans (show ys.length+1≤100000001 by omega) (by decide)) ((ys++[varOf r]).length) (by show (ys.map dP.row).length+1=_;rw [List.length_map,List.length_append];rfl) (fun v10_14 c10_14 => ?_))
   refine aHK ?_
   refine go 1 [8,6,0,0] ?_
   refine an ?_
   refine ⟨[1,2,3,50,51,52],[2,1,0],[0,1,2,3,4],rfl,?_⟩
   exact ⟨(j+1,(_,ys++[varOf r])),⟨⟨by dsimp only;omega,by dsimp only;rw [List.take_add_one,hr,List.map_append,← hy];rfl⟩,by dsimp only;rw [List.map_append];rfl⟩,by dsimp only;omega⟩
  ·skip
   have hje:j=x.vars.l.length:=by have:=of_decide_eq_false h2;omega
   subst hje
   rw [List.take_length] at hy
   refine aY (bb (bb (bg (an (aq (cB 3 rfl (fun _ _ _ h=>df h) (fun ⟨a3,c3,hv⟩=>(cB 4 rfl (fun _ _ _ h=>df h) (fun ⟨a4,c4,hw⟩ => ?_)))))))))
   rw [List.length_map] at hv hw
   dsimp only at hv hw ⊢
   subst hv hw
   refine cK 3 (ShF eu.row ⟨a3,c3,zs⟩) rfl (fun _ _ _ h=>db h) (cK 4 (ShF dP.row ⟨a4,c4,ys⟩) rfl (fun _ _ _ h=>db h) (go 2 [32262,32259] ?_))
   refine ae ?_
   refine sr [4,3,2,1,0] [] rfl Tryz.results68 (ef 1 tk126 rfl rfl rfl) ?_ (.inr rfl)
   exact ⟨rfl,v1_11,v1_13,⟨a3,c3,zs⟩,⟨a4,c4,ys⟩,rfl,⟨hz,hy⟩,rfl⟩
structure SzU (u:aJ):Prop where
 nodes:u.nodes.l.length≤100000000
 imports:u.imports.l.length≤100000000
 node:∀ x∈u.nodes.l,x.refs.l.length≤100000000∧x.vars.l.length≤100000000∧x.inlines.l.length≤100000000
end Go.Proofs.YtgkbbdgklpabpaaGreatDoor

