/- Parts of the proof, in build order. No condition. -/
import Derived.Test.YtgkbbdgklpabpaaGreatDoorSc26
import Derived.Test.YtgkbbdgklpabpaaGreatDoorSc07
import Derived.Test.YtgkbbdgklpabpaaGreatDoorSc05
import Derived.Test.YtgkbbdgklpabpaaGreatDoorSc09
import Derived.Test.YtgkbbdgklpabpaaGreatDoorSc24
import Derived.Test.YtgkbbdgklpabpaaGreatDoorSc25
import Derived.Test.YtgkbbdgklpabpaaGreatDoorSc20
set_option linter.unusedSimpArgs false
set_option linter.unusedVariables false
set_option maxHeartbeats 20000000
set_option maxRecDepth 20000
namespace Go.Proofs.YtgkbbdgklpabpaaGreatDoor
open Go.RowKit Go.Lp Go.Sy
open Go.Proofs.Tryz
attribute [local irreducible] aL aB awp aC fwp Quiet
set_option maxHeartbeats 2000000 in
theorem qN (u:aJ) (l:aN) (hu:iy u) (hs:SzU u) (hl:LyI l):Con Tryz.prog 21 [u.val,l.val] [u.ok,l.ok] [] (YN Value.bool fun b=>b=true↔lD u l):=by
 have hN:=hs.nodes
 have hI:=hs.imports
 have hT:=hl.nst
 have hzi:(prs u l).length≤u.nodes.l.length:=by rw [List.length_zip];omega
 refine EN2 Tryz.func21 rfl (aO (aJ.f_nodes (.of (ax 0 rfl))) (fun hlen=>(aSR (LT rfl (aS rfl rfl rfl (fun b0_0=>(aHN ?_)))))))
 refine LT rfl (aS rfl rfl rfl (fun b0_1=>(aHN ?_)))
 refine aA rfl (aNs (aSR (UO 0 rfl rfl (UL 1 tk33 rfl rfl rfl rfl (aU rfl (bk Tryz.underlying33 rfl) (UO 2 rfl rfl (UL 0 tk22 rfl rfl rfl rfl (aU rfl (bk Tryz.underlying22 rfl) (aU rfl (fg rfl rfl) (aM rfl (GO 1 rfl rfl rfl (GL 1 tk33 rfl rfl rfl rfl rfl (aG rfl rfl (fun hc=>bk Tryz.underlying33 (ah rfl hc)) (GO 3 rfl rfl rfl ?_))))))))))))))
 refine GL 0 tk23 rfl rfl rfl rfl rfl (aG rfl rfl (fun hc=>bk Tryz.underlying23 (ah rfl hc)) (aG rfl rfl (fun hc=>fg (ah rfl hc) (ah rfl hc)) (aU rfl (eX rfl rfl (fun h=>gf rfl h)) (aM rfl (GO 6 rfl rfl rfl (GL 1 tk3 rfl rfl rfl rfl rfl (aG rfl rfl (fun hc=>cf (ah rfl hc) rfl) (aU rfl (eX rfl rfl (fun h=>gf rfl h)) (aM rfl (GO 6 rfl rfl rfl (GL 1 tk3 rfl rfl rfl rfl rfl (aG rfl rfl (fun hc=>eH (ah rfl hc) rfl) (aU rfl (eX rfl rfl (fun h=>gf rfl h)) (aNn ?_))))))))))))))
 refine aa _ rfl (fun h1 => ?_) (fun h1 => ?_)
 ·skip
  have hno:¬ lD u l:=fun g=>by have:=dh g.1;simp at h1;omega
  refine aSR (aA rfl (aNn (ae (aj (FZ1 [] Tryz.results21 rfl ?_)))))
  exact ⟨⟨rfl,rfl⟩,_,rfl,⟨fun g=>(by cases g),fun g=>absurd g hno⟩⟩
 ·skip
  refine aD (an (aq (aSR (UO 3 rfl rfl (UL 1 tk3 rfl rfl rfl rfl (aU rfl (cf rfl rfl) (aM rfl (GO 3 rfl rfl rfl (GL 1 tk3 rfl rfl rfl rfl rfl (GO 4 rfl rfl rfl (GL 1 tk3 rfl rfl rfl rfl rfl (aG rfl rfl (fun hc=>eH (ah rfl hc) (ah rfl hc)) (aU rfl (eX rfl rfl (fun h=>gf rfl h)) (aM rfl (GO 4 rfl rfl rfl ?_)))))))))))))))
  refine GL 1 tk3 rfl rfl rfl rfl rfl (GO 5 rfl rfl rfl (GL 1 tk3 rfl rfl rfl rfl rfl (aG rfl rfl (fun hc=>eH (ah rfl hc) (ah rfl hc)) (aU rfl (eX rfl rfl (fun h=>gf rfl h)) (aM rfl (GO 5 rfl rfl rfl (GL 1 tk3 rfl rfl rfl rfl rfl (aG rfl rfl (fun hc=>eH (ah rfl hc) rfl) (aU rfl (eX rfl rfl (fun h=>gf rfl h)) (aM rfl (GO 3 rfl rfl rfl (GL 1 tk3 rfl rfl rfl rfl rfl (aG rfl rfl (fun hc=>ee (ah rfl hc) rfl (by decide)) ?_)))))))))))))
  refine aG rfl rfl (fun hc=>fg (ah rfl hc) rfl) (aU rfl (eX rfl rfl (fun h=>gf rfl h)) (aM rfl (GO 4 rfl rfl rfl (GL 1 tk3 rfl rfl rfl rfl rfl (aG rfl rfl (fun hc=>ee (ah rfl hc) rfl (by decide)) (aG rfl rfl (fun hc=>fg (ah rfl hc) rfl) (aU rfl (eX rfl rfl (fun h=>gf rfl h)) (aM rfl (GO 5 rfl rfl rfl (GL 1 tk3 rfl rfl rfl rfl rfl (aG rfl rfl (fun hc=>ee (ah rfl hc) rfl (by decide)) (aG rfl rfl (fun hc=>fg (ah rfl hc) rfl) (aU rfl (eX rfl rfl (fun h=>gf rfl h)) (aNn ?_))))))))))))))
  refine aa _ rfl (fun h2 => ?_) (fun h2 => ?_)
  ·skip
   have hno:¬ lD u l:=fun g=>by have:=dh g.1;simp at h2;omega
   refine aSR (aA rfl (aNn (ae (aj (FZ1 [] Tryz.results21 rfl ?_)))))
   exact ⟨⟨rfl,rfl⟩,_,rfl,⟨fun g=>(by cases g),fun g=>absurd g hno⟩⟩
  ·skip
   have hz:dS u l=true:=xK (by simp at h1 h2;omega)
   obtain ⟨_,hz1,hz2,hz3,hz4⟩:=dh hz
   refine aD (an (aq (cV 95 2 ?_)))
   show awp _ _ _ _ ⟨_,_,[_,_,_]⟩
   refine az (aA rfl (aNs (cV 95 2 ?_)))
   show awp _ _ _ _ ⟨_,_,[_,_,_,_]⟩
   refine az (aA rfl (aNs (aSR (aA rfl (aNn (aH ?_))))))
   refine aF [2,3,5,6,7] [1,0] [0,1,2,3] (fun (q:Nat × (Value × List Span) × (Value × List Span)) st=>(q.1≤u.nodes.l.length∧q.2.1.2=iG ((prs u l).take q.1)∧q.2.2.2=jw ((prs u l).take q.1)∧∀ p∈(prs u l).take q.1,lk l p=true)∧st=⟨[(2,true,.pointer (some ⟨b0_0,0,none⟩)),(3,true,.pointer (some ⟨b0_1,0,none⟩)),(5,true,q.2.1.1),(6,true,q.2.2.1),(7,true,.int .i64 q.1)],[u.ok,l.ok],[Box b0_0 32 u.vs,Box b0_1 36 l.vs,aP q.2.1.1 95 2 (q.2.1.2.map aV),aP q.2.2.1 95 2 (q.2.2.2.map aV)]⟩) (fun q=>u.nodes.l.length-q.1) rfl (⟨(0,(_,[]),(_,[])),⟨Nat.zero_le _,rfl,rfl,fun _ h=>by cases h⟩,rfl⟩) ?_
   rintro ⟨k,⟨mv,M⟩,⟨bv,B⟩⟩ st ⟨⟨hk,hM,hB,hin⟩,rfl⟩
   dsimp only at hk hM hB hin
   have hMl:M.length≤k:=by rw [hM];exact Nat.le_trans (ob _) (List.length_take_le ..)
   have hBl:B.length≤k:=by rw [hB];exact Nat.le_trans (yi _) (List.length_take_le ..)
   refine aq (aSR (aM rfl (UO 2 rfl rfl (UL 0 tk22 rfl rfl rfl rfl (aU rfl (bk Tryz.underlying22 rfl) (aU rfl (cf rfl rfl) (aNn ?_)))))))
   refine aa _ rfl (fun h3 => ?_) (fun h3 => ?_)
   ·skip
    have hk':k<u.nodes.l.length:=by simpa using h3
    obtain ⟨x,hx⟩:∃ x,u.nodes.l[k]? = some x:=⟨_,List.getElem?_eq_getElem hk'⟩
    obtain ⟨a,ha⟩:∃ a,l.nodes.l[k]? = some a:=⟨_,List.getElem?_eq_getElem (by omega)⟩
    have hxa:(prs u l)[k]? = some (x,a):=List.getElem?_zip_eq_some.2 ⟨hx,ha⟩
    have hxz:=xo hu x (List.mem_of_getElem? hx)
    have hxs:=hxz.1
    have hxl:=hxz.2
    have hai:=hl.nodes a (List.mem_of_getElem? ha)
    have hlm:=ra hz x.kind
    have hln:=aaQ hz x.kind
    have hsM:=xf hxa
    have hsB:=wc hxa
    dsimp only at hsM hsB
    refine aD (an (aq (aH (aSR (UO 2 rfl rfl (UL 0 tk22 rfl rfl rfl rfl (aM rfl (bI true rfl rfl (fun _=>ai Tryz.underlying22 tk52 rfl ((aJ.f_nodes (.of (ax 0 rfl)))) rfl (ak hx) rfl rfl) (fun h=>absurd h (by decide)) (fun ⟨b10_3,o10_3⟩=>(US 0 tk52 0 rfl rfl rfl rfl rfl (LT rfl (aW (zs:=[.string .empty,.string .empty,.int .i64 0,.int .i64 0,.int .i64 0,.string .empty,.slice none 0 0,.slice none 0 0,.slice none 0 0,.slice none 0 0,.slice none 0 0,.slice none 0 0]) (by kernel_rfl) rfl (fun b10_5=>(aHN ?_))))))))))))))
    refine aT rfl (bX 4 tk52 rfl rfl rfl rfl (aHK ?_))
    refine aNn (aSR (UL 1 tk36 rfl rfl rfl rfl (UO 2 rfl rfl (UL 4 tk3 rfl rfl rfl rfl (aU rfl (Q0 rfl (pe l x.kind)) (aM rfl (aU rfl (cT rfl rfl) (aU rfl (cT rfl rfl) (aA rfl (aA rfl (aNs (aq (DR [] 13 (VO 0 0 rfl rfl rfl (VL 1 1 tk33 rfl rfl rfl rfl rfl ?_)))))))))))))))
    refine VM 2 rfl rfl (dz 3 rfl (by kernel_rfl) true rfl rfl (fun _=>ai Tryz.underlying33 tk3 rfl ((aN.f_nodes (.of (ax 2 rfl)))) rfl (ak ha) rfl rfl) (fun h=>absurd h (by decide)) (fun ⟨b12_3,o12_3⟩=>(VT 4 0 tk3 0 rfl rfl rfl rfl rfl rfl (VO 5 4 rfl rfl rfl (VL 6 4 tk3 rfl rfl rfl rfl rfl (VO 7 3 rfl rfl rfl (VL 8 4 tk3 rfl rfl rfl rfl rfl (VM 9 rfl rfl (VM 10 rfl rfl (bV 11 rfl rfl (Q0 rfl (k5 a x.size x.align (nT l x.kind) (kj l x.kind) hai (by omega) (by omega) (by omega))) (bV 12 rfl rfl (eJ rfl) (BN (an ?_)))))))))))))
    refine aa _ rfl (fun h4 => ?_) (fun h4 => ?_)
    ·skip
     have hno:¬ lD u l:=fun g=>by have:=g.2.1 _ (List.mem_of_getElem? hxa);unfold lk at this;dsimp only at this;rw [this] at h4;cases h4
     refine aSR (aA rfl (aNn (ae (aj (aK (aj (aj (aK (aj (FZ1 [] Tryz.results21 rfl ?_))))))))))
     exact ⟨⟨rfl,rfl⟩,_,rfl,⟨fun g=>(by cases g),fun g=>absurd g hno⟩⟩
    ·skip
     have hix:lk l (x,a)=true:=by simp at h4;exact h4
     have hal:=jT (Q:=fun p=>lk l p=true) hxa hin hix
     refine aD (an (aSR (UO 2 rfl rfl (UL 4 tk3 rfl rfl rfl rfl (aU rfl (Q0 rfl (qM x.kind)) (aNn ?_))))))
     refine aa _ rfl (fun h5 => ?_) (fun h5 => ?_)
     ·skip
      rw [if_pos h5] at hsM hsB
      rw [List.append_nil] at hsM
      refine DR [10] 12 (VM 0 rfl rfl (VO 1 0 rfl rfl rfl (VL 2 1 tk33 rfl rfl rfl rfl rfl (VM 3 rfl rfl (dz 4 rfl (by kernel_rfl) true rfl rfl (fun _=>ai Tryz.underlying33 tk3 rfl ((aN.f_nodes (.of (ax 3 rfl)))) rfl (ak ha) rfl rfl) (fun h=>absurd h (by decide)) (fun ⟨b15_4,o15_4⟩=>(VT 5 0 tk3 0 rfl rfl rfl rfl rfl rfl (VO 6 4 rfl rfl rfl (VL 7 4 tk3 rfl rfl rfl rfl rfl (bV 8 rfl rfl (bP (l:=[(0,.tmp 120),(1,.tmp 122)]) (zs:=[.int .i64 0,.int .i64 0]) (pl:=[(0,1),(1,1)]) (by kernel_rfl) (by kernel_rfl) (by kernel_rfl) rfl rfl rfl) (dG (q:=true) 9 rfl (by kernel_rfl) rfl rfl (WL (zs:=[.int .i64 0,.int .i64 0]) el78 rfl rfl rfl (.more rfl (.v rfl (.v rfl .nil)) .nil) rfl rfl (fun v15_9=>(bST rfl ?_))))))))))))))
      refine dG 10 rfl (by kernel_rfl) rfl rfl (bH 3 el78 rfl rfl rfl rfl (cP 5 el78 rfl (by simp)) (by first | assumption | simp) (by show (B.map aV).length+1≤_;rw [List.length_map];exact Nat.le_trans (show B.length+1≤300000001 by omega) (by decide)) ((B++[spN (x,a)]).length) (by show (B.map aV).length+1=_;rw [List.length_map,List.length_append];rfl) (fun v15_10 c15_10 => ?_))
      refine bST rfl ?_
      refine bV 11 rfl rfl (dM rfl) (BN (ca (an (az (aM rfl (aU rfl (bz rfl rfl (by omega)) (aA rfl (aNn ?_))))))))
      refine ⟨[2,3,5,6,7],[1,0],[0,1,2,3],rfl,?_⟩
      exact ⟨(k+1,(mv,M),(_,B++[spN (x,a)])),⟨⟨hk',by dsimp only;rw [hsM,hM],by dsimp only;rw [hsB,hB],hal⟩,by dsimp only;rw [List.map_append];rfl⟩,by dsimp only;omega⟩
     ·skip
      rw [if_neg (by rw [h5];exact Bool.false_ne_true)] at hsM hsB
      rw [List.append_nil] at hsB
      refine DR [10] 12 (VM 0 rfl rfl (VO 1 0 rfl rfl rfl (VL 2 1 tk33 rfl rfl rfl rfl rfl (VM 3 rfl rfl (dz 4 rfl (by kernel_rfl) true rfl rfl (fun _=>ai Tryz.underlying33 tk3 rfl ((aN.f_nodes (.of (ax 3 rfl)))) rfl (ak ha) rfl rfl) (fun h=>absurd h (by decide)) (fun ⟨b16_4,o16_4⟩=>(VT 5 0 tk3 0 rfl rfl rfl rfl rfl rfl (VO 6 4 rfl rfl rfl (VL 7 4 tk3 rfl rfl rfl rfl rfl (bV 8 rfl rfl (bP (l:=[(0,.tmp 131),(1,.tmp 133)]) (zs:=[.int .i64 0,.int .i64 0]) (pl:=[(0,1),(1,1)]) (by kernel_rfl) (by kernel_rfl) (by kernel_rfl) rfl rfl rfl) (dG (q:=true) 9 rfl (by kernel_rfl) rfl rfl (WL (zs:=[.int .i64 0,.int .i64 0]) el78 rfl rfl rfl (.more rfl (.v rfl (.v rfl .nil)) .nil) rfl rfl (fun v16_9=>(bST rfl ?_))))))))))))))
      refine dG 10 rfl (by kernel_rfl) rfl rfl (bH 2 el78 rfl rfl rfl rfl (cP 5 el78 rfl (by simp)) (by first | assumption | simp) (by show (M.map aV).length+1≤_;rw [List.length_map];exact Nat.le_trans (show M.length+1≤300000001 by omega) (by decide)) ((M++[spN (x,a)]).length) (by show (M.map aV).length+1=_;rw [List.length_map,List.length_append];rfl) (fun v16_10 c16_10 => ?_))
      refine bST rfl ?_
      refine bV 11 rfl rfl (dM rfl) (BN (ca (an (az (aM rfl (aU rfl (bz rfl rfl (by omega)) (aA rfl (aNn ?_))))))))
      refine ⟨[2,3,5,6,7],[1,0],[0,1,2,3],rfl,?_⟩
      exact ⟨(k+1,(_,M++[spN (x,a)]),(bv,B)),⟨⟨hk',by dsimp only;rw [hsM,hM],by dsimp only;rw [hsB,hB],hal⟩,by dsimp only;rw [List.map_append];rfl⟩,by dsimp only;omega⟩
   ·skip
    have hke:k=u.nodes.l.length:=by have:=of_decide_eq_false h3;omega
    subst hke
    rw [List.take_of_length_le hzi] at hM hB hin
    refine aY (bb (bb (bg (an (aSR (UL 0 tk32 rfl rfl rfl rfl (LT rfl (EC [1] [] rfl (rV u hs) ?_))))))))
    rintro _ _ _ ⟨rfl,L,⟨rfl,rfl⟩,hL⟩
    refine aST ?_
    refine aA rfl (aNs (aSR (aA rfl (aNn (aH ?_)))))
    refine aF [3,5,6,11,12] [2,0] [1,2,3] (fun (q:Nat × (Value × List Span)) st=>(q.1≤l.slots.l.length∧q.2.2=iG (prs u l)++fH (du u) (l.slots.l.zipIdx.take q.1)∧∀ p∈l.slots.l.zipIdx.take q.1,ir l (du u) p=true)∧st=⟨[(3,true,.pointer (some ⟨b0_1,0,none⟩)),(5,true,q.2.1),(6,true,bv),(11,true,L.val),(12,true,.int .i64 q.1)],[ShF bd L,l.ok],[Box b0_1 36 l.vs,aP q.2.1 95 2 (q.2.2.map aV),aP bv 95 2 (B.map aV)]⟩) (fun q=>l.slots.l.length-q.1) rfl (⟨(0,(mv,M)),⟨Nat.zero_le _,by dsimp only;rw [hM];exact (List.append_nil _).symm,fun _ h=>by cases h⟩,rfl⟩) ?_
    rintro ⟨j,⟨mv2,M2⟩⟩ st ⟨⟨hj,hM2,hsl⟩,rfl⟩
    dsimp only at hj hM2 hsl
    have hMl2:M2.length≤u.nodes.l.length+j:=by
      rw [hM2,List.length_append]
      have g1:=ob (prs u l)
      have g2:=p8 (du u) (l.slots.l.zipIdx.take j)
      rw [List.length_take] at g2
      omega
    refine aq (aSR (aM rfl (UO 1 rfl rfl (UL 0 tk33 rfl rfl rfl rfl (aU rfl (bk Tryz.underlying33 rfl) (aU rfl (cf rfl rfl) (aNn ?_)))))))
    refine aa _ rfl (fun h6 => ?_) (fun h6 => ?_)
    ·skip
     have hj':j<l.slots.l.length:=by simpa using h6
     obtain ⟨a3,ha3⟩:∃ a,l.slots.l[j]? = some a:=⟨_,List.getElem?_eq_getElem hj'⟩
     have hai3:=hl.slots a3 (List.mem_of_getElem? ha3)
     have hz3:l.slots.l.zipIdx[j]? = some (a3,j):=by rw [List.getElem?_zipIdx,ha3];simp
     have hss:=uW (need:=du u) hz3
     dsimp only at hss
     have hnd:=uF u j (by omega)
     refine aD (an (aq (aH (aq (aSR (aM rfl (aM rfl (aU rfl (Q1 rfl (tU L (j:Int)) 0 rfl) (aU rfl (eJ rfl) (aNn ?_))))))))))
     refine aa _ rfl (fun h7 => ?_) (fun h7 => ?_)
     ·skip
      have hnm:¬ (j:Int)∈du u:=by rw [← hnd,← hL];simpa using h7
      rw [if_neg hnm,List.append_nil] at hss
      have eo:ir l (du u) (a3,j)=decide (a3 = -1):=by unfold ir;rw [if_neg hnm]
      refine aq (aSR (UO 1 rfl rfl (UL 0 tk33 rfl rfl rfl rfl (aM rfl (bI true rfl rfl (fun _=>ai Tryz.underlying33 tk3 rfl ((aN.f_slots (.of (ax 1 rfl)))) rfl (ak ha3) rfl rfl) (fun h=>absurd h (by decide)) (fun ⟨b22_3,o22_3⟩=>(US 0 tk3 0 rfl rfl rfl rfl rfl (aU rfl (fg rfl rfl) (aNn ?_)))))))))
      refine aa _ rfl (fun h8 => ?_) (fun h8 => ?_)
      ·skip
       have hno:¬ lD u l:=fun g=>by have:=g.2.2.1 _ (List.mem_of_getElem? hz3);rw [eo] at this;simp at h8 this;exact h8 this
       refine aSR (aA rfl (aNn (ae (aj (aj (aK (aj (aj (aK (aj (FZ1 [] Tryz.results21 rfl ?_)))))))))))
       exact ⟨⟨rfl,rfl⟩,_,rfl,⟨fun g=>(by cases g),fun g=>absurd g hno⟩⟩
      ·skip
       have hso:ir l (du u) (a3,j)=true:=by rw [eo];simpa using h8
       have hal3:=jT (Q:=fun p=>ir l (du u) p=true) hz3 hsl hso
       refine aD (an (aY (bb (bg (an (az (aM rfl (aU rfl (bz rfl rfl (by omega)) (aA rfl (aNn ?_))))))))))
       refine ⟨[3,5,6,11,12],[1,0],[0,1,2],rfl,?_⟩
       exact ⟨(j+1,(mv2,M2)),⟨⟨hj',by dsimp only;rw [hss,hM2],hal3⟩,rfl⟩,by dsimp only;omega⟩
     ·skip
      have hnm:(j:Int)∈du u:=by rw [← hnd,← hL];simpa using h7
      rw [if_pos hnm] at hss
      have eo:ir l (du u) (a3,j)=inB a3 8 8 l.code l.data:=by unfold ir;rw [if_pos hnm]
      refine aD (an (aq (aq (DR [] 11 (VO 0 1 rfl rfl rfl (VL 1 0 tk33 rfl rfl rfl rfl rfl (VM 2 rfl rfl (dz 3 rfl (by kernel_rfl) true rfl rfl (fun _=>ai Tryz.underlying33 tk3 rfl ((aN.f_slots (.of (ax 1 rfl)))) rfl (ak ha3) rfl rfl) (fun h=>absurd h (by decide)) (fun ⟨b24_3,o24_3⟩=>(VT 4 0 tk3 0 rfl rfl rfl rfl rfl rfl (VO 5 3 rfl rfl rfl (VL 6 0 tk3 rfl rfl rfl rfl rfl (VO 7 4 rfl rfl rfl (VL 8 0 tk3 rfl rfl rfl rfl rfl (bV 9 rfl rfl (Q0 rfl (k5 a3 8 8 l.code l.data hai3 (by omega) (by omega) (by omega))) ?_)))))))))))))))
      refine bV 10 rfl rfl (eJ rfl) (BN (an ?_))
      refine aa _ rfl (fun h9 => ?_) (fun h9 => ?_)
      ·skip
       have hno:¬ lD u l:=fun g=>by have:=g.2.2.1 _ (List.mem_of_getElem? hz3);rw [eo] at this;rw [this] at h9;cases h9
       refine aSR (aA rfl (aNn (ae (aj (aK (aj (aj (aK (aj (FZ1 [] Tryz.results21 rfl ?_))))))))))
       exact ⟨⟨rfl,rfl⟩,_,rfl,⟨fun g=>(by cases g),fun g=>absurd g hno⟩⟩
      ·skip
       have hso:ir l (du u) (a3,j)=true:=by rw [eo];simpa using h9
       have hal3:=jT (Q:=fun p=>ir l (du u) p=true) hz3 hsl hso
       refine aD (an (az (aM rfl (UO 1 rfl rfl (UL 0 tk33 rfl rfl rfl rfl (aM rfl (bI true rfl rfl (fun _=>ai Tryz.underlying33 tk3 rfl ((aN.f_slots (.of (ax 2 rfl)))) rfl (ak ha3) rfl rfl) (fun h=>absurd h (by decide)) (fun ⟨b26_4,o26_4⟩=>(US 0 tk3 0 rfl rfl rfl rfl rfl (aU rfl (bP (l:=[(0,.tmp 172),(1,.const (.int .i64 8))]) (zs:=[.int .i64 0,.int .i64 0]) (pl:=[(0,1),(1,1)]) (by kernel_rfl) (by kernel_rfl) (by kernel_rfl) rfl rfl rfl) (LT rfl (WL (zs:=[.int .i64 0,.int .i64 0]) el78 rfl rfl rfl (.more rfl (.v rfl (.v rfl .nil)) .nil) rfl rfl (fun v26_7=>(aHN ?_))))))))))))))
       refine aT rfl (bH 1 el78 rfl rfl rfl rfl (cP 3 el78 rfl (by simp)) (by first | assumption | simp) (by show (M2.map aV).length+1≤_;rw [List.length_map];exact Nat.le_trans (show M2.length+1≤300000001 by omega) (by decide)) ((M2++[(a3,8)]).length) (by show (M2.map aV).length+1=_;rw [List.length_map,List.length_append];rfl) (fun v26_8 c26_8 => ?_))
       refine aHK ?_
       refine aA rfl (dJ (ca (an (az (aM rfl (aU rfl (bz rfl rfl (by omega)) (aA rfl (aNn ?_))))))))
       refine ⟨[3,5,6,11,12],[1,0],[0,1,2],rfl,?_⟩
       exact ⟨(j+1,(_,M2++[(a3,8)])),⟨⟨hj',by dsimp only;rw [hss,hM2,List.append_assoc],hal3⟩,by dsimp only;rw [List.map_append];rfl⟩,by dsimp only;omega⟩
    ·skip
     have hje:j=l.slots.l.length:=by have:=of_decide_eq_false h6;omega
     subst hje
     rw [List.take_of_length_le (by rw [List.length_zipIdx];exact Nat.le_refl _)] at hM2 hsl
     refine aY (bb (bb (bg (an (aq (aSR (aA rfl (aNn (aH ?_)))))))))
     refine aF [3,5,6,13] [0] [0,1,2] (fun (q:Nat × (Value × List Span)) st=>(q.1≤l.stubs.l.length∧q.2.2=iG (prs u l)++fH (du u) l.slots.l.zipIdx++stS (l.stubs.l.take q.1)∧∀ s∈l.stubs.l.take q.1,inB s.at_ 8 8 0 l.code=true)∧st=⟨[(3,true,.pointer (some ⟨b0_1,0,none⟩)),(5,true,q.2.1),(6,true,bv),(13,true,.int .i64 q.1)],[l.ok],[Box b0_1 36 l.vs,aP q.2.1 95 2 (q.2.2.map aV),aP bv 95 2 (B.map aV)]⟩) (fun q=>l.stubs.l.length-q.1) rfl (⟨(0,(mv2,M2)),⟨Nat.zero_le _,by dsimp only;rw [hM2];exact (List.append_nil _).symm,fun _ h=>by cases h⟩,rfl⟩) ?_
     rintro ⟨i,⟨mv3,M3⟩⟩ st ⟨⟨hi,hM3,hstb⟩,rfl⟩
     dsimp only at hi hM3 hstb
     have hMl3:M3.length≤200000000+i:=by
       rw [hM3,List.length_append,List.length_append]
       have g1:=ob (prs u l)
       have g2:=p8 (du u) l.slots.l.zipIdx
       have g3:(stS (l.stubs.l.take i)).length≤i:=by unfold stS;rw [List.length_map];exact List.length_take_le ..
       rw [List.length_zipIdx] at g2
       omega
     refine aq (aSR (aM rfl (UO 2 rfl rfl (UL 0 tk34 rfl rfl rfl rfl (aU rfl (bk Tryz.underlying34 rfl) (aU rfl (cf rfl rfl) (aNn ?_)))))))
     refine aa _ rfl (fun h10 => ?_) (fun h10 => ?_)
     ·skip
      have hi':i<l.stubs.l.length:=by simpa using h10
      obtain ⟨s,hs5⟩:∃ s,l.stubs.l[i]? = some s:=⟨_,List.getElem?_eq_getElem hi'⟩
      have hsi:=hl.stubs s (List.mem_of_getElem? hs5)
      have hts:stS (l.stubs.l.take (i+1))=stS (l.stubs.l.take i)++[(s.at_,8)]:=by unfold stS;rw [List.take_add_one,hs5,Option.toList_some,List.map_append];rfl
      refine aD (an (aq (aH (aq (aq (DR [] 10 (VO 0 2 rfl rfl rfl (VL 1 0 tk34 rfl rfl rfl rfl rfl (VM 2 rfl rfl (dz 3 rfl (by kernel_rfl) true rfl rfl (fun _=>ai Tryz.underlying34 tk44 rfl ((aN.f_stubs (.of (ax 0 rfl)))) rfl (ak hs5) rfl rfl) (fun h=>absurd h (by decide)) (fun ⟨b30_3,o30_3⟩=>(VO 4 0 rfl rfl rfl (VT 5 0 tk3 0 rfl rfl rfl rfl rfl rfl (VO 6 3 rfl rfl rfl (VL 7 0 tk3 rfl rfl rfl rfl rfl ?_)))))))))))))))
      refine bV 8 rfl rfl (Q0 rfl (k5 s.at_ 8 8 0 l.code hsi (by omega) (by omega) (by omega))) (bV 9 rfl rfl (eJ rfl) (BN (an ?_)))
      refine aa _ rfl (fun h11 => ?_) (fun h11 => ?_)
      ·skip
       have hno:¬ lD u l:=fun g=>by have:=g.2.2.2.1 _ (List.mem_of_getElem? hs5);rw [this] at h11;cases h11
       refine aSR (aA rfl (aNn (ae (aj (aK (aj (aj (aK (aj (FZ1 [] Tryz.results21 rfl ?_))))))))))
       exact ⟨⟨rfl,rfl⟩,_,rfl,⟨fun g=>(by cases g),fun g=>absurd g hno⟩⟩
      ·skip
       have hso:inB s.at_ 8 8 0 l.code=true:=by simpa using h11
       have hal5:=jT (Q:=fun s:bj=>inB s.at_ 8 8 0 l.code=true) hs5 hstb hso
       refine aD (an (az (aM rfl (UO 2 rfl rfl (UL 0 tk34 rfl rfl rfl rfl (aM rfl (bI true rfl rfl (fun _=>ai Tryz.underlying34 tk44 rfl ((aN.f_stubs (.of (ax 1 rfl)))) rfl (ak hs5) rfl rfl) (fun h=>absurd h (by decide)) (fun ⟨b32_4,o32_4⟩=>(UO 0 rfl rfl (US 0 tk3 0 rfl rfl rfl rfl rfl (aU rfl (bP (l:=[(0,.tmp 199),(1,.const (.int .i64 8))]) (zs:=[.int .i64 0,.int .i64 0]) (pl:=[(0,1),(1,1)]) (by kernel_rfl) (by kernel_rfl) (by kernel_rfl) rfl rfl rfl) (LT rfl (WL (zs:=[.int .i64 0,.int .i64 0]) el78 rfl rfl rfl (.more rfl (.v rfl (.v rfl .nil)) .nil) rfl rfl (fun v32_8=>(aHN ?_)))))))))))))))
       refine aT rfl (bH 1 el78 rfl rfl rfl rfl (cP 3 el78 rfl (by simp)) (by first | assumption | simp) (by show (M3.map aV).length+1≤_;rw [List.length_map];exact Nat.le_trans (show M3.length+1≤300000001 by omega) (by decide)) ((M3++[(s.at_,8)]).length) (by show (M3.map aV).length+1=_;rw [List.length_map,List.length_append];rfl) (fun v32_9 c32_9 => ?_))
       refine aHK ?_
       refine aA rfl (dJ (ca (an (az (aM rfl (aU rfl (bz rfl rfl (by omega)) (aA rfl (aNn ?_))))))))
       refine ⟨[3,5,6,13],[0],[0,1,2],rfl,?_⟩
       exact ⟨(i+1,(_,M3++[(s.at_,8)])),⟨⟨hi',by dsimp only;rw [hts,hM3,List.append_assoc _ _ [(s.at_,8)]],hal5⟩,by dsimp only;rw [List.map_append];rfl⟩,by dsimp only;omega⟩
     ·skip
      have hie:i=l.stubs.l.length:=by have:=of_decide_eq_false h10;omega
      subst hie
      rw [List.take_length] at hM3 hstb
      have hMb:=abI hu hz hin hsl hstb
      have hBb:=abx hu hz hin
      rw [← hM3] at hMb
      rw [← hB] at hBb
      refine aY (bb (bb (bg (an (aq (cB 1 rfl (fun _ _ _ h=>df h) (fun ⟨a5,c5,hv5⟩ => ?_)))))))
      rw [List.length_map] at hv5
      dsimp only at hv5 ⊢
      subst hv5
      refine cK 1 (ShF aV ⟨a5,c5,M3⟩) rfl (fun _ _ _ h=>db h) (cB 2 rfl (fun _ _ _ h=>df h) (fun ⟨a6,c6,hv6⟩ => ?_))
      rw [List.length_map] at hv6
      subst hv6
      refine cK 2 (ShF aV ⟨a6,c6,B⟩) rfl (fun _ _ _ h=>db h) (az (aM rfl ?_))
      refine aE (caps:=[]) [1] (false) (by kernel_rfl) true rfl rfl (fun _=>rfl) (fun hc=>rfl) (fun hc=>by rw [List.append_nil];exact lN ⟨a5,c5,M3⟩ hMb) (fun d1 hd1 => ?_)
      refine aM rfl (aG rfl rfl (fun hc=>bo rfl) ?_)
      refine aE (caps:=[]) [2] (false) (by kernel_rfl) _ rfl rfl (fun _=>rfl) (fun hc=>(ao (ah rfl hc) rfl)) (fun hc=>by rw [List.append_nil];exact lN ⟨a6,c6,B⟩ hBb) (fun d2 hd2 => ?_)
      refine aU rfl (dv rfl rfl (fun h=>gt rfl h)) (aA rfl (aNn (ae (FZ1 [] Tryz.results21 rfl ?_))))
      refine ⟨⟨rfl,rfl⟩,_,rfl,?_⟩
      have g1:=hd1 rfl
      show (d1 && d2)=true↔lD u l
      unfold lD
      rw [Bool.and_eq_true]
      constructor
      · rintro ⟨e1,e2⟩
        refine ⟨hz,hin,hsl,hstb,?_,?_⟩
        · rw [← hM3];exact g1.1 e1
        · rw [← hB];exact (hd2 (by rw [e1];rfl)).1 e2
      · rintro ⟨_,_,_,_,e1,e2⟩
        rw [← hM3] at e1
        rw [← hB] at e2
        have f1:=g1.2 e1
        exact ⟨f1,(hd2 (by rw [f1];rfl)).2 e2⟩
end Go.Proofs.YtgkbbdgklpabpaaGreatDoor

namespace Go.Proofs.YtgkbbdgklpabpaaGreatDoor
open Go.RowKit Go.Lp Go.Sy
theorem pN{c:bt}{S:List bj} : b9 c S<S.length:=by
 unfold b9
 split
 · rename_i i h
   obtain ⟨h1,_⟩:=List.findIdx?_eq_some_iff_getElem.1 h
   omega
 · omega
def iF(n:Nat)(U:List Int):List Bool:=(List.range n).map fun i:Nat=>decide ((i:Int)∈U)
theorem fL(n:Nat)(U:List Int):(iF n U).length=n:=by unfold iF;rw [List.length_map,List.length_range]
theorem i6{n:Nat}{U:List Int}{i:Nat}(h:i<n):(iF n U)[i]? = some (decide ((i:Int)∈U)):=by
 unfold iF
 rw [List.getElem?_map,List.getElem?_range h];rfl
theorem xc(n:Nat):iF n []=List.replicate n false:=by
 refine List.eq_replicate_iff.2 ⟨fL n [],fun b hb => ?_⟩
 obtain ⟨i,_,rfl⟩:=List.mem_map.1 hb
 simp
theorem xd{n:Nat}{U:List Int}{z:Int}(h:0≤z):(iF n U).set z.toNat true=iF n (U++[z]):=by
 refine List.ext_getElem? fun i => ?_
 by_cases hi:i<n
 · rw [i6 hi,List.getElem?_set]
   by_cases e:z.toNat=i
   · rw [if_pos e,if_pos (by rw [fL];omega),decide_eq_true (List.mem_append_right _ (List.mem_singleton.2 (by omega)))]
   · rw [if_neg e,i6 hi]
     congr 1
     refine decide_eq_decide.2 ⟨fun g=>List.mem_append_left _ g,fun g => ?_⟩
     rcases List.mem_append.1 g with g | g
     · exact g
     · rw [List.mem_singleton] at g;omega
 · rw [List.getElem?_eq_none (by rw [List.length_set,fL];omega),List.getElem?_eq_none (by rw [fL];omega)]
theorem vN{ln:List Int}{S:List bj}{P R:List bt} : usL ln S (P++R)=(usL ln S P).bind fun q=>R.foldlM (usS ln S) q:=by
 unfold usL
 rw [List.foldlM_append];rfl
theorem abc{ln:List Int}{S:List bj}{P:List bt}{c:bt} : usL ln S (P++[c])=(usL ln S P).bind fun q=>usS ln S q c:=by
 rw [vN]
 cases usL ln S P with
 | none=>rfl
 | some q=>show List.foldlM (usS ln S) q [c]=_;rw [List.foldlM_cons];show (usS ln S q c >>= fun s=>pure s)=_;rw [bind_pure];rfl
theorem abd{ln:List Int}{S:List bj}{P R:List bt}(h:usL ln S P=none):usL ln S (P++R)=none:=by rw [vN,h];rfl
theorem tv{ns:List aQ}{ln:List Int}(k:Nat):∃ R,bR ns ln=bR (ns.take k) (ln.take k)++R:=by
 refine ⟨((ns.zip ln).drop k).flatMap fun p=>dY p.2 p.1.refs.l,?_⟩
 have hz:(ns.take k).zip (ln.take k)=(ns.zip ln).take k:=by rw [List.zip,List.take_zipWith]
 unfold bR
 rw [hz,← List.flatMap_append,List.take_append_drop]
theorem tz{a:Int}{rs:List dE}(k:Nat):∃ R,dY a rs=dY a (rs.take k)++R:=by
 refine ⟨dY a (rs.drop k),?_⟩
 unfold dY
 rw [← List.map_append,← List.filter_append,List.take_append_drop]
theorem wg{ns:List aQ}{ln:List Int}{k j:Nat}{x:aQ}{a:Int}(h:ns[k]? = some x)(ha:ln[k]? = some a):∃ R,bR ns ln=(bR (ns.take k) (ln.take k)++dY a (x.refs.l.take j))++R:=by
 obtain ⟨R,hR⟩:=tv (ns:=ns) (ln:=ln) (k+1)
 obtain ⟨T,hT⟩:=tz (a:=a) (rs:=x.refs.l) j
 exact ⟨T++R,by rw [hR,iB h ha,hT];simp only [List.append_assoc]⟩
theorem vO {ln:List Int} {S:List bj} : ∀ (cs:List bt) (U V:List Int),(∀ z∈U,0≤z∧z<S.length)→cs.foldlM (usS ln S) U=some V→∀ z∈V,0≤z∧z<S.length
 | [],U,V,h,e=>by
   obtain rfl:U=V:=Option.some.inj e
   exact h
 | c :: cs,U,V,h,e=>by
   rw [List.foldlM_cons] at e
   cases hc:usS ln S U c with
   | none=>rw [hc] at e;cases e
   | some W =>
     rw [hc] at e
     refine vO cs W V (fun z hz => ?_) e
     unfold usS at hc
     split at hc
     · cases hc
     · split at hc
       · obtain rfl:=Option.some.inj hc;exact h z hz
       · split at hc
         · cases hc
         · rename_i hf
           obtain rfl:=Option.some.inj hc
           rcases List.mem_append.1 hz with hz | hz
           · exact h z hz
           · rw [List.mem_singleton.1 hz];exact ⟨by omega,pN⟩
theorem yo{U:List Int}{n:Nat}(h:∀ z∈U,0≤z∧z<n):(((km (ft U):Nat):Int)=n)↔∀ i:Nat,i<n→(i:Int)∈U:=by
 have hk:km (ft U)=((List.range n).filter fun i:Nat=>decide ((i:Int)∈U)).length:=by
   rw [oa (ks:=((List.range n).filter fun i:Nat=>decide ((i:Int)∈U)).map fun i:Nat=>(i:Int)) ?_ ?_,List.length_map]
   · refine List.Pairwise.map (R:=fun a b:Nat=>a≠b) _ (fun a b h e=>h (by omega)) ?_
     exact List.Pairwise.filter _ List.nodup_range
   · intro z
     rw [List.mem_map]
     unfold ft
     constructor
     · intro g
       have hz:z∈U:=by by_cases hz:z∈U;exact hz;rw [if_neg hz] at g;cases g
       have:=h z hz
       exact ⟨z.toNat,List.mem_filter.2 ⟨List.mem_range.2 (by omega),decide_eq_true (by rw [Int.toNat_of_nonneg this.1];exact hz)⟩,by omega⟩
     · rintro ⟨i,hi,rfl⟩
       rw [if_pos (of_decide_eq_true (List.mem_filter.1 hi).2)];rfl
 rw [hk]
 constructor
 · intro g i hi
   have h1:((List.range n).filter fun i:Nat=>decide ((i:Int)∈U)).length=(List.range n).length:=by rw [List.length_range];omega
   exact of_decide_eq_true (List.length_filter_eq_length_iff.1 h1 i (List.mem_range.2 hi))
 · intro g
   rw [List.length_filter_eq_length_iff.2 fun i hi=>decide_eq_true (g i (List.mem_range.1 hi)),List.length_range]
def uP(u:aJ)(l:aN):Prop:=lD u l∧l.stubs.l.all (stB u)=true∧∃ U,usL l.nodes.l l.stubs.l (bR u.nodes.l l.nodes.l)=some U∧∀ i:Nat,i<l.stubs.l.length→(i:Int)∈U
theorem aa3{u:aJ}{l:aN}(hu:iy u):srB u l=true↔uP u l:=by
 unfold srB uP
 rw [Bool.and_eq_true,Bool.and_eq_true,mz (q9 hu),and_assoc]
 refine and_congr_right fun _=>and_congr_right fun _ => ?_
 split
 · rename_i h
   rw [h]
   exact ⟨fun g=>(by cases g),fun ⟨_,g,_⟩=>by cases g⟩
 · rename_i U h
   rw [h,decide_eq_true_eq,yo (vO _ [] U (fun _ h=>by cases h) h)]
   exact ⟨fun g=>⟨U,rfl,g⟩,fun ⟨V,e,g⟩=>by obtain rfl:=Option.some.inj e;exact g⟩
open Go.Proofs.Tryz
attribute [local irreducible] aL aB awp aC fwp Quiet
theorem ab3{u:aJ}{l:aN}{k j:Nat}{x:aQ}{a:Int}{r:dE}{n:Int}{b:Bool}(hx:u.nodes.l[k]? = some x)(ha:l.nodes.l[k]? = some a)(hr:x.refs.l[j]? = some r)(h6:r.kind=6)(h:SvR u l k j n b) :
   (dt l.nodes.l ⟨a+r.at_,r⟩=false∧n = -1∧b=true)∨(dt l.nodes.l ⟨a+r.at_,r⟩=true∧n=max (b9 ⟨a+r.at_,r⟩ l.stubs.l) 0∧b=decide (0≤b9 ⟨a+r.at_,r⟩ l.stubs.l)):=by
 have ex:elt u.nodes.l (k:Int)=x:=Option.some.inj ((cS (l:=u.nodes.l) (i:=k) (by have:=(List.getElem?_eq_some_iff.1 hx).1;omega) (by omega)).symm.trans hx)
 have ea:elt l.nodes.l (k:Int)=a:=Option.some.inj ((cS (l:=l.nodes.l) (i:=k) (by have:=(List.getElem?_eq_some_iff.1 ha).1;omega) (by omega)).symm.trans ha)
 have er:elt x.refs.l (j:Int)=r:=Option.some.inj ((cS (l:=x.refs.l) (i:=j) (by have:=(List.getElem?_eq_some_iff.1 hr).1;omega) (by omega)).symm.trans hr)
 have hc:iN u l k j=⟨a+r.at_,r⟩:=by unfold iN;rw [ex,er,ea]
 rcases h with ⟨h,_⟩ | ⟨_,_,h⟩
 · refine absurd ⟨?_,?_,?_⟩ h
   · have:=(List.getElem?_eq_some_iff.1 hx).1;omega
   · rw [ex];have:=(List.getElem?_eq_some_iff.1 hr).1;omega
   · rw [ex,er];exact h6
 · rw [hc] at h;exact h
set_option maxHeartbeats 2000000 in
theorem qQ (u:aJ) (l:aN) (hu:iy u) (hs:SzU u) (hl:LyI l) (hR:dV u.nodes.l≤100000000):Con Tryz.prog 8 [u.val,l.val] [u.ok,l.ok] [] (YN Value.bool fun b=>b=true↔uP u l):=by
 have hT:=hl.nst
 refine EN2 Tryz.func8 rfl (aO (aJ.f_nodes (.of (ax 0 rfl))) (fun hlen=>(aO (aJ.f_imports (.of (ax 0 rfl))) (fun hlei=>(aSR (LT rfl (aS rfl rfl rfl (fun b0_0=>(aHN ?_)))))))))
 refine LT rfl (aS rfl rfl rfl (fun b0_1=>(aHN ?_)))
 refine aA rfl (aNs (aSR (UL 0 tk32 rfl rfl rfl rfl (UL 1 tk36 rfl rfl rfl rfl ?_))))
 refine aE (caps:=[]) [1,0] (false) (by kernel_rfl) true rfl rfl (fun _=>rfl) (fun hc=>rfl) (fun hc=>by rw [List.append_nil];exact qN u l hu hs hl) (fun c1 hc1 => ?_)
 refine aU rfl (eJ rfl) (aNn ?_)
 refine aa _ rfl (fun h1 => ?_) (fun h1 => ?_)
 ·skip
  have hno:¬ uP u l:=fun g=>by have:=(hc1 rfl).2 g.1;rw [this] at h1;cases h1
  refine aSR (aA rfl (aNn (ae (aj (FZ1 [] Tryz.results8 rfl ?_)))))
  exact ⟨⟨rfl,rfl⟩,_,rfl,⟨fun g=>(by cases g),fun g=>absurd g hno⟩⟩
 ·skip
  have hp:lD u l:=(hc1 rfl).1 (by simpa using h1)
  have hpr:=(mz (q9 hu)).2 hp
  have hul:=abl hu hs hR (zb hu hpr)
  have hsb:∀ s∈l.stubs.l,-1099511627776≤s.at_∧s.at_≤1099511627776:=fun s h=>by have:=z8 hu hpr s h;omega
  have hnl:=hul.len
  refine aD (an (aSR (UO 2 rfl rfl (UL 1 tk34 rfl rfl rfl rfl (aU rfl (bk Tryz.underlying34 rfl) (LT rfl (fF (m:=l.stubs.l.length) (zs:=[.bool false]) el42 (by kernel_rfl) rfl (by decide) (dr rfl (rfl)) (dr rfl (rfl)) (by omega) rfl (fun v3_3=>(aHN ?_)))))))))
  refine aA rfl (aNs (aSR (aA rfl (aNn (aH ?_)))))
  refine aF [2,3,5,6] [1,0] [0,1,2] (fun (k:Nat) st=>(k≤l.stubs.l.length∧(l.stubs.l.take k).all (stB u)=true)∧st=⟨[(2,true,.pointer (some ⟨b0_0,0,none⟩)),(3,true,.pointer (some ⟨b0_1,0,none⟩)),(5,true,.slice v3_3 l.stubs.l.length l.stubs.l.length),(6,true,.int .i64 k)],[u.ok,l.ok],[Box b0_0 32 u.vs,Box b0_1 36 l.vs,aP (.slice v3_3 l.stubs.l.length l.stubs.l.length) 4 1 ((iF l.stubs.l.length []).map uS)]⟩) (fun k=>l.stubs.l.length-k) rfl (⟨0,⟨Nat.zero_le _,rfl⟩,by rw [xc,List.map_replicate];rfl⟩) ?_
  rintro k st ⟨⟨hk,ha⟩,rfl⟩
  refine aq (aSR (aM rfl (UO 2 rfl rfl (UL 1 tk34 rfl rfl rfl rfl (aU rfl (bk Tryz.underlying34 rfl) (aU rfl (cf rfl rfl) (aNn ?_)))))))
  refine aa _ rfl (fun h2 => ?_) (fun h2 => ?_)
  ·skip
   have hk':k<l.stubs.l.length:=by simpa using h2
   obtain ⟨s,hs1⟩:∃ s,l.stubs.l[k]? = some s:=⟨_,List.getElem?_eq_getElem hk'⟩
   refine aD (an (aq (aH (aSR (UO 2 rfl rfl (UL 1 tk34 rfl rfl rfl rfl (aM rfl (bI true rfl rfl (fun _=>ai Tryz.underlying34 tk44 rfl ((aN.f_stubs (.of (ax 1 rfl)))) rfl (ak hs1) rfl rfl) (fun h=>absurd h (by decide)) (fun ⟨b7_3,o7_3⟩=>(US 0 tk44 0 rfl rfl rfl rfl rfl (LT rfl (aW (zs:=[.int .i64 0,.int .i64 0,.int .i64 0,.int .i64 0]) (by kernel_rfl) rfl (fun b7_5=>(aHN ?_))))))))))))))
   refine aT rfl (bX 3 tk44 rfl rfl rfl rfl (aHK ?_))
   refine aNn (aSR (UO 1 rfl rfl (UL 3 tk3 rfl rfl rfl rfl (aU rfl (dw rfl rfl) (aM rfl (GO 2 rfl rfl rfl (GL 3 tk3 rfl rfl rfl rfl rfl (aG rfl rfl (fun hc=>eT (ah rfl hc) rfl) (aU rfl (dv rfl rfl (fun h=>gt rfl h)) (aM rfl (GO 2 rfl rfl rfl (GL 3 tk3 rfl rfl rfl rfl rfl (GO 3 rfl rfl rfl ?_)))))))))))))
   refine GL 0 tk23 rfl rfl rfl rfl rfl (aG rfl rfl (fun hc=>bk Tryz.underlying23 (ah rfl hc)) (aG rfl rfl (fun hc=>cf (ah rfl hc) (ah rfl hc)) (aU rfl (dv rfl rfl (fun h=>gt rfl h)) (aM rfl (GO 3 rfl rfl rfl (GL 3 tk3 rfl rfl rfl rfl rfl (aG rfl rfl (fun hc=>dw (ah rfl hc) rfl) (aU rfl (dv rfl rfl (fun h=>gt rfl h)) (aA rfl (aNn (aSR (UO 1 rfl rfl (UL 3 tk3 rfl rfl rfl rfl (aU rfl (dw rfl rfl) (aM rfl ?_)))))))))))))))
   refine GO 2 rfl rfl rfl (GL 3 tk3 rfl rfl rfl rfl rfl (aG rfl rfl (fun hc=>eT (ah rfl hc) rfl) (aU rfl (dv rfl rfl (fun h=>gt rfl h)) (aM rfl (GO 2 rfl rfl rfl (GL 3 tk3 rfl rfl rfl rfl rfl (GO 2 rfl rfl rfl ?_)))))))
   refine GL 0 tk22 rfl rfl rfl rfl rfl (aG rfl rfl (fun hc=>bk Tryz.underlying22 (ah rfl hc)) (aG rfl rfl (fun hc=>cf (ah rfl hc) (ah rfl hc)) (aU rfl (dv rfl rfl (fun h=>gt rfl h)) (aA rfl (aNn (aSR (aM rfl (aU rfl (eJ rfl) (aM rfl (aG rfl rfl (fun hc=>bo rfl) (aG rfl rfl (fun hc=>eJ (ah rfl hc)) (aU rfl (dv rfl rfl (fun h=>gt rfl h)) (aNn ?_)))))))))))))
   refine aa _ rfl (fun h3 => ?_) (fun h3 => ?_)
   ·skip
    have hno:stB u s=false:=by unfold stB;simp at h3 ⊢;omega
    have hn2:¬ uP u l:=fun g=>by have:=List.all_eq_true.1 g.2.1 s (List.mem_of_getElem? hs1);rw [hno] at this;cases this
    refine aSR (aA rfl (aNn (ae (aK (aj (aj (aK (aj (FZ1 [] Tryz.results8 rfl ?_)))))))))
    exact ⟨⟨rfl,rfl⟩,_,rfl,⟨fun g=>(by cases g),fun g=>absurd g hn2⟩⟩
   ·skip
    have hyes:stB u s=true:=by unfold stB;simp at h3 ⊢;omega
    refine aD (ca (an (az (aM rfl (aU rfl (bz rfl rfl (by omega)) (aA rfl (aNn ?_)))))))
    refine ⟨[2,3,5,6],[1,0],[0,1,2],rfl,?_⟩
    exact ⟨k+1,⟨⟨hk',by rw [List.take_add_one,hs1,Option.toList_some,List.all_append,ha,Bool.true_and];simp [hyes]⟩,rfl⟩,by omega⟩
  ·skip
   have hke:k=l.stubs.l.length:=by have:=of_decide_eq_false h2;omega
   subst hke
   rw [List.take_length] at ha
   refine aY (bb (bb (bg (an (aq (aq (fI (p:=ShF bd l.nodes) (aN.f_nodes (.of (ax 1 rfl))) (az (aA rfl (aNn (aH (aF [2,3,5,10] [2,1,0] [0,1,2] (fun (q:Nat × List Int) st=>(q.1≤u.nodes.l.length∧usL l.nodes.l l.stubs.l (bR (u.nodes.l.take q.1) (l.nodes.l.take q.1))=some q.2)∧st=⟨[(2,true,.pointer (some ⟨b0_0,0,none⟩)),(3,true,.pointer (some ⟨b0_1,0,none⟩)),(5,true,.slice v3_3 l.stubs.l.length l.stubs.l.length),(10,true,.int .i64 q.1)],[ShF bd l.nodes,u.ok,l.ok],[Box b0_0 32 u.vs,Box b0_1 36 l.vs,aP (.slice v3_3 l.stubs.l.length l.stubs.l.length) 4 1 ((iF l.stubs.l.length q.2).map uS)]⟩) (fun q=>u.nodes.l.length-q.1) rfl (⟨(0,[]),⟨Nat.zero_le _,rfl⟩,rfl⟩) ?_))))))))))))
   rintro ⟨k,U⟩ st ⟨⟨hk,hus⟩,rfl⟩
   dsimp only at hk hus
   refine aq (aSR (aM rfl (UO 2 rfl rfl (UL 0 tk22 rfl rfl rfl rfl (aU rfl (bk Tryz.underlying22 rfl) (aU rfl (cf rfl rfl) (aNn ?_)))))))
   refine aa _ rfl (fun h4 => ?_) (fun h4 => ?_)
   ·skip
    have hk':k<u.nodes.l.length:=by simpa using h4
    obtain ⟨x,hx⟩:∃ x,u.nodes.l[k]? = some x:=⟨_,List.getElem?_eq_getElem hk'⟩
    obtain ⟨a,hxa⟩:∃ a,l.nodes.l[k]? = some a:=⟨_,List.getElem?_eq_getElem (by omega)⟩
    have hcsn:=iB hx hxa
    refine aD (an (aq (aH (aq (aO (aQ.f_refs (Ent.all (aJ.f_nodesA (.of (ax 1 rfl))) hx)) (fun hrf=>(az (aA rfl (aNn (aH ?_))))))))))
    refine aF [2,3,5,10,11] [2,1,0] [0,1,2] (fun (q:Nat × List Int) st=>(q.1≤x.refs.l.length∧usL l.nodes.l l.stubs.l (bR (u.nodes.l.take k) (l.nodes.l.take k)++dY a (x.refs.l.take q.1))=some q.2)∧st=⟨[(2,true,.pointer (some ⟨b0_0,0,none⟩)),(3,true,.pointer (some ⟨b0_1,0,none⟩)),(5,true,.slice v3_3 l.stubs.l.length l.stubs.l.length),(10,true,.int .i64 k),(11,true,.int .i64 q.1)],[ShF bd l.nodes,u.ok,l.ok],[Box b0_0 32 u.vs,Box b0_1 36 l.vs,aP (.slice v3_3 l.stubs.l.length l.stubs.l.length) 4 1 ((iF l.stubs.l.length q.2).map uS)]⟩) (fun q=>x.refs.l.length-q.1) rfl (⟨(0,U),⟨Nat.zero_le _,by dsimp only;rw [List.take_zero,show dY a []=[] from rfl,List.append_nil];exact hus⟩,rfl⟩) ?_
    rintro ⟨j,V⟩ st ⟨⟨hj,hvs⟩,rfl⟩
    dsimp only at hj hvs
    refine aq (aSR (aM rfl (UO 2 rfl rfl (UL 0 tk22 rfl rfl rfl rfl (aM rfl (bI true rfl rfl (fun _=>ai Tryz.underlying22 tk52 rfl ((aJ.f_nodes (.of (ax 1 rfl)))) rfl (ak hx) rfl rfl) (fun h=>absurd h (by decide)) (fun ⟨b16_4,o16_4⟩=>(UO 6 rfl rfl (US 6 tk45 0 rfl rfl rfl rfl rfl (aU rfl (bk Tryz.underlying45 rfl) (aU rfl (cf rfl rfl) (aNn ?_))))))))))))
    refine aa _ rfl (fun h5 => ?_) (fun h5 => ?_)
    ·skip
     have hj':j<x.refs.l.length:=by simpa using h5
     obtain ⟨r,hr⟩:∃ r,x.refs.l[j]? = some r:=⟨_,List.getElem?_eq_getElem hj'⟩
     have hns:=lM (a:=a) hr
     obtain ⟨RR,hRR⟩:=wg (j:=j+1) hx hxa
     refine aD (an (aq (aH (aSR (UO 2 rfl rfl (UL 0 tk22 rfl rfl rfl rfl (aM rfl (bI true rfl rfl (fun _=>ai Tryz.underlying22 tk52 rfl ((aJ.f_nodes (.of (ax 2 rfl)))) rfl (ak hx) rfl rfl) (fun h=>absurd h (by decide)) (fun ⟨b18_3,o18_3⟩=>(UO 6 rfl rfl (US 6 tk45 0 rfl rfl rfl rfl rfl (aM rfl (bI true rfl rfl (fun _=>ai Tryz.underlying45 tk54 rfl ((aQ.f_refs (Ent.all (aJ.f_nodesA (.of (ax 3 rfl))) hx))) rfl (ak hr) rfl rfl) (fun h=>absurd h (by decide)) (fun ⟨b18_7,o18_7⟩=>(US 0 tk54 0 rfl rfl rfl rfl rfl ?_)))))))))))))))
     refine LT rfl (aW (zs:=[.int .i64 0,.int .i64 0,.int .i64 0,.int .i64 0,.int .i64 0,.int .i64 0,.int .i64 0]) (by kernel_rfl) rfl (fun b18_9=>(aHN ?_)))
     refine aT rfl (bX 3 tk54 rfl rfl rfl rfl (aHK ?_))
     refine aNs (aSR (UO 1 rfl rfl (UL 3 tk3 rfl rfl rfl rfl (aU rfl (fg rfl rfl) (aNn ?_)))))
     refine aa _ rfl (fun h6 => ?_) (fun h6 => ?_)
     ·skip
      have h6:¬ r.kind=6:=by simpa using h6
      rw [if_neg h6,List.append_nil] at hns
      refine aY (bb (bg (an (az (aM rfl (aU rfl (bz rfl rfl (by omega)) (aA rfl (aNn ?_))))))))
      refine ⟨[2,3,5,10,11],[2,1,0],[0,1,2],rfl,?_⟩
      exact ⟨(j+1,V),⟨⟨hj',by dsimp only;rw [hns];exact hvs⟩,rfl⟩,by dsimp only;omega⟩
     ·skip
      have h6:r.kind=6:=by simpa using h6
      rw [if_pos h6] at hns
      have hcm:=jx hx hxa (List.mem_of_getElem? hr) h6
      have hcc:=(hul.call _ hcm).1
      have hat:=hul.at_ _ _ _ hx hxa _ (List.mem_of_getElem? hr)
      have hst1:usL l.nodes.l l.stubs.l (bR (u.nodes.l.take k) (l.nodes.l.take k)++dY a (x.refs.l.take (j+1)))=usS l.nodes.l l.stubs.l V ⟨a+r.at_,r⟩:=by
        rw [hns,← List.append_assoc,abc,hvs];rfl
      refine aD (an (aSR (UL 0 tk32 rfl rfl rfl rfl (UL 1 tk36 rfl rfl rfl rfl (aM rfl (aM rfl (LT rfl (EC [1,0] [] rfl (pf u l k j hul hsb) ?_))))))))
      rintro _ _ _ ⟨⟨rfl,rfl⟩,n1,t1,rfl,hv1⟩
      refine aST ?_
      refine aM rfl (aU rfl (cT rfl rfl) (aU rfl (cT rfl rfl) (aA rfl (aA rfl (aNs (aq ?_))))))
      have hv:=ab3 hx hxa hr h6 hv1
      refine DR [] 15 (VM 0 rfl rfl (bV 1 rfl rfl (eJ rfl) (VM 2 rfl rfl (bW 3 rfl rfl rfl (fun hc=>fq 1 tk36 rfl rfl rfl) (bW 4 rfl rfl rfl (fun hc=>qFA (off:=0) rfl) (bW 5 rfl rfl rfl (fun hc=>fq 1 tk33 (ah rfl hc) rfl rfl) (bW 6 rfl rfl rfl (fun hc=>bo rfl) (dz 7 rfl (by kernel_rfl) _ rfl rfl (fun hc=>ai Tryz.underlying33 tk3 (ah rfl hc) ((aN.f_nodes (.of (ax 5 rfl)))) (ah rfl hc) (ak hxa) rfl rfl) (fun _=>⟨(0,0)⟩) (fun ⟨b21_7,o21_7⟩=>(bW 8 rfl rfl rfl (fun hc=>cq (o:=0) tk3 (ah rfl hc) (ax 0 rfl) hc rfl) (bW 9 rfl rfl rfl (fun hc=>qFA (off:=0) rfl) (bW 10 rfl rfl rfl (fun hc=>fq 3 tk3 (ah rfl hc) rfl rfl) ?_))))))))))))
      refine bW 11 rfl rfl rfl (fun hc=>bz (ah rfl hc) (ah rfl hc) (by (first | omega | (simp at hc;omega)))) ?_
      refine bW 12 rfl rfl rfl (fun hc=>fq 3 tk54 rfl rfl rfl) (bW 13 rfl rfl rfl (fun hc=>jK (by kernel_rfl) (ao (ah rfl hc) (ao (ah rfl hc) (ao (ah rfl hc) rfl))) (fun w S fp hst=>(tV (⟨a+r.at_,r⟩:bt) l hcc).quiet1 (ax 4 rfl) hst)) (bV 14 rfl rfl (eX rfl rfl (fun h=>gf rfl h)) (BN (an ?_))))
      refine aa _ rfl (fun h7 => ?_) (fun h7 => ?_)
      ·skip
       have hno:usS l.nodes.l l.stubs.l V ⟨a+r.at_,r⟩=none:=by
         unfold usS
         by_cases ho:om l.nodes.l ⟨a+r.at_,r⟩=true
         · rw [if_pos ho]
         · rw [if_neg ho]
           rcases hv with ⟨_,_,rfl⟩ | ⟨v1,_,rfl⟩
           · simp [ho] at h7
           · rw [if_neg (by rw [v1];simp),if_pos (by simp [ho] at h7;omega)]
       have hn2:¬ uP u l:=fun g=>by
         obtain ⟨_,_,W,g1,_⟩:=g
         rw [hRR,abd (hst1.trans hno)] at g1;cases g1
       refine aSR (aA rfl (aNn (ae (aj (aK (aj (aj (aK (aK (aj (aj (aK (aj (FZ1 [] Tryz.results8 rfl ?_))))))))))))))
       exact ⟨⟨rfl,rfl⟩,_,rfl,⟨fun g=>(by cases g),fun g=>absurd g hn2⟩⟩
      ·skip
       have ho:¬ om l.nodes.l ⟨a+r.at_,r⟩=true:=by intro g;rw [g] at h7;simp at h7
       have ht1:t1=true:=by cases t1;simp at h7;rfl
       refine aD (an (aSR (aM rfl (aU rfl (eT rfl rfl) (aNn ?_)))))
       refine aa _ rfl (fun h8 => ?_) (fun h8 => ?_)
       ·skip
        have hn8:0≤n1:=by simpa using h8
        have hv3:dt l.nodes.l ⟨a+r.at_,r⟩=true∧n1=b9 ⟨a+r.at_,r⟩ l.stubs.l:=by
          rcases hv with ⟨_,g,_⟩ | ⟨v1,v2,v3⟩
          · omega
          · rw [ht1] at v3
            have:=of_decide_eq_true v3.symm
            exact ⟨v1,by omega⟩
        have hn9:n1<l.stubs.l.length:=by rw [hv3.2];exact pN
        have hst2:usS l.nodes.l l.stubs.l V ⟨a+r.at_,r⟩=some (V++[n1]):=by unfold usS;rw [if_neg ho,if_neg (by rw [hv3.1];simp),if_neg (by omega),hv3.2]
        have hy:=i6 (n:=l.stubs.l.length) (U:=V) (i:=n1.toNat) (by omega)
        refine az (aM rfl (aM rfl ?_))
        refine aU rfl (bK 2 n1.toNat el42 rfl rfl rfl (by omega) (by rw [List.length_map,fL];omega)) ?_
        refine LF rfl (cY 2 n1.toNat 0 tk4 rfl rfl rfl (ak hy) rfl (.v rfl .nil) rfl (by decide) (dJ (ca (an (az (aM rfl (aU rfl (bz rfl rfl (by omega)) (aA rfl (aNn ?_)))))))))
        refine ⟨[2,3,5,10,11],[2,1,0],[0,1,2],rfl,?_⟩
        exact ⟨(j+1,V++[n1]),⟨⟨hj',by dsimp only;rw [hst1,hst2]⟩,by dsimp only;rw [← xd hn8,List.map_set];rfl⟩,by dsimp only;omega⟩
       ·skip
        have hn8:¬ 0≤n1:=by simpa using h8
        have hst2:usS l.nodes.l l.stubs.l V ⟨a+r.at_,r⟩=some V:=by
          rcases hv with ⟨v1,_,_⟩ | ⟨_,v2,_⟩
          · unfold usS;rw [if_neg ho,if_pos v1]
          · omega
        refine aD (ca (an (az (aM rfl (aU rfl (bz rfl rfl (by omega)) (aA rfl (aNn ?_)))))))
        refine ⟨[2,3,5,10,11],[2,1,0],[0,1,2],rfl,?_⟩
        exact ⟨(j+1,V),⟨⟨hj',by dsimp only;rw [hst1,hst2]⟩,rfl⟩,by dsimp only;omega⟩
    ·skip
     have hje:j=x.refs.l.length:=by have:=of_decide_eq_false h5;omega
     subst hje
     rw [List.take_length] at hvs
     refine aY (bb (bb (bg (ca (an (az (aM rfl (aU rfl (bz rfl rfl (by omega)) (aA rfl (aNn ?_))))))))))
     refine ⟨[2,3,5,10],[2,1,0],[0,1,2],rfl,?_⟩
     exact ⟨(k+1,V),⟨⟨hk',by dsimp only;rw [hcsn];exact hvs⟩,rfl⟩,by dsimp only;omega⟩
   ·skip
    have hke:k=u.nodes.l.length:=by have:=of_decide_eq_false h4;omega
    subst hke
    rw [List.take_length,List.take_of_length_le (by omega)] at hus
    refine aY (bb (bb (bg (an (aq (aSR (aA rfl (aNn (aH (aF [5,15] [0] [2] (fun (i:Nat) st=>(i≤l.stubs.l.length∧∀ z:Nat,z<i→(z:Int)∈U)∧st=⟨[(5,true,.slice v3_3 l.stubs.l.length l.stubs.l.length),(15,true,.int .i64 i)],[l.ok],[aP (.slice v3_3 l.stubs.l.length l.stubs.l.length) 4 1 ((iF l.stubs.l.length U).map uS)]⟩) (fun i=>l.stubs.l.length-i) rfl (⟨0,⟨Nat.zero_le _,fun z h=>by omega⟩,rfl⟩) ?_))))))))))
    rintro i st ⟨⟨hi,hall⟩,rfl⟩
    refine aq (aSR (aM rfl (aM rfl (aU rfl (bk Tryz.underlying42 rfl) (aU rfl (cf rfl rfl) (aNn ?_))))))
    refine aa _ rfl (fun h9 => ?_) (fun h9 => ?_)
    ·skip
     have hi':i<l.stubs.l.length:=by simpa using h9
     have hy:=i6 (U:=U) hi'
     refine aD (an (aq (aH (aSR (aM rfl (aM rfl ?_))))))
     refine aU rfl (bK 0 i el42 rfl rfl rfl rfl (by rw [List.length_map,fL];omega)) ?_
     refine aU rfl (bl (u:=.bool (decide ((i:Int)∈U))) 0 i 0 tk4 rfl rfl (ak hy) rfl rfl) (aU rfl (eJ rfl) (aNn ?_))
     refine aa _ rfl (fun h10 => ?_) (fun h10 => ?_)
     ·skip
      have hn2:¬ uP u l:=fun g=>by
        obtain ⟨_,_,W,g1,g2⟩:=g
        rw [hus] at g1
        obtain rfl:=Option.some.inj g1
        have:=g2 i hi'
        simp [this] at h10
      refine aSR (aA rfl (aNn (ae (aK (aj (aj (aK (aj (FZ1 [] Tryz.results8 rfl ?_)))))))))
      exact ⟨⟨rfl,rfl⟩,_,rfl,⟨fun g=>(by cases g),fun g=>absurd g hn2⟩⟩
     ·skip
      have hiU:(i:Int)∈U:=by simpa using h10
      refine aD (ca (an (az (aM rfl (aU rfl (bz rfl rfl (by omega)) (aA rfl (aNn ?_)))))))
      refine ⟨[5,15],[0],[0],rfl,?_⟩
      exact ⟨i+1,⟨⟨hi',fun z hz=>by by_cases e:z=i;rw [e];exact hiU;exact hall z (by omega)⟩,rfl⟩,by omega⟩
    ·skip
     have hie:i=l.stubs.l.length:=by have:=of_decide_eq_false h9;omega
     subst hie
     refine aY (bb (bb (bg (an (aSR (aA rfl (aNn (ae (FZ1 [] Tryz.results8 rfl ?_)))))))))
     exact ⟨⟨rfl,rfl⟩,_,rfl,⟨fun _=>⟨hp,ha,U,hus,hall⟩,fun _=>rfl⟩⟩
structure LyZ (l:aN):Prop where
 nodes:∀ z∈l.nodes.l,I64 z
 slots:∀ z∈l.slots.l,I64 z
 stubs:∀ s∈l.stubs.l,I64 s.at_
theorem oZ(u:aJ)(l:aN)(hs:SzU u)(hR:dV u.nodes.l≤100000000)(hz:LyZ l):Con Tryz.prog 3 [u.val,l.val] [u.ok,l.ok,bC,dR] [] fun r _ _=>r=.bool true:=by
 have hN:=hs.nodes
 refine EN2 Tryz.func3 rfl (aO (aN.f_nodes (.of (ax 1 rfl))) (fun hlen=>(aO (aN.f_slots (.of (ax 1 rfl))) (fun hles=>(aSR (LT rfl (aS rfl rfl rfl (fun b0_0=>(aHN ?_)))))))))
 refine LT rfl (aS rfl rfl rfl (fun b0_1=>(aHN ?_)))
 refine aA rfl (aNn (aSR (aU rfl (Q0 rfl qH) (aA rfl (aNn (aSR (UL 0 tk32 rfl rfl rfl rfl (UL 1 tk36 rfl rfl rfl rfl ?_))))))))
 refine aE (caps:=[]) [3,1,0] (false) (by kernel_rfl) true rfl rfl (fun _=>rfl) (fun hc=>rfl) (fun hc=>by rw [List.append_nil];exact tM u l hs) (fun c1 hc1 => ?_)
 refine aA rfl (aNs (aSR (aM rfl (aU rfl (eJ rfl) (aM rfl (GO 0 rfl rfl rfl (GL 1 tk33 rfl rfl rfl rfl rfl (aG rfl rfl (fun hc=>bk Tryz.underlying33 (ah rfl hc)) (aG rfl rfl (fun hc=>eH (ah rfl hc) rfl) (aU rfl (eX rfl rfl (fun h=>gf rfl h)) (aM rfl (GO 1 rfl rfl rfl ?_))))))))))))
 refine GL 1 tk33 rfl rfl rfl rfl rfl (aG rfl rfl (fun hc=>bk Tryz.underlying33 (ah rfl hc)) (aG rfl rfl (fun hc=>eH (ah rfl hc) rfl) (aU rfl (eX rfl rfl (fun h=>gf rfl h)) (aNn ?_))))
 refine aa _ rfl (fun h1 => ?_) (fun h1 => ?_)
 ·skip
  refine aSR (aM rfl (aA rfl (aNn (ae (aj (FZ1 [] Tryz.results3 rfl ?_))))))
  rfl
 ·skip
  have hce:c1=true:=by simp at h1;exact h1.1.1
  obtain ⟨hu,hst⟩:=hc1 rfl hce
  have hl:LyI l:=⟨hz.nodes,hz.slots,hz.stubs,by omega⟩
  refine aD (an (aq (DR [] 11 (VM 0 rfl rfl (VM 1 rfl rfl (bW 2 rfl rfl rfl (fun hc=>fq 0 tk32 rfl rfl rfl) (bW 3 rfl rfl rfl (fun hc=>fq 1 tk36 rfl rfl rfl) (bW 5 rfl rfl rfl (fun hc=>fq 0 tk32 rfl rfl rfl) (bW 6 rfl rfl rfl (fun hc=>fq 1 tk36 rfl rfl rfl) ?_)))))))))
  refine cQ (caps:=[]) 4 rfl (by kernel_rfl) [3,2] (false) (by kernel_rfl) _ rfl rfl (fun _=>rfl) (fun hc=>(ao (ah rfl hc) (ao (ah rfl hc) rfl))) (fun hc=>by rw [List.append_nil];exact ub u l hu hs hl (fun h=>abl hu hs hR (zb hu h)) (fun h s hm=>by have:=z8 hu h s hm;omega)) (fun d1 hd1 => ?_)
  refine cQ (caps:=[]) 7 rfl (by kernel_rfl) [3,2] (false) (by kernel_rfl) _ rfl rfl (fun _=>rfl) (fun hc=>(ao (ah rfl hc) (ao (ah rfl hc) rfl))) (fun hc=>by rw [List.append_nil];exact qQ u l hu hs hl hR) (fun d2 hd2 => ?_)
  refine bW 8 rfl rfl rfl (fun hc=>abQ (by kernel_rfl) (ah rfl hc) (ah rfl hc)) (bV 9 rfl rfl (dv rfl rfl (fun h=>gt rfl h)) (bV 10 rfl rfl (dM rfl) (BN (an (ae (FZ1 [] Tryz.results3 rfl ?_))))))
  have e:d1=d2:=by
    have g1:=hd1 rfl
    have g2:=hd2 rfl
    have g3:=aa3 (l:=l) hu
    rw [← g1,← g2] at g3
    exact Bool.eq_iff_iff.2 g3
  subst e
  cases d1<;>rfl
end Go.Proofs.YtgkbbdgklpabpaaGreatDoor

namespace Go.Proofs.YtgkbbdgklpabpaaGreatDoor
open Go.RowKit Go.Lp Go.Sy Go.Lv
section
variable {P:Program} {k:Nat} {t e:TypeId}
theorem abY(hu:P.underlying t=some (.int .i64)):Rd P (k+1) t fun _ _ R=>∀ z n,I64 z→1≤n→R [.int .i64 z] n:=fun w S ds us R h hr hR=>by
 obtain ⟨z,rfl,hw⟩:=vE hu h
 obtain ⟨u,_,rfl,r,hr⟩:=hr.cons
 obtain rfl:=hr.nil;obtain rfl:=jL r
 exact hR z _ (ade hw) (by simp only [zL,zD];omega)
theorem abZ{α:Type}[Inhabited α]{vs:α→List Value}{row:α→List D}{C:α→Prop}(hu:P.underlying t=some (.slice e))(hrow:∀ y,row y=(vs y).map D.v)
   (hf:Rd P k e fun _ _ R=>∀ y n,C y→1≤n→R (vs y) n) :
   Rd P (k+1) t fun w S R=>∀ (s:Sl α) n,(ShF row s).holds w S→(∀ y∈s.l,C y)→1≤n→R [.slice s.ad s.l.length s.cap] n:=fun w S ds us R h hr hR=>by
 obtain ⟨rows,rfl,_,hrows⟩:=pY hu h
 obtain ⟨u,_,rfl,r,hr⟩:=hr.cons
 obtain rfl:=hr.nil
 obtain ⟨s,rfl,h1,h2,h3,h4⟩:=su (row:=row) (ok:=fun _=>Fa True) (C:=C) (fun _=>1) r fun r hr us hu =>
   hf w S r us (fun us n=>∃ y,row y=us.map D.v∧(Fa True).holds w S∧C y∧1≤n) (hrows r hr) hu fun y n a c=>⟨y,hrow y,trivial,a,c⟩
 exact hR s _ h1 h3 (by simp only [zL,zD];omega)
end
theorem aa0{k:Nat} : Rd Tryz.prog (k+2) 44 fun _ _ R=>∀ (y:bj) n,I64 y.at_→1≤n→R y.vs n :=
 rds Tryz.underlying44 (rdc (abY Tryz.underlying3) (rdc (rwi Tryz.underlying3) (rdc (rwi Tryz.underlying3) (rdc (rwi Tryz.underlying3) rdn)))) fun w S R h x0 n0 i0 e0 x1 n1 e1 x2 n2 e2 x3 n3 e3=>h ⟨x0,x1,x2,x3⟩ _ i0 (by omega)
theorem xH{k:Nat} : Rd Tryz.prog (k+4) 36 fun w S R=>∀ (y:aN) n,y.ok.holds w S→LyZ y→1≤n→R y.vs n :=
 rds Tryz.underlying36 (rdc (abZ (C:=I64) (vs:=fun z=>[.int .i64 z]) (row:=fun z=>[.v (.int .i64 z)]) Tryz.underlying33 (fun _=>rfl) (abY Tryz.underlying3)) (rdc (abZ (C:=I64) (vs:=fun z=>[.int .i64 z]) (row:=fun z=>[.v (.int .i64 z)]) Tryz.underlying33 (fun _=>rfl) (abY Tryz.underlying3)) (rdc (abZ (C:=fun s:bj=>I64 s.at_) (vs:=bj.vs) (row:=bj.row) Tryz.underlying34 (fun _=>rfl) aa0) (rdc (rwi Tryz.underlying3) (rdc (rwi Tryz.underlying3) (rdc (rwi Tryz.underlying3) (rdc (rwi Tryz.underlying3) rdn))))))) fun w S R h x0 n0 o0 c0 e0 x1 n1 o1 c1 e1 x2 n2 o2 c2 e2 x3 n3 e3 x4 n4 e4 x5 n5 e5 x6 n6 e6=>h ⟨x0,x1,x2,x3,x4,x5,x6⟩ _ ⟨o0,o1,o2⟩ ⟨c0,c1,c2⟩ (by omega)
end Go.Proofs.YtgkbbdgklpabpaaGreatDoor

