/- Parts of the proof, in build order. No condition. -/
import Derived.Test.YtgkbbdgklpabpaaGreatDoorSn25
import Derived.Test.YtgkbbdgklpabpaaGreatDoorSn26
import Derived.Test.YtgkbbdgklpabpaaGreatDoorSn05
import Derived.Test.YtgkbbdgklpabpaaGreatDoorSn07
import Derived.Test.YtgkbbdgklpabpaaGreatDoorSn09
set_option linter.unusedSimpArgs false
set_option linter.unusedVariables false
set_option maxHeartbeats 20000000
set_option maxRecDepth 20000
namespace Go.Proofs.YtgkbbdgklpabpaaGreatDoor
open Go.RowKit Go.Lp Go.Sy
open Go.Proofs.Tryz
attribute [local irreducible] aL aB awp aC fwp Quiet
theorem aaZ{u:aI}{L:aS}(h:ld u L)(hul:ra u L)(hst:L.stubs.l.length≤60)(D:Sl bt)(hD:D.l=L.stubs.l.dropLast):LyI { L with stubs:=D } where
 nodes:=hul.ln
 slots:=h.fs.slots
 stubs:=fun s hs=>by
   have hs':s∈L.stubs.l:=List.dropLast_subset _ (hD ▸ hs)
   have:=h.at_ s hs';unfold I64;omega
 nst:=by dsimp only;rw [hD,List.length_dropLast];omega
theorem yl{ps:List Per}{a:Option Addr}{c:Nat}{S D:List bt}(hD:D=S.dropLast)(h:Ent ps (Sh (.slice a D.length c) (.sl ((S.map bt.row).take D.length)))):Ent ps (ShF bt.row ⟨a,c,D⟩):=by
 have e:(S.map bt.row).take D.length=D.map bt.row:=by rw [← List.map_take,hD,List.length_dropLast,← List.dropLast_eq_take]
 rw [e] at h;exact h
theorem qq (u:aI) (spare:Int) (hs:SzU u) (hR:dL u.nodes.l≤100000000):Con Tryz.prog 4 [u.val,.int .i64 spare] [u.ok,bl,dp] [] fun r _ _=>r=.bool true:=by
 have hN:=hs.nodes
 have hI:=hs.imports
 refine EN2 Tryz.func4 rfl (aSR (LT rfl (aT rfl rfl rfl (fun b0_0=>(aHN ?_)))))
 refine aA rfl (aNn (aSR (aU rfl (Q0 rfl qt) (aA rfl (aNn (aSR (UL 0 tk32 rfl rfl rfl rfl (aM rfl (LT rfl (EC [2,1,0] [] rfl (qo u spare hs hR) ?_))))))))))
 rintro _ _ _ ⟨rfl,L,e,⟨rfl,rfl⟩,hL⟩
 refine aST ?_
 refine aM rfl (aU rfl (cD rfl rfl) (aU rfl (cD rfl rfl) (LT rfl (aV (zs:=[.slice none 0 0,.slice none 0 0,.slice none 0 0,.int .i64 0,.int .i64 0,.int .i64 0,.int .i64 0]) (by kernel_rfl) rfl (fun b2_6=>(aHN ?_))))))
 refine aN rfl (bb 1 tk36 rfl rfl rfl rfl (aHK ?_))
 refine aA rfl (aNn (aSR (UL 0 tk32 rfl rfl rfl rfl (UL 1 tk36 rfl rfl rfl rfl ?_))))
 refine aq (caps:=[]) [2,1,0] (false) (by kernel_rfl) true rfl rfl (fun _=>rfl) (fun hc=>rfl) (fun hc=>by rw [List.append_nil];exact tl u L hs) (fun c1 hc1 => ?_)
 refine aA rfl (aNs (aSR (aM rfl (aU rfl (ft rfl) (aM rfl (aG rfl rfl (fun hc=>bJ rfl) (aG rfl rfl (fun hc=>fq (ah rfl hc) rfl) (aU rfl (ga rfl rfl (fun h=>gf rfl h)) (aNn ?_)))))))))
 refine aa _ rfl (fun h1 => ?_) (fun h1 => ?_)
 ·skip
  refine aSR (aM rfl (aA rfl (aNn (ae (an (FZ1 [] Tryz.results4 rfl ?_))))))
  rfl
 ·skip
  have hce:c1=true∧e=0:=by simpa using h1
  have hf:=hL hce.2
  have hst:=(hc1 rfl hce.1).2
  have hul:=aaH hf.right hs hR hf.fs
  refine aE (ao (aSR (UO 3 rfl rfl (UL 0 tk23 rfl rfl rfl rfl (aU rfl (bw Tryz.underlying23 rfl) (LT rfl (fe (m:=u.imports.l.length) (zs:=[.bool false]) el42 (by kernel_rfl) rfl (by decide) (cV rfl (rfl)) (cV rfl (rfl)) (by omega) rfl (fun v6_3=>(aHN ?_)))))))))
  refine aA rfl (aNn (aSR (UO 3 rfl rfl (UL 1 tk3 rfl rfl rfl rfl (aU rfl (j5 rfl rfl) (aM rfl (aG rfl rfl (fun hc=>fY 0 tk32 rfl rfl rfl) (aG rfl rfl (fun hc=>fY 1 tk36 rfl rfl rfl) ?_))))))))
  refine aq (caps:=[]) [2,3] (false) (by kernel_rfl) _ rfl rfl (fun _=>rfl) (fun hc=>(aj (ah rfl hc) (aj (ah rfl hc) rfl))) (fun hc=>by rw [List.append_nil];exact qp u L hul) (fun c2 hc2 => ?_)
  refine aU rfl (dK rfl rfl (fun h=>gt rfl h)) (aA rfl (aNs (aSR (aA rfl (aNn (aJ ?_))))))
  refine aF [2,5,6,9,10,11] [3,2,1,0] [0,1,2] (fun (q:Nat × List Bool) st=>(q.1≤L.stubs.l.length∧q.2.length=u.imports.l.length∧∀ s∈L.stubs.l.take q.1,s.kind=1→q.2[s.n.toNat]? = some true)∧st=⟨[(2,true,.pointer (some ⟨b0_0,0,none⟩)),(5,true,.bool true),(6,true,.pointer (some ⟨b2_6,0,none⟩)),(9,true,.slice v6_3 u.imports.l.length u.imports.l.length),(10,true,.bool (decide (L.code≤512) && c2)),(11,true,.int .i64 q.1)],[L.ok,u.ok,bl,dp],[Box b0_0 32 u.vs,Box b2_6 36 L.vs,aK (.slice v6_3 u.imports.l.length u.imports.l.length) 4 1 (q.2.map ui)]⟩) (fun q=>L.stubs.l.length-q.1) rfl (⟨(0,List.replicate u.imports.l.length false),⟨Nat.zero_le _,List.length_replicate,fun s hs=>absurd hs List.not_mem_nil⟩,by dsimp only;rw [List.map_replicate];rfl⟩) ?_
  rintro ⟨k,B⟩ st ⟨⟨hk,hB,hBs⟩,rfl⟩
  dsimp only at hk hB hBs
  show awp _ _ _ _ ⟨_,_,[_,_,aK (.slice v6_3 u.imports.l.length u.imports.l.length) 4 1 (B.map ui)]⟩
  refine aD (aSR (aM rfl (UO 2 rfl rfl (UL 1 tk34 rfl rfl rfl rfl (aU rfl (bw Tryz.underlying34 rfl) (aU rfl (cZ rfl rfl) (aNn ?_)))))))
  refine aa _ rfl (fun h2 => ?_) (fun h2 => ?_)
  ·skip
   have hk':k<L.stubs.l.length:=by simpa using h2
   obtain ⟨s,hs1⟩:∃ s,L.stubs.l[k]? = some s:=⟨_,List.getElem?_eq_getElem hk'⟩
   have hsm:=List.mem_of_getElem? hs1
   have hsl:=yv hf s hsm
   refine aE (ao (aD (aJ (aSR (UO 2 rfl rfl (UL 1 tk34 rfl rfl rfl rfl (aM rfl (bK true rfl rfl (fun _=>ai Tryz.underlying34 tk44 rfl ((aS.f_stubs (.of (ax 0 rfl)))) rfl (ak hs1) rfl rfl) (fun h=>absurd h (by decide)) (fun ⟨b11_3,o11_3⟩=>(US 0 tk44 0 rfl rfl rfl rfl rfl (LT rfl (aV (zs:=[.int .i64 0,.int .i64 0,.int .i64 0,.int .i64 0]) (by kernel_rfl) rfl (fun b11_5=>(aHN ?_))))))))))))))
   refine aN rfl (bb 3 tk44 rfl rfl rfl rfl (aHK ?_))
   refine aNs (aSR (UO 1 rfl rfl (UL 3 tk3 rfl rfl rfl rfl (aU rfl (cS rfl rfl) (aM rfl (aG rfl rfl (fun hc=>bJ rfl) (aU rfl (dK rfl rfl (fun h=>gt rfl h)) (aNn ?_))))))))
   refine aa _ rfl (fun h3 => ?_) (fun h3 => ?_)
   ·skip
    exact absurd (by simp at h3;exact h3.1) (yu hf (by simp at h3;exact h3.2.1) (hc2 (by simp at h3 ⊢;exact h3.2.1) (by simp at h3;exact h3.2.2)) s hsm)
   ·skip
    refine aE (ao (aSR (UO 1 rfl rfl (UL 3 tk3 rfl rfl rfl rfl (aU rfl (cS rfl rfl) (aNn ?_))))))
    refine aa _ rfl (fun h4 => ?_) (fun h4 => ?_)
    ·skip
     have hk1:s.kind=1:=by simpa using h4
     have hn1:=hsl hk1
     obtain ⟨y,hy⟩:∃ y,B[s.n.toNat]? = some y:=⟨_,List.getElem?_eq_getElem (by omega)⟩
     refine aD (aSR (UO 2 rfl rfl (UL 3 tk3 rfl rfl rfl rfl (aU rfl (cZ rfl rfl) (aM rfl (GO 2 rfl rfl rfl (GL 3 tk3 rfl rfl rfl rfl rfl (aG rfl rfl (fun hc=>bJ rfl) (aG rfl rfl (fun hc=>bw Tryz.underlying42 (ah rfl hc)) (aG rfl rfl (fun hc=>fj (ah rfl hc) (ah rfl hc)) (aU rfl (ga rfl rfl (fun h=>gf rfl h)) (aNn ?_))))))))))))
     refine aa _ rfl (fun h5 => ?_) (fun h5 => ?_)
     ·skip
      exact absurd h5 (by simp;omega)
     ·skip
      refine aE (ao (az (aM rfl (UO 2 rfl rfl (UL 3 tk3 rfl rfl rfl rfl ?_)))))
      refine aU rfl (bH 2 s.n.toNat el42 rfl rfl rfl (by omega) (by rw [List.length_map];omega)) ?_
      refine LF rfl (cM 2 s.n.toNat 0 tk4 rfl rfl rfl (ak hy) rfl (.v rfl .nil) rfl (by decide) (dG (cL (ao (az (aM rfl (aU rfl (bp rfl rfl (by omega)) (aA rfl (aNn ?_)))))))))
      refine ⟨[2,5,6,9,10,11],[3,2,1,0],[0,1,2],rfl,?_⟩
      refine ⟨(k+1,B.set s.n.toNat true),⟨⟨hk',by dsimp only;rw [List.length_set];exact hB,fun s2 hs2 h6 => ?_⟩,by dsimp only;rw [List.map_set];rfl⟩,by dsimp only;omega⟩
      dsimp only
      by_cases he:s.n.toNat=s2.n.toNat
      · rw [he];exact List.getElem?_set_self (by omega)
      · rw [List.getElem?_set_ne he]
        rw [List.take_add_one,hs1,Option.toList_some] at hs2
        rcases List.mem_append.1 hs2 with h7 | h7
        · exact hBs s2 h7 h6
        · rw [List.mem_singleton.1 h7] at he;exact absurd rfl he
    ·skip
     have hk1:¬ s.kind=1:=by simpa using h4
     refine aE (cL (ao (az (aM rfl (aU rfl (bp rfl rfl (by omega)) (aA rfl (aNn ?_)))))))
     refine ⟨[2,5,6,9,10,11],[3,2,1,0],[0,1,2],rfl,?_⟩
     refine ⟨(k+1,B),⟨⟨hk',hB,fun s2 hs2 h6 => ?_⟩,rfl⟩,by dsimp only;omega⟩
     rw [List.take_add_one,hs1,Option.toList_some] at hs2
     rcases List.mem_append.1 hs2 with h7 | h7
     · exact hBs s2 h7 h6
     · rw [List.mem_singleton.1 h7] at h6;exact absurd h6 hk1
  ·skip
   have hke:k=L.stubs.l.length:=by have:=of_decide_eq_false h2;omega
   subst hke
   rw [List.take_length] at hBs
   refine ba (bg (bg (bk (ao (aD (aSR (aA rfl (aNn (aJ (aF [2,5,6,9,13] [3,2,1,0] [0,1,2] (fun (k:Nat) st=>k≤u.nodes.l.length∧st=⟨[(2,true,.pointer (some ⟨b0_0,0,none⟩)),(5,true,.bool true),(6,true,.pointer (some ⟨b2_6,0,none⟩)),(9,true,.slice v6_3 u.imports.l.length u.imports.l.length),(13,true,.int .i64 k)],[L.ok,u.ok,bl,dp],[Box b0_0 32 u.vs,Box b2_6 36 L.vs,aK (.slice v6_3 u.imports.l.length u.imports.l.length) 4 1 (B.map ui)]⟩) (fun k=>u.nodes.l.length-k) rfl (⟨0,Nat.zero_le _,rfl⟩) ?_))))))))))
   rintro k st ⟨hk,rfl⟩
   refine aD (aSR (aM rfl (UO 2 rfl rfl (UL 0 tk22 rfl rfl rfl rfl (aU rfl (bw Tryz.underlying22 rfl) (aU rfl (cZ rfl rfl) (aNn ?_)))))))
   refine aa _ rfl (fun h6 => ?_) (fun h6 => ?_)
   ·skip
    have hk':k<u.nodes.l.length:=by simpa using h6
    obtain ⟨x,hx⟩:∃ x,u.nodes.l[k]? = some x:=⟨_,List.getElem?_eq_getElem hk'⟩
    obtain ⟨a,ha⟩:∃ a,L.nodes.l[k]? = some a:=⟨_,List.getElem?_eq_getElem (by rw [hul.len];exact hk')⟩
    refine aE (ao (aD (aJ (aSR (aA rfl (aNn (aJ (aP (aQ.f_refs (Ent.all (aI.f_nodesA (.of (ax 1 rfl))) hx)) (fun hrl=>(aF [2,5,6,9,13,14] [3,2,1,0] [0,1,2] (fun (j:Nat) st=>j≤x.refs.l.length∧st=⟨[(2,true,.pointer (some ⟨b0_0,0,none⟩)),(5,true,.bool true),(6,true,.pointer (some ⟨b2_6,0,none⟩)),(9,true,.slice v6_3 u.imports.l.length u.imports.l.length),(13,true,.int .i64 k),(14,true,.int .i64 j)],[L.ok,u.ok,bl,dp],[Box b0_0 32 u.vs,Box b2_6 36 L.vs,aK (.slice v6_3 u.imports.l.length u.imports.l.length) 4 1 (B.map ui)]⟩) (fun j=>x.refs.l.length-j) rfl (⟨0,Nat.zero_le _,rfl⟩) ?_))))))))))
    rintro j st ⟨hj,rfl⟩
    refine aD (aSR (aM rfl (UO 2 rfl rfl (UL 0 tk22 rfl rfl rfl rfl (aM rfl (bK true rfl rfl (fun _=>ai Tryz.underlying22 tk52 rfl ((aI.f_nodes (.of (ax 1 rfl)))) rfl (ak hx) rfl rfl) (fun h=>absurd h (by decide)) (fun ⟨b22_4,o22_4⟩=>(UO 6 rfl rfl (US 6 tk45 0 rfl rfl rfl rfl rfl (aU rfl (bw Tryz.underlying45 rfl) (aU rfl (cZ rfl rfl) (aNn ?_))))))))))))
    refine aa _ rfl (fun h7 => ?_) (fun h7 => ?_)
    ·skip
     have hj':j<x.refs.l.length:=by simpa using h7
     obtain ⟨r,hr⟩:∃ r,x.refs.l[j]? = some r:=⟨_,List.getElem?_eq_getElem hj'⟩
     have hci:r.kind=6∧r.to_.kind=1→(0≤r.to_.n∧r.to_.n<u.imports.l.length)∧B[r.to_.n.toNat]? = some true∧sP u r.to_:=fun ⟨g1,g2⟩=>by
       obtain ⟨⟨s,i1,i2,i3⟩,i4⟩:=aac hf (jg hx ha (List.mem_of_getElem? hr) g1) g2
       have i5:=hBs s i1 i2
       rw [i3] at i5
       exact ⟨(i4.imp g2).1,i5,i4⟩
     refine aE (ao (aD (aJ (aSR (UO 2 rfl rfl (UL 0 tk22 rfl rfl rfl rfl (aM rfl (bK true rfl rfl (fun _=>ai Tryz.underlying22 tk52 rfl ((aI.f_nodes (.of (ax 2 rfl)))) rfl (ak hx) rfl rfl) (fun h=>absurd h (by decide)) (fun ⟨b24_3,o24_3⟩=>(UO 6 rfl rfl (US 6 tk45 0 rfl rfl rfl rfl rfl (aM rfl (bK true rfl rfl (fun _=>ai Tryz.underlying45 tk54 rfl ((aQ.f_refs (Ent.all (aI.f_nodesA (.of (ax 3 rfl))) hx))) rfl (ak hr) rfl rfl) (fun h=>absurd h (by decide)) (fun ⟨b24_7,o24_7⟩=>(US 0 tk54 0 rfl rfl rfl rfl rfl ?_)))))))))))))))
     refine LT rfl (aV (zs:=[.int .i64 0,.int .i64 0,.int .i64 0,.int .i64 0,.int .i64 0,.int .i64 0,.int .i64 0]) (by kernel_rfl) rfl (fun b24_9=>(aHN ?_)))
     refine aN rfl (bb 3 tk54 rfl rfl rfl rfl (aHK ?_))
     refine aNn (aSR (UO 1 rfl rfl (UL 3 tk3 rfl rfl rfl rfl (aU rfl (cS rfl rfl) (aM rfl (GO 2 rfl rfl rfl (aG rfl rfl (fun hc=>qFA (off:=0) (ah rfl hc)) (GL 3 tk3 rfl rfl rfl rfl rfl (aG rfl rfl (fun hc=>cS (ah rfl hc) rfl) (aU rfl (dK rfl rfl (fun h=>gt rfl h)) (aM rfl (aG rfl rfl (fun hc=>bJ rfl) (GO 2 rfl rfl rfl (aG rfl rfl (fun hc=>qFA (off:=1) (ah rfl hc)) (GL 3 tk3 rfl rfl rfl rfl rfl ?_)))))))))))))))
     refine aG rfl rfl (fun hc=>bH 2 r.to_.n.toNat el42 (ah rfl hc) rfl (ah rfl hc) (Int.toNat_of_nonneg (hci (by simpa using hc)).1.1).symm (by rw [List.length_map];have:=(hci (by simpa using hc)).1;omega)) ?_
     refine aG rfl rfl (fun hc=>bj (u:=.bool true) 2 r.to_.n.toNat 0 tk4 (ah rfl hc) rfl (ak (hci (by simpa using hc)).2.1) rfl rfl) ?_
     refine aG rfl rfl (fun hc=>ft (ah rfl hc)) (aG rfl rfl (fun hc=>bJ (ah rfl hc)) (aG rfl rfl (fun hc=>fY 0 tk32 rfl rfl rfl) (GO 2 rfl rfl rfl (GL 3 tk28 rfl rfl rfl rfl rfl ?_))))
     refine aG rfl rfl (fun hc=>Q0 (aj (ah rfl hc) (aj (ah rfl hc) rfl)) (vS u r.to_ (hci (by simp at hc;exact hc)).2.2 (by simp at hc;exact hc.2))) ?_
     refine aG rfl rfl (fun hc=>ft (ah rfl hc)) (aG rfl rfl (fun hc=>ga (ah rfl hc) rfl (fun h=>gf hc h)) (aU rfl (dK rfl rfl (fun h=>gt rfl h)) (aNn ?_)))
     refine aa _ rfl (fun h8 => ?_) (fun h8 => ?_)
     ·skip
      exact absurd h8 (by simp)
     ·skip
      refine aE (cL (ao (az (aM rfl (aU rfl (bp rfl rfl (by omega)) (aA rfl (aNn ?_)))))))
      refine ⟨[2,5,6,9,13,14],[3,2,1,0],[0,1,2],rfl,?_⟩
      exact ⟨j+1,⟨hj',rfl⟩,by omega⟩
    ·skip
     refine ba (bg (bg (bk (cL (ao (az (aM rfl (aU rfl (bp rfl rfl (by omega)) (aA rfl (aNn ?_))))))))))
     refine ⟨[2,5,6,9,13],[3,2,1,0],[0,1,2],rfl,?_⟩
     exact ⟨k+1,⟨hk',rfl⟩,by omega⟩
   ·skip
    refine ba (bg (bg (bk (ao (aD (aSR (UO 2 rfl rfl (UL 1 tk34 rfl rfl rfl rfl (aU rfl (bw Tryz.underlying34 rfl) (aU rfl (cS rfl rfl) (aNn ?_)))))))))))
    refine aa _ rfl (fun h9 => ?_) (fun h9 => ?_)
    ·skip
     refine aSR (aM rfl (aA rfl (aNn (ae (an (FZ1 [] Tryz.results4 rfl ?_))))))
     rfl
    ·skip
     have hne:L.stubs.l≠[]:=fun h0=>by rw [h0] at h9;simp at h9
     have hpos:0<L.stubs.l.length:=List.length_pos_iff.2 hne
     obtain ⟨D,hD⟩:∃ D,D=L.stubs.l.dropLast:=⟨_,rfl⟩
     have hDl:D.length=L.stubs.l.length-1:=by rw [hD,List.length_dropLast]
     refine aE (ao (aSR (UL 1 tk36 rfl rfl rfl rfl (LT rfl (aV (zs:=[.slice none 0 0,.slice none 0 0,.slice none 0 0,.int .i64 0,.int .i64 0,.int .i64 0,.int .i64 0]) (by kernel_rfl) rfl (fun b29_1=>(aHN ?_)))))))
     refine aN rfl (bb 3 tk36 rfl rfl rfl rfl (aHK ?_))
     refine aNs (fu (p:=ShF bt.row L.stubs) (aS.f_stubs (.of (ax 0 rfl))) (az (UO 2 rfl rfl (UL 1 tk34 rfl rfl rfl rfl (UO 2 rfl rfl (UL 1 tk34 rfl rfl rfl rfl (aU rfl (bw Tryz.underlying34 rfl) (aU rfl (jv rfl rfl (by omega)) ?_))))))))
     refine bK true rfl rfl (fun _=>pM D.length el34 rfl (ax 0 rfl) rfl (by omega) (by rw [List.length_map];omega) (fun r hr=>by obtain ⟨z,_,rfl⟩:=List.mem_map.1 hr;rfl)) (fun h=>absurd h (by decide)) (fun ⟨a30_6,c30_6⟩ => ?_)
     refine UO 2 rfl rfl (aN rfl (bb 3 tk34 rfl rfl rfl rfl (aHK ?_)))
     refine aNn (aSR (aM rfl (aM rfl (aG rfl rfl (fun hc=>fY 0 tk32 rfl rfl rfl) (aG rfl rfl (fun hc=>fY 3 tk36 rfl rfl rfl) ?_)))))
     refine aq (caps:=[]) [2,3,5] (false) (by kernel_rfl) _ rfl rfl (fun _=>rfl) (fun hc=>(aj (ah rfl hc) (aj (ah rfl hc) rfl))) (fun hc=>by rw [List.append_nil];exact (tC u { L with stubs:=⟨a30_6,c30_6,D⟩ } hf.right hs (aaZ hf hul hst ⟨a30_6,c30_6,D⟩ hD) (fun _=>⟨hul.len,hul.few,hul.refs,hul.ln,hul.size,hul.code,hul.at_,hul.call⟩) (fun _ s hs2=>hf.at_ s (List.dropLast_subset _ (hD ▸ hs2)))).pre (ea (.of (ax 0 rfl)) (.mk2 (aS.f_nodes (x:=L) (.of (ax 1 rfl))) (.mk2 (aS.f_slots (x:=L) (.of (ax 1 rfl))) (yl hD (.yes (.of (ax 2 rfl)) rfl)))))) (fun c3 hc3 => ?_)
     refine aG rfl rfl (fun hc=>ft (ah rfl hc)) (aU rfl (dK rfl rfl (fun h=>gt rfl h)) (aA rfl (aNn (ae (FZ1 [] Tryz.results4 rfl ?_)))))
     have h3:=hc3 rfl
     rw [show srB u { L with stubs:=⟨a30_6,c30_6,D⟩ } = false by rw [hD];exact yt hf hne _ _] at h3
     rw [h3];rfl
end Go.Proofs.YtgkbbdgklpabpaaGreatDoor

