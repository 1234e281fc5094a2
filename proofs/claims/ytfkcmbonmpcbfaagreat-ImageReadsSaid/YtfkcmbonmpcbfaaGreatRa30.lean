/- Parts of the proof, in build order. No condition. -/
import Derived.Test.YtfkcmbonmpcbfaaGreatRa29
import Derived.Test.YtfkcmbonmpcbfaaGreatRa05
import Derived.Test.YtfkcmbonmpcbfaaGreatRa09
import Derived.Test.YtfkcmbonmpcbfaaGreatRa24
import Derived.Test.YtfkcmbonmpcbfaaGreatRa23
set_option linter.unusedSimpArgs false
set_option linter.unusedVariables false
set_option maxHeartbeats 1000000
set_option maxRecDepth 20000
namespace Go.Proofs.YtfkcmbonmpcbfaaGreat
open Go.RowKit Go.Lp Go.Sy Go.Lv
open Go.Proofs.Tryz
attribute [local irreducible] aL aB awp aC fwp Quiet
theorem s7(b:Nat)(r:List UInt8)(bad:Bool)(hr:r.length≤1000000)(hb:bad=true→r=[])(ma:Sl cN)(li:Sl cS)(en:Sl bC):Con Tryz.prog 126 [.pointer (some ⟨b,0,none⟩),(⟨ma,li,en,⟨none,0,[]⟩,⟨none,0,[]⟩,⟨none,0,[]⟩⟩:cG).val] [] [rdR b r bad] fun v ps hp=>∃ (i:Sl bF) (w:Sl dJ) (d:Sl cC) (t:List UInt8) (bad':Bool),v=(⟨ma,li,en,i,w,d⟩:cG).val∧ps=[ShF cC.row d,ShF dJ.row w,bz dJ.ok w.l,ShF bF.row i,bz bF.ok i.l]∧RU (Cod.prod (cA dH) (Cod.prod (cA ir) (cA eH))) r bad (i.l.map er,w.l.map ik,d.l.map fk) t bad'∧hp=[rdR b t bad']:=by
 refine EN2 Tryz.func126 rfl (aSR (LT rfl (cK rfl rfl rfl (fun b0_0=>(aHN ?_)))))
 refine LT rfl (bk (zs:=[.slice none 0 0,.slice none 0 0,.slice none 0 0,.slice none 0 0,.slice none 0 0,.slice none 0 0]) (by kernel_rfl) rfl (fun b0_1=>(aHN ?_)))
 refine aNs ?_
 obtain ⟨n1,hn1⟩:∃ n,(eS r bad).2=n:=⟨_,rfl⟩
 have hnm1:=ek r bad
 rw [hn1] at hnm1
 refine cW 262 6 (aR (bz bF.ok []) .a0 ?_)
 show awp _ _ _ _ ⟨_,_,[_,_,_,_]⟩
 refine aa (aM rfl (LF rfl (EC [] [0] rfl (dP b r bad (by omega)) ?_)))
 rintro _ _ _ ⟨rfl,t1,d1,hq1,rfl,rfl⟩
 refine aST ?_
 have hL1:=LU.start (A:=dH) hb (t:=t1) (b1:=d1) (n:=n1) (Prod.ext hq1 hn1)
 rw [hn1]
 refine aA rfl (aNs (aSR (aA rfl (bj (aj (aq (aQ [0,3,4,5,6] [0] [0,1,2,3] (fun (q:Nat × (Option Addr × Nat × List bF) × List UInt8 × Bool) st=>(q.1≤n1∧LU dH ((cA dH).one (.R r false) []) bad r.length (n1-q.1) (q.2.1.2.2.map er) q.2.2.1 q.2.2.2)∧st=⟨[(0,true,.pointer (some ⟨b,0,none⟩)),(3,true,.pointer (some ⟨b0_0,0,none⟩)),(4,true,.pointer (some ⟨b0_1,0,none⟩)),(5,true,.int .i64 n1),(6,true,.int .i64 q.1)],[bz bF.ok q.2.1.2.2],[rdR b q.2.2.1 q.2.2.2,Box b0_0 37 [.slice ma.ad ma.l.length ma.cap,.slice li.ad li.l.length li.cap,.slice en.ad en.l.length en.cap,.slice q.2.1.1 q.2.1.2.2.length q.2.1.2.1,.slice none 0 0,.slice none 0 0],Box b0_1 37 [.slice none 0 0,.slice none 0 0,.slice none 0 0,.slice none 0 0,.slice none 0 0,.slice none 0 0],aO (.slice q.2.1.1 q.2.1.2.2.length q.2.1.2.1) 262 6 (q.2.1.2.2.map bF.row)]⟩) (fun q=>n1-q.1) rfl (⟨(0,(none,0,[]),t1,d1),⟨Nat.zero_le _,hL1⟩,rfl⟩) ?_)))))))
 rintro ⟨k,⟨a1,p1,m1⟩,s1,c1⟩ st ⟨⟨hk,hU1⟩,rfl⟩
 dsimp only at hk hU1 ⊢
 refine ah (aSR (aM rfl (aM rfl (aU rfl (bu rfl rfl) (aM rfl (aG rfl rfl (fun hc=>aS rfl) (aG rfl rfl (fun hc=>cD (ae rfl hc)) (aG rfl rfl (fun hc=>qFA (off:=1) (ae rfl hc)) (GL 0 tk4 rfl rfl rfl rfl rfl (aG rfl rfl (fun hc=>cV (ae rfl hc)) (aU rfl (bo rfl rfl (fun h=>gt rfl h)) (aNn ?_))))))))))))
 refine ao _ rfl (fun h1 => ?_) (fun h1 => ?_)
 ·skip
  obtain ⟨hk',hb2⟩:k<n1∧c1=false:=by
    rw [Bool.and_eq_true,decide_eq_true_eq,Bool.not_eq_true'] at h1
    exact ⟨by omega,h1.2⟩
  subst hb2
  have hlen:=hU1.len
  have hle0:=hU1.le
  rw [if_neg (by decide),List.length_map] at hlen
  refine ar (aj (ah (aq (aSR (aM rfl ?_)))))
  refine LF rfl (EC [] [0] rfl (ct b s1 false (by omega) (fun h=>by cases h)) ?_)
  rintro _ _ _ ⟨rfl,x0,r1,b1,rfl,e0,rfl⟩
  refine aST ?_
  have hle1:=e0.le
  refine aU rfl (eb (l:=[(0,.tmp 27)]) (zs:=[.int .i64 0,.int .i64 0,.int .i64 0,.string .empty,.string .empty,.int .i64 0]) (pl:=[(0,1),(1,1),(2,1),(3,1),(4,1),(5,1)]) (by kernel_rfl) (by kernel_rfl) (by kernel_rfl) rfl rfl rfl) (LT rfl (bk (zs:=[.int .i64 0,.int .i64 0,.int .i64 0,.string .empty,.string .empty,.int .i64 0]) (by kernel_rfl) rfl (fun b5_3=>(aHN ?_))))
  refine aD rfl (aF 4 tk262 rfl rfl rfl rfl (aHK ?_))
  refine aNn (aSR (aM rfl (LF rfl (EC [] [0] rfl (ct b r1 b1 (by omega) e0.bad) ?_))))
  rintro _ _ _ ⟨rfl,x1,r2,b2,rfl,e1,rfl⟩
  refine aST ?_
  have hle2:=e1.le
  refine UO 1 rfl rfl (aD rfl (aF 4 tk3 rfl rfl rfl rfl (aHK ?_)))
  refine aNn (aSR (aM rfl (LF rfl (EC [] [0] rfl (ct b r2 b2 (by omega) e1.bad) ?_))))
  rintro _ _ _ ⟨rfl,x2,r3,b3,rfl,e2,rfl⟩
  refine aST ?_
  have hle3:=e2.le
  refine UO 2 rfl rfl (aD rfl (aF 4 tk3 rfl rfl rfl rfl (aHK ?_)))
  refine aNn (aSR (aM rfl (LF rfl (EC [] [0] rfl (dZ b r3 b3 (by omega) e2.bad) ?_))))
  rintro _ _ _ ⟨rfl,x3,r4,b4,rfl,s_3,e3,rfl⟩
  refine aST ?_
  have hle4:=e3.le
  refine UO 3 rfl rfl (aD rfl (aF 4 tk9 rfl rfl rfl rfl (aHK ?_)))
  refine aNn (aSR (aM rfl (LF rfl (EC [] [0] rfl (dZ b r4 b4 (by omega) e3.bad) ?_))))
  rintro _ _ _ ⟨rfl,x4,r5,b5,rfl,s_4,e4,rfl⟩
  refine aST ?_
  have hle5:=e4.le
  refine UO 4 rfl rfl (aD rfl (aF 4 tk9 rfl rfl rfl rfl (aHK ?_)))
  refine aNn (aSR (aM rfl (LF rfl (EC [] [0] rfl (ct b r5 b5 (by omega) e4.bad) ?_))))
  rintro _ _ _ ⟨rfl,x5,r6,b6,rfl,e5,rfl⟩
  refine aST ?_
  have hle6:=e5.le
  refine UO 5 rfl rfl (aD rfl (aF 4 tk3 rfl rfl rfl rfl (aHK ?_)))
  refine aNn ?_
  have hU2:=LU.step (R:=r.length) (by omega) (show LU dH _ _ _ (n1-(k+1)+1) _ _ _ by rw [show n1-(k+1)+1=n1-k by omega];exact hU1) (show RU dH s1 false (er (⟨x0,x1,x2,x3,x4,x5⟩:bF)) r6 b6 from (e0.prod (e1.prod (e2.prod (e3.prod (e4.prod e5))))))
  refine aa (UO 3 rfl rfl (UL 1 tk33 rfl rfl rfl rfl (UL 4 tk262 rfl rfl rfl rfl (LT rfl (WL (zs:=[.int .i64 0,.int .i64 0,.int .i64 0,.string .empty,.string .empty,.int .i64 0]) el33 rfl rfl rfl (.more rfl (.v rfl (.v rfl (.v rfl (.v rfl (.v rfl (.v rfl .nil)))))) .nil) rfl rfl (fun v11_3=>(aHN ?_)))))))
  refine aD rfl (cj 3 el33 rfl rfl rfl rfl (cY 5 el33 rfl (by simp)) (by first | assumption | simp) (by rw [List.length_map];exact Nat.le_trans (show m1.length+1≤1000001 by omega) (by decide)) ((m1++[(⟨x0,x1,x2,x3,x4,x5⟩:bF)]).length) (by rw [List.length_map,List.length_append];rfl) (fun v11_4 c11_4 => ?_))
  refine aHK ?_
  refine UO 3 rfl rfl (aD rfl (aF 1 tk33 rfl rfl rfl rfl (aHK ?_)))
  refine bj (bp (aj (aR (bz bF.ok (m1++[(⟨x0,x1,x2,x3,x4,x5⟩:bF)])) (Ent.snoc (.of (aI 0 rfl)) (Ent.mk2 (Ent.str s_3) (Ent.str s_4))) (aa (aM rfl (aU rfl (aX rfl rfl (by omega)) (aA rfl (aNn ?_))))))))
  refine ⟨[0,3,4,5,6],[1],[0,1,2,3],rfl,?_⟩
  exact ⟨(k+1,(_,_,m1++[(⟨x0,x1,x2,x3,x4,x5⟩:bF)]),r6,b6),⟨⟨hk',by dsimp only;rw [List.map_append];exact hU2⟩,by dsimp only;rw [List.map_append];rfl⟩,by dsimp only;omega⟩
 ·skip
  have hfin:n1-k=0∨c1=true:=by
    rw [Bool.and_eq_false_iff,decide_eq_false_iff_not,Bool.not_eq_false'] at h1
    rcases h1 with h | h
    · exact .inl (by omega)
    · exact .inr h
  have f1:=hU1.done hfin (fun _=>rfl)
  have g1:=f1.le
  refine cB 3 rfl (aT (aW (aW (aY (aj (ah ?_))))))
  obtain ⟨n2,hn2⟩:∃ n,(eS s1 c1).2=n:=⟨_,rfl⟩
  have hnm2:=ek s1 c1
  rw [hn2] at hnm2
  refine cW 268 6 (aR (bz dJ.ok []) .a0 ?_)
  show awp _ _ _ _ ⟨_,_,[_,_,_,_,_]⟩
  refine aa (aM rfl (LF rfl (EC [] [0] rfl (dP b s1 c1 (by omega)) ?_)))
  rintro _ _ _ ⟨rfl,t2,d2,hq2,rfl,rfl⟩
  refine aST ?_
  have hL2:=LU.start (A:=ir) f1.bad (t:=t2) (b1:=d2) (n:=n2) (Prod.ext hq2 hn2)
  rw [hn2]
  refine aA rfl (aNs (aSR (aA rfl (bj (aj (aq (aQ [0,3,4,5,8] [2,1,0] [0,1,2,4] (fun (q:Nat × (Option Addr × Nat × List dJ) × List UInt8 × Bool) st=>(q.1≤n2∧LU ir ((cA ir).one (.R s1 false) []) c1 s1.length (n2-q.1) (q.2.1.2.2.map ik) q.2.2.1 q.2.2.2)∧st=⟨[(0,true,.pointer (some ⟨b,0,none⟩)),(3,true,.pointer (some ⟨b0_0,0,none⟩)),(4,true,.pointer (some ⟨b0_1,0,none⟩)),(5,true,.int .i64 n2),(8,true,.int .i64 q.1)],[bz dJ.ok q.2.1.2.2,ShF bF.row ⟨a1,p1,m1⟩,bz bF.ok m1],[rdR b q.2.2.1 q.2.2.2,Box b0_0 37 [.slice ma.ad ma.l.length ma.cap,.slice li.ad li.l.length li.cap,.slice en.ad en.l.length en.cap,.slice a1 m1.length p1,.slice q.2.1.1 q.2.1.2.2.length q.2.1.2.1,.slice none 0 0],Box b0_1 37 [.slice none 0 0,.slice none 0 0,.slice none 0 0,.slice none 0 0,.slice none 0 0,.slice none 0 0],aO (.slice q.2.1.1 q.2.1.2.2.length q.2.1.2.1) 268 6 (q.2.1.2.2.map dJ.row)]⟩) (fun q=>n2-q.1) rfl (⟨(0,(none,0,[]),t2,d2),⟨Nat.zero_le _,hL2⟩,rfl⟩) ?_)))))))
  rintro ⟨k,⟨a2,p2,m2⟩,s2,c2⟩ st ⟨⟨hk,hU2⟩,rfl⟩
  dsimp only at hk hU2 ⊢
  refine ah (aSR (aM rfl (aM rfl (aU rfl (bu rfl rfl) (aM rfl (aG rfl rfl (fun hc=>aS rfl) (aG rfl rfl (fun hc=>cD (ae rfl hc)) (aG rfl rfl (fun hc=>qFA (off:=1) (ae rfl hc)) (GL 0 tk4 rfl rfl rfl rfl rfl (aG rfl rfl (fun hc=>cV (ae rfl hc)) (aU rfl (bo rfl rfl (fun h=>gt rfl h)) (aNn ?_))))))))))))
  refine ao _ rfl (fun h2 => ?_) (fun h2 => ?_)
  ·skip
   obtain ⟨hk',hb2⟩:k<n2∧c2=false:=by
     rw [Bool.and_eq_true,decide_eq_true_eq,Bool.not_eq_true'] at h2
     exact ⟨by omega,h2.2⟩
   subst hb2
   have hlen:=hU2.len
   have hle0:=hU2.le
   rw [if_neg (by decide),List.length_map] at hlen
   refine ar (aj (ah (aq (aSR (aM rfl ?_)))))
   refine LF rfl (EC [] [0] rfl (ct b s2 false (by omega) (fun h=>by cases h)) ?_)
   rintro _ _ _ ⟨rfl,x0,r1,b1,rfl,e0,rfl⟩
   refine aST ?_
   have hle1:=e0.le
   refine aU rfl (eb (l:=[(0,.tmp 65)]) (zs:=[.int .i64 0,.int .i64 0,.int .i64 0,.string .empty,.int .i64 0,.int .i64 0]) (pl:=[(0,1),(1,1),(2,1),(3,1),(4,1),(5,1)]) (by kernel_rfl) (by kernel_rfl) (by kernel_rfl) rfl rfl rfl) (LT rfl (bk (zs:=[.int .i64 0,.int .i64 0,.int .i64 0,.string .empty,.int .i64 0,.int .i64 0]) (by kernel_rfl) rfl (fun b16_3=>(aHN ?_))))
   refine aD rfl (aF 4 tk268 rfl rfl rfl rfl (aHK ?_))
   refine aNn (aSR (aM rfl (LF rfl (EC [] [0] rfl (ct b r1 b1 (by omega) e0.bad) ?_))))
   rintro _ _ _ ⟨rfl,x1,r2,b2,rfl,e1,rfl⟩
   refine aST ?_
   have hle2:=e1.le
   refine UO 1 rfl rfl (aD rfl (aF 4 tk3 rfl rfl rfl rfl (aHK ?_)))
   refine aNn (aSR (aM rfl (LF rfl (EC [] [0] rfl (ct b r2 b2 (by omega) e1.bad) ?_))))
   rintro _ _ _ ⟨rfl,x2,r3,b3,rfl,e2,rfl⟩
   refine aST ?_
   have hle3:=e2.le
   refine UO 2 rfl rfl (aD rfl (aF 4 tk3 rfl rfl rfl rfl (aHK ?_)))
   refine aNn (aSR (aM rfl (LF rfl (EC [] [0] rfl (dZ b r3 b3 (by omega) e2.bad) ?_))))
   rintro _ _ _ ⟨rfl,x3,r4,b4,rfl,s_3,e3,rfl⟩
   refine aST ?_
   have hle4:=e3.le
   refine UO 3 rfl rfl (aD rfl (aF 4 tk9 rfl rfl rfl rfl (aHK ?_)))
   refine aNn (aSR (aM rfl (LF rfl (EC [] [0] rfl (ct b r4 b4 (by omega) e3.bad) ?_))))
   rintro _ _ _ ⟨rfl,x4,r5,b5,rfl,e4,rfl⟩
   refine aST ?_
   have hle5:=e4.le
   refine UO 4 rfl rfl (aD rfl (aF 4 tk3 rfl rfl rfl rfl (aHK ?_)))
   refine aNn (aSR (aM rfl (LF rfl (EC [] [0] rfl (ct b r5 b5 (by omega) e4.bad) ?_))))
   rintro _ _ _ ⟨rfl,x5,r6,b6,rfl,e5,rfl⟩
   refine aST ?_
   have hle6:=e5.le
   refine UO 5 rfl rfl (aD rfl (aF 4 tk3 rfl rfl rfl rfl (aHK ?_)))
   refine aNn ?_
   have hU2:=LU.step (R:=s1.length) (by omega) (show LU ir _ _ _ (n2-(k+1)+1) _ _ _ by rw [show n2-(k+1)+1=n2-k by omega];exact hU2) (show RU ir s2 false (ik (⟨x0,x1,x2,x3,x4,x5⟩:dJ)) r6 b6 from (e0.prod (e1.prod (e2.prod (e3.prod (e4.prod e5))))))
   refine aa (UO 4 rfl rfl (UL 1 tk34 rfl rfl rfl rfl (UL 4 tk268 rfl rfl rfl rfl (LT rfl (WL (zs:=[.int .i64 0,.int .i64 0,.int .i64 0,.string .empty,.int .i64 0,.int .i64 0]) el34 rfl rfl rfl (.more rfl (.v rfl (.v rfl (.v rfl (.v rfl (.v rfl (.v rfl .nil)))))) .nil) rfl rfl (fun v22_3=>(aHN ?_)))))))
   refine aD rfl (cj 3 el34 rfl rfl rfl rfl (cY 5 el34 rfl (by simp)) (by first | assumption | simp) (by rw [List.length_map];exact Nat.le_trans (show m2.length+1≤1000001 by omega) (by decide)) ((m2++[(⟨x0,x1,x2,x3,x4,x5⟩:dJ)]).length) (by rw [List.length_map,List.length_append];rfl) (fun v22_4 c22_4 => ?_))
   refine aHK ?_
   refine UO 4 rfl rfl (aD rfl (aF 1 tk34 rfl rfl rfl rfl (aHK ?_)))
   refine bj (bp (aj (aR (bz dJ.ok (m2++[(⟨x0,x1,x2,x3,x4,x5⟩:dJ)])) (Ent.snoc (.of (aI 0 rfl)) (Ent.str s_3)) (aa (aM rfl (aU rfl (aX rfl rfl (by omega)) (aA rfl (aNn ?_))))))))
   refine ⟨[0,3,4,5,8],[3,1,0],[0,1,2,3],rfl,?_⟩
   exact ⟨(k+1,(_,_,m2++[(⟨x0,x1,x2,x3,x4,x5⟩:dJ)]),r6,b6),⟨⟨hk',by dsimp only;rw [List.map_append];exact hU2⟩,by dsimp only;rw [List.map_append];rfl⟩,by dsimp only;omega⟩
  ·skip
   have hfin:n2-k=0∨c2=true:=by
     rw [Bool.and_eq_false_iff,decide_eq_false_iff_not,Bool.not_eq_false'] at h2
     rcases h2 with h | h
     · exact .inl (by omega)
     · exact .inr h
   have f2:=hU2.done hfin (fun _=>rfl)
   have g2:=f2.le
   refine cB 3 rfl (aT (aW (aW (aY (aj (ah ?_))))))
   obtain ⟨n3,hn3⟩:∃ n,(eS s2 c2).2=n:=⟨_,rfl⟩
   have hnm3:=ek s2 c2
   rw [hn3] at hnm3
   refine cW 274 4 ?_
   show awp _ _ _ _ ⟨_,_,[_,_,_,_,_]⟩
   refine aa (aM rfl (LF rfl (EC [] [0] rfl (dP b s2 c2 (by omega)) ?_)))
   rintro _ _ _ ⟨rfl,t3,d3,hq3,rfl,rfl⟩
   refine aST ?_
   have hL3:=LU.start (A:=eH) f2.bad (t:=t3) (b1:=d3) (n:=n3) (Prod.ext hq3 hn3)
   rw [hn3]
   refine aA rfl (aNs (aSR (aA rfl (bj (aj (aq (aQ [0,3,4,5,10] [3,2,1,0] [0,1,2,4] (fun (q:Nat × (Option Addr × Nat × List cC) × List UInt8 × Bool) st=>(q.1≤n3∧LU eH ((cA eH).one (.R s2 false) []) c2 s2.length (n3-q.1) (q.2.1.2.2.map fk) q.2.2.1 q.2.2.2)∧st=⟨[(0,true,.pointer (some ⟨b,0,none⟩)),(3,true,.pointer (some ⟨b0_0,0,none⟩)),(4,true,.pointer (some ⟨b0_1,0,none⟩)),(5,true,.int .i64 n3),(10,true,.int .i64 q.1)],[ShF dJ.row ⟨a2,p2,m2⟩,bz dJ.ok m2,ShF bF.row ⟨a1,p1,m1⟩,bz bF.ok m1],[rdR b q.2.2.1 q.2.2.2,Box b0_0 37 [.slice ma.ad ma.l.length ma.cap,.slice li.ad li.l.length li.cap,.slice en.ad en.l.length en.cap,.slice a1 m1.length p1,.slice a2 m2.length p2,.slice q.2.1.1 q.2.1.2.2.length q.2.1.2.1],Box b0_1 37 [.slice none 0 0,.slice none 0 0,.slice none 0 0,.slice none 0 0,.slice none 0 0,.slice none 0 0],aO (.slice q.2.1.1 q.2.1.2.2.length q.2.1.2.1) 274 4 (q.2.1.2.2.map cC.row)]⟩) (fun q=>n3-q.1) rfl (⟨(0,(none,0,[]),t3,d3),⟨Nat.zero_le _,hL3⟩,rfl⟩) ?_)))))))
   rintro ⟨k,⟨a3,p3,m3⟩,s3,c3⟩ st ⟨⟨hk,hU3⟩,rfl⟩
   dsimp only at hk hU3 ⊢
   refine ah (aSR (aM rfl (aM rfl (aU rfl (bu rfl rfl) (aM rfl (aG rfl rfl (fun hc=>aS rfl) (aG rfl rfl (fun hc=>cD (ae rfl hc)) (aG rfl rfl (fun hc=>qFA (off:=1) (ae rfl hc)) (GL 0 tk4 rfl rfl rfl rfl rfl (aG rfl rfl (fun hc=>cV (ae rfl hc)) (aU rfl (bo rfl rfl (fun h=>gt rfl h)) (aNn ?_))))))))))))
   refine ao _ rfl (fun h3 => ?_) (fun h3 => ?_)
   ·skip
    obtain ⟨hk',hb2⟩:k<n3∧c3=false:=by
      rw [Bool.and_eq_true,decide_eq_true_eq,Bool.not_eq_true'] at h3
      exact ⟨by omega,h3.2⟩
    subst hb2
    have hlen:=hU3.len
    have hle0:=hU3.le
    rw [if_neg (by decide),List.length_map] at hlen
    refine ar (aj (ah (aq (aSR (aM rfl ?_)))))
    refine LF rfl (EC [] [0] rfl (ct b s3 false (by omega) (fun h=>by cases h)) ?_)
    rintro _ _ _ ⟨rfl,x0,r1,b1,rfl,e0,rfl⟩
    refine aST ?_
    have hle1:=e0.le
    refine aU rfl (eb (l:=[(0,.tmp 103)]) (zs:=[.int .i64 0,.int .i64 0,.int .i64 0,.int .i64 0]) (pl:=[(0,1),(1,1),(2,1),(3,1)]) (by kernel_rfl) (by kernel_rfl) (by kernel_rfl) rfl rfl rfl) (LT rfl (bk (zs:=[.int .i64 0,.int .i64 0,.int .i64 0,.int .i64 0]) (by kernel_rfl) rfl (fun b27_3=>(aHN ?_))))
    refine aD rfl (aF 4 tk274 rfl rfl rfl rfl (aHK ?_))
    refine aNn (aSR (aM rfl (LF rfl (EC [] [0] rfl (ct b r1 b1 (by omega) e0.bad) ?_))))
    rintro _ _ _ ⟨rfl,x1,r2,b2,rfl,e1,rfl⟩
    refine aST ?_
    have hle2:=e1.le
    refine UO 1 rfl rfl (aD rfl (aF 4 tk3 rfl rfl rfl rfl (aHK ?_)))
    refine aNn (aSR (aM rfl (LF rfl (EC [] [0] rfl (ct b r2 b2 (by omega) e1.bad) ?_))))
    rintro _ _ _ ⟨rfl,x2,r3,b3,rfl,e2,rfl⟩
    refine aST ?_
    have hle3:=e2.le
    refine UO 2 rfl rfl (aD rfl (aF 4 tk3 rfl rfl rfl rfl (aHK ?_)))
    refine aNn (aSR (aM rfl (LF rfl (EC [] [0] rfl (ct b r3 b3 (by omega) e2.bad) ?_))))
    rintro _ _ _ ⟨rfl,x3,r4,b4,rfl,e3,rfl⟩
    refine aST ?_
    have hle4:=e3.le
    refine UO 3 rfl rfl (aD rfl (aF 4 tk3 rfl rfl rfl rfl (aHK ?_)))
    refine aNn ?_
    have hU2:=LU.step (R:=s2.length) (by omega) (show LU eH _ _ _ (n3-(k+1)+1) _ _ _ by rw [show n3-(k+1)+1=n3-k by omega];exact hU3) (show RU eH s3 false (fk (⟨x0,x1,x2,x3⟩:cC)) r4 b4 from (e0.prod (e1.prod (e2.prod e3))))
    refine aa (UO 5 rfl rfl (UL 1 tk35 rfl rfl rfl rfl (UL 4 tk274 rfl rfl rfl rfl (LT rfl (WL (zs:=[.int .i64 0,.int .i64 0,.int .i64 0,.int .i64 0]) el35 rfl rfl rfl (.more rfl (.v rfl (.v rfl (.v rfl (.v rfl .nil)))) .nil) rfl rfl (fun v31_3=>(aHN ?_)))))))
    refine aD rfl (cj 3 el35 rfl rfl rfl rfl (cY 5 el35 rfl (by simp)) (by first | assumption | simp) (by rw [List.length_map];exact Nat.le_trans (show m3.length+1≤1000001 by omega) (by decide)) ((m3++[(⟨x0,x1,x2,x3⟩:cC)]).length) (by rw [List.length_map,List.length_append];rfl) (fun v31_4 c31_4 => ?_))
    refine aHK ?_
    refine UO 5 rfl rfl (aD rfl (aF 1 tk35 rfl rfl rfl rfl (aHK ?_)))
    refine bj (bp (aj (aa (aM rfl (aU rfl (aX rfl rfl (by omega)) (aA rfl (aNn ?_)))))))
    refine ⟨[0,3,4,5,10],[3,2,1,0],[0,1,2,3],rfl,?_⟩
    exact ⟨(k+1,(_,_,m3++[(⟨x0,x1,x2,x3⟩:cC)]),r4,b4),⟨⟨hk',by dsimp only;rw [List.map_append];exact hU2⟩,by dsimp only;rw [List.map_append];rfl⟩,by dsimp only;omega⟩
   ·skip
    have hfin:n3-k=0∨c3=true:=by
      rw [Bool.and_eq_false_iff,decide_eq_false_iff_not,Bool.not_eq_false'] at h3
      rcases h3 with h | h
      · exact .inl (by omega)
      · exact .inr h
    have f3:=hU3.done hfin (fun _=>rfl)
    have g3:=f3.le
    refine cB 3 rfl (aT (aW (aW (aY (aj (aSR (UL 1 tk37 rfl rfl rfl rfl (aD rfl (aF 2 tk37 rfl rfl rfl rfl (aHK ?_))))))))))
    refine aNn (ax ?_)
    refine u6 [4,3,2,1,0] [0] rfl Tryz.results126 (iD 2 tk37 rfl rfl rfl) ?_ (.inr rfl)
    exact ⟨⟨a1,p1,m1⟩,⟨a2,p2,m2⟩,⟨a3,p3,m3⟩,s3,c3,rfl,rfl,f1.prod (f2.prod f3),rfl⟩
theorem wC(b:Nat)(r:List UInt8)(bad:Bool)(hr:r.length≤1000000)(hb:bad=true→r=[]):Con Tryz.prog 57 [.pointer (some ⟨b,0,none⟩)] [] [rdR b r bad] fun v ps hp=>∃ (x:cG) (t:List UInt8) (bad':Bool),v=x.val∧ps=[ShF cC.row x.depths,ShF dJ.row x.vars,bz dJ.ok x.vars.l,ShF bF.row x.inlines,bz bF.ok x.inlines.l,ShF bC.row x.ends,ShF cS.row x.lines,bz cS.ok x.lines.l,ShF cN.row x.marks,bz cN.ok x.marks.l]∧RU fq r bad (eZ x) t bad'∧hp=[rdR b t bad']:=by
 refine EN1 Tryz.func57 rfl (aSR (LT rfl (bk (zs:=[.slice none 0 0,.slice none 0 0,.slice none 0 0,.slice none 0 0,.slice none 0 0,.slice none 0 0]) (by kernel_rfl) rfl (fun b0_0=>(aHN ?_)))))
 refine aNn (aSR (aU rfl (eb (l:=[]) (zs:=[.slice none 0 0,.slice none 0 0,.slice none 0 0,.slice none 0 0,.slice none 0 0,.slice none 0 0]) (pl:=[(0,1),(1,1),(2,1),(3,1),(4,1),(5,1)]) (by kernel_rfl) (by kernel_rfl) (by kernel_rfl) rfl rfl rfl) (LT rfl (bk (zs:=[.slice none 0 0,.slice none 0 0,.slice none 0 0,.slice none 0 0,.slice none 0 0,.slice none 0 0]) (by kernel_rfl) rfl (fun b1_1=>(aHN ?_))))))
 refine aD rfl (aF 2 tk37 rfl rfl rfl rfl (aHK ?_))
 refine aNs ?_
 obtain ⟨n1,hn1⟩:∃ n,(eS r bad).2=n:=⟨_,rfl⟩
 have hnm1:=ek r bad
 rw [hn1] at hnm1
 refine cW 218 4 (aR (bz cN.ok []) .a0 ?_)
 show awp _ _ _ _ ⟨_,_,[_,_,_,_]⟩
 refine aa (aM rfl (LF rfl (EC [] [0] rfl (dP b r bad (by omega)) ?_)))
 rintro _ _ _ ⟨rfl,t1,d1,hq1,rfl,rfl⟩
 refine aST ?_
 have hL1:=LU.start (A:=fB) hb (t:=t1) (b1:=d1) (n:=n1) (Prod.ext hq1 hn1)
 rw [hn1]
 refine aA rfl (aNs (aSR (aA rfl (bj (aj (aq (aQ [0,2,3,4,5] [0] [0,1,2,3] (fun (q:Nat × (Option Addr × Nat × List cN) × List UInt8 × Bool) st=>(q.1≤n1∧LU fB ((cA fB).one (.R r false) []) bad r.length (n1-q.1) (q.2.1.2.2.map gb) q.2.2.1 q.2.2.2)∧st=⟨[(0,true,.pointer (some ⟨b,0,none⟩)),(2,true,.pointer (some ⟨b0_0,0,none⟩)),(3,true,.pointer (some ⟨b1_1,0,none⟩)),(4,true,.int .i64 n1),(5,true,.int .i64 q.1)],[bz cN.ok q.2.1.2.2],[rdR b q.2.2.1 q.2.2.2,Box b0_0 37 [.slice none 0 0,.slice none 0 0,.slice none 0 0,.slice none 0 0,.slice none 0 0,.slice none 0 0],Box b1_1 37 [.slice q.2.1.1 q.2.1.2.2.length q.2.1.2.1,.slice none 0 0,.slice none 0 0,.slice none 0 0,.slice none 0 0,.slice none 0 0],aO (.slice q.2.1.1 q.2.1.2.2.length q.2.1.2.1) 218 4 (q.2.1.2.2.map cN.row)]⟩) (fun q=>n1-q.1) rfl (⟨(0,(none,0,[]),t1,d1),⟨Nat.zero_le _,hL1⟩,rfl⟩) ?_)))))))
 rintro ⟨k,⟨a1,p1,m1⟩,s1,c1⟩ st ⟨⟨hk,hU1⟩,rfl⟩
 dsimp only at hk hU1 ⊢
 refine ah (aSR (aM rfl (aM rfl (aU rfl (bu rfl rfl) (aM rfl (aG rfl rfl (fun hc=>aS rfl) (aG rfl rfl (fun hc=>cD (ae rfl hc)) (aG rfl rfl (fun hc=>qFA (off:=1) (ae rfl hc)) (GL 0 tk4 rfl rfl rfl rfl rfl (aG rfl rfl (fun hc=>cV (ae rfl hc)) (aU rfl (bo rfl rfl (fun h=>gt rfl h)) (aNn ?_))))))))))))
 refine ao _ rfl (fun h1 => ?_) (fun h1 => ?_)
 ·skip
  obtain ⟨hk',hb2⟩:k<n1∧c1=false:=by
    rw [Bool.and_eq_true,decide_eq_true_eq,Bool.not_eq_true'] at h1
    exact ⟨by omega,h1.2⟩
  subst hb2
  have hlen:=hU1.len
  have hle0:=hU1.le
  rw [if_neg (by decide),List.length_map] at hlen
  refine ar (aj (ah (aq (aSR (aM rfl ?_)))))
  refine LF rfl (EC [] [0] rfl (dZ b s1 false (by omega) (fun h=>by cases h)) ?_)
  rintro _ _ _ ⟨rfl,x0,r1,b1,rfl,s_0,e0,rfl⟩
  refine aST ?_
  have hle1:=e0.le
  refine aU rfl (eb (l:=[(0,.tmp 27)]) (zs:=[.string .empty,.int .i64 0,.int .i64 0,.int .i64 0]) (pl:=[(0,1),(1,1),(2,1),(3,1)]) (by kernel_rfl) (by kernel_rfl) (by kernel_rfl) rfl rfl rfl) (LT rfl (bk (zs:=[.string .empty,.int .i64 0,.int .i64 0,.int .i64 0]) (by kernel_rfl) rfl (fun b6_3=>(aHN ?_))))
  refine aD rfl (aF 4 tk218 rfl rfl rfl rfl (aHK ?_))
  refine aNn (aSR (aM rfl (LF rfl (EC [] [0] rfl (ct b r1 b1 (by omega) e0.bad) ?_))))
  rintro _ _ _ ⟨rfl,x1,r2,b2,rfl,e1,rfl⟩
  refine aST ?_
  have hle2:=e1.le
  refine UO 1 rfl rfl (aD rfl (aF 4 tk3 rfl rfl rfl rfl (aHK ?_)))
  refine aNn (aSR (aM rfl (LF rfl (EC [] [0] rfl (ct b r2 b2 (by omega) e1.bad) ?_))))
  rintro _ _ _ ⟨rfl,x2,r3,b3,rfl,e2,rfl⟩
  refine aST ?_
  have hle3:=e2.le
  refine UO 2 rfl rfl (aD rfl (aF 4 tk3 rfl rfl rfl rfl (aHK ?_)))
  refine aNn (aSR (aM rfl (LF rfl (EC [] [0] rfl (ct b r3 b3 (by omega) e2.bad) ?_))))
  rintro _ _ _ ⟨rfl,x3,r4,b4,rfl,e3,rfl⟩
  refine aST ?_
  have hle4:=e3.le
  refine UO 3 rfl rfl (aD rfl (aF 4 tk3 rfl rfl rfl rfl (aHK ?_)))
  refine aNn ?_
  have hU2:=LU.step (R:=r.length) (by omega) (show LU fB _ _ _ (n1-(k+1)+1) _ _ _ by rw [show n1-(k+1)+1=n1-k by omega];exact hU1) (show RU fB s1 false (gb (⟨x0,x1,x2,x3⟩:cN)) r4 b4 from (e0.prod (e1.prod (e2.prod e3))))
  refine aa (UO 0 rfl rfl (UL 2 tk30 rfl rfl rfl rfl (UL 4 tk218 rfl rfl rfl rfl (LT rfl (WL (zs:=[.string .empty,.int .i64 0,.int .i64 0,.int .i64 0]) el30 rfl rfl rfl (.more rfl (.v rfl (.v rfl (.v rfl (.v rfl .nil)))) .nil) rfl rfl (fun v10_3=>(aHN ?_)))))))
  refine aD rfl (cj 3 el30 rfl rfl rfl rfl (cY 5 el30 rfl (by simp)) (by first | assumption | simp) (by rw [List.length_map];exact Nat.le_trans (show m1.length+1≤1000001 by omega) (by decide)) ((m1++[(⟨x0,x1,x2,x3⟩:cN)]).length) (by rw [List.length_map,List.length_append];rfl) (fun v10_4 c10_4 => ?_))
  refine aHK ?_
  refine UO 0 rfl rfl (aD rfl (aF 2 tk30 rfl rfl rfl rfl (aHK ?_)))
  refine bj (bp (aj (aR (bz cN.ok (m1++[(⟨x0,x1,x2,x3⟩:cN)])) (Ent.snoc (.of (aI 0 rfl)) (Ent.str s_0)) (aa (aM rfl (aU rfl (aX rfl rfl (by omega)) (aA rfl (aNn ?_))))))))
  refine ⟨[0,2,3,4,5],[1],[0,1,2,3],rfl,?_⟩
  exact ⟨(k+1,(_,_,m1++[(⟨x0,x1,x2,x3⟩:cN)]),r4,b4),⟨⟨hk',by dsimp only;rw [List.map_append];exact hU2⟩,by dsimp only;rw [List.map_append];rfl⟩,by dsimp only;omega⟩
 ·skip
  have hfin:n1-k=0∨c1=true:=by
    rw [Bool.and_eq_false_iff,decide_eq_false_iff_not,Bool.not_eq_false'] at h1
    rcases h1 with h | h
    · exact .inl (by omega)
    · exact .inr h
  have f1:=hU1.done hfin (fun _=>rfl)
  have g1:=f1.le
  refine cB 3 rfl (aT (aW (aW (aY (aj (ah ?_))))))
  obtain ⟨n2,hn2⟩:∃ n,(eS s1 c1).2=n:=⟨_,rfl⟩
  have hnm2:=ek s1 c1
  rw [hn2] at hnm2
  refine cW 220 4 (aR (bz cS.ok []) .a0 ?_)
  show awp _ _ _ _ ⟨_,_,[_,_,_,_,_]⟩
  refine aa (aM rfl (LF rfl (EC [] [0] rfl (dP b s1 c1 (by omega)) ?_)))
  rintro _ _ _ ⟨rfl,t2,d2,hq2,rfl,rfl⟩
  refine aST ?_
  have hL2:=LU.start (A:=fA) f1.bad (t:=t2) (b1:=d2) (n:=n2) (Prod.ext hq2 hn2)
  rw [hn2]
  refine aA rfl (aNs (aSR (aA rfl (bj (aj (aq (aQ [0,2,3,4,7] [2,1,0] [0,1,2,4] (fun (q:Nat × (Option Addr × Nat × List cS) × List UInt8 × Bool) st=>(q.1≤n2∧LU fA ((cA fA).one (.R s1 false) []) c1 s1.length (n2-q.1) (q.2.1.2.2.map ga) q.2.2.1 q.2.2.2)∧st=⟨[(0,true,.pointer (some ⟨b,0,none⟩)),(2,true,.pointer (some ⟨b0_0,0,none⟩)),(3,true,.pointer (some ⟨b1_1,0,none⟩)),(4,true,.int .i64 n2),(7,true,.int .i64 q.1)],[bz cS.ok q.2.1.2.2,ShF cN.row ⟨a1,p1,m1⟩,bz cN.ok m1],[rdR b q.2.2.1 q.2.2.2,Box b0_0 37 [.slice none 0 0,.slice none 0 0,.slice none 0 0,.slice none 0 0,.slice none 0 0,.slice none 0 0],Box b1_1 37 [.slice a1 m1.length p1,.slice q.2.1.1 q.2.1.2.2.length q.2.1.2.1,.slice none 0 0,.slice none 0 0,.slice none 0 0,.slice none 0 0],aO (.slice q.2.1.1 q.2.1.2.2.length q.2.1.2.1) 220 4 (q.2.1.2.2.map cS.row)]⟩) (fun q=>n2-q.1) rfl (⟨(0,(none,0,[]),t2,d2),⟨Nat.zero_le _,hL2⟩,rfl⟩) ?_)))))))
  rintro ⟨k,⟨a2,p2,m2⟩,s2,c2⟩ st ⟨⟨hk,hU2⟩,rfl⟩
  dsimp only at hk hU2 ⊢
  refine ah (aSR (aM rfl (aM rfl (aU rfl (bu rfl rfl) (aM rfl (aG rfl rfl (fun hc=>aS rfl) (aG rfl rfl (fun hc=>cD (ae rfl hc)) (aG rfl rfl (fun hc=>qFA (off:=1) (ae rfl hc)) (GL 0 tk4 rfl rfl rfl rfl rfl (aG rfl rfl (fun hc=>cV (ae rfl hc)) (aU rfl (bo rfl rfl (fun h=>gt rfl h)) (aNn ?_))))))))))))
  refine ao _ rfl (fun h2 => ?_) (fun h2 => ?_)
  ·skip
   obtain ⟨hk',hb2⟩:k<n2∧c2=false:=by
     rw [Bool.and_eq_true,decide_eq_true_eq,Bool.not_eq_true'] at h2
     exact ⟨by omega,h2.2⟩
   subst hb2
   have hlen:=hU2.len
   have hle0:=hU2.le
   rw [if_neg (by decide),List.length_map] at hlen
   refine ar (aj (ah (aq (aSR (aM rfl ?_)))))
   refine LF rfl (EC [] [0] rfl (ct b s2 false (by omega) (fun h=>by cases h)) ?_)
   rintro _ _ _ ⟨rfl,x0,r1,b1,rfl,e0,rfl⟩
   refine aST ?_
   have hle1:=e0.le
   refine aU rfl (eb (l:=[(0,.tmp 59)]) (zs:=[.int .i64 0,.int .i64 0,.string .empty,.int .i64 0]) (pl:=[(0,1),(1,1),(2,1),(3,1)]) (by kernel_rfl) (by kernel_rfl) (by kernel_rfl) rfl rfl rfl) (LT rfl (bk (zs:=[.int .i64 0,.int .i64 0,.string .empty,.int .i64 0]) (by kernel_rfl) rfl (fun b15_3=>(aHN ?_))))
   refine aD rfl (aF 4 tk220 rfl rfl rfl rfl (aHK ?_))
   refine aNn (aSR (aM rfl (LF rfl (EC [] [0] rfl (ct b r1 b1 (by omega) e0.bad) ?_))))
   rintro _ _ _ ⟨rfl,x1,r2,b2,rfl,e1,rfl⟩
   refine aST ?_
   have hle2:=e1.le
   refine UO 1 rfl rfl (aD rfl (aF 4 tk3 rfl rfl rfl rfl (aHK ?_)))
   refine aNn (aSR (aM rfl (LF rfl (EC [] [0] rfl (dZ b r2 b2 (by omega) e1.bad) ?_))))
   rintro _ _ _ ⟨rfl,x2,r3,b3,rfl,s_2,e2,rfl⟩
   refine aST ?_
   have hle3:=e2.le
   refine UO 2 rfl rfl (aD rfl (aF 4 tk9 rfl rfl rfl rfl (aHK ?_)))
   refine aNn (aSR (aM rfl (LF rfl (EC [] [0] rfl (ct b r3 b3 (by omega) e2.bad) ?_))))
   rintro _ _ _ ⟨rfl,x3,r4,b4,rfl,e3,rfl⟩
   refine aST ?_
   have hle4:=e3.le
   refine UO 3 rfl rfl (aD rfl (aF 4 tk3 rfl rfl rfl rfl (aHK ?_)))
   refine aNn ?_
   have hU2:=LU.step (R:=s1.length) (by omega) (show LU fA _ _ _ (n2-(k+1)+1) _ _ _ by rw [show n2-(k+1)+1=n2-k by omega];exact hU2) (show RU fA s2 false (ga (⟨x0,x1,x2,x3⟩:cS)) r4 b4 from (e0.prod (e1.prod (e2.prod e3))))
   refine aa (UO 1 rfl rfl (UL 2 tk31 rfl rfl rfl rfl (UL 4 tk220 rfl rfl rfl rfl (LT rfl (WL (zs:=[.int .i64 0,.int .i64 0,.string .empty,.int .i64 0]) el31 rfl rfl rfl (.more rfl (.v rfl (.v rfl (.v rfl (.v rfl .nil)))) .nil) rfl rfl (fun v19_3=>(aHN ?_)))))))
   refine aD rfl (cj 3 el31 rfl rfl rfl rfl (cY 5 el31 rfl (by simp)) (by first | assumption | simp) (by rw [List.length_map];exact Nat.le_trans (show m2.length+1≤1000001 by omega) (by decide)) ((m2++[(⟨x0,x1,x2,x3⟩:cS)]).length) (by rw [List.length_map,List.length_append];rfl) (fun v19_4 c19_4 => ?_))
   refine aHK ?_
   refine UO 1 rfl rfl (aD rfl (aF 2 tk31 rfl rfl rfl rfl (aHK ?_)))
   refine bj (bp (aj (aR (bz cS.ok (m2++[(⟨x0,x1,x2,x3⟩:cS)])) (Ent.snoc (.of (aI 0 rfl)) (Ent.str s_2)) (aa (aM rfl (aU rfl (aX rfl rfl (by omega)) (aA rfl (aNn ?_))))))))
   refine ⟨[0,2,3,4,7],[3,1,0],[0,1,2,3],rfl,?_⟩
   exact ⟨(k+1,(_,_,m2++[(⟨x0,x1,x2,x3⟩:cS)]),r4,b4),⟨⟨hk',by dsimp only;rw [List.map_append];exact hU2⟩,by dsimp only;rw [List.map_append];rfl⟩,by dsimp only;omega⟩
  ·skip
   have hfin:n2-k=0∨c2=true:=by
     rw [Bool.and_eq_false_iff,decide_eq_false_iff_not,Bool.not_eq_false'] at h2
     rcases h2 with h | h
     · exact .inl (by omega)
     · exact .inr h
   have f2:=hU2.done hfin (fun _=>rfl)
   have g2:=f2.le
   refine cB 3 rfl (aT (aW (aW (aY (aj (ah ?_))))))
   obtain ⟨n3,hn3⟩:∃ n,(eS s2 c2).2=n:=⟨_,rfl⟩
   have hnm3:=ek s2 c2
   rw [hn3] at hnm3
   refine cW 222 2 ?_
   show awp _ _ _ _ ⟨_,_,[_,_,_,_,_]⟩
   refine aa (aM rfl (LF rfl (EC [] [0] rfl (dP b s2 c2 (by omega)) ?_)))
   rintro _ _ _ ⟨rfl,t3,d3,hq3,rfl,rfl⟩
   refine aST ?_
   have hL3:=LU.start (A:=fT) f2.bad (t:=t3) (b1:=d3) (n:=n3) (Prod.ext hq3 hn3)
   rw [hn3]
   refine aA rfl (aNs (aSR (aA rfl (bj (aj (aq (aQ [0,2,3,4,9] [3,2,1,0] [0,1,2,4] (fun (q:Nat × (Option Addr × Nat × List bC) × List UInt8 × Bool) st=>(q.1≤n3∧LU fT ((cA fT).one (.R s2 false) []) c2 s2.length (n3-q.1) (q.2.1.2.2.map gy) q.2.2.1 q.2.2.2)∧st=⟨[(0,true,.pointer (some ⟨b,0,none⟩)),(2,true,.pointer (some ⟨b0_0,0,none⟩)),(3,true,.pointer (some ⟨b1_1,0,none⟩)),(4,true,.int .i64 n3),(9,true,.int .i64 q.1)],[ShF cS.row ⟨a2,p2,m2⟩,bz cS.ok m2,ShF cN.row ⟨a1,p1,m1⟩,bz cN.ok m1],[rdR b q.2.2.1 q.2.2.2,Box b0_0 37 [.slice none 0 0,.slice none 0 0,.slice none 0 0,.slice none 0 0,.slice none 0 0,.slice none 0 0],Box b1_1 37 [.slice a1 m1.length p1,.slice a2 m2.length p2,.slice q.2.1.1 q.2.1.2.2.length q.2.1.2.1,.slice none 0 0,.slice none 0 0,.slice none 0 0],aO (.slice q.2.1.1 q.2.1.2.2.length q.2.1.2.1) 222 2 (q.2.1.2.2.map bC.row)]⟩) (fun q=>n3-q.1) rfl (⟨(0,(none,0,[]),t3,d3),⟨Nat.zero_le _,hL3⟩,rfl⟩) ?_)))))))
   rintro ⟨k,⟨a3,p3,m3⟩,s3,c3⟩ st ⟨⟨hk,hU3⟩,rfl⟩
   dsimp only at hk hU3 ⊢
   refine ah (aSR (aM rfl (aM rfl (aU rfl (bu rfl rfl) (aM rfl (aG rfl rfl (fun hc=>aS rfl) (aG rfl rfl (fun hc=>cD (ae rfl hc)) (aG rfl rfl (fun hc=>qFA (off:=1) (ae rfl hc)) (GL 0 tk4 rfl rfl rfl rfl rfl (aG rfl rfl (fun hc=>cV (ae rfl hc)) (aU rfl (bo rfl rfl (fun h=>gt rfl h)) (aNn ?_))))))))))))
   refine ao _ rfl (fun h3 => ?_) (fun h3 => ?_)
   ·skip
    obtain ⟨hk',hb2⟩:k<n3∧c3=false:=by
      rw [Bool.and_eq_true,decide_eq_true_eq,Bool.not_eq_true'] at h3
      exact ⟨by omega,h3.2⟩
    subst hb2
    have hlen:=hU3.len
    have hle0:=hU3.le
    rw [if_neg (by decide),List.length_map] at hlen
    refine ar (aj (ah (aq (aSR (aM rfl ?_)))))
    refine LF rfl (EC [] [0] rfl (ct b s3 false (by omega) (fun h=>by cases h)) ?_)
    rintro _ _ _ ⟨rfl,x0,r1,b1,rfl,e0,rfl⟩
    refine aST ?_
    have hle1:=e0.le
    refine aU rfl (eb (l:=[(0,.tmp 91)]) (zs:=[.int .i64 0,.int .i64 0]) (pl:=[(0,1),(1,1)]) (by kernel_rfl) (by kernel_rfl) (by kernel_rfl) rfl rfl rfl) (LT rfl (bk (zs:=[.int .i64 0,.int .i64 0]) (by kernel_rfl) rfl (fun b24_3=>(aHN ?_))))
    refine aD rfl (aF 4 tk222 rfl rfl rfl rfl (aHK ?_))
    refine aNn (aSR (aM rfl (LF rfl (EC [] [0] rfl (ct b r1 b1 (by omega) e0.bad) ?_))))
    rintro _ _ _ ⟨rfl,x1,r2,b2,rfl,e1,rfl⟩
    refine aST ?_
    have hle2:=e1.le
    refine UO 1 rfl rfl (aD rfl (aF 4 tk3 rfl rfl rfl rfl (aHK ?_)))
    refine aNn ?_
    have hU2:=LU.step (R:=s2.length) (by omega) (show LU fT _ _ _ (n3-(k+1)+1) _ _ _ by rw [show n3-(k+1)+1=n3-k by omega];exact hU3) (show RU fT s3 false (gy (⟨x0,x1⟩:bC)) r2 b2 from (e0.prod e1))
    refine aa (UO 2 rfl rfl (UL 2 tk32 rfl rfl rfl rfl (UL 4 tk222 rfl rfl rfl rfl (LT rfl (WL (zs:=[.int .i64 0,.int .i64 0]) el32 rfl rfl rfl (.more rfl (.v rfl (.v rfl .nil)) .nil) rfl rfl (fun v26_3=>(aHN ?_)))))))
    refine aD rfl (cj 3 el32 rfl rfl rfl rfl (cY 5 el32 rfl (by simp)) (by first | assumption | simp) (by rw [List.length_map];exact Nat.le_trans (show m3.length+1≤1000001 by omega) (by decide)) ((m3++[(⟨x0,x1⟩:bC)]).length) (by rw [List.length_map,List.length_append];rfl) (fun v26_4 c26_4 => ?_))
    refine aHK ?_
    refine UO 2 rfl rfl (aD rfl (aF 2 tk32 rfl rfl rfl rfl (aHK ?_)))
    refine bj (bp (aj (aa (aM rfl (aU rfl (aX rfl rfl (by omega)) (aA rfl (aNn ?_)))))))
    refine ⟨[0,2,3,4,9],[3,2,1,0],[0,1,2,3],rfl,?_⟩
    exact ⟨(k+1,(_,_,m3++[(⟨x0,x1⟩:bC)]),r2,b2),⟨⟨hk',by dsimp only;rw [List.map_append];exact hU2⟩,by dsimp only;rw [List.map_append];rfl⟩,by dsimp only;omega⟩
   ·skip
    have hfin:n3-k=0∨c3=true:=by
      rw [Bool.and_eq_false_iff,decide_eq_false_iff_not,Bool.not_eq_false'] at h3
      rcases h3 with h | h
      · exact .inl (by omega)
      · exact .inr h
    have f3:=hU3.done hfin (fun _=>rfl)
    have g3:=f3.le
    refine cB 3 rfl (aT (aW (aW (aY (aj (aSR (aM rfl (UL 2 tk37 rfl rfl rfl rfl (LF rfl (EC [] [0] rfl (s7 b s3 c3 (by omega) f3.bad ⟨a1,p1,m1⟩ ⟨a2,p2,m2⟩ ⟨a3,p3,m3⟩) ?_))))))))))
    rintro _ _ _ ⟨i,w,d,t4,c4,rfl,rfl,f4,rfl⟩
    refine aST ?_
    refine aD rfl (aF 1 tk37 rfl rfl rfl rfl (aHK ?_))
    refine aNn (ax ?_)
    refine u6 [9,8,7,6,5,4,3,2,1,0] [0] rfl Tryz.results57 (iD 1 tk37 rfl rfl rfl) ?_ (.inr rfl)
    exact ⟨⟨⟨a1,p1,m1⟩,⟨a2,p2,m2⟩,⟨a3,p3,m3⟩,i,w,d⟩,t4,c4,rfl,rfl,f1.prod (f2.prod (f3.prod f4)),rfl⟩
theorem q5(b:Nat)(r:List UInt8)(bad:Bool)(hr:r.length≤1000000)(hb:bad=true→r=[]):Con Tryz.prog 58 [.pointer (some ⟨b,0,none⟩)] [] [rdR b r bad] fun v ps hp=>∃ (l:Sl cq) (t:List UInt8) (bad':Bool),v=l.val∧ps=[ShF cq.row l,bz cq.ok l.l]∧RU (cA fS) r bad (l.l.map fZ) t bad'∧hp=[rdR b t bad']:=by
 obtain ⟨n,hn⟩:∃ n,(eS r bad).2=n:=⟨_,rfl⟩
 have hnm:=ek r bad
 rw [hn] at hnm
 refine EN1 Tryz.func58 rfl (cW 204 5 (aR (bz cq.ok []) .a0 ?_))
 show awp _ _ _ _ ⟨_,_,[_,_]⟩
 refine aSR (aA rfl (aNn (aSR (aA rfl (aNn (aSR (aM rfl (LF rfl (EC [] [0] rfl (dP b r bad (by omega)) ?_)))))))))
 rintro _ _ _ ⟨rfl,t,bad1,hq,rfl,rfl⟩
 refine aST ?_
 have hL:=LU.start (A:=fS) hb (t:=t) (b1:=bad1) (n:=n) (Prod.ext hq hn)
 rw [hn]
 refine aA rfl (aNs (aSR (aA rfl (bj (aj (aq (aQ [0,3,4,5] [0] [0,1] (fun (q:Nat × (Option Addr × Nat × List cq) × List UInt8 × Bool) st=>(q.1≤n∧LU fS ((cA fS).one (.R r false) []) bad r.length (n-q.1) (q.2.1.2.2.map fZ) q.2.2.1 q.2.2.2)∧st=⟨[(0,true,.pointer (some ⟨b,0,none⟩)),(3,true,.slice q.2.1.1 q.2.1.2.2.length q.2.1.2.1),(4,true,.int .i64 n),(5,true,.int .i64 q.1)],[bz cq.ok q.2.1.2.2],[rdR b q.2.2.1 q.2.2.2,aO (.slice q.2.1.1 q.2.1.2.2.length q.2.1.2.1) 204 5 (q.2.1.2.2.map cq.row)]⟩) (fun q=>n-q.1) rfl (⟨(0,(none,0,[]),t,bad1),⟨Nat.zero_le _,hL⟩,rfl⟩) ?_)))))))
 rintro ⟨k,⟨ad,cp,m⟩,r0,bad0⟩ st ⟨⟨hk,hU⟩,rfl⟩
 dsimp only at hk hU ⊢
 refine ah (aSR (aM rfl (aM rfl (aU rfl (bu rfl rfl) (aM rfl (aG rfl rfl (fun hc=>aS rfl) (aG rfl rfl (fun hc=>cD (ae rfl hc)) (aG rfl rfl (fun hc=>qFA (off:=1) (ae rfl hc)) (GL 0 tk4 rfl rfl rfl rfl rfl (aG rfl rfl (fun hc=>cV (ae rfl hc)) (aU rfl (bo rfl rfl (fun h=>gt rfl h)) (aNn ?_))))))))))))
 refine ao _ rfl (fun h1 => ?_) (fun h1 => ?_)
 ·skip
  obtain ⟨hk',hb2⟩:k<n∧bad0=false:=by
    rw [Bool.and_eq_true,decide_eq_true_eq,Bool.not_eq_true'] at h1
    exact ⟨by omega,h1.2⟩
  subst hb2
  have hlen:=hU.len
  have hle0:=hU.le
  rw [if_neg (by decide),List.length_map] at hlen
  refine ar (aj (ah (aq (aSR (aM rfl ?_)))))
  refine LF rfl (EC [] [0] rfl (dZ b r0 false (by omega) (fun h=>by cases h)) ?_)
  rintro _ _ _ ⟨rfl,x0,r1,b1,rfl,s0,e0,rfl⟩
  refine aST ?_
  have hle1:=e0.le
  refine aU rfl (eb (l:=[(0,.tmp 25)]) (zs:=[.string .empty,.string .empty,.string .empty,.slice none 0 0,.int .i64 0]) (pl:=[(0,1),(1,1),(2,1),(3,1),(4,1)]) (by kernel_rfl) (by kernel_rfl) (by kernel_rfl) rfl rfl rfl) (LT rfl (bk (zs:=[.string .empty,.string .empty,.string .empty,.slice none 0 0,.int .i64 0]) (by kernel_rfl) rfl (fun b6_3=>(aHN ?_))))
  refine aD rfl (aF 2 tk204 rfl rfl rfl rfl (aHK ?_))
  refine aNn (aSR (aM rfl (LF rfl (EC [] [0] rfl (dZ b r1 b1 (by omega) e0.bad) ?_))))
  rintro _ _ _ ⟨rfl,x1,r2,b2,rfl,s1,e1,rfl⟩
  refine aST ?_
  have hle2:=e1.le
  refine UO 1 rfl rfl (aD rfl (aF 2 tk9 rfl rfl rfl rfl (aHK ?_)))
  refine aNn (aSR (aM rfl (LF rfl (EC [] [0] rfl (dZ b r2 b2 (by omega) e1.bad) ?_))))
  rintro _ _ _ ⟨rfl,x2,r3,b3,rfl,s2,e2,rfl⟩
  refine aST ?_
  have hle3:=e2.le
  refine UO 2 rfl rfl (aD rfl (aF 2 tk9 rfl rfl rfl rfl (aHK ?_)))
  refine aNs ?_
  obtain ⟨n2,hn2⟩:∃ n,(eS r3 b3).2=n:=⟨_,rfl⟩
  have hnm2:=ek r3 b3
  rw [hn2] at hnm2
  refine cW 209 3 ?_
  show awp _ _ _ _ ⟨_,_,[_,_,_,_]⟩
  refine aa (aM rfl (LF rfl (EC [] [0] rfl (dP b r3 b3 (by omega)) ?_)))
  rintro _ _ _ ⟨rfl,t2,d2,hq2,rfl,rfl⟩
  refine aST ?_
  have hL2:=LU.start (A:=eJ) e2.bad (t:=t2) (b1:=d2) (n:=n2) (Prod.ext hq2 hn2)
  rw [hn2]
  refine aA rfl (aNs (aSR (aA rfl (bj (aj (aq (aQ [0,3,4,5,6,7,8] [0] [0,1,2,3] (fun (q:Nat × (Option Addr × Nat × List dw) × List UInt8 × Bool) st=>(q.1≤n2∧LU eJ ((cA eJ).one (.R r3 false) []) b3 r3.length (n2-q.1) (q.2.1.2.2.map fl) q.2.2.1 q.2.2.2)∧st=⟨[(0,true,.pointer (some ⟨b,0,none⟩)),(3,true,.slice ad m.length cp),(4,true,.int .i64 n),(5,true,.int .i64 k),(6,true,.pointer (some ⟨b6_3,0,none⟩)),(7,true,.int .i64 n2),(8,true,.int .i64 q.1)],[bz cq.ok m],[rdR b q.2.2.1 q.2.2.2,aO (.slice ad m.length cp) 204 5 (m.map cq.row),Box b6_3 204 [.string x0,.string x1,.string x2,.slice q.2.1.1 q.2.1.2.2.length q.2.1.2.1,.int .i64 0],aO (.slice q.2.1.1 q.2.1.2.2.length q.2.1.2.1) 209 3 (q.2.1.2.2.map dw.row)]⟩) (fun q=>n2-q.1) rfl (⟨(0,(none,0,[]),t2,d2),⟨Nat.zero_le _,hL2⟩,rfl⟩) ?_)))))))
  rintro ⟨j,⟨a2,p2,m2⟩,q0,c2⟩ st ⟨⟨hj,hU2⟩,rfl⟩
  dsimp only at hj hU2 ⊢
  refine ah (aSR (aM rfl (aM rfl (aU rfl (bu rfl rfl) (aM rfl (aG rfl rfl (fun hc=>aS rfl) (aG rfl rfl (fun hc=>cD (ae rfl hc)) (aG rfl rfl (fun hc=>qFA (off:=1) (ae rfl hc)) (GL 0 tk4 rfl rfl rfl rfl rfl (aG rfl rfl (fun hc=>cV (ae rfl hc)) (aU rfl (bo rfl rfl (fun h=>gt rfl h)) (aNn ?_))))))))))))
  refine ao _ rfl (fun h2 => ?_) (fun h2 => ?_)
  ·skip
   obtain ⟨hj',hc2⟩:j<n2∧c2=false:=by
     rw [Bool.and_eq_true,decide_eq_true_eq,Bool.not_eq_true'] at h2
     exact ⟨by omega,h2.2⟩
   subst hc2
   have hlen2:=hU2.len
   have hle4:=hU2.le
   rw [if_neg (by decide),List.length_map] at hlen2
   refine ar (aj (ah (aq (aSR (aM rfl ?_)))))
   refine LF rfl (EC [] [0] rfl (ct b q0 false (by omega) (fun h=>by cases h)) ?_)
   rintro _ _ _ ⟨rfl,y0,q1,g1,rfl,u0,rfl⟩
   refine aST ?_
   have hle5:=u0.le
   refine aU rfl (eb (l:=[(0,.tmp 48)]) (zs:=[.int .i64 0,.int .i64 0,.int .i64 0]) (pl:=[(0,1),(1,1),(2,1)]) (by kernel_rfl) (by kernel_rfl) (by kernel_rfl) rfl rfl rfl) (LT rfl (bk (zs:=[.int .i64 0,.int .i64 0,.int .i64 0]) (by kernel_rfl) rfl (fun b13_3=>(aHN ?_))))
   refine aD rfl (aF 4 tk209 rfl rfl rfl rfl (aHK ?_))
   refine aNn (aSR (aM rfl (LF rfl (EC [] [0] rfl (ct b q1 g1 (by omega) u0.bad) ?_))))
   rintro _ _ _ ⟨rfl,y1,q2,g2,rfl,u1,rfl⟩
   refine aST ?_
   have hle6:=u1.le
   refine UO 1 rfl rfl (aD rfl (aF 4 tk3 rfl rfl rfl rfl (aHK ?_)))
   refine aNn (aSR (aM rfl (LF rfl (EC [] [0] rfl (ct b q2 g2 (by omega) u1.bad) ?_))))
   rintro _ _ _ ⟨rfl,y2,q3,g3,rfl,u2,rfl⟩
   refine aST ?_
   refine UO 2 rfl rfl (aD rfl (aF 4 tk3 rfl rfl rfl rfl (aHK ?_)))
   refine aNn ?_
   have hU3:=LU.step (R:=r3.length) (by omega) (show LU eJ _ _ _ (n2-(j+1)+1) _ _ _ by rw [show n2-(j+1)+1=n2-j by omega];exact hU2) (show RU eJ q0 false (fl (⟨y0,y1,y2⟩:dw)) q3 g3 from u0.prod (u1.prod u2))
   refine aa (UO 3 rfl rfl (UL 2 tk202 rfl rfl rfl rfl (UL 4 tk209 rfl rfl rfl rfl (LT rfl (WL (zs:=[.int .i64 0,.int .i64 0,.int .i64 0]) el202 rfl rfl rfl (.more rfl (.v rfl (.v rfl (.v rfl .nil))) .nil) rfl rfl (fun v16_3=>(aHN ?_)))))))
   refine aD rfl (cj 3 el202 rfl rfl rfl rfl (cY 5 el202 rfl (by simp)) (by first | assumption | simp) (by rw [List.length_map];exact Nat.le_trans (show m2.length+1≤1000001 by omega) (by decide)) ((m2++[(⟨y0,y1,y2⟩:dw)]).length) (by rw [List.length_map,List.length_append];rfl) (fun v16_4 c16_4 => ?_))
   refine aHK ?_
   refine UO 3 rfl rfl (aD rfl (aF 2 tk202 rfl rfl rfl rfl (aHK ?_)))
   refine bj (bp (aj (aa (aM rfl (aU rfl (aX rfl rfl (by omega)) (aA rfl (aNn ?_)))))))
   refine ⟨[0,3,4,5,6,7,8],[0],[0,1,2,3],rfl,?_⟩
   exact ⟨(j+1,(_,_,m2++[(⟨y0,y1,y2⟩:dw)]),q3,g3),⟨⟨hj',by dsimp only;rw [List.map_append];exact hU3⟩,by dsimp only;rw [List.map_append];rfl⟩,by dsimp only;omega⟩
  ·skip
   have hfin2:n2-j=0∨c2=true:=by
     rw [Bool.and_eq_false_iff,decide_eq_false_iff_not,Bool.not_eq_false'] at h2
     rcases h2 with h | h
     · exact .inl (by omega)
     · exact .inr h
   have f2:=hU2.done hfin2 (fun _=>rfl)
   have hle7:=f2.le
   refine cB 3 rfl (aT (aW (aW (aY (aj (aSR (aM rfl (LF rfl (EC [] [0] rfl (ct b q0 c2 (by omega) f2.bad) ?_)))))))))
   rintro _ _ _ ⟨rfl,x4,r5,b5,rfl,e4,rfl⟩
   refine aST ?_
   refine UO 4 rfl rfl (aD rfl (aF 2 tk3 rfl rfl rfl rfl (aHK ?_)))
   refine aNn ?_
   have hU4:=LU.step (R:=r.length) (by omega) (show LU fS _ _ _ (n-(k+1)+1) _ _ _ by rw [show n-(k+1)+1=n-k by omega];exact hU) (show RU fS r0 false (fZ (⟨x0,x1,x2,⟨a2,p2,m2⟩,x4⟩:cq)) r5 b5 from e0.prod (e1.prod (e2.prod (f2.prod e4))))
   refine aa (aM rfl (UL 2 tk204 rfl rfl rfl rfl (LT rfl (WL (zs:=[.string .empty,.string .empty,.string .empty,.slice none 0 0,.int .i64 0]) el38 rfl rfl rfl (.more rfl (.v rfl (.v rfl (.v rfl (.v rfl (.v rfl .nil))))) .nil) rfl rfl (fun v18_2=>(aHN ?_))))))
   refine aD rfl (cj 1 el38 rfl rfl rfl rfl (cY 4 el38 rfl (by simp)) (by first | assumption | simp) (by rw [List.length_map];exact Nat.le_trans (show m.length+1≤1000001 by omega) (by decide)) ((m++[(⟨x0,x1,x2,⟨a2,p2,m2⟩,x4⟩:cq)]).length) (by rw [List.length_map,List.length_append];rfl) (fun v18_3 c18_3 => ?_))
   refine aHK ?_
   refine aA rfl (bj (bp (aj (aR (bz cq.ok (m++[(⟨x0,x1,x2,⟨a2,p2,m2⟩,x4⟩:cq)])) (Ent.snoc (.of (aI 1 rfl)) (Ent.mk2 (Ent.str s0) (Ent.mk2 (Ent.str s1) (Ent.mk2 (Ent.str s2) (.of (aI 0 rfl)))))) (aa (aM rfl (aU rfl (aX rfl rfl (by omega)) (aA rfl (aNn ?_)))))))))
   refine ⟨[0,3,4,5],[2],[0,1],rfl,?_⟩
   exact ⟨(k+1,(_,_,m++[(⟨x0,x1,x2,⟨a2,p2,m2⟩,x4⟩:cq)]),r5,b5),⟨⟨hk',by dsimp only;rw [List.map_append];exact hU4⟩,by dsimp only;rw [List.map_append];rfl⟩,by dsimp only;omega⟩
 ·skip
  have hfin:n-k=0∨bad0=true:=by
    rw [Bool.and_eq_false_iff,decide_eq_false_iff_not,Bool.not_eq_false'] at h1
    rcases h1 with h | h
    · exact .inl (by omega)
    · exact .inr h
  refine cB 1 rfl (aT (aW (aW (aY (aj (aSR (aM rfl (aA rfl (aNn (ax ?_))))))))))
  refine iX [1,0] [0] rfl Tryz.results58 rfl ?_ (.inr rfl)
  exact ⟨⟨ad,cp,m⟩,r0,bad0,rfl,rfl,hU.done hfin (fun _=>rfl),rfl⟩
end Go.Proofs.YtfkcmbonmpcbfaaGreat

namespace Go.Proofs.YtfkcmbonmpcbfaaGreat
open Go.RowKit Go.Lp Go.Sy Go.Lv
theorem okL{α τ:Type}{A:Cod τ}{pu:α→τ}{l:List α}(hA:∀ y∈l,(A.enc (pu y)).length≤1000000000→A.ok (pu y))(hb:((cA A).enc (l.map pu)).length≤1000000000):(cA A).ok (l.map pu):=by
 have hb2:(iP A (l.map pu)).length≤1000000000:=(ai hb).2
 refine ⟨Nat.le_trans (Nat.le_trans (aa2 A _) hb2) (by decide),fun x hx => ?_⟩
 obtain ⟨y,hy,rfl⟩:=List.mem_map.1 hx
 refine hA y hy (Nat.le_trans ?_ hb2)
 obtain ⟨a,b,hab⟩:=List.append_of_mem hy
 rw [hab,List.map_append,List.map_cons,kv,nj,List.length_append,List.length_append];omega
theorem zL{α:Type}{A:Cod α}{l:List α}(hA:∀ y∈l,(A.enc y).length≤1000000000→A.ok y)(hb:((cA A).enc l).length≤1000000000):(cA A).ok l:=by
 have:=okL (A:=A) (pu:=fun y=>y) (l:=l) hA (by rw [List.map_id'] ; exact hb)
 rwa [List.map_id'] at this
theorem zS{x:ba}(h:jI x)(hl:(dq x).length≤1000000000):dN.ok (et x):=⟨dv ((ai hl).1),dv ((ai (ai hl).2).1),h.1,h.2.1,h.2.2,dv ((ai (ai (ai (ai (ai (ai hl).2).2).2).2).2).1),dv ((ai (ai (ai (ai (ai (ai hl).2).2).2).2).2).2)⟩
theorem zP{x:bA}(h:jH x)(hl:(cT x).length≤1000000000):dL.ok (eo x):=⟨dv ((ai hl).1),dv ((ai (ai hl).2).1),trivial,h.1,h.2.1,h.2.2⟩
theorem zQ{x:bK}(h:lk x)(hl:(dR x).length≤1000000000):dM.ok (ep x):=⟨dv ((ai hl).1),dv ((ai (ai hl).2).1),h,trivial,trivial⟩
theorem adx{x:fb}(h:tn x)(hl:(j0 x).length≤1000000000):jl.ok (iT x):=⟨h.1,h.2.1,h.2.2.1,h.2.2.2⟩
theorem abq{x:dw}(h:mG x)(hl:(adj x).length≤1000000000):eJ.ok (fl x):=⟨h.1,h.2.1,h.2.2⟩
theorem acI{x:cN}(h:oU x)(hl:(iN x).length≤1000000000):fB.ok (gb x):=⟨dv ((ai hl).1),h.1,h.2.1,h.2.2⟩
theorem acH{x:cS}(h:oT x)(hl:(iM x).length≤1000000000):fA.ok (ga x):=⟨h.1,h.2.1,dv ((ai (ai (ai hl).2).2).1),h.2.2⟩
theorem acJ{x:bC}(h:oV x)(hl:(jB x).length≤1000000000):fT.ok (gy x):=⟨h.1,h.2⟩
theorem zR{x:bF}(h:lq x)(hl:(fJ x).length≤1000000000):dH.ok (er x):=⟨h.1,h.2.1,h.2.2.1,dv ((ai (ai (ai (ai hl).2).2).2).1),dv ((ai (ai (ai (ai (ai hl).2).2).2).2).1),h.2.2.2⟩
theorem ady{x:dJ}(h:tp x)(hl:(oF x).length≤1000000000):ir.ok (ik x):=⟨h.1,h.2.1,h.2.2.1,dv ((ai (ai (ai (ai hl).2).2).2).1),h.2.2.2.1,h.2.2.2.2⟩
theorem abo{x:cC}(h:mE x)(hl:(jm x).length≤1000000000):eH.ok (fk x):=⟨h.1,h.2.1,h.2.2.1,h.2.2.2⟩
theorem rp{x:aH}(hl:(cE x).length≤1000000000):cI.ok (di x):=⟨dv ((ai hl).1),zL (fun _ _ h=>dv h) ((ai hl).2)⟩
theorem acF{x:cq}(h:mD x)(hl:(gX x).length≤1000000000):fS.ok (fZ x):=⟨dv ((ai hl).1),dv ((ai (ai hl).2).1),dv ((ai (ai (ai hl).2).2).1),okL (fun y hy hly=>abq (h.1 y hy) hly) ((ai (ai (ai (ai hl).2).2).2).1),h.2⟩
theorem acG{x:cG}(h:mF x)(hl:(fq.enc (eZ x)).length≤1000000000):fq.ok (eZ x):=⟨okL (fun y hy hly=>acI (h.1 y hy) hly) ((ai hl).1),okL (fun y hy hly=>acH (h.2.1 y hy) hly) ((ai (ai hl).2).1),okL (fun y hy hly=>acJ (h.2.2.1 y hy) hly) ((ai (ai (ai hl).2).2).1),okL (fun y hy hly=>zR (h.2.2.2.1 y hy) hly) ((ai (ai (ai (ai hl).2).2).2).1),okL (fun y hy hly=>ady (h.2.2.2.2.1 y hy) hly) ((ai (ai (ai (ai (ai hl).2).2).2).2).1),okL (fun y hy hly=>abo (h.2.2.2.2.2 y hy) hly) ((ai (ai (ai (ai (ai hl).2).2).2).2).2)⟩
theorem abp{x:az}(h:eE x)(hl:(cg.enc (bQ x)).length≤1000000000):cg.ok (bQ x):=⟨dv ((ai hl).1),trivial,h.1,h.2.1,h.2.2.1,dv ((ai (ai (ai (ai (ai (ai hl).2).2).2).2).2).1),dv ((ai (ai (ai (ai (ai (ai (ai hl).2).2).2).2).2).2).1),h.2.2.2.1,okL (fun y hy hly=>zS (h.2.2.2.2.2.1 y hy) hly) ((ai (ai (ai (ai (ai (ai (ai (ai (ai hl).2).2).2).2).2).2).2).2).1),okL (fun y hy hly=>zP (h.2.2.2.2.2.2.1 y hy) hly) ((ai (ai (ai (ai (ai (ai (ai (ai (ai (ai hl).2).2).2).2).2).2).2).2).2).1),okL (fun y hy hly=>zQ (h.2.2.2.2.2.2.2.1 y hy) hly) ((ai (ai (ai (ai (ai (ai (ai (ai (ai (ai (ai hl).2).2).2).2).2).2).2).2).2).2).1),zL (fun y hy _=>h.2.2.2.2.2.2.2.2.1 y hy) ((ai (ai (ai (ai (ai (ai (ai (ai (ai (ai (ai (ai hl).2).2).2).2).2).2).2).2).2).2).2).1),zL (fun y hy _=>h.2.2.2.2.2.2.2.2.2.1 y hy) ((ai (ai (ai (ai (ai (ai (ai (ai (ai (ai (ai (ai (ai hl).2).2).2).2).2).2).2).2).2).2).2).2).1),okL (fun y hy hly=>adx (h.2.2.2.2.2.2.2.2.2.2.1 y hy) hly) ((ai (ai (ai (ai (ai (ai (ai (ai (ai (ai (ai (ai (ai (ai hl).2).2).2).2).2).2).2).2).2).2).2).2).2).1),zL (fun y hy _=>h.2.2.2.2.2.2.2.2.2.2.2.1 y hy) ((ai (ai (ai (ai (ai (ai (ai (ai (ai (ai (ai (ai (ai (ai (ai hl).2).2).2).2).2).2).2).2).2).2).2).2).2).2).1),zL (fun y hy _=>h.2.2.2.2.2.2.2.2.2.2.2.2.1 y hy) ((ai (ai (ai (ai (ai (ai (ai (ai (ai (ai (ai (ai (ai (ai (ai (ai hl).2).2).2).2).2).2).2).2).2).2).2).2).2).2).2).1),h.2.2.2.2.1,zL (fun _ _ h=>dv h) ((ai (ai (ai (ai (ai (ai (ai (ai (ai (ai (ai (ai (ai (ai (ai (ai (ai (ai hl).2).2).2).2).2).2).2).2).2).2).2).2).2).2).2).2).2).1),okL (fun _ _ hly=>rp hly) ((ai (ai (ai (ai (ai (ai (ai (ai (ai (ai (ai (ai (ai (ai (ai (ai (ai (ai (ai hl).2).2).2).2).2).2).2).2).2).2).2).2).2).2).2).2).2).2).1),acG (h.2.2.2.2.2.2.2.2.2.2.2.2.2.1) ((ai (ai (ai (ai (ai (ai (ai (ai (ai (ai (ai (ai (ai (ai (ai (ai (ai (ai (ai (ai hl).2).2).2).2).2).2).2).2).2).2).2).2).2).2).2).2).2).2).2).1),okL (fun y hy hly=>acF (h.2.2.2.2.2.2.2.2.2.2.2.2.2.2 y hy) hly) ((ai (ai (ai (ai (ai (ai (ai (ai (ai (ai (ai (ai (ai (ai (ai (ai (ai (ai (ai (ai hl).2).2).2).2).2).2).2).2).2).2).2).2).2).2).2).2).2).2).2).2)⟩
theorem zY{x y:az}{r:List UInt8}{b:Bool}(h:eE x)(hl:(cg.enc (bQ x)).length≤1000000000){t:List UInt8}(hr:cg.one (.R (cg.enc (bQ x)++t) false) cg.zero=(.R r b,bQ y)):r=t∧b=false∧bQ y=bQ x:=by
 rw [cg.r (bQ x) t (abp h hl)] at hr
 obtain ⟨h1,h2⟩:=CS.R.inj (congrArg Prod.fst hr)
 exact ⟨h1.symm,h2.symm,(congrArg Prod.snd hr).symm⟩
end Go.Proofs.YtfkcmbonmpcbfaaGreat

