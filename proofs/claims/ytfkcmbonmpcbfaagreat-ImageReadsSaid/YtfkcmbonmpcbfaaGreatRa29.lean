/- Parts of the proof, in build order. No condition. -/
import Derived.Test.YtfkcmbonmpcbfaaGreatRa28
import Derived.Test.YtfkcmbonmpcbfaaGreatRa05
import Derived.Test.YtfkcmbonmpcbfaaGreatRa09
set_option linter.unusedSimpArgs false
set_option linter.unusedVariables false
set_option maxHeartbeats 1000000
set_option maxRecDepth 20000
namespace Go.Proofs.YtfkcmbonmpcbfaaGreat
open Go.RowKit Go.Lp Go.Sy Go.Lv
open Go.Proofs.Tryz
attribute [local irreducible] aL aB awp aC fwp Quiet
theorem p8(b:Nat)(r:List UInt8)(bad:Bool)(hr:r.length≤1000000)(hb:bad=true→r=[]):Con Tryz.prog 50 [.pointer (some ⟨b,0,none⟩)] [] [rdR b r bad] fun v ps hp=>∃ (l:Sl ba) (t:List UInt8) (bad':Bool),v=l.val∧ps=[ShF ba.row l,bz ba.ok l.l]∧RU (cA dN) r bad (l.l.map et) t bad'∧hp=[rdR b t bad']:=by
 obtain ⟨n,hn⟩:∃ n,(eS r bad).2=n:=⟨_,rfl⟩
 have hnm:=ek r bad
 rw [hn] at hnm
 refine EN1 Tryz.func50 rfl (cW 153 7 (aR (bz ba.ok []) .a0 ?_))
 show awp _ _ _ _ ⟨_,_,[_,_]⟩
 refine aSR (aA rfl (aNn (aSR (aA rfl (aNn (aSR (aM rfl (LF rfl (EC [] [0] rfl (dP b r bad (by omega)) ?_)))))))))
 rintro _ _ _ ⟨rfl,t,bad1,hq,rfl,rfl⟩
 refine aST ?_
 have hL:=LU.start (A:=dN) hb (t:=t) (b1:=bad1) (n:=n) (Prod.ext hq hn)
 rw [hn]
 refine aA rfl (aNs (aSR (aA rfl (bj (aj (aq (aQ [0,3,4,5] [0] [0,1] (fun (q:Nat × (Option Addr × Nat × List ba) × List UInt8 × Bool) st=>(q.1≤n∧LU dN ((cA dN).one (.R r false) []) bad r.length (n-q.1) (q.2.1.2.2.map et) q.2.2.1 q.2.2.2)∧st=⟨[(0,true,.pointer (some ⟨b,0,none⟩)),(3,true,.slice q.2.1.1 q.2.1.2.2.length q.2.1.2.1),(4,true,.int .i64 n),(5,true,.int .i64 q.1)],[bz ba.ok q.2.1.2.2],[rdR b q.2.2.1 q.2.2.2,aO (.slice q.2.1.1 q.2.1.2.2.length q.2.1.2.1) 153 7 (q.2.1.2.2.map ba.row)]⟩) (fun q=>n-q.1) rfl (⟨(0,(none,0,[]),t,bad1),⟨Nat.zero_le _,hL⟩,rfl⟩) ?_)))))))
 rintro ⟨k,⟨ad,cp,m⟩,r0,bad0⟩ st ⟨⟨hk,hU⟩,rfl⟩
 dsimp only at hk hU ⊢
 refine ah (aSR (aM rfl (aM rfl (aU rfl (bu rfl rfl) (aM rfl (aG rfl rfl (fun hc=>aS rfl) (aG rfl rfl (fun hc=>cD (ae rfl hc)) (aG rfl rfl (fun hc=>qFA (off:=1) (ae rfl hc)) (GL 0 tk4 rfl rfl rfl rfl rfl (aG rfl rfl (fun hc=>cV (ae rfl hc)) (aU rfl (bo rfl rfl (fun h=>gt rfl h)) (aNn ?_))))))))))))
 refine ao _ rfl (fun h1 => ?_) (fun h1 => ?_)
 ·skip
  obtain ⟨hk',hb2⟩:k<n∧bad0=false:=by
    rw [Bool.and_eq_true,decide_eq_true_eq,Bool.not_eq_true'] at h1
    exact ⟨by omega,h1.2⟩
  subst hb2
  have hlen:=hU.len
  have hle0:=hU.le
  rw [if_neg (by decide),List.length_map] at hlen
  refine ar (aj (ah (aq (aSR (aM rfl ?_)))))
  refine LF rfl (EC [] [0] rfl (dZ b r0 false (by omega) (fun h=>by cases h)) ?_)
  rintro _ _ _ ⟨rfl,x0,r1,b1,rfl,s0,e0,rfl⟩
  refine aST ?_
  have hle1:=e0.le
  refine aU rfl (eb (l:=[(0,.tmp 22)]) (zs:=[.string .empty,.string .empty,.int .i64 0,.int .i64 0,.int .i64 0,.string .empty,.string .empty]) (pl:=[(0,1),(1,1),(2,1),(3,1),(4,1),(5,1),(6,1)]) (by kernel_rfl) (by kernel_rfl) (by kernel_rfl) rfl rfl rfl) (LT rfl (bk (zs:=[.string .empty,.string .empty,.int .i64 0,.int .i64 0,.int .i64 0,.string .empty,.string .empty]) (by kernel_rfl) rfl (fun b6_3=>(aHN ?_))))
  refine aD rfl (aF 2 tk153 rfl rfl rfl rfl (aHK ?_))
  refine aNn (aSR (aM rfl (LF rfl (EC [] [0] rfl (dZ b r1 b1 (by omega) e0.bad) ?_))))
  rintro _ _ _ ⟨rfl,x1,r2,b2,rfl,s1,e1,rfl⟩
  refine aST ?_
  have hle2:=e1.le
  refine UO 1 rfl rfl (aD rfl (aF 2 tk9 rfl rfl rfl rfl (aHK ?_)))
  refine aNn (aSR (aM rfl (LF rfl (EC [] [0] rfl (ct b r2 b2 (by omega) e1.bad) ?_))))
  rintro _ _ _ ⟨rfl,x2,r3,b3,rfl,e2,rfl⟩
  refine aST ?_
  have hle3:=e2.le
  refine UO 2 rfl rfl (aD rfl (aF 2 tk3 rfl rfl rfl rfl (aHK ?_)))
  refine aNn (aSR (aM rfl (LF rfl (EC [] [0] rfl (ct b r3 b3 (by omega) e2.bad) ?_))))
  rintro _ _ _ ⟨rfl,x3,r4,b4,rfl,e3,rfl⟩
  refine aST ?_
  have hle4:=e3.le
  refine UO 3 rfl rfl (aD rfl (aF 2 tk3 rfl rfl rfl rfl (aHK ?_)))
  refine aNn (aSR (aM rfl (LF rfl (EC [] [0] rfl (ct b r4 b4 (by omega) e3.bad) ?_))))
  rintro _ _ _ ⟨rfl,x4,r5,b5,rfl,e4,rfl⟩
  refine aST ?_
  have hle5:=e4.le
  refine UO 4 rfl rfl (aD rfl (aF 2 tk3 rfl rfl rfl rfl (aHK ?_)))
  refine aNn (aSR (aM rfl (LF rfl (EC [] [0] rfl (dZ b r5 b5 (by omega) e4.bad) ?_))))
  rintro _ _ _ ⟨rfl,x5,r6,b6,rfl,s5,e5,rfl⟩
  refine aST ?_
  have hle6:=e5.le
  refine UO 5 rfl rfl (aD rfl (aF 2 tk9 rfl rfl rfl rfl (aHK ?_)))
  refine aNn (aSR (aM rfl (LF rfl (EC [] [0] rfl (dZ b r6 b6 (by omega) e5.bad) ?_))))
  rintro _ _ _ ⟨rfl,x6,r7,b7,rfl,s6,e6,rfl⟩
  refine aST ?_
  have hle7:=e6.le
  refine UO 6 rfl rfl (aD rfl (aF 2 tk9 rfl rfl rfl rfl (aHK ?_)))
  refine aNn ?_
  have hU2:=LU.step (R:=r.length) (by omega) (show LU dN _ _ _ (n-(k+1)+1) _ _ _ by rw [show n-(k+1)+1=n-k by omega];exact hU) (show RU dN r0 false (et (⟨x0,x1,x2,x3,x4,x5,x6⟩:ba)) r7 b7 from (e0.prod (e1.prod (e2.prod (e3.prod (e4.prod (e5.prod e6)))))))
  refine aa (aM rfl (UL 2 tk153 rfl rfl rfl rfl (LT rfl (WL (zs:=[.string .empty,.string .empty,.int .i64 0,.int .i64 0,.int .i64 0,.string .empty,.string .empty]) el23 rfl rfl rfl (.more rfl (.v rfl (.v rfl (.v rfl (.v rfl (.v rfl (.v rfl (.v rfl .nil))))))) .nil) rfl rfl (fun v13_2=>(aHN ?_))))))
  refine aD rfl (cj 1 el23 rfl rfl rfl rfl (cY 3 el23 rfl (by simp)) (by first | assumption | simp) (by rw [List.length_map];exact Nat.le_trans (show m.length+1≤1000001 by omega) (by decide)) ((m++[(⟨x0,x1,x2,x3,x4,x5,x6⟩:ba)]).length) (by rw [List.length_map,List.length_append];rfl) (fun v13_3 c13_3 => ?_))
  refine aHK ?_
  refine aA rfl (bj (bp (aj (aR (bz ba.ok (m++[(⟨x0,x1,x2,x3,x4,x5,x6⟩:ba)])) (Ent.snoc (.of (aI 0 rfl)) (Ent.mk2 (Ent.str s0) (Ent.mk2 (Ent.str s1) (Ent.mk2 (Ent.str s5) (Ent.str s6))))) (aa (aM rfl (aU rfl (aX rfl rfl (by omega)) (aA rfl (aNn ?_)))))))))
  refine ⟨[0,3,4,5],[1],[0,1],rfl,?_⟩
  exact ⟨(k+1,(_,_,m++[(⟨x0,x1,x2,x3,x4,x5,x6⟩:ba)]),r7,b7),⟨⟨hk',by dsimp only;rw [List.map_append];exact hU2⟩,by dsimp only;rw [List.map_append];rfl⟩,by dsimp only;omega⟩
 ·skip
  have hfin:n-k=0∨bad0=true:=by
    rw [Bool.and_eq_false_iff,decide_eq_false_iff_not,Bool.not_eq_false'] at h1
    rcases h1 with h1 | h1
    · exact .inl (by omega)
    · exact .inr h1
  refine cB 1 rfl (aT (aW (aW (aY (aj (aSR (aM rfl (aA rfl (aNn (ax ?_))))))))))
  refine iX [1,0] [0] rfl Tryz.results50 rfl ?_ (.inr rfl)
  exact ⟨⟨ad,cp,m⟩,r0,bad0,rfl,rfl,hU.done hfin (fun _=>rfl),rfl⟩
theorem p6(b:Nat)(r:List UInt8)(bad:Bool)(hr:r.length≤1000000)(hb:bad=true→r=[]):Con Tryz.prog 51 [.pointer (some ⟨b,0,none⟩)] [] [rdR b r bad] fun v ps hp=>∃ (l:Sl bA) (t:List UInt8) (bad':Bool),v=l.val∧ps=[ShF bA.row l,bz bA.ok l.l]∧RU (cA dL) r bad (l.l.map eo) t bad'∧hp=[rdR b t bad']:=by
 obtain ⟨n,hn⟩:∃ n,(eS r bad).2=n:=⟨_,rfl⟩
 have hnm:=ek r bad
 rw [hn] at hnm
 refine EN1 Tryz.func51 rfl (cW 159 6 (aR (bz bA.ok []) .a0 ?_))
 show awp _ _ _ _ ⟨_,_,[_,_]⟩
 refine aSR (aA rfl (aNn (aSR (aA rfl (aNn (aSR (aM rfl (LF rfl (EC [] [0] rfl (dP b r bad (by omega)) ?_)))))))))
 rintro _ _ _ ⟨rfl,t,bad1,hq,rfl,rfl⟩
 refine aST ?_
 have hL:=LU.start (A:=dL) hb (t:=t) (b1:=bad1) (n:=n) (Prod.ext hq hn)
 rw [hn]
 refine aA rfl (aNs (aSR (aA rfl (bj (aj (aq (aQ [0,3,4,5] [0] [0,1] (fun (q:Nat × (Option Addr × Nat × List bA) × List UInt8 × Bool) st=>(q.1≤n∧LU dL ((cA dL).one (.R r false) []) bad r.length (n-q.1) (q.2.1.2.2.map eo) q.2.2.1 q.2.2.2)∧st=⟨[(0,true,.pointer (some ⟨b,0,none⟩)),(3,true,.slice q.2.1.1 q.2.1.2.2.length q.2.1.2.1),(4,true,.int .i64 n),(5,true,.int .i64 q.1)],[bz bA.ok q.2.1.2.2],[rdR b q.2.2.1 q.2.2.2,aO (.slice q.2.1.1 q.2.1.2.2.length q.2.1.2.1) 159 6 (q.2.1.2.2.map bA.row)]⟩) (fun q=>n-q.1) rfl (⟨(0,(none,0,[]),t,bad1),⟨Nat.zero_le _,hL⟩,rfl⟩) ?_)))))))
 rintro ⟨k,⟨ad,cp,m⟩,r0,bad0⟩ st ⟨⟨hk,hU⟩,rfl⟩
 dsimp only at hk hU ⊢
 refine ah (aSR (aM rfl (aM rfl (aU rfl (bu rfl rfl) (aM rfl (aG rfl rfl (fun hc=>aS rfl) (aG rfl rfl (fun hc=>cD (ae rfl hc)) (aG rfl rfl (fun hc=>qFA (off:=1) (ae rfl hc)) (GL 0 tk4 rfl rfl rfl rfl rfl (aG rfl rfl (fun hc=>cV (ae rfl hc)) (aU rfl (bo rfl rfl (fun h=>gt rfl h)) (aNn ?_))))))))))))
 refine ao _ rfl (fun h1 => ?_) (fun h1 => ?_)
 ·skip
  obtain ⟨hk',hb2⟩:k<n∧bad0=false:=by
    rw [Bool.and_eq_true,decide_eq_true_eq,Bool.not_eq_true'] at h1
    exact ⟨by omega,h1.2⟩
  subst hb2
  have hlen:=hU.len
  have hle0:=hU.le
  rw [if_neg (by decide),List.length_map] at hlen
  refine ar (aj (ah (aq (aSR (aM rfl ?_)))))
  refine LF rfl (EC [] [0] rfl (dZ b r0 false (by omega) (fun h=>by cases h)) ?_)
  rintro _ _ _ ⟨rfl,x0,r1,b1,rfl,s0,e0,rfl⟩
  refine aST ?_
  have hle1:=e0.le
  refine aU rfl (eb (l:=[(0,.tmp 22)]) (zs:=[.string .empty,.string .empty,.bool false,.int .i64 0,.int .i64 0,.int .i64 0]) (pl:=[(0,1),(1,1),(2,1),(3,1),(4,1),(5,1)]) (by kernel_rfl) (by kernel_rfl) (by kernel_rfl) rfl rfl rfl) (LT rfl (bk (zs:=[.string .empty,.string .empty,.bool false,.int .i64 0,.int .i64 0,.int .i64 0]) (by kernel_rfl) rfl (fun b6_3=>(aHN ?_))))
  refine aD rfl (aF 2 tk159 rfl rfl rfl rfl (aHK ?_))
  refine aNn (aSR (aM rfl (LF rfl (EC [] [0] rfl (dZ b r1 b1 (by omega) e0.bad) ?_))))
  rintro _ _ _ ⟨rfl,x1,r2,b2,rfl,s1,e1,rfl⟩
  refine aST ?_
  have hle2:=e1.le
  refine UO 1 rfl rfl (aD rfl (aF 2 tk9 rfl rfl rfl rfl (aHK ?_)))
  refine aNn (aSR (aM rfl (LF rfl (EC [] [0] rfl (oN b r2 b2 (by omega) e1.bad) ?_))))
  rintro _ _ _ ⟨rfl,x2,r3,b3,rfl,e2,rfl⟩
  refine aST ?_
  have hle3:=e2.le
  refine UO 2 rfl rfl (aD rfl (aF 2 tk4 rfl rfl rfl rfl (aHK ?_)))
  refine aNn (aSR (aM rfl (LF rfl (EC [] [0] rfl (ct b r3 b3 (by omega) e2.bad) ?_))))
  rintro _ _ _ ⟨rfl,x3,r4,b4,rfl,e3,rfl⟩
  refine aST ?_
  have hle4:=e3.le
  refine UO 3 rfl rfl (aD rfl (aF 2 tk3 rfl rfl rfl rfl (aHK ?_)))
  refine aNn (aSR (aM rfl (LF rfl (EC [] [0] rfl (ct b r4 b4 (by omega) e3.bad) ?_))))
  rintro _ _ _ ⟨rfl,x4,r5,b5,rfl,e4,rfl⟩
  refine aST ?_
  have hle5:=e4.le
  refine UO 4 rfl rfl (aD rfl (aF 2 tk3 rfl rfl rfl rfl (aHK ?_)))
  refine aNn (aSR (aM rfl (LF rfl (EC [] [0] rfl (ct b r5 b5 (by omega) e4.bad) ?_))))
  rintro _ _ _ ⟨rfl,x5,r6,b6,rfl,e5,rfl⟩
  refine aST ?_
  have hle6:=e5.le
  refine UO 5 rfl rfl (aD rfl (aF 2 tk3 rfl rfl rfl rfl (aHK ?_)))
  refine aNn ?_
  have hU2:=LU.step (R:=r.length) (by omega) (show LU dL _ _ _ (n-(k+1)+1) _ _ _ by rw [show n-(k+1)+1=n-k by omega];exact hU) (show RU dL r0 false (eo (⟨x0,x1,x2,x3,x4,x5⟩:bA)) r6 b6 from (e0.prod (e1.prod (e2.prod (e3.prod (e4.prod e5))))))
  refine aa (aM rfl (UL 2 tk159 rfl rfl rfl rfl (LT rfl (WL (zs:=[.string .empty,.string .empty,.bool false,.int .i64 0,.int .i64 0,.int .i64 0]) el24 rfl rfl rfl (.more rfl (.v rfl (.v rfl (.v rfl (.v rfl (.v rfl (.v rfl .nil)))))) .nil) rfl rfl (fun v12_2=>(aHN ?_))))))
  refine aD rfl (cj 1 el24 rfl rfl rfl rfl (cY 3 el24 rfl (by simp)) (by first | assumption | simp) (by rw [List.length_map];exact Nat.le_trans (show m.length+1≤1000001 by omega) (by decide)) ((m++[(⟨x0,x1,x2,x3,x4,x5⟩:bA)]).length) (by rw [List.length_map,List.length_append];rfl) (fun v12_3 c12_3 => ?_))
  refine aHK ?_
  refine aA rfl (bj (bp (aj (aR (bz bA.ok (m++[(⟨x0,x1,x2,x3,x4,x5⟩:bA)])) (Ent.snoc (.of (aI 0 rfl)) (Ent.mk2 (Ent.str s0) (Ent.str s1))) (aa (aM rfl (aU rfl (aX rfl rfl (by omega)) (aA rfl (aNn ?_)))))))))
  refine ⟨[0,3,4,5],[1],[0,1],rfl,?_⟩
  exact ⟨(k+1,(_,_,m++[(⟨x0,x1,x2,x3,x4,x5⟩:bA)]),r6,b6),⟨⟨hk',by dsimp only;rw [List.map_append];exact hU2⟩,by dsimp only;rw [List.map_append];rfl⟩,by dsimp only;omega⟩
 ·skip
  have hfin:n-k=0∨bad0=true:=by
    rw [Bool.and_eq_false_iff,decide_eq_false_iff_not,Bool.not_eq_false'] at h1
    rcases h1 with h1 | h1
    · exact .inl (by omega)
    · exact .inr h1
  refine cB 1 rfl (aT (aW (aW (aY (aj (aSR (aM rfl (aA rfl (aNn (ax ?_))))))))))
  refine iX [1,0] [0] rfl Tryz.results51 rfl ?_ (.inr rfl)
  exact ⟨⟨ad,cp,m⟩,r0,bad0,rfl,rfl,hU.done hfin (fun _=>rfl),rfl⟩
theorem p7(b:Nat)(r:List UInt8)(bad:Bool)(hr:r.length≤1000000)(hb:bad=true→r=[]):Con Tryz.prog 52 [.pointer (some ⟨b,0,none⟩)] [] [rdR b r bad] fun v ps hp=>∃ (l:Sl bK) (t:List UInt8) (bad':Bool),v=l.val∧ps=[ShF bK.row l,bz bK.ok l.l]∧RU (cA dM) r bad (l.l.map ep) t bad'∧hp=[rdR b t bad']:=by
 obtain ⟨n,hn⟩:∃ n,(eS r bad).2=n:=⟨_,rfl⟩
 have hnm:=ek r bad
 rw [hn] at hnm
 refine EN1 Tryz.func52 rfl (cW 155 5 (aR (bz bK.ok []) .a0 ?_))
 show awp _ _ _ _ ⟨_,_,[_,_]⟩
 refine aSR (aA rfl (aNn (aSR (aA rfl (aNn (aSR (aM rfl (LF rfl (EC [] [0] rfl (dP b r bad (by omega)) ?_)))))))))
 rintro _ _ _ ⟨rfl,t,bad1,hq,rfl,rfl⟩
 refine aST ?_
 have hL:=LU.start (A:=dM) hb (t:=t) (b1:=bad1) (n:=n) (Prod.ext hq hn)
 rw [hn]
 refine aA rfl (aNs (aSR (aA rfl (bj (aj (aq (aQ [0,3,4,5] [0] [0,1] (fun (q:Nat × (Option Addr × Nat × List bK) × List UInt8 × Bool) st=>(q.1≤n∧LU dM ((cA dM).one (.R r false) []) bad r.length (n-q.1) (q.2.1.2.2.map ep) q.2.2.1 q.2.2.2)∧st=⟨[(0,true,.pointer (some ⟨b,0,none⟩)),(3,true,.slice q.2.1.1 q.2.1.2.2.length q.2.1.2.1),(4,true,.int .i64 n),(5,true,.int .i64 q.1)],[bz bK.ok q.2.1.2.2],[rdR b q.2.2.1 q.2.2.2,aO (.slice q.2.1.1 q.2.1.2.2.length q.2.1.2.1) 155 5 (q.2.1.2.2.map bK.row)]⟩) (fun q=>n-q.1) rfl (⟨(0,(none,0,[]),t,bad1),⟨Nat.zero_le _,hL⟩,rfl⟩) ?_)))))))
 rintro ⟨k,⟨ad,cp,m⟩,r0,bad0⟩ st ⟨⟨hk,hU⟩,rfl⟩
 dsimp only at hk hU ⊢
 refine ah (aSR (aM rfl (aM rfl (aU rfl (bu rfl rfl) (aM rfl (aG rfl rfl (fun hc=>aS rfl) (aG rfl rfl (fun hc=>cD (ae rfl hc)) (aG rfl rfl (fun hc=>qFA (off:=1) (ae rfl hc)) (GL 0 tk4 rfl rfl rfl rfl rfl (aG rfl rfl (fun hc=>cV (ae rfl hc)) (aU rfl (bo rfl rfl (fun h=>gt rfl h)) (aNn ?_))))))))))))
 refine ao _ rfl (fun h1 => ?_) (fun h1 => ?_)
 ·skip
  obtain ⟨hk',hb2⟩:k<n∧bad0=false:=by
    rw [Bool.and_eq_true,decide_eq_true_eq,Bool.not_eq_true'] at h1
    exact ⟨by omega,h1.2⟩
  subst hb2
  have hlen:=hU.len
  have hle0:=hU.le
  rw [if_neg (by decide),List.length_map] at hlen
  refine ar (aj (ah (aq (aSR (aM rfl ?_)))))
  refine LF rfl (EC [] [0] rfl (dZ b r0 false (by omega) (fun h=>by cases h)) ?_)
  rintro _ _ _ ⟨rfl,x0,r1,b1,rfl,s0,e0,rfl⟩
  refine aST ?_
  have hle1:=e0.le
  refine aU rfl (eb (l:=[(0,.tmp 22)]) (zs:=[.string .empty,.string .empty,.int .i64 0,.bool false,.bool false]) (pl:=[(0,1),(1,1),(2,1),(3,1),(4,1)]) (by kernel_rfl) (by kernel_rfl) (by kernel_rfl) rfl rfl rfl) (LT rfl (bk (zs:=[.string .empty,.string .empty,.int .i64 0,.bool false,.bool false]) (by kernel_rfl) rfl (fun b6_3=>(aHN ?_))))
  refine aD rfl (aF 2 tk155 rfl rfl rfl rfl (aHK ?_))
  refine aNn (aSR (aM rfl (LF rfl (EC [] [0] rfl (dZ b r1 b1 (by omega) e0.bad) ?_))))
  rintro _ _ _ ⟨rfl,x1,r2,b2,rfl,s1,e1,rfl⟩
  refine aST ?_
  have hle2:=e1.le
  refine UO 1 rfl rfl (aD rfl (aF 2 tk9 rfl rfl rfl rfl (aHK ?_)))
  refine aNn (aSR (aM rfl (LF rfl (EC [] [0] rfl (ct b r2 b2 (by omega) e1.bad) ?_))))
  rintro _ _ _ ⟨rfl,x2,r3,b3,rfl,e2,rfl⟩
  refine aST ?_
  have hle3:=e2.le
  refine UO 2 rfl rfl (aD rfl (aF 2 tk3 rfl rfl rfl rfl (aHK ?_)))
  refine aNn (aSR (aM rfl (LF rfl (EC [] [0] rfl (oN b r3 b3 (by omega) e2.bad) ?_))))
  rintro _ _ _ ⟨rfl,x3,r4,b4,rfl,e3,rfl⟩
  refine aST ?_
  have hle4:=e3.le
  refine UO 3 rfl rfl (aD rfl (aF 2 tk4 rfl rfl rfl rfl (aHK ?_)))
  refine aNn (aSR (aM rfl (LF rfl (EC [] [0] rfl (oN b r4 b4 (by omega) e3.bad) ?_))))
  rintro _ _ _ ⟨rfl,x4,r5,b5,rfl,e4,rfl⟩
  refine aST ?_
  have hle5:=e4.le
  refine UO 4 rfl rfl (aD rfl (aF 2 tk4 rfl rfl rfl rfl (aHK ?_)))
  refine aNn ?_
  have hU2:=LU.step (R:=r.length) (by omega) (show LU dM _ _ _ (n-(k+1)+1) _ _ _ by rw [show n-(k+1)+1=n-k by omega];exact hU) (show RU dM r0 false (ep (⟨x0,x1,x2,x3,x4⟩:bK)) r5 b5 from (e0.prod (e1.prod (e2.prod (e3.prod e4)))))
  refine aa (aM rfl (UL 2 tk155 rfl rfl rfl rfl (LT rfl (WL (zs:=[.string .empty,.string .empty,.int .i64 0,.bool false,.bool false]) el25 rfl rfl rfl (.more rfl (.v rfl (.v rfl (.v rfl (.v rfl (.v rfl .nil))))) .nil) rfl rfl (fun v11_2=>(aHN ?_))))))
  refine aD rfl (cj 1 el25 rfl rfl rfl rfl (cY 3 el25 rfl (by simp)) (by first | assumption | simp) (by rw [List.length_map];exact Nat.le_trans (show m.length+1≤1000001 by omega) (by decide)) ((m++[(⟨x0,x1,x2,x3,x4⟩:bK)]).length) (by rw [List.length_map,List.length_append];rfl) (fun v11_3 c11_3 => ?_))
  refine aHK ?_
  refine aA rfl (bj (bp (aj (aR (bz bK.ok (m++[(⟨x0,x1,x2,x3,x4⟩:bK)])) (Ent.snoc (.of (aI 0 rfl)) (Ent.mk2 (Ent.str s0) (Ent.str s1))) (aa (aM rfl (aU rfl (aX rfl rfl (by omega)) (aA rfl (aNn ?_)))))))))
  refine ⟨[0,3,4,5],[1],[0,1],rfl,?_⟩
  exact ⟨(k+1,(_,_,m++[(⟨x0,x1,x2,x3,x4⟩:bK)]),r5,b5),⟨⟨hk',by dsimp only;rw [List.map_append];exact hU2⟩,by dsimp only;rw [List.map_append];rfl⟩,by dsimp only;omega⟩
 ·skip
  have hfin:n-k=0∨bad0=true:=by
    rw [Bool.and_eq_false_iff,decide_eq_false_iff_not,Bool.not_eq_false'] at h1
    rcases h1 with h1 | h1
    · exact .inl (by omega)
    · exact .inr h1
  refine cB 1 rfl (aT (aW (aW (aY (aj (aSR (aM rfl (aA rfl (aNn (ax ?_))))))))))
  refine iX [1,0] [0] rfl Tryz.results52 rfl ?_ (.inr rfl)
  exact ⟨⟨ad,cp,m⟩,r0,bad0,rfl,rfl,hU.done hfin (fun _=>rfl),rfl⟩
theorem uO(b:Nat)(r:List UInt8)(bad:Bool)(hr:r.length≤1000000)(hb:bad=true→r=[]):Con Tryz.prog 54 [.pointer (some ⟨b,0,none⟩)] [] [rdR b r bad] fun v ps hp=>∃ (l:Sl fb) (t:List UInt8) (bad':Bool),v=l.val∧ps=[ShF fb.row l]∧RU (cA jl) r bad (l.l.map iT) t bad'∧hp=[rdR b t bad']:=by
 obtain ⟨n,hn⟩:∃ n,(eS r bad).2=n:=⟨_,rfl⟩
 have hnm:=ek r bad
 rw [hn] at hnm
 refine EN1 Tryz.func54 rfl (cW 157 4 ?_)
 show awp _ _ _ _ ⟨_,_,[_,_]⟩
 refine aSR (aA rfl (aNn (aSR (aA rfl (aNn (aSR (aM rfl (LF rfl (EC [] [0] rfl (dP b r bad (by omega)) ?_)))))))))
 rintro _ _ _ ⟨rfl,t,bad1,hq,rfl,rfl⟩
 refine aST ?_
 have hL:=LU.start (A:=jl) hb (t:=t) (b1:=bad1) (n:=n) (Prod.ext hq hn)
 rw [hn]
 refine aA rfl (aNs (aSR (aA rfl (bj (aj (aq (aQ [0,3,4,5] [] [0,1] (fun (q:Nat × (Option Addr × Nat × List fb) × List UInt8 × Bool) st=>(q.1≤n∧LU jl ((cA jl).one (.R r false) []) bad r.length (n-q.1) (q.2.1.2.2.map iT) q.2.2.1 q.2.2.2)∧st=⟨[(0,true,.pointer (some ⟨b,0,none⟩)),(3,true,.slice q.2.1.1 q.2.1.2.2.length q.2.1.2.1),(4,true,.int .i64 n),(5,true,.int .i64 q.1)],[],[rdR b q.2.2.1 q.2.2.2,aO (.slice q.2.1.1 q.2.1.2.2.length q.2.1.2.1) 157 4 (q.2.1.2.2.map fb.row)]⟩) (fun q=>n-q.1) rfl (⟨(0,(none,0,[]),t,bad1),⟨Nat.zero_le _,hL⟩,rfl⟩) ?_)))))))
 rintro ⟨k,⟨ad,cp,m⟩,r0,bad0⟩ st ⟨⟨hk,hU⟩,rfl⟩
 dsimp only at hk hU ⊢
 refine ah (aSR (aM rfl (aM rfl (aU rfl (bu rfl rfl) (aM rfl (aG rfl rfl (fun hc=>aS rfl) (aG rfl rfl (fun hc=>cD (ae rfl hc)) (aG rfl rfl (fun hc=>qFA (off:=1) (ae rfl hc)) (GL 0 tk4 rfl rfl rfl rfl rfl (aG rfl rfl (fun hc=>cV (ae rfl hc)) (aU rfl (bo rfl rfl (fun h=>gt rfl h)) (aNn ?_))))))))))))
 refine ao _ rfl (fun h1 => ?_) (fun h1 => ?_)
 ·skip
  obtain ⟨hk',hb2⟩:k<n∧bad0=false:=by
    rw [Bool.and_eq_true,decide_eq_true_eq,Bool.not_eq_true'] at h1
    exact ⟨by omega,h1.2⟩
  subst hb2
  have hlen:=hU.len
  have hle0:=hU.le
  rw [if_neg (by decide),List.length_map] at hlen
  refine ar (aj (ah (aq (aSR (aM rfl ?_)))))
  refine LF rfl (EC [] [0] rfl (ct b r0 false (by omega) (fun h=>by cases h)) ?_)
  rintro _ _ _ ⟨rfl,x0,r1,b1,rfl,e0,rfl⟩
  refine aST ?_
  have hle1:=e0.le
  refine aU rfl (eb (l:=[(0,.tmp 22)]) (zs:=[.int .i64 0,.int .i64 0,.int .i64 0,.int .i64 0]) (pl:=[(0,1),(1,1),(2,1),(3,1)]) (by kernel_rfl) (by kernel_rfl) (by kernel_rfl) rfl rfl rfl) (LT rfl (bk (zs:=[.int .i64 0,.int .i64 0,.int .i64 0,.int .i64 0]) (by kernel_rfl) rfl (fun b6_3=>(aHN ?_))))
  refine aD rfl (aF 2 tk157 rfl rfl rfl rfl (aHK ?_))
  refine aNn (aSR (aM rfl (LF rfl (EC [] [0] rfl (ct b r1 b1 (by omega) e0.bad) ?_))))
  rintro _ _ _ ⟨rfl,x1,r2,b2,rfl,e1,rfl⟩
  refine aST ?_
  have hle2:=e1.le
  refine UO 1 rfl rfl (aD rfl (aF 2 tk3 rfl rfl rfl rfl (aHK ?_)))
  refine aNn (aSR (aM rfl (LF rfl (EC [] [0] rfl (ct b r2 b2 (by omega) e1.bad) ?_))))
  rintro _ _ _ ⟨rfl,x2,r3,b3,rfl,e2,rfl⟩
  refine aST ?_
  have hle3:=e2.le
  refine UO 2 rfl rfl (aD rfl (aF 2 tk3 rfl rfl rfl rfl (aHK ?_)))
  refine aNn (aSR (aM rfl (LF rfl (EC [] [0] rfl (ct b r3 b3 (by omega) e2.bad) ?_))))
  rintro _ _ _ ⟨rfl,x3,r4,b4,rfl,e3,rfl⟩
  refine aST ?_
  have hle4:=e3.le
  refine UO 3 rfl rfl (aD rfl (aF 2 tk3 rfl rfl rfl rfl (aHK ?_)))
  refine aNn ?_
  have hU2:=LU.step (R:=r.length) (by omega) (show LU jl _ _ _ (n-(k+1)+1) _ _ _ by rw [show n-(k+1)+1=n-k by omega];exact hU) (show RU jl r0 false (iT (⟨x0,x1,x2,x3⟩:fb)) r4 b4 from (e0.prod (e1.prod (e2.prod e3))))
  refine aa (aM rfl (UL 2 tk157 rfl rfl rfl rfl (LT rfl (WL (zs:=[.int .i64 0,.int .i64 0,.int .i64 0,.int .i64 0]) el27 rfl rfl rfl (.more rfl (.v rfl (.v rfl (.v rfl (.v rfl .nil)))) .nil) rfl rfl (fun v10_2=>(aHN ?_))))))
  refine aD rfl (cj 1 el27 rfl rfl rfl rfl (cY 3 el27 rfl (by simp)) (by first | assumption | simp) (by rw [List.length_map];exact Nat.le_trans (show m.length+1≤1000001 by omega) (by decide)) ((m++[(⟨x0,x1,x2,x3⟩:fb)]).length) (by rw [List.length_map,List.length_append];rfl) (fun v10_3 c10_3 => ?_))
  refine aHK ?_
  refine aA rfl (bj (bp (aj (aa (aM rfl (aU rfl (aX rfl rfl (by omega)) (aA rfl (aNn ?_))))))))
  refine ⟨[0,3,4,5],[],[0,1],rfl,?_⟩
  exact ⟨(k+1,(_,_,m++[(⟨x0,x1,x2,x3⟩:fb)]),r4,b4),⟨⟨hk',by dsimp only;rw [List.map_append];exact hU2⟩,by dsimp only;rw [List.map_append];rfl⟩,by dsimp only;omega⟩
 ·skip
  have hfin:n-k=0∨bad0=true:=by
    rw [Bool.and_eq_false_iff,decide_eq_false_iff_not,Bool.not_eq_false'] at h1
    rcases h1 with h1 | h1
    · exact .inl (by omega)
    · exact .inr h1
  refine cB 1 rfl (aT (aW (aW (aY (aj (aSR (aM rfl (aA rfl (aNn (ax ?_))))))))))
  refine iX [0] [0] rfl Tryz.results54 rfl ?_ (.inr rfl)
  exact ⟨⟨ad,cp,m⟩,r0,bad0,rfl,rfl,hU.done hfin (fun _=>rfl),rfl⟩
theorem lT(b:Nat)(r:List UInt8)(bad:Bool)(hr:r.length≤1000000)(hb:bad=true→r=[]):Con Tryz.prog 56 [.pointer (some ⟨b,0,none⟩)] [] [rdR b r bad] fun v ps hp=>∃ (l:Sl aH) (t:List UInt8) (bad':Bool),v=l.val∧ps=[ShF aH.row l,bz aH.ok l.l]∧RU (cA cI) r bad (l.l.map di) t bad'∧hp=[rdR b t bad']:=by
 obtain ⟨n,hn⟩:∃ n,(eS r bad).2=n:=⟨_,rfl⟩
 have hnm:=ek r bad
 rw [hn] at hnm
 refine EN1 Tryz.func56 rfl (cW 195 2 (aR (bz aH.ok []) .a0 ?_))
 show awp _ _ _ _ ⟨_,_,[_,_]⟩
 refine aSR (aA rfl (aNn (aSR (aA rfl (aNn (aSR (aM rfl (LF rfl (EC [] [0] rfl (dP b r bad (by omega)) ?_)))))))))
 rintro _ _ _ ⟨rfl,t,bad1,hq,rfl,rfl⟩
 refine aST ?_
 have hL:=LU.start (A:=cI) hb (t:=t) (b1:=bad1) (n:=n) (Prod.ext hq hn)
 rw [hn]
 refine aA rfl (aNs (aSR (aA rfl (bj (aj (aq (aQ [0,3,4,5] [0] [0,1] (fun (q:Nat × (Option Addr × Nat × List aH) × List UInt8 × Bool) st=>(q.1≤n∧LU cI ((cA cI).one (.R r false) []) bad r.length (n-q.1) (q.2.1.2.2.map di) q.2.2.1 q.2.2.2)∧st=⟨[(0,true,.pointer (some ⟨b,0,none⟩)),(3,true,.slice q.2.1.1 q.2.1.2.2.length q.2.1.2.1),(4,true,.int .i64 n),(5,true,.int .i64 q.1)],[bz aH.ok q.2.1.2.2],[rdR b q.2.2.1 q.2.2.2,aO (.slice q.2.1.1 q.2.1.2.2.length q.2.1.2.1) 195 2 (q.2.1.2.2.map aH.row)]⟩) (fun q=>n-q.1) rfl (⟨(0,(none,0,[]),t,bad1),⟨Nat.zero_le _,hL⟩,rfl⟩) ?_)))))))
 rintro ⟨k,⟨ad,cp,m⟩,r0,bad0⟩ st ⟨⟨hk,hU⟩,rfl⟩
 dsimp only at hk hU ⊢
 refine ah (aSR (aM rfl (aM rfl (aU rfl (bu rfl rfl) (aM rfl (aG rfl rfl (fun hc=>aS rfl) (aG rfl rfl (fun hc=>cD (ae rfl hc)) (aG rfl rfl (fun hc=>qFA (off:=1) (ae rfl hc)) (GL 0 tk4 rfl rfl rfl rfl rfl (aG rfl rfl (fun hc=>cV (ae rfl hc)) (aU rfl (bo rfl rfl (fun h=>gt rfl h)) (aNn ?_))))))))))))
 refine ao _ rfl (fun h1 => ?_) (fun h1 => ?_)
 ·skip
  obtain ⟨hk',hb2⟩:k<n∧bad0=false:=by
    rw [Bool.and_eq_true,decide_eq_true_eq,Bool.not_eq_true'] at h1
    exact ⟨by omega,h1.2⟩
  subst hb2
  have hlen:=hU.len
  have hle0:=hU.le
  rw [if_neg (by decide),List.length_map] at hlen
  refine ar (aj (ah (aq (aSR (aM rfl ?_)))))
  refine LF rfl (EC [] [0] rfl (dZ b r0 false (by omega) (fun h=>by cases h)) ?_)
  rintro _ _ _ ⟨rfl,x0,r1,b1,rfl,s0,e0,rfl⟩
  refine aST ?_
  have hle1:=e0.le
  refine aU rfl (eb (l:=[(0,.tmp 22)]) (zs:=[.string .empty,.slice none 0 0]) (pl:=[(0,1),(1,1)]) (by kernel_rfl) (by kernel_rfl) (by kernel_rfl) rfl rfl rfl) (LT rfl (bk (zs:=[.string .empty,.slice none 0 0]) (by kernel_rfl) rfl (fun b6_3=>(aHN ?_))))
  refine aD rfl (aF 2 tk195 rfl rfl rfl rfl (aHK ?_))
  refine aNn (aSR (aM rfl (LF rfl (EC [] [0] rfl (oc b r1 b1 (by omega) e0.bad) ?_))))
  rintro _ _ _ ⟨x1,r2,b2,rfl,rfl,e1,rfl⟩
  refine aST ?_
  have hle2:=e1.le
  refine UO 1 rfl rfl (aD rfl (aF 2 tk28 rfl rfl rfl rfl (aHK ?_)))
  refine aNn ?_
  have hU2:=LU.step (R:=r.length) (by omega) (show LU cI _ _ _ (n-(k+1)+1) _ _ _ by rw [show n-(k+1)+1=n-k by omega];exact hU) (show RU cI r0 false (di (⟨x0,x1⟩:aH)) r2 b2 from (e0.prod e1))
  refine aa (aM rfl (UL 2 tk195 rfl rfl rfl rfl (LT rfl (WL (zs:=[.string .empty,.slice none 0 0]) el29 rfl rfl rfl (.more rfl (.v rfl (.v rfl .nil)) .nil) rfl rfl (fun v8_2=>(aHN ?_))))))
  refine aD rfl (cj 1 el29 rfl rfl rfl rfl (cY 3 el29 rfl (by simp)) (by first | assumption | simp) (by rw [List.length_map];exact Nat.le_trans (show m.length+1≤1000001 by omega) (by decide)) ((m++[(⟨x0,x1⟩:aH)]).length) (by rw [List.length_map,List.length_append];rfl) (fun v8_3 c8_3 => ?_))
  refine aHK ?_
  refine aA rfl (bj (bp (aj (aR (bz aH.ok (m++[(⟨x0,x1⟩:aH)])) (Ent.snoc (.of (aI 2 rfl)) (Ent.mk2 (Ent.str s0) (Ent.mk2 (.of (aI 0 rfl)) (.of (aI 1 rfl))))) (aa (aM rfl (aU rfl (aX rfl rfl (by omega)) (aA rfl (aNn ?_)))))))))
  refine ⟨[0,3,4,5],[3],[0,1],rfl,?_⟩
  exact ⟨(k+1,(_,_,m++[(⟨x0,x1⟩:aH)]),r2,b2),⟨⟨hk',by dsimp only;rw [List.map_append];exact hU2⟩,by dsimp only;rw [List.map_append];rfl⟩,by dsimp only;omega⟩
 ·skip
  have hfin:n-k=0∨bad0=true:=by
    rw [Bool.and_eq_false_iff,decide_eq_false_iff_not,Bool.not_eq_false'] at h1
    rcases h1 with h1 | h1
    · exact .inl (by omega)
    · exact .inr h1
  refine cB 1 rfl (aT (aW (aW (aY (aj (aSR (aM rfl (aA rfl (aNn (ax ?_))))))))))
  refine iX [1,0] [0] rfl Tryz.results56 rfl ?_ (.inr rfl)
  exact ⟨⟨ad,cp,m⟩,r0,bad0,rfl,rfl,hU.done hfin (fun _=>rfl),rfl⟩
end Go.Proofs.YtfkcmbonmpcbfaaGreat

