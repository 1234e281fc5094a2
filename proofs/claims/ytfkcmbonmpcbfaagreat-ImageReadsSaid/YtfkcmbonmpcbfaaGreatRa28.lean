/- Parts of the proof, in build order. No condition. -/
import Derived.Test.YtfkcmbonmpcbfaaGreatRa27
import Derived.Test.YtfkcmbonmpcbfaaGreatRa05
import Derived.Test.YtfkcmbonmpcbfaaGreatRa09
import Derived.Test.YtfkcmbonmpcbfaaGreatRa18
import Derived.Test.YtfkcmbonmpcbfaaGreatRa25
import Derived.Test.YtfkcmbonmpcbfaaGreatRa22
set_option linter.unusedSimpArgs false
set_option linter.unusedVariables false
set_option maxHeartbeats 1000000
set_option maxRecDepth 20000
namespace Go.Proofs.YtfkcmbonmpcbfaaGreat
open Go.RowKit Go.Lp Go.Sy
open Go.Proofs.Tryz
attribute [local irreducible] aL aB awp aC fwp Quiet
theorem ab1{z:Int}{n:Nat}(h:z=(n:Int)):z.tmod 5=((n % 5:Nat):Int):=by subst h;rfl
theorem uN(va:Value)(l:List Int)(hl:l.length=25)(c0:Int):Con Tryz.prog 208 [va,.int .u64 c0] [] [aO va 301 1 (l.map gB)] fun r ps hp=>ps=[]∧∃ l':List Int,l'.length=25∧hp=[aO r 301 1 (l'.map gB)]:=by
 refine EN2 Tryz.func208 rfl (cW 301 1 ?_)
 show awp _ _ _ _ ⟨_,_,[_,_]⟩
 refine aSR (aA rfl (aNn (aSR (aA rfl (aNs (aSR (aA rfl (aNn (aq (aQ [0,1,5,6] [] [0,1] (fun (q:Nat) st=>q≤5∧∃ (vp:Value) (pl:List Int),pl.length=q∧st=⟨[(0,true,va),(1,true,.int .u64 c0),(5,true,vp),(6,true,.int .i64 q)],[],[aO va 301 1 (l.map gB),aO vp 301 1 (pl.map gB)]⟩) (fun q=>5-q) rfl (⟨0,Nat.zero_le _,_,[],rfl,rfl⟩) ?_))))))))))
 rintro k st ⟨hk,vp,pl,hpl,rfl⟩
 refine ah (aSR (aM rfl (aU rfl (bu rfl rfl) (aNn ?_))))
 refine ao _ rfl (fun h1 => ?_) (fun h1 => ?_)
 ·skip
  have hk':k<5:=by simp at h1;omega
  obtain ⟨z0,hz0⟩:∃ z,l[k]? = some z:=⟨_,List.getElem?_eq_getElem (by omega)⟩
  obtain ⟨z1,hz1⟩:∃ z,l[k+5]? = some z:=⟨_,List.getElem?_eq_getElem (by omega)⟩
  obtain ⟨z2,hz2⟩:∃ z,l[k+10]? = some z:=⟨_,List.getElem?_eq_getElem (by omega)⟩
  obtain ⟨z3,hz3⟩:∃ z,l[k+15]? = some z:=⟨_,List.getElem?_eq_getElem (by omega)⟩
  obtain ⟨z4,hz4⟩:∃ z,l[k+20]? = some z:=⟨_,List.getElem?_eq_getElem (by omega)⟩
  refine ar (aj (ah (aq (DR [30] 32 (VM 0 rfl rfl (VM 1 rfl rfl (VM 2 rfl rfl ?_)))))))
  refine bV 3 rfl rfl (cr 0 k el300 rfl rfl rfl rfl (by rw [List.length_map];omega)) ?_
  refine bV 4 rfl rfl (bN 0 k 0 tk301 rfl rfl (aK hz0) rfl rfl) (VM 5 rfl rfl (VM 6 rfl rfl (bV 7 rfl rfl (aX rfl rfl (by omega)) ?_)))
  refine bV 8 rfl rfl (cr 0 (k+5) el300 rfl rfl rfl (by omega) (by rw [List.length_map];omega)) ?_
  refine bV 9 rfl rfl (bN 0 (k+5) 0 tk301 rfl rfl (aK hz1) rfl rfl) (bV 10 rfl rfl (kD rfl rfl) (VM 11 rfl rfl (VM 12 rfl rfl (bV 13 rfl rfl (aX rfl rfl (by omega)) ?_))))
  refine bV 14 rfl rfl (cr 0 (k+10) el300 rfl rfl rfl (by omega) (by rw [List.length_map];omega)) ?_
  refine bV 15 rfl rfl (bN 0 (k+10) 0 tk301 rfl rfl (aK hz2) rfl rfl) (bV 16 rfl rfl (kD rfl rfl) (VM 17 rfl rfl (VM 18 rfl rfl (bV 19 rfl rfl (aX rfl rfl (by omega)) ?_))))
  refine bV 20 rfl rfl (cr 0 (k+15) el300 rfl rfl rfl (by omega) (by rw [List.length_map];omega)) ?_
  refine bV 21 rfl rfl (bN 0 (k+15) 0 tk301 rfl rfl (aK hz3) rfl rfl) (bV 22 rfl rfl (kD rfl rfl) (VM 23 rfl rfl (VM 24 rfl rfl (bV 25 rfl rfl (aX rfl rfl (by omega)) ?_))))
  refine bV 26 rfl rfl (cr 0 (k+20) el300 rfl rfl rfl (by omega) (by rw [List.length_map];omega)) ?_
  refine bV 27 rfl rfl (bN 0 (k+20) 0 tk301 rfl rfl (aK hz4) rfl rfl) (bV 28 rfl rfl (kD rfl rfl) (fx (q:=true) 29 rfl (by kernel_rfl) rfl rfl (WL (zs:=[.int .u64 0]) el300 rfl rfl rfl (.more rfl (.v rfl .nil) .nil) rfl rfl (fun v5_29=>(bST rfl ?_)))))
  refine fx 30 rfl (by kernel_rfl) rfl rfl (cj 1 el300 rfl rfl rfl rfl (cY 2 el300 rfl (by simp)) (by first | assumption | simp) (by rw [List.length_map];show pl.length+1≤_;omega) ((k+1)) (by rw [List.length_map,hpl];rfl) (fun v5_30 c5_30 => ?_))
  refine bST rfl ?_
  refine bV 31 rfl rfl (bE rfl) (BN (bp (aj (aa (aM rfl (aU rfl (aX rfl rfl (by omega)) (aA rfl (aNn ?_))))))))
  refine ⟨[0,1,5,6],[],[0,1],rfl,?_⟩
  refine ⟨k+1,⟨by omega,?_⟩,by omega⟩
  exact ⟨_,pl++[_],by rw [List.length_append,hpl];rfl,by rw [List.map_append];rfl⟩
 ·skip
  have hk5:k=5:=by simp at h1;omega
  subst hk5
  refine aT (aW (aW (aY (aj (aSR (LT rfl (ig (m:=25) (zs:=[.int .u64 0]) el300 (by kernel_rfl) rfl (by decide) (ed rfl (rfl)) (ed rfl (rfl)) (by omega) rfl (fun v6_0=>(aHN ?_)))))))))
  refine aA rfl (aNs (ah ?_))
  refine iK 2 (aO _ _ 1 ((List.replicate 25 (0:Int)).map gB)) rfl (fun _ _ _ h=>by rw [List.map_replicate];exact h) ?_
  refine aa (aA rfl (aNn (aq (aQ [0,1,5,7,8] [] [0,1,2] (fun (q:Nat) st=>q≤5∧∃ bl:List Int,bl.length=25∧st=⟨[(0,true,va),(1,true,.int .u64 c0),(5,true,vp),(7,true,.slice v6_0 25 25),(8,true,.int .i64 q)],[],[aO va 301 1 (l.map gB),aO vp 301 1 (pl.map gB),aO (.slice v6_0 25 25) 301 1 (bl.map gB)]⟩) (fun q=>5-q) rfl (⟨0,Nat.zero_le _,_,List.length_replicate,rfl⟩) ?_))))
  rintro k st ⟨hk,bl,hbl,rfl⟩
  refine ah (aSR (aM rfl (aU rfl (bu rfl rfl) (aNn ?_))))
  refine ao _ rfl (fun h2 => ?_) (fun h2 => ?_)
  ·skip
   have hk':k<5:=by simp at h2;omega
   refine ar (aj (ah (aq (aSR (aA rfl (bj (aj (aq (aQ [0,1,5,7,8,9] [] [0,1,2] (fun (q:Nat) st=>q≤5∧∃ bl:List Int,bl.length=25∧st=⟨[(0,true,va),(1,true,.int .u64 c0),(5,true,vp),(7,true,.slice v6_0 25 25),(8,true,.int .i64 k),(9,true,.int .i64 q)],[],[aO va 301 1 (l.map gB),aO vp 301 1 (pl.map gB),aO (.slice v6_0 25 25) 301 1 (bl.map gB)]⟩) (fun q=>5-q) rfl (⟨0,Nat.zero_le _,bl,hbl,rfl⟩) ?_)))))))))
   clear hbl
   rintro j st ⟨hj,bl,hbl,rfl⟩
   refine ah (aSR (aM rfl (aU rfl (bu rfl rfl) (aNn ?_))))
   refine ao _ rfl (fun h3 => ?_) (fun h3 => ?_)
   ·skip
    have hj':j<5:=by simp at h3;omega
    obtain ⟨z0,hz0⟩:∃ z,l[k+5*j]? = some z:=⟨_,List.getElem?_eq_getElem (by omega)⟩
    obtain ⟨z1,hz1⟩:∃ z,pl[(k+4) % 5]? = some z:=⟨_,List.getElem?_eq_getElem (by omega)⟩
    obtain ⟨z2,hz2⟩:∃ z,pl[(k+1) % 5]? = some z:=⟨_,List.getElem?_eq_getElem (by omega)⟩
    obtain ⟨z3,hz3⟩:∃ z,bl[j+5*((2*k+3*j) % 5)]? = some z:=⟨_,List.getElem?_eq_getElem (by omega)⟩
    refine ar (aj (ah (aq (ah (DR [] 23 (VM 0 rfl rfl (VM 1 rfl rfl (VM 2 rfl rfl (bV 3 rfl rfl (gM rfl rfl (by omega)) (bV 4 rfl rfl (aX rfl rfl (by omega)) ?_))))))))))
    refine bV 5 rfl rfl (cr 0 (k+5*j) el300 rfl rfl rfl (by omega) (by rw [List.length_map];omega)) ?_
    refine bV 6 rfl rfl (bN 0 (k+5*j) 0 tk301 rfl rfl (aK hz0) rfl rfl) (VM 7 rfl rfl (VM 8 rfl rfl (bV 9 rfl rfl (aX rfl rfl (by omega)) (bV 10 rfl rfl ((gZ rfl rfl (by decide)).castV (v':=.int .i64 ((k+4) % 5:Nat)) (congrArg (Value.int .i64) (ab1 (by omega)))) ?_))))
    refine bV 11 rfl rfl (cr 1 ((k+4) % 5) el300 rfl rfl rfl rfl (by rw [List.length_map];omega)) ?_
    refine bV 12 rfl rfl (bN 1 ((k+4) % 5) 0 tk301 rfl rfl (aK hz1) rfl rfl) (bV 13 rfl rfl (kD rfl rfl) (VM 14 rfl rfl (VM 15 rfl rfl (bV 16 rfl rfl (aX rfl rfl (by omega)) (bV 17 rfl rfl ((gZ rfl rfl (by decide)).castV (v':=.int .i64 ((k+1) % 5:Nat)) (congrArg (Value.int .i64) (ab1 (by omega)))) ?_)))))
    refine bV 18 rfl rfl (cr 1 ((k+1) % 5) el300 rfl rfl rfl rfl (by rw [List.length_map];omega)) ?_
    refine bV 19 rfl rfl (bN 1 ((k+1) % 5) 0 tk301 rfl rfl (aK hz2) rfl rfl) ?_
    refine tT (caps:=[]) 20 rfl (by kernel_rfl) [] ((0:Int)) (by kernel_rfl) true rfl rfl (fun _=>rfl) (fun hc=>rfl) (fun hc=>by rw [List.append_nil];exact p5 _ 1 (by decide)) (fun zl hzl => ?_)
    refine bV 21 rfl rfl (kD rfl rfl) (bV 22 rfl rfl (bE rfl) (BN (aj (aa (aM rfl (aM rfl (aM rfl (aU rfl (gM rfl rfl (by omega)) (aM rfl (aU rfl (gM rfl rfl (by omega)) (aU rfl (aX rfl rfl (by omega)) (aU rfl ((gZ rfl rfl (by decide)).castV (v':=.int .i64 ((2*k+3*j) % 5:Nat)) (congrArg (Value.int .i64) (ab1 (by omega)))) (aU rfl (gM rfl rfl (by omega)) (aU rfl (aX rfl rfl (by omega)) ?_))))))))))))))
    refine aM rfl (aM rfl (aM rfl (aU rfl (gM rfl rfl (by omega)) (aU rfl ((aX rfl rfl (by omega)).castV (v':=.int .i64 (k+5*j:Nat)) (congrArg (Value.int .i64) (by omega))) ?_))))
    refine gm (caps:=[]) [] ((0:Int)) (by kernel_rfl) true rfl rfl (fun _=>rfl) (fun hc=>rfl) (fun hc=>by rw [List.append_nil];exact wI (k+5*j) (by omega)) (fun zt hzt => ?_)
    refine gm (caps:=[]) [] ((0:Int)) (by kernel_rfl) true rfl rfl (fun _=>rfl) (fun hc=>rfl) (fun hc=>by rw [List.append_nil];exact p5 _ zt (hzt rfl)) (fun zr hzr => ?_)
    refine aU rfl (cr 2 (j+5*((2*k+3*j) % 5)) el300 rfl rfl rfl (by omega) (by rw [List.length_map];omega)) ?_
    refine LF rfl (dO 2 (j+5*((2*k+3*j) % 5)) 0 tk301 rfl rfl rfl (aK hz3) rfl (.v rfl .nil) rfl (by decide) (aHK ?_))
    refine bj (bp (aj ?_))
    refine iK 2 (aO _ _ 1 ((bl.set (j+5*((2*k+3*j) % 5)) zr).map gB)) rfl (fun _ _ _ h=>by rw [List.map_set];exact h) ?_
    refine aa (aM rfl (aU rfl (aX rfl rfl (by omega)) (aA rfl (aNn ?_))))
    refine ⟨[0,1,5,7,8,9],[],[0,1,2],rfl,?_⟩
    exact ⟨j+1,⟨by omega,bl.set _ zr,by rw [List.length_set];exact hbl,rfl⟩,by omega⟩
   ·skip
    refine aT (aW (aW (aY (bp (aj (aa (aM rfl (aU rfl (aX rfl rfl (by omega)) (aA rfl (aNn ?_))))))))))
    refine ⟨[0,1,5,7,8],[],[0,1,2],rfl,?_⟩
    exact ⟨k+1,⟨by omega,bl,hbl,rfl⟩,by omega⟩
  ·skip
   refine aT (aW (aW (aY (aj (aSR (aA rfl (aNs (ah (cW 301 1 ?_)))))))))
   show awp _ _ _ _ ⟨_,_,[_,_,_,_]⟩
   refine aa (aA rfl (aNn (aq (aQ [1,7,11,12] [] [2,3] (fun (q:Nat) st=>q≤5∧∃ (vo:Value) (ol:List Int),ol.length=5*q∧st=⟨[(1,true,.int .u64 c0),(7,true,.slice v6_0 25 25),(11,true,vo),(12,true,.int .i64 q)],[],[aO (.slice v6_0 25 25) 301 1 (bl.map gB),aO vo 301 1 (ol.map gB)]⟩) (fun q=>5-q) rfl (⟨0,Nat.zero_le _,_,[],rfl,rfl⟩) ?_))))
   rintro k st ⟨hk,vo,ol,hol,rfl⟩
   refine ah (aSR (aM rfl (aU rfl (bu rfl rfl) (aNn ?_))))
   refine ao _ rfl (fun h4 => ?_) (fun h4 => ?_)
   ·skip
    have hk':k<5:=by simp at h4;omega
    refine ar (aj (ah (aq (aSR (aA rfl (bj (aj (aq (aQ [1,7,11,12,13] [] [0,1] (fun (q:Nat) st=>q≤5∧∃ (vo:Value) (ol:List Int),ol.length=5*k+q∧st=⟨[(1,true,.int .u64 c0),(7,true,.slice v6_0 25 25),(11,true,vo),(12,true,.int .i64 k),(13,true,.int .i64 q)],[],[aO (.slice v6_0 25 25) 301 1 (bl.map gB),aO vo 301 1 (ol.map gB)]⟩) (fun q=>5-q) rfl (⟨0,Nat.zero_le _,vo,ol,hol,rfl⟩) ?_)))))))))
    clear hol
    rintro j st ⟨hj,vo,ol,hol,rfl⟩
    refine ah (aSR (aM rfl (aU rfl (bu rfl rfl) (aNn ?_))))
    refine ao _ rfl (fun h5 => ?_) (fun h5 => ?_)
    ·skip
     have hj':j<5:=by simp at h5;omega
     obtain ⟨z0,hz0⟩:∃ z,bl[(j+1) % 5+5*k]? = some z:=⟨_,List.getElem?_eq_getElem (by omega)⟩
     obtain ⟨z1,hz1⟩:∃ z,bl[j+5*k]? = some z:=⟨_,List.getElem?_eq_getElem (by omega)⟩
     obtain ⟨z2,hz2⟩:∃ z,bl[(j+2) % 5+5*k]? = some z:=⟨_,List.getElem?_eq_getElem (by omega)⟩
     refine ar (aj (ah (aq (aSR (aM rfl (aM rfl (aU rfl (aX rfl rfl (by omega)) (aU rfl ((gZ rfl rfl (by decide)).castV (v':=.int .i64 ((j+1) % 5:Nat)) (congrArg (Value.int .i64) (ab1 (by omega)))) (aM rfl (aU rfl (gM rfl rfl (by omega)) (aU rfl (aX rfl rfl (by omega)) ?_)))))))))))
     refine aU rfl (cr 0 ((j+1) % 5+5*k) el300 rfl rfl rfl (by omega) (by rw [List.length_map];omega)) ?_
     refine aU rfl (bN 0 ((j+1) % 5+5*k) 0 tk301 rfl rfl (aK hz0) rfl rfl) (aU rfl (ym rfl rfl) (aA rfl (aNn (DR [21] 23 (VM 0 rfl rfl (VM 1 rfl rfl (VM 2 rfl rfl (VM 3 rfl rfl (bV 4 rfl rfl (gM rfl rfl (by omega)) (bV 5 rfl rfl (aX rfl rfl (by omega)) ?_))))))))))
     refine bV 6 rfl rfl (cr 0 (j+5*k) el300 rfl rfl rfl (by omega) (by rw [List.length_map];omega)) ?_
     refine bV 7 rfl rfl (bN 0 (j+5*k) 0 tk301 rfl rfl (aK hz1) rfl rfl) (VM 8 rfl rfl (VM 9 rfl rfl (VM 10 rfl rfl (bV 11 rfl rfl (aX rfl rfl (by omega)) (bV 12 rfl rfl ((gZ rfl rfl (by decide)).castV (v':=.int .i64 ((j+2) % 5:Nat)) (congrArg (Value.int .i64) (ab1 (by omega)))) (VM 13 rfl rfl (bV 14 rfl rfl (gM rfl rfl (by omega)) (bV 15 rfl rfl (aX rfl rfl (by omega)) ?_))))))))
     refine bV 16 rfl rfl (cr 0 ((j+2) % 5+5*k) el300 rfl rfl rfl (by omega) (by rw [List.length_map];omega)) ?_
     refine bV 17 rfl rfl (bN 0 ((j+2) % 5+5*k) 0 tk301 rfl rfl (aK hz2) rfl rfl) (bV 18 rfl rfl (abC rfl rfl) (bV 19 rfl rfl (kD rfl rfl) (fx (q:=true) 20 rfl (by kernel_rfl) rfl rfl (WL (zs:=[.int .u64 0]) el300 rfl rfl rfl (.more rfl (.v rfl .nil) .nil) rfl rfl (fun v23_20=>(bST rfl ?_))))))
     refine fx 21 rfl (by kernel_rfl) rfl rfl (cj 1 el300 rfl rfl rfl rfl (cY 2 el300 rfl (by simp)) (by first | assumption | simp) (by rw [List.length_map];show ol.length+1≤_;omega) ((5*k+j+1)) (by rw [List.length_map,hol];rfl) (fun v23_21 c23_21 => ?_))
     refine bST rfl ?_
     refine bV 22 rfl rfl (bE rfl) (BN (bp (aj (aa (aM rfl (aU rfl (aX rfl rfl (by omega)) (aA rfl (aNn ?_))))))))
     refine ⟨[1,7,11,12,13],[],[0,1],rfl,?_⟩
     refine ⟨j+1,⟨by omega,?_⟩,by omega⟩
     exact ⟨_,ol++[_],by rw [List.length_append,hol];rfl,by rw [List.map_append];rfl⟩
    ·skip
     have hj5:j=5:=by simp at h5;omega
     subst hj5
     refine aT (aW (aW (aY (bp (aj (aa (aM rfl (aU rfl (aX rfl rfl (by omega)) (aA rfl (aNn ?_))))))))))
     refine ⟨[1,7,11,12],[],[0,1],rfl,?_⟩
     exact ⟨k+1,⟨by omega,vo,ol,by omega,rfl⟩,by omega⟩
   ·skip
    have hk5:k=5:=by simp at h4;omega
    subst hk5
    obtain ⟨z0,hz0⟩:∃ z,ol[0]? = some z:=⟨_,List.getElem?_eq_getElem (by omega)⟩
    refine aT (aW (aW (aY (aj (aSR (aM rfl (aM rfl ?_)))))))
    refine aU rfl (cr 1 0 el300 rfl rfl rfl rfl (by rw [List.length_map];omega)) ?_
    refine aU rfl (bN 1 0 0 tk301 rfl rfl (aK hz0) rfl rfl) (aM rfl (aU rfl (kD rfl rfl) ?_))
    refine aU rfl (cr 1 0 el300 rfl rfl rfl rfl (by rw [List.length_map];omega)) ?_
    refine LF rfl (dO 1 0 0 tk301 rfl rfl rfl (aK hz0) rfl (.v rfl .nil) rfl (by decide) (aHK ?_))
    refine aNs ?_
    refine kO 1 (fun x : {l:List Int // l.length=25} => aO vo 301 1 (x.1.map gB)) rfl (fun w S F h=>⟨⟨ol.set 0 _,by rw [List.length_set];exact hol⟩,by rw [List.map_set];exact h⟩) (fun ⟨l',hl'⟩ => ?_)
    refine aa (aM rfl (aA rfl (aNn (ax (FZ1 [1] Tryz.results208 rfl ?_)))))
    exact ⟨rfl,l',hl',rfl⟩
theorem ac5(n:Nat):((n:Int)).tmod 136=((n % 136:Nat):Int):=rfl
theorem zd(s:ByteArray)(hs:s.size≤1000000):Con Tryz.prog 98 [.string s] [] [] (YN Value.string fun t=>t.size=32):=by
 obtain ⟨M,hM⟩:∃ M,M=(s.size+136) / 136*136:=⟨_,rfl⟩
 refine EN1 Tryz.func98 rfl (aSR (aA rfl (aNn (aSR (aM rfl (LT rfl (uX Tryz.underlying9 Tryz.underlying89 Tryz.underlying5 (by omega) rfl rfl (fun vb=>(aHN ?_)))))))))
 refine LT rfl (WL (zs:=[.int .u8 0]) el89 rfl rfl rfl (.more rfl (.v rfl .nil) .nil) rfl rfl (fun v1_2=>(aHN ?_)))
 refine LF rfl (rR (u:=6) 0 1 el89 el89 (by kernel_rfl) rfl rfl rfl rfl rfl (by omega) (fun vb2=>(aHK ?_)))
 refine aA rfl (aNs (aq (aQ [3] [] [0] (fun (q:Nat) st=>(q≤M∧1≤q)∧∃ v,st=⟨[(3,true,v)],[],[ByV v q]⟩) (fun q=>M-q) rfl (⟨s.size+1,⟨by omega,by omega⟩,_,rfl⟩) ?_)))
 rintro q st ⟨⟨hqM,hq1⟩,v,rfl⟩
 refine ah (aSR (aM rfl (aU rfl (tw 0 Tryz.underlying89 rfl rfl) (aU rfl (gZ rfl rfl (by decide)) (aU rfl (ft rfl rfl) (aNn ?_))))))
 refine ao _ rfl (fun h1 => ?_) (fun h1 => ?_)
 ·skip
  have hq:q % 136≠0:=by rw [ac5] at h1;simp at h1;omega
  refine ar (aj (aq (aa (aM rfl (LT rfl (WL (zs:=[.int .u8 0]) el89 rfl rfl rfl (.more rfl (.v rfl .nil) .nil) rfl rfl (fun v3_1=>(aHN ?_))))))))
  refine LF rfl (rR (u:=0) 0 1 el89 el89 (by kernel_rfl) rfl rfl rfl rfl rfl (by omega) (fun vb3=>(aHK ?_)))
  refine aA rfl (bj (bp (aj ?_)))
  refine ⟨[3],[],[0],rfl,?_⟩
  exact ⟨q+1,⟨⟨by omega,by omega⟩,vb3,rfl⟩,by omega⟩
 ·skip
  have hq:q % 136=0:=by rw [ac5] at h1;simp at h1;omega
  refine aT (aW (aW (aY (aj (aSR (aM rfl (aM rfl (aU rfl (tw 0 Tryz.underlying89 rfl rfl) (aU rfl (dp rfl rfl (by omega)) (aM rfl (aM rfl (aU rfl (tw 0 Tryz.underlying89 rfl rfl) (aU rfl (dp rfl rfl (by omega)) (aU rfl (yg 0 (q-1) el89 rfl rfl rfl (by omega) (by omega)) ?_))))))))))))))
  refine iJ true rfl rfl (fun _=>abF 0 tk5 rfl rfl (by omega)) (fun h=>absurd h (by decide)) (fun u => ?_)
  obtain ⟨u2,hu2⟩:=yy ((u.toNat:Int)+128)
  refine aU rfl ((qD rfl rfl).castV (v':=.int .u8 u2.toNat) (congrArg (Value.int .u8) hu2)) (aU rfl (yg 0 (q-1) el89 rfl rfl rfl (by omega) (by omega)) (LF rfl (aaY 0 tk5 rfl rfl rfl (by omega) (aNn (aSR (LT rfl (ig (m:=25) (zs:=[.int .u64 0]) el300 (by kernel_rfl) rfl (by decide) (ed rfl (rfl)) (ed rfl (rfl)) (by omega) rfl (fun v5_0=>(aHN ?_)))))))))
  refine aA rfl (aNs (ah ?_))
  refine iK 1 (aO _ _ 1 ((List.replicate 25 (0:Int)).map gB)) rfl (fun _ _ _ h=>by rw [List.map_replicate];exact h) ?_
  refine vZ 0 rfl (aa (aA rfl (aNn (aq (aQ [3,4,5] [1] [1] (fun (p:Nat) st=>136*p≤q∧∃ (va:Value) (al:List Int),al.length=25∧st=⟨[(3,true,v),(4,true,va),(5,true,.int .i64 (136*p:Nat))],[ByF v q],[aO va 301 1 (al.map gB)]⟩) (fun p=>q-p) rfl (⟨0,Nat.zero_le _,_,List.replicate 25 0,List.length_replicate,rfl⟩) ?_)))))
  rintro p st ⟨hp0,va,al,hal,rfl⟩
  refine ah (aSR (aM rfl (aM rfl (aU rfl (adD (aI 0 rfl) Tryz.underlying89 rfl) (aU rfl (bu rfl rfl) (aNn ?_))))))
  refine ao _ rfl (fun h2 => ?_) (fun h2 => ?_)
  ·skip
   have hpq:136*p<q:=by simp at h2;omega
   have hpq2:136*p+136≤q:=by omega
   refine ar (aj (ah (aq (ah (aSR (aA rfl (aNn (aq (aQ [3,4,5,6] [0] [0] (fun (i:Nat) st=>i≤17∧∃ (al:List Int),al.length=25∧st=⟨[(3,true,v),(4,true,va),(5,true,.int .i64 (136*p:Nat)),(6,true,.int .i64 i)],[ByF v q],[aO va 301 1 (al.map gB)]⟩) (fun i=>17-i) rfl (⟨0,Nat.zero_le _,al,hal,rfl⟩) ?_)))))))))
   clear hal
   rintro i st ⟨hi,al,hal,rfl⟩
   refine ah (aSR (aM rfl (aU rfl (bu rfl rfl) (aNn ?_))))
   refine ao _ rfl (fun h3 => ?_) (fun h3 => ?_)
   ·skip
    have hi':i<17:=by simp at h3;omega
    obtain ⟨z0,hz0⟩:∃ z,al[i]? = some z:=⟨_,List.getElem?_eq_getElem (by omega)⟩
    refine ar (aj (ah (aq (DR [14] 15 (VM 0 rfl rfl (VM 1 rfl rfl (VM 2 rfl rfl (VM 3 rfl rfl ?_))))))))
    refine bV 4 rfl rfl (cr 0 i el300 rfl rfl rfl rfl (by rw [List.length_map];omega)) ?_
    refine bV 5 rfl rfl (bN 0 i 0 tk301 rfl rfl (aK hz0) rfl rfl) (VM 6 rfl rfl (VM 7 rfl rfl (VM 8 rfl rfl (bV 9 rfl rfl (gM rfl rfl (by omega)) (bV 10 rfl rfl ((aX rfl rfl (by omega)).castV (v':=.int .i64 (136*p+8*i:Nat)) (congrArg (Value.int .i64) (by omega))) ?_)))))
    refine tT (caps:=[]) 11 rfl (by kernel_rfl) [0] ((0:Int)) (by kernel_rfl) true rfl rfl (fun _=>rfl) (fun hc=>rfl) (fun hc=>by rw [List.append_nil];exact wH v q (136*p+8*i) (by omega) (by omega)) (fun zl hzl => ?_)
    refine bV 12 rfl rfl (kD rfl rfl) ?_
    refine bV 13 rfl rfl (cr 0 i el300 rfl rfl rfl rfl (by rw [List.length_map];omega)) ?_
    refine VE 14 rfl rfl (dO 0 i 0 tk301 rfl rfl rfl (aK hz0) rfl (.v rfl .nil) rfl (by decide) (bST rfl ?_))
    refine BN (bp (aj ?_))
    refine kO 0 (fun x : {l:List Int // l.length=25} => aO va 301 1 (x.1.map gB)) rfl (fun w S F h=>⟨⟨al.set i _,by rw [List.length_set];exact hal⟩,by rw [List.map_set];exact h⟩) (fun ⟨al2,hal2⟩ => ?_)
    refine aa (aM rfl (aU rfl (aX rfl rfl (by omega)) (aA rfl (aNn ?_))))
    refine ⟨[3,4,5,6],[0],[0],rfl,?_⟩
    exact ⟨i+1,⟨by omega,al2,hal2,rfl⟩,by omega⟩
   ·skip
    refine aT (aW (aW (aY (aj (aSR (aA rfl (aNn (aq (aQ [3,4,5,7] [0] [0] (fun (i:Nat) st=>i≤24∧∃ (va:Value) (al:List Int),al.length=25∧st=⟨[(3,true,v),(4,true,va),(5,true,.int .i64 (136*p:Nat)),(7,true,.int .i64 i)],[ByF v q],[aO va 301 1 (al.map gB)]⟩) (fun i=>24-i) rfl (⟨0,Nat.zero_le _,va,al,hal,rfl⟩) ?_)))))))))
    clear hal
    rintro j st ⟨hj,va,al,hal,rfl⟩
    refine ah (aSR (aM rfl (aU rfl (bu rfl rfl) (aNn ?_))))
    refine ao _ rfl (fun h4 => ?_) (fun h4 => ?_)
    ·skip
     have hj':j<24:=by simp at h4;omega
     refine ar (aj (ah (aq (aa (aM rfl (aM rfl ?_))))))
     refine gm (caps:=[]) [] ((0:Int)) (by kernel_rfl) true rfl rfl (fun _=>rfl) (fun hc=>rfl) (fun hc=>by rw [List.append_nil];exact uM j hj') (fun zc hzc => ?_)
     refine LF rfl (EC [] [0] rfl (uN va al hal zc) ?_)
     rintro r2 _ _ ⟨rfl,al2,hal2,rfl⟩
     refine aST ?_
     refine aA rfl (bj (bp (aj (aa (aM rfl (aU rfl (aX rfl rfl (by omega)) (aA rfl (aNn ?_))))))))
     refine ⟨[3,4,5,7],[0],[0],rfl,?_⟩
     exact ⟨j+1,⟨by omega,r2,al2,hal2,rfl⟩,by omega⟩
    ·skip
     refine aT (aW (aW (aY (bp (aj (aa (aM rfl (aU rfl (aX rfl rfl (by omega)) (aA rfl (aNn ?_))))))))))
     refine ⟨[3,4,5],[0],[0],rfl,?_⟩
     refine ⟨p+1,⟨by omega,va,al,hal,?_⟩,by omega⟩
     rw [show ((136*(p+1):Nat):Int)=((136*p:Nat):Int)+136 by omega]
     rfl
  ·skip
   refine aT (aW (aW (aY (aj (aSR (aA rfl (aNs (ah (cW 5 1 ?_)))))))))
   show awp _ _ _ _ ⟨_,_,[_,_]⟩
   refine aa (aA rfl (aNn (aq (aQ [4,8,9] [] [0,1] (fun (i:Nat) st=>i≤4∧∃ (vo:Value) (ol:List UInt8),ol.length=8*i∧st=⟨[(4,true,va),(8,true,vo),(9,true,.int .i64 i)],[],[aO va 301 1 (al.map gB),aO vo 5 1 (ol.map du)]⟩) (fun i=>4-i) rfl (⟨0,Nat.zero_le _,_,[],rfl,rfl⟩) ?_))))
   rintro i st ⟨hi,vo,ol,hol,rfl⟩
   refine ah (aSR (aM rfl (aU rfl (bu rfl rfl) (aNn ?_))))
   refine ao _ rfl (fun h5 => ?_) (fun h5 => ?_)
   ·skip
    have hi':i<4:=by simp at h5;omega
    obtain ⟨z0,hz0⟩:∃ z,al[i]? = some z:=⟨_,List.getElem?_eq_getElem (by omega)⟩
    refine ar (aj (ah (aq (aSR (aM rfl (aM rfl ?_))))))
    refine aU rfl (cr 0 i el300 rfl rfl rfl rfl (by rw [List.length_map];omega)) ?_
    refine aU rfl (bN 0 i 0 tk301 rfl rfl (aK hz0) rfl rfl) (aA rfl (aNn (aSR (aA rfl (bj (aj (aq (aQ [4,8,9,10,11] [] [0,1] (fun (k:Nat) st=>k≤8∧∃ (x:Int) (vo:Value) (ol:List UInt8),ol.length=8*i+k∧st=⟨[(4,true,va),(8,true,vo),(9,true,.int .i64 i),(10,true,.int .u64 x),(11,true,.int .i64 k)],[],[aO va 301 1 (al.map gB),aO vo 5 1 (ol.map du)]⟩) (fun k=>8-k) rfl (⟨0,Nat.zero_le _,z0,vo,ol,hol,rfl⟩) ?_))))))))
    clear hol
    rintro k st ⟨hk,x,vo,ol,hol,rfl⟩
    refine ah (aSR (aM rfl (aU rfl (bu rfl rfl) (aNn ?_))))
    refine ao _ rfl (fun h6 => ?_) (fun h6 => ?_)
    ·skip
     have hk':k<8:=by simp at h6;omega
     obtain ⟨u3,hu3⟩:=yy (x.tmod 256)
     refine ar (aj (ah (aq (aSR (aM rfl (aM rfl (aU rfl (gZ rfl rfl (by decide)) (aU rfl ((dm (by kernel_rfl) Tryz.underlying5 rfl).castV (v':=.int .u8 u3.toNat) (congrArg (Value.int .u8) hu3)) (LT rfl (WL (zs:=[.int .u8 0]) el89 rfl rfl rfl (.more rfl (.v rfl .nil) .nil) rfl rfl (fun v25_4=>(aHN ?_))))))))))))
     refine aD rfl (cj 1 el89 rfl rfl rfl rfl (cY 2 el89 rfl (by simp)) (by first | assumption | simp) (by rw [List.length_map];show ol.length+1≤_;omega) ((8*i+k+1)) (by rw [List.length_map,hol];rfl) (fun v25_5 c25_5 => ?_))
     refine aHK ?_
     refine aA rfl (aNn (aa (aM rfl (aU rfl (qF rfl rfl (by decide)) (aA rfl (bj (bp (aj (aa (aM rfl (aU rfl (aX rfl rfl (by omega)) (aA rfl (aNn ?_)))))))))))))
     refine ⟨[4,8,9,10,11],[],[0,1],rfl,?_⟩
     refine ⟨k+1,⟨by omega,?_⟩,by omega⟩
     exact ⟨_,_,ol++[u3],by rw [List.length_append,hol];rfl,by rw [List.map_append];rfl⟩
    ·skip
     have hk8:k=8:=by simp at h6;omega
     subst hk8
     refine aT (aW (aW (aY (bp (aj (aa (aM rfl (aU rfl (aX rfl rfl (by omega)) (aA rfl (aNn ?_))))))))))
     refine ⟨[4,8,9],[],[0,1],rfl,?_⟩
     exact ⟨i+1,⟨by omega,vo,ol,by omega,rfl⟩,by omega⟩
   ·skip
    have hi4:i=4:=by simp at h5;omega
    subst hi4
    refine aT (aW (aW (aY (aj (ah ?_)))))
    refine jq 1 rfl (by intro h;rw [List.map_eq_nil_iff] at h;rw [h] at hol;cases hol) (fun B cp hv hcp => ?_)
    subst hv
    refine aa (aM rfl ?_)
    refine aU rfl (j6 1 ol Tryz.underlying89 Tryz.underlying5 Tryz.underlying9 rfl rfl rfl (by intro h;rw [h] at hol;cases hol)) ?_
    refine aA rfl (aNn (ax (FZ1 [] Tryz.results98 rfl ?_)))
    exact ⟨⟨rfl,rfl⟩,_,rfl,hol⟩
end Go.Proofs.YtfkcmbonmpcbfaaGreat

namespace Go.Sy
open Go.RowKit Go.Lp
theorem Ent.nl{α:Type}{ps:List Per}{row:α→List D} : Ent ps (ShF row ⟨none,0,[]⟩):=fun _ _ _=>.e none 0 (Nat.zero_le _)
theorem Ent.a0{α:Type}{ps:List Per}{f:α→Per} : Ent ps (bz f []):=fun _ _ _ _ h=>by cases h
theorem Ent.a1{α:Type}{ps:List Per}{f:α→Per}{x:α}{l:List α}(h:Ent ps (f x))(hl:Ent ps (bz f l)):Ent ps (bz f (x::l)):=fun w S hp y hy=>(List.mem_cons.1 hy).elim (fun e=>by rw [e];exact h w S hp) (hl w S hp y)
end Go.Sy
namespace Go.Proofs.YtfkcmbonmpcbfaaGreat
open Go.RowKit Go.Lp Go.Sy Go.Lv
open Go.Proofs.Tryz
attribute [local irreducible] aL aB awp aC fwp Quiet
def vu(d:ByteArray):ba:=⟨⟨#[97]⟩,⟨#[116,101,120,116]⟩,0,16,8,d,.empty⟩
def vv(d:ByteArray):ba:=⟨⟨#[97]⟩,⟨#[100,97,116,97]⟩,1,272,16,d,.empty⟩
def plI:bK := { name:=⟨#[102]⟩,version:=.empty,kind:=0,weak:=false,own:=false }
def aet:fb := { at_:=256,kind:=3,import_:=0,add:=0 }
def aeu:fb := { at_:=272,kind:=0,import_ := -1,add:=16 }
def plX:bA := { name:=⟨#[109,97,105,110]⟩,version:=.empty,main:=false,kind:=0,at_:=16,size:=8 }
def nlS{α:Type} : Sl α:=⟨none,0,[]⟩
def dh(d:ByteArray)(a0 a1 a2 a3 a4:Option Addr):az where
 name:=⟨#[120]⟩
 lib:=false
 code:=256
 data:=512
 zero:=768
 bytes:=bytesOf (zsB 512)
 tls:=.empty
 block:=0
 nodes:=⟨a0,2,[vu d,vv d]⟩
 exports:=⟨a4,1,[plX]⟩
 imports:=⟨a1,1,[plI]⟩
 slots:=⟨a2,1,[256]⟩
 stubs:=nlS
 dyns:=⟨a3,2,[aet,aeu]⟩
 inits:=nlS
 lasts:=nlS
 entry:=16
 needs:=nlS
 versions:=nlS
 info:=⟨nlS,nlS,nlS,nlS,nlS,nlS⟩
 changes:=nlS
def plC(b:ByteArray):List Value:=[.string ⟨#[120]⟩,.bool false,.int .i64 256,.int .i64 512,.int .i64 768,.string b,.string .empty,.int .i64 0,.slice none 0 0,.slice none 0 0,.slice none 0 0,.slice none 0 0,.slice none 0 0,.slice none 0 0,.slice none 0 0,.slice none 0 0,.int .i64 16,.slice none 0 0,.slice none 0 0,.slice none 0 0,.slice none 0 0,.slice none 0 0,.slice none 0 0,.slice none 0 0,.slice none 0 0,.slice none 0 0]
def zC:List Value:=ZI
theorem uJ:Con Tryz.prog 38 [] [] [] fun r ps hp=>hp=[]∧∃ (d:ByteArray) (a0 a1 a2 a3 a4:Option Addr),d.size=32∧ps=[(dh d a0 a1 a2 a3 a4).ok]∧r=(dh d a0 a1 a2 a3 a4).val:=by
 refine Con.enter Tryz.func38 rfl (by simp [Tryz.ntmps38]) ?_
 show awp _ _ _ _ ⟨[],_,_⟩
 refine aSR (LT rfl (bk (zs:=ZI) (by kernel_rfl) rfl (fun b0_0=>(aHN ?_))))
 refine aNn (aSR ?_)
 refine gm (caps:=[]) [] ((.empty:ByteArray)) (by kernel_rfl) true rfl rfl (fun _=>rfl) (fun hc=>rfl) (fun hc=>by rw [List.append_nil];exact zd .empty (by decide)) (fun d hd => ?_)
 refine aA rfl (aNn (aSR (aU rfl (eb (l:=[(0,.const (.string ⟨#[120]⟩)),(2,.const (.int .i64 256)),(3,.const (.int .i64 512)),(4,.const (.int .i64 768)),(16,.const (.int .i64 16))]) (zs:=ZI) (pl:=[(0,1),(1,1),(2,1),(3,1),(4,1),(5,1),(6,1),(7,1),(8,1),(9,1),(10,1),(11,1),(12,1),(13,1),(14,1),(15,1),(16,1),(17,1),(18,1),(19,6),(25,1)]) (by kernel_rfl) (by kernel_rfl) (by kernel_rfl) rfl rfl rfl) (LT rfl (bk (zs:=ZI) (by kernel_rfl) rfl (fun b2_1=>(aHN ?_)))))))
 refine aD rfl (aF 1 tk40 rfl rfl rfl rfl (aHK ?_))
 refine aNs (aSR (aA rfl (aNn (aq (aQ [0,1,2,3] [] [0,1] (fun (k:Nat) st=>k≤512∧st=⟨[(0,true,.pointer (some ⟨b0_0,0,none⟩)),(1,true,.string d),(2,true,.pointer (some ⟨b2_1,0,none⟩)),(3,true,.int .i64 k)],[],[Box b0_0 40 zC,Box b2_1 40 (plC (bytesOf (zsB k)))]⟩) (fun k=>512-k) rfl (⟨0,Nat.zero_le _,rfl⟩) ?_)))))
 rintro k st ⟨hk,rfl⟩
 refine ah (aSR (aM rfl (aU rfl (bu rfl rfl) (aNn ?_))))
 refine ao _ rfl (fun h1 => ?_) (fun h1 => ?_)
 ·skip
  have hk':k<512:=by simp at h1;omega
  have hz:(bytesOf (zsB k))++(⟨#[0]⟩:ByteArray)=bytesOf (zsB (k+1)):=by
    rw [show zsB (k+1)=zsB k++[0] from List.replicate_succ',eD];rfl
  refine ar (aj (ah (aq (aa (UO 5 rfl rfl (UL 1 tk9 rfl rfl rfl rfl ?_))))))
  refine aU rfl ((kE rfl rfl (by show (zsB k).length+1≤_;rw [List.length_replicate];exact Nat.le_trans (show k+1≤512 by omega) (by decide))).castV (v':=.string (bytesOf (zsB (k+1)))) (congrArg Value.string hz)) ?_
  refine UO 5 rfl rfl (aD rfl (aF 1 tk9 rfl rfl rfl rfl (aHK ?_)))
  refine bj (bp (aj (aa (aM rfl (aU rfl (aX rfl rfl (by omega)) (aA rfl (aNn ?_)))))))
  refine ⟨[0,1,2,3],[],[0,1],rfl,?_⟩
  exact ⟨k+1,⟨hk',rfl⟩,by omega⟩
 ·skip
  have hke:k=512:=by simp at h1;omega
  subst hke
  refine aT (aW (aW (aY (aj (aSR (aM rfl (aU rfl (eb (l:=[(0,.const (.string ⟨#[97]⟩)),(1,.const (.string ⟨#[116,101,120,116]⟩)),(2,.const (.int .i64 0)),(3,.const (.int .i64 16)),(4,.const (.int .i64 8)),(5,.tmp 14)]) (zs:=[.string .empty,.string .empty,.int .i64 0,.int .i64 0,.int .i64 0,.string .empty,.string .empty]) (pl:=[(0,1),(1,1),(2,1),(3,1),(4,1),(5,1),(6,1)]) (by kernel_rfl) (by kernel_rfl) (by kernel_rfl) rfl rfl rfl) (aM rfl (aU rfl (eb (l:=[(0,.const (.string ⟨#[97]⟩)),(1,.const (.string ⟨#[100,97,116,97]⟩)),(2,.const (.int .i64 1)),(3,.const (.int .i64 272)),(4,.const (.int .i64 16)),(5,.tmp 16)]) (zs:=[.string .empty,.string .empty,.int .i64 0,.int .i64 0,.int .i64 0,.string .empty,.string .empty]) (pl:=[(0,1),(1,1),(2,1),(3,1),(4,1),(5,1),(6,1)]) (by kernel_rfl) (by kernel_rfl) (by kernel_rfl) rfl rfl rfl) (LT rfl (WL (zs:=[.string .empty,.string .empty,.int .i64 0,.int .i64 0,.int .i64 0,.string .empty,.string .empty]) el23 rfl rfl rfl (.more rfl (.v rfl (.v rfl (.v rfl (.v rfl (.v rfl (.v rfl (.v rfl .nil))))))) (.more rfl (.v rfl (.v rfl (.v rfl (.v rfl (.v rfl (.v rfl (.v rfl .nil))))))) .nil)) rfl rfl (fun v7_4=>(aHN ?_)))))))))))))
  refine UO 8 rfl rfl (aD rfl (aF 1 tk23 rfl rfl rfl rfl (aHK ?_)))
  refine aNs (cB 2 rfl (aa (aU rfl (eb (l:=[(0,.const (.string ⟨#[102]⟩)),(2,.const (.int .i64 0))]) (zs:=[.string .empty,.string .empty,.int .i64 0,.bool false,.bool false]) (pl:=[(0,1),(1,1),(2,1),(3,1),(4,1)]) (by kernel_rfl) (by kernel_rfl) (by kernel_rfl) rfl rfl rfl) (LT rfl (WL (zs:=[.string .empty,.string .empty,.int .i64 0,.bool false,.bool false]) el25 rfl rfl rfl (.more rfl (.v rfl (.v rfl (.v rfl (.v rfl (.v rfl .nil))))) .nil) rfl rfl (fun v8_1=>(aHN ?_)))))))
  refine UO 10 rfl rfl (aD rfl (aF 1 tk25 rfl rfl rfl rfl (aHK ?_)))
  refine aNs (cB 3 rfl (aa (LT rfl (WL (zs:=[.int .i64 0]) el26 rfl rfl rfl (.more rfl (.v rfl .nil) .nil) rfl rfl (fun v9_0=>(aHN ?_))))))
  refine UO 11 rfl rfl (aD rfl (aF 1 tk26 rfl rfl rfl rfl (aHK ?_)))
  refine aNs (cB 4 rfl (aa (aU rfl (eb (l:=[(0,.const (.int .i64 256)),(1,.const (.int .i64 3))]) (zs:=[.int .i64 0,.int .i64 0,.int .i64 0,.int .i64 0]) (pl:=[(0,1),(1,1),(2,1),(3,1)]) (by kernel_rfl) (by kernel_rfl) (by kernel_rfl) rfl rfl rfl) (aU rfl (eb (l:=[(0,.const (.int .i64 272)),(1,.const (.int .i64 0)),(2,.const (.int .i64 (-1))),(3,.const (.int .i64 16))]) (zs:=[.int .i64 0,.int .i64 0,.int .i64 0,.int .i64 0]) (pl:=[(0,1),(1,1),(2,1),(3,1)]) (by kernel_rfl) (by kernel_rfl) (by kernel_rfl) rfl rfl rfl) (LT rfl (WL (zs:=[.int .i64 0,.int .i64 0,.int .i64 0,.int .i64 0]) el27 rfl rfl rfl (.more rfl (.v rfl (.v rfl (.v rfl (.v rfl .nil)))) (.more rfl (.v rfl (.v rfl (.v rfl (.v rfl .nil)))) .nil)) rfl rfl (fun v10_2=>(aHN ?_))))))))
  refine UO 13 rfl rfl (aD rfl (aF 1 tk27 rfl rfl rfl rfl (aHK ?_)))
  refine aNs (cB 5 rfl (aa (aU rfl (eb (l:=[(0,.const (.string ⟨#[109,97,105,110]⟩)),(3,.const (.int .i64 0)),(4,.const (.int .i64 16)),(5,.const (.int .i64 8))]) (zs:=[.string .empty,.string .empty,.bool false,.int .i64 0,.int .i64 0,.int .i64 0]) (pl:=[(0,1),(1,1),(2,1),(3,1),(4,1),(5,1)]) (by kernel_rfl) (by kernel_rfl) (by kernel_rfl) rfl rfl rfl) (LT rfl (WL (zs:=[.string .empty,.string .empty,.bool false,.int .i64 0,.int .i64 0,.int .i64 0]) el24 rfl rfl rfl (.more rfl (.v rfl (.v rfl (.v rfl (.v rfl (.v rfl (.v rfl .nil)))))) .nil) rfl rfl (fun v11_1=>(aHN ?_)))))))
  refine UO 9 rfl rfl (aD rfl (aF 1 tk24 rfl rfl rfl rfl (aHK ?_)))
  refine aNs (cB 6 rfl ?_)
  have hd32:d.size≤4611686018427387904:=by rw [hd rfl];decide
  have n1:∀ ps,Ent ps (vu d).ok:=fun _=>Ent.mk2 (Ent.str (Nat.le_of_ble_eq_true rfl)) (Ent.mk2 (Ent.str (Nat.le_of_ble_eq_true rfl)) (Ent.mk2 (Ent.str hd32) (Ent.str (Nat.le_of_ble_eq_true rfl))))
  have n2:∀ ps,Ent ps (vv d).ok:=fun _=>Ent.mk2 (Ent.str (Nat.le_of_ble_eq_true rfl)) (Ent.mk2 (Ent.str (Nat.le_of_ble_eq_true rfl)) (Ent.mk2 (Ent.str hd32) (Ent.str (Nat.le_of_ble_eq_true rfl))))
  have hb:(bytesOf (zsB 512)).size≤4611686018427387904:=by show (zsB 512).length≤_;rw [List.length_replicate];decide
  refine aR (dh d v7_4 v8_1 v9_0 v10_2 v11_1).ok (Ent.mk2 (Ent.str (Nat.le_of_ble_eq_true rfl)) (Ent.mk2 (Ent.str hb) (Ent.mk2 (Ent.str (Nat.le_of_ble_eq_true rfl)) (Ent.mk2 (.of (aI 4 rfl)) (Ent.mk2 (.a1 (n1 _) (.a1 (n2 _) .a0)) (Ent.mk2 (.of (aI 0 rfl)) (Ent.mk2 (.a1 (Ent.mk2 (Ent.str (Nat.le_of_ble_eq_true rfl)) (Ent.str (Nat.le_of_ble_eq_true rfl))) .a0) (Ent.mk2 (.of (aI 3 rfl)) (Ent.mk2 (.a1 (Ent.mk2 (Ent.str (Nat.le_of_ble_eq_true rfl)) (Ent.str (Nat.le_of_ble_eq_true rfl))) .a0) (Ent.mk2 (.of (aI 2 rfl)) (Ent.mk2 .nl (Ent.mk2 (.of (aI 1 rfl)) (Ent.mk2 .nl (Ent.mk2 .nl (Ent.mk2 .nl (Ent.mk2 .a0 (Ent.mk2 .nl (Ent.mk2 .a0 (Ent.mk2 (Ent.mk2 .nl (Ent.mk2 .a0 (Ent.mk2 .nl (Ent.mk2 .a0 (Ent.mk2 .nl (Ent.mk2 .nl (Ent.mk2 .a0 (Ent.mk2 .nl (Ent.mk2 .a0 .nl))))))))) (Ent.mk2 .nl .a0)))))))))))))))))))) (aa (UL 1 tk40 rfl rfl rfl rfl (aD rfl (aF 0 tk40 rfl rfl rfl rfl (aHK ?_)))))
  refine aNn (ax ?_)
  refine u6 [5] [] rfl Tryz.results38 (iD 0 tk40 rfl rfl rfl) ?_ (.inr rfl)
  exact ⟨rfl,d,v7_4,v8_1,v9_0,v10_2,v11_1,hd rfl,rfl,rfl⟩
theorem acp{r:List UInt8}{b:Bool}(hb:b=true→r=[]):(b=true→(gq r b).2.2=true)∧((gq r b).2.2=true→(gq r b).2.1=[]):=by
 unfold gq
 cases h:eX 10 r with
 | none=>exact ⟨fun _=>rfl,fun _=>rfl⟩
 | some p =>
   dsimp only
   refine ⟨fun h=>h,fun h1 => ?_⟩
   rw [hb h1] at h;cases h
theorem adM{r t:List UInt8}{b b':Bool}(hr:r.length≤1000000)(hb:b=true→r=[])(h:(iS (.R r b) 0).1=.R t b'):RU ak r b (iS (.R r b) 0).2 t b':=by
 have hs:=acp hb
 have e:=qx r b 0
 rw [e] at h
 obtain ⟨e1,e2⟩:=CS.R.inj h
 refine RU.of hb (by omega) ?_ (fun h=>by rw [← e2];exact hs.1 h) (fun h=>by rw [← e1];exact hs.2 (by rw [e2];exact h))
 show iS (.R r b) 0=_
 rw [e,e1,e2]
theorem oZ{r t:List UInt8}{b b':Bool}(hr:r.length≤1000000)(hb:b=true→r=[])(h:(ka (.R r b) .empty).1=.R t b'):RU an r b (ka (.R r b) .empty).2 t b'∧(ka (.R r b) .empty).2.size≤4611686018427387904:=by
 have hrd:=an.rd r b (by omega)
 obtain ⟨_,_,_,_,hok,_⟩:=hrd
 refine ⟨RU.of hb (by omega) (show ka (.R r b) .empty=_ from Prod.ext h rfl) ?_ ?_,hok⟩
 · intro h1
   have h2:(kH r b).1=.R t b':=h
   rcases jk r b with ⟨t1,n,e1,_,e3,e4⟩ | e1
   · rw [hb h1] at e3;cases e3
   · rw [e1] at h2;exact (CS.R.inj h2).2.symm
 · intro h1
   have h2:(kH r b).1=.R t b':=h
   rcases jk r b with ⟨t1,n,e1,_,e3,e4⟩ | e1
   · rw [e4] at h2
     obtain ⟨_,rfl⟩:=CS.R.inj h2
     rw [hb h1] at e3;cases e3
   · rw [e1] at h2;exact (CS.R.inj h2).1.symm
theorem dZ(b:Nat)(r:List UInt8)(bad:Bool)(hr:r.length≤1000000)(hb:bad=true→r=[]):Con Tryz.prog 47 [.pointer (some ⟨b,0,none⟩)] [] [rdR b r bad] fun v ps hp=>ps=[]∧∃ s t bad',v=.string s∧s.size≤4611686018427387904∧RU an r bad s t bad'∧hp=[rdR b t bad']:=by
 refine EN1 Tryz.func47 rfl (aSR (aA rfl (aNn (aSR (aM rfl (LF rfl (EC [] [0] rfl (p4 b r bad (by omega) .empty) ?_)))))))
 rintro _ _ _ ⟨rfl,t,bad',hq,rfl,rfl⟩
 refine aST ?_
 refine aA rfl (aNn (ax (FZ1 [0] Tryz.results47 rfl ?_)))
 exact ⟨rfl,_,t,bad',rfl,(oZ hr hb hq).2,(oZ hr hb hq).1,rfl⟩
theorem acn(b:Nat)(r:List UInt8)(bad:Bool)(hr:r.length≤1000000)(hb:bad=true→r=[]):Con Tryz.prog 123 [.pointer (some ⟨b,0,none⟩)] [] [rdR b r bad] fun v ps hp=>ps=[]∧∃ s t bad',v=.string s∧s.size≤4611686018427387904∧RU an r bad s t bad'∧hp=[rdR b t bad'] :=
 (p4 b r bad (by omega) .empty).post fun _ _ _ ⟨h1,t,bad',hq,h2,h3⟩=>⟨h1,_,t,bad',h2,(oZ hr hb hq).2,(oZ hr hb hq).1,h3⟩
theorem sX(b:Nat)(r:List UInt8)(bad:Bool)(hr:r.length≤1000000)(hb:bad=true→r=[]):Con Tryz.prog 124 [.pointer (some ⟨b,0,none⟩)] [] [rdR b r bad] fun v ps hp=>ps=[]∧∃ z t bad',v=.int .i64 z∧RU ak r bad z t bad'∧hp=[rdR b t bad'] :=
 (zb b r bad (by omega) 0).post fun _ _ _ ⟨h1,t,bad',hq,h2,h3⟩=>⟨h1,_,t,bad',h2,adM hr hb hq,h3⟩
theorem ct(b:Nat)(r:List UInt8)(bad:Bool)(hr:r.length≤1000000)(hb:bad=true→r=[]):Con Tryz.prog 49 [.pointer (some ⟨b,0,none⟩)] [] [rdR b r bad] fun v ps hp=>ps=[]∧∃ z t bad',v=.int .i64 z∧RU ak r bad z t bad'∧hp=[rdR b t bad']:=by
 refine EN1 Tryz.func49 rfl (aSR (aA rfl (aNn (aSR (aM rfl (LF rfl (EC [] [0] rfl (sX b r bad hr hb) ?_)))))))
 rintro _ _ _ ⟨rfl,z,t,bad',rfl,hq,rfl⟩
 refine aST ?_
 refine aA rfl (aNn (ax (FZ1 [0] Tryz.results49 rfl ?_)))
 exact ⟨rfl,z,t,bad',rfl,hq,rfl⟩
theorem acM{r t:List UInt8}{b b':Bool}{z:Int}(h:RU ak r b z t b'):RU bP r b (!decide (z=0)) t b':=by
 refine ⟨h.le,h.bad,h.stay,fun h0 => ?_⟩
 rcases h.eq h0 with ⟨e1,e2⟩ | ⟨e1,e2⟩
 · refine .inl ⟨e1,?_⟩
   have e3:iS (.R r false) 0=(.R t false,z):=e2
   show ((iS (.R r false) (if false=true then 1 else 0)).1,decide ((iS (.R r false) (if false=true then 1 else 0)).2≠0))=_
   rw [show (if false=true then (1:Int) else 0)=0 from rfl,e3]
   dsimp only
   rw [decide_not]
 · refine .inr ⟨e1,?_⟩
   exact e2
theorem oN(b:Nat)(r:List UInt8)(bad:Bool)(hr:r.length≤1000000)(hb:bad=true→r=[]):Con Tryz.prog 48 [.pointer (some ⟨b,0,none⟩)] [] [rdR b r bad] fun v ps hp=>ps=[]∧∃ z t bad',v=.bool z∧RU bP r bad z t bad'∧hp=[rdR b t bad']:=by
 refine EN1 Tryz.func48 rfl (aSR (aA rfl (aNn (aSR (aM rfl (LF rfl (EC [] [0] rfl (sX b r bad hr hb) ?_)))))))
 rintro _ _ _ ⟨rfl,z,t,bad',rfl,hq,rfl⟩
 refine aST ?_
 refine aU rfl (ft rfl rfl) (aA rfl (aNn (ax (FZ1 [0] Tryz.results48 rfl ?_))))
 exact ⟨rfl,_,t,bad',rfl,acM hq,rfl⟩
theorem jV(b:Nat)(r:List UInt8)(bad:Bool)(hr:r.length≤1000000)(hb:bad=true→r=[]):Con Tryz.prog 53 [.pointer (some ⟨b,0,none⟩)] [] [rdR b r bad] fun v ps hp=>∃ (l:Sl Int) (t:List UInt8) (bad':Bool),v=l.val∧ps=[ShF (fun z=>[.v (.int .i64 z)]) l]∧RU (cA ak) r bad l.l t bad'∧hp=[rdR b t bad']:=by
 obtain ⟨n,hn⟩:∃ n,(eS r bad).2=n:=⟨_,rfl⟩
 have hnm:=ek r bad
 rw [hn] at hnm
 refine EN1 Tryz.func53 rfl (cW 3 1 ?_)
 show awp _ _ _ _ ⟨_,_,[_,_]⟩
 refine aSR (aA rfl (aNn (aSR (aM rfl (LF rfl (EC [] [0] rfl (dP b r bad (by omega)) ?_))))))
 rintro _ _ _ ⟨rfl,t,bad1,hq,rfl,rfl⟩
 refine aST ?_
 have hL:=LU.start (A:=ak) hb (t:=t) (b1:=bad1) (n:=n) (Prod.ext hq hn)
 rw [hn]
 refine aA rfl (aNn (aSR (aA rfl (aNn (ah (aSR (aA rfl (aNn (aq (aQ [0,3,4,5] [] [0,1] (fun (q:Nat × (Option Addr × Nat × List Int) × List UInt8 × Bool) st=>(q.1≤n∧LU ak ((cA ak).one (.R r false) []) bad r.length (n-q.1) q.2.1.2.2 q.2.2.1 q.2.2.2)∧st=⟨[(0,true,.pointer (some ⟨b,0,none⟩)),(3,true,.int .i64 n),(4,true,.slice q.2.1.1 q.2.1.2.2.length q.2.1.2.1),(5,true,.int .i64 q.1)],[],[rdR b q.2.2.1 q.2.2.2,aO (.slice q.2.1.1 q.2.1.2.2.length q.2.1.2.1) 3 1 (q.2.1.2.2.map fun z=>[.v (.int .i64 z)])]⟩) (fun q=>n-q.1) rfl (⟨(0,(none,0,[]),t,bad1),⟨Nat.zero_le _,hL⟩,rfl⟩) ?_))))))))))
 rintro ⟨k,⟨ad,cp,m⟩,r1,bad2⟩ st ⟨⟨hk,hU⟩,rfl⟩
 dsimp only at hk hU ⊢
 refine ah (aSR (aM rfl (aM rfl (aU rfl (bu rfl rfl) (aM rfl (aG rfl rfl (fun hc=>aS rfl) (aG rfl rfl (fun hc=>cD (ae rfl hc)) (aG rfl rfl (fun hc=>qFA (off:=1) (ae rfl hc)) (GL 0 tk4 rfl rfl rfl rfl rfl (aG rfl rfl (fun hc=>cV (ae rfl hc)) (aU rfl (bo rfl rfl (fun h=>gt rfl h)) (aNn ?_))))))))))))
 refine ao _ rfl (fun h1 => ?_) (fun h1 => ?_)
 ·skip
  obtain ⟨hk',hb2⟩:k<n∧bad2=false:=by
    rw [Bool.and_eq_true,decide_eq_true_eq,Bool.not_eq_true'] at h1
    exact ⟨by omega,h1.2⟩
  subst hb2
  have hlen:=hU.len
  have hle1:=hU.le
  rw [if_neg (by decide)] at hlen
  refine ar (aj (ah (aq (aa (aM rfl (aM rfl ?_))))))
  refine LF rfl (EC [] [0] rfl (sX b r1 false (by omega) (fun h=>by cases h)) ?_)
  rintro _ _ _ ⟨rfl,z,r2,bad3,rfl,hz,rfl⟩
  refine aST ?_
  have hU2:=LU.step (R:=r.length) (by omega) (show LU ak _ _ _ (n-(k+1)+1) _ _ _ by rw [show n-(k+1)+1=n-k by omega];exact hU) hz
  refine LT rfl (WL (zs:=[.int .i64 0]) el26 rfl rfl rfl (.more rfl (.v rfl .nil) .nil) rfl rfl (fun v6_3=>(aHN ?_)))
  refine aD rfl (cj 1 el26 rfl rfl rfl rfl (cY 2 el26 rfl (by simp)) (by first | assumption | simp) (by rw [List.length_map];exact Nat.le_trans (show m.length+1≤1000001 by omega) (by decide)) ((m++[z]).length) (by rw [List.length_map,List.length_append];rfl) (fun v6_4 c6_4 => ?_))
  refine aHK ?_
  refine aA rfl (bj (bp (aj (aa (aM rfl (aU rfl (aX rfl rfl (by omega)) (aA rfl (aNn ?_))))))))
  refine ⟨[0,3,4,5],[],[0,1],rfl,?_⟩
  exact ⟨(k+1,(_,_,m++[z]),r2,bad3),⟨⟨hk',hU2⟩,by dsimp only;rw [List.map_append];rfl⟩,by dsimp only;omega⟩
 ·skip
  have hfin:n-k=0∨bad2=true:=by
    rw [Bool.and_eq_false_iff,decide_eq_false_iff_not,Bool.not_eq_false'] at h1
    rcases h1 with h1 | h1
    · exact .inl (by omega)
    · exact .inr h1
  refine aT (aW (aW (aY (aj (ah (aSR (aM rfl (UN rfl rfl (UO 1 rfl rfl (UL 0 tk4 rfl rfl rfl rfl (aNn ?_)))))))))))
  refine ao _ rfl (fun h2 => ?_) (fun h2 => ?_)
  ·skip
   refine aR (ShF (fun z=>[.v (.int .i64 z)]) (⟨none,0,[]⟩:Sl Int)) .nl (aSR (aA rfl (aNn (ax (bB ?_)))))
   refine iX [0] [0] rfl Tryz.results53 rfl ?_ (.inr rfl)
   exact ⟨⟨none,0,[]⟩,r1,bad2,rfl,rfl,hU.done hfin (fun h=>by rw [h] at h2;cases h2),rfl⟩
  ·skip
   refine cB 1 rfl (ar (aj (aSR (aM rfl (aA rfl (bj (aj (ax ?_))))))))
   refine iX [0] [0] rfl Tryz.results53 rfl ?_ (.inr rfl)
   exact ⟨⟨ad,cp,m⟩,r1,bad2,rfl,rfl,hU.done hfin (fun _=>rfl),rfl⟩
theorem oc(b:Nat)(r:List UInt8)(bad:Bool)(hr:r.length≤1000000)(hb:bad=true→r=[]):Con Tryz.prog 55 [.pointer (some ⟨b,0,none⟩)] [] [rdR b r bad] fun v ps hp=>∃ (l:Sl ByteArray) (t:List UInt8) (bad':Bool),v=l.val∧ps=[ShF (fun s=>[.v (.string s)]) l,bz (fun y=>ef y) l.l]∧RU (cA an) r bad l.l t bad'∧hp=[rdR b t bad']:=by
 obtain ⟨n,hn⟩:∃ n,(eS r bad).2=n:=⟨_,rfl⟩
 have hnm:=ek r bad
 rw [hn] at hnm
 refine EN1 Tryz.func55 rfl (cW 9 1 (aR (bz (fun y=>ef y) []) .a0 ?_))
 show awp _ _ _ _ ⟨_,_,[_,_]⟩
 refine aSR (aA rfl (aNn (aSR (aM rfl (LF rfl (EC [] [0] rfl (dP b r bad (by omega)) ?_))))))
 rintro _ _ _ ⟨rfl,t,bad1,hq,rfl,rfl⟩
 refine aST ?_
 have hL:=LU.start (A:=an) hb (t:=t) (b1:=bad1) (n:=n) (Prod.ext hq hn)
 rw [hn]
 refine aA rfl (aNn (aSR (aA rfl (aNn (ah (aSR (aA rfl (aNn (aq (aQ [0,3,4,5] [0] [0,1] (fun (q:Nat × (Option Addr × Nat × List ByteArray) × List UInt8 × Bool) st=>(q.1≤n∧LU an ((cA an).one (.R r false) []) bad r.length (n-q.1) q.2.1.2.2 q.2.2.1 q.2.2.2)∧st=⟨[(0,true,.pointer (some ⟨b,0,none⟩)),(3,true,.int .i64 n),(4,true,.slice q.2.1.1 q.2.1.2.2.length q.2.1.2.1),(5,true,.int .i64 q.1)],[bz (fun y=>ef y) q.2.1.2.2],[rdR b q.2.2.1 q.2.2.2,aO (.slice q.2.1.1 q.2.1.2.2.length q.2.1.2.1) 9 1 (q.2.1.2.2.map fun s=>[.v (.string s)])]⟩) (fun q=>n-q.1) rfl (⟨(0,(none,0,[]),t,bad1),⟨Nat.zero_le _,hL⟩,rfl⟩) ?_))))))))))
 rintro ⟨k,⟨ad,cp,m⟩,r1,bad2⟩ st ⟨⟨hk,hU⟩,rfl⟩
 dsimp only at hk hU ⊢
 refine ah (aSR (aM rfl (aM rfl (aU rfl (bu rfl rfl) (aM rfl (aG rfl rfl (fun hc=>aS rfl) (aG rfl rfl (fun hc=>cD (ae rfl hc)) (aG rfl rfl (fun hc=>qFA (off:=1) (ae rfl hc)) (GL 0 tk4 rfl rfl rfl rfl rfl (aG rfl rfl (fun hc=>cV (ae rfl hc)) (aU rfl (bo rfl rfl (fun h=>gt rfl h)) (aNn ?_))))))))))))
 refine ao _ rfl (fun h1 => ?_) (fun h1 => ?_)
 ·skip
  obtain ⟨hk',hb2⟩:k<n∧bad2=false:=by
    rw [Bool.and_eq_true,decide_eq_true_eq,Bool.not_eq_true'] at h1
    exact ⟨by omega,h1.2⟩
  subst hb2
  have hlen:=hU.len
  have hle1:=hU.le
  rw [if_neg (by decide)] at hlen
  refine ar (aj (ah (aq (aa (aM rfl (aM rfl ?_))))))
  refine LF rfl (EC [] [0] rfl (acn b r1 false (by omega) (fun h=>by cases h)) ?_)
  rintro _ _ _ ⟨rfl,z,r2,bad3,rfl,hzs,hz,rfl⟩
  refine aST ?_
  have hU2:=LU.step (R:=r.length) (by omega) (show LU an _ _ _ (n-(k+1)+1) _ _ _ by rw [show n-(k+1)+1=n-k by omega];exact hU) hz
  refine LT rfl (WL (zs:=[.string .empty]) el28 rfl rfl rfl (.more rfl (.v rfl .nil) .nil) rfl rfl (fun v6_3=>(aHN ?_)))
  refine aD rfl (cj 1 el28 rfl rfl rfl rfl (cY 2 el28 rfl (by simp)) (by first | assumption | simp) (by rw [List.length_map];exact Nat.le_trans (show m.length+1≤1000001 by omega) (by decide)) ((m++[z]).length) (by rw [List.length_map,List.length_append];rfl) (fun v6_4 c6_4 => ?_))
  refine aHK ?_
  refine aA rfl (bj (bp (aj (aR (bz (fun y=>ef y) (m++[z])) (Ent.snoc (.of (aI 0 rfl)) (Ent.str hzs)) (aa (aM rfl (aU rfl (aX rfl rfl (by omega)) (aA rfl (aNn ?_)))))))))
  refine ⟨[0,3,4,5],[1],[0,1],rfl,?_⟩
  exact ⟨(k+1,(_,_,m++[z]),r2,bad3),⟨⟨hk',hU2⟩,by dsimp only;rw [List.map_append];rfl⟩,by dsimp only;omega⟩
 ·skip
  have hfin:n-k=0∨bad2=true:=by
    rw [Bool.and_eq_false_iff,decide_eq_false_iff_not,Bool.not_eq_false'] at h1
    rcases h1 with h1 | h1
    · exact .inl (by omega)
    · exact .inr h1
  refine aT (aW (aW (aY (aj (ah (aSR (aM rfl (UN rfl rfl (UO 1 rfl rfl (UL 0 tk4 rfl rfl rfl rfl (aNn ?_)))))))))))
  refine ao _ rfl (fun h2 => ?_) (fun h2 => ?_)
  ·skip
   refine aR (ShF (fun s=>[.v (.string s)]) (⟨none,0,[]⟩:Sl ByteArray)) .nl (aR (bz (fun y=>ef y) []) .a0 (aSR (aA rfl (aNn (ax (bB ?_))))))
   refine iX [1,2] [0] rfl Tryz.results55 rfl ?_ (.inr rfl)
   exact ⟨⟨none,0,[]⟩,r1,bad2,rfl,rfl,hU.done hfin (fun h=>by rw [h] at h2;cases h2),rfl⟩
  ·skip
   refine cB 1 rfl (ar (aj (aSR (aM rfl (aA rfl (bj (aj (ax ?_))))))))
   refine iX [1,0] [0] rfl Tryz.results55 rfl ?_ (.inr rfl)
   exact ⟨⟨ad,cp,m⟩,r1,bad2,rfl,rfl,hU.done hfin (fun _=>rfl),rfl⟩
end Go.Proofs.YtfkcmbonmpcbfaaGreat

