/- Parts of the proof, in build order. No condition. -/
import Derived.Test.YtebnelfdimiifaaGreatDoorSa30
import Derived.Test.YtebnelfdimiifaaGreatDoorSa05
import Derived.Test.YtebnelfdimiifaaGreatDoorSa07
set_option linter.unusedSimpArgs false
set_option linter.unusedVariables false
set_option maxHeartbeats 1000000
set_option maxRecDepth 20000
namespace Go.Proofs.YtebnelfdimiifaaGreatDoor
open Go.RowKit Go.Lp Go.Sy Go.Lv
open Go.Proofs.Tryz
attribute [local irreducible] aL aB awp aC fwp Quiet
abbrev eB(x:aD):ByteArray:=bytesOf (bN.enc (bA x))
abbrev eS(x:aD):ByteArray:=ofBytes (xB (bN.enc (bA x)))
theorem wb(x:aD)(hx:cY x)(hl:(bN.enc (bA x)).length≤1000000000):Con Tryz.prog 8 [x.val] [x.ok,ff,fh] [] fun r _ _=>r=.string (eS x):=by
 have h63:(bytesOf (bN.enc (bA x))).size≤maxLen:=Nat.le_trans hl (by decide)
 refine EN1 Tryz.func8 rfl (aSR (LT rfl (cx rfl rfl rfl (fun b0_0=>(aHN ?_)))))
 refine aA rfl (aNn (aSR (UL 0 tk39 rfl rfl rfl rfl (aU rfl (Q1 rfl ((fE x hx hl).post (fun _ _ _ h=>h.2.2)) 0 rfl) (aU rfl (QC rfl (fun w S fp hst=>((acN (bytesOf (bN.enc (bA x))) h63).post (fun _ _ _ h=>h.2.2)).quiet2 (aH 1 rfl) (aH 2 rfl) hst)) (aA rfl (aNn (az (FZ1 [] Tryz.results8 rfl ?_)))))))))
 rfl
theorem abb(x:aD)(hx:cY x)(hl:(bN.enc (bA x)).length≤20000):Con Tryz.prog 20 [x.val] [x.ok] [] fun r _ _=>r=.string (eS x):=by
 have hs:(bytesOf (bN.enc (bA x))).size≤1000000:=Nat.le_trans hl (by decide)
 refine EN1 Tryz.func20 rfl (aSR (LT rfl (cx rfl rfl rfl (fun b0_0=>(aHN ?_)))))
 refine aA rfl (aNn (aSR (UL 0 tk39 rfl rfl rfl rfl (aU rfl (Q1 rfl ((j7 x hx (by omega)).post (fun _ _ _ h=>h.2.2)) 0 rfl) (aU rfl (Q0 rfl ((qZ (bytesOf (bN.enc (bA x))) hs).post (fun _ _ _ ⟨_,_,h2,h3⟩=>h2.trans (congrArg Value.string h3)))) (aA rfl (aNn (az (FZ1 [] Tryz.results20 rfl ?_)))))))))
 rfl
abbrev ae8:ByteArray→List D:=fun s=>[.v (.string s)]
def tV(l:List aD)(k i:Nat):Prop:=∃ a b,l[k]? = some a∧l[i]? = some b∧eS a=eS b∧eB a≠eB b
theorem aaQ(s:Sl aD)(hs:s.l.length≤100)(hI:∀ m∈s.l,cY m∧(bN.enc (bA m)).length≤20000):Con Tryz.prog 9 [s.val] [ShF aD.row s,b6 aD.ok s.l] [] (YN Value.bool fun b=>(∃ i k,k<i∧tV s.l k i)→b=true):=by
 refine EN1 Tryz.func9 rfl (bS (.of (aH 0 rfl)) (fun hlen=>(ef 9 1 (ef 9 1 ?_))))
 show awp _ _ _ _ ⟨_,_,[_,_]⟩
 refine aSR (aA rfl (aNn (aSR (aA rfl (aNn (aSR (aA rfl (aNs (aSR (aA rfl (aNn (aq (aP [0,3,4,5] [1,0] [0,1] (fun (q:Nat) st=>(q≤s.l.length∧∀ i k,i<q→k<i→¬ tV s.l k i)∧∃ v1 v2,st=⟨[(0,true,s.val),(3,true,v1),(4,true,v2),(5,true,.int .i64 q)],[ShF aD.row s,b6 aD.ok s.l],[aN v1 9 1 (((s.l.take q).map eB).map ae8),aN v2 9 1 (((s.l.take q).map eS).map ae8)]⟩) (fun q=>s.l.length-q) rfl (⟨0,⟨Nat.zero_le _,fun i _ h=>absurd h (Nat.not_lt_zero i)⟩,_,_,rfl⟩) ?_)))))))))))))
 rintro q st ⟨⟨hq,hno⟩,v1,v2,rfl⟩
 refine ai (aSR (aM rfl (aM rfl (aU rfl (aX Tryz.underlying45 rfl) (aU rfl (bC rfl rfl) (aNn ?_))))))
 refine ao _ rfl (fun h1 => ?_) (fun h1 => ?_)
 ·skip
  have hq':q<s.l.length:=by simpa using h1
  obtain ⟨m,hm⟩:∃ m,s.l[q]? = some m:=⟨_,List.getElem?_eq_getElem hq'⟩
  have hmI:=hI m (List.mem_of_getElem? hm)
  refine aZ m.ok (Ent.all (.of (aH 1 rfl)) hm) ?_
  have htk:s.l.take (q+1)=s.l.take q++[m]:=by rw [List.take_add_one,hm];rfl
  refine ax (an (ai (aq (aSR (aM rfl (aM rfl (aM rfl (UI Tryz.underlying45 tk39 1 rfl rfl rfl rfl rfl (aI hm) rfl rfl (fun ⟨b6_3,o6_3⟩=>(US 0 tk39 0 rfl rfl rfl rfl rfl (aU rfl (Q1 rfl ((j7 m hmI.1 (by omega)).post (fun _ _ _ h=>h.2.2)) 1 rfl) (LT rfl (WL (zs:=[.string .empty]) el27 rfl rfl rfl (.more rfl (.v rfl .nil) .nil) rfl rfl (fun v6_6=>(aHN ?_)))))))))))))))
  refine aW rfl (cK 0 el27 rfl rfl rfl rfl (dW 2 el27 rfl (by simp)) (by first | assumption | simp) (by rw [List.length_map,List.length_map,List.length_take];show min q s.l.length+1≤_;omega) ((q+1)) (by rw [List.length_map,List.length_map,List.length_take,Nat.min_eq_left hq];rfl) (fun v6_7 c6_7 => ?_))
  refine aHK ?_
  refine aA rfl (aNn (aSR (aM rfl (aM rfl (aM rfl (UI Tryz.underlying45 tk39 2 rfl rfl rfl rfl rfl (aI hm) rfl rfl (fun ⟨b7_3,o7_3⟩=>(US 0 tk39 0 rfl rfl rfl rfl rfl (aU rfl (Q1 rfl (abb m hmI.1 hmI.2) 2 rfl) (LT rfl (WL (zs:=[.string .empty]) el27 rfl rfl rfl (.more rfl (.v rfl .nil) .nil) rfl rfl (fun v7_6=>(aHN ?_)))))))))))))
  refine aW rfl (cK 1 el27 rfl rfl rfl rfl (dW 3 el27 rfl (by simp)) (by first | assumption | simp) (by rw [List.length_map,List.length_map,List.length_take];show min q s.l.length+1≤_;omega) ((q+1)) (by rw [List.length_map,List.length_map,List.length_take,Nat.min_eq_left hq];rfl) (fun v7_7 c7_7 => ?_))
  refine aHK ?_
  refine aA rfl (aNn (aSR (aA rfl (aNn (aq ?_)))))
  refine aP [0,3,4,5,6] [2,1,0] [0,1] (fun (j:Nat) st=>(j≤q∧∀ k,k<j→¬ tV s.l k q)∧∃ w1 w2,st=⟨[(0,true,s.val),(3,true,w1),(4,true,w2),(5,true,.int .i64 q),(6,true,.int .i64 j)],[m.ok,ShF aD.row s,b6 aD.ok s.l],[aN w1 9 1 (((s.l.take (q+1)).map eB).map ae8),aN w2 9 1 (((s.l.take (q+1)).map eS).map ae8)]⟩) (fun j=>q-j) rfl (⟨0,⟨Nat.zero_le _,fun k h=>absurd h (Nat.not_lt_zero k)⟩,_,_,by rw [htk,List.map_append,List.map_append,List.map_append,List.map_append];rfl⟩) ?_
  rintro j st ⟨⟨hj,hno2⟩,w1,w2,rfl⟩
  have hql:q<(s.l.take (q+1)).length:=by rw [List.length_take];omega
  refine ai (aSR (aM rfl (aM rfl (aU rfl (bC rfl rfl) (aNn ?_)))))
  refine ao _ rfl (fun h2 => ?_) (fun h2 => ?_)
  ·skip
   have hj':j<q:=by simpa using h2
   obtain ⟨a,ha⟩:∃ a,s.l[j]? = some a:=⟨_,List.getElem?_eq_getElem (by omega)⟩
   have hIj:((s.l.take (q+1)).map eS)[j]? = some (eS a):=by rw [List.getElem?_map,List.getElem?_take_of_lt (by omega),ha];rfl
   have hIq:((s.l.take (q+1)).map eS)[q]? = some (eS m):=by rw [List.getElem?_map,List.getElem?_take_of_lt (by omega),hm];rfl
   have hBj:((s.l.take (q+1)).map eB)[j]? = some (eB a):=by rw [List.getElem?_map,List.getElem?_take_of_lt (by omega),ha];rfl
   have hBq:((s.l.take (q+1)).map eB)[q]? = some (eB m):=by rw [List.getElem?_map,List.getElem?_take_of_lt (by omega),hm];rfl
   refine ax (an (ai (aq (ai (DR [] 20 (VM 0 rfl rfl (VM 1 rfl rfl ?_)))))))
   refine bV 2 rfl rfl (bZ 1 j el27 rfl rfl rfl rfl (by rw [List.length_map,List.length_map];omega)) ?_
   refine bV 3 rfl rfl (bE 1 j 0 tk9 rfl rfl (aI hIj) rfl rfl) (VM 4 rfl rfl (VM 5 rfl rfl ?_))
   refine bV 6 rfl rfl (bZ 1 q el27 rfl rfl rfl rfl (by rw [List.length_map,List.length_map];omega)) ?_
   refine bV 7 rfl rfl (bE 1 q 0 tk9 rfl rfl (aI hIq) rfl rfl) (bV 8 rfl rfl (jm rfl rfl) (VM 9 rfl rfl (bW 10 rfl rfl rfl (fun hc=>aT rfl) (bW 11 rfl rfl rfl (fun hc=>aT rfl) ?_))))
   refine bW 12 rfl rfl rfl (fun hc=>bZ 0 j el27 (ae rfl hc) rfl (ae rfl hc) rfl (by rw [List.length_map,List.length_map];omega)) ?_
   refine bW 13 rfl rfl rfl (fun hc=>bE 0 j 0 tk9 (ae rfl hc) rfl (aI hBj) rfl rfl) (bW 14 rfl rfl rfl (fun hc=>aT rfl) (bW 15 rfl rfl rfl (fun hc=>aT rfl) ?_))
   refine bW 16 rfl rfl rfl (fun hc=>bZ 0 q el27 (ae rfl hc) rfl (ae rfl hc) rfl (by rw [List.length_map,List.length_map];omega)) ?_
   refine bW 17 rfl rfl rfl (fun hc=>bE 0 q 0 tk9 (ae rfl hc) rfl (aI hBq) rfl rfl) (bW 18 rfl rfl rfl (fun hc=>uU (ae rfl hc) (ae rfl hc)) (bV 19 rfl rfl (bB rfl rfl (fun h=>gt rfl h)) (BN (an ?_))))
   refine ao _ rfl (fun h3 => ?_) (fun h3 => ?_)
   ·skip
    refine aSR (aA rfl (aNn (az (cH (bw (bw (cH (cH (bw (bw (cH (bw (FZ1 [] Tryz.results9 rfl ?_)))))))))))))
    exact ⟨⟨rfl,rfl⟩,true,rfl,fun _=>rfl⟩
   ·skip
    have hnc:¬ tV s.l j q:=by
      rintro ⟨a',b',ha',hb',e1,e2⟩
      rw [ha] at ha'
      rw [hm] at hb'
      cases ha'
      cases hb'
      simp only [e1,e2] at h3
      simp at h3
    refine ax (bu (an (aa (aM rfl (aU rfl (aV rfl rfl (by omega)) (aA rfl (aNn ?_)))))))
    refine ⟨[0,3,4,5,6],[2,1,0],[0,1],rfl,?_⟩
    refine ⟨j+1,⟨⟨by omega,fun k hk => ?_⟩,w1,w2,rfl⟩,by omega⟩
    by_cases hkj:k=j
    · subst hkj;exact hnc
    · exact hno2 k (by omega)
  ·skip
   refine aR (aS (aS (aY (bu (an (aa (aM rfl (aU rfl (aV rfl rfl (by omega)) (aA rfl (aNn ?_))))))))))
   refine ⟨[0,3,4,5],[1,0],[0,1],rfl,?_⟩
   have hjq:j=q:=by simp at h2;omega
   subst hjq
   refine ⟨j+1,⟨⟨by omega,fun i k hi hk => ?_⟩,w1,w2,rfl⟩,by omega⟩
   by_cases hij:i=j
   · subst hij;exact hno2 k hk
   · exact hno i k (by omega) hk
 ·skip
  refine aR (aS (aS (aY (an (aSR (aA rfl (aNn (az (FZ1 [] Tryz.results9 rfl ?_)))))))))
  refine ⟨⟨rfl,rfl⟩,false,rfl,fun ⟨i,k,hki,hc⟩=>absurd hc (hno i k ?_ hki)⟩
  obtain ⟨_,b,_,hb,_⟩:=hc
  have:=(List.getElem?_eq_some_iff.1 hb).1
  simp at h1
  omega
theorem yd(ad:Option Addr)(x y:aD)(hx:cY x)(hy:cY y)(hlx:(bN.enc (bA x)).length≤20000)(hly:(bN.enc (bA y)).length≤20000):Con Tryz.prog 9 [.slice ad 2 2] [Sh (.slice ad 2 2) (.sl [x.row,y.row]),x.ok,y.ok] [] (YN Value.bool fun b=>eS x=eS y→eB x≠eB y→b=true) :=
 ((aaQ ⟨ad,2,[x,y]⟩ (by show 2≤100;decide) (fun m hm=>by
   rcases List.mem_cons.1 hm with rfl | hm
   · exact ⟨hx,hlx⟩
   · rw [List.mem_singleton.1 hm];exact ⟨hy,hly⟩)).post (fun _ _ _ ⟨h1,b,h2,h3⟩=>⟨h1,b,h2,fun e1 e2=>h3 ⟨1,0,by decide,x,y,rfl,rfl,e1,e2⟩⟩)).pre (fun p hp=>by
     rcases List.mem_cons.1 hp with rfl | hp
     · exact .of (aH 0 rfl)
     · rw [List.mem_singleton.1 hp];exact .a1 (.of (aH 1 rfl)) (.a1 (.of (aH 2 rfl)) .a0))
theorem aa6(x y:aD)(hx:cY x)(hy:cY y)(hlx:(bN.enc (bA x)).length≤1000000000)(hly:(bN.enc (bA y)).length≤1000000000):Con Tryz.prog 3 [x.val,y.val] [x.ok,y.ok,ff,fh] [] fun r _ _=>r=.bool true:=by
 refine EN2 Tryz.func3 rfl (aSR (LT rfl (cx rfl rfl rfl (fun b0_0=>(aHN ?_)))))
 refine LT rfl (cx rfl rfl rfl (fun b0_1=>(aHN ?_)))
 refine aA rfl (aNn (aSR (aU rfl (Q0 rfl wB) (aA rfl (aNs (aSR (UL 0 tk39 rfl rfl rfl rfl ?_)))))))
 refine fB (caps:=[]) [3] (false) (by kernel_rfl) true rfl rfl (fun _=>rfl) (fun hc=>rfl) (fun hc=>by rw [List.append_nil];exact tb x hx hlx) (fun bf hbf => ?_)
 refine aU rfl (dO rfl) (aM rfl (aG rfl rfl (fun hc=>bj 1 tk39 rfl rfl rfl) ?_))
 refine fB (caps:=[]) [2] (false) (by kernel_rfl) _ rfl rfl (fun _=>rfl) (fun hc=>(aK (ae rfl hc) rfl)) (fun hc=>by rw [List.append_nil];exact tb y hy hly) (fun bg hbg => ?_)
 refine aG rfl rfl (fun hc=>dO (ae rfl hc)) (aU rfl (dp rfl rfl (fun h=>gf rfl h)) (aNn ?_))
 refine ao _ rfl (fun h1 => ?_) (fun h1 => ?_)
 ·skip
  refine aSR (aM rfl (aA rfl (aNn (az (bw (FZ1 [] Tryz.results3 rfl ?_))))))
  rfl
 ·skip
  have hbf1:bf=true:=by revert h1;cases bf<;>simp
  have hbg1:bg=true:=by revert h1;cases bg<;>simp
  have hLx:=hbf rfl hbf1
  have hLy:=hbg (by rw [hbf1];rfl) hbg1
  refine ax (an (aSR (UL 0 tk39 rfl rfl rfl rfl (UL 1 tk39 rfl rfl rfl rfl (aU rfl (QC rfl (fun w S fp hst=>((mm x y hx hy hlx hly).post (fun _ _ _ h=>h.2.2)).quiet2 (aH 0 rfl) (aH 1 rfl) hst)) (aA rfl (aNs ?_)))))))
  obtain ⟨b0,hb0⟩:∃ b0,decide (bytesOf (bN.enc (bA x))=bytesOf (bN.enc (bA y)))=b0:=⟨_,rfl⟩
  obtain ⟨c0,hc0⟩:∃ c0,decide (eS x=eS y)=c0:=⟨_,rfl⟩
  have hb1:decide (bytesOf (bN.enc (bA y))=bytesOf (bN.enc (bA x)))=b0:=by rw [← hb0];exact decide_eq_decide.2 ⟨Eq.symm,Eq.symm⟩
  rw [hb0]
  refine DR [] 37 (VM 0 rfl rfl (VM 1 rfl rfl (bW 2 rfl rfl rfl (fun hc=>aT rfl) (bW 3 rfl rfl rfl (fun hc=>bj 1 tk39 rfl rfl rfl) (bW 4 rfl rfl rfl (fun hc=>bj 0 tk39 rfl rfl rfl) (bW 5 rfl rfl rfl (fun hc=>QC (aK (ae rfl hc) (aK (ae rfl hc) rfl)) (fun w S fp hst=>((mm y x hy hx hly hlx).post (fun _ _ _ h=>h.2.2.trans (congrArg Value.bool hb1))).quiet2 (aH 1 rfl) (aH 0 rfl) hst)) (bW 6 rfl rfl rfl (fun hc=>ze (by kernel_rfl) (ae rfl hc) (ae rfl hc)) (bV 7 rfl rfl (bB rfl rfl (fun h=>gt rfl h)) (VM 8 rfl rfl (bW 9 rfl rfl rfl (fun hc=>aT rfl) (bW 10 rfl rfl rfl (fun hc=>bj 0 tk39 rfl rfl rfl) (bW 11 rfl rfl rfl (fun hc=>Q1 (aK (ae rfl hc) rfl) ((fE x hx hlx).post (fun _ _ _ h=>h.2.2)) 0 rfl) (bW 12 rfl rfl rfl (fun hc=>bj 1 tk39 rfl rfl rfl) (bW 13 rfl rfl rfl (fun hc=>Q1 (aK (ae rfl hc) rfl) ((fE y hy hly).post (fun _ _ _ h=>h.2.2)) 1 rfl) (bW 14 rfl rfl rfl (fun hc=>jm (ae rfl hc) (ae rfl hc)) ?_)))))))))))))))
  refine bW 15 rfl rfl rfl (fun hc=>ze (by kernel_rfl) (ae rfl hc) (ae rfl hc)) (bV 16 rfl rfl (bB rfl rfl (fun h=>gt rfl h)) (VM 17 rfl rfl (bW 18 rfl rfl rfl (fun hc=>aT rfl) (bW 19 rfl rfl rfl (fun hc=>bj 0 tk39 rfl rfl rfl) (bW 20 rfl rfl rfl (fun hc=>QC (aK (ae rfl hc) rfl) (fun w S fp hst=>(wb x hx hlx).quiet3 (aH 0 rfl) (aH 2 rfl) (aH 3 rfl) hst)) (bW 21 rfl rfl rfl (fun hc=>bj 1 tk39 rfl rfl rfl) (bW 22 rfl rfl rfl (fun hc=>QC (aK (ae rfl hc) rfl) (fun w S fp hst=>(wb y hy hly).quiet3 (aH 1 rfl) (aH 2 rfl) (aH 3 rfl) hst)) (bW 23 rfl rfl rfl (fun hc=>jm (ae rfl hc) (ae rfl hc)) (bW 24 rfl rfl rfl (fun hc=>ze (by kernel_rfl) (ae rfl hc) (ae rfl hc)) (bW 25 rfl rfl rfl (fun hc=>aT (ae rfl hc)) (bW 26 rfl rfl rfl (fun hc=>aT rfl) (bW 27 rfl rfl rfl (fun hc=>dO (ae rfl hc)) (bW 28 rfl rfl rfl (fun hc=>aT (ae rfl hc)) (bW 29 rfl rfl rfl (fun hc=>bj 0 tk39 rfl rfl rfl) (bW 30 rfl rfl rfl (fun hc=>bj 1 tk39 rfl rfl rfl) ?_)))))))))))))))
  refine aex (zs:=ZI) (l:=[(0,.tmp 49),(1,.tmp 50)]) 31 rfl (by kernel_rfl) el45 (by kernel_rfl) (by decide) (by decide) (by decide) rfl _ rfl (fun hc=>(aK (ae rfl hc) (aK (ae rfl hc) rfl))) rfl (.more rfl (.v rfl (.v rfl (.v rfl (.v rfl (.v rfl (.v rfl (.v rfl (.v rfl (.v rfl (.v rfl (.v rfl (.v rfl (.v rfl (.v rfl (.v rfl (.v rfl (.v rfl (.v rfl (.v rfl (.v rfl (.v rfl (.v rfl (.v rfl (.v rfl (.v rfl (.v rfl .nil)))))))))))))))))))))))))) (.more rfl (.v rfl (.v rfl (.v rfl (.v rfl (.v rfl (.v rfl (.v rfl (.v rfl (.v rfl (.v rfl (.v rfl (.v rfl (.v rfl (.v rfl (.v rfl (.v rfl (.v rfl (.v rfl (.v rfl (.v rfl (.v rfl (.v rfl (.v rfl (.v rfl (.v rfl (.v rfl .nil)))))))))))))))))))))))))) .nil)) rfl rfl (fun v5_31 => ?_)
  refine p8 (caps:=[]) 32 rfl (by kernel_rfl) [4,3,2] (false) (by kernel_rfl) _ rfl rfl (fun _=>rfl) (fun hc=>(aK (ae rfl hc) rfl)) (fun hc=>by rw [List.append_nil];exact Con.uncnd hc (yd _ x y hx hy hLx hLy)) (fun bc hbc => ?_)
  refine bW 33 rfl rfl rfl (fun hc=>bB (ae rfl hc) rfl (fun h=>gt hc h)) (bW 34 rfl rfl rfl (fun hc=>dp (ae rfl hc) rfl (fun h=>gf hc h)) (bV 35 rfl rfl (bB rfl rfl (fun h=>gt rfl h)) (bV 36 rfl rfl (bo rfl) (BN (an (az (FZ1 [] Tryz.results3 rfl ?_)))))))
  rw [hb0,hc0] at hbc ⊢
  cases b0 with
  | true =>
    have e:bN.enc (bA x)=bN.enc (bA y):=congrArg il (of_decide_eq_true hb0)
    have:c0=true:=by rw [← hc0];exact decide_eq_true (by show ofBytes (xB _)=ofBytes (xB _);rw [e])
    subst this;rfl
  | false =>
    cases c0 with
    | false=>rfl
    | true=>rw [hbc rfl (of_decide_eq_true hc0) (of_decide_eq_false hb0)];rfl
end Go.Proofs.YtebnelfdimiifaaGreatDoor

