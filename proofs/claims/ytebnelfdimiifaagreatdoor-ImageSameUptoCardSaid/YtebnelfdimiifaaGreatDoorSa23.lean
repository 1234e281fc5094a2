/- Parts of the proof, in build order. No condition. -/
import Derived.Test.YtebnelfdimiifaaGreatDoorSa22
import Derived.Test.YtebnelfdimiifaaGreatDoorSa05
import Derived.Test.YtebnelfdimiifaaGreatDoorSa07
set_option linter.unusedSimpArgs false
set_option linter.unusedVariables false
set_option maxHeartbeats 1000000
set_option maxRecDepth 20000
namespace Go.Lv
open Go.RowKit Go.Lp Go.Sy
theorem cP{α:Type}{A:Cod α}{vl:α→Value}{un:Value→α}(hz:∀ r b x,A.one (.R r b) x=A.one (.R r b) A.zero):∀ (os:List Nat) (cs:List Value) (r:List UInt8) (b:Bool) {r':List UInt8} {b':Bool},r.length≤4611686018427387904→(goC A vl un (.R r b) cs os).1=.R r' b'→r'.length≤r.length
 | [],cs,r,b,r',b',_,h=>by obtain ⟨rfl,rfl⟩:=CS.R.inj h;exact Nat.le_refl _
 | o::os,cs,r,b,r',b',hr,h=>by
   unfold goC at h
   obtain ⟨r1,b1,h1,h2,_⟩:=A.rd r b hr
   rw [hz,h1] at h
   exact Nat.le_trans (cP hz os _ r1 b1 (by omega) h) h2
theorem ey{α β:Type}(A:Cod α)(B:Cod β)(s:CS)(x:α × β):(A.prod B).one s x=((B.one (A.one s x.1).1 x.2).1,((A.one s x.1).2,(B.one (A.one s x.1).1 x.2).2)):=rfl
theorem dT{α β:Type}(A:Cod α)(B:Cod β):(A.prod B).zero=(A.zero,B.zero):=rfl
theorem ly{x:Bool}{r r':List UInt8}{b b':Bool}(hr:r.length≤4611686018427387904)(h:(bO.one (.R r b) x).1=.R r' b'):r'.length≤r.length:=by
 obtain ⟨r1,b1,h1,h2,_⟩:=bO.rd r b hr
 have:(bO.one (.R r b) x).1=(bO.one (.R r b) bO.zero).1:=rfl
 rw [this,h1] at h
 obtain ⟨rfl,rfl⟩:=CS.R.inj h
 exact h2
end Go.Lv
namespace Go.Proofs.YtebnelfdimiifaaGreatDoor
open Go.RowKit Go.Lp Go.Sy Go.Lv
open Go.Proofs.Tryz
attribute [local irreducible] aL aB awp aC fwp Quiet
theorem qE(b rb bc bx:Nat)(p v:Value)(r:List UInt8)(bad:Bool)(hr:r.length≤1000000) :
   Con Tryz.prog 51 [.pointer (some ⟨bx,0,none⟩),.pointer (some ⟨bc,0,none⟩)] [atC bc b] [bR b p v (.pointer (some ⟨rb,0,none⟩)),rdB rb r bad,Box bx 71 [.string .empty,.string .empty,.int .i64 0,.int .i64 0,.int .i64 0,.string .empty,.string .empty]]
     fun _ ps hp'=>∃ (x:bp) (r':List UInt8) (bad':Bool),eD.one (.R r bad) eD.zero=(.R r' bad',eO x)∧ps=[]∧hp'=[bR b p v (.pointer (some ⟨rb,0,none⟩)),rdB rb r' bad',Box bx 71 x.vs]:=by
 refine EN2 Tryz.func51 rfl (ai (DR [8] 9 (VD 0 0 tk89 0 rfl rfl rfl rfl rfl (VM 1 rfl rfl (VN 2 rfl rfl rfl (VO 3 0 rfl rfl rfl (VM 4 rfl rfl (VN 5 rfl rfl rfl (VO 6 1 rfl rfl rfl (VB (zs:=[.pointer none]) 7 rfl el215 rfl rfl rfl rfl (.more rfl (.v rfl .nil) (.more rfl (.v rfl .nil) .nil)) rfl rfl (fun v0_7=>(VE 8 rfl rfl (EC [1] [0,1,2] rfl (dQ b rb bx 71 ([.string .empty,.string .empty,.int .i64 0,.int .i64 0,.int .i64 0,.string .empty,.string .empty]:List Value) p v r bad (by omega) ⟨v0_7,2,[0,1]⟩ (aJ ByteArray.empty (by decide) rfl (aJ ByteArray.empty (by decide) rfl bD))) ?_)))))))))))))
 rintro _ _ _ ⟨rfl,r_0,b_0,hq_0,rfl⟩;have hl_0:=cP (fun _ _ _=>rfl) _ _ _ _ (by omega) hq_0
 refine bST rfl ?_
 refine BN (an (ai (DR [11] 12 (VD 0 0 tk89 1 rfl rfl rfl rfl rfl (VM 1 rfl rfl (VN 2 rfl rfl rfl (VO 3 2 rfl rfl rfl (VM 4 rfl rfl (VN 5 rfl rfl rfl (VO 6 3 rfl rfl rfl (VM 7 rfl rfl (VN 8 rfl rfl rfl (VO 9 4 rfl rfl rfl (VB (zs:=[.pointer none]) 10 rfl el214 rfl rfl rfl rfl (.more rfl (.v rfl .nil) (.more rfl (.v rfl .nil) (.more rfl (.v rfl .nil) .nil))) rfl rfl (fun v1_10 => ?_)))))))))))))))
 refine VE 11 rfl rfl (EC [2] [0,1,2] rfl (cQ b rb bx 71 (goC ak Value.string unT (.R r bad) ([.string .empty,.string .empty,.int .i64 0,.int .i64 0,.int .i64 0,.string .empty,.string .empty]:List Value) [0,1]).2 p v r_0 b_0 (by omega) ⟨v1_10,3,[2,3,4]⟩ (aJ 0 (by decide) rfl (aJ 0 (by decide) rfl (aJ 0 (by decide) rfl bD)))) ?_)
 rintro _ _ _ ⟨rfl,r_1,b_1,hq_1,rfl⟩;have hl_1:=cP (fun _ _ _=>rfl) _ _ _ _ (by omega) hq_1
 refine bST rfl ?_
 refine BN (an (DR [8] 9 (VD 0 0 tk89 2 rfl rfl rfl rfl rfl (VM 1 rfl rfl (VN 2 rfl rfl rfl (VO 3 5 rfl rfl rfl (VM 4 rfl rfl (VN 5 rfl rfl rfl (VO 6 6 rfl rfl rfl (VB (zs:=[.pointer none]) 7 rfl el215 rfl rfl rfl rfl (.more rfl (.v rfl .nil) (.more rfl (.v rfl .nil) .nil)) rfl rfl (fun v2_7=>(VE 8 rfl rfl (EC [3] [0,1,2] rfl (dQ b rb bx 71 (goC aj (fun z:Int=>Value.int .i64 z) unI (.R r_0 b_0) (goC ak Value.string unT (.R r bad) ([.string .empty,.string .empty,.int .i64 0,.int .i64 0,.int .i64 0,.string .empty,.string .empty]:List Value) [0,1]).2 [2,3,4]).2 p v r_1 b_1 (by omega) ⟨v2_7,2,[5,6]⟩ (aJ ByteArray.empty (by decide) rfl (aJ ByteArray.empty (by decide) rfl bD))) ?_)))))))))))))
 rintro _ _ _ ⟨rfl,r_2,b_2,hq_2,rfl⟩;have hl_2:=cP (fun _ _ _=>rfl) _ _ _ _ (by omega) hq_2
 refine bST rfl ?_
 refine BN (FZ0 [0,1,2] Tryz.results51 ?_)
 have k_0:(ak.one (ak.one (.R r bad) ak.zero).1 ak.zero).1=.R r_0 b_0:=hq_0
 have k_1:(aj.one (aj.one (aj.one (.R r_0 b_0) aj.zero).1 aj.zero).1 aj.zero).1=.R r_1 b_1:=hq_1
 have k_2:(ak.one (ak.one (.R r_1 b_1) ak.zero).1 ak.zero).1=.R r_2 b_2:=hq_2
 refine ⟨⟨_,_,_,_,_,_,_⟩,r_2,b_2,?_,rfl,rfl⟩
 unfold eD
 simp only [ey,dT]
 rw [k_0,k_1,k_2]
 all_goals rfl
theorem qB(b rb bc bx:Nat)(p v:Value)(r:List UInt8)(bad:Bool)(hr:r.length≤1000000) :
   Con Tryz.prog 53 [.pointer (some ⟨bx,0,none⟩),.pointer (some ⟨bc,0,none⟩)] [atC bc b] [bR b p v (.pointer (some ⟨rb,0,none⟩)),rdB rb r bad,Box bx 77 [.string .empty,.string .empty,.bool false,.int .i64 0,.int .i64 0,.int .i64 0]]
     fun _ ps hp'=>∃ (x:bQ) (r':List UInt8) (bad':Bool),eA.one (.R r bad) eA.zero=(.R r' bad',eK x)∧ps=[]∧hp'=[bR b p v (.pointer (some ⟨rb,0,none⟩)),rdB rb r' bad',Box bx 77 x.vs]:=by
 refine EN2 Tryz.func53 rfl (ai (DR [8] 9 (VD 0 0 tk89 0 rfl rfl rfl rfl rfl (VM 1 rfl rfl (VN 2 rfl rfl rfl (VO 3 0 rfl rfl rfl (VM 4 rfl rfl (VN 5 rfl rfl rfl (VO 6 1 rfl rfl rfl (VB (zs:=[.pointer none]) 7 rfl el215 rfl rfl rfl rfl (.more rfl (.v rfl .nil) (.more rfl (.v rfl .nil) .nil)) rfl rfl (fun v0_7=>(VE 8 rfl rfl (EC [1] [0,1,2] rfl (dQ b rb bx 77 ([.string .empty,.string .empty,.bool false,.int .i64 0,.int .i64 0,.int .i64 0]:List Value) p v r bad (by omega) ⟨v0_7,2,[0,1]⟩ (aJ ByteArray.empty (by decide) rfl (aJ ByteArray.empty (by decide) rfl bD))) ?_)))))))))))))
 rintro _ _ _ ⟨rfl,r_0,b_0,hq_0,rfl⟩;have hl_0:=cP (fun _ _ _=>rfl) _ _ _ _ (by omega) hq_0
 refine bST rfl ?_
 refine BN (an (ai (DR [4] 5 (VD 0 0 tk89 1 rfl rfl rfl rfl rfl (VM 1 rfl rfl (VN 2 rfl rfl rfl (VO 3 2 rfl rfl rfl (VE 4 rfl rfl (EC [] [0,1,2] rfl (lA false b rb bx 77 (goC ak Value.string unT (.R r bad) ([.string .empty,.string .empty,.bool false,.int .i64 0,.int .i64 0,.int .i64 0]:List Value) [0,1]).2 2 rfl p v r_0 b_0 (by omega)) ?_)))))))))
 rintro _ _ _ ⟨rfl,r_1,b_1,hq_1,rfl⟩;have hl_1:=ly (by omega) hq_1
 refine bST rfl ?_
 refine BN (an (DR [11] 12 (VD 0 0 tk89 1 rfl rfl rfl rfl rfl (VM 1 rfl rfl (VN 2 rfl rfl rfl (VO 3 3 rfl rfl rfl (VM 4 rfl rfl (VN 5 rfl rfl rfl (VO 6 4 rfl rfl rfl (VM 7 rfl rfl (VN 8 rfl rfl rfl (VO 9 5 rfl rfl rfl (VB (zs:=[.pointer none]) 10 rfl el214 rfl rfl rfl rfl (.more rfl (.v rfl .nil) (.more rfl (.v rfl .nil) (.more rfl (.v rfl .nil) .nil))) rfl rfl (fun v2_10 => ?_))))))))))))))
 refine VE 11 rfl rfl (EC [2] [0,1,2] rfl (cQ b rb bx 77 ((goC ak Value.string unT (.R r bad) ([.string .empty,.string .empty,.bool false,.int .i64 0,.int .i64 0,.int .i64 0]:List Value) [0,1]).2.set 2 (.bool (bO.one (.R r_0 b_0) false).2)) p v r_1 b_1 (by omega) ⟨v2_10,3,[3,4,5]⟩ (aJ 0 (by decide) rfl (aJ 0 (by decide) rfl (aJ 0 (by decide) rfl bD)))) ?_)
 rintro _ _ _ ⟨rfl,r_2,b_2,hq_2,rfl⟩;have hl_2:=cP (fun _ _ _=>rfl) _ _ _ _ (by omega) hq_2
 refine bST rfl ?_
 refine BN (FZ0 [0,1,2] Tryz.results53 ?_)
 have k_0:(ak.one (ak.one (.R r bad) ak.zero).1 ak.zero).1=.R r_0 b_0:=hq_0
 have k_1:(bO.one (.R r_0 b_0) bO.zero).1=.R r_1 b_1:=hq_1
 have k_2:(aj.one (aj.one (aj.one (.R r_1 b_1) aj.zero).1 aj.zero).1 aj.zero).1=.R r_2 b_2:=hq_2
 refine ⟨⟨_,_,_,_,_,_⟩,r_2,b_2,?_,rfl,rfl⟩
 unfold eA
 simp only [ey,dT]
 rw [k_0,k_1,k_2]
 all_goals rfl
theorem qC(b rb bc bx:Nat)(p v:Value)(r:List UInt8)(bad:Bool)(hr:r.length≤1000000) :
   Con Tryz.prog 55 [.pointer (some ⟨bx,0,none⟩),.pointer (some ⟨bc,0,none⟩)] [atC bc b] [bR b p v (.pointer (some ⟨rb,0,none⟩)),rdB rb r bad,Box bx 73 [.string .empty,.string .empty,.int .i64 0,.bool false,.bool false]]
     fun _ ps hp'=>∃ (x:b7) (r':List UInt8) (bad':Bool),eC.one (.R r bad) eC.zero=(.R r' bad',eM x)∧ps=[]∧hp'=[bR b p v (.pointer (some ⟨rb,0,none⟩)),rdB rb r' bad',Box bx 73 x.vs]:=by
 refine EN2 Tryz.func55 rfl (ai (DR [8] 9 (VD 0 0 tk89 0 rfl rfl rfl rfl rfl (VM 1 rfl rfl (VN 2 rfl rfl rfl (VO 3 0 rfl rfl rfl (VM 4 rfl rfl (VN 5 rfl rfl rfl (VO 6 1 rfl rfl rfl (VB (zs:=[.pointer none]) 7 rfl el215 rfl rfl rfl rfl (.more rfl (.v rfl .nil) (.more rfl (.v rfl .nil) .nil)) rfl rfl (fun v0_7=>(VE 8 rfl rfl (EC [1] [0,1,2] rfl (dQ b rb bx 73 ([.string .empty,.string .empty,.int .i64 0,.bool false,.bool false]:List Value) p v r bad (by omega) ⟨v0_7,2,[0,1]⟩ (aJ ByteArray.empty (by decide) rfl (aJ ByteArray.empty (by decide) rfl bD))) ?_)))))))))))))
 rintro _ _ _ ⟨rfl,r_0,b_0,hq_0,rfl⟩;have hl_0:=cP (fun _ _ _=>rfl) _ _ _ _ (by omega) hq_0
 refine bST rfl ?_
 refine BN (an (ai (DR [5] 6 (VD 0 0 tk89 1 rfl rfl rfl rfl rfl (VM 1 rfl rfl (VN 2 rfl rfl rfl (VO 3 2 rfl rfl rfl (VB (zs:=[.pointer none]) 4 rfl el214 rfl rfl rfl rfl (.more rfl (.v rfl .nil) .nil) rfl rfl (fun v1_4=>(VE 5 rfl rfl (EC [2] [0,1,2] rfl (cQ b rb bx 73 (goC ak Value.string unT (.R r bad) ([.string .empty,.string .empty,.int .i64 0,.bool false,.bool false]:List Value) [0,1]).2 p v r_0 b_0 (by omega) ⟨v1_4,1,[2]⟩ (aJ 0 (by decide) rfl bD)) ?_)))))))))))
 rintro _ _ _ ⟨rfl,r_1,b_1,hq_1,rfl⟩;have hl_1:=cP (fun _ _ _=>rfl) _ _ _ _ (by omega) hq_1
 refine bST rfl ?_
 refine BN (an (ai (DR [4] 5 (VD 0 0 tk89 2 rfl rfl rfl rfl rfl (VM 1 rfl rfl (VN 2 rfl rfl rfl (VO 3 3 rfl rfl rfl (VE 4 rfl rfl (EC [] [0,1,2] rfl (lA false b rb bx 73 (goC aj (fun z:Int=>Value.int .i64 z) unI (.R r_0 b_0) (goC ak Value.string unT (.R r bad) ([.string .empty,.string .empty,.int .i64 0,.bool false,.bool false]:List Value) [0,1]).2 [2]).2 3 rfl p v r_1 b_1 (by omega)) ?_)))))))))
 rintro _ _ _ ⟨rfl,r_2,b_2,hq_2,rfl⟩;have hl_2:=ly (by omega) hq_2
 refine bST rfl ?_
 refine BN (an (DR [4] 5 (VD 0 0 tk89 2 rfl rfl rfl rfl rfl (VM 1 rfl rfl (VN 2 rfl rfl rfl (VO 3 4 rfl rfl rfl (VE 4 rfl rfl (EC [] [0,1,2] rfl (lA false b rb bx 73 ((goC aj (fun z:Int=>Value.int .i64 z) unI (.R r_0 b_0) (goC ak Value.string unT (.R r bad) ([.string .empty,.string .empty,.int .i64 0,.bool false,.bool false]:List Value) [0,1]).2 [2]).2.set 3 (.bool (bO.one (.R r_1 b_1) false).2)) 4 rfl p v r_2 b_2 (by omega)) ?_))))))))
 rintro _ _ _ ⟨rfl,r_3,b_3,hq_3,rfl⟩;have hl_3:=ly (by omega) hq_3
 refine bST rfl ?_
 refine BN (FZ0 [0,1,2] Tryz.results55 ?_)
 have k_0:(ak.one (ak.one (.R r bad) ak.zero).1 ak.zero).1=.R r_0 b_0:=hq_0
 have k_1:(aj.one (.R r_0 b_0) aj.zero).1=.R r_1 b_1:=hq_1
 have k_2:(bO.one (.R r_1 b_1) bO.zero).1=.R r_2 b_2:=hq_2
 have k_3:(bO.one (.R r_2 b_2) bO.zero).1=.R r_3 b_3:=hq_3
 refine ⟨⟨_,_,_,_,_⟩,r_3,b_3,?_,rfl,rfl⟩
 unfold eC
 simp only [ey,dT]
 rw [k_0,k_1,k_2,k_3]
 all_goals rfl
theorem vS(b rb bc bx:Nat)(p v:Value)(r:List UInt8)(bad:Bool)(hr:r.length≤1000000) :
   Con Tryz.prog 58 [.pointer (some ⟨bx,0,none⟩),.pointer (some ⟨bc,0,none⟩)] [atC bc b] [bR b p v (.pointer (some ⟨rb,0,none⟩)),rdB rb r bad,Box bx 75 [.int .i64 0,.int .i64 0,.int .i64 0,.int .i64 0]]
     fun _ ps hp'=>∃ (x:fx) (r':List UInt8) (bad':Bool),lY.one (.R r bad) lY.zero=(.R r' bad',jP x)∧ps=[]∧hp'=[bR b p v (.pointer (some ⟨rb,0,none⟩)),rdB rb r' bad',Box bx 75 x.vs]:=by
 refine EN2 Tryz.func58 rfl (DR [14] 15 (VD 0 0 tk89 0 rfl rfl rfl rfl rfl (VM 1 rfl rfl (VN 2 rfl rfl rfl (VO 3 0 rfl rfl rfl (VM 4 rfl rfl (VN 5 rfl rfl rfl (VO 6 1 rfl rfl rfl (VM 7 rfl rfl (VN 8 rfl rfl rfl (VO 9 2 rfl rfl rfl (VM 10 rfl rfl (VN 11 rfl rfl rfl (VO 12 3 rfl rfl rfl ?_))))))))))))))
 refine VB (zs:=[.pointer none]) 13 rfl el214 rfl rfl rfl rfl (.more rfl (.v rfl .nil) (.more rfl (.v rfl .nil) (.more rfl (.v rfl .nil) (.more rfl (.v rfl .nil) .nil)))) rfl rfl (fun v0_13=>(VE 14 rfl rfl (EC [1] [0,1,2] rfl (cQ b rb bx 75 ([.int .i64 0,.int .i64 0,.int .i64 0,.int .i64 0]:List Value) p v r bad (by omega) ⟨v0_13,4,[0,1,2,3]⟩ (aJ 0 (by decide) rfl (aJ 0 (by decide) rfl (aJ 0 (by decide) rfl (aJ 0 (by decide) rfl bD))))) ?_)))
 rintro _ _ _ ⟨rfl,r_0,b_0,hq_0,rfl⟩;have hl_0:=cP (fun _ _ _=>rfl) _ _ _ _ (by omega) hq_0
 refine bST rfl ?_
 refine BN (FZ0 [0,1,2] Tryz.results58 ?_)
 have k_0:(aj.one (aj.one (aj.one (aj.one (.R r bad) aj.zero).1 aj.zero).1 aj.zero).1 aj.zero).1=.R r_0 b_0:=hq_0
 refine ⟨⟨_,_,_,_⟩,r_0,b_0,?_,rfl,rfl⟩
 unfold lY
 simp only [ey,dT]
 rw [k_0]
 all_goals rfl
theorem sx(b rb bc bx:Nat)(p v:Value)(r:List UInt8)(bad:Bool)(hr:r.length≤1000000) :
   Con Tryz.prog 66 [.pointer (some ⟨bx,0,none⟩),.pointer (some ⟨bc,0,none⟩)] [atC bc b] [bR b p v (.pointer (some ⟨rb,0,none⟩)),rdB rb r bad,Box bx 129 [.int .i64 0,.int .i64 0,.int .i64 0]]
     fun _ ps hp'=>∃ (x:dJ) (r':List UInt8) (bad':Bool),fo.one (.R r bad) fo.zero=(.R r' bad',fu x)∧ps=[]∧hp'=[bR b p v (.pointer (some ⟨rb,0,none⟩)),rdB rb r' bad',Box bx 129 x.vs]:=by
 refine EN2 Tryz.func66 rfl (DR [11] 12 (VD 0 0 tk89 0 rfl rfl rfl rfl rfl (VM 1 rfl rfl (VN 2 rfl rfl rfl (VO 3 0 rfl rfl rfl (VM 4 rfl rfl (VN 5 rfl rfl rfl (VO 6 1 rfl rfl rfl (VM 7 rfl rfl (VN 8 rfl rfl rfl (VO 9 2 rfl rfl rfl (VB (zs:=[.pointer none]) 10 rfl el214 rfl rfl rfl rfl (.more rfl (.v rfl .nil) (.more rfl (.v rfl .nil) (.more rfl (.v rfl .nil) .nil))) rfl rfl (fun v0_10=>(VE 11 rfl rfl (EC [1] [0,1,2] rfl (cQ b rb bx 129 ([.int .i64 0,.int .i64 0,.int .i64 0]:List Value) p v r bad (by omega) ⟨v0_10,3,[0,1,2]⟩ (aJ 0 (by decide) rfl (aJ 0 (by decide) rfl (aJ 0 (by decide) rfl bD)))) ?_)))))))))))))))
 rintro _ _ _ ⟨rfl,r_0,b_0,hq_0,rfl⟩;have hl_0:=cP (fun _ _ _=>rfl) _ _ _ _ (by omega) hq_0
 refine bST rfl ?_
 refine BN (FZ0 [0,1,2] Tryz.results66 ?_)
 have k_0:(aj.one (aj.one (aj.one (.R r bad) aj.zero).1 aj.zero).1 aj.zero).1=.R r_0 b_0:=hq_0
 refine ⟨⟨_,_,_⟩,r_0,b_0,?_,rfl,rfl⟩
 unfold fo
 simp only [ey,dT]
 rw [k_0]
 all_goals rfl
theorem uk(b rb bc bx:Nat)(p v:Value)(r:List UInt8)(bad:Bool)(hr:r.length≤1000000) :
   Con Tryz.prog 133 [.pointer (some ⟨bx,0,none⟩),.pointer (some ⟨bc,0,none⟩)] [atC bc b] [bR b p v (.pointer (some ⟨rb,0,none⟩)),rdB rb r bad,Box bx 176 [.string .empty,.int .i64 0,.int .i64 0,.int .i64 0]]
     fun _ ps hp'=>∃ (x:dI) (r':List UInt8) (bad':Bool),gq.one (.R r bad) gq.zero=(.R r' bad',gy x)∧ps=[]∧hp'=[bR b p v (.pointer (some ⟨rb,0,none⟩)),rdB rb r' bad',Box bx 176 x.vs]:=by
 refine EN2 Tryz.func133 rfl (ai (DR [5] 6 (VD 0 0 tk89 0 rfl rfl rfl rfl rfl (VM 1 rfl rfl (VN 2 rfl rfl rfl (VO 3 0 rfl rfl rfl (VB (zs:=[.pointer none]) 4 rfl el215 rfl rfl rfl rfl (.more rfl (.v rfl .nil) .nil) rfl rfl (fun v0_4=>(VE 5 rfl rfl (EC [1] [0,1,2] rfl (dQ b rb bx 176 ([.string .empty,.int .i64 0,.int .i64 0,.int .i64 0]:List Value) p v r bad (by omega) ⟨v0_4,1,[0]⟩ (aJ ByteArray.empty (by decide) rfl bD)) ?_))))))))))
 rintro _ _ _ ⟨rfl,r_0,b_0,hq_0,rfl⟩;have hl_0:=cP (fun _ _ _=>rfl) _ _ _ _ (by omega) hq_0
 refine bST rfl ?_
 refine BN (an (DR [11] 12 (VD 0 0 tk89 1 rfl rfl rfl rfl rfl (VM 1 rfl rfl (VN 2 rfl rfl rfl (VO 3 1 rfl rfl rfl (VM 4 rfl rfl (VN 5 rfl rfl rfl (VO 6 2 rfl rfl rfl (VM 7 rfl rfl (VN 8 rfl rfl rfl (VO 9 3 rfl rfl rfl (VB (zs:=[.pointer none]) 10 rfl el214 rfl rfl rfl rfl (.more rfl (.v rfl .nil) (.more rfl (.v rfl .nil) (.more rfl (.v rfl .nil) .nil))) rfl rfl (fun v1_10 => ?_))))))))))))))
 refine VE 11 rfl rfl (EC [2] [0,1,2] rfl (cQ b rb bx 176 (goC ak Value.string unT (.R r bad) ([.string .empty,.int .i64 0,.int .i64 0,.int .i64 0]:List Value) [0]).2 p v r_0 b_0 (by omega) ⟨v1_10,3,[1,2,3]⟩ (aJ 0 (by decide) rfl (aJ 0 (by decide) rfl (aJ 0 (by decide) rfl bD)))) ?_)
 rintro _ _ _ ⟨rfl,r_1,b_1,hq_1,rfl⟩;have hl_1:=cP (fun _ _ _=>rfl) _ _ _ _ (by omega) hq_1
 refine bST rfl ?_
 refine BN (FZ0 [0,1,2] Tryz.results133 ?_)
 have k_0:(ak.one (.R r bad) ak.zero).1=.R r_0 b_0:=hq_0
 have k_1:(aj.one (aj.one (aj.one (.R r_0 b_0) aj.zero).1 aj.zero).1 aj.zero).1=.R r_1 b_1:=hq_1
 refine ⟨⟨_,_,_,_⟩,r_1,b_1,?_,rfl,rfl⟩
 unfold gq
 simp only [ey,dT]
 rw [k_0,k_1]
 all_goals rfl
theorem uj(b rb bc bx:Nat)(p v:Value)(r:List UInt8)(bad:Bool)(hr:r.length≤1000000) :
   Con Tryz.prog 135 [.pointer (some ⟨bx,0,none⟩),.pointer (some ⟨bc,0,none⟩)] [atC bc b] [bR b p v (.pointer (some ⟨rb,0,none⟩)),rdB rb r bad,Box bx 180 [.int .i64 0,.int .i64 0,.string .empty,.int .i64 0]]
     fun _ ps hp'=>∃ (x:dH) (r':List UInt8) (bad':Bool),gp.one (.R r bad) gp.zero=(.R r' bad',gw x)∧ps=[]∧hp'=[bR b p v (.pointer (some ⟨rb,0,none⟩)),rdB rb r' bad',Box bx 180 x.vs]:=by
 refine EN2 Tryz.func135 rfl (ai (DR [8] 9 (VD 0 0 tk89 0 rfl rfl rfl rfl rfl (VM 1 rfl rfl (VN 2 rfl rfl rfl (VO 3 0 rfl rfl rfl (VM 4 rfl rfl (VN 5 rfl rfl rfl (VO 6 1 rfl rfl rfl (VB (zs:=[.pointer none]) 7 rfl el214 rfl rfl rfl rfl (.more rfl (.v rfl .nil) (.more rfl (.v rfl .nil) .nil)) rfl rfl (fun v0_7=>(VE 8 rfl rfl (EC [1] [0,1,2] rfl (cQ b rb bx 180 ([.int .i64 0,.int .i64 0,.string .empty,.int .i64 0]:List Value) p v r bad (by omega) ⟨v0_7,2,[0,1]⟩ (aJ 0 (by decide) rfl (aJ 0 (by decide) rfl bD))) ?_)))))))))))))
 rintro _ _ _ ⟨rfl,r_0,b_0,hq_0,rfl⟩;have hl_0:=cP (fun _ _ _=>rfl) _ _ _ _ (by omega) hq_0
 refine bST rfl ?_
 refine BN (an (ai (DR [5] 6 (VD 0 0 tk89 1 rfl rfl rfl rfl rfl (VM 1 rfl rfl (VN 2 rfl rfl rfl (VO 3 2 rfl rfl rfl (VB (zs:=[.pointer none]) 4 rfl el215 rfl rfl rfl rfl (.more rfl (.v rfl .nil) .nil) rfl rfl (fun v1_4=>(VE 5 rfl rfl (EC [2] [0,1,2] rfl (dQ b rb bx 180 (goC aj (fun z:Int=>Value.int .i64 z) unI (.R r bad) ([.int .i64 0,.int .i64 0,.string .empty,.int .i64 0]:List Value) [0,1]).2 p v r_0 b_0 (by omega) ⟨v1_4,1,[2]⟩ (aJ ByteArray.empty (by decide) rfl bD)) ?_)))))))))))
 rintro _ _ _ ⟨rfl,r_1,b_1,hq_1,rfl⟩;have hl_1:=cP (fun _ _ _=>rfl) _ _ _ _ (by omega) hq_1
 refine bST rfl ?_
 refine BN (an (DR [5] 6 (VD 0 0 tk89 2 rfl rfl rfl rfl rfl (VM 1 rfl rfl (VN 2 rfl rfl rfl (VO 3 3 rfl rfl rfl (VB (zs:=[.pointer none]) 4 rfl el214 rfl rfl rfl rfl (.more rfl (.v rfl .nil) .nil) rfl rfl (fun v2_4=>(VE 5 rfl rfl (EC [3] [0,1,2] rfl (cQ b rb bx 180 (goC ak Value.string unT (.R r_0 b_0) (goC aj (fun z:Int=>Value.int .i64 z) unI (.R r bad) ([.int .i64 0,.int .i64 0,.string .empty,.int .i64 0]:List Value) [0,1]).2 [2]).2 p v r_1 b_1 (by omega) ⟨v2_4,1,[3]⟩ (aJ 0 (by decide) rfl bD)) ?_))))))))))
 rintro _ _ _ ⟨rfl,r_2,b_2,hq_2,rfl⟩;have hl_2:=cP (fun _ _ _=>rfl) _ _ _ _ (by omega) hq_2
 refine bST rfl ?_
 refine BN (FZ0 [0,1,2] Tryz.results135 ?_)
 have k_0:(aj.one (aj.one (.R r bad) aj.zero).1 aj.zero).1=.R r_0 b_0:=hq_0
 have k_1:(ak.one (.R r_0 b_0) ak.zero).1=.R r_1 b_1:=hq_1
 have k_2:(aj.one (.R r_1 b_1) aj.zero).1=.R r_2 b_2:=hq_2
 refine ⟨⟨_,_,_,_⟩,r_2,b_2,?_,rfl,rfl⟩
 unfold gp
 simp only [ey,dT]
 rw [k_0,k_1,k_2]
 all_goals rfl
theorem um(b rb bc bx:Nat)(p v:Value)(r:List UInt8)(bad:Bool)(hr:r.length≤1000000) :
   Con Tryz.prog 137 [.pointer (some ⟨bx,0,none⟩),.pointer (some ⟨bc,0,none⟩)] [atC bc b] [bR b p v (.pointer (some ⟨rb,0,none⟩)),rdB rb r bad,Box bx 159 [.int .i64 0,.int .i64 0]]
     fun _ ps hp'=>∃ (x:bK) (r':List UInt8) (bad':Bool),gX.one (.R r bad) gX.zero=(.R r' bad',gJ x)∧ps=[]∧hp'=[bR b p v (.pointer (some ⟨rb,0,none⟩)),rdB rb r' bad',Box bx 159 x.vs]:=by
 refine EN2 Tryz.func137 rfl (DR [8] 9 (VD 0 0 tk89 0 rfl rfl rfl rfl rfl (VM 1 rfl rfl (VN 2 rfl rfl rfl (VO 3 0 rfl rfl rfl (VM 4 rfl rfl (VN 5 rfl rfl rfl (VO 6 1 rfl rfl rfl (VB (zs:=[.pointer none]) 7 rfl el214 rfl rfl rfl rfl (.more rfl (.v rfl .nil) (.more rfl (.v rfl .nil) .nil)) rfl rfl (fun v0_7=>(VE 8 rfl rfl (EC [1] [0,1,2] rfl (cQ b rb bx 159 ([.int .i64 0,.int .i64 0]:List Value) p v r bad (by omega) ⟨v0_7,2,[0,1]⟩ (aJ 0 (by decide) rfl (aJ 0 (by decide) rfl bD))) ?_))))))))))))
 rintro _ _ _ ⟨rfl,r_0,b_0,hq_0,rfl⟩;have hl_0:=cP (fun _ _ _=>rfl) _ _ _ _ (by omega) hq_0
 refine bST rfl ?_
 refine BN (FZ0 [0,1,2] Tryz.results137 ?_)
 have k_0:(aj.one (aj.one (.R r bad) aj.zero).1 aj.zero).1=.R r_0 b_0:=hq_0
 refine ⟨⟨_,_⟩,r_0,b_0,?_,rfl,rfl⟩
 unfold gX
 simp only [ey,dT]
 rw [k_0]
 all_goals rfl
theorem qD(b rb bc bx:Nat)(p v:Value)(r:List UInt8)(bad:Bool)(hr:r.length≤1000000) :
   Con Tryz.prog 139 [.pointer (some ⟨bx,0,none⟩),.pointer (some ⟨bc,0,none⟩)] [atC bc b] [bR b p v (.pointer (some ⟨rb,0,none⟩)),rdB rb r bad,Box bx 186 [.int .i64 0,.int .i64 0,.int .i64 0,.string .empty,.string .empty,.int .i64 0]]
     fun _ ps hp'=>∃ (x:ca) (r':List UInt8) (bad':Bool),eh.one (.R r bad) eh.zero=(.R r' bad',eN x)∧ps=[]∧hp'=[bR b p v (.pointer (some ⟨rb,0,none⟩)),rdB rb r' bad',Box bx 186 x.vs]:=by
 refine EN2 Tryz.func139 rfl (ai (DR [11] 12 (VD 0 0 tk89 0 rfl rfl rfl rfl rfl (VM 1 rfl rfl (VN 2 rfl rfl rfl (VO 3 0 rfl rfl rfl (VM 4 rfl rfl (VN 5 rfl rfl rfl (VO 6 1 rfl rfl rfl (VM 7 rfl rfl (VN 8 rfl rfl rfl (VO 9 2 rfl rfl rfl (VB (zs:=[.pointer none]) 10 rfl el214 rfl rfl rfl rfl (.more rfl (.v rfl .nil) (.more rfl (.v rfl .nil) (.more rfl (.v rfl .nil) .nil))) rfl rfl (fun v0_10 => ?_))))))))))))))
 refine VE 11 rfl rfl (EC [1] [0,1,2] rfl (cQ b rb bx 186 ([.int .i64 0,.int .i64 0,.int .i64 0,.string .empty,.string .empty,.int .i64 0]:List Value) p v r bad (by omega) ⟨v0_10,3,[0,1,2]⟩ (aJ 0 (by decide) rfl (aJ 0 (by decide) rfl (aJ 0 (by decide) rfl bD)))) ?_)
 rintro _ _ _ ⟨rfl,r_0,b_0,hq_0,rfl⟩;have hl_0:=cP (fun _ _ _=>rfl) _ _ _ _ (by omega) hq_0
 refine bST rfl ?_
 refine BN (an (ai (DR [8] 9 (VD 0 0 tk89 1 rfl rfl rfl rfl rfl (VM 1 rfl rfl (VN 2 rfl rfl rfl (VO 3 3 rfl rfl rfl (VM 4 rfl rfl (VN 5 rfl rfl rfl (VO 6 4 rfl rfl rfl (VB (zs:=[.pointer none]) 7 rfl el215 rfl rfl rfl rfl (.more rfl (.v rfl .nil) (.more rfl (.v rfl .nil) .nil)) rfl rfl (fun v1_7=>(VE 8 rfl rfl (EC [2] [0,1,2] rfl (dQ b rb bx 186 (goC aj (fun z:Int=>Value.int .i64 z) unI (.R r bad) ([.int .i64 0,.int .i64 0,.int .i64 0,.string .empty,.string .empty,.int .i64 0]:List Value) [0,1,2]).2 p v r_0 b_0 (by omega) ⟨v1_7,2,[3,4]⟩ (aJ ByteArray.empty (by decide) rfl (aJ ByteArray.empty (by decide) rfl bD))) ?_))))))))))))))
 rintro _ _ _ ⟨rfl,r_1,b_1,hq_1,rfl⟩;have hl_1:=cP (fun _ _ _=>rfl) _ _ _ _ (by omega) hq_1
 refine bST rfl ?_
 refine BN (an (DR [5] 6 (VD 0 0 tk89 2 rfl rfl rfl rfl rfl (VM 1 rfl rfl (VN 2 rfl rfl rfl (VO 3 5 rfl rfl rfl (VB (zs:=[.pointer none]) 4 rfl el214 rfl rfl rfl rfl (.more rfl (.v rfl .nil) .nil) rfl rfl (fun v2_4=>(VE 5 rfl rfl (EC [3] [0,1,2] rfl (cQ b rb bx 186 (goC ak Value.string unT (.R r_0 b_0) (goC aj (fun z:Int=>Value.int .i64 z) unI (.R r bad) ([.int .i64 0,.int .i64 0,.int .i64 0,.string .empty,.string .empty,.int .i64 0]:List Value) [0,1,2]).2 [3,4]).2 p v r_1 b_1 (by omega) ⟨v2_4,1,[5]⟩ (aJ 0 (by decide) rfl bD)) ?_))))))))))
 rintro _ _ _ ⟨rfl,r_2,b_2,hq_2,rfl⟩;have hl_2:=cP (fun _ _ _=>rfl) _ _ _ _ (by omega) hq_2
 refine bST rfl ?_
 refine BN (FZ0 [0,1,2] Tryz.results139 ?_)
 have k_0:(aj.one (aj.one (aj.one (.R r bad) aj.zero).1 aj.zero).1 aj.zero).1=.R r_0 b_0:=hq_0
 have k_1:(ak.one (ak.one (.R r_0 b_0) ak.zero).1 ak.zero).1=.R r_1 b_1:=hq_1
 have k_2:(aj.one (.R r_1 b_1) aj.zero).1=.R r_2 b_2:=hq_2
 refine ⟨⟨_,_,_,_,_,_⟩,r_2,b_2,?_,rfl,rfl⟩
 unfold eh
 simp only [ey,dT]
 rw [k_0,k_1,k_2]
 all_goals rfl
theorem vT(b rb bc bx:Nat)(p v:Value)(r:List UInt8)(bad:Bool)(hr:r.length≤1000000) :
   Con Tryz.prog 141 [.pointer (some ⟨bx,0,none⟩),.pointer (some ⟨bc,0,none⟩)] [atC bc b] [bR b p v (.pointer (some ⟨rb,0,none⟩)),rdB rb r bad,Box bx 192 [.int .i64 0,.int .i64 0,.int .i64 0,.string .empty,.int .i64 0,.int .i64 0]]
     fun _ ps hp'=>∃ (x:eE) (r':List UInt8) (bad':Bool),jZ.one (.R r bad) jZ.zero=(.R r' bad',ji x)∧ps=[]∧hp'=[bR b p v (.pointer (some ⟨rb,0,none⟩)),rdB rb r' bad',Box bx 192 x.vs]:=by
 refine EN2 Tryz.func141 rfl (ai (DR [11] 12 (VD 0 0 tk89 0 rfl rfl rfl rfl rfl (VM 1 rfl rfl (VN 2 rfl rfl rfl (VO 3 0 rfl rfl rfl (VM 4 rfl rfl (VN 5 rfl rfl rfl (VO 6 1 rfl rfl rfl (VM 7 rfl rfl (VN 8 rfl rfl rfl (VO 9 2 rfl rfl rfl (VB (zs:=[.pointer none]) 10 rfl el214 rfl rfl rfl rfl (.more rfl (.v rfl .nil) (.more rfl (.v rfl .nil) (.more rfl (.v rfl .nil) .nil))) rfl rfl (fun v0_10 => ?_))))))))))))))
 refine VE 11 rfl rfl (EC [1] [0,1,2] rfl (cQ b rb bx 192 ([.int .i64 0,.int .i64 0,.int .i64 0,.string .empty,.int .i64 0,.int .i64 0]:List Value) p v r bad (by omega) ⟨v0_10,3,[0,1,2]⟩ (aJ 0 (by decide) rfl (aJ 0 (by decide) rfl (aJ 0 (by decide) rfl bD)))) ?_)
 rintro _ _ _ ⟨rfl,r_0,b_0,hq_0,rfl⟩;have hl_0:=cP (fun _ _ _=>rfl) _ _ _ _ (by omega) hq_0
 refine bST rfl ?_
 refine BN (an (ai (DR [5] 6 (VD 0 0 tk89 1 rfl rfl rfl rfl rfl (VM 1 rfl rfl (VN 2 rfl rfl rfl (VO 3 3 rfl rfl rfl (VB (zs:=[.pointer none]) 4 rfl el215 rfl rfl rfl rfl (.more rfl (.v rfl .nil) .nil) rfl rfl (fun v1_4=>(VE 5 rfl rfl (EC [2] [0,1,2] rfl (dQ b rb bx 192 (goC aj (fun z:Int=>Value.int .i64 z) unI (.R r bad) ([.int .i64 0,.int .i64 0,.int .i64 0,.string .empty,.int .i64 0,.int .i64 0]:List Value) [0,1,2]).2 p v r_0 b_0 (by omega) ⟨v1_4,1,[3]⟩ (aJ ByteArray.empty (by decide) rfl bD)) ?_)))))))))))
 rintro _ _ _ ⟨rfl,r_1,b_1,hq_1,rfl⟩;have hl_1:=cP (fun _ _ _=>rfl) _ _ _ _ (by omega) hq_1
 refine bST rfl ?_
 refine BN (an (DR [8] 9 (VD 0 0 tk89 2 rfl rfl rfl rfl rfl (VM 1 rfl rfl (VN 2 rfl rfl rfl (VO 3 4 rfl rfl rfl (VM 4 rfl rfl (VN 5 rfl rfl rfl (VO 6 5 rfl rfl rfl (VB (zs:=[.pointer none]) 7 rfl el214 rfl rfl rfl rfl (.more rfl (.v rfl .nil) (.more rfl (.v rfl .nil) .nil)) rfl rfl (fun v2_7=>(VE 8 rfl rfl (EC [3] [0,1,2] rfl (cQ b rb bx 192 (goC ak Value.string unT (.R r_0 b_0) (goC aj (fun z:Int=>Value.int .i64 z) unI (.R r bad) ([.int .i64 0,.int .i64 0,.int .i64 0,.string .empty,.int .i64 0,.int .i64 0]:List Value) [0,1,2]).2 [3]).2 p v r_1 b_1 (by omega) ⟨v2_7,2,[4,5]⟩ (aJ 0 (by decide) rfl (aJ 0 (by decide) rfl bD))) ?_)))))))))))))
 rintro _ _ _ ⟨rfl,r_2,b_2,hq_2,rfl⟩;have hl_2:=cP (fun _ _ _=>rfl) _ _ _ _ (by omega) hq_2
 refine bST rfl ?_
 refine BN (FZ0 [0,1,2] Tryz.results141 ?_)
 have k_0:(aj.one (aj.one (aj.one (.R r bad) aj.zero).1 aj.zero).1 aj.zero).1=.R r_0 b_0:=hq_0
 have k_1:(ak.one (.R r_0 b_0) ak.zero).1=.R r_1 b_1:=hq_1
 have k_2:(aj.one (aj.one (.R r_1 b_1) aj.zero).1 aj.zero).1=.R r_2 b_2:=hq_2
 refine ⟨⟨_,_,_,_,_,_⟩,r_2,b_2,?_,rfl,rfl⟩
 unfold jZ
 simp only [ey,dT]
 rw [k_0,k_1,k_2]
 all_goals rfl
theorem sw(b rb bc bx:Nat)(p v:Value)(r:List UInt8)(bad:Bool)(hr:r.length≤1000000) :
   Con Tryz.prog 143 [.pointer (some ⟨bx,0,none⟩),.pointer (some ⟨bc,0,none⟩)] [atC bc b] [bR b p v (.pointer (some ⟨rb,0,none⟩)),rdB rb r bad,Box bx 198 [.int .i64 0,.int .i64 0,.int .i64 0,.int .i64 0]]
     fun _ ps hp'=>∃ (x:cG) (r':List UInt8) (bad':Bool),fD.one (.R r bad) fD.zero=(.R r' bad',fP x)∧ps=[]∧hp'=[bR b p v (.pointer (some ⟨rb,0,none⟩)),rdB rb r' bad',Box bx 198 x.vs]:=by
 refine EN2 Tryz.func143 rfl (DR [14] 15 (VD 0 0 tk89 0 rfl rfl rfl rfl rfl (VM 1 rfl rfl (VN 2 rfl rfl rfl (VO 3 0 rfl rfl rfl (VM 4 rfl rfl (VN 5 rfl rfl rfl (VO 6 1 rfl rfl rfl (VM 7 rfl rfl (VN 8 rfl rfl rfl (VO 9 2 rfl rfl rfl (VM 10 rfl rfl (VN 11 rfl rfl rfl (VO 12 3 rfl rfl rfl ?_))))))))))))))
 refine VB (zs:=[.pointer none]) 13 rfl el214 rfl rfl rfl rfl (.more rfl (.v rfl .nil) (.more rfl (.v rfl .nil) (.more rfl (.v rfl .nil) (.more rfl (.v rfl .nil) .nil)))) rfl rfl (fun v0_13=>(VE 14 rfl rfl (EC [1] [0,1,2] rfl (cQ b rb bx 198 ([.int .i64 0,.int .i64 0,.int .i64 0,.int .i64 0]:List Value) p v r bad (by omega) ⟨v0_13,4,[0,1,2,3]⟩ (aJ 0 (by decide) rfl (aJ 0 (by decide) rfl (aJ 0 (by decide) rfl (aJ 0 (by decide) rfl bD))))) ?_)))
 rintro _ _ _ ⟨rfl,r_0,b_0,hq_0,rfl⟩;have hl_0:=cP (fun _ _ _=>rfl) _ _ _ _ (by omega) hq_0
 refine bST rfl ?_
 refine BN (FZ0 [0,1,2] Tryz.results143 ?_)
 have k_0:(aj.one (aj.one (aj.one (aj.one (.R r bad) aj.zero).1 aj.zero).1 aj.zero).1 aj.zero).1=.R r_0 b_0:=hq_0
 refine ⟨⟨_,_,_,_⟩,r_0,b_0,?_,rfl,rfl⟩
 unfold fD
 simp only [ey,dT]
 rw [k_0]
 all_goals rfl
end Go.Proofs.YtebnelfdimiifaaGreatDoor

namespace Go.Sy
open Go.RowKit Go.Lp
theorem Con.rdF{P:Program}{f:FuncId}{args:List Value}{ps:List Per}{l:List Res}{α:Type}{C:α→List UInt8→Bool→Prop}{P1 P2:α→List Per}{H:α→List UInt8→Bool→List Res}(h:Con P f args ps l fun _ ps' hp'=>∃ (x:α) (r:List UInt8) (b:Bool),C x r b∧ps'=P1 x∧hp'=H x r b)(hE:∀ x r b,C x r b→∀ p∈P2 x,Ent (P1 x) p):Con P f args ps l fun _ ps' hp'=>∃ (x:α) (r:List UInt8) (b:Bool),C x r b∧ps'=P2 x∧hp'=H x r b:=fun w S fp hst =>
 (h w S fp hst).mono fun e w' ⟨v,ps',hp',S',fp',he,⟨x,r,b,hc,h1,h2⟩,hst',hEv,hg⟩=>by
   subst h1
   exact ⟨v,P2 x,hp',S',fp',he,⟨x,r,b,hc,rfl,h2⟩,⟨fun p hp=>hE x r b hc p hp w' S' hst'.per,hst'.res,hst'.lt,hst'.dj,hst'.slt⟩,hEv,hg⟩
theorem Ent.str{ps:List Per}{s:ByteArray}(h:s.size≤4611686018427387904):Ent ps (ek s):=fun _ _ _=>ek.of (Nat.le_trans h (by decide))
theorem Ent.tt{ps:List Per} : Ent ps (Fa True):=fun _ _ _=>trivial
end Go.Sy
namespace Go.Lv
theorem Cod.okR{α:Type}(A:Cod α){r r':List UInt8}{b b':Bool}{x:α}(hr:r.length≤1000000)(h:A.one (.R r b) A.zero=(.R r' b',x)):A.ok x:=by
 obtain ⟨_,_,_,_,h3,_⟩:=A.rd r b (by omega)
 rw [h] at h3;exact h3
end Go.Lv
namespace Go.Proofs.YtebnelfdimiifaaGreatDoor
open Go.RowKit Go.Lp Go.Sy Go.Lv
open Go.Proofs.Tryz
attribute [local irreducible] aL aB awp aC fwp Quiet
theorem qA(b rb bc bx:Nat)(p v:Value)(r:List UInt8)(bad:Bool)(hr:r.length≤1000000) :
   Con Tryz.prog 51 [.pointer (some ⟨bx,0,none⟩),.pointer (some ⟨bc,0,none⟩)] [atC bc b] [bR b p v (.pointer (some ⟨rb,0,none⟩)),rdB rb r bad,Box bx 71 [.string .empty,.string .empty,.int .i64 0,.int .i64 0,.int .i64 0,.string .empty,.string .empty]]
     fun _ ps hp'=>∃ (x:bp) (r':List UInt8) (bad':Bool),eD.one (.R r bad) eD.zero=(.R r' bad',eO x)∧ps=[bp.ok x]∧hp'=[bR b p v (.pointer (some ⟨rb,0,none⟩)),rdB rb r' bad',Box bx 71 x.vs] :=
 (qE b rb bc bx p v r bad hr).rdF fun x r' b' h p hp=>by
   rw [List.mem_singleton.1 hp]
   have hk:eD.ok (eO x):=eD.okR hr h
   exact Ent.mk2 (Ent.str hk.1) (Ent.mk2 (Ent.str hk.2.1) (Ent.mk2 (Ent.str hk.2.2.2.2.2.1) (Ent.str hk.2.2.2.2.2.2)))
theorem qx(b rb bc bx:Nat)(p v:Value)(r:List UInt8)(bad:Bool)(hr:r.length≤1000000) :
   Con Tryz.prog 53 [.pointer (some ⟨bx,0,none⟩),.pointer (some ⟨bc,0,none⟩)] [atC bc b] [bR b p v (.pointer (some ⟨rb,0,none⟩)),rdB rb r bad,Box bx 77 [.string .empty,.string .empty,.bool false,.int .i64 0,.int .i64 0,.int .i64 0]]
     fun _ ps hp'=>∃ (x:bQ) (r':List UInt8) (bad':Bool),eA.one (.R r bad) eA.zero=(.R r' bad',eK x)∧ps=[bQ.ok x]∧hp'=[bR b p v (.pointer (some ⟨rb,0,none⟩)),rdB rb r' bad',Box bx 77 x.vs] :=
 (qB b rb bc bx p v r bad hr).rdF fun x r' b' h p hp=>by
   rw [List.mem_singleton.1 hp]
   have hk:eA.ok (eK x):=eA.okR hr h
   exact Ent.mk2 (Ent.str hk.1) (Ent.str hk.2.1)
theorem qy(b rb bc bx:Nat)(p v:Value)(r:List UInt8)(bad:Bool)(hr:r.length≤1000000) :
   Con Tryz.prog 55 [.pointer (some ⟨bx,0,none⟩),.pointer (some ⟨bc,0,none⟩)] [atC bc b] [bR b p v (.pointer (some ⟨rb,0,none⟩)),rdB rb r bad,Box bx 73 [.string .empty,.string .empty,.int .i64 0,.bool false,.bool false]]
     fun _ ps hp'=>∃ (x:b7) (r':List UInt8) (bad':Bool),eC.one (.R r bad) eC.zero=(.R r' bad',eM x)∧ps=[b7.ok x]∧hp'=[bR b p v (.pointer (some ⟨rb,0,none⟩)),rdB rb r' bad',Box bx 73 x.vs] :=
 (qC b rb bc bx p v r bad hr).rdF fun x r' b' h p hp=>by
   rw [List.mem_singleton.1 hp]
   have hk:eC.ok (eM x):=eC.okR hr h
   exact Ent.mk2 (Ent.str hk.1) (Ent.str hk.2.1)
theorem vQ(b rb bc bx:Nat)(p v:Value)(r:List UInt8)(bad:Bool)(hr:r.length≤1000000) :
   Con Tryz.prog 58 [.pointer (some ⟨bx,0,none⟩),.pointer (some ⟨bc,0,none⟩)] [atC bc b] [bR b p v (.pointer (some ⟨rb,0,none⟩)),rdB rb r bad,Box bx 75 [.int .i64 0,.int .i64 0,.int .i64 0,.int .i64 0]]
     fun _ ps hp'=>∃ (x:fx) (r':List UInt8) (bad':Bool),lY.one (.R r bad) lY.zero=(.R r' bad',jP x)∧ps=[Fa True]∧hp'=[bR b p v (.pointer (some ⟨rb,0,none⟩)),rdB rb r' bad',Box bx 75 x.vs] :=
 (vS b rb bc bx p v r bad hr).rdF fun x r' b' h p hp=>by
   rw [List.mem_singleton.1 hp]
   exact Ent.tt
theorem su(b rb bc bx:Nat)(p v:Value)(r:List UInt8)(bad:Bool)(hr:r.length≤1000000) :
   Con Tryz.prog 66 [.pointer (some ⟨bx,0,none⟩),.pointer (some ⟨bc,0,none⟩)] [atC bc b] [bR b p v (.pointer (some ⟨rb,0,none⟩)),rdB rb r bad,Box bx 129 [.int .i64 0,.int .i64 0,.int .i64 0]]
     fun _ ps hp'=>∃ (x:dJ) (r':List UInt8) (bad':Bool),fo.one (.R r bad) fo.zero=(.R r' bad',fu x)∧ps=[Fa True]∧hp'=[bR b p v (.pointer (some ⟨rb,0,none⟩)),rdB rb r' bad',Box bx 129 x.vs] :=
 (sx b rb bc bx p v r bad hr).rdF fun x r' b' h p hp=>by
   rw [List.mem_singleton.1 hp]
   exact Ent.tt
theorem uh(b rb bc bx:Nat)(p v:Value)(r:List UInt8)(bad:Bool)(hr:r.length≤1000000) :
   Con Tryz.prog 133 [.pointer (some ⟨bx,0,none⟩),.pointer (some ⟨bc,0,none⟩)] [atC bc b] [bR b p v (.pointer (some ⟨rb,0,none⟩)),rdB rb r bad,Box bx 176 [.string .empty,.int .i64 0,.int .i64 0,.int .i64 0]]
     fun _ ps hp'=>∃ (x:dI) (r':List UInt8) (bad':Bool),gq.one (.R r bad) gq.zero=(.R r' bad',gy x)∧ps=[dI.ok x]∧hp'=[bR b p v (.pointer (some ⟨rb,0,none⟩)),rdB rb r' bad',Box bx 176 x.vs] :=
 (uk b rb bc bx p v r bad hr).rdF fun x r' b' h p hp=>by
   rw [List.mem_singleton.1 hp]
   have hk:gq.ok (gy x):=gq.okR hr h
   exact Ent.str hk.1
theorem ug(b rb bc bx:Nat)(p v:Value)(r:List UInt8)(bad:Bool)(hr:r.length≤1000000) :
   Con Tryz.prog 135 [.pointer (some ⟨bx,0,none⟩),.pointer (some ⟨bc,0,none⟩)] [atC bc b] [bR b p v (.pointer (some ⟨rb,0,none⟩)),rdB rb r bad,Box bx 180 [.int .i64 0,.int .i64 0,.string .empty,.int .i64 0]]
     fun _ ps hp'=>∃ (x:dH) (r':List UInt8) (bad':Bool),gp.one (.R r bad) gp.zero=(.R r' bad',gw x)∧ps=[dH.ok x]∧hp'=[bR b p v (.pointer (some ⟨rb,0,none⟩)),rdB rb r' bad',Box bx 180 x.vs] :=
 (uj b rb bc bx p v r bad hr).rdF fun x r' b' h p hp=>by
   rw [List.mem_singleton.1 hp]
   have hk:gp.ok (gw x):=gp.okR hr h
   exact Ent.str hk.2.2.1
theorem ui(b rb bc bx:Nat)(p v:Value)(r:List UInt8)(bad:Bool)(hr:r.length≤1000000) :
   Con Tryz.prog 137 [.pointer (some ⟨bx,0,none⟩),.pointer (some ⟨bc,0,none⟩)] [atC bc b] [bR b p v (.pointer (some ⟨rb,0,none⟩)),rdB rb r bad,Box bx 159 [.int .i64 0,.int .i64 0]]
     fun _ ps hp'=>∃ (x:bK) (r':List UInt8) (bad':Bool),gX.one (.R r bad) gX.zero=(.R r' bad',gJ x)∧ps=[Fa True]∧hp'=[bR b p v (.pointer (some ⟨rb,0,none⟩)),rdB rb r' bad',Box bx 159 x.vs] :=
 (um b rb bc bx p v r bad hr).rdF fun x r' b' h p hp=>by
   rw [List.mem_singleton.1 hp]
   exact Ent.tt
theorem qz(b rb bc bx:Nat)(p v:Value)(r:List UInt8)(bad:Bool)(hr:r.length≤1000000) :
   Con Tryz.prog 139 [.pointer (some ⟨bx,0,none⟩),.pointer (some ⟨bc,0,none⟩)] [atC bc b] [bR b p v (.pointer (some ⟨rb,0,none⟩)),rdB rb r bad,Box bx 186 [.int .i64 0,.int .i64 0,.int .i64 0,.string .empty,.string .empty,.int .i64 0]]
     fun _ ps hp'=>∃ (x:ca) (r':List UInt8) (bad':Bool),eh.one (.R r bad) eh.zero=(.R r' bad',eN x)∧ps=[ca.ok x]∧hp'=[bR b p v (.pointer (some ⟨rb,0,none⟩)),rdB rb r' bad',Box bx 186 x.vs] :=
 (qD b rb bc bx p v r bad hr).rdF fun x r' b' h p hp=>by
   rw [List.mem_singleton.1 hp]
   have hk:eh.ok (eN x):=eh.okR hr h
   exact Ent.mk2 (Ent.str hk.2.2.2.1) (Ent.str hk.2.2.2.2.1)
theorem vR(b rb bc bx:Nat)(p v:Value)(r:List UInt8)(bad:Bool)(hr:r.length≤1000000) :
   Con Tryz.prog 141 [.pointer (some ⟨bx,0,none⟩),.pointer (some ⟨bc,0,none⟩)] [atC bc b] [bR b p v (.pointer (some ⟨rb,0,none⟩)),rdB rb r bad,Box bx 192 [.int .i64 0,.int .i64 0,.int .i64 0,.string .empty,.int .i64 0,.int .i64 0]]
     fun _ ps hp'=>∃ (x:eE) (r':List UInt8) (bad':Bool),jZ.one (.R r bad) jZ.zero=(.R r' bad',ji x)∧ps=[eE.ok x]∧hp'=[bR b p v (.pointer (some ⟨rb,0,none⟩)),rdB rb r' bad',Box bx 192 x.vs] :=
 (vT b rb bc bx p v r bad hr).rdF fun x r' b' h p hp=>by
   rw [List.mem_singleton.1 hp]
   have hk:jZ.ok (ji x):=jZ.okR hr h
   exact Ent.str hk.2.2.2.1
theorem ss(b rb bc bx:Nat)(p v:Value)(r:List UInt8)(bad:Bool)(hr:r.length≤1000000) :
   Con Tryz.prog 143 [.pointer (some ⟨bx,0,none⟩),.pointer (some ⟨bc,0,none⟩)] [atC bc b] [bR b p v (.pointer (some ⟨rb,0,none⟩)),rdB rb r bad,Box bx 198 [.int .i64 0,.int .i64 0,.int .i64 0,.int .i64 0]]
     fun _ ps hp'=>∃ (x:cG) (r':List UInt8) (bad':Bool),fD.one (.R r bad) fD.zero=(.R r' bad',fP x)∧ps=[Fa True]∧hp'=[bR b p v (.pointer (some ⟨rb,0,none⟩)),rdB rb r' bad',Box bx 198 x.vs] :=
 (sw b rb bc bx p v r bad hr).rdF fun x r' b' h p hp=>by
   rw [List.mem_singleton.1 hp]
   exact Ent.tt
theorem jc(b bc bx:Nat)(x:Int)(hx:Go.Lv.I64 x)(p v:Value)(hp:p=.pointer none∨p=.pointer (some ⟨b,0,none⟩))(out:List UInt8)(hl:(out++aj.enc x).length≤1000000000) :
   Con Tryz.prog 45 [.pointer (some ⟨bx,0,none⟩),.pointer (some ⟨bc,0,none⟩)] [atC bc b] [bR b p v (.pointer none),aN v 5 1 (out.map cE),Box bx 3 [.int .i64 x]]
     fun _ ps hp'=>ps=[]∧∃ p' v',(p'=.pointer none∨p'=.pointer (some ⟨b,0,none⟩))∧hp'=[bR b p' v' (.pointer none),aN v' 5 1 ((out++aj.enc x).map cE),Box bx 3 [.int .i64 x]]:=by
 have hall:out++bz aj unI [.int .i64 x] [0]=out++aj.enc x:=by show out++(aj.enc x++[])=_;rw [List.append_nil]
 refine EN2 Tryz.func45 rfl (aa (UD 0 tk89 0 rfl rfl rfl rfl (aM rfl (LT rfl (WL (zs:=[.pointer none]) el214 rfl rfl rfl (.more rfl (.v rfl .nil) .nil) rfl rfl (fun v0_2=>(aHN ?_)))))))
 refine eG 3 rfl ?_
 refine LF rfl (EC [1] [0,1,2] rfl (cS b bx 3 [.int .i64 x] p v hp out ⟨v0_2,1,[0]⟩ (aJ x hx rfl bD) (by rw [hall];exact hl)) ?_)
 rintro _ _ _ ⟨rfl,p1,v1,hp1,rfl⟩
 refine aST ?_
 refine bP (FZ0 [0,1,2] Tryz.results45 ?_)
 rw [← hall];exact ⟨rfl,p1,v1,hp1,rfl⟩
theorem jb(b rb bc bx:Nat)(p v:Value)(r:List UInt8)(bad:Bool)(hr:r.length≤1000000) :
   Con Tryz.prog 45 [.pointer (some ⟨bx,0,none⟩),.pointer (some ⟨bc,0,none⟩)] [atC bc b] [bR b p v (.pointer (some ⟨rb,0,none⟩)),rdB rb r bad,Box bx 3 [.int .i64 0]]
     fun _ ps hp'=>∃ (x:Int) (r':List UInt8) (bad':Bool),aj.one (.R r bad) aj.zero=(.R r' bad',x)∧ps=[Fa True]∧hp'=[bR b p v (.pointer (some ⟨rb,0,none⟩)),rdB rb r' bad',Box bx 3 [.int .i64 x]]:=by
 have hE:∀ (x:Int) (r':List UInt8) (b':Bool),aj.one (.R r bad) aj.zero=(.R r' b',x)→∀ p∈[Fa True],Ent [] p:=fun x r' b' h p hp=>by
   rw [List.mem_singleton.1 hp]
   exact Ent.tt
 refine Con.rdF (P1:=fun _=>[]) ?_ hE
 refine EN2 Tryz.func45 rfl (aa (UD 0 tk89 0 rfl rfl rfl rfl (aM rfl (LT rfl (WL (zs:=[.pointer none]) el214 rfl rfl rfl (.more rfl (.v rfl .nil) .nil) rfl rfl (fun v0_2=>(aHN ?_)))))))
 refine eG 3 rfl (LF rfl (EC [1] [0,1,2] rfl (cQ b rb bx 3 [.int .i64 0] p v r bad (by omega) ⟨v0_2,1,[0]⟩ (aJ 0 (by decide) rfl bD)) ?_))
 rintro _ _ _ ⟨rfl,r1,b1,hq,rfl⟩
 refine aST ?_
 refine bP (FZ0 [0,1,2] Tryz.results45 ?_)
 have k:(aj.one (.R r bad) aj.zero).1=.R r1 b1:=hq
 exact ⟨(aj.one (.R r bad) aj.zero).2,r1,b1,by rw [← k],rfl,rfl⟩
theorem mU(b bc bx:Nat)(x:ByteArray)(p v:Value)(hp:p=.pointer none∨p=.pointer (some ⟨b,0,none⟩))(out:List UInt8)(hl:(out++ak.enc x).length≤1000000000) :
   Con Tryz.prog 47 [.pointer (some ⟨bx,0,none⟩),.pointer (some ⟨bc,0,none⟩)] [atC bc b] [bR b p v (.pointer none),aN v 5 1 (out.map cE),Box bx 9 [.string x]]
     fun _ ps hp'=>ps=[]∧∃ p' v',(p'=.pointer none∨p'=.pointer (some ⟨b,0,none⟩))∧hp'=[bR b p' v' (.pointer none),aN v' 5 1 ((out++ak.enc x).map cE),Box bx 9 [.string x]]:=by
 have hall:out++bz ak unT [.string x] [0]=out++ak.enc x:=by show out++(ak.enc x++[])=_;rw [List.append_nil]
 refine EN2 Tryz.func47 rfl (aa (UD 0 tk89 0 rfl rfl rfl rfl (aM rfl (LT rfl (WL (zs:=[.pointer none]) el215 rfl rfl rfl (.more rfl (.v rfl .nil) .nil) rfl rfl (fun v0_2=>(aHN ?_)))))))
 refine eG 3 rfl ?_
 refine LF rfl (EC [1] [0,1,2] rfl (dR b bx 9 [.string x] p v hp out ⟨v0_2,1,[0]⟩ (aJ x (by rw [List.length_append,gN] at hl;omega) rfl bD) (by rw [hall];exact hl)) ?_)
 rintro _ _ _ ⟨rfl,p1,v1,hp1,rfl⟩
 refine aST ?_
 refine bP (FZ0 [0,1,2] Tryz.results47 ?_)
 rw [← hall];exact ⟨rfl,p1,v1,hp1,rfl⟩
theorem mT(b rb bc bx:Nat)(p v:Value)(r:List UInt8)(bad:Bool)(hr:r.length≤1000000) :
   Con Tryz.prog 47 [.pointer (some ⟨bx,0,none⟩),.pointer (some ⟨bc,0,none⟩)] [atC bc b] [bR b p v (.pointer (some ⟨rb,0,none⟩)),rdB rb r bad,Box bx 9 [.string .empty]]
     fun _ ps hp'=>∃ (x:ByteArray) (r':List UInt8) (bad':Bool),ak.one (.R r bad) ak.zero=(.R r' bad',x)∧ps=[ek x]∧hp'=[bR b p v (.pointer (some ⟨rb,0,none⟩)),rdB rb r' bad',Box bx 9 [.string x]]:=by
 have hE:∀ (x:ByteArray) (r':List UInt8) (b':Bool),ak.one (.R r bad) ak.zero=(.R r' b',x)→∀ p∈[ek x],Ent [] p:=fun x r' b' h p hp=>by
   rw [List.mem_singleton.1 hp]
   exact Ent.str (ak.okR hr h)
 refine Con.rdF (P1:=fun _=>[]) ?_ hE
 refine EN2 Tryz.func47 rfl (aa (UD 0 tk89 0 rfl rfl rfl rfl (aM rfl (LT rfl (WL (zs:=[.pointer none]) el215 rfl rfl rfl (.more rfl (.v rfl .nil) .nil) rfl rfl (fun v0_2=>(aHN ?_)))))))
 refine eG 3 rfl (LF rfl (EC [1] [0,1,2] rfl (dQ b rb bx 9 [.string .empty] p v r bad (by omega) ⟨v0_2,1,[0]⟩ (aJ .empty (by decide) rfl bD)) ?_))
 rintro _ _ _ ⟨rfl,r1,b1,hq,rfl⟩
 refine aST ?_
 refine bP (FZ0 [0,1,2] Tryz.results47 ?_)
 have k:(ak.one (.R r bad) ak.zero).1=.R r1 b1:=hq
 exact ⟨(ak.one (.R r bad) ak.zero).2,r1,b1,by rw [← k],rfl,rfl⟩
theorem ct{α τ:Type}(A:Cod τ)(pu:α→τ)(l:List α):(dE A).enc (l.map pu)=aQ l.length++aO (fun x=>A.enc (pu x)) l:=by
 show aQ (l.map pu).length++ia A (l.map pu)=_
 rw [List.length_map];unfold ia aO;rw [List.map_map];rfl
theorem tk95:tyk Tryz.prog 95=some (false,1):=by kernel_rfl
abbrev la:Type:=ByteArray × List ByteArray
def cX:Cod la:=Cod.prod ak (dE ak)
abbrev dw(x:aF):la:=(x.name,x.parents.l)
abbrev atT(bt bc:Nat):Per:=At bt 0 [.v (.func (.func 47) #[] #[.pointer (some ⟨bc,0,none⟩)])]
theorem mi(b bc bt bx:Nat)(x:aF)(p v:Value)(hp:p=.pointer none∨p=.pointer (some ⟨b,0,none⟩))(out:List UInt8)(hl:(out++cX.enc (dw x)).length≤1000000000) :
   Con Tryz.prog 61 [.pointer (some ⟨bx,0,none⟩),.pointer (some ⟨bc,0,none⟩),.pointer (some ⟨bt,0,none⟩)] [cF (atC bc b) (cF (atT bt bc) x.ok)] [bR b p v (.pointer none),aN v 5 1 (out.map cE),Box bx 55 x.vs]
     fun _ ps hp'=>ps=[]∧∃ p' v',(p'=.pointer none∨p'=.pointer (some ⟨b,0,none⟩))∧hp'=[bR b p' v' (.pointer none),aN v' 5 1 ((out++cX.enc (dw x)).map cE),Box bx 55 x.vs]:=by
 have he:cX.enc (dw x)=ak.enc x.name++(aQ x.parents.l.length++aO ak.enc x.parents.l):=rfl
 rw [he] at hl ⊢
 have e0:bz ak unT x.vs [0]=ak.enc x.name++[]:=rfl
 have hall:(out++bz ak unT x.vs [0])++(aQ x.parents.l.length++aO ak.enc x.parents.l)=out++(ak.enc x.name++(aQ x.parents.l.length++aO ak.enc x.parents.l)):=by simp only [e0,List.append_assoc,List.append_nil]
 have hs:=gN x.name
 simp only [List.length_append] at hl
 refine EN3 Tryz.func61 rfl (aZ _ (Ent.left (.of (aH 0 rfl))) (aZ _ (Ent.left (Ent.right (.of (aH 1 rfl)))) (aZ _ (aF.f_parents (Ent.right (Ent.right (.of (aH 2 rfl))))) (ai (DR [5] 6 (VD 0 0 tk89 2 rfl rfl rfl rfl rfl (VM 1 rfl rfl (VN 2 rfl rfl rfl (VO 3 0 rfl rfl rfl (VB (zs:=[.pointer none]) 4 rfl el215 rfl rfl rfl rfl (.more rfl (.v rfl .nil) .nil) rfl rfl (fun v0_4 => ?_)))))))))))
 refine VE 5 rfl rfl (EC [4] [0,1,2] rfl (dR b bx 55 x.vs p v hp out ⟨v0_4,1,[0]⟩ (aJ x.name (by omega) rfl bD) (by simp only [e0,List.length_append,List.length_nil];omega)) ?_)
 rintro _ _ _ ⟨rfl,p_0,v_0,hp_0,rfl⟩
 refine bST rfl ?_
 refine BN (an (DR [5] 6 (VD 0 0 tk89 3 rfl rfl rfl rfl rfl (VM 1 rfl rfl (VN 2 rfl rfl rfl (VO 3 1 rfl rfl rfl (VD 4 0 tk95 2 rfl rfl rfl rfl rfl ?_)))))))
 refine VE 5 rfl rfl (EC [3,1] [0,1,2] rfl (jA b bx 55 x.vs 1 x.parents rfl p_0 v_0 hp_0 (out++bz ak unT x.vs [0]) ak.enc (by simp only [e0,List.length_append,List.length_nil];omega) 47 [.pointer (some ⟨bc,0,none⟩)] (atC bc b) (by kernel_rfl) (fun y p v out bx _ hp hl=>mU b bc bx y p v hp out hl)) ?_)
 rintro _ _ _ ⟨rfl,p_1,v_1,hp_1,rfl⟩
 refine bST rfl ?_
 refine BN (FZ0 [0,1,2] Tryz.results61 ?_)
 rw [← hall];exact ⟨rfl,p_1,v_1,hp_1,rfl⟩
theorem mh(b rb bc bt bx:Nat)(p v:Value)(r:List UInt8)(bad:Bool)(hr:r.length≤1000000) :
   Con Tryz.prog 61 [.pointer (some ⟨bx,0,none⟩),.pointer (some ⟨bc,0,none⟩),.pointer (some ⟨bt,0,none⟩)] [cF (atC bc b) (atT bt bc)] [bR b p v (.pointer (some ⟨rb,0,none⟩)),rdB rb r bad,Box bx 55 [.string .empty,.slice none 0 0]]
     fun _ ps hp'=>∃ (x:aF) (r':List UInt8) (bad':Bool),cX.one (.R r bad) cX.zero=(.R r' bad',dw x)∧ps=[x.ok]∧hp'=[bR b p v (.pointer (some ⟨rb,0,none⟩)),rdB rb r' bad',Box bx 55 x.vs]:=by
 refine Con.rdF (P1:=fun x=>[ShF (fun s=>[.v (.string s)]) x.parents,b6 ek x.parents.l]) ?_ (fun x r' b' h p hp=>by
   rw [List.mem_singleton.1 hp]
   have hk:cX.ok (dw x):=cX.okR hr h
   exact Ent.mk2 (Ent.str hk.1) (Ent.mk2 (.of (aH 0 rfl)) (.of (aH 1 rfl))))
 refine EN3 Tryz.func61 rfl (aZ _ (Ent.left (.of (aH 0 rfl))) (aZ _ (Ent.right (.of (aH 1 rfl))) (ai (DR [5] 6 (VD 0 0 tk89 1 rfl rfl rfl rfl rfl (VM 1 rfl rfl (VN 2 rfl rfl rfl (VO 3 0 rfl rfl rfl (VB (zs:=[.pointer none]) 4 rfl el215 rfl rfl rfl rfl (.more rfl (.v rfl .nil) .nil) rfl rfl (fun v0_4=>(VE 5 rfl rfl (EC [3] [0,1,2] rfl (dQ b rb bx 55 [.string .empty,.slice none 0 0] p v r bad (by omega) ⟨v0_4,1,[0]⟩ (aJ .empty (by decide) rfl bD)) ?_))))))))))))
 rintro _ _ _ ⟨rfl,r_0,b_0,hq_0,rfl⟩;have hl_0:=cP (fun _ _ _=>rfl) _ _ _ _ (by omega) hq_0
 refine bST rfl ?_
 refine BN (an (DR [5] 6 (VD 0 0 tk89 2 rfl rfl rfl rfl rfl (VM 1 rfl rfl (VN 2 rfl rfl rfl (VO 3 1 rfl rfl rfl (VD 4 0 tk95 1 rfl rfl rfl rfl rfl (VE 5 rfl rfl (EC [1] [0,1,2] rfl (jz b rb bx 55 (goC ak Value.string unT (.R r bad) [.string .empty,.slice none 0 0] [0]).2 1 rfl p v r_0 b_0 (by omega) ak (fun s=>s) ek 47 [.pointer (some ⟨bc,0,none⟩)] (atC bc b) (by kernel_rfl) (fun r bad bx hr=>mT b rb bc bx p v r bad hr)) ?_)))))))))
 rintro _ _ _ ⟨l,r_1,b_1,hq_1,rfl,rfl⟩
 refine bST rfl ?_
 refine BN ?_
 refine rk [5,4] [0,1,2] rfl Tryz.results61 ?_ (.inl rfl)
 have k_0:(ak.one (.R r bad) ak.zero).1=.R r_0 b_0:=hq_0
 rw [List.map_id'] at hq_1
 refine ⟨⟨(ak.one (.R r bad) ak.zero).2,l⟩,r_1,b_1,?_,rfl,rfl⟩
 unfold cX
 simp only [ey,dT]
 rw [k_0,show (dE ak).zero=[] from rfl,hq_1]
theorem dr{τ:Type}{A:Cod τ}{r r':List UInt8}{b b':Bool}{l:List τ}(hr:r.length≤4611686018427387904)(h:(dE A).one (.R r b) []=(.R r' b',l)):r'.length≤r.length:=by
 obtain ⟨r1,b1,h1,h2,_⟩:=(dE A).rd r b hr
 have e:(dE A).zero=[]:=rfl
 rw [e,h] at h1
 obtain ⟨rfl,rfl⟩:=CS.R.inj h1
 exact h2
abbrev aeg:Type:=ByteArray × ByteArray × ByteArray × List zo × Int
def ix:Cod aeg:=Cod.prod ak (Cod.prod ak (Cod.prod ak (Cod.prod (dE fo) aj)))
abbrev gI(x:cr):aeg:=(x.obj,x.sec,x.from_,x.pieces.l.map fu,x.code)
def lO(x:cr):Prop:=(∀ y∈x.pieces.l,kU y)∧Go.Lv.I64 x.code
abbrev eP(x:dJ):List UInt8:=fo.enc (fu x)
theorem uo(b bc bx:Nat)(x:cr)(hx:lO x)(p v:Value)(hp:p=.pointer none∨p=.pointer (some ⟨b,0,none⟩))(out:List UInt8)(hl:(out++ix.enc (gI x)).length≤1000000000) :
   Con Tryz.prog 64 [.pointer (some ⟨bx,0,none⟩),.pointer (some ⟨bc,0,none⟩)] [cF (atC bc b) x.ok] [bR b p v (.pointer none),aN v 5 1 (out.map cE),Box bx 58 x.vs]
     fun _ ps hp'=>ps=[]∧∃ p' v',(p'=.pointer none∨p'=.pointer (some ⟨b,0,none⟩))∧hp'=[bR b p' v' (.pointer none),aN v' 5 1 ((out++ix.enc (gI x)).map cE),Box bx 58 x.vs]:=by
 have he:ix.enc (gI x)=ak.enc x.obj++(ak.enc x.sec++(ak.enc x.from_++((aQ x.pieces.l.length++aO eP x.pieces.l)++aj.enc x.code))):=by
   rw [← ct fo fu x.pieces.l];rfl
 rw [he] at hl ⊢
 have e0:bz ak unT x.vs [0,1,2]=ak.enc x.obj++(ak.enc x.sec++(ak.enc x.from_++[])):=rfl
 have e2:bz aj unI x.vs [4]=aj.enc x.code++[]:=rfl
 have hall:((out++bz ak unT x.vs [0,1,2])++(aQ x.pieces.l.length++aO eP x.pieces.l))++bz aj unI x.vs [4]=out++(ak.enc x.obj++(ak.enc x.sec++(ak.enc x.from_++((aQ x.pieces.l.length++aO eP x.pieces.l)++aj.enc x.code)))):=by simp only [e0,e2,List.append_assoc,List.append_nil]
 have hs1:=gN x.obj
 have hs2:=gN x.sec
 have hs3:=gN x.from_
 simp only [List.length_append] at hl
 refine EN2 Tryz.func64 rfl (aZ _ (Ent.left (.of (aH 0 rfl))) (aZ _ (cr.f_pieces (Ent.right (.of (aH 1 rfl)))) (ai (DR [11] 12 (VD 0 0 tk89 1 rfl rfl rfl rfl rfl (VM 1 rfl rfl (VN 2 rfl rfl rfl (VO 3 0 rfl rfl rfl (VM 4 rfl rfl (VN 5 rfl rfl rfl (VO 6 1 rfl rfl rfl (VM 7 rfl rfl (VN 8 rfl rfl rfl (VO 9 2 rfl rfl rfl ?_))))))))))))))
 refine VB (zs:=[.pointer none]) 10 rfl el215 rfl rfl rfl rfl (.more rfl (.v rfl .nil) (.more rfl (.v rfl .nil) (.more rfl (.v rfl .nil) .nil))) rfl rfl (fun v0_10 => ?_)
 refine VE 11 rfl rfl (EC [3] [0,1,2] rfl (dR b bx 58 x.vs p v hp out ⟨v0_10,3,[0,1,2]⟩ (aJ x.obj (by omega) rfl (aJ x.sec (by omega) rfl (aJ x.from_ (by omega) rfl bD))) (by simp only [e0,List.length_append,List.length_nil];omega)) ?_)
 rintro _ _ _ ⟨rfl,p_0,v_0,hp_0,rfl⟩
 refine bST rfl ?_
 refine BN (an (ai (DR [5] 6 (VD 0 0 tk89 2 rfl rfl rfl rfl rfl (VM 1 rfl rfl (VN 2 rfl rfl rfl (VO 3 3 rfl rfl rfl (bV 4 rfl rfl (cq (l:=[.tmp 1]) rfl) ?_))))))))
 refine VE 5 rfl rfl (EC [2,1] [0,1,2] rfl (pL b bx 58 x.vs 3 x.pieces rfl p_0 v_0 hp_0 (out++bz ak unT x.vs [0,1,2]) eP (by simp only [e0,List.length_append,List.length_nil];omega) 66 [.pointer (some ⟨bc,0,none⟩)] (atC bc b) (by kernel_rfl) (fun y p v out bx hy hp hl=>sA b bc bx y (hx.1 y hy) p v hp out hl)) ?_)
 rintro _ _ _ ⟨rfl,p_1,v_1,hp_1,rfl⟩
 refine bST rfl ?_
 refine BN (an (DR [5] 6 (VD 0 0 tk89 2 rfl rfl rfl rfl rfl (VM 1 rfl rfl (VN 2 rfl rfl rfl (VO 3 4 rfl rfl rfl (VB (zs:=[.pointer none]) 4 rfl el214 rfl rfl rfl rfl (.more rfl (.v rfl .nil) .nil) rfl rfl (fun v2_4 => ?_))))))))
 refine VE 5 rfl rfl (EC [4] [0,1,2] rfl (cS b bx 58 x.vs p_1 v_1 hp_1 ((out++bz ak unT x.vs [0,1,2])++(aQ x.pieces.l.length++aO eP x.pieces.l)) ⟨v2_4,1,[4]⟩ (aJ x.code hx.2 rfl bD) (by simp only [e0,e2,List.length_append,List.length_nil];omega)) ?_)
 rintro _ _ _ ⟨rfl,p_2,v_2,hp_2,rfl⟩
 refine bST rfl ?_
 refine BN (FZ0 [0,1,2] Tryz.results64 ?_)
 rw [← hall];exact ⟨rfl,p_2,v_2,hp_2,rfl⟩
theorem uf(b rb bc bx:Nat)(p v:Value)(r:List UInt8)(bad:Bool)(hr:r.length≤1000000) :
   Con Tryz.prog 64 [.pointer (some ⟨bx,0,none⟩),.pointer (some ⟨bc,0,none⟩)] [atC bc b] [bR b p v (.pointer (some ⟨rb,0,none⟩)),rdB rb r bad,Box bx 58 [.string .empty,.string .empty,.string .empty,.slice none 0 0,.int .i64 0]]
     fun _ ps hp'=>∃ (x:cr) (r':List UInt8) (bad':Bool),ix.one (.R r bad) ix.zero=(.R r' bad',gI x)∧ps=[x.ok]∧hp'=[bR b p v (.pointer (some ⟨rb,0,none⟩)),rdB rb r' bad',Box bx 58 x.vs]:=by
 refine Con.rdF (P1:=fun x=>[ShF dJ.row x.pieces,b6 (fun _=>Fa True) x.pieces.l]) ?_ (fun x r' b' h p hp=>by
   rw [List.mem_singleton.1 hp]
   have hk:ix.ok (gI x):=ix.okR hr h
   exact Ent.mk2 (Ent.str hk.1) (Ent.mk2 (Ent.str hk.2.1) (Ent.mk2 (Ent.str hk.2.2.1) (.of (aH 0 rfl)))))
 refine EN2 Tryz.func64 rfl (ai (DR [11] 12 (VD 0 0 tk89 0 rfl rfl rfl rfl rfl (VM 1 rfl rfl (VN 2 rfl rfl rfl (VO 3 0 rfl rfl rfl (VM 4 rfl rfl (VN 5 rfl rfl rfl (VO 6 1 rfl rfl rfl (VM 7 rfl rfl (VN 8 rfl rfl rfl (VO 9 2 rfl rfl rfl (VB (zs:=[.pointer none]) 10 rfl el215 rfl rfl rfl rfl (.more rfl (.v rfl .nil) (.more rfl (.v rfl .nil) (.more rfl (.v rfl .nil) .nil))) rfl rfl (fun v0_10 => ?_))))))))))))))
 refine VE 11 rfl rfl (EC [1] [0,1,2] rfl (dQ b rb bx 58 [.string .empty,.string .empty,.string .empty,.slice none 0 0,.int .i64 0] p v r bad (by omega) ⟨v0_10,3,[0,1,2]⟩ (aJ .empty (by decide) rfl (aJ .empty (by decide) rfl (aJ .empty (by decide) rfl bD)))) ?_)
 rintro _ _ _ ⟨rfl,r_0,b_0,hq_0,rfl⟩;have hl_0:=cP (fun _ _ _=>rfl) _ _ _ _ (by omega) hq_0
 refine bST rfl ?_
 refine BN (an (ai (DR [5] 6 (VD 0 0 tk89 1 rfl rfl rfl rfl rfl (VM 1 rfl rfl (VN 2 rfl rfl rfl (VO 3 3 rfl rfl rfl (bV 4 rfl rfl (cq (l:=[.tmp 1]) rfl) (VE 5 rfl rfl (EC [0] [0,1,2] rfl (pJ b rb bx 58 (goC ak Value.string unT (.R r bad) [.string .empty,.string .empty,.string .empty,.slice none 0 0,.int .i64 0] [0,1,2]).2 3 rfl p v r_0 b_0 (by omega) fo fu (fun _=>Fa True) 66 [.pointer (some ⟨bc,0,none⟩)] (atC bc b) (by kernel_rfl) (fun r bad bx hr=>su b rb bc bx p v r bad hr)) ?_))))))))))
 rintro _ _ _ ⟨l,r_1,b_1,hq_1,rfl,rfl⟩;have hl_1:=dr (by omega) hq_1
 refine bST rfl ?_
 refine BN (an (DR [5] 6 (VD 0 0 tk89 3 rfl rfl rfl rfl rfl (VM 1 rfl rfl (VN 2 rfl rfl rfl (VO 3 4 rfl rfl rfl (VB (zs:=[.pointer none]) 4 rfl el214 rfl rfl rfl rfl (.more rfl (.v rfl .nil) .nil) rfl rfl (fun v2_4=>(VE 5 rfl rfl (EC [4] [0,1,2] rfl (cQ b rb bx 58 ((goC ak Value.string unT (.R r bad) [.string .empty,.string .empty,.string .empty,.slice none 0 0,.int .i64 0] [0,1,2]).2.set 3 l.val) p v r_1 b_1 (by omega) ⟨v2_4,1,[4]⟩ (aJ 0 (by decide) rfl bD)) ?_))))))))))
 rintro _ _ _ ⟨rfl,r_2,b_2,hq_2,rfl⟩
 refine bST rfl ?_
 refine BN ?_
 refine rk [3,2] [0,1,2] rfl Tryz.results64 ?_ (.inl rfl)
 have k_0:(ak.one (ak.one (ak.one (.R r bad) ak.zero).1 ak.zero).1 ak.zero).1=.R r_0 b_0:=hq_0
 have k_2:(aj.one (.R r_1 b_1) aj.zero).1=.R r_2 b_2:=hq_2
 refine ⟨⟨_,_,_,l,_⟩,r_2,b_2,?_,rfl,rfl⟩
 unfold ix
 simp only [ey,dT]
 rw [k_0,show (dE fo).zero=[] from rfl,hq_1]
 dsimp only
 rw [k_2]
 all_goals rfl
end Go.Proofs.YtebnelfdimiifaaGreatDoor

