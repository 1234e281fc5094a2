/- Parts of the proof, in build order. No condition. -/
import Derived.Test.YtfkcmbonmpcbfaaGreatRa21
import Derived.Test.YtfkcmbonmpcbfaaGreatRa05
import Derived.Test.YtfkcmbonmpcbfaaGreatRa09
set_option linter.unusedSimpArgs false
set_option linter.unusedVariables false
set_option maxHeartbeats 1000000
set_option maxRecDepth 20000
namespace Go.Lv
open Go.RowKit Go.Lp Go.Sy
theorem cZ{α:Type}{A:Cod α}{vl:α→Value}{un:Value→α}(hz:∀ r b x,A.one (.R r b) x=A.one (.R r b) A.zero):∀ (os:List Nat) (cs:List Value) (r:List UInt8) (b:Bool) {r':List UInt8} {b':Bool},r.length≤4611686018427387904→(goC A vl un (.R r b) cs os).1=.R r' b'→r'.length≤r.length
 | [],cs,r,b,r',b',_,h=>by obtain ⟨rfl,rfl⟩:=CS.R.inj h;exact Nat.le_refl _
 | o::os,cs,r,b,r',b',hr,h=>by
   unfold goC at h
   obtain ⟨r1,b1,h1,h2,_⟩:=A.rd r b hr
   rw [hz,h1] at h
   exact Nat.le_trans (cZ hz os _ r1 b1 (by omega) h) h2
theorem eF{α β:Type}(A:Cod α)(B:Cod β)(s:CS)(x:α × β):(A.prod B).one s x=((B.one (A.one s x.1).1 x.2).1,((A.one s x.1).2,(B.one (A.one s x.1).1 x.2).2)):=rfl
theorem dY{α β:Type}(A:Cod α)(B:Cod β):(A.prod B).zero=(A.zero,B.zero):=rfl
theorem kQ{x:Bool}{r r':List UInt8}{b b':Bool}(hr:r.length≤4611686018427387904)(h:(bP.one (.R r b) x).1=.R r' b'):r'.length≤r.length:=by
 obtain ⟨r1,b1,h1,h2,_⟩:=bP.rd r b hr
 have:(bP.one (.R r b) x).1=(bP.one (.R r b) bP.zero).1:=rfl
 rw [this,h1] at h
 obtain ⟨rfl,rfl⟩:=CS.R.inj h
 exact h2
end Go.Lv
namespace Go.Proofs.YtfkcmbonmpcbfaaGreat
open Go.RowKit Go.Lp Go.Sy Go.Lv
open Go.Proofs.Tryz
attribute [local irreducible] aL aB awp aC fwp Quiet
theorem pE(b rb bc bx:Nat)(p v:Value)(r:List UInt8)(bad:Bool)(hr:r.length≤1000000) :
   Con Tryz.prog 107 [.pointer (some ⟨bx,0,none⟩),.pointer (some ⟨bc,0,none⟩)] [atC bc b] [bR b p v (.pointer (some ⟨rb,0,none⟩)),rdB rb r bad,Box bx 153 [.string .empty,.string .empty,.int .i64 0,.int .i64 0,.int .i64 0,.string .empty,.string .empty]]
     fun _ ps hp'=>∃ (x:ba) (r':List UInt8) (bad':Bool),dN.one (.R r bad) dN.zero=(.R r' bad',et x)∧ps=[]∧hp'=[bR b p v (.pointer (some ⟨rb,0,none⟩)),rdB rb r' bad',Box bx 153 x.vs]:=by
 refine EN2 Tryz.func107 rfl (ah (DR [8] 9 (VD 0 0 tk164 0 rfl rfl rfl rfl rfl (VM 1 rfl rfl (VN 2 rfl rfl rfl (VO 3 0 rfl rfl rfl (VM 4 rfl rfl (VN 5 rfl rfl rfl (VO 6 1 rfl rfl rfl (VB (zs:=[.pointer none]) 7 rfl el314 rfl rfl rfl rfl (.more rfl (.v rfl .nil) (.more rfl (.v rfl .nil) .nil)) rfl rfl (fun v0_7=>(VE 8 rfl rfl (EC [1] [0,1,2] rfl (dW b rb bx 153 ([.string .empty,.string .empty,.int .i64 0,.int .i64 0,.int .i64 0,.string .empty,.string .empty]:List Value) p v r bad (by omega) ⟨v0_7,2,[0,1]⟩ (aJ ByteArray.empty (by decide) rfl (aJ ByteArray.empty (by decide) rfl bD))) ?_)))))))))))))
 rintro _ _ _ ⟨rfl,r_0,b_0,hq_0,rfl⟩;have hl_0:=cZ (fun _ _ _=>rfl) _ _ _ _ (by omega) hq_0
 refine bST rfl ?_
 refine BN (aj (ah (DR [11] 12 (VD 0 0 tk164 1 rfl rfl rfl rfl rfl (VM 1 rfl rfl (VN 2 rfl rfl rfl (VO 3 2 rfl rfl rfl (VM 4 rfl rfl (VN 5 rfl rfl rfl (VO 6 3 rfl rfl rfl (VM 7 rfl rfl (VN 8 rfl rfl rfl (VO 9 4 rfl rfl rfl (VB (zs:=[.pointer none]) 10 rfl el313 rfl rfl rfl rfl (.more rfl (.v rfl .nil) (.more rfl (.v rfl .nil) (.more rfl (.v rfl .nil) .nil))) rfl rfl (fun v1_10 => ?_)))))))))))))))
 refine VE 11 rfl rfl (EC [2] [0,1,2] rfl (db b rb bx 153 (goC an Value.string unT (.R r bad) ([.string .empty,.string .empty,.int .i64 0,.int .i64 0,.int .i64 0,.string .empty,.string .empty]:List Value) [0,1]).2 p v r_0 b_0 (by omega) ⟨v1_10,3,[2,3,4]⟩ (aJ 0 (by decide) rfl (aJ 0 (by decide) rfl (aJ 0 (by decide) rfl bD)))) ?_)
 rintro _ _ _ ⟨rfl,r_1,b_1,hq_1,rfl⟩;have hl_1:=cZ (fun _ _ _=>rfl) _ _ _ _ (by omega) hq_1
 refine bST rfl ?_
 refine BN (aj (DR [8] 9 (VD 0 0 tk164 2 rfl rfl rfl rfl rfl (VM 1 rfl rfl (VN 2 rfl rfl rfl (VO 3 5 rfl rfl rfl (VM 4 rfl rfl (VN 5 rfl rfl rfl (VO 6 6 rfl rfl rfl (VB (zs:=[.pointer none]) 7 rfl el314 rfl rfl rfl rfl (.more rfl (.v rfl .nil) (.more rfl (.v rfl .nil) .nil)) rfl rfl (fun v2_7=>(VE 8 rfl rfl (EC [3] [0,1,2] rfl (dW b rb bx 153 (goC ak (fun z:Int=>Value.int .i64 z) unI (.R r_0 b_0) (goC an Value.string unT (.R r bad) ([.string .empty,.string .empty,.int .i64 0,.int .i64 0,.int .i64 0,.string .empty,.string .empty]:List Value) [0,1]).2 [2,3,4]).2 p v r_1 b_1 (by omega) ⟨v2_7,2,[5,6]⟩ (aJ ByteArray.empty (by decide) rfl (aJ ByteArray.empty (by decide) rfl bD))) ?_)))))))))))))
 rintro _ _ _ ⟨rfl,r_2,b_2,hq_2,rfl⟩;have hl_2:=cZ (fun _ _ _=>rfl) _ _ _ _ (by omega) hq_2
 refine bST rfl ?_
 refine BN (FZ0 [0,1,2] Tryz.results107 ?_)
 have k_0:(an.one (an.one (.R r bad) an.zero).1 an.zero).1=.R r_0 b_0:=hq_0
 have k_1:(ak.one (ak.one (ak.one (.R r_0 b_0) ak.zero).1 ak.zero).1 ak.zero).1=.R r_1 b_1:=hq_1
 have k_2:(an.one (an.one (.R r_1 b_1) an.zero).1 an.zero).1=.R r_2 b_2:=hq_2
 refine ⟨⟨_,_,_,_,_,_,_⟩,r_2,b_2,?_,rfl,rfl⟩
 unfold dN
 simp only [eF,dY]
 rw [k_0,k_1,k_2]
 all_goals rfl
theorem pB(b rb bc bx:Nat)(p v:Value)(r:List UInt8)(bad:Bool)(hr:r.length≤1000000) :
   Con Tryz.prog 109 [.pointer (some ⟨bx,0,none⟩),.pointer (some ⟨bc,0,none⟩)] [atC bc b] [bR b p v (.pointer (some ⟨rb,0,none⟩)),rdB rb r bad,Box bx 159 [.string .empty,.string .empty,.bool false,.int .i64 0,.int .i64 0,.int .i64 0]]
     fun _ ps hp'=>∃ (x:bA) (r':List UInt8) (bad':Bool),dL.one (.R r bad) dL.zero=(.R r' bad',eo x)∧ps=[]∧hp'=[bR b p v (.pointer (some ⟨rb,0,none⟩)),rdB rb r' bad',Box bx 159 x.vs]:=by
 refine EN2 Tryz.func109 rfl (ah (DR [8] 9 (VD 0 0 tk164 0 rfl rfl rfl rfl rfl (VM 1 rfl rfl (VN 2 rfl rfl rfl (VO 3 0 rfl rfl rfl (VM 4 rfl rfl (VN 5 rfl rfl rfl (VO 6 1 rfl rfl rfl (VB (zs:=[.pointer none]) 7 rfl el314 rfl rfl rfl rfl (.more rfl (.v rfl .nil) (.more rfl (.v rfl .nil) .nil)) rfl rfl (fun v0_7=>(VE 8 rfl rfl (EC [1] [0,1,2] rfl (dW b rb bx 159 ([.string .empty,.string .empty,.bool false,.int .i64 0,.int .i64 0,.int .i64 0]:List Value) p v r bad (by omega) ⟨v0_7,2,[0,1]⟩ (aJ ByteArray.empty (by decide) rfl (aJ ByteArray.empty (by decide) rfl bD))) ?_)))))))))))))
 rintro _ _ _ ⟨rfl,r_0,b_0,hq_0,rfl⟩;have hl_0:=cZ (fun _ _ _=>rfl) _ _ _ _ (by omega) hq_0
 refine bST rfl ?_
 refine BN (aj (ah (DR [4] 5 (VD 0 0 tk164 1 rfl rfl rfl rfl rfl (VM 1 rfl rfl (VN 2 rfl rfl rfl (VO 3 2 rfl rfl rfl (VE 4 rfl rfl (EC [] [0,1,2] rfl (kS false b rb bx 159 (goC an Value.string unT (.R r bad) ([.string .empty,.string .empty,.bool false,.int .i64 0,.int .i64 0,.int .i64 0]:List Value) [0,1]).2 2 rfl p v r_0 b_0 (by omega)) ?_)))))))))
 rintro _ _ _ ⟨rfl,r_1,b_1,hq_1,rfl⟩;have hl_1:=kQ (by omega) hq_1
 refine bST rfl ?_
 refine BN (aj (DR [11] 12 (VD 0 0 tk164 1 rfl rfl rfl rfl rfl (VM 1 rfl rfl (VN 2 rfl rfl rfl (VO 3 3 rfl rfl rfl (VM 4 rfl rfl (VN 5 rfl rfl rfl (VO 6 4 rfl rfl rfl (VM 7 rfl rfl (VN 8 rfl rfl rfl (VO 9 5 rfl rfl rfl (VB (zs:=[.pointer none]) 10 rfl el313 rfl rfl rfl rfl (.more rfl (.v rfl .nil) (.more rfl (.v rfl .nil) (.more rfl (.v rfl .nil) .nil))) rfl rfl (fun v2_10 => ?_))))))))))))))
 refine VE 11 rfl rfl (EC [2] [0,1,2] rfl (db b rb bx 159 ((goC an Value.string unT (.R r bad) ([.string .empty,.string .empty,.bool false,.int .i64 0,.int .i64 0,.int .i64 0]:List Value) [0,1]).2.set 2 (.bool (bP.one (.R r_0 b_0) false).2)) p v r_1 b_1 (by omega) ⟨v2_10,3,[3,4,5]⟩ (aJ 0 (by decide) rfl (aJ 0 (by decide) rfl (aJ 0 (by decide) rfl bD)))) ?_)
 rintro _ _ _ ⟨rfl,r_2,b_2,hq_2,rfl⟩;have hl_2:=cZ (fun _ _ _=>rfl) _ _ _ _ (by omega) hq_2
 refine bST rfl ?_
 refine BN (FZ0 [0,1,2] Tryz.results109 ?_)
 have k_0:(an.one (an.one (.R r bad) an.zero).1 an.zero).1=.R r_0 b_0:=hq_0
 have k_1:(bP.one (.R r_0 b_0) bP.zero).1=.R r_1 b_1:=hq_1
 have k_2:(ak.one (ak.one (ak.one (.R r_1 b_1) ak.zero).1 ak.zero).1 ak.zero).1=.R r_2 b_2:=hq_2
 refine ⟨⟨_,_,_,_,_,_⟩,r_2,b_2,?_,rfl,rfl⟩
 unfold dL
 simp only [eF,dY]
 rw [k_0,k_1,k_2]
 all_goals rfl
theorem pC(b rb bc bx:Nat)(p v:Value)(r:List UInt8)(bad:Bool)(hr:r.length≤1000000) :
   Con Tryz.prog 111 [.pointer (some ⟨bx,0,none⟩),.pointer (some ⟨bc,0,none⟩)] [atC bc b] [bR b p v (.pointer (some ⟨rb,0,none⟩)),rdB rb r bad,Box bx 155 [.string .empty,.string .empty,.int .i64 0,.bool false,.bool false]]
     fun _ ps hp'=>∃ (x:bK) (r':List UInt8) (bad':Bool),dM.one (.R r bad) dM.zero=(.R r' bad',ep x)∧ps=[]∧hp'=[bR b p v (.pointer (some ⟨rb,0,none⟩)),rdB rb r' bad',Box bx 155 x.vs]:=by
 refine EN2 Tryz.func111 rfl (ah (DR [8] 9 (VD 0 0 tk164 0 rfl rfl rfl rfl rfl (VM 1 rfl rfl (VN 2 rfl rfl rfl (VO 3 0 rfl rfl rfl (VM 4 rfl rfl (VN 5 rfl rfl rfl (VO 6 1 rfl rfl rfl (VB (zs:=[.pointer none]) 7 rfl el314 rfl rfl rfl rfl (.more rfl (.v rfl .nil) (.more rfl (.v rfl .nil) .nil)) rfl rfl (fun v0_7=>(VE 8 rfl rfl (EC [1] [0,1,2] rfl (dW b rb bx 155 ([.string .empty,.string .empty,.int .i64 0,.bool false,.bool false]:List Value) p v r bad (by omega) ⟨v0_7,2,[0,1]⟩ (aJ ByteArray.empty (by decide) rfl (aJ ByteArray.empty (by decide) rfl bD))) ?_)))))))))))))
 rintro _ _ _ ⟨rfl,r_0,b_0,hq_0,rfl⟩;have hl_0:=cZ (fun _ _ _=>rfl) _ _ _ _ (by omega) hq_0
 refine bST rfl ?_
 refine BN (aj (ah (DR [5] 6 (VD 0 0 tk164 1 rfl rfl rfl rfl rfl (VM 1 rfl rfl (VN 2 rfl rfl rfl (VO 3 2 rfl rfl rfl (VB (zs:=[.pointer none]) 4 rfl el313 rfl rfl rfl rfl (.more rfl (.v rfl .nil) .nil) rfl rfl (fun v1_4=>(VE 5 rfl rfl (EC [2] [0,1,2] rfl (db b rb bx 155 (goC an Value.string unT (.R r bad) ([.string .empty,.string .empty,.int .i64 0,.bool false,.bool false]:List Value) [0,1]).2 p v r_0 b_0 (by omega) ⟨v1_4,1,[2]⟩ (aJ 0 (by decide) rfl bD)) ?_)))))))))))
 rintro _ _ _ ⟨rfl,r_1,b_1,hq_1,rfl⟩;have hl_1:=cZ (fun _ _ _=>rfl) _ _ _ _ (by omega) hq_1
 refine bST rfl ?_
 refine BN (aj (ah (DR [4] 5 (VD 0 0 tk164 2 rfl rfl rfl rfl rfl (VM 1 rfl rfl (VN 2 rfl rfl rfl (VO 3 3 rfl rfl rfl (VE 4 rfl rfl (EC [] [0,1,2] rfl (kS false b rb bx 155 (goC ak (fun z:Int=>Value.int .i64 z) unI (.R r_0 b_0) (goC an Value.string unT (.R r bad) ([.string .empty,.string .empty,.int .i64 0,.bool false,.bool false]:List Value) [0,1]).2 [2]).2 3 rfl p v r_1 b_1 (by omega)) ?_)))))))))
 rintro _ _ _ ⟨rfl,r_2,b_2,hq_2,rfl⟩;have hl_2:=kQ (by omega) hq_2
 refine bST rfl ?_
 refine BN (aj (DR [4] 5 (VD 0 0 tk164 2 rfl rfl rfl rfl rfl (VM 1 rfl rfl (VN 2 rfl rfl rfl (VO 3 4 rfl rfl rfl (VE 4 rfl rfl (EC [] [0,1,2] rfl (kS false b rb bx 155 ((goC ak (fun z:Int=>Value.int .i64 z) unI (.R r_0 b_0) (goC an Value.string unT (.R r bad) ([.string .empty,.string .empty,.int .i64 0,.bool false,.bool false]:List Value) [0,1]).2 [2]).2.set 3 (.bool (bP.one (.R r_1 b_1) false).2)) 4 rfl p v r_2 b_2 (by omega)) ?_))))))))
 rintro _ _ _ ⟨rfl,r_3,b_3,hq_3,rfl⟩;have hl_3:=kQ (by omega) hq_3
 refine bST rfl ?_
 refine BN (FZ0 [0,1,2] Tryz.results111 ?_)
 have k_0:(an.one (an.one (.R r bad) an.zero).1 an.zero).1=.R r_0 b_0:=hq_0
 have k_1:(ak.one (.R r_0 b_0) ak.zero).1=.R r_1 b_1:=hq_1
 have k_2:(bP.one (.R r_1 b_1) bP.zero).1=.R r_2 b_2:=hq_2
 have k_3:(bP.one (.R r_2 b_2) bP.zero).1=.R r_3 b_3:=hq_3
 refine ⟨⟨_,_,_,_,_⟩,r_3,b_3,?_,rfl,rfl⟩
 unfold dM
 simp only [eF,dY]
 rw [k_0,k_1,k_2,k_3]
 all_goals rfl
theorem um(b rb bc bx:Nat)(p v:Value)(r:List UInt8)(bad:Bool)(hr:r.length≤1000000) :
   Con Tryz.prog 114 [.pointer (some ⟨bx,0,none⟩),.pointer (some ⟨bc,0,none⟩)] [atC bc b] [bR b p v (.pointer (some ⟨rb,0,none⟩)),rdB rb r bad,Box bx 157 [.int .i64 0,.int .i64 0,.int .i64 0,.int .i64 0]]
     fun _ ps hp'=>∃ (x:fb) (r':List UInt8) (bad':Bool),jl.one (.R r bad) jl.zero=(.R r' bad',iT x)∧ps=[]∧hp'=[bR b p v (.pointer (some ⟨rb,0,none⟩)),rdB rb r' bad',Box bx 157 x.vs]:=by
 refine EN2 Tryz.func114 rfl (DR [14] 15 (VD 0 0 tk164 0 rfl rfl rfl rfl rfl (VM 1 rfl rfl (VN 2 rfl rfl rfl (VO 3 0 rfl rfl rfl (VM 4 rfl rfl (VN 5 rfl rfl rfl (VO 6 1 rfl rfl rfl (VM 7 rfl rfl (VN 8 rfl rfl rfl (VO 9 2 rfl rfl rfl (VM 10 rfl rfl (VN 11 rfl rfl rfl (VO 12 3 rfl rfl rfl ?_))))))))))))))
 refine VB (zs:=[.pointer none]) 13 rfl el313 rfl rfl rfl rfl (.more rfl (.v rfl .nil) (.more rfl (.v rfl .nil) (.more rfl (.v rfl .nil) (.more rfl (.v rfl .nil) .nil)))) rfl rfl (fun v0_13=>(VE 14 rfl rfl (EC [1] [0,1,2] rfl (db b rb bx 157 ([.int .i64 0,.int .i64 0,.int .i64 0,.int .i64 0]:List Value) p v r bad (by omega) ⟨v0_13,4,[0,1,2,3]⟩ (aJ 0 (by decide) rfl (aJ 0 (by decide) rfl (aJ 0 (by decide) rfl (aJ 0 (by decide) rfl bD))))) ?_)))
 rintro _ _ _ ⟨rfl,r_0,b_0,hq_0,rfl⟩;have hl_0:=cZ (fun _ _ _=>rfl) _ _ _ _ (by omega) hq_0
 refine bST rfl ?_
 refine BN (FZ0 [0,1,2] Tryz.results114 ?_)
 have k_0:(ak.one (ak.one (ak.one (ak.one (.R r bad) ak.zero).1 ak.zero).1 ak.zero).1 ak.zero).1=.R r_0 b_0:=hq_0
 refine ⟨⟨_,_,_,_⟩,r_0,b_0,?_,rfl,rfl⟩
 unfold jl
 simp only [eF,dY]
 rw [k_0]
 all_goals rfl
theorem q9(b rb bc bx:Nat)(p v:Value)(r:List UInt8)(bad:Bool)(hr:r.length≤1000000) :
   Con Tryz.prog 122 [.pointer (some ⟨bx,0,none⟩),.pointer (some ⟨bc,0,none⟩)] [atC bc b] [bR b p v (.pointer (some ⟨rb,0,none⟩)),rdB rb r bad,Box bx 209 [.int .i64 0,.int .i64 0,.int .i64 0]]
     fun _ ps hp'=>∃ (x:dw) (r':List UInt8) (bad':Bool),eJ.one (.R r bad) eJ.zero=(.R r' bad',fl x)∧ps=[]∧hp'=[bR b p v (.pointer (some ⟨rb,0,none⟩)),rdB rb r' bad',Box bx 209 x.vs]:=by
 refine EN2 Tryz.func122 rfl (DR [11] 12 (VD 0 0 tk164 0 rfl rfl rfl rfl rfl (VM 1 rfl rfl (VN 2 rfl rfl rfl (VO 3 0 rfl rfl rfl (VM 4 rfl rfl (VN 5 rfl rfl rfl (VO 6 1 rfl rfl rfl (VM 7 rfl rfl (VN 8 rfl rfl rfl (VO 9 2 rfl rfl rfl (VB (zs:=[.pointer none]) 10 rfl el313 rfl rfl rfl rfl (.more rfl (.v rfl .nil) (.more rfl (.v rfl .nil) (.more rfl (.v rfl .nil) .nil))) rfl rfl (fun v0_10=>(VE 11 rfl rfl (EC [1] [0,1,2] rfl (db b rb bx 209 ([.int .i64 0,.int .i64 0,.int .i64 0]:List Value) p v r bad (by omega) ⟨v0_10,3,[0,1,2]⟩ (aJ 0 (by decide) rfl (aJ 0 (by decide) rfl (aJ 0 (by decide) rfl bD)))) ?_)))))))))))))))
 rintro _ _ _ ⟨rfl,r_0,b_0,hq_0,rfl⟩;have hl_0:=cZ (fun _ _ _=>rfl) _ _ _ _ (by omega) hq_0
 refine bST rfl ?_
 refine BN (FZ0 [0,1,2] Tryz.results122 ?_)
 have k_0:(ak.one (ak.one (ak.one (.R r bad) ak.zero).1 ak.zero).1 ak.zero).1=.R r_0 b_0:=hq_0
 refine ⟨⟨_,_,_⟩,r_0,b_0,?_,rfl,rfl⟩
 unfold eJ
 simp only [eF,dY]
 rw [k_0]
 all_goals rfl
theorem sO(b rb bc bx:Nat)(p v:Value)(r:List UInt8)(bad:Bool)(hr:r.length≤1000000) :
   Con Tryz.prog 223 [.pointer (some ⟨bx,0,none⟩),.pointer (some ⟨bc,0,none⟩)] [atC bc b] [bR b p v (.pointer (some ⟨rb,0,none⟩)),rdB rb r bad,Box bx 218 [.string .empty,.int .i64 0,.int .i64 0,.int .i64 0]]
     fun _ ps hp'=>∃ (x:cN) (r':List UInt8) (bad':Bool),fB.one (.R r bad) fB.zero=(.R r' bad',gb x)∧ps=[]∧hp'=[bR b p v (.pointer (some ⟨rb,0,none⟩)),rdB rb r' bad',Box bx 218 x.vs]:=by
 refine EN2 Tryz.func223 rfl (ah (DR [5] 6 (VD 0 0 tk164 0 rfl rfl rfl rfl rfl (VM 1 rfl rfl (VN 2 rfl rfl rfl (VO 3 0 rfl rfl rfl (VB (zs:=[.pointer none]) 4 rfl el314 rfl rfl rfl rfl (.more rfl (.v rfl .nil) .nil) rfl rfl (fun v0_4=>(VE 5 rfl rfl (EC [1] [0,1,2] rfl (dW b rb bx 218 ([.string .empty,.int .i64 0,.int .i64 0,.int .i64 0]:List Value) p v r bad (by omega) ⟨v0_4,1,[0]⟩ (aJ ByteArray.empty (by decide) rfl bD)) ?_))))))))))
 rintro _ _ _ ⟨rfl,r_0,b_0,hq_0,rfl⟩;have hl_0:=cZ (fun _ _ _=>rfl) _ _ _ _ (by omega) hq_0
 refine bST rfl ?_
 refine BN (aj (DR [11] 12 (VD 0 0 tk164 1 rfl rfl rfl rfl rfl (VM 1 rfl rfl (VN 2 rfl rfl rfl (VO 3 1 rfl rfl rfl (VM 4 rfl rfl (VN 5 rfl rfl rfl (VO 6 2 rfl rfl rfl (VM 7 rfl rfl (VN 8 rfl rfl rfl (VO 9 3 rfl rfl rfl (VB (zs:=[.pointer none]) 10 rfl el313 rfl rfl rfl rfl (.more rfl (.v rfl .nil) (.more rfl (.v rfl .nil) (.more rfl (.v rfl .nil) .nil))) rfl rfl (fun v1_10 => ?_))))))))))))))
 refine VE 11 rfl rfl (EC [2] [0,1,2] rfl (db b rb bx 218 (goC an Value.string unT (.R r bad) ([.string .empty,.int .i64 0,.int .i64 0,.int .i64 0]:List Value) [0]).2 p v r_0 b_0 (by omega) ⟨v1_10,3,[1,2,3]⟩ (aJ 0 (by decide) rfl (aJ 0 (by decide) rfl (aJ 0 (by decide) rfl bD)))) ?_)
 rintro _ _ _ ⟨rfl,r_1,b_1,hq_1,rfl⟩;have hl_1:=cZ (fun _ _ _=>rfl) _ _ _ _ (by omega) hq_1
 refine bST rfl ?_
 refine BN (FZ0 [0,1,2] Tryz.results223 ?_)
 have k_0:(an.one (.R r bad) an.zero).1=.R r_0 b_0:=hq_0
 have k_1:(ak.one (ak.one (ak.one (.R r_0 b_0) ak.zero).1 ak.zero).1 ak.zero).1=.R r_1 b_1:=hq_1
 refine ⟨⟨_,_,_,_⟩,r_1,b_1,?_,rfl,rfl⟩
 unfold fB
 simp only [eF,dY]
 rw [k_0,k_1]
 all_goals rfl
theorem sN(b rb bc bx:Nat)(p v:Value)(r:List UInt8)(bad:Bool)(hr:r.length≤1000000) :
   Con Tryz.prog 225 [.pointer (some ⟨bx,0,none⟩),.pointer (some ⟨bc,0,none⟩)] [atC bc b] [bR b p v (.pointer (some ⟨rb,0,none⟩)),rdB rb r bad,Box bx 220 [.int .i64 0,.int .i64 0,.string .empty,.int .i64 0]]
     fun _ ps hp'=>∃ (x:cS) (r':List UInt8) (bad':Bool),fA.one (.R r bad) fA.zero=(.R r' bad',ga x)∧ps=[]∧hp'=[bR b p v (.pointer (some ⟨rb,0,none⟩)),rdB rb r' bad',Box bx 220 x.vs]:=by
 refine EN2 Tryz.func225 rfl (ah (DR [8] 9 (VD 0 0 tk164 0 rfl rfl rfl rfl rfl (VM 1 rfl rfl (VN 2 rfl rfl rfl (VO 3 0 rfl rfl rfl (VM 4 rfl rfl (VN 5 rfl rfl rfl (VO 6 1 rfl rfl rfl (VB (zs:=[.pointer none]) 7 rfl el313 rfl rfl rfl rfl (.more rfl (.v rfl .nil) (.more rfl (.v rfl .nil) .nil)) rfl rfl (fun v0_7=>(VE 8 rfl rfl (EC [1] [0,1,2] rfl (db b rb bx 220 ([.int .i64 0,.int .i64 0,.string .empty,.int .i64 0]:List Value) p v r bad (by omega) ⟨v0_7,2,[0,1]⟩ (aJ 0 (by decide) rfl (aJ 0 (by decide) rfl bD))) ?_)))))))))))))
 rintro _ _ _ ⟨rfl,r_0,b_0,hq_0,rfl⟩;have hl_0:=cZ (fun _ _ _=>rfl) _ _ _ _ (by omega) hq_0
 refine bST rfl ?_
 refine BN (aj (ah (DR [5] 6 (VD 0 0 tk164 1 rfl rfl rfl rfl rfl (VM 1 rfl rfl (VN 2 rfl rfl rfl (VO 3 2 rfl rfl rfl (VB (zs:=[.pointer none]) 4 rfl el314 rfl rfl rfl rfl (.more rfl (.v rfl .nil) .nil) rfl rfl (fun v1_4=>(VE 5 rfl rfl (EC [2] [0,1,2] rfl (dW b rb bx 220 (goC ak (fun z:Int=>Value.int .i64 z) unI (.R r bad) ([.int .i64 0,.int .i64 0,.string .empty,.int .i64 0]:List Value) [0,1]).2 p v r_0 b_0 (by omega) ⟨v1_4,1,[2]⟩ (aJ ByteArray.empty (by decide) rfl bD)) ?_)))))))))))
 rintro _ _ _ ⟨rfl,r_1,b_1,hq_1,rfl⟩;have hl_1:=cZ (fun _ _ _=>rfl) _ _ _ _ (by omega) hq_1
 refine bST rfl ?_
 refine BN (aj (DR [5] 6 (VD 0 0 tk164 2 rfl rfl rfl rfl rfl (VM 1 rfl rfl (VN 2 rfl rfl rfl (VO 3 3 rfl rfl rfl (VB (zs:=[.pointer none]) 4 rfl el313 rfl rfl rfl rfl (.more rfl (.v rfl .nil) .nil) rfl rfl (fun v2_4=>(VE 5 rfl rfl (EC [3] [0,1,2] rfl (db b rb bx 220 (goC an Value.string unT (.R r_0 b_0) (goC ak (fun z:Int=>Value.int .i64 z) unI (.R r bad) ([.int .i64 0,.int .i64 0,.string .empty,.int .i64 0]:List Value) [0,1]).2 [2]).2 p v r_1 b_1 (by omega) ⟨v2_4,1,[3]⟩ (aJ 0 (by decide) rfl bD)) ?_))))))))))
 rintro _ _ _ ⟨rfl,r_2,b_2,hq_2,rfl⟩;have hl_2:=cZ (fun _ _ _=>rfl) _ _ _ _ (by omega) hq_2
 refine bST rfl ?_
 refine BN (FZ0 [0,1,2] Tryz.results225 ?_)
 have k_0:(ak.one (ak.one (.R r bad) ak.zero).1 ak.zero).1=.R r_0 b_0:=hq_0
 have k_1:(an.one (.R r_0 b_0) an.zero).1=.R r_1 b_1:=hq_1
 have k_2:(ak.one (.R r_1 b_1) ak.zero).1=.R r_2 b_2:=hq_2
 refine ⟨⟨_,_,_,_⟩,r_2,b_2,?_,rfl,rfl⟩
 unfold fA
 simp only [eF,dY]
 rw [k_0,k_1,k_2]
 all_goals rfl
theorem sP(b rb bc bx:Nat)(p v:Value)(r:List UInt8)(bad:Bool)(hr:r.length≤1000000) :
   Con Tryz.prog 227 [.pointer (some ⟨bx,0,none⟩),.pointer (some ⟨bc,0,none⟩)] [atC bc b] [bR b p v (.pointer (some ⟨rb,0,none⟩)),rdB rb r bad,Box bx 222 [.int .i64 0,.int .i64 0]]
     fun _ ps hp'=>∃ (x:bC) (r':List UInt8) (bad':Bool),fT.one (.R r bad) fT.zero=(.R r' bad',gy x)∧ps=[]∧hp'=[bR b p v (.pointer (some ⟨rb,0,none⟩)),rdB rb r' bad',Box bx 222 x.vs]:=by
 refine EN2 Tryz.func227 rfl (DR [8] 9 (VD 0 0 tk164 0 rfl rfl rfl rfl rfl (VM 1 rfl rfl (VN 2 rfl rfl rfl (VO 3 0 rfl rfl rfl (VM 4 rfl rfl (VN 5 rfl rfl rfl (VO 6 1 rfl rfl rfl (VB (zs:=[.pointer none]) 7 rfl el313 rfl rfl rfl rfl (.more rfl (.v rfl .nil) (.more rfl (.v rfl .nil) .nil)) rfl rfl (fun v0_7=>(VE 8 rfl rfl (EC [1] [0,1,2] rfl (db b rb bx 222 ([.int .i64 0,.int .i64 0]:List Value) p v r bad (by omega) ⟨v0_7,2,[0,1]⟩ (aJ 0 (by decide) rfl (aJ 0 (by decide) rfl bD))) ?_))))))))))))
 rintro _ _ _ ⟨rfl,r_0,b_0,hq_0,rfl⟩;have hl_0:=cZ (fun _ _ _=>rfl) _ _ _ _ (by omega) hq_0
 refine bST rfl ?_
 refine BN (FZ0 [0,1,2] Tryz.results227 ?_)
 have k_0:(ak.one (ak.one (.R r bad) ak.zero).1 ak.zero).1=.R r_0 b_0:=hq_0
 refine ⟨⟨_,_⟩,r_0,b_0,?_,rfl,rfl⟩
 unfold fT
 simp only [eF,dY]
 rw [k_0]
 all_goals rfl
theorem pD(b rb bc bx:Nat)(p v:Value)(r:List UInt8)(bad:Bool)(hr:r.length≤1000000) :
   Con Tryz.prog 229 [.pointer (some ⟨bx,0,none⟩),.pointer (some ⟨bc,0,none⟩)] [atC bc b] [bR b p v (.pointer (some ⟨rb,0,none⟩)),rdB rb r bad,Box bx 262 [.int .i64 0,.int .i64 0,.int .i64 0,.string .empty,.string .empty,.int .i64 0]]
     fun _ ps hp'=>∃ (x:bF) (r':List UInt8) (bad':Bool),dH.one (.R r bad) dH.zero=(.R r' bad',er x)∧ps=[]∧hp'=[bR b p v (.pointer (some ⟨rb,0,none⟩)),rdB rb r' bad',Box bx 262 x.vs]:=by
 refine EN2 Tryz.func229 rfl (ah (DR [11] 12 (VD 0 0 tk164 0 rfl rfl rfl rfl rfl (VM 1 rfl rfl (VN 2 rfl rfl rfl (VO 3 0 rfl rfl rfl (VM 4 rfl rfl (VN 5 rfl rfl rfl (VO 6 1 rfl rfl rfl (VM 7 rfl rfl (VN 8 rfl rfl rfl (VO 9 2 rfl rfl rfl (VB (zs:=[.pointer none]) 10 rfl el313 rfl rfl rfl rfl (.more rfl (.v rfl .nil) (.more rfl (.v rfl .nil) (.more rfl (.v rfl .nil) .nil))) rfl rfl (fun v0_10 => ?_))))))))))))))
 refine VE 11 rfl rfl (EC [1] [0,1,2] rfl (db b rb bx 262 ([.int .i64 0,.int .i64 0,.int .i64 0,.string .empty,.string .empty,.int .i64 0]:List Value) p v r bad (by omega) ⟨v0_10,3,[0,1,2]⟩ (aJ 0 (by decide) rfl (aJ 0 (by decide) rfl (aJ 0 (by decide) rfl bD)))) ?_)
 rintro _ _ _ ⟨rfl,r_0,b_0,hq_0,rfl⟩;have hl_0:=cZ (fun _ _ _=>rfl) _ _ _ _ (by omega) hq_0
 refine bST rfl ?_
 refine BN (aj (ah (DR [8] 9 (VD 0 0 tk164 1 rfl rfl rfl rfl rfl (VM 1 rfl rfl (VN 2 rfl rfl rfl (VO 3 3 rfl rfl rfl (VM 4 rfl rfl (VN 5 rfl rfl rfl (VO 6 4 rfl rfl rfl (VB (zs:=[.pointer none]) 7 rfl el314 rfl rfl rfl rfl (.more rfl (.v rfl .nil) (.more rfl (.v rfl .nil) .nil)) rfl rfl (fun v1_7=>(VE 8 rfl rfl (EC [2] [0,1,2] rfl (dW b rb bx 262 (goC ak (fun z:Int=>Value.int .i64 z) unI (.R r bad) ([.int .i64 0,.int .i64 0,.int .i64 0,.string .empty,.string .empty,.int .i64 0]:List Value) [0,1,2]).2 p v r_0 b_0 (by omega) ⟨v1_7,2,[3,4]⟩ (aJ ByteArray.empty (by decide) rfl (aJ ByteArray.empty (by decide) rfl bD))) ?_))))))))))))))
 rintro _ _ _ ⟨rfl,r_1,b_1,hq_1,rfl⟩;have hl_1:=cZ (fun _ _ _=>rfl) _ _ _ _ (by omega) hq_1
 refine bST rfl ?_
 refine BN (aj (DR [5] 6 (VD 0 0 tk164 2 rfl rfl rfl rfl rfl (VM 1 rfl rfl (VN 2 rfl rfl rfl (VO 3 5 rfl rfl rfl (VB (zs:=[.pointer none]) 4 rfl el313 rfl rfl rfl rfl (.more rfl (.v rfl .nil) .nil) rfl rfl (fun v2_4=>(VE 5 rfl rfl (EC [3] [0,1,2] rfl (db b rb bx 262 (goC an Value.string unT (.R r_0 b_0) (goC ak (fun z:Int=>Value.int .i64 z) unI (.R r bad) ([.int .i64 0,.int .i64 0,.int .i64 0,.string .empty,.string .empty,.int .i64 0]:List Value) [0,1,2]).2 [3,4]).2 p v r_1 b_1 (by omega) ⟨v2_4,1,[5]⟩ (aJ 0 (by decide) rfl bD)) ?_))))))))))
 rintro _ _ _ ⟨rfl,r_2,b_2,hq_2,rfl⟩;have hl_2:=cZ (fun _ _ _=>rfl) _ _ _ _ (by omega) hq_2
 refine bST rfl ?_
 refine BN (FZ0 [0,1,2] Tryz.results229 ?_)
 have k_0:(ak.one (ak.one (ak.one (.R r bad) ak.zero).1 ak.zero).1 ak.zero).1=.R r_0 b_0:=hq_0
 have k_1:(an.one (an.one (.R r_0 b_0) an.zero).1 an.zero).1=.R r_1 b_1:=hq_1
 have k_2:(ak.one (.R r_1 b_1) ak.zero).1=.R r_2 b_2:=hq_2
 refine ⟨⟨_,_,_,_,_,_⟩,r_2,b_2,?_,rfl,rfl⟩
 unfold dH
 simp only [eF,dY]
 rw [k_0,k_1,k_2]
 all_goals rfl
theorem uo(b rb bc bx:Nat)(p v:Value)(r:List UInt8)(bad:Bool)(hr:r.length≤1000000) :
   Con Tryz.prog 231 [.pointer (some ⟨bx,0,none⟩),.pointer (some ⟨bc,0,none⟩)] [atC bc b] [bR b p v (.pointer (some ⟨rb,0,none⟩)),rdB rb r bad,Box bx 268 [.int .i64 0,.int .i64 0,.int .i64 0,.string .empty,.int .i64 0,.int .i64 0]]
     fun _ ps hp'=>∃ (x:dJ) (r':List UInt8) (bad':Bool),ir.one (.R r bad) ir.zero=(.R r' bad',ik x)∧ps=[]∧hp'=[bR b p v (.pointer (some ⟨rb,0,none⟩)),rdB rb r' bad',Box bx 268 x.vs]:=by
 refine EN2 Tryz.func231 rfl (ah (DR [11] 12 (VD 0 0 tk164 0 rfl rfl rfl rfl rfl (VM 1 rfl rfl (VN 2 rfl rfl rfl (VO 3 0 rfl rfl rfl (VM 4 rfl rfl (VN 5 rfl rfl rfl (VO 6 1 rfl rfl rfl (VM 7 rfl rfl (VN 8 rfl rfl rfl (VO 9 2 rfl rfl rfl (VB (zs:=[.pointer none]) 10 rfl el313 rfl rfl rfl rfl (.more rfl (.v rfl .nil) (.more rfl (.v rfl .nil) (.more rfl (.v rfl .nil) .nil))) rfl rfl (fun v0_10 => ?_))))))))))))))
 refine VE 11 rfl rfl (EC [1] [0,1,2] rfl (db b rb bx 268 ([.int .i64 0,.int .i64 0,.int .i64 0,.string .empty,.int .i64 0,.int .i64 0]:List Value) p v r bad (by omega) ⟨v0_10,3,[0,1,2]⟩ (aJ 0 (by decide) rfl (aJ 0 (by decide) rfl (aJ 0 (by decide) rfl bD)))) ?_)
 rintro _ _ _ ⟨rfl,r_0,b_0,hq_0,rfl⟩;have hl_0:=cZ (fun _ _ _=>rfl) _ _ _ _ (by omega) hq_0
 refine bST rfl ?_
 refine BN (aj (ah (DR [5] 6 (VD 0 0 tk164 1 rfl rfl rfl rfl rfl (VM 1 rfl rfl (VN 2 rfl rfl rfl (VO 3 3 rfl rfl rfl (VB (zs:=[.pointer none]) 4 rfl el314 rfl rfl rfl rfl (.more rfl (.v rfl .nil) .nil) rfl rfl (fun v1_4=>(VE 5 rfl rfl (EC [2] [0,1,2] rfl (dW b rb bx 268 (goC ak (fun z:Int=>Value.int .i64 z) unI (.R r bad) ([.int .i64 0,.int .i64 0,.int .i64 0,.string .empty,.int .i64 0,.int .i64 0]:List Value) [0,1,2]).2 p v r_0 b_0 (by omega) ⟨v1_4,1,[3]⟩ (aJ ByteArray.empty (by decide) rfl bD)) ?_)))))))))))
 rintro _ _ _ ⟨rfl,r_1,b_1,hq_1,rfl⟩;have hl_1:=cZ (fun _ _ _=>rfl) _ _ _ _ (by omega) hq_1
 refine bST rfl ?_
 refine BN (aj (DR [8] 9 (VD 0 0 tk164 2 rfl rfl rfl rfl rfl (VM 1 rfl rfl (VN 2 rfl rfl rfl (VO 3 4 rfl rfl rfl (VM 4 rfl rfl (VN 5 rfl rfl rfl (VO 6 5 rfl rfl rfl (VB (zs:=[.pointer none]) 7 rfl el313 rfl rfl rfl rfl (.more rfl (.v rfl .nil) (.more rfl (.v rfl .nil) .nil)) rfl rfl (fun v2_7=>(VE 8 rfl rfl (EC [3] [0,1,2] rfl (db b rb bx 268 (goC an Value.string unT (.R r_0 b_0) (goC ak (fun z:Int=>Value.int .i64 z) unI (.R r bad) ([.int .i64 0,.int .i64 0,.int .i64 0,.string .empty,.int .i64 0,.int .i64 0]:List Value) [0,1,2]).2 [3]).2 p v r_1 b_1 (by omega) ⟨v2_7,2,[4,5]⟩ (aJ 0 (by decide) rfl (aJ 0 (by decide) rfl bD))) ?_)))))))))))))
 rintro _ _ _ ⟨rfl,r_2,b_2,hq_2,rfl⟩;have hl_2:=cZ (fun _ _ _=>rfl) _ _ _ _ (by omega) hq_2
 refine bST rfl ?_
 refine BN (FZ0 [0,1,2] Tryz.results231 ?_)
 have k_0:(ak.one (ak.one (ak.one (.R r bad) ak.zero).1 ak.zero).1 ak.zero).1=.R r_0 b_0:=hq_0
 have k_1:(an.one (.R r_0 b_0) an.zero).1=.R r_1 b_1:=hq_1
 have k_2:(ak.one (ak.one (.R r_1 b_1) ak.zero).1 ak.zero).1=.R r_2 b_2:=hq_2
 refine ⟨⟨_,_,_,_,_,_⟩,r_2,b_2,?_,rfl,rfl⟩
 unfold ir
 simp only [eF,dY]
 rw [k_0,k_1,k_2]
 all_goals rfl
theorem q8(b rb bc bx:Nat)(p v:Value)(r:List UInt8)(bad:Bool)(hr:r.length≤1000000) :
   Con Tryz.prog 233 [.pointer (some ⟨bx,0,none⟩),.pointer (some ⟨bc,0,none⟩)] [atC bc b] [bR b p v (.pointer (some ⟨rb,0,none⟩)),rdB rb r bad,Box bx 274 [.int .i64 0,.int .i64 0,.int .i64 0,.int .i64 0]]
     fun _ ps hp'=>∃ (x:cC) (r':List UInt8) (bad':Bool),eH.one (.R r bad) eH.zero=(.R r' bad',fk x)∧ps=[]∧hp'=[bR b p v (.pointer (some ⟨rb,0,none⟩)),rdB rb r' bad',Box bx 274 x.vs]:=by
 refine EN2 Tryz.func233 rfl (DR [14] 15 (VD 0 0 tk164 0 rfl rfl rfl rfl rfl (VM 1 rfl rfl (VN 2 rfl rfl rfl (VO 3 0 rfl rfl rfl (VM 4 rfl rfl (VN 5 rfl rfl rfl (VO 6 1 rfl rfl rfl (VM 7 rfl rfl (VN 8 rfl rfl rfl (VO 9 2 rfl rfl rfl (VM 10 rfl rfl (VN 11 rfl rfl rfl (VO 12 3 rfl rfl rfl ?_))))))))))))))
 refine VB (zs:=[.pointer none]) 13 rfl el313 rfl rfl rfl rfl (.more rfl (.v rfl .nil) (.more rfl (.v rfl .nil) (.more rfl (.v rfl .nil) (.more rfl (.v rfl .nil) .nil)))) rfl rfl (fun v0_13=>(VE 14 rfl rfl (EC [1] [0,1,2] rfl (db b rb bx 274 ([.int .i64 0,.int .i64 0,.int .i64 0,.int .i64 0]:List Value) p v r bad (by omega) ⟨v0_13,4,[0,1,2,3]⟩ (aJ 0 (by decide) rfl (aJ 0 (by decide) rfl (aJ 0 (by decide) rfl (aJ 0 (by decide) rfl bD))))) ?_)))
 rintro _ _ _ ⟨rfl,r_0,b_0,hq_0,rfl⟩;have hl_0:=cZ (fun _ _ _=>rfl) _ _ _ _ (by omega) hq_0
 refine bST rfl ?_
 refine BN (FZ0 [0,1,2] Tryz.results233 ?_)
 have k_0:(ak.one (ak.one (ak.one (ak.one (.R r bad) ak.zero).1 ak.zero).1 ak.zero).1 ak.zero).1=.R r_0 b_0:=hq_0
 refine ⟨⟨_,_,_,_⟩,r_0,b_0,?_,rfl,rfl⟩
 unfold eH
 simp only [eF,dY]
 rw [k_0]
 all_goals rfl
end Go.Proofs.YtfkcmbonmpcbfaaGreat

namespace Go.Sy
open Go.RowKit Go.Lp
theorem Con.rdF{P:Program}{f:FuncId}{args:List Value}{ps:List Per}{l:List Res}{α:Type}{C:α→List UInt8→Bool→Prop}{P1 P2:α→List Per}{H:α→List UInt8→Bool→List Res}(h:Con P f args ps l fun _ ps' hp'=>∃ (x:α) (r:List UInt8) (b:Bool),C x r b∧ps'=P1 x∧hp'=H x r b)(hE:∀ x r b,C x r b→∀ p∈P2 x,Ent (P1 x) p):Con P f args ps l fun _ ps' hp'=>∃ (x:α) (r:List UInt8) (b:Bool),C x r b∧ps'=P2 x∧hp'=H x r b:=fun w S fp hst =>
 (h w S fp hst).mono fun e w' ⟨v,ps',hp',S',fp',he,⟨x,r,b,hc,h1,h2⟩,hst',hEv,hg⟩=>by
   subst h1
   exact ⟨v,P2 x,hp',S',fp',he,⟨x,r,b,hc,rfl,h2⟩,⟨fun p hp=>hE x r b hc p hp w' S' hst'.per,hst'.res,hst'.lt,hst'.dj,hst'.slt⟩,hEv,hg⟩
theorem Ent.str{ps:List Per}{s:ByteArray}(h:s.size≤4611686018427387904):Ent ps (ef s):=fun _ _ _=>ef.of (Nat.le_trans h (by decide))
theorem Ent.tt{ps:List Per} : Ent ps (Fa True):=fun _ _ _=>trivial
end Go.Sy
namespace Go.Lv
theorem Cod.okR{α:Type}(A:Cod α){r r':List UInt8}{b b':Bool}{x:α}(hr:r.length≤1000000)(h:A.one (.R r b) A.zero=(.R r' b',x)):A.ok x:=by
 obtain ⟨_,_,_,_,h3,_⟩:=A.rd r b (by omega)
 rw [h] at h3;exact h3
end Go.Lv
namespace Go.Proofs.YtfkcmbonmpcbfaaGreat
open Go.RowKit Go.Lp Go.Sy Go.Lv
open Go.Proofs.Tryz
attribute [local irreducible] aL aB awp aC fwp Quiet
theorem pA(b rb bc bx:Nat)(p v:Value)(r:List UInt8)(bad:Bool)(hr:r.length≤1000000) :
   Con Tryz.prog 107 [.pointer (some ⟨bx,0,none⟩),.pointer (some ⟨bc,0,none⟩)] [atC bc b] [bR b p v (.pointer (some ⟨rb,0,none⟩)),rdB rb r bad,Box bx 153 [.string .empty,.string .empty,.int .i64 0,.int .i64 0,.int .i64 0,.string .empty,.string .empty]]
     fun _ ps hp'=>∃ (x:ba) (r':List UInt8) (bad':Bool),dN.one (.R r bad) dN.zero=(.R r' bad',et x)∧ps=[ba.ok x]∧hp'=[bR b p v (.pointer (some ⟨rb,0,none⟩)),rdB rb r' bad',Box bx 153 x.vs] :=
 (pE b rb bc bx p v r bad hr).rdF fun x r' b' h p hp=>by
   rw [List.mem_singleton.1 hp]
   have hk:dN.ok (et x):=dN.okR hr h
   exact Ent.mk2 (Ent.str hk.1) (Ent.mk2 (Ent.str hk.2.1) (Ent.mk2 (Ent.str hk.2.2.2.2.2.1) (Ent.str hk.2.2.2.2.2.2)))
theorem px(b rb bc bx:Nat)(p v:Value)(r:List UInt8)(bad:Bool)(hr:r.length≤1000000) :
   Con Tryz.prog 109 [.pointer (some ⟨bx,0,none⟩),.pointer (some ⟨bc,0,none⟩)] [atC bc b] [bR b p v (.pointer (some ⟨rb,0,none⟩)),rdB rb r bad,Box bx 159 [.string .empty,.string .empty,.bool false,.int .i64 0,.int .i64 0,.int .i64 0]]
     fun _ ps hp'=>∃ (x:bA) (r':List UInt8) (bad':Bool),dL.one (.R r bad) dL.zero=(.R r' bad',eo x)∧ps=[bA.ok x]∧hp'=[bR b p v (.pointer (some ⟨rb,0,none⟩)),rdB rb r' bad',Box bx 159 x.vs] :=
 (pB b rb bc bx p v r bad hr).rdF fun x r' b' h p hp=>by
   rw [List.mem_singleton.1 hp]
   have hk:dL.ok (eo x):=dL.okR hr h
   exact Ent.mk2 (Ent.str hk.1) (Ent.str hk.2.1)
theorem py(b rb bc bx:Nat)(p v:Value)(r:List UInt8)(bad:Bool)(hr:r.length≤1000000) :
   Con Tryz.prog 111 [.pointer (some ⟨bx,0,none⟩),.pointer (some ⟨bc,0,none⟩)] [atC bc b] [bR b p v (.pointer (some ⟨rb,0,none⟩)),rdB rb r bad,Box bx 155 [.string .empty,.string .empty,.int .i64 0,.bool false,.bool false]]
     fun _ ps hp'=>∃ (x:bK) (r':List UInt8) (bad':Bool),dM.one (.R r bad) dM.zero=(.R r' bad',ep x)∧ps=[bK.ok x]∧hp'=[bR b p v (.pointer (some ⟨rb,0,none⟩)),rdB rb r' bad',Box bx 155 x.vs] :=
 (pC b rb bc bx p v r bad hr).rdF fun x r' b' h p hp=>by
   rw [List.mem_singleton.1 hp]
   have hk:dM.ok (ep x):=dM.okR hr h
   exact Ent.mk2 (Ent.str hk.1) (Ent.str hk.2.1)
theorem uj(b rb bc bx:Nat)(p v:Value)(r:List UInt8)(bad:Bool)(hr:r.length≤1000000) :
   Con Tryz.prog 114 [.pointer (some ⟨bx,0,none⟩),.pointer (some ⟨bc,0,none⟩)] [atC bc b] [bR b p v (.pointer (some ⟨rb,0,none⟩)),rdB rb r bad,Box bx 157 [.int .i64 0,.int .i64 0,.int .i64 0,.int .i64 0]]
     fun _ ps hp'=>∃ (x:fb) (r':List UInt8) (bad':Bool),jl.one (.R r bad) jl.zero=(.R r' bad',iT x)∧ps=[Fa True]∧hp'=[bR b p v (.pointer (some ⟨rb,0,none⟩)),rdB rb r' bad',Box bx 157 x.vs] :=
 (um b rb bc bx p v r bad hr).rdF fun x r' b' h p hp=>by
   rw [List.mem_singleton.1 hp]
   exact Ent.tt
theorem q7(b rb bc bx:Nat)(p v:Value)(r:List UInt8)(bad:Bool)(hr:r.length≤1000000) :
   Con Tryz.prog 122 [.pointer (some ⟨bx,0,none⟩),.pointer (some ⟨bc,0,none⟩)] [atC bc b] [bR b p v (.pointer (some ⟨rb,0,none⟩)),rdB rb r bad,Box bx 209 [.int .i64 0,.int .i64 0,.int .i64 0]]
     fun _ ps hp'=>∃ (x:dw) (r':List UInt8) (bad':Bool),eJ.one (.R r bad) eJ.zero=(.R r' bad',fl x)∧ps=[Fa True]∧hp'=[bR b p v (.pointer (some ⟨rb,0,none⟩)),rdB rb r' bad',Box bx 209 x.vs] :=
 (q9 b rb bc bx p v r bad hr).rdF fun x r' b' h p hp=>by
   rw [List.mem_singleton.1 hp]
   exact Ent.tt
theorem sL(b rb bc bx:Nat)(p v:Value)(r:List UInt8)(bad:Bool)(hr:r.length≤1000000) :
   Con Tryz.prog 223 [.pointer (some ⟨bx,0,none⟩),.pointer (some ⟨bc,0,none⟩)] [atC bc b] [bR b p v (.pointer (some ⟨rb,0,none⟩)),rdB rb r bad,Box bx 218 [.string .empty,.int .i64 0,.int .i64 0,.int .i64 0]]
     fun _ ps hp'=>∃ (x:cN) (r':List UInt8) (bad':Bool),fB.one (.R r bad) fB.zero=(.R r' bad',gb x)∧ps=[cN.ok x]∧hp'=[bR b p v (.pointer (some ⟨rb,0,none⟩)),rdB rb r' bad',Box bx 218 x.vs] :=
 (sO b rb bc bx p v r bad hr).rdF fun x r' b' h p hp=>by
   rw [List.mem_singleton.1 hp]
   have hk:fB.ok (gb x):=fB.okR hr h
   exact Ent.str hk.1
theorem sK(b rb bc bx:Nat)(p v:Value)(r:List UInt8)(bad:Bool)(hr:r.length≤1000000) :
   Con Tryz.prog 225 [.pointer (some ⟨bx,0,none⟩),.pointer (some ⟨bc,0,none⟩)] [atC bc b] [bR b p v (.pointer (some ⟨rb,0,none⟩)),rdB rb r bad,Box bx 220 [.int .i64 0,.int .i64 0,.string .empty,.int .i64 0]]
     fun _ ps hp'=>∃ (x:cS) (r':List UInt8) (bad':Bool),fA.one (.R r bad) fA.zero=(.R r' bad',ga x)∧ps=[cS.ok x]∧hp'=[bR b p v (.pointer (some ⟨rb,0,none⟩)),rdB rb r' bad',Box bx 220 x.vs] :=
 (sN b rb bc bx p v r bad hr).rdF fun x r' b' h p hp=>by
   rw [List.mem_singleton.1 hp]
   have hk:fA.ok (ga x):=fA.okR hr h
   exact Ent.str hk.2.2.1
theorem sM(b rb bc bx:Nat)(p v:Value)(r:List UInt8)(bad:Bool)(hr:r.length≤1000000) :
   Con Tryz.prog 227 [.pointer (some ⟨bx,0,none⟩),.pointer (some ⟨bc,0,none⟩)] [atC bc b] [bR b p v (.pointer (some ⟨rb,0,none⟩)),rdB rb r bad,Box bx 222 [.int .i64 0,.int .i64 0]]
     fun _ ps hp'=>∃ (x:bC) (r':List UInt8) (bad':Bool),fT.one (.R r bad) fT.zero=(.R r' bad',gy x)∧ps=[Fa True]∧hp'=[bR b p v (.pointer (some ⟨rb,0,none⟩)),rdB rb r' bad',Box bx 222 x.vs] :=
 (sP b rb bc bx p v r bad hr).rdF fun x r' b' h p hp=>by
   rw [List.mem_singleton.1 hp]
   exact Ent.tt
theorem pz(b rb bc bx:Nat)(p v:Value)(r:List UInt8)(bad:Bool)(hr:r.length≤1000000) :
   Con Tryz.prog 229 [.pointer (some ⟨bx,0,none⟩),.pointer (some ⟨bc,0,none⟩)] [atC bc b] [bR b p v (.pointer (some ⟨rb,0,none⟩)),rdB rb r bad,Box bx 262 [.int .i64 0,.int .i64 0,.int .i64 0,.string .empty,.string .empty,.int .i64 0]]
     fun _ ps hp'=>∃ (x:bF) (r':List UInt8) (bad':Bool),dH.one (.R r bad) dH.zero=(.R r' bad',er x)∧ps=[bF.ok x]∧hp'=[bR b p v (.pointer (some ⟨rb,0,none⟩)),rdB rb r' bad',Box bx 262 x.vs] :=
 (pD b rb bc bx p v r bad hr).rdF fun x r' b' h p hp=>by
   rw [List.mem_singleton.1 hp]
   have hk:dH.ok (er x):=dH.okR hr h
   exact Ent.mk2 (Ent.str hk.2.2.2.1) (Ent.str hk.2.2.2.2.1)
theorem uk(b rb bc bx:Nat)(p v:Value)(r:List UInt8)(bad:Bool)(hr:r.length≤1000000) :
   Con Tryz.prog 231 [.pointer (some ⟨bx,0,none⟩),.pointer (some ⟨bc,0,none⟩)] [atC bc b] [bR b p v (.pointer (some ⟨rb,0,none⟩)),rdB rb r bad,Box bx 268 [.int .i64 0,.int .i64 0,.int .i64 0,.string .empty,.int .i64 0,.int .i64 0]]
     fun _ ps hp'=>∃ (x:dJ) (r':List UInt8) (bad':Bool),ir.one (.R r bad) ir.zero=(.R r' bad',ik x)∧ps=[dJ.ok x]∧hp'=[bR b p v (.pointer (some ⟨rb,0,none⟩)),rdB rb r' bad',Box bx 268 x.vs] :=
 (uo b rb bc bx p v r bad hr).rdF fun x r' b' h p hp=>by
   rw [List.mem_singleton.1 hp]
   have hk:ir.ok (ik x):=ir.okR hr h
   exact Ent.str hk.2.2.2.1
theorem q6(b rb bc bx:Nat)(p v:Value)(r:List UInt8)(bad:Bool)(hr:r.length≤1000000) :
   Con Tryz.prog 233 [.pointer (some ⟨bx,0,none⟩),.pointer (some ⟨bc,0,none⟩)] [atC bc b] [bR b p v (.pointer (some ⟨rb,0,none⟩)),rdB rb r bad,Box bx 274 [.int .i64 0,.int .i64 0,.int .i64 0,.int .i64 0]]
     fun _ ps hp'=>∃ (x:cC) (r':List UInt8) (bad':Bool),eH.one (.R r bad) eH.zero=(.R r' bad',fk x)∧ps=[Fa True]∧hp'=[bR b p v (.pointer (some ⟨rb,0,none⟩)),rdB rb r' bad',Box bx 274 x.vs] :=
 (q8 b rb bc bx p v r bad hr).rdF fun x r' b' h p hp=>by
   rw [List.mem_singleton.1 hp]
   exact Ent.tt
theorem i7(b bc bx:Nat)(x:Int)(hx:Go.Lv.I64 x)(p v:Value)(hp:p=.pointer none∨p=.pointer (some ⟨b,0,none⟩))(out:List UInt8)(hl:(out++ak.enc x).length≤1000000000) :
   Con Tryz.prog 101 [.pointer (some ⟨bx,0,none⟩),.pointer (some ⟨bc,0,none⟩)] [atC bc b] [bR b p v (.pointer none),aO v 5 1 (out.map du),Box bx 3 [.int .i64 x]]
     fun _ ps hp'=>ps=[]∧∃ p' v',(p'=.pointer none∨p'=.pointer (some ⟨b,0,none⟩))∧hp'=[bR b p' v' (.pointer none),aO v' 5 1 ((out++ak.enc x).map du),Box bx 3 [.int .i64 x]]:=by
 have hall:out++bw ak unI [.int .i64 x] [0]=out++ak.enc x:=by show out++(ak.enc x++[])=_;rw [List.append_nil]
 refine EN2 Tryz.func101 rfl (aa (UD 0 tk164 0 rfl rfl rfl rfl (aM rfl (LT rfl (WL (zs:=[.pointer none]) el313 rfl rfl rfl (.more rfl (.v rfl .nil) .nil) rfl rfl (fun v0_2=>(aHN ?_)))))))
 refine eN 3 rfl ?_
 refine LF rfl (EC [1] [0,1,2] rfl (df b bx 3 [.int .i64 x] p v hp out ⟨v0_2,1,[0]⟩ (aJ x hx rfl bD) (by rw [hall];exact hl)) ?_)
 rintro _ _ _ ⟨rfl,p1,v1,hp1,rfl⟩
 refine aST ?_
 refine bj (FZ0 [0,1,2] Tryz.results101 ?_)
 rw [← hall];exact ⟨rfl,p1,v1,hp1,rfl⟩
theorem i6(b rb bc bx:Nat)(p v:Value)(r:List UInt8)(bad:Bool)(hr:r.length≤1000000) :
   Con Tryz.prog 101 [.pointer (some ⟨bx,0,none⟩),.pointer (some ⟨bc,0,none⟩)] [atC bc b] [bR b p v (.pointer (some ⟨rb,0,none⟩)),rdB rb r bad,Box bx 3 [.int .i64 0]]
     fun _ ps hp'=>∃ (x:Int) (r':List UInt8) (bad':Bool),ak.one (.R r bad) ak.zero=(.R r' bad',x)∧ps=[Fa True]∧hp'=[bR b p v (.pointer (some ⟨rb,0,none⟩)),rdB rb r' bad',Box bx 3 [.int .i64 x]]:=by
 have hE:∀ (x:Int) (r':List UInt8) (b':Bool),ak.one (.R r bad) ak.zero=(.R r' b',x)→∀ p∈[Fa True],Ent [] p:=fun x r' b' h p hp=>by
   rw [List.mem_singleton.1 hp]
   exact Ent.tt
 refine Con.rdF (P1:=fun _=>[]) ?_ hE
 refine EN2 Tryz.func101 rfl (aa (UD 0 tk164 0 rfl rfl rfl rfl (aM rfl (LT rfl (WL (zs:=[.pointer none]) el313 rfl rfl rfl (.more rfl (.v rfl .nil) .nil) rfl rfl (fun v0_2=>(aHN ?_)))))))
 refine eN 3 rfl (LF rfl (EC [1] [0,1,2] rfl (db b rb bx 3 [.int .i64 0] p v r bad (by omega) ⟨v0_2,1,[0]⟩ (aJ 0 (by decide) rfl bD)) ?_))
 rintro _ _ _ ⟨rfl,r1,b1,hq,rfl⟩
 refine aST ?_
 refine bj (FZ0 [0,1,2] Tryz.results101 ?_)
 have k:(ak.one (.R r bad) ak.zero).1=.R r1 b1:=hq
 exact ⟨(ak.one (.R r bad) ak.zero).2,r1,b1,by rw [← k],rfl,rfl⟩
theorem mn(b bc bx:Nat)(x:ByteArray)(p v:Value)(hp:p=.pointer none∨p=.pointer (some ⟨b,0,none⟩))(out:List UInt8)(hl:(out++an.enc x).length≤1000000000) :
   Con Tryz.prog 103 [.pointer (some ⟨bx,0,none⟩),.pointer (some ⟨bc,0,none⟩)] [atC bc b] [bR b p v (.pointer none),aO v 5 1 (out.map du),Box bx 9 [.string x]]
     fun _ ps hp'=>ps=[]∧∃ p' v',(p'=.pointer none∨p'=.pointer (some ⟨b,0,none⟩))∧hp'=[bR b p' v' (.pointer none),aO v' 5 1 ((out++an.enc x).map du),Box bx 9 [.string x]]:=by
 have hall:out++bw an unT [.string x] [0]=out++an.enc x:=by show out++(an.enc x++[])=_;rw [List.append_nil]
 refine EN2 Tryz.func103 rfl (aa (UD 0 tk164 0 rfl rfl rfl rfl (aM rfl (LT rfl (WL (zs:=[.pointer none]) el314 rfl rfl rfl (.more rfl (.v rfl .nil) .nil) rfl rfl (fun v0_2=>(aHN ?_)))))))
 refine eN 3 rfl ?_
 refine LF rfl (EC [1] [0,1,2] rfl (dX b bx 9 [.string x] p v hp out ⟨v0_2,1,[0]⟩ (aJ x (by rw [List.length_append,gP] at hl;omega) rfl bD) (by rw [hall];exact hl)) ?_)
 rintro _ _ _ ⟨rfl,p1,v1,hp1,rfl⟩
 refine aST ?_
 refine bj (FZ0 [0,1,2] Tryz.results103 ?_)
 rw [← hall];exact ⟨rfl,p1,v1,hp1,rfl⟩
theorem mm(b rb bc bx:Nat)(p v:Value)(r:List UInt8)(bad:Bool)(hr:r.length≤1000000) :
   Con Tryz.prog 103 [.pointer (some ⟨bx,0,none⟩),.pointer (some ⟨bc,0,none⟩)] [atC bc b] [bR b p v (.pointer (some ⟨rb,0,none⟩)),rdB rb r bad,Box bx 9 [.string .empty]]
     fun _ ps hp'=>∃ (x:ByteArray) (r':List UInt8) (bad':Bool),an.one (.R r bad) an.zero=(.R r' bad',x)∧ps=[ef x]∧hp'=[bR b p v (.pointer (some ⟨rb,0,none⟩)),rdB rb r' bad',Box bx 9 [.string x]]:=by
 have hE:∀ (x:ByteArray) (r':List UInt8) (b':Bool),an.one (.R r bad) an.zero=(.R r' b',x)→∀ p∈[ef x],Ent [] p:=fun x r' b' h p hp=>by
   rw [List.mem_singleton.1 hp]
   exact Ent.str (an.okR hr h)
 refine Con.rdF (P1:=fun _=>[]) ?_ hE
 refine EN2 Tryz.func103 rfl (aa (UD 0 tk164 0 rfl rfl rfl rfl (aM rfl (LT rfl (WL (zs:=[.pointer none]) el314 rfl rfl rfl (.more rfl (.v rfl .nil) .nil) rfl rfl (fun v0_2=>(aHN ?_)))))))
 refine eN 3 rfl (LF rfl (EC [1] [0,1,2] rfl (dW b rb bx 9 [.string .empty] p v r bad (by omega) ⟨v0_2,1,[0]⟩ (aJ .empty (by decide) rfl bD)) ?_))
 rintro _ _ _ ⟨rfl,r1,b1,hq,rfl⟩
 refine aST ?_
 refine bj (FZ0 [0,1,2] Tryz.results103 ?_)
 have k:(an.one (.R r bad) an.zero).1=.R r1 b1:=hq
 exact ⟨(an.one (.R r bad) an.zero).2,r1,b1,by rw [← k],rfl,rfl⟩
theorem cH{α τ:Type}(A:Cod τ)(pu:α→τ)(l:List α):(cA A).enc (l.map pu)=aV l.length++aP (fun x=>A.enc (pu x)) l:=by
 show aV (l.map pu).length++iP A (l.map pu)=_
 rw [List.length_map];unfold iP aP;rw [List.map_map];rfl
theorem tk170:tyk Tryz.prog 170=some (false,1):=by kernel_rfl
abbrev kG:Type:=ByteArray × List ByteArray
def cI:Cod kG:=Cod.prod an (cA an)
abbrev di(x:aH):kG:=(x.name,x.parents.l)
abbrev atT(bt bc:Nat):Per:=At bt 0 [.v (.func (.func 103) #[] #[.pointer (some ⟨bc,0,none⟩)])]
theorem lP(b bc bt bx:Nat)(x:aH)(p v:Value)(hp:p=.pointer none∨p=.pointer (some ⟨b,0,none⟩))(out:List UInt8)(hl:(out++cI.enc (di x)).length≤1000000000) :
   Con Tryz.prog 117 [.pointer (some ⟨bx,0,none⟩),.pointer (some ⟨bc,0,none⟩),.pointer (some ⟨bt,0,none⟩)] [cM (atC bc b) (cM (atT bt bc) x.ok)] [bR b p v (.pointer none),aO v 5 1 (out.map du),Box bx 195 x.vs]
     fun _ ps hp'=>ps=[]∧∃ p' v',(p'=.pointer none∨p'=.pointer (some ⟨b,0,none⟩))∧hp'=[bR b p' v' (.pointer none),aO v' 5 1 ((out++cI.enc (di x)).map du),Box bx 195 x.vs]:=by
 have he:cI.enc (di x)=an.enc x.name++(aV x.parents.l.length++aP an.enc x.parents.l):=rfl
 rw [he] at hl ⊢
 have e0:bw an unT x.vs [0]=an.enc x.name++[]:=rfl
 have hall:(out++bw an unT x.vs [0])++(aV x.parents.l.length++aP an.enc x.parents.l)=out++(an.enc x.name++(aV x.parents.l.length++aP an.enc x.parents.l)):=by simp only [e0,List.append_assoc,List.append_nil]
 have hs:=gP x.name
 simp only [List.length_append] at hl
 refine EN3 Tryz.func117 rfl (aR _ (Ent.left (.of (aI 0 rfl))) (aR _ (Ent.left (Ent.right (.of (aI 1 rfl)))) (aR _ (aH.f_parents (Ent.right (Ent.right (.of (aI 2 rfl))))) (ah (DR [5] 6 (VD 0 0 tk164 2 rfl rfl rfl rfl rfl (VM 1 rfl rfl (VN 2 rfl rfl rfl (VO 3 0 rfl rfl rfl (VB (zs:=[.pointer none]) 4 rfl el314 rfl rfl rfl rfl (.more rfl (.v rfl .nil) .nil) rfl rfl (fun v0_4 => ?_)))))))))))
 refine VE 5 rfl rfl (EC [4] [0,1,2] rfl (dX b bx 195 x.vs p v hp out ⟨v0_4,1,[0]⟩ (aJ x.name (by omega) rfl bD) (by simp only [e0,List.length_append,List.length_nil];omega)) ?_)
 rintro _ _ _ ⟨rfl,p_0,v_0,hp_0,rfl⟩
 refine bST rfl ?_
 refine BN (aj (DR [5] 6 (VD 0 0 tk164 3 rfl rfl rfl rfl rfl (VM 1 rfl rfl (VN 2 rfl rfl rfl (VO 3 1 rfl rfl rfl (VD 4 0 tk170 2 rfl rfl rfl rfl rfl ?_)))))))
 refine VE 5 rfl rfl (EC [3,1] [0,1,2] rfl (jw b bx 195 x.vs 1 x.parents rfl p_0 v_0 hp_0 (out++bw an unT x.vs [0]) an.enc (by simp only [e0,List.length_append,List.length_nil];omega) 103 [.pointer (some ⟨bc,0,none⟩)] (atC bc b) (by kernel_rfl) (fun y p v out bx _ hp hl=>mn b bc bx y p v hp out hl)) ?_)
 rintro _ _ _ ⟨rfl,p_1,v_1,hp_1,rfl⟩
 refine bST rfl ?_
 refine BN (FZ0 [0,1,2] Tryz.results117 ?_)
 rw [← hall];exact ⟨rfl,p_1,v_1,hp_1,rfl⟩
theorem lO(b rb bc bt bx:Nat)(p v:Value)(r:List UInt8)(bad:Bool)(hr:r.length≤1000000) :
   Con Tryz.prog 117 [.pointer (some ⟨bx,0,none⟩),.pointer (some ⟨bc,0,none⟩),.pointer (some ⟨bt,0,none⟩)] [cM (atC bc b) (atT bt bc)] [bR b p v (.pointer (some ⟨rb,0,none⟩)),rdB rb r bad,Box bx 195 [.string .empty,.slice none 0 0]]
     fun _ ps hp'=>∃ (x:aH) (r':List UInt8) (bad':Bool),cI.one (.R r bad) cI.zero=(.R r' bad',di x)∧ps=[x.ok]∧hp'=[bR b p v (.pointer (some ⟨rb,0,none⟩)),rdB rb r' bad',Box bx 195 x.vs]:=by
 refine Con.rdF (P1:=fun x=>[ShF (fun s=>[.v (.string s)]) x.parents,bz ef x.parents.l]) ?_ (fun x r' b' h p hp=>by
   rw [List.mem_singleton.1 hp]
   have hk:cI.ok (di x):=cI.okR hr h
   exact Ent.mk2 (Ent.str hk.1) (Ent.mk2 (.of (aI 0 rfl)) (.of (aI 1 rfl))))
 refine EN3 Tryz.func117 rfl (aR _ (Ent.left (.of (aI 0 rfl))) (aR _ (Ent.right (.of (aI 1 rfl))) (ah (DR [5] 6 (VD 0 0 tk164 1 rfl rfl rfl rfl rfl (VM 1 rfl rfl (VN 2 rfl rfl rfl (VO 3 0 rfl rfl rfl (VB (zs:=[.pointer none]) 4 rfl el314 rfl rfl rfl rfl (.more rfl (.v rfl .nil) .nil) rfl rfl (fun v0_4=>(VE 5 rfl rfl (EC [3] [0,1,2] rfl (dW b rb bx 195 [.string .empty,.slice none 0 0] p v r bad (by omega) ⟨v0_4,1,[0]⟩ (aJ .empty (by decide) rfl bD)) ?_))))))))))))
 rintro _ _ _ ⟨rfl,r_0,b_0,hq_0,rfl⟩;have hl_0:=cZ (fun _ _ _=>rfl) _ _ _ _ (by omega) hq_0
 refine bST rfl ?_
 refine BN (aj (DR [5] 6 (VD 0 0 tk164 2 rfl rfl rfl rfl rfl (VM 1 rfl rfl (VN 2 rfl rfl rfl (VO 3 1 rfl rfl rfl (VD 4 0 tk170 1 rfl rfl rfl rfl rfl (VE 5 rfl rfl (EC [1] [0,1,2] rfl (jv b rb bx 195 (goC an Value.string unT (.R r bad) [.string .empty,.slice none 0 0] [0]).2 1 rfl p v r_0 b_0 (by omega) an (fun s=>s) ef 103 [.pointer (some ⟨bc,0,none⟩)] (atC bc b) (by kernel_rfl) (fun r bad bx hr=>mm b rb bc bx p v r bad hr)) ?_)))))))))
 rintro _ _ _ ⟨l,r_1,b_1,hq_1,rfl,rfl⟩
 refine bST rfl ?_
 refine BN ?_
 refine th [5,4] [0,1,2] rfl Tryz.results117 ?_ (.inl rfl)
 have k_0:(an.one (.R r bad) an.zero).1=.R r_0 b_0:=hq_0
 rw [List.map_id'] at hq_1
 refine ⟨⟨(an.one (.R r bad) an.zero).2,l⟩,r_1,b_1,?_,rfl,rfl⟩
 unfold cI
 simp only [eF,dY]
 rw [k_0,show (cA an).zero=[] from rfl,hq_1]
theorem dy{τ:Type}{A:Cod τ}{r r':List UInt8}{b b':Bool}{l:List τ}(hr:r.length≤4611686018427387904)(h:(cA A).one (.R r b) []=(.R r' b',l)):r'.length≤r.length:=by
 obtain ⟨r1,b1,h1,h2,_⟩:=(cA A).rd r b hr
 have e:(cA A).zero=[]:=rfl
 rw [e,h] at h1
 obtain ⟨rfl,rfl⟩:=CS.R.inj h1
 exact h2
abbrev abU:Type:=ByteArray × ByteArray × ByteArray × List xw × Int
def fS:Cod abU:=Cod.prod an (Cod.prod an (Cod.prod an (Cod.prod (cA eJ) ak)))
abbrev fZ(x:cq):abU:=(x.obj,x.sec,x.from_,x.pieces.l.map fl,x.code)
def mD(x:cq):Prop:=(∀ y∈x.pieces.l,mG y)∧Go.Lv.I64 x.code
abbrev eP(x:dw):List UInt8:=eJ.enc (fl x)
theorem sQ(b bc bx:Nat)(x:cq)(hx:mD x)(p v:Value)(hp:p=.pointer none∨p=.pointer (some ⟨b,0,none⟩))(out:List UInt8)(hl:(out++fS.enc (fZ x)).length≤1000000000) :
   Con Tryz.prog 120 [.pointer (some ⟨bx,0,none⟩),.pointer (some ⟨bc,0,none⟩)] [cM (atC bc b) x.ok] [bR b p v (.pointer none),aO v 5 1 (out.map du),Box bx 204 x.vs]
     fun _ ps hp'=>ps=[]∧∃ p' v',(p'=.pointer none∨p'=.pointer (some ⟨b,0,none⟩))∧hp'=[bR b p' v' (.pointer none),aO v' 5 1 ((out++fS.enc (fZ x)).map du),Box bx 204 x.vs]:=by
 have he:fS.enc (fZ x)=an.enc x.obj++(an.enc x.sec++(an.enc x.from_++((aV x.pieces.l.length++aP eP x.pieces.l)++ak.enc x.code))):=by
   rw [← cH eJ fl x.pieces.l];rfl
 rw [he] at hl ⊢
 have e0:bw an unT x.vs [0,1,2]=an.enc x.obj++(an.enc x.sec++(an.enc x.from_++[])):=rfl
 have e2:bw ak unI x.vs [4]=ak.enc x.code++[]:=rfl
 have hall:((out++bw an unT x.vs [0,1,2])++(aV x.pieces.l.length++aP eP x.pieces.l))++bw ak unI x.vs [4]=out++(an.enc x.obj++(an.enc x.sec++(an.enc x.from_++((aV x.pieces.l.length++aP eP x.pieces.l)++ak.enc x.code)))):=by simp only [e0,e2,List.append_assoc,List.append_nil]
 have hs1:=gP x.obj
 have hs2:=gP x.sec
 have hs3:=gP x.from_
 simp only [List.length_append] at hl
 refine EN2 Tryz.func120 rfl (aR _ (Ent.left (.of (aI 0 rfl))) (aR _ (cq.f_pieces (Ent.right (.of (aI 1 rfl)))) (ah (DR [11] 12 (VD 0 0 tk164 1 rfl rfl rfl rfl rfl (VM 1 rfl rfl (VN 2 rfl rfl rfl (VO 3 0 rfl rfl rfl (VM 4 rfl rfl (VN 5 rfl rfl rfl (VO 6 1 rfl rfl rfl (VM 7 rfl rfl (VN 8 rfl rfl rfl (VO 9 2 rfl rfl rfl ?_))))))))))))))
 refine VB (zs:=[.pointer none]) 10 rfl el314 rfl rfl rfl rfl (.more rfl (.v rfl .nil) (.more rfl (.v rfl .nil) (.more rfl (.v rfl .nil) .nil))) rfl rfl (fun v0_10 => ?_)
 refine VE 11 rfl rfl (EC [3] [0,1,2] rfl (dX b bx 204 x.vs p v hp out ⟨v0_10,3,[0,1,2]⟩ (aJ x.obj (by omega) rfl (aJ x.sec (by omega) rfl (aJ x.from_ (by omega) rfl bD))) (by simp only [e0,List.length_append,List.length_nil];omega)) ?_)
 rintro _ _ _ ⟨rfl,p_0,v_0,hp_0,rfl⟩
 refine bST rfl ?_
 refine BN (aj (ah (DR [5] 6 (VD 0 0 tk164 2 rfl rfl rfl rfl rfl (VM 1 rfl rfl (VN 2 rfl rfl rfl (VO 3 3 rfl rfl rfl (bV 4 rfl rfl (cF (l:=[.tmp 1]) rfl) ?_))))))))
 refine VE 5 rfl rfl (EC [2,1] [0,1,2] rfl (oB b bx 204 x.vs 3 x.pieces rfl p_0 v_0 hp_0 (out++bw an unT x.vs [0,1,2]) eP (by simp only [e0,List.length_append,List.length_nil];omega) 122 [.pointer (some ⟨bc,0,none⟩)] (atC bc b) (by kernel_rfl) (fun y p v out bx hy hp hl=>re b bc bx y (hx.1 y hy) p v hp out hl)) ?_)
 rintro _ _ _ ⟨rfl,p_1,v_1,hp_1,rfl⟩
 refine bST rfl ?_
 refine BN (aj (DR [5] 6 (VD 0 0 tk164 2 rfl rfl rfl rfl rfl (VM 1 rfl rfl (VN 2 rfl rfl rfl (VO 3 4 rfl rfl rfl (VB (zs:=[.pointer none]) 4 rfl el313 rfl rfl rfl rfl (.more rfl (.v rfl .nil) .nil) rfl rfl (fun v2_4 => ?_))))))))
 refine VE 5 rfl rfl (EC [4] [0,1,2] rfl (df b bx 204 x.vs p_1 v_1 hp_1 ((out++bw an unT x.vs [0,1,2])++(aV x.pieces.l.length++aP eP x.pieces.l)) ⟨v2_4,1,[4]⟩ (aJ x.code hx.2 rfl bD) (by simp only [e0,e2,List.length_append,List.length_nil];omega)) ?_)
 rintro _ _ _ ⟨rfl,p_2,v_2,hp_2,rfl⟩
 refine bST rfl ?_
 refine BN (FZ0 [0,1,2] Tryz.results120 ?_)
 rw [← hall];exact ⟨rfl,p_2,v_2,hp_2,rfl⟩
theorem sJ(b rb bc bx:Nat)(p v:Value)(r:List UInt8)(bad:Bool)(hr:r.length≤1000000) :
   Con Tryz.prog 120 [.pointer (some ⟨bx,0,none⟩),.pointer (some ⟨bc,0,none⟩)] [atC bc b] [bR b p v (.pointer (some ⟨rb,0,none⟩)),rdB rb r bad,Box bx 204 [.string .empty,.string .empty,.string .empty,.slice none 0 0,.int .i64 0]]
     fun _ ps hp'=>∃ (x:cq) (r':List UInt8) (bad':Bool),fS.one (.R r bad) fS.zero=(.R r' bad',fZ x)∧ps=[x.ok]∧hp'=[bR b p v (.pointer (some ⟨rb,0,none⟩)),rdB rb r' bad',Box bx 204 x.vs]:=by
 refine Con.rdF (P1:=fun x=>[ShF dw.row x.pieces,bz (fun _=>Fa True) x.pieces.l]) ?_ (fun x r' b' h p hp=>by
   rw [List.mem_singleton.1 hp]
   have hk:fS.ok (fZ x):=fS.okR hr h
   exact Ent.mk2 (Ent.str hk.1) (Ent.mk2 (Ent.str hk.2.1) (Ent.mk2 (Ent.str hk.2.2.1) (.of (aI 0 rfl)))))
 refine EN2 Tryz.func120 rfl (ah (DR [11] 12 (VD 0 0 tk164 0 rfl rfl rfl rfl rfl (VM 1 rfl rfl (VN 2 rfl rfl rfl (VO 3 0 rfl rfl rfl (VM 4 rfl rfl (VN 5 rfl rfl rfl (VO 6 1 rfl rfl rfl (VM 7 rfl rfl (VN 8 rfl rfl rfl (VO 9 2 rfl rfl rfl (VB (zs:=[.pointer none]) 10 rfl el314 rfl rfl rfl rfl (.more rfl (.v rfl .nil) (.more rfl (.v rfl .nil) (.more rfl (.v rfl .nil) .nil))) rfl rfl (fun v0_10 => ?_))))))))))))))
 refine VE 11 rfl rfl (EC [1] [0,1,2] rfl (dW b rb bx 204 [.string .empty,.string .empty,.string .empty,.slice none 0 0,.int .i64 0] p v r bad (by omega) ⟨v0_10,3,[0,1,2]⟩ (aJ .empty (by decide) rfl (aJ .empty (by decide) rfl (aJ .empty (by decide) rfl bD)))) ?_)
 rintro _ _ _ ⟨rfl,r_0,b_0,hq_0,rfl⟩;have hl_0:=cZ (fun _ _ _=>rfl) _ _ _ _ (by omega) hq_0
 refine bST rfl ?_
 refine BN (aj (ah (DR [5] 6 (VD 0 0 tk164 1 rfl rfl rfl rfl rfl (VM 1 rfl rfl (VN 2 rfl rfl rfl (VO 3 3 rfl rfl rfl (bV 4 rfl rfl (cF (l:=[.tmp 1]) rfl) (VE 5 rfl rfl (EC [0] [0,1,2] rfl (oz b rb bx 204 (goC an Value.string unT (.R r bad) [.string .empty,.string .empty,.string .empty,.slice none 0 0,.int .i64 0] [0,1,2]).2 3 rfl p v r_0 b_0 (by omega) eJ fl (fun _=>Fa True) 122 [.pointer (some ⟨bc,0,none⟩)] (atC bc b) (by kernel_rfl) (fun r bad bx hr=>q7 b rb bc bx p v r bad hr)) ?_))))))))))
 rintro _ _ _ ⟨l,r_1,b_1,hq_1,rfl,rfl⟩;have hl_1:=dy (by omega) hq_1
 refine bST rfl ?_
 refine BN (aj (DR [5] 6 (VD 0 0 tk164 3 rfl rfl rfl rfl rfl (VM 1 rfl rfl (VN 2 rfl rfl rfl (VO 3 4 rfl rfl rfl (VB (zs:=[.pointer none]) 4 rfl el313 rfl rfl rfl rfl (.more rfl (.v rfl .nil) .nil) rfl rfl (fun v2_4=>(VE 5 rfl rfl (EC [4] [0,1,2] rfl (db b rb bx 204 ((goC an Value.string unT (.R r bad) [.string .empty,.string .empty,.string .empty,.slice none 0 0,.int .i64 0] [0,1,2]).2.set 3 l.val) p v r_1 b_1 (by omega) ⟨v2_4,1,[4]⟩ (aJ 0 (by decide) rfl bD)) ?_))))))))))
 rintro _ _ _ ⟨rfl,r_2,b_2,hq_2,rfl⟩
 refine bST rfl ?_
 refine BN ?_
 refine th [3,2] [0,1,2] rfl Tryz.results120 ?_ (.inl rfl)
 have k_0:(an.one (an.one (an.one (.R r bad) an.zero).1 an.zero).1 an.zero).1=.R r_0 b_0:=hq_0
 have k_2:(ak.one (.R r_1 b_1) ak.zero).1=.R r_2 b_2:=hq_2
 refine ⟨⟨_,_,_,l,_⟩,r_2,b_2,?_,rfl,rfl⟩
 unfold fS
 simp only [eF,dY]
 rw [k_0,show (cA eJ).zero=[] from rfl,hq_1]
 dsimp only
 rw [k_2]
 all_goals rfl
end Go.Proofs.YtfkcmbonmpcbfaaGreat

