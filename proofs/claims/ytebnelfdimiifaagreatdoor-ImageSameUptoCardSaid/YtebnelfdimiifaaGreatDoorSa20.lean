/- Parts of the proof, in build order. No condition. -/
import Derived.Test.YtebnelfdimiifaaGreatDoorSa19
import Derived.Test.YtebnelfdimiifaaGreatDoorSa05
import Derived.Test.YtebnelfdimiifaaGreatDoorSa07
import Derived.Test.YtebnelfdimiifaaGreatDoorSa08
import Derived.Test.YtebnelfdimiifaaGreatDoorSa13
import Derived.Lib.BufferWrite
import Derived.Test.YtebnelfdimiifaaGreatDoorSa06
import Derived.Test.YtebnelfdimiifaaGreatDoorSa10
set_option linter.unusedSimpArgs false
set_option linter.unusedVariables false
set_option maxHeartbeats 1000000
set_option maxRecDepth 20000
namespace Go.Proofs.YtebnelfdimiifaaGreatDoor
open Go.RowKit Go.Lp Go.Sy Go.Lv
open Go.Proofs.Tryz
attribute [local irreducible] aL aB awp aC fwp Quiet
theorem aaW(im:aD)(b b2:Nat)(e:Int)(i:Nat)(x:bK):Con Tryz.prog 100 [.int .i64 i,x.val,.pointer (some ⟨b2,0,none⟩),.pointer (some ⟨b,0,none⟩)] [At b 0 im.row] [Box b2 3 [.int .i64 e]] fun r ps hp=>ps=[]∧r=.bool (aeK im e i x).1∧hp=[Box b2 3 [.int .i64 (aeK im e i x).2]]:=by
 refine EN4 Tryz.func100 rfl (aSR (LT rfl (cx rfl rfl rfl (fun b0_0=>(aHN ?_)))))
 refine aA rfl (aNn (aSR (UO 0 rfl rfl (UL 1 tk3 rfl rfl rfl rfl (UL 0 tk3 rfl rfl rfl rfl (UO 2 rfl rfl (UD 2 tk3 0 rfl rfl rfl rfl (aU rfl (Q0 rfl (dt _ _ _)) (aM rfl (GO 1 rfl rfl rfl (GL 1 tk3 rfl rfl rfl rfl rfl (GO 2 rfl rfl rfl (aG rfl rfl (fun hc=>bk (o:=2) tk3 (ae rfl hc) (.of (aH 0 rfl)) rfl) (GO 0 rfl rfl rfl ?_))))))))))))))
 refine GL 1 tk3 rfl rfl rfl rfl rfl (aG rfl rfl (fun hc=>xl (ae rfl hc) (ae rfl hc)) (aG rfl rfl (fun hc=>fb (by kernel_rfl) (aK (ae rfl hc) (aK (ae rfl rfl) (aK (ae rfl hc) rfl))) (fun w S fp hst=>(dt _ _ _).quiet0 hst)) (aU rfl (bB rfl rfl (fun h=>gt rfl h)) (aA rfl (aNn (aSR (UO 0 rfl rfl (UL 1 tk3 rfl rfl rfl rfl (UO 1 rfl rfl (UL 1 tk3 rfl rfl rfl rfl (aU rfl (tF rfl rfl) (aW rfl (ba 0 tk3 rfl rfl rfl rfl (aHK ?_))))))))))))))
 refine aNn (aSR (aM rfl (aA rfl (aNn (az (FZ1 [0] Tryz.results100 rfl ?_))))))
 exact ⟨rfl,rfl,rfl⟩
theorem tk187:tyk Tryz.prog 187=some (false,1):=by kernel_rfl
theorem aaX(x:ca):Con Tryz.prog 102 [x.val] [] [] fun r _ _=>r=v3 (inG x):=by
 refine EN1 Tryz.func102 rfl (aSR (LT rfl (cx rfl rfl rfl (fun b0_0=>(aHN ?_)))))
 refine aA rfl (aA rfl (aA rfl (aNs (DR [] 9 (VO 0 0 rfl rfl rfl (VL 1 0 tk3 rfl rfl rfl rfl rfl (VO 2 1 rfl rfl rfl (VL 3 0 tk3 rfl rfl rfl rfl rfl (VO 4 2 rfl rfl rfl (VL 5 0 tk3 rfl rfl rfl rfl rfl (bV 6 rfl rfl (bo rfl) (bV 7 rfl rfl (bo rfl) (bV 8 rfl rfl (bo rfl) (BN ?_))))))))))))))
 refine an (az ?_)
 refine afU [] [] rfl Tryz.results102 rfl rfl rfl ?_ (.inr rfl)
 rfl
theorem oC(im:aD)(b bf b2:Nat)(e:Int)(i:Nat)(x:ca):Con Tryz.prog 160 [.int .i64 i,x.val,.pointer (some ⟨bf,0,none⟩),.pointer (some ⟨b2,0,none⟩),.pointer (some ⟨b,0,none⟩)] [cF (At bf 0 [.v (.func (.func 102) #[] #[])]) (At b 0 im.row)] [Box b2 3 [.int .i64 e]] fun r ps hp=>ps=[]∧r=.bool (mB im inG e i x).1∧hp=[Box b2 3 [.int .i64 (mB im inG e i x).2]]:=by
 refine EN5 Tryz.func160 rfl (aZ _ (Ent.left (.of (aH 0 rfl))) (aZ _ (Ent.right (.of (aH 1 rfl))) (aSR (LT rfl (cx rfl rfl rfl (fun b0_0=>(aHN ?_)))))))
 refine aA rfl (aNn (aSR (UD 0 tk187 1 rfl rfl rfl rfl (UL 1 tk186 rfl rfl rfl rfl (aU rfl (jk (by kernel_rfl) rfl rfl (fun w S fp hst=>(aaX x).quiet0 hst)) ?_)))))
 refine aM rfl (aU rfl (ck rfl rfl) (aU rfl (ck rfl rfl) (aU rfl (ck rfl rfl) (aA rfl (aA rfl (aA rfl (aNn (aSR (aM rfl (aU rfl (cA rfl rfl) (aM rfl (aG rfl rfl (fun hc=>aT rfl) (aG rfl rfl (fun hc=>bj 0 tk3 rfl rfl rfl) ?_)))))))))))))
 refine aG rfl rfl (fun hc=>fH (ae rfl hc) (ae rfl hc)) (aU rfl (bB rfl rfl (fun h=>gt rfl h)) (aM rfl (aG rfl rfl (fun hc=>aT rfl) (aG rfl rfl (fun hc=>aT rfl) (aG rfl rfl (fun hc=>eY (ae rfl hc) (ae rfl hc)) (aU rfl (bB rfl rfl (fun h=>gt rfl h)) (aM rfl (aG rfl rfl (fun hc=>aT rfl) (GO 2 rfl rfl rfl ?_)))))))))
 refine aG rfl rfl (fun hc=>bk (o:=2) tk3 (ae rfl hc) (.of (aH 0 rfl)) rfl) (aG rfl rfl (fun hc=>eY (ae rfl hc) (ae rfl hc)) (aU rfl (bB rfl rfl (fun h=>gt rfl h)) (aA rfl (aNn (aSR (aM rfl (aW rfl (ba 0 tk3 rfl rfl rfl rfl (aHK ?_)))))))))
 refine aNn (aSR (aM rfl (aA rfl (aNn (az (FZ1 [0] Tryz.results160 rfl ?_))))))
 exact ⟨rfl,rfl,rfl⟩
theorem pO(im:aD)(l:Sl ca):Con Tryz.prog 101 [im.val,l.val,.func (.func 102) #[] #[]] [ShF ca.row l] [] fun r _ _=>r=.bool (fU (mB im inG) 0 0 l.l).1:=by
 refine EN3 Tryz.func101 rfl (aSR (LT rfl (cx rfl rfl rfl (fun b0_0=>(aHN ?_)))))
 refine LT rfl (cx rfl rfl rfl (fun b0_1=>(aHN ?_)))
 refine aA rfl (aNs (bT 0 rfl rfl ?_))
 show awp _ _ _ _ ⟨_,At _ 0 _::_,_⟩
 refine aa (LT rfl (bJ (zs:=[.int .i64 0]) (by kernel_rfl) rfl (fun b1_0=>(aHN ?_))))
 refine aW rfl (ba 2 tk3 rfl rfl rfl rfl (aHK ?_))
 refine aNs (bT 1 rfl rfl ?_)
 show awp _ _ _ _ ⟨_,At b0_1 0 [.v (.func (.func 102) #[] #[])]::_,_⟩
 refine aa (aM rfl (aU rfl (cq (l:=[.tmp 5,.tmp 7,.tmp 3]) rfl) (LF rfl (EC [0,1,2] [2] rfl (Con.clH (((qp l 160 [.pointer (some ⟨b0_1,0,none⟩),.pointer (some ⟨b1_0,0,none⟩),.pointer (some ⟨b0_0,0,none⟩)] (cF (At b0_1 0 [.v (.func (.func 102) #[] #[])]) (At b0_0 0 im.row)) (fun e=>Box b1_0 3 [.int .i64 e]) (mB im inG) 0 (by kernel_rfl) (fun s i x _=>oC im b0_0 b0_1 b1_0 s i x)).pre2 (.of (aH 0 rfl)) (Ent.mk2 (.of (aH 2 rfl)) (.of (aH 1 rfl))))) (fun _ _ _ h=>h.2.1)) ?_))))
 rintro _ _ _ ⟨rfl,rfl,rfl⟩
 refine aST ?_
 refine aA rfl (aNn (az (FZ1 [] Tryz.results101 rfl ?_)))
 rfl
theorem tk193:tyk Tryz.prog 193=some (false,1):=by kernel_rfl
theorem aaZ(x:eE):Con Tryz.prog 106 [x.val] [] [] fun r _ _=>r=v3 (vaG x):=by
 refine EN1 Tryz.func106 rfl (aSR (LT rfl (cx rfl rfl rfl (fun b0_0=>(aHN ?_)))))
 refine aA rfl (aA rfl (aA rfl (aNs (DR [] 9 (VO 0 0 rfl rfl rfl (VL 1 0 tk3 rfl rfl rfl rfl rfl (VO 2 1 rfl rfl rfl (VL 3 0 tk3 rfl rfl rfl rfl rfl (VO 4 2 rfl rfl rfl (VL 5 0 tk3 rfl rfl rfl rfl rfl (bV 6 rfl rfl (bo rfl) (bV 7 rfl rfl (bo rfl) (bV 8 rfl rfl (bo rfl) (BN ?_))))))))))))))
 refine an (az ?_)
 refine afU [] [] rfl Tryz.results106 rfl rfl rfl ?_ (.inr rfl)
 rfl
theorem sG(im:aD)(b bf b2:Nat)(e:Int)(i:Nat)(x:eE):Con Tryz.prog 161 [.int .i64 i,x.val,.pointer (some ⟨bf,0,none⟩),.pointer (some ⟨b2,0,none⟩),.pointer (some ⟨b,0,none⟩)] [cF (At bf 0 [.v (.func (.func 106) #[] #[])]) (At b 0 im.row)] [Box b2 3 [.int .i64 e]] fun r ps hp=>ps=[]∧r=.bool (mB im vaG e i x).1∧hp=[Box b2 3 [.int .i64 (mB im vaG e i x).2]]:=by
 refine EN5 Tryz.func161 rfl (aZ _ (Ent.left (.of (aH 0 rfl))) (aZ _ (Ent.right (.of (aH 1 rfl))) (aSR (LT rfl (cx rfl rfl rfl (fun b0_0=>(aHN ?_)))))))
 refine aA rfl (aNn (aSR (UD 0 tk193 1 rfl rfl rfl rfl (UL 1 tk192 rfl rfl rfl rfl (aU rfl (jk (by kernel_rfl) rfl rfl (fun w S fp hst=>(aaZ x).quiet0 hst)) ?_)))))
 refine aM rfl (aU rfl (ck rfl rfl) (aU rfl (ck rfl rfl) (aU rfl (ck rfl rfl) (aA rfl (aA rfl (aA rfl (aNn (aSR (aM rfl (aU rfl (cA rfl rfl) (aM rfl (aG rfl rfl (fun hc=>aT rfl) (aG rfl rfl (fun hc=>bj 0 tk3 rfl rfl rfl) ?_)))))))))))))
 refine aG rfl rfl (fun hc=>fH (ae rfl hc) (ae rfl hc)) (aU rfl (bB rfl rfl (fun h=>gt rfl h)) (aM rfl (aG rfl rfl (fun hc=>aT rfl) (aG rfl rfl (fun hc=>aT rfl) (aG rfl rfl (fun hc=>eY (ae rfl hc) (ae rfl hc)) (aU rfl (bB rfl rfl (fun h=>gt rfl h)) (aM rfl (aG rfl rfl (fun hc=>aT rfl) (GO 2 rfl rfl rfl ?_)))))))))
 refine aG rfl rfl (fun hc=>bk (o:=2) tk3 (ae rfl hc) (.of (aH 0 rfl)) rfl) (aG rfl rfl (fun hc=>eY (ae rfl hc) (ae rfl hc)) (aU rfl (bB rfl rfl (fun h=>gt rfl h)) (aA rfl (aNn (aSR (aM rfl (aW rfl (ba 0 tk3 rfl rfl rfl rfl (aHK ?_)))))))))
 refine aNn (aSR (aM rfl (aA rfl (aNn (az (FZ1 [0] Tryz.results161 rfl ?_))))))
 exact ⟨rfl,rfl,rfl⟩
theorem uE(im:aD)(l:Sl eE):Con Tryz.prog 105 [im.val,l.val,.func (.func 106) #[] #[]] [ShF eE.row l] [] fun r _ _=>r=.bool (fU (mB im vaG) 0 0 l.l).1:=by
 refine EN3 Tryz.func105 rfl (aSR (LT rfl (cx rfl rfl rfl (fun b0_0=>(aHN ?_)))))
 refine LT rfl (cx rfl rfl rfl (fun b0_1=>(aHN ?_)))
 refine aA rfl (aNs (bT 0 rfl rfl ?_))
 show awp _ _ _ _ ⟨_,At _ 0 _::_,_⟩
 refine aa (LT rfl (bJ (zs:=[.int .i64 0]) (by kernel_rfl) rfl (fun b1_0=>(aHN ?_))))
 refine aW rfl (ba 2 tk3 rfl rfl rfl rfl (aHK ?_))
 refine aNs (bT 1 rfl rfl ?_)
 show awp _ _ _ _ ⟨_,At b0_1 0 [.v (.func (.func 106) #[] #[])]::_,_⟩
 refine aa (aM rfl (aU rfl (cq (l:=[.tmp 5,.tmp 7,.tmp 3]) rfl) (LF rfl (EC [0,1,2] [2] rfl (Con.clH (((vM l 161 [.pointer (some ⟨b0_1,0,none⟩),.pointer (some ⟨b1_0,0,none⟩),.pointer (some ⟨b0_0,0,none⟩)] (cF (At b0_1 0 [.v (.func (.func 106) #[] #[])]) (At b0_0 0 im.row)) (fun e=>Box b1_0 3 [.int .i64 e]) (mB im vaG) 0 (by kernel_rfl) (fun s i x _=>sG im b0_0 b0_1 b1_0 s i x)).pre2 (.of (aH 0 rfl)) (Ent.mk2 (.of (aH 2 rfl)) (.of (aH 1 rfl))))) (fun _ _ _ h=>h.2.1)) ?_))))
 rintro _ _ _ ⟨rfl,rfl,rfl⟩
 refine aST ?_
 refine aA rfl (aNn (az (FZ1 [] Tryz.results105 rfl ?_)))
 rfl
theorem tk199:tyk Tryz.prog 199=some (false,1):=by kernel_rfl
theorem aa1(x:cG):Con Tryz.prog 110 [x.val] [] [] fun r _ _=>r=v3 (deG x):=by
 refine EN1 Tryz.func110 rfl (aSR (LT rfl (cx rfl rfl rfl (fun b0_0=>(aHN ?_)))))
 refine aA rfl (aA rfl (aA rfl (aNs (DR [] 9 (VO 0 0 rfl rfl rfl (VL 1 0 tk3 rfl rfl rfl rfl rfl (VO 2 1 rfl rfl rfl (VL 3 0 tk3 rfl rfl rfl rfl rfl (VO 4 2 rfl rfl rfl (VL 5 0 tk3 rfl rfl rfl rfl rfl (bV 6 rfl rfl (bo rfl) (bV 7 rfl rfl (bo rfl) (bV 8 rfl rfl (bo rfl) (BN ?_))))))))))))))
 refine an (az ?_)
 refine afU [] [] rfl Tryz.results110 rfl rfl rfl ?_ (.inr rfl)
 rfl
theorem pN(im:aD)(b bf b2:Nat)(e:Int)(i:Nat)(x:cG):Con Tryz.prog 162 [.int .i64 i,x.val,.pointer (some ⟨bf,0,none⟩),.pointer (some ⟨b2,0,none⟩),.pointer (some ⟨b,0,none⟩)] [cF (At bf 0 [.v (.func (.func 110) #[] #[])]) (At b 0 im.row)] [Box b2 3 [.int .i64 e]] fun r ps hp=>ps=[]∧r=.bool (mB im deG e i x).1∧hp=[Box b2 3 [.int .i64 (mB im deG e i x).2]]:=by
 refine EN5 Tryz.func162 rfl (aZ _ (Ent.left (.of (aH 0 rfl))) (aZ _ (Ent.right (.of (aH 1 rfl))) (aSR (LT rfl (cx rfl rfl rfl (fun b0_0=>(aHN ?_)))))))
 refine aA rfl (aNn (aSR (UD 0 tk199 1 rfl rfl rfl rfl (UL 1 tk198 rfl rfl rfl rfl (aU rfl (jk (by kernel_rfl) rfl rfl (fun w S fp hst=>(aa1 x).quiet0 hst)) ?_)))))
 refine aM rfl (aU rfl (ck rfl rfl) (aU rfl (ck rfl rfl) (aU rfl (ck rfl rfl) (aA rfl (aA rfl (aA rfl (aNn (aSR (aM rfl (aU rfl (cA rfl rfl) (aM rfl (aG rfl rfl (fun hc=>aT rfl) (aG rfl rfl (fun hc=>bj 0 tk3 rfl rfl rfl) ?_)))))))))))))
 refine aG rfl rfl (fun hc=>fH (ae rfl hc) (ae rfl hc)) (aU rfl (bB rfl rfl (fun h=>gt rfl h)) (aM rfl (aG rfl rfl (fun hc=>aT rfl) (aG rfl rfl (fun hc=>aT rfl) (aG rfl rfl (fun hc=>eY (ae rfl hc) (ae rfl hc)) (aU rfl (bB rfl rfl (fun h=>gt rfl h)) (aM rfl (aG rfl rfl (fun hc=>aT rfl) (GO 2 rfl rfl rfl ?_)))))))))
 refine aG rfl rfl (fun hc=>bk (o:=2) tk3 (ae rfl hc) (.of (aH 0 rfl)) rfl) (aG rfl rfl (fun hc=>eY (ae rfl hc) (ae rfl hc)) (aU rfl (bB rfl rfl (fun h=>gt rfl h)) (aA rfl (aNn (aSR (aM rfl (aW rfl (ba 0 tk3 rfl rfl rfl rfl (aHK ?_)))))))))
 refine aNn (aSR (aM rfl (aA rfl (aNn (az (FZ1 [0] Tryz.results162 rfl ?_))))))
 exact ⟨rfl,rfl,rfl⟩
theorem q4(im:aD)(l:Sl cG):Con Tryz.prog 109 [im.val,l.val,.func (.func 110) #[] #[]] [ShF cG.row l] [] fun r _ _=>r=.bool (fU (mB im deG) 0 0 l.l).1:=by
 refine EN3 Tryz.func109 rfl (aSR (LT rfl (cx rfl rfl rfl (fun b0_0=>(aHN ?_)))))
 refine LT rfl (cx rfl rfl rfl (fun b0_1=>(aHN ?_)))
 refine aA rfl (aNs (bT 0 rfl rfl ?_))
 show awp _ _ _ _ ⟨_,At _ 0 _::_,_⟩
 refine aa (LT rfl (bJ (zs:=[.int .i64 0]) (by kernel_rfl) rfl (fun b1_0=>(aHN ?_))))
 refine aW rfl (ba 2 tk3 rfl rfl rfl rfl (aHK ?_))
 refine aNs (bT 1 rfl rfl ?_)
 show awp _ _ _ _ ⟨_,At b0_1 0 [.v (.func (.func 110) #[] #[])]::_,_⟩
 refine aa (aM rfl (aU rfl (cq (l:=[.tmp 5,.tmp 7,.tmp 3]) rfl) (LF rfl (EC [0,1,2] [2] rfl (Con.clH (((sq l 162 [.pointer (some ⟨b0_1,0,none⟩),.pointer (some ⟨b1_0,0,none⟩),.pointer (some ⟨b0_0,0,none⟩)] (cF (At b0_1 0 [.v (.func (.func 110) #[] #[])]) (At b0_0 0 im.row)) (fun e=>Box b1_0 3 [.int .i64 e]) (mB im deG) 0 (by kernel_rfl) (fun s i x _=>pN im b0_0 b0_1 b1_0 s i x)).pre2 (.of (aH 0 rfl)) (Ent.mk2 (.of (aH 2 rfl)) (.of (aH 1 rfl))))) (fun _ _ _ h=>h.2.1)) ?_))))
 rintro _ _ _ ⟨rfl,rfl,rfl⟩
 refine aST ?_
 refine aA rfl (aNn (az (FZ1 [] Tryz.results109 rfl ?_)))
 rfl
theorem aaY(i:Nat)(x:ca):Con Tryz.prog 104 [.int .i64 i,x.val] [] [] fun r _ _=>r=.bool (inB x):=by
 refine EN2 Tryz.func104 rfl (aSR (LT rfl (cx rfl rfl rfl (fun b0_0=>(aHN ?_)))))
 refine aA rfl (aNn (aSR (UO 3 rfl rfl (UL 0 tk9 rfl rfl rfl rfl (aU rfl (Q0 rfl (jC _)) (aM rfl (GO 4 rfl rfl rfl (GL 0 tk9 rfl rfl rfl rfl rfl (aG rfl rfl (fun hc=>Q0 (aK (ae rfl hc) rfl) (jC _)) (aU rfl (bB rfl rfl (fun h=>gt rfl h)) (aM rfl (GO 5 rfl rfl rfl ?_))))))))))))
 refine GL 0 tk3 rfl rfl rfl rfl rfl (aG rfl rfl (fun hc=>fH (ae rfl hc) rfl) (aU rfl (bB rfl rfl (fun h=>gt rfl h)) (aA rfl (aNn (az (FZ1 [] Tryz.results104 rfl ?_))))))
 rfl
theorem aa0(im:aD)(hS:fZ im)(b i:Nat)(x:eE):Con Tryz.prog 108 [.int .i64 i,x.val,.pointer (some ⟨b,0,none⟩)] [At b 0 im.row] [] fun r _ _=>r=.bool (vaB im x):=by
 have hc0:=hS.c0
 have hcd:=hS.cd
 have hdz:=hS.dz
 have hzm:=hS.zm
 refine EN3 Tryz.func108 rfl (aSR (LT rfl (cx rfl rfl rfl (fun b0_0=>(aHN ?_)))))
 refine aA rfl (aNn (aSR (UO 4 rfl rfl (UL 0 tk3 rfl rfl rfl rfl (aU rfl (cA rfl rfl) (aM rfl (GO 4 rfl rfl rfl (GL 0 tk3 rfl rfl rfl rfl rfl (aG rfl rfl (fun hc=>cA (ae rfl hc) rfl) (aG rfl rfl (fun hc=>aT (ae rfl hc)) (GO 5 rfl rfl rfl (GL 0 tk3 rfl rfl rfl rfl rfl (aG rfl rfl (fun hc=>fb (by kernel_rfl) (aK (ae rfl hc) (aK (ae rfl rfl) (aK (ae rfl rfl) rfl))) (fun w S fp hst=>(dt _ _ _).quiet0 hst)) ?_)))))))))))))
 refine aG rfl rfl (fun hc=>bB (ae rfl hc) rfl (fun h=>gt hc h)) (aU rfl (dp rfl rfl (fun h=>gf rfl h)) (aM rfl (GO 4 rfl rfl rfl (GL 0 tk3 rfl rfl rfl rfl rfl (aG rfl rfl (fun hc=>cA (ae rfl hc) rfl) (aG rfl rfl (fun hc=>aT (ae rfl hc)) (GO 5 rfl rfl rfl (GL 0 tk3 rfl rfl rfl rfl rfl (GO 4 rfl rfl rfl (aG rfl rfl (fun hc=>bk (o:=4) tk3 (ae rfl hc) (.of (aH 0 rfl)) rfl) ?_))))))))))
 refine aG rfl rfl (fun hc=>cZ (ae rfl hc) rfl (by (first | omega | (simp at hc;omega)))) ?_
 refine aG rfl rfl (fun hc=>fb (by kernel_rfl) (aK (ae rfl hc) (aK (ae rfl rfl) (aK (ae rfl hc) rfl))) (fun w S fp hst=>(dt _ _ _).quiet0 hst)) (aG rfl rfl (fun hc=>bB (ae rfl hc) rfl (fun h=>gt hc h)) (aU rfl (dp rfl rfl (fun h=>gf rfl h)) (aA rfl (aNn (aSR (UO 3 rfl rfl (UL 0 tk9 rfl rfl rfl rfl (aU rfl (Q0 rfl (jC _)) (aM rfl (aG rfl rfl (fun hc=>aT rfl) (aU rfl (bB rfl rfl (fun h=>gt rfl h)) (aA rfl (aNn (az (FZ1 [] Tryz.results108 rfl ?_)))))))))))))))
 rfl
theorem aa2(i:Nat)(x:cG):Con Tryz.prog 112 [.int .i64 i,x.val] [] [] fun r _ _=>r=.bool (deB x):=by
 refine EN2 Tryz.func112 rfl (aSR (LT rfl (cx rfl rfl rfl (fun b0_0=>(aHN ?_)))))
 refine aA rfl (aNn (aSR (UO 3 rfl rfl (UL 0 tk3 rfl rfl rfl rfl (aU rfl (fH rfl rfl) (aM rfl (GO 3 rfl rfl rfl (GL 0 tk3 rfl rfl rfl rfl rfl (aG rfl rfl (fun hc=>fl (ae rfl hc) rfl (by decide)) (aG rfl rfl (fun hc=>cA (ae rfl hc) rfl) (aU rfl (bB rfl rfl (fun h=>gt rfl h)) (aA rfl (aNn (az (FZ1 [] Tryz.results112 rfl ?_)))))))))))))))
 rfl
theorem acK(im:aD)(hS:fZ im):Con Tryz.prog 32 [im.val] [im.ok] [] fun r _ _=>r=.bool (ada im):=by
 refine EN1 Tryz.func32 rfl (aSR (LT rfl (cx rfl rfl rfl (fun b0_0=>(aHN ?_)))))
 refine aA rfl (aNs (bT 0 rfl rfl ?_))
 show awp _ _ _ _ ⟨_,At _ 0 _::_,_⟩
 refine aa (UO 19 rfl rfl (UD 19 tk36 0 rfl rfl rfl rfl (LT rfl (bJ (zs:=[.slice none 0 0,.slice none 0 0,.slice none 0 0,.slice none 0 0,.slice none 0 0,.slice none 0 0]) (by kernel_rfl) rfl (fun b1_2=>(aHN ?_))))))
 refine aW rfl (ba 1 tk36 rfl rfl rfl rfl (aHK ?_))
 refine aNs (bT 1 rfl rfl ?_)
 show awp _ _ _ _ ⟨_,At b1_2 0 im.info.row::_,_⟩
 refine aa (UO 0 rfl rfl (UD 0 tk29 0 rfl rfl rfl rfl (aU rfl (cq (l:=[.tmp 1,.tmp 3]) rfl) (aU rfl (QC rfl (fun w S fp hst=>(((sm im.info.marks 95 [.pointer (some ⟨b0_0,0,none⟩),.pointer (some ⟨b1_2,0,none⟩)] (aeQ im b0_0 b1_2) (adj im) (by kernel_rfl) (fun i x hx=>aaU im b0_0 b1_2 i x hx)).post (fun _ _ _ h=>h.2.2)).pre2 (ps:=[At b1_2 0 im.info.row,At b0_0 0 im.row,im.ok]) (cC.f_marks (aD.f_info (.of (aH 2 rfl)))) (Ent.mk2 (.of (aH 1 rfl)) (Ent.mk2 (.of (aH 0 rfl)) (.of (aH 2 rfl))))).quiet3 (aH 0 rfl) (aH 1 rfl) (aH 2 rfl) hst)) (aA rfl (aNn (aSR (UO 1 rfl rfl (UD 1 tk30 0 rfl rfl rfl rfl (aU rfl (cq (l:=[.tmp 1,.tmp 3]) rfl) (aU rfl (QC rfl (fun w S fp hst=>(((si im.info.lines 98 [.pointer (some ⟨b0_0,0,none⟩),.pointer (some ⟨b1_2,0,none⟩)] (aeQ im b0_0 b1_2) (adg im) (by kernel_rfl) (fun i x hx=>aaV im hS b0_0 b1_2 i x hx)).post (fun _ _ _ h=>h.2.2)).pre2 (ps:=[At b1_2 0 im.info.row,At b0_0 0 im.row,im.ok]) (cC.f_lines (aD.f_info (.of (aH 2 rfl)))) (Ent.mk2 (.of (aH 1 rfl)) (Ent.mk2 (.of (aH 0 rfl)) (.of (aH 2 rfl))))).quiet3 (aH 0 rfl) (aH 1 rfl) (aH 2 rfl) hst)) (aA rfl (aNn (aSR ?_))))))))))))))
 refine LT rfl (bJ (zs:=[.int .i64 0]) (by kernel_rfl) rfl (fun b4_0=>(aHN ?_)))
 refine aW rfl (ba 2 tk3 rfl rfl rfl rfl (aHK ?_))
 refine aNn (aSR (UO 2 rfl rfl (UD 2 tk31 0 rfl rfl rfl rfl (aU rfl (cq (l:=[.tmp 6,.tmp 1]) rfl) (LF rfl (EC [0,1,2] [2] rfl (Con.clH (((ud im.info.ends 100 [.pointer (some ⟨b4_0,0,none⟩),.pointer (some ⟨b0_0,0,none⟩)] (At b0_0 0 im.row) (fun e=>Box b4_0 3 [.int .i64 e]) (aeK im) 0 (by kernel_rfl) (fun s i x _=>aaW im b0_0 b4_0 s i x)).pre2 (cC.f_ends (aD.f_info (.of (aH 0 rfl)))) (.of (aH 1 rfl)))) (fun _ _ _ h=>h.2.1)) ?_))))))
 rintro _ _ _ ⟨rfl,rfl,rfl⟩
 refine aST ?_
 refine aA rfl (aNn (aSR (UD 0 tk39 1 rfl rfl rfl rfl (UO 3 rfl rfl (UD 3 tk32 0 rfl rfl rfl rfl (aU rfl (Q1 rfl ((pO im im.info.inlines).pre1 (ps:=[im.ok]) (cC.f_inlines (aD.f_info (.of (aH 0 rfl))))) 2 rfl) (aM rfl (GO 3 rfl rfl rfl (aG rfl rfl (fun hc=>bk (o:=3) tk32 (ae rfl hc) (.of (aH 0 rfl)) rfl) ?_)))))))))
 refine aG rfl rfl (fun hc=>Q1 (aK (ae rfl hc) (aK (ae rfl rfl) rfl)) (((pD im.info.inlines 104 [] im.ok (fun _ x=>inB x) (by kernel_rfl) (fun i x _=>(aaY i x).pre (fun _ h=>by cases h))).post (fun _ _ _ h=>h.2.2)).pre2 (ps:=[im.ok]) (cC.f_inlines (aD.f_info (.of (aH 0 rfl)))) (.of (aH 0 rfl))) 2 rfl) ?_
 refine aU rfl (bB rfl rfl (fun h=>gt rfl h)) (aA rfl (aNn (aSR (UD 0 tk39 1 rfl rfl rfl rfl (UO 4 rfl rfl (UD 4 tk33 0 rfl rfl rfl rfl (aU rfl (Q1 rfl ((uE im im.info.vars).pre1 (ps:=[im.ok]) (cC.f_vars (aD.f_info (.of (aH 0 rfl))))) 2 rfl) (aM rfl (GO 4 rfl rfl rfl (aG rfl rfl (fun hc=>bk (o:=4) tk33 (ae rfl hc) (.of (aH 0 rfl)) rfl) (aG rfl rfl (fun hc=>cq (l:=[.tmp 1]) rfl) (aG rfl rfl (fun hc=>QC (aK (ae rfl hc) (aK (ae rfl hc) rfl)) (fun w S fp hst=>(((uc im.info.vars 108 [.pointer (some ⟨b0_0,0,none⟩)] (At b0_0 0 im.row) (fun _ x=>vaB im x) (by kernel_rfl) (fun i x _=>aa0 im hS b0_0 i x)).post (fun _ _ _ h=>h.2.2)).pre2 (ps:=[At b0_0 0 im.row,im.ok]) (cC.f_vars (aD.f_info (.of (aH 1 rfl)))) (.of (aH 0 rfl))).quiet2 (aH 1 rfl) (aH 2 rfl) hst)) ?_))))))))))))
 refine aU rfl (bB rfl rfl (fun h=>gt rfl h)) (aA rfl (aNn (aSR (UD 0 tk39 1 rfl rfl rfl rfl (UO 5 rfl rfl (UD 5 tk34 0 rfl rfl rfl rfl (aU rfl (Q1 rfl ((q4 im im.info.depths).pre1 (ps:=[im.ok]) (cC.f_depths (aD.f_info (.of (aH 0 rfl))))) 2 rfl) (aM rfl (GO 5 rfl rfl rfl (aG rfl rfl (fun hc=>bk (o:=5) tk34 (ae rfl hc) (.of (aH 0 rfl)) rfl) ?_))))))))))
 refine aG rfl rfl (fun hc=>Q1 (aK (ae rfl hc) (aK (ae rfl rfl) rfl)) (((qj im.info.depths 112 [] im.ok (fun _ x=>deB x) (by kernel_rfl) (fun i x _=>(aa2 i x).pre (fun _ h=>by cases h))).post (fun _ _ _ h=>h.2.2)).pre2 (ps:=[im.ok]) (cC.f_depths (aD.f_info (.of (aH 0 rfl)))) (.of (aH 0 rfl))) 2 rfl) ?_
 refine aU rfl (bB rfl rfl (fun h=>gt rfl h)) (aA rfl (aNn (aSR (aM rfl (aM rfl (aG rfl rfl (fun hc=>aT rfl) (aU rfl (bB rfl rfl (fun h=>gt rfl h)) (aM rfl (aG rfl rfl (fun hc=>aT rfl) (aU rfl (bB rfl rfl (fun h=>gt rfl h)) (aM rfl (aG rfl rfl (fun hc=>aT rfl) (aU rfl (bB rfl rfl (fun h=>gt rfl h)) ?_)))))))))))))
 refine aM rfl (aG rfl rfl (fun hc=>aT rfl) (aU rfl (bB rfl rfl (fun h=>gt rfl h)) (aM rfl (aG rfl rfl (fun hc=>aT rfl) (aU rfl (bB rfl rfl (fun h=>gt rfl h)) (aA rfl (aNn (az (FZ1 [] Tryz.results32 rfl ?_)))))))))
 rfl
theorem uM{im:aD}(h:iT im=true):im.imports.l.length≤4096∧im.slots.l.length=im.imports.l.length:=by
 unfold iT at h
 split at h
 · cases h
 · rename_i hh
   rw [Bool.not_eq_true] at hh
   unfold wO at hh
   simp only [Bool.or_eq_false_iff,Bool.not_eq_false',decide_eq_false_iff_not,decide_eq_true_eq] at hh
   omega
def mA(im:aD):Bool:=((((((((mF im && kS im) && ri im) && iT im) && mY im) && uZ im) && rC im true) && ada im) && qi im)
theorem pb(im:aD)(hi:I64 im.code∧I64 im.data∧I64 im.zero):Con Tryz.prog 13 [im.val] [im.ok] [] (YN Value.bool fun b=>b=true↔aew im.versions.l∧mA im=true):=by
 refine EN1 Tryz.func13 rfl (fC (aD.f_name (.of (aH 0 rfl))) (fun hsn=>(aSR (LT rfl (cx rfl rfl rfl (fun b0_0=>(aHN ?_)))))))
 refine aA rfl (aNs (bT 0 rfl rfl ?_))
 show awp _ _ _ _ ⟨_,At _ 0 _::_,_⟩
 refine aa (UD 0 tk39 0 rfl rfl rfl rfl (aU rfl (Q0 rfl (abg im hsn hi)) (aM rfl (aG rfl rfl (fun hc=>bk (o:=0) tk39 rfl (.of (aH 0 rfl)) rfl) ?_))))
 refine aG rfl rfl (fun hc=>Q1 (aK (ae rfl hc) rfl) (aa8 im (gL.1 (by simpa using hc))) 1 rfl) ?_
 refine aU rfl (bB rfl rfl (fun h=>gt rfl h)) (aM rfl (aG rfl rfl (fun hc=>bk (o:=0) tk39 rfl (.of (aH 0 rfl)) rfl) (aG rfl rfl (fun hc=>Q1 (aK (ae rfl hc) rfl) (vZ im) 1 rfl) (aU rfl (bB rfl rfl (fun h=>gt rfl h)) (aM rfl (aG rfl rfl (fun hc=>bk (o:=0) tk39 rfl (.of (aH 0 rfl)) rfl) ?_))))))
 refine aG rfl rfl (fun hc=>Q1 (aK (ae rfl hc) rfl) (we im (gL.1 (by simp at hc;exact hc.1.1))) 1 rfl) ?_
 refine aU rfl (bB rfl rfl (fun h=>gt rfl h)) (aM rfl (aG rfl rfl (fun hc=>bk (o:=0) tk39 rfl (.of (aH 0 rfl)) rfl) ?_))
 refine aG rfl rfl (fun hc=>Q1 (aK (ae rfl hc) rfl) (acG im (gL.1 (by simp at hc;exact hc.1.1.1)) (uM (by simp at hc;exact hc.2)).2) 1 rfl) ?_
 refine aU rfl (bB rfl rfl (fun h=>gt rfl h)) (aM rfl (aG rfl rfl (fun hc=>bk (o:=0) tk39 rfl (.of (aH 0 rfl)) rfl) ?_))
 refine aG rfl rfl (fun hc=>Q1 (aK (ae rfl hc) rfl) (yx im (gL.1 (by simp at hc;exact hc.1.1.1.1))) 1 rfl) ?_
 refine aU rfl (bB rfl rfl (fun h=>gt rfl h)) (aM rfl (aG rfl rfl (fun hc=>bk (o:=0) tk39 rfl (.of (aH 0 rfl)) rfl) ?_))
 refine fB (caps:=[]) [0] (false) (by kernel_rfl) _ rfl rfl (fun _=>rfl) (fun hc=>(aK (ae rfl hc) rfl)) (fun hc=>by rw [List.append_nil];exact aa7 im) (fun v8 hv8 => ?_)
 refine aU rfl (bB rfl rfl (fun h=>gt rfl h)) (aM rfl (aG rfl rfl (fun hc=>bk (o:=0) tk39 rfl (.of (aH 0 rfl)) rfl) ?_))
 refine aG rfl rfl (fun hc=>Q1 (aK (ae rfl hc) rfl) (acK im (gL.1 (by simp at hc;exact hc.1.1.1.1.1.1))) 1 rfl) ?_
 refine aU rfl (bB rfl rfl (fun h=>gt rfl h)) (aM rfl (aG rfl rfl (fun hc=>bk (o:=0) tk39 rfl (.of (aH 0 rfl)) rfl) ?_))
 refine aG rfl rfl (fun hc=>Q1 (aK (ae rfl hc) rfl) (vP im (gL.1 (by simp at hc;exact hc.1.1.1.1.1.1.1))) 1 rfl) ?_
 refine aU rfl (bB rfl rfl (fun h=>gt rfl h)) (aA rfl (aNn (az (FZ1 [] Tryz.results13 rfl ?_))))
 refine ⟨⟨rfl,rfl⟩,_,rfl,fun h => ?_,fun ⟨hs,h⟩ => ?_⟩
 · simp only [Bool.and_eq_true] at h
   have h8:=(hv8 (by simp;exact h.1.1.1)).1 h.1.1.2
   refine ⟨h8.1,?_⟩
   unfold mA;simp only [Bool.and_eq_true]
   exact ⟨⟨⟨h.1.1.1,h8.2⟩,h.1.2⟩,h.2⟩
 · unfold mA at h
   simp only [Bool.and_eq_true] at h ⊢
   exact ⟨⟨⟨h.1.1.1,(hv8 (by simp;exact h.1.1.1)).2 ⟨hs,h.1.1.2⟩⟩,h.1.2⟩,h.2⟩
def aeN(at_:Int)(x:bp):Bool:=(ik x.kind && decide (x.at_≤at_)) && decide (at_<x.at_+x.size)
def nodeAt(at_:Int):Nat→List bp→Int × Bool
 | _,[]=>(0,false)
 | i,x::l=>if aeN at_ x=true then ((i:Int),true) else nodeAt at_ (i+1) l
theorem abB(z:Int){l:List bp}{k:Nat}{x:bp}(h:l[k]? = some x):nodeAt z k (l.drop k)=if aeN z x=true then ((k:Int),true) else nodeAt z (k+1) (l.drop (k+1)):=by
 obtain ⟨h1,h2⟩:=List.getElem?_eq_some_iff.1 h
 rw [List.drop_eq_getElem_cons h1,h2];rfl
def zB(l:List bp):Prop:=∀ x∈l,(0≤x.at_∧x.at_≤1048576)∧(0≤x.size∧x.size≤1048576)
theorem mj(im:aD)(hf:zB im.nodes.l)(z:Int):Con Tryz.prog 11 [im.val,.int .i64 z] [im.ok] [] fun r _ _=>r=.tuple #[.int .i64 (nodeAt z 0 im.nodes.l).1,.bool (nodeAt z 0 im.nodes.l).2]:=by
 obtain ⟨w0,hw0⟩:∃ w0,nodeAt z 0 im.nodes.l=w0:=⟨_,rfl⟩
 rw [hw0]
 refine EN2 Tryz.func11 rfl (bS (aD.f_nodes (.of (aH 0 rfl))) (fun hlen=>(aSR (LT rfl (cx rfl rfl rfl (fun b0_0=>(aHN ?_)))))))
 refine aA rfl (aA rfl (aNs (ai (bT 0 rfl rfl ?_))))
 show awp _ _ _ _ ⟨_,At _ 0 _::_,_⟩
 refine aa (UO 8 rfl rfl (UD 8 tk22 0 rfl rfl rfl rfl (aU rfl (aX Tryz.underlying22 rfl) (aM rfl (aNn (aq (aP [1,4,5,9,10,11] [1,0] [] (fun (k:Nat) st=>(k≤im.nodes.l.length∧nodeAt z k (im.nodes.l.drop k)=w0)∧st=⟨[(1,true,.int .i64 z),(4,true,.int .i64 0),(5,true,.bool false),(9,true,im.nodes.val),(10,true,.int .i64 im.nodes.l.length),(11,true,.int .i64 k)],[At b0_0 0 im.row,im.ok],[]⟩) (fun k=>im.nodes.l.length-k) rfl (⟨0,⟨Nat.zero_le _,hw0⟩,rfl⟩) ?_)))))))
 rintro k st ⟨⟨hk,hw⟩,rfl⟩
 refine aSR (aU rfl (bC rfl rfl) (aNs ?_))
 refine ao _ rfl (fun h1 => ?_) (fun h1 => ?_)
 ·skip
  have hk':k<im.nodes.l.length:=by simpa using h1
  obtain ⟨x,hx⟩:∃ x,im.nodes.l[k]? = some x:=⟨_,List.getElem?_eq_getElem hk'⟩
  rw [abB z hx] at hw
  have hxf:=hf x (List.mem_of_getElem? hx)
  refine ax (an (ai (aq (aSR (aM rfl (jo true rfl rfl (fun _=>bI Tryz.underlying22 tk71 rfl ((aD.f_nodes (.of (aH 1 rfl)))) rfl (aI hx) rfl rfl) (fun h=>absurd h (by decide)) (fun ⟨b3_1,o3_1⟩=>(US 0 tk71 0 rfl rfl rfl rfl rfl (LT rfl (bJ (zs:=[.string .empty,.string .empty,.int .i64 0,.int .i64 0,.int .i64 0,.string .empty,.string .empty]) (by kernel_rfl) rfl (fun b3_3=>(aHN ?_))))))))))))
  refine aA rfl (aW rfl (ba 0 tk71 rfl rfl rfl rfl (aHK ?_)))
  refine aNn (aSR (UO 2 rfl rfl (UL 0 tk3 rfl rfl rfl rfl (aU rfl (Q0 rfl (tc _)) (aM rfl (GO 3 rfl rfl rfl (GL 0 tk3 rfl rfl rfl rfl rfl (aG rfl rfl (fun hc=>aT rfl) (aG rfl rfl (fun hc=>eY (ae rfl hc) (ae rfl hc)) (aU rfl (bB rfl rfl (fun h=>gt rfl h)) (aM rfl (aG rfl rfl (fun hc=>aT rfl) (GO 3 rfl rfl rfl (GL 0 tk3 rfl rfl rfl rfl rfl (GO 4 rfl rfl rfl ?_)))))))))))))))
  refine GL 0 tk3 rfl rfl rfl rfl rfl ?_
  refine aG rfl rfl (fun hc=>aV (ae rfl hc) (ae rfl hc) (by (first | omega | (simp at hc;omega)))) ?_
  refine aG rfl rfl (fun hc=>bC (ae rfl hc) (ae rfl hc)) (aU rfl (bB rfl rfl (fun h=>gt rfl h)) (aNn ?_))
  refine ao _ rfl (fun h2 => ?_) (fun h2 => ?_)
  ·skip
   have hb:aeN z x=true:=h2
   rw [if_pos hb] at hw
   refine aSR (aM rfl (aA rfl (aA rfl (aNn (az (cH (bw (bw (cH (bw (FZ2 [] Tryz.results11 rfl rfl ?_)))))))))))
   rw [← hw]
  ·skip
   have hb:aeN z x=false:=h2
   rw [if_neg (by rw [hb];decide)] at hw
   refine ax (bu (an (aa (aU rfl (aV rfl rfl (by omega)) (aM rfl (aNn ?_))))))
   refine ⟨[1,4,5,9,10,11],[1,0],[],rfl,?_⟩
   exact ⟨k+1,⟨⟨hk',hw⟩,rfl⟩,by omega⟩
 ·skip
  rw [List.drop_eq_nil_of_le (by simp at h1;omega)] at hw
  refine aR (aS (aS (aY (an (aSR (aA rfl (aA rfl (aNn (az (FZ2 [] Tryz.results11 rfl rfl ?_))))))))))
  rw [← hw];rfl
end Go.Proofs.YtebnelfdimiifaaGreatDoor

namespace Go.Sy
open Go.RowKit Go.Lp Go.Proofs.YtebnelfdimiifaaGreatDoor
section
variable {P:Program} {n:Fr} {env:Env} {ps:List Per} {hp:List Res} {d:Option Tmp} {ty:TypeId} {pos:String} {af:Array Edge} {gd:Option (Nat × Bool)} {v:Value}
theorem abT(bs:List UInt8):∀ (r:ByteArray),(bs.map fun b=>(b.toNat:Int)).foldl (fun r n=>r.push (UInt8.ofNat n.toNat)) r=⟨r.data++bs.toArray⟩:=by
 induction bs with
 | nil=>intro r;simp
 | cons b bs ih =>
   intro r
   rw [List.map_cons,List.foldl_cons,ih]
   simp [ByteArray.push]
theorem iY{x:Operand}{T E T2:TypeId}{m c:Nat}{ad:Option Addr}{rows:List (List D)}(i:Nat)(bs:List UInt8)(hT:P.underlying T=some (.slice E))(hE:P.underlying E=some (.int .u8))(hD:P.underlying T2=some .string)(hx:ev env x=some (true,.slice ad m c))
   (hi:hp[i]? = some (aN (.slice ad m c) E 1 rows)) (hr:rows=bs.map fun b=>[.v (.int .u8 b.toNat)]) (h0:bs≠[]) :
   Quiet P n ⟨d,.convert T T2 x,ty,pos,af,gd⟩ ⟨env,ps,hp⟩ (.string (ofBytes bs)):=fun w S fp a hst he hn=>by
 have h1:=he.val hx rfl
 subst hr
 rcases hst.res i _ hi with ⟨_,h,_⟩ | ⟨b,cap,hv,⟨cs,sp,hb,hrows,hcap,_,_⟩,_⟩
 · simp at h;exact absurd h h0
 · injection hv with hv1 hv2 hv3
   subst hv1;subst hv2;subst hv3
   have hl:cs.length=bs.length:=by have:=hrows.len;simpa using this
   have hcs:cs=bs.map fun b=>(.int .u8 b.toNat:Value):=by
     apply List.ext_getElem?
     intro k
     cases hk:bs[k]? with
     | none=>rw [List.getElem?_eq_none (by have:=List.getElem?_eq_none_iff.1 hk;omega)];simp [hk]
     | some u =>
       obtain ⟨y,hy,hrep⟩:=hrows.rep k 0 [.v (.int .u8 u.toNat)] (.v (.int .u8 u.toNat)) (by simp [hk]) rfl
       rw [Nat.mul_one,Nat.add_zero] at hy
       rw [hy,jt hrep];simp [hk]
   have hload:(loadCells ⟨b,0,none⟩ bs.length).run P w=.ok ((bs.map fun b=>(b.toNat:Int)).map (Value.int .u8)).toArray w:=by
     rw [run_loadCells w ⟨b,0,none⟩ bs.length (fun k=>cs.getD k undef) (fun k hk=>by
       have:(Addr.mk b 0 none).add k=⟨b,k,none⟩:=by
         unfold Addr.add;split
         · rename_i h;rw [h]
         · simp
       rw [this,ec hb,List.getElem?_append_left (by omega)]
       simp [List.getD,show k<cs.length by omega])]
     congr 2
     rw [hcs,List.map_map]
     apply List.ext_getElem
     · simp
     · intro k h1 h2
       simp at h1 h2 ⊢
       simp [List.getD,h2]
   have:(convert T T2 (.slice (some ⟨b,0,none⟩) (bs.map fun b=>[D.v (.int .u8 b.toNat)]).length c)).run P w=.ok (.string (ofBytes bs)) w:=by
     rw [List.length_map,run_convert_bytes_string w T T2 E _ _ _ hT hE hD,run_bytesToString w ⟨b,0,none⟩ bs.length c (bs.map fun b=>(b.toNat:Int)) hload]
     congr 2
     rw [abT];simp [ofBytes]
   have hx2:(execOp a.eval ⟨d,.convert T T2 x,ty,pos,af,gd⟩).run P w=.ok (.value (.string (ofBytes bs))) w:=by
     unfold execOp;dsimp only;rw [h1]
     show ((convert T T2 _).bind fun r=>Sem.pure (Next.value r)).run P w=_
     rw [Sem.run_bind',this];rfl
   rw [hx2];exact cg _ _
theorem ee.bytes{w:World}{S:bH}{cs:List Value}{l:List UInt8}(h:ee w S 1 cs (l.map cE)):cs=Lib.byteCells l:=by
 have hl:cs.length=l.length:=by have:=h.len;simpa using this
 apply List.ext_getElem?
 intro k
 unfold Lib.byteCells
 cases hk:l[k]? with
 | none=>rw [List.getElem?_eq_none (by have:=List.getElem?_eq_none_iff.1 hk;omega)];simp [hk]
 | some u =>
   obtain ⟨y,hy,hrep⟩:=h.rep k 0 [.v (.int .u8 u.toNat)] (.v (.int .u8 u.toNat)) (by simp [hk]) rfl
   rw [Nat.mul_one,Nat.add_zero] at hy
   rw [hy,jt hrep];simp [hk]
theorem uX(w:World)(S:bH)(l:List UInt8):ee w S 1 (Lib.byteCells l) (l.map cE) where
 len:=by simp [Lib.byteCells]
 row i r hr:=by
   rw [List.getElem?_map,Option.map_eq_some_iff] at hr
   obtain ⟨u,_,rfl⟩:=hr;rfl
 one:=Lib.byteCells_one l
 rep i j r d hr hd:=by
   rw [List.getElem?_map,Option.map_eq_some_iff] at hr
   obtain ⟨u,hu,rfl⟩:=hr
   cases j with
   | zero =>
     simp only [List.getElem?_cons_zero,Option.some.injEq] at hd
     subst hd
     exact ⟨.int .u8 u.toNat,by simp [Lib.byteCells,hu],.v _⟩
   | succ j=>simp at hd
theorem zb{T E:TypeId}{x y:Operand}{m sz k:Nat}{z:Int}{kk:IntKind}{b:Nat}(hT:P.underlying T=some (.array m E))(hE:((P.info? E).map fun j=>j.size)=some sz)(hx:ev env x=some (true,.pointer (some ⟨b,0,none⟩)))(hy:ev env y=some (true,.int kk z))(hz:z=(k:Int))(hk:0<k)(hkm:k≤m) :
   Quiet P n ⟨d,.slice T x none (some y) none,ty,pos,af,gd⟩ ⟨env,ps,hp⟩ (.slice (some ⟨b,0,none⟩) k m):=fun w S fp a hst he hn=>by
 have h1:=he.val hx rfl
 subst hz
 have h2:=he.val hy rfl
 obtain ⟨j,hj,hjs⟩:=Option.map_eq_some_iff.1 hE
 have:(execOp a.eval ⟨d,.slice T x none (some y) none,ty,pos,af,gd⟩).run P w=.ok (.value (.slice (some ⟨b,0,none⟩) k m)) w:=by
   unfold execOp;dsimp only;simp only [Option.map_some,Option.map_none];rw [h1,h2]
   show ((Instr.sliceAt T (.pointer (some ⟨b,0,none⟩)) none (some (.int kk k)) none).bind fun r=>Sem.pure (Next.value r)).run P w=_
   have hm0:¬ m=0:=by omega
   have:(Instr.sliceAt T (.pointer (some ⟨b,0,none⟩)) none (some (.int kk k)) none).run P w=.ok (.slice (some ⟨b,0,none⟩) k m) w:=by
     unfold Instr.sliceAt
     simp [run_underlying hT,Instr.sureAddr,asAddr,Instr.sliceBounds,Instr.sliceBound,sizeOf,typeInfo,hj,Addr.add,hm0,asIntOf,hkm]
   rw [Sem.run_bind',this];rfl
 rw [this];exact cg _ _
end
end Go.Sy
namespace Go.Proofs.YtebnelfdimiifaaGreatDoor
open Go.RowKit Go.Lp Go.Sy
theorem wq8{i:Nat}(h:i≤1000):IntKind.i64.wrap ((i:Int).tdiv 8)=((i / 8:Nat):Int):=by
 rw [show ((i:Int)).tdiv 8=((i / 8:Nat):Int) from rfl,IntKind.wrap_i64];omega
end Go.Proofs.YtebnelfdimiifaaGreatDoor

namespace Go.Sy
open Go.RowKit Go.Lp
theorem ae4{P:Program}{n:Fr}{env:Env}{ps:List Per}{hp:List Res}{d:Option Tmp}{ty:TypeId}{pos:String}{af:Array Edge}{gd:Option (Nat × Bool)}{x y:Operand}{T E:TypeId}{sz:Nat}{B m cp:Nat}(k:Nat)(hel:elB P T E sz=true)(hx:ev env x=some (true,.slice (some ⟨B,0,none⟩) m cp)){z:Int}(hy:ev env y=some (true,.int .i64 z))(hz:z=(k:Int))(hk:k<m) :
   Quiet P n ⟨d,.indexAddr T x y,ty,pos,af,gd⟩ ⟨env,ps,hp⟩ (.pointer (some ⟨B,k*sz,none⟩)):=fun w S fp a hst he hn=>by
 subst hz
 obtain ⟨hT,it,hit,_,hsz,_⟩:=dF hel
 have h1:=he.val hx rfl
 have h2:=he.val hy rfl
 have:(execOp a.eval ⟨d,.indexAddr T x y,ty,pos,af,gd⟩).run P w=.ok (.value (.pointer (some ⟨B,k*sz,none⟩))) w:=by
   unfold execOp;dsimp only;rw [h1,h2]
   show ((Instr.indexAt T (.slice (some ⟨B,0,none⟩) m cp) (.int .i64 k)).bind fun r=>Sem.pure (Next.value r)).run P w=_
   have hE:P.elem T=E:=by unfold Program.elem;rw [hT]
   rw [Sem.run_bind',run_indexAt_slice _ _ _ _ _ _ _ (by rw [hE];exact hT),if_pos (by omega),hE,db hit,hsz]
   simp only [Result.andThen,Int.toNat_natCast]
   unfold Addr.add
   split
   · rename_i h0;rw [h0];rfl
   · simp only [Nat.zero_add];rfl
 rw [this];exact cg _ _
section
variable {P:Program} {n:Fr} {s:Sta} {d:Option Tmp} {ty:TypeId} {pos:String} {af:Array Edge} {gd:Option (Nat × Bool)}
theorem uT{x y:Operand}{T:TypeId}{kk:IntKind}{z:Int}{b:ByteArray}(hT:P.underlying T=some .string)(hx:ev s.env x=some (true,.string b))(hy:ev s.env y=some (true,.int kk z))(h0:0≤z)(h1:z≤b.size) :
   Quiet P n ⟨d,.slice T x (some y) none none,ty,pos,af,gd⟩ s (.string (b.extract z.toNat b.size)):=.run2 hx hy fun ρ w e1 e2=>by
 unfold execOp;dsimp only;simp only [Option.map_some,Option.map_none];rw [e1,e2]
 show ((Instr.sliceAt T (.string b) (some (.int kk z)) none none).bind fun r=>Sem.pure (Next.value r)).run P w=_
 have:(Instr.sliceAt T (.string b) (some (.int kk z)) none none).run P w=.ok (.string (b.extract z.toNat b.size)) w:=by
   rw [run_sliceAt_string w T _ _ _ _ hT]
   exact run_slice_string_l w T b hT kk z h0 h1
 rw [Sem.run_bind',this];rfl
end
end Go.Sy
namespace Go.Proofs.YtebnelfdimiifaaGreatDoor
open Go.RowKit Go.Lp Go.Sy
end Go.Proofs.YtebnelfdimiifaaGreatDoor

namespace Go.Sy
open Go.RowKit Go.Lp Go.Proofs.YtebnelfdimiifaaGreatDoor
end Go.Sy
namespace Go.Proofs.YtebnelfdimiifaaGreatDoor
open Go.RowKit Go.Lp Go.Sy
theorem afG{m:Nat}(h:m<18446744073709551616):IntKind.u64.wrap ((m:Int).tdiv 128)=((m / 128:Nat):Int):=by
 rw [show ((m:Int)).tdiv 128=((m / 128:Nat):Int) from rfl,IntKind.wrap_u64];omega
end Go.Proofs.YtebnelfdimiifaaGreatDoor

namespace Go.Sy
open Go.RowKit Go.Lp Go.Proofs.YtebnelfdimiifaaGreatDoor
theorem agD{P:Program}{env:Env}{ps:List Per}{hp:List Res}{tx:TypeId}{l:List UInt8}(hk:P.underlying tx=some .string):l9 P ⟨env,ps,hp⟩ tx 1 (.string (Go.Lv.bytesOf l)) (l.map cE):=⟨fun w S fp hst=>by
 refine ⟨l.map fun u=>.int .u8 u.toNat,⟨by simp,fun i r h => ?_,fun v hv => ?_,fun i j r d h1 h2 => ?_⟩,?_⟩
 · rw [List.getElem?_map] at h
   obtain ⟨u,_,rfl⟩:=Option.map_eq_some_iff.1 h
   rfl
 · obtain ⟨u,_,rfl⟩:=List.mem_map.1 hv
   rfl
 · rw [List.getElem?_map] at h1
   obtain ⟨u,hu,rfl⟩:=Option.map_eq_some_iff.1 h1
   have hj:j=0:=by
     have:=(List.getElem?_eq_some_iff.1 h2).1;simpa using this
   subst hj
   simp only [List.getElem?_cons_zero,Option.some.injEq] at h2
   subst h2
   exact ⟨_,by rw [List.getElem?_map,Nat.mul_one,Nat.add_zero,hu];rfl,.v _⟩
 · have:=Src.ofString (P:=P) (w:=w) hk (Go.Lv.bytesOf l)
   rw [List.length_map]
   have e:byteCells (Go.Lv.bytesOf l)=l.map fun u=>.int .u8 u.toNat:=rfl
   rw [← e];exact this⟩
end Go.Sy
namespace Go.Proofs.YtebnelfdimiifaaGreatDoor
open Go.RowKit Go.Lp Go.Sy Go.Lv
open Go.Proofs.Tryz
attribute [local irreducible] aL aB awp aC fwp Quiet
theorem wT(p:Value)(w:World):(Extern.AbiNoEscape.same #[p]).run Tryz.prog w=.ok p w:=rfl
abbrev bR(b:Nat)(p v x:Value):Res:=Box b 65 [p,v,x]
theorem xY(b:Nat)(v x:Value):Con Tryz.prog 145 [.pointer (some ⟨b,0,none⟩)] [] [bR b (.pointer none) v x] fun _ ps hp=>ps=[]∧hp=[bR b (.pointer (some ⟨b,0,none⟩)) v x]:=by
 refine EN1 Tryz.func145 rfl (aSR (aM rfl (UN rfl rfl (UO 0 rfl rfl (UL 0 tk59 rfl rfl rfl rfl (aU rfl (jl (by kernel_rfl) rfl) (aNn ?_)))))))
 refine ao _ rfl (fun h1 => ?_) (fun h1 => ?_)
 ·skip
  refine aa (aM rfl (aM rfl ?_))
  refine aU rfl (zd (t:=62) 0 (by kernel_rfl) (by kernel_rfl) (by kernel_rfl) rfl rfl (by simp)) ?_
  refine aU rfl (adQ (vs:=_) Tryz.func173 rfl rfl (by kernel_rfl) (by kernel_rfl) rfl (fun w=>wT _ w)) (aU rfl (rJ (u:=62) 0 3 (by kernel_rfl) (by kernel_rfl) (by kernel_rfl) rfl rfl rfl (by kernel_rfl)) (UN rfl rfl (UO 0 rfl rfl (aW rfl (ba 0 tk59 rfl rfl rfl rfl (aHK ?_))))))
  refine bP (FZ0 [0] Tryz.results145 ?_)
  exact ⟨rfl,rfl⟩
 ·skip
  exact absurd h1 (by decide)
theorem xZ(b:Nat)(v x:Value):Con Tryz.prog 145 [.pointer (some ⟨b,0,none⟩)] [] [bR b (.pointer (some ⟨b,0,none⟩)) v x] fun _ ps hp=>ps=[]∧hp=[bR b (.pointer (some ⟨b,0,none⟩)) v x]:=by
 refine EN1 Tryz.func145 rfl (aSR (aM rfl (UN rfl rfl (UO 0 rfl rfl (UL 0 tk59 rfl rfl rfl rfl (aU rfl (ny (by kernel_rfl) rfl) (aNn ?_)))))))
 refine ao _ rfl (fun h1 => ?_) (fun h1 => ?_)
 ·skip
  exact absurd h1 (by decide)
 ·skip
  refine aSR (aM rfl (UN rfl rfl (UO 0 rfl rfl (UL 0 tk59 rfl rfl rfl rfl (aM rfl (aU rfl (oM (te:=62) (by kernel_rfl) (by kernel_rfl) rfl rfl) (aNn ?_)))))))
  refine ao _ rfl (fun h2 => ?_) (fun h2 => ?_)
  ·skip
   exact absurd h2 (by decide)
  ·skip
   refine ax (FZ0 [0] Tryz.results145 ?_)
   exact ⟨rfl,rfl⟩
theorem aaN(b:Nat)(p:Value)(hp:p=.pointer none∨p=.pointer (some ⟨b,0,none⟩))(v x:Value):Con Tryz.prog 145 [.pointer (some ⟨b,0,none⟩)] [] [bR b p v x] fun _ ps hp=>ps=[]∧hp=[bR b (.pointer (some ⟨b,0,none⟩)) v x]:=by
 rcases hp with rfl | rfl
 · exact xY b v x
 · exact xZ b v x
theorem om(b:Nat)(p:Value)(hp:p=.pointer none∨p=.pointer (some ⟨b,0,none⟩))(v x:Value)(l t:List UInt8)(ht:t≠[])(hl:l.length+t.length≤1000000000):Con Tryz.prog 120 [.pointer (some ⟨b,0,none⟩),.string (bytesOf t)] [] [bR b p v x,aN v 5 1 (l.map cE)]
   fun _ ps hp=>ps=[]∧∃ (ad:Option Addr) (c:Nat),hp=[bR b (.pointer (some ⟨b,0,none⟩)) (.slice ad (l++t).length c) x,aN (.slice ad (l++t).length c) 5 1 ((l++t).map cE)]:=by
 refine EN2 Tryz.func120 rfl ?_
 have ht':t.map cE≠[]:=by simpa using ht
 refine aSR (aA rfl (aA rfl (aNn (aSR (aM rfl (LF rfl (EC [] [0] rfl (aaN b p hp v x) ?_)))))))
 rintro _ _ _ ⟨rfl,rfl⟩
 refine aST ?_
 refine aNn (aSR (aM rfl (aM rfl (UN rfl rfl (UO 1 rfl rfl (UL 0 tk60 rfl rfl rfl rfl (aM rfl ?_)))))))
 refine aW rfl (cK 1 el60 rfl rfl rfl rfl (agD Tryz.underlying9) (by first | assumption | simp) (by rw [List.length_map,List.length_map];omega) ((l++t).length) (by rw [List.length_map,List.length_map,List.length_append]) (fun v2_6 c2_6 => ?_))
 refine aHK ?_
 refine UN rfl rfl (UO 1 rfl rfl (aW rfl (ba 0 tk60 rfl rfl rfl rfl (aHK ?_))))
 refine aNn (aSR (aM rfl (aU rfl (cB Tryz.underlying9 rfl) (aA rfl (aA rfl (aNn (az (FZ2 [0,1] Tryz.results120 rfl rfl ?_))))))))
 exact ⟨rfl,v2_6,c2_6,by rw [List.map_append];rfl⟩
theorem acE(b:Nat)(p:Value)(g cp:Nat)(hcp:cp≠0)(x:Value)(l:List UInt8)(hl:l≠[]):Con Tryz.prog 18 [.pointer (some ⟨b,0,none⟩)] [] [bR b p (.slice (some ⟨g,0,none⟩) l.length cp) x,aN (.slice (some ⟨g,0,none⟩) l.length cp) 5 1 (l.map cE)]
   fun r ps hp=>ps=[]∧hp=[]∧r=.string (bytesOf l):=by
 refine EN1 Tryz.func18 rfl (aSR (aA rfl (aNs (DR [10] 12 (VM 0 rfl rfl (VN 1 rfl rfl rfl (VO 2 1 rfl rfl rfl (VL 3 0 tk60 rfl rfl rfl rfl rfl (bV 4 rfl rfl (kX hcp rfl) (VM 5 rfl rfl (VN 6 rfl rfl rfl (VO 7 1 rfl rfl rfl (VL 8 0 tk60 rfl rfl rfl rfl rfl (bV 9 rfl rfl (aX Tryz.underlying60 rfl) ?_))))))))))))))
 refine VE 10 rfl rfl (kN 1 (by kernel_rfl) (by kernel_rfl) hl rfl rfl rfl rfl (bST rfl ?_))
 refine bV 11 rfl rfl (bo rfl) (BN (an (az (FZ1 [] Tryz.results18 rfl ?_))))
 exact ⟨rfl,rfl,rfl⟩
theorem zN(m0:Nat)(h0:m0<18446744073709551616):Con Tryz.prog 169 [.slice none 0 0,.int .u64 m0] [] [] fun r ps hp=>ps=[]∧∃ (ad:Option Addr) (c:Nat),r=.slice ad (aQ m0).length c∧hp=[aN (.slice ad (aQ m0).length c) 5 1 ((aQ m0).map cE)]:=by
 refine EN2 Tryz.func169 rfl (ai (ef 5 1 ?_))
 show awp _ _ _ _ ⟨_,_,[_]⟩
 refine aa (aA rfl (aNs (aq (aP [0,1,4] [] [0] (fun (q:Nat × (Value × List UInt8)) st=>WrI m0 q.2.2 q.1∧st=⟨[(0,true,q.2.1),(1,true,.int .u64 q.1),(4,true,.slice none 0 0)],[],[aN q.2.1 5 1 (q.2.2.map cE)]⟩) (fun q=>q.1) rfl (⟨(m0,(.slice none 0 0,[])),.start h0,rfl⟩) ?_))))
 rintro ⟨m,v,l⟩ st ⟨hI,rfl⟩
 dsimp only at hI ⊢
 have hll:=hI.le
 refine ai (aSR (aM rfl (aU rfl (fH rfl rfl) (aNn ?_))))
 refine ao _ rfl (fun h1 => ?_) (fun h1 => ?_)
 ·skip
  have h128:128≤m:=by simp at h1;omega
  refine ax (an (aq (aSR (aM rfl (aM rfl (aU rfl (fl rfl rfl (by decide)) (aU rfl (cW (by kernel_rfl) Tryz.underlying5 rfl) (aU rfl (tG rfl rfl) (LT rfl (WL (zs:=[.int .u8 0]) el60 rfl rfl rfl (.more rfl (.v rfl .nil) .nil) rfl rfl (fun v2_5=>(aHN ?_))))))))))))
  refine aW rfl (cK 0 el60 rfl rfl rfl rfl (dW 1 el60 rfl (by simp)) (by first | assumption | simp) (by rw [List.length_map];exact Nat.le_trans (show l.length+1≤10 by omega) (by decide)) ((l.length+1)) (by rw [List.length_map];rfl) (fun v2_6 c2_6 => ?_))
  refine aHK ?_
  refine aA rfl (aNn ?_)
  rw [afY m]
  refine aa (aM rfl (aU rfl (rL rfl rfl (by decide)) (aA rfl (bP (bu (an ?_))))))
  refine ⟨[0,1,4],[],[0],rfl,?_⟩
  have hlt:m<18446744073709551616:=Nat.lt_of_lt_of_le hI.lt (Nat.le_trans (Nat.mul_le_mul_left 2 (Nat.pow_le_pow_right (by decide) (show 9-l.length≤9 by omega))) (by decide))
  exact ⟨(m / 128,(_,l++[UInt8.ofNat (m % 128+128)])),⟨hI.step h128,by dsimp only;rw [← afG hlt,List.map_append,List.map_singleton,cE,ach (show m % 128+128<256 by omega)];rfl⟩,by dsimp only;omega⟩
 ·skip
  have h128:m<128:=by simp at h1;omega
  refine aR (aS (aS (aY (an (aSR (aM rfl (aM rfl (aU rfl (cW (by kernel_rfl) Tryz.underlying5 rfl) (LT rfl (WL (zs:=[.int .u8 0]) el60 rfl rfl rfl (.more rfl (.v rfl .nil) .nil) rfl rfl (fun v4_3=>(aHN ?_))))))))))))
  refine aW rfl (cK 0 el60 rfl rfl rfl rfl (dW 1 el60 rfl (by simp)) (by first | assumption | simp) (by rw [List.length_map];exact Nat.le_trans (show l.length+1≤10 by omega) (by decide)) ((aQ m0).length) (by rw [← hI.last h128,List.length_map,List.length_append];rfl) (fun v4_4 c4_4 => ?_))
  refine aHK ?_
  refine aA rfl (aNn (az (FZ1 [0] Tryz.results169 rfl ?_)))
  refine ⟨rfl,v4_4,c4_4,rfl,?_⟩
  rw [← hI.last h128,List.map_append,List.map_singleton,cE,ach (show m<256 by omega),zY h128]
  rfl
theorem wD(m:Nat)(hm:m≤9223372036854775807):Con Tryz.prog 129 [.int .i64 m] [] [] fun r ps hp=>ps=[]∧hp=[]∧r=.string (bytesOf (aQ m)):=by
 refine EN1 Tryz.func129 rfl (aSR (aA rfl (aNs (aSR (aM rfl (aU rfl (bC rfl rfl) (aNn ?_)))))))
 refine ao _ rfl (fun h1 => ?_) (fun h1 => ?_)
 ·skip
  exact absurd h1 (by simp)
 ·skip
  refine ax (an (aSR (aM rfl (aU rfl (cW (by kernel_rfl) Tryz.underlying135 rfl) ?_))))
  refine LT rfl (EC [] [] rfl ((by show Con _ _ [.slice none 0 0,.int .u64 (IntKind.u64.wrap (m:Int))] [] [] _;rw [Go.wraps_u64 (m:Int) (by omega) (by omega)];exact zN m (by omega))) ?_)
  rintro _ _ _ ⟨rfl,ad,c,rfl,rfl⟩
  refine aST ?_
  refine aU rfl (iY 0 (aQ m) Tryz.underlying60 Tryz.underlying5 Tryz.underlying9 rfl rfl rfl (p4 m)) (aA rfl (aNn (az (FZ1 [] Tryz.results129 rfl ?_))))
  exact ⟨rfl,rfl,rfl⟩
theorem acO(z:Int)(hz:I64 z):Con Tryz.prog 126 [.int .i64 z] [] [] fun r ps hp=>ps=[]∧hp=[]∧r=.string (bytesOf (aQ (zz z))):=by
 refine EN1 Tryz.func126 rfl (aSR (aA rfl (aNn (aSR (aM rfl (aU rfl (cW (by kernel_rfl) Tryz.underlying135 rfl) (aU rfl (tH rfl rfl (by decide)) (aM rfl (aU rfl (xk rfl rfl (by decide)) (aU rfl (cW (by kernel_rfl) Tryz.underlying135 rfl) (aU rfl ((ic rfl rfl).castV (congrArg (Value.int .u64) (agF hz))) (LT rfl (EC [] [] rfl (zN (zz z) (aaC hz)) ?_)))))))))))))
 rintro _ _ _ ⟨rfl,ad,c,rfl,rfl⟩
 refine aST ?_
 refine aU rfl (iY 0 (aQ (zz z)) Tryz.underlying60 Tryz.underlying5 Tryz.underlying9 rfl rfl rfl (p4 _)) (aA rfl (aNn (az (FZ1 [] Tryz.results126 rfl ?_))))
 exact ⟨rfl,rfl,rfl⟩
theorem abm(s:ByteArray)(hs:s.size≤4611686018427387904):Con Tryz.prog 128 [.string s] [] [] fun r ps hp=>ps=[]∧hp=[]∧r=.string (bytesOf (sH s)):=by
 refine EN1 Tryz.func128 rfl (aSR (aA rfl (aNn (aSR (aM rfl (aU rfl (cB Tryz.underlying9 rfl) (LT rfl (EC [] [] rfl (wD s.size (by omega)) ?_))))))))
 rintro _ _ _ ⟨rfl,rfl,rfl⟩
 refine aST ?_
 refine aM rfl ?_
 refine aU rfl (kY rfl rfl (by have h:(aQ s.size).length≤10:=eJ 10 s.size;show (aQ s.size).length+s.size≤_;omega)) ?_
 refine aA rfl (aNn (az (FZ1 [] Tryz.results128 rfl ?_)))
 exact ⟨rfl,rfl,congrArg Value.string (et (aQ s.size) (il s)).symm⟩
end Go.Proofs.YtebnelfdimiifaaGreatDoor

