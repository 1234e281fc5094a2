/- Parts of the proof, in build order. No condition. -/
import Derived.Test.YtfkcmbonmpcbfaaGreatRa17
import Derived.Test.YtfkcmbonmpcbfaaGreatRa05
import Derived.Test.YtfkcmbonmpcbfaaGreatRa09
import Derived.Test.YtfkcmbonmpcbfaaGreatRa08
import Derived.Test.YtfkcmbonmpcbfaaGreatRa04
import Derived.Lib.UnsafeStr
import Derived.Lib.Builder
import Derived.Test.YtfkcmbonmpcbfaaGreatRa11
import Derived.Lib.BufferWrite
import Derived.Test.YtfkcmbonmpcbfaaGreatRa06
set_option linter.unusedSimpArgs false
set_option linter.unusedVariables false
set_option maxHeartbeats 1000000
set_option maxRecDepth 20000
namespace Go.Proofs.YtfkcmbonmpcbfaaGreat
open Go.RowKit Go.Lp Go.Sy Go.Lv
open Go.Proofs.Tryz
attribute [local irreducible] aL aB awp aC fwp Quiet
theorem yT(im:az)(b b2:Nat)(e:Int)(i:Nat)(x:bC):Con Tryz.prog 167 [.int .i64 i,x.val,.pointer (some ⟨b2,0,none⟩),.pointer (some ⟨b,0,none⟩)] [At b 0 im.row] [Box b2 3 [.int .i64 e]] fun r ps hp=>ps=[]∧r=.bool (acv im e i x).1∧hp=[Box b2 3 [.int .i64 (acv im e i x).2]]:=by
 refine EN4 Tryz.func167 rfl (aSR (LT rfl (cK rfl rfl rfl (fun b0_0=>(aHN ?_)))))
 refine aA rfl (aNn (aSR (UO 0 rfl rfl (UL 1 tk3 rfl rfl rfl rfl (UL 0 tk3 rfl rfl rfl rfl (UO 2 rfl rfl (UD 2 tk3 0 rfl rfl rfl rfl (aU rfl (Q0 rfl (dA _ _ _)) (aM rfl (GO 1 rfl rfl rfl (GL 1 tk3 rfl rfl rfl rfl rfl (GO 2 rfl rfl rfl (aG rfl rfl (fun hc=>bg (o:=2) tk3 (ae rfl hc) (.of (aI 0 rfl)) rfl) (GO 0 rfl rfl rfl ?_))))))))))))))
 refine GL 1 tk3 rfl rfl rfl rfl rfl (aG rfl rfl (fun hc=>ym (ae rfl hc) (ae rfl hc)) (aG rfl rfl (fun hc=>fe (by kernel_rfl) (aN (ae rfl hc) (aN (ae rfl rfl) (aN (ae rfl hc) rfl))) (fun w S fp hst=>(dA _ _ _).quiet0 hst)) (aU rfl (bo rfl rfl (fun h=>gt rfl h)) (aA rfl (aNn (aSR (UO 0 rfl rfl (UL 1 tk3 rfl rfl rfl rfl (UO 1 rfl rfl (UL 1 tk3 rfl rfl rfl rfl (aU rfl (qD rfl rfl) (aD rfl (aF 0 tk3 rfl rfl rfl rfl (aHK ?_))))))))))))))
 refine aNn (aSR (aM rfl (aA rfl (aNn (ax (FZ1 [0] Tryz.results167 rfl ?_))))))
 exact ⟨rfl,rfl,rfl⟩
theorem tk263:tyk Tryz.prog 263=some (false,1):=by kernel_rfl
theorem yU(x:bF):Con Tryz.prog 169 [x.val] [] [] fun r _ _=>r=v3 (inG x):=by
 refine EN1 Tryz.func169 rfl (aSR (LT rfl (cK rfl rfl rfl (fun b0_0=>(aHN ?_)))))
 refine aA rfl (aA rfl (aA rfl (aNs (DR [] 9 (VO 0 0 rfl rfl rfl (VL 1 0 tk3 rfl rfl rfl rfl rfl (VO 2 1 rfl rfl rfl (VL 3 0 tk3 rfl rfl rfl rfl rfl (VO 4 2 rfl rfl rfl (VL 5 0 tk3 rfl rfl rfl rfl rfl (bV 6 rfl rfl (bE rfl) (bV 7 rfl rfl (bE rfl) (bV 8 rfl rfl (bE rfl) (BN ?_))))))))))))))
 refine aj (ax ?_)
 refine adn [] [] rfl Tryz.results169 rfl rfl rfl ?_ (.inr rfl)
 rfl
theorem nh(im:az)(b bf b2:Nat)(e:Int)(i:Nat)(x:bF):Con Tryz.prog 256 [.int .i64 i,x.val,.pointer (some ⟨bf,0,none⟩),.pointer (some ⟨b2,0,none⟩),.pointer (some ⟨b,0,none⟩)] [cM (At bf 0 [.v (.func (.func 169) #[] #[])]) (At b 0 im.row)] [Box b2 3 [.int .i64 e]] fun r ps hp=>ps=[]∧r=.bool (l0 im inG e i x).1∧hp=[Box b2 3 [.int .i64 (l0 im inG e i x).2]]:=by
 refine EN5 Tryz.func256 rfl (aR _ (Ent.left (.of (aI 0 rfl))) (aR _ (Ent.right (.of (aI 1 rfl))) (aSR (LT rfl (cK rfl rfl rfl (fun b0_0=>(aHN ?_)))))))
 refine aA rfl (aNn (aSR (UD 0 tk263 1 rfl rfl rfl rfl (UL 1 tk262 rfl rfl rfl rfl (aU rfl (jg (by kernel_rfl) rfl rfl (fun w S fp hst=>(yU x).quiet0 hst)) ?_)))))
 refine aM rfl (aU rfl (ck rfl rfl) (aU rfl (ck rfl rfl) (aU rfl (ck rfl rfl) (aA rfl (aA rfl (aA rfl (aNn (aSR (aM rfl (aU rfl (cJ rfl rfl) (aM rfl (aG rfl rfl (fun hc=>aS rfl) (aG rfl rfl (fun hc=>bJ 0 tk3 rfl rfl rfl) ?_)))))))))))))
 refine aG rfl rfl (fun hc=>fi (ae rfl hc) (ae rfl hc)) (aU rfl (bo rfl rfl (fun h=>gt rfl h)) (aM rfl (aG rfl rfl (fun hc=>aS rfl) (aG rfl rfl (fun hc=>aS rfl) (aG rfl rfl (fun hc=>ff (ae rfl hc) (ae rfl hc)) (aU rfl (bo rfl rfl (fun h=>gt rfl h)) (aM rfl (aG rfl rfl (fun hc=>aS rfl) (GO 2 rfl rfl rfl ?_)))))))))
 refine aG rfl rfl (fun hc=>bg (o:=2) tk3 (ae rfl hc) (.of (aI 0 rfl)) rfl) (aG rfl rfl (fun hc=>ff (ae rfl hc) (ae rfl hc)) (aU rfl (bo rfl rfl (fun h=>gt rfl h)) (aA rfl (aNn (aSR (aM rfl (aD rfl (aF 0 tk3 rfl rfl rfl rfl (aHK ?_)))))))))
 refine aNn (aSR (aM rfl (aA rfl (aNn (ax (FZ1 [0] Tryz.results256 rfl ?_))))))
 exact ⟨rfl,rfl,rfl⟩
theorem oE(im:az)(l:Sl bF):Con Tryz.prog 168 [im.val,l.val,.func (.func 169) #[] #[]] [ShF bF.row l] [] fun r _ _=>r=.bool (fQ (l0 im inG) 0 0 l.l).1:=by
 refine EN3 Tryz.func168 rfl (aSR (LT rfl (cK rfl rfl rfl (fun b0_0=>(aHN ?_)))))
 refine LT rfl (cK rfl rfl rfl (fun b0_1=>(aHN ?_)))
 refine aA rfl (aNs (bS 0 rfl rfl ?_))
 show awp _ _ _ _ ⟨_,At _ 0 _::_,_⟩
 refine aa (LT rfl (bk (zs:=[.int .i64 0]) (by kernel_rfl) rfl (fun b1_0=>(aHN ?_))))
 refine aD rfl (aF 2 tk3 rfl rfl rfl rfl (aHK ?_))
 refine aNs (bS 1 rfl rfl ?_)
 show awp _ _ _ _ ⟨_,At b0_1 0 [.v (.func (.func 169) #[] #[])]::_,_⟩
 refine aa (aM rfl (aU rfl (cF (l:=[.tmp 5,.tmp 7,.tmp 3]) rfl) (LF rfl (EC [0,1,2] [2] rfl (Con.clH (((pj l 256 [.pointer (some ⟨b0_1,0,none⟩),.pointer (some ⟨b1_0,0,none⟩),.pointer (some ⟨b0_0,0,none⟩)] (cM (At b0_1 0 [.v (.func (.func 169) #[] #[])]) (At b0_0 0 im.row)) (fun e=>Box b1_0 3 [.int .i64 e]) (l0 im inG) 0 (by kernel_rfl) (fun s i x _=>nh im b0_0 b0_1 b1_0 s i x)).pre2 (.of (aI 0 rfl)) (Ent.mk2 (.of (aI 2 rfl)) (.of (aI 1 rfl))))) (fun _ _ _ h=>h.2.1)) ?_))))
 rintro _ _ _ ⟨rfl,rfl,rfl⟩
 refine aST ?_
 refine aA rfl (aNn (ax (FZ1 [] Tryz.results168 rfl ?_)))
 rfl
theorem tk269:tyk Tryz.prog 269=some (false,1):=by kernel_rfl
theorem yW(x:dJ):Con Tryz.prog 173 [x.val] [] [] fun r _ _=>r=v3 (vaG x):=by
 refine EN1 Tryz.func173 rfl (aSR (LT rfl (cK rfl rfl rfl (fun b0_0=>(aHN ?_)))))
 refine aA rfl (aA rfl (aA rfl (aNs (DR [] 9 (VO 0 0 rfl rfl rfl (VL 1 0 tk3 rfl rfl rfl rfl rfl (VO 2 1 rfl rfl rfl (VL 3 0 tk3 rfl rfl rfl rfl rfl (VO 4 2 rfl rfl rfl (VL 5 0 tk3 rfl rfl rfl rfl rfl (bV 6 rfl rfl (bE rfl) (bV 7 rfl rfl (bE rfl) (bV 8 rfl rfl (bE rfl) (BN ?_))))))))))))))
 refine aj (ax ?_)
 refine adn [] [] rfl Tryz.results173 rfl rfl rfl ?_ (.inr rfl)
 rfl
theorem rm(im:az)(b bf b2:Nat)(e:Int)(i:Nat)(x:dJ):Con Tryz.prog 257 [.int .i64 i,x.val,.pointer (some ⟨bf,0,none⟩),.pointer (some ⟨b2,0,none⟩),.pointer (some ⟨b,0,none⟩)] [cM (At bf 0 [.v (.func (.func 173) #[] #[])]) (At b 0 im.row)] [Box b2 3 [.int .i64 e]] fun r ps hp=>ps=[]∧r=.bool (l0 im vaG e i x).1∧hp=[Box b2 3 [.int .i64 (l0 im vaG e i x).2]]:=by
 refine EN5 Tryz.func257 rfl (aR _ (Ent.left (.of (aI 0 rfl))) (aR _ (Ent.right (.of (aI 1 rfl))) (aSR (LT rfl (cK rfl rfl rfl (fun b0_0=>(aHN ?_)))))))
 refine aA rfl (aNn (aSR (UD 0 tk269 1 rfl rfl rfl rfl (UL 1 tk268 rfl rfl rfl rfl (aU rfl (jg (by kernel_rfl) rfl rfl (fun w S fp hst=>(yW x).quiet0 hst)) ?_)))))
 refine aM rfl (aU rfl (ck rfl rfl) (aU rfl (ck rfl rfl) (aU rfl (ck rfl rfl) (aA rfl (aA rfl (aA rfl (aNn (aSR (aM rfl (aU rfl (cJ rfl rfl) (aM rfl (aG rfl rfl (fun hc=>aS rfl) (aG rfl rfl (fun hc=>bJ 0 tk3 rfl rfl rfl) ?_)))))))))))))
 refine aG rfl rfl (fun hc=>fi (ae rfl hc) (ae rfl hc)) (aU rfl (bo rfl rfl (fun h=>gt rfl h)) (aM rfl (aG rfl rfl (fun hc=>aS rfl) (aG rfl rfl (fun hc=>aS rfl) (aG rfl rfl (fun hc=>ff (ae rfl hc) (ae rfl hc)) (aU rfl (bo rfl rfl (fun h=>gt rfl h)) (aM rfl (aG rfl rfl (fun hc=>aS rfl) (GO 2 rfl rfl rfl ?_)))))))))
 refine aG rfl rfl (fun hc=>bg (o:=2) tk3 (ae rfl hc) (.of (aI 0 rfl)) rfl) (aG rfl rfl (fun hc=>ff (ae rfl hc) (ae rfl hc)) (aU rfl (bo rfl rfl (fun h=>gt rfl h)) (aA rfl (aNn (aSR (aM rfl (aD rfl (aF 0 tk3 rfl rfl rfl rfl (aHK ?_)))))))))
 refine aNn (aSR (aM rfl (aA rfl (aNn (ax (FZ1 [0] Tryz.results257 rfl ?_))))))
 exact ⟨rfl,rfl,rfl⟩
theorem s9(im:az)(l:Sl dJ):Con Tryz.prog 172 [im.val,l.val,.func (.func 173) #[] #[]] [ShF dJ.row l] [] fun r _ _=>r=.bool (fQ (l0 im vaG) 0 0 l.l).1:=by
 refine EN3 Tryz.func172 rfl (aSR (LT rfl (cK rfl rfl rfl (fun b0_0=>(aHN ?_)))))
 refine LT rfl (cK rfl rfl rfl (fun b0_1=>(aHN ?_)))
 refine aA rfl (aNs (bS 0 rfl rfl ?_))
 show awp _ _ _ _ ⟨_,At _ 0 _::_,_⟩
 refine aa (LT rfl (bk (zs:=[.int .i64 0]) (by kernel_rfl) rfl (fun b1_0=>(aHN ?_))))
 refine aD rfl (aF 2 tk3 rfl rfl rfl rfl (aHK ?_))
 refine aNs (bS 1 rfl rfl ?_)
 show awp _ _ _ _ ⟨_,At b0_1 0 [.v (.func (.func 173) #[] #[])]::_,_⟩
 refine aa (aM rfl (aU rfl (cF (l:=[.tmp 5,.tmp 7,.tmp 3]) rfl) (LF rfl (EC [0,1,2] [2] rfl (Con.clH (((uh l 257 [.pointer (some ⟨b0_1,0,none⟩),.pointer (some ⟨b1_0,0,none⟩),.pointer (some ⟨b0_0,0,none⟩)] (cM (At b0_1 0 [.v (.func (.func 173) #[] #[])]) (At b0_0 0 im.row)) (fun e=>Box b1_0 3 [.int .i64 e]) (l0 im vaG) 0 (by kernel_rfl) (fun s i x _=>rm im b0_0 b0_1 b1_0 s i x)).pre2 (.of (aI 0 rfl)) (Ent.mk2 (.of (aI 2 rfl)) (.of (aI 1 rfl))))) (fun _ _ _ h=>h.2.1)) ?_))))
 rintro _ _ _ ⟨rfl,rfl,rfl⟩
 refine aST ?_
 refine aA rfl (aNn (ax (FZ1 [] Tryz.results172 rfl ?_)))
 rfl
theorem tk275:tyk Tryz.prog 275=some (false,1):=by kernel_rfl
theorem yY(x:cC):Con Tryz.prog 177 [x.val] [] [] fun r _ _=>r=v3 (deG x):=by
 refine EN1 Tryz.func177 rfl (aSR (LT rfl (cK rfl rfl rfl (fun b0_0=>(aHN ?_)))))
 refine aA rfl (aA rfl (aA rfl (aNs (DR [] 9 (VO 0 0 rfl rfl rfl (VL 1 0 tk3 rfl rfl rfl rfl rfl (VO 2 1 rfl rfl rfl (VL 3 0 tk3 rfl rfl rfl rfl rfl (VO 4 2 rfl rfl rfl (VL 5 0 tk3 rfl rfl rfl rfl rfl (bV 6 rfl rfl (bE rfl) (bV 7 rfl rfl (bE rfl) (bV 8 rfl rfl (bE rfl) (BN ?_))))))))))))))
 refine aj (ax ?_)
 refine adn [] [] rfl Tryz.results177 rfl rfl rfl ?_ (.inr rfl)
 rfl
theorem oD(im:az)(b bf b2:Nat)(e:Int)(i:Nat)(x:cC):Con Tryz.prog 258 [.int .i64 i,x.val,.pointer (some ⟨bf,0,none⟩),.pointer (some ⟨b2,0,none⟩),.pointer (some ⟨b,0,none⟩)] [cM (At bf 0 [.v (.func (.func 177) #[] #[])]) (At b 0 im.row)] [Box b2 3 [.int .i64 e]] fun r ps hp=>ps=[]∧r=.bool (l0 im deG e i x).1∧hp=[Box b2 3 [.int .i64 (l0 im deG e i x).2]]:=by
 refine EN5 Tryz.func258 rfl (aR _ (Ent.left (.of (aI 0 rfl))) (aR _ (Ent.right (.of (aI 1 rfl))) (aSR (LT rfl (cK rfl rfl rfl (fun b0_0=>(aHN ?_)))))))
 refine aA rfl (aNn (aSR (UD 0 tk275 1 rfl rfl rfl rfl (UL 1 tk274 rfl rfl rfl rfl (aU rfl (jg (by kernel_rfl) rfl rfl (fun w S fp hst=>(yY x).quiet0 hst)) ?_)))))
 refine aM rfl (aU rfl (ck rfl rfl) (aU rfl (ck rfl rfl) (aU rfl (ck rfl rfl) (aA rfl (aA rfl (aA rfl (aNn (aSR (aM rfl (aU rfl (cJ rfl rfl) (aM rfl (aG rfl rfl (fun hc=>aS rfl) (aG rfl rfl (fun hc=>bJ 0 tk3 rfl rfl rfl) ?_)))))))))))))
 refine aG rfl rfl (fun hc=>fi (ae rfl hc) (ae rfl hc)) (aU rfl (bo rfl rfl (fun h=>gt rfl h)) (aM rfl (aG rfl rfl (fun hc=>aS rfl) (aG rfl rfl (fun hc=>aS rfl) (aG rfl rfl (fun hc=>ff (ae rfl hc) (ae rfl hc)) (aU rfl (bo rfl rfl (fun h=>gt rfl h)) (aM rfl (aG rfl rfl (fun hc=>aS rfl) (GO 2 rfl rfl rfl ?_)))))))))
 refine aG rfl rfl (fun hc=>bg (o:=2) tk3 (ae rfl hc) (.of (aI 0 rfl)) rfl) (aG rfl rfl (fun hc=>ff (ae rfl hc) (ae rfl hc)) (aU rfl (bo rfl rfl (fun h=>gt rfl h)) (aA rfl (aNn (aSR (aM rfl (aD rfl (aF 0 tk3 rfl rfl rfl rfl (aHK ?_)))))))))
 refine aNn (aSR (aM rfl (aA rfl (aNn (ax (FZ1 [0] Tryz.results258 rfl ?_))))))
 exact ⟨rfl,rfl,rfl⟩
theorem qa(im:az)(l:Sl cC):Con Tryz.prog 176 [im.val,l.val,.func (.func 177) #[] #[]] [ShF cC.row l] [] fun r _ _=>r=.bool (fQ (l0 im deG) 0 0 l.l).1:=by
 refine EN3 Tryz.func176 rfl (aSR (LT rfl (cK rfl rfl rfl (fun b0_0=>(aHN ?_)))))
 refine LT rfl (cK rfl rfl rfl (fun b0_1=>(aHN ?_)))
 refine aA rfl (aNs (bS 0 rfl rfl ?_))
 show awp _ _ _ _ ⟨_,At _ 0 _::_,_⟩
 refine aa (LT rfl (bk (zs:=[.int .i64 0]) (by kernel_rfl) rfl (fun b1_0=>(aHN ?_))))
 refine aD rfl (aF 2 tk3 rfl rfl rfl rfl (aHK ?_))
 refine aNs (bS 1 rfl rfl ?_)
 show awp _ _ _ _ ⟨_,At b0_1 0 [.v (.func (.func 177) #[] #[])]::_,_⟩
 refine aa (aM rfl (aU rfl (cF (l:=[.tmp 5,.tmp 7,.tmp 3]) rfl) (LF rfl (EC [0,1,2] [2] rfl (Con.clH (((qZ l 258 [.pointer (some ⟨b0_1,0,none⟩),.pointer (some ⟨b1_0,0,none⟩),.pointer (some ⟨b0_0,0,none⟩)] (cM (At b0_1 0 [.v (.func (.func 177) #[] #[])]) (At b0_0 0 im.row)) (fun e=>Box b1_0 3 [.int .i64 e]) (l0 im deG) 0 (by kernel_rfl) (fun s i x _=>oD im b0_0 b0_1 b1_0 s i x)).pre2 (.of (aI 0 rfl)) (Ent.mk2 (.of (aI 2 rfl)) (.of (aI 1 rfl))))) (fun _ _ _ h=>h.2.1)) ?_))))
 rintro _ _ _ ⟨rfl,rfl,rfl⟩
 refine aST ?_
 refine aA rfl (aNn (ax (FZ1 [] Tryz.results176 rfl ?_)))
 rfl
theorem yV(i:Nat)(x:bF):Con Tryz.prog 171 [.int .i64 i,x.val] [] [] fun r _ _=>r=.bool (inB x):=by
 refine EN2 Tryz.func171 rfl (aSR (LT rfl (cK rfl rfl rfl (fun b0_0=>(aHN ?_)))))
 refine aA rfl (aNn (aSR (UO 3 rfl rfl (UL 0 tk9 rfl rfl rfl rfl (aU rfl (Q0 rfl (jy _)) (aM rfl (GO 4 rfl rfl rfl (GL 0 tk9 rfl rfl rfl rfl rfl (aG rfl rfl (fun hc=>Q0 (aN (ae rfl hc) rfl) (jy _)) (aU rfl (bo rfl rfl (fun h=>gt rfl h)) (aM rfl (GO 5 rfl rfl rfl ?_))))))))))))
 refine GL 0 tk3 rfl rfl rfl rfl rfl (aG rfl rfl (fun hc=>fi (ae rfl hc) rfl) (aU rfl (bo rfl rfl (fun h=>gt rfl h)) (aA rfl (aNn (ax (FZ1 [] Tryz.results171 rfl ?_))))))
 rfl
theorem yX(im:az)(hS:fV im)(b i:Nat)(x:dJ):Con Tryz.prog 175 [.int .i64 i,x.val,.pointer (some ⟨b,0,none⟩)] [At b 0 im.row] [] fun r _ _=>r=.bool (vaB im x):=by
 have hc0:=hS.c0
 have hcd:=hS.cd
 have hdz:=hS.dz
 have hzm:=hS.zm
 refine EN3 Tryz.func175 rfl (aSR (LT rfl (cK rfl rfl rfl (fun b0_0=>(aHN ?_)))))
 refine aA rfl (aNn (aSR (UO 4 rfl rfl (UL 0 tk3 rfl rfl rfl rfl (aU rfl (cJ rfl rfl) (aM rfl (GO 4 rfl rfl rfl (GL 0 tk3 rfl rfl rfl rfl rfl (aG rfl rfl (fun hc=>cJ (ae rfl hc) rfl) (aG rfl rfl (fun hc=>aS (ae rfl hc)) (GO 5 rfl rfl rfl (GL 0 tk3 rfl rfl rfl rfl rfl (aG rfl rfl (fun hc=>fe (by kernel_rfl) (aN (ae rfl hc) (aN (ae rfl rfl) (aN (ae rfl rfl) rfl))) (fun w S fp hst=>(dA _ _ _).quiet0 hst)) ?_)))))))))))))
 refine aG rfl rfl (fun hc=>bo (ae rfl hc) rfl (fun h=>gt hc h)) (aU rfl (eu rfl rfl (fun h=>gf rfl h)) (aM rfl (GO 4 rfl rfl rfl (GL 0 tk3 rfl rfl rfl rfl rfl (aG rfl rfl (fun hc=>cJ (ae rfl hc) rfl) (aG rfl rfl (fun hc=>aS (ae rfl hc)) (GO 5 rfl rfl rfl (GL 0 tk3 rfl rfl rfl rfl rfl (GO 4 rfl rfl rfl (aG rfl rfl (fun hc=>bg (o:=4) tk3 (ae rfl hc) (.of (aI 0 rfl)) rfl) ?_))))))))))
 refine aG rfl rfl (fun hc=>dp (ae rfl hc) rfl (by (first | omega | (simp at hc;omega)))) ?_
 refine aG rfl rfl (fun hc=>fe (by kernel_rfl) (aN (ae rfl hc) (aN (ae rfl rfl) (aN (ae rfl hc) rfl))) (fun w S fp hst=>(dA _ _ _).quiet0 hst)) (aG rfl rfl (fun hc=>bo (ae rfl hc) rfl (fun h=>gt hc h)) (aU rfl (eu rfl rfl (fun h=>gf rfl h)) (aA rfl (aNn (aSR (UO 3 rfl rfl (UL 0 tk9 rfl rfl rfl rfl (aU rfl (Q0 rfl (jy _)) (aM rfl (aG rfl rfl (fun hc=>aS rfl) (aU rfl (bo rfl rfl (fun h=>gt rfl h)) (aA rfl (aNn (ax (FZ1 [] Tryz.results175 rfl ?_)))))))))))))))
 rfl
theorem yZ(i:Nat)(x:cC):Con Tryz.prog 179 [.int .i64 i,x.val] [] [] fun r _ _=>r=.bool (deB x):=by
 refine EN2 Tryz.func179 rfl (aSR (LT rfl (cK rfl rfl rfl (fun b0_0=>(aHN ?_)))))
 refine aA rfl (aNn (aSR (UO 3 rfl rfl (UL 0 tk3 rfl rfl rfl rfl (aU rfl (fi rfl rfl) (aM rfl (GO 3 rfl rfl rfl (GL 0 tk3 rfl rfl rfl rfl rfl (aG rfl rfl (fun hc=>gZ (ae rfl hc) rfl (by decide)) (aG rfl rfl (fun hc=>cJ (ae rfl hc) rfl) (aU rfl (bo rfl rfl (fun h=>gt rfl h)) (aA rfl (aNn (ax (FZ1 [] Tryz.results179 rfl ?_)))))))))))))))
 rfl
theorem aaL(im:az)(hS:fV im):Con Tryz.prog 72 [im.val] [im.ok] [] fun r _ _=>r=.bool (aa9 im):=by
 refine EN1 Tryz.func72 rfl (aSR (LT rfl (cK rfl rfl rfl (fun b0_0=>(aHN ?_)))))
 refine aA rfl (aNs (bS 0 rfl rfl ?_))
 show awp _ _ _ _ ⟨_,At _ 0 _::_,_⟩
 refine aa (UO 19 rfl rfl (UD 19 tk37 0 rfl rfl rfl rfl (LT rfl (bk (zs:=[.slice none 0 0,.slice none 0 0,.slice none 0 0,.slice none 0 0,.slice none 0 0,.slice none 0 0]) (by kernel_rfl) rfl (fun b1_2=>(aHN ?_))))))
 refine aD rfl (aF 1 tk37 rfl rfl rfl rfl (aHK ?_))
 refine aNs (bS 1 rfl rfl ?_)
 show awp _ _ _ _ ⟨_,At b1_2 0 im.info.row::_,_⟩
 refine aa (UO 0 rfl rfl (UD 0 tk30 0 rfl rfl rfl rfl (aU rfl (cF (l:=[.tmp 1,.tmp 3]) rfl) (aU rfl (QC rfl (fun w S fp hst=>(((qX im.info.marks 162 [.pointer (some ⟨b0_0,0,none⟩),.pointer (some ⟨b1_2,0,none⟩)] (acB im b0_0 b1_2) (abd im) (by kernel_rfl) (fun i x hx=>yR im b0_0 b1_2 i x hx)).post (fun _ _ _ h=>h.2.2)).pre2 (ps:=[At b1_2 0 im.info.row,At b0_0 0 im.row,im.ok]) (cG.f_marks (az.f_info (.of (aI 2 rfl)))) (Ent.mk2 (.of (aI 1 rfl)) (Ent.mk2 (.of (aI 0 rfl)) (.of (aI 2 rfl))))).quiet3 (aI 0 rfl) (aI 1 rfl) (aI 2 rfl) hst)) (aA rfl (aNn (aSR (UO 1 rfl rfl (UD 1 tk31 0 rfl rfl rfl rfl (aU rfl (cF (l:=[.tmp 1,.tmp 3]) rfl) (aU rfl (QC rfl (fun w S fp hst=>(((qW im.info.lines 165 [.pointer (some ⟨b0_0,0,none⟩),.pointer (some ⟨b1_2,0,none⟩)] (acB im b0_0 b1_2) (abc im) (by kernel_rfl) (fun i x hx=>yS im hS b0_0 b1_2 i x hx)).post (fun _ _ _ h=>h.2.2)).pre2 (ps:=[At b1_2 0 im.info.row,At b0_0 0 im.row,im.ok]) (cG.f_lines (az.f_info (.of (aI 2 rfl)))) (Ent.mk2 (.of (aI 1 rfl)) (Ent.mk2 (.of (aI 0 rfl)) (.of (aI 2 rfl))))).quiet3 (aI 0 rfl) (aI 1 rfl) (aI 2 rfl) hst)) (aA rfl (aNn (aSR ?_))))))))))))))
 refine LT rfl (bk (zs:=[.int .i64 0]) (by kernel_rfl) rfl (fun b4_0=>(aHN ?_)))
 refine aD rfl (aF 2 tk3 rfl rfl rfl rfl (aHK ?_))
 refine aNn (aSR (UO 2 rfl rfl (UD 2 tk32 0 rfl rfl rfl rfl (aU rfl (cF (l:=[.tmp 6,.tmp 1]) rfl) (LF rfl (EC [0,1,2] [2] rfl (Con.clH (((sH im.info.ends 167 [.pointer (some ⟨b4_0,0,none⟩),.pointer (some ⟨b0_0,0,none⟩)] (At b0_0 0 im.row) (fun e=>Box b4_0 3 [.int .i64 e]) (acv im) 0 (by kernel_rfl) (fun s i x _=>yT im b0_0 b4_0 s i x)).pre2 (cG.f_ends (az.f_info (.of (aI 0 rfl)))) (.of (aI 1 rfl)))) (fun _ _ _ h=>h.2.1)) ?_))))))
 rintro _ _ _ ⟨rfl,rfl,rfl⟩
 refine aST ?_
 refine aA rfl (aNn (aSR (UD 0 tk40 1 rfl rfl rfl rfl (UO 3 rfl rfl (UD 3 tk33 0 rfl rfl rfl rfl (aU rfl (Q1 rfl ((oE im im.info.inlines).pre1 (ps:=[im.ok]) (cG.f_inlines (az.f_info (.of (aI 0 rfl))))) 2 rfl) (aM rfl (GO 3 rfl rfl rfl (aG rfl rfl (fun hc=>bg (o:=3) tk33 (ae rfl hc) (.of (aI 0 rfl)) rfl) ?_)))))))))
 refine aG rfl rfl (fun hc=>Q1 (aN (ae rfl hc) (aN (ae rfl rfl) rfl)) (((ot im.info.inlines 171 [] im.ok (fun _ x=>inB x) (by kernel_rfl) (fun i x _=>(yV i x).pre (fun _ h=>by cases h))).post (fun _ _ _ h=>h.2.2)).pre2 (ps:=[im.ok]) (cG.f_inlines (az.f_info (.of (aI 0 rfl)))) (.of (aI 0 rfl))) 2 rfl) ?_
 refine aU rfl (bo rfl rfl (fun h=>gt rfl h)) (aA rfl (aNn (aSR (UD 0 tk40 1 rfl rfl rfl rfl (UO 4 rfl rfl (UD 4 tk34 0 rfl rfl rfl rfl (aU rfl (Q1 rfl ((s9 im im.info.vars).pre1 (ps:=[im.ok]) (cG.f_vars (az.f_info (.of (aI 0 rfl))))) 2 rfl) (aM rfl (GO 4 rfl rfl rfl (aG rfl rfl (fun hc=>bg (o:=4) tk34 (ae rfl hc) (.of (aI 0 rfl)) rfl) (aG rfl rfl (fun hc=>cF (l:=[.tmp 1]) rfl) (aG rfl rfl (fun hc=>QC (aN (ae rfl hc) (aN (ae rfl hc) rfl)) (fun w S fp hst=>(((sG im.info.vars 175 [.pointer (some ⟨b0_0,0,none⟩)] (At b0_0 0 im.row) (fun _ x=>vaB im x) (by kernel_rfl) (fun i x _=>yX im hS b0_0 i x)).post (fun _ _ _ h=>h.2.2)).pre2 (ps:=[At b0_0 0 im.row,im.ok]) (cG.f_vars (az.f_info (.of (aI 1 rfl)))) (.of (aI 0 rfl))).quiet2 (aI 1 rfl) (aI 2 rfl) hst)) ?_))))))))))))
 refine aU rfl (bo rfl rfl (fun h=>gt rfl h)) (aA rfl (aNn (aSR (UD 0 tk40 1 rfl rfl rfl rfl (UO 5 rfl rfl (UD 5 tk35 0 rfl rfl rfl rfl (aU rfl (Q1 rfl ((qa im im.info.depths).pre1 (ps:=[im.ok]) (cG.f_depths (az.f_info (.of (aI 0 rfl))))) 2 rfl) (aM rfl (GO 5 rfl rfl rfl (aG rfl rfl (fun hc=>bg (o:=5) tk35 (ae rfl hc) (.of (aI 0 rfl)) rfl) ?_))))))))))
 refine aG rfl rfl (fun hc=>Q1 (aN (ae rfl hc) (aN (ae rfl rfl) rfl)) (((pe im.info.depths 179 [] im.ok (fun _ x=>deB x) (by kernel_rfl) (fun i x _=>(yZ i x).pre (fun _ h=>by cases h))).post (fun _ _ _ h=>h.2.2)).pre2 (ps:=[im.ok]) (cG.f_depths (az.f_info (.of (aI 0 rfl)))) (.of (aI 0 rfl))) 2 rfl) ?_
 refine aU rfl (bo rfl rfl (fun h=>gt rfl h)) (aA rfl (aNn (aSR (aM rfl (aM rfl (aG rfl rfl (fun hc=>aS rfl) (aU rfl (bo rfl rfl (fun h=>gt rfl h)) (aM rfl (aG rfl rfl (fun hc=>aS rfl) (aU rfl (bo rfl rfl (fun h=>gt rfl h)) (aM rfl (aG rfl rfl (fun hc=>aS rfl) (aU rfl (bo rfl rfl (fun h=>gt rfl h)) ?_)))))))))))))
 refine aM rfl (aG rfl rfl (fun hc=>aS rfl) (aU rfl (bo rfl rfl (fun h=>gt rfl h)) (aM rfl (aG rfl rfl (fun hc=>aS rfl) (aU rfl (bo rfl rfl (fun h=>gt rfl h)) (aA rfl (aNn (ax (FZ1 [] Tryz.results72 rfl ?_)))))))))
 rfl
theorem tl{im:az}(h:iR im=true):im.imports.l.length≤4096∧im.slots.l.length=im.imports.l.length:=by
 unfold iR at h
 split at h
 · cases h
 · rename_i hh
   rw [Bool.not_eq_true] at hh
   unfold vd at hh
   simp only [Bool.or_eq_false_iff,Bool.not_eq_false',decide_eq_false_iff_not,decide_eq_true_eq] at hh
   omega
def kF(im:az):Bool:=((((((((l6 im && kA im) && qo im) && iR im) && mr im) && tF im) && nu im true) && aa9 im) && pd im)
theorem n5(im:az)(hi:I64 im.code∧I64 im.data∧I64 im.zero):Con Tryz.prog 16 [im.val] [im.ok] [] (YN Value.bool fun b=>(b=true→VOk im.versions.l∧kF im=true)∧(iY im.versions.l→kF im=true→b=true)):=by
 refine EN1 Tryz.func16 rfl (fy (az.f_name (.of (aI 0 rfl))) (fun hsn=>(aSR (LT rfl (cK rfl rfl rfl (fun b0_0=>(aHN ?_)))))))
 refine aA rfl (aNs (bS 0 rfl rfl ?_))
 show awp _ _ _ _ ⟨_,At _ 0 _::_,_⟩
 refine aa (UD 0 tk40 0 rfl rfl rfl rfl (aU rfl (Q0 rfl (zh im hsn hi)) (aM rfl (aG rfl rfl (fun hc=>bg (o:=0) tk40 rfl (.of (aI 0 rfl)) rfl) ?_))))
 refine aG rfl rfl (fun hc=>Q1 (aN (ae rfl hc) rfl) (y9 im (gN.1 (by simpa using hc))) 1 rfl) ?_
 refine aU rfl (bo rfl rfl (fun h=>gt rfl h)) (aM rfl (aG rfl rfl (fun hc=>bg (o:=0) tk40 rfl (.of (aI 0 rfl)) rfl) (aG rfl rfl (fun hc=>Q1 (aN (ae rfl hc) rfl) (uz im) 1 rfl) (aU rfl (bo rfl rfl (fun h=>gt rfl h)) (aM rfl (aG rfl rfl (fun hc=>bg (o:=0) tk40 rfl (.of (aI 0 rfl)) rfl) ?_))))))
 refine aG rfl rfl (fun hc=>Q1 (aN (ae rfl hc) rfl) (uD im (gN.1 (by simp at hc;exact hc.1.1))) 1 rfl) ?_
 refine aU rfl (bo rfl rfl (fun h=>gt rfl h)) (aM rfl (aG rfl rfl (fun hc=>bg (o:=0) tk40 rfl (.of (aI 0 rfl)) rfl) ?_))
 refine aG rfl rfl (fun hc=>Q1 (aN (ae rfl hc) rfl) (aaH im (gN.1 (by simp at hc;exact hc.1.1.1)) (tl (by simp at hc;exact hc.2)).2) 1 rfl) ?_
 refine aU rfl (bo rfl rfl (fun h=>gt rfl h)) (aM rfl (aG rfl rfl (fun hc=>bg (o:=0) tk40 rfl (.of (aI 0 rfl)) rfl) ?_))
 refine aG rfl rfl (fun hc=>Q1 (aN (ae rfl hc) rfl) (wO im (gN.1 (by simp at hc;exact hc.1.1.1.1))) 1 rfl) ?_
 refine aU rfl (bo rfl rfl (fun h=>gt rfl h)) (aM rfl (aG rfl rfl (fun hc=>bg (o:=0) tk40 rfl (.of (aI 0 rfl)) rfl) ?_))
 refine gm (caps:=[]) [0] (false) (by kernel_rfl) _ rfl rfl (fun _=>rfl) (fun hc=>(aN (ae rfl hc) rfl)) (fun hc=>by rw [List.append_nil];exact y8 im) (fun v8 hv8 => ?_)
 refine aU rfl (bo rfl rfl (fun h=>gt rfl h)) (aM rfl (aG rfl rfl (fun hc=>bg (o:=0) tk40 rfl (.of (aI 0 rfl)) rfl) ?_))
 refine aG rfl rfl (fun hc=>Q1 (aN (ae rfl hc) rfl) (aaL im (gN.1 (by simp at hc;exact hc.1.1.1.1.1.1))) 1 rfl) ?_
 refine aU rfl (bo rfl rfl (fun h=>gt rfl h)) (aM rfl (aG rfl rfl (fun hc=>bg (o:=0) tk40 rfl (.of (aI 0 rfl)) rfl) ?_))
 refine aG rfl rfl (fun hc=>Q1 (aN (ae rfl hc) rfl) (ui im (gN.1 (by simp at hc;exact hc.1.1.1.1.1.1.1))) 1 rfl) ?_
 refine aU rfl (bo rfl rfl (fun h=>gt rfl h)) (aA rfl (aNn (ax (FZ1 [] Tryz.results16 rfl ?_))))
 refine ⟨⟨rfl,rfl⟩,_,rfl,fun h => ?_,fun hs h => ?_⟩
 · simp only [Bool.and_eq_true] at h
   have h8:=(hv8 (by simp;exact h.1.1.1)).1 h.1.1.2
   refine ⟨h8.1,?_⟩
   unfold kF;simp only [Bool.and_eq_true]
   exact ⟨⟨⟨h.1.1.1,h8.2⟩,h.1.2⟩,h.2⟩
 · unfold kF at h
   simp only [Bool.and_eq_true] at h ⊢
   exact ⟨⟨⟨h.1.1.1,(hv8 (by simp;exact h.1.1.1)).2 hs h.1.1.2⟩,h.1.2⟩,h.2⟩
def acz(at_:Int)(x:ba):Bool:=(ib x.kind && decide (x.at_≤at_)) && decide (at_<x.at_+x.size)
def nodeAt(at_:Int):Nat→List ba→Int × Bool
 | _,[]=>(0,false)
 | i,x::l=>if acz at_ x=true then ((i:Int),true) else nodeAt at_ (i+1) l
theorem zI(z:Int){l:List ba}{k:Nat}{x:ba}(h:l[k]? = some x):nodeAt z k (l.drop k)=if acz z x=true then ((k:Int),true) else nodeAt z (k+1) (l.drop (k+1)):=by
 obtain ⟨h1,h2⟩:=List.getElem?_eq_some_iff.1 h
 rw [List.drop_eq_getElem_cons h1,h2];rfl
def xC(l:List ba):Prop:=∀ x∈l,(0≤x.at_∧x.at_≤1048576)∧(0≤x.size∧x.size≤1048576)
theorem lQ(im:az)(hf:xC im.nodes.l)(z:Int):Con Tryz.prog 39 [im.val,.int .i64 z] [im.ok] [] fun r _ _=>r=.tuple #[.int .i64 (nodeAt z 0 im.nodes.l).1,.bool (nodeAt z 0 im.nodes.l).2]:=by
 obtain ⟨w0,hw0⟩:∃ w0,nodeAt z 0 im.nodes.l=w0:=⟨_,rfl⟩
 rw [hw0]
 refine EN2 Tryz.func39 rfl (bY (az.f_nodes (.of (aI 0 rfl))) (fun hlen=>(aSR (LT rfl (cK rfl rfl rfl (fun b0_0=>(aHN ?_)))))))
 refine aA rfl (aA rfl (aNs (ah (bS 0 rfl rfl ?_))))
 show awp _ _ _ _ ⟨_,At _ 0 _::_,_⟩
 refine aa (UO 8 rfl rfl (UD 8 tk23 0 rfl rfl rfl rfl (aU rfl (aZ Tryz.underlying23 rfl) (aM rfl (aNn (aq (aQ [1,4,5,9,10,11] [1,0] [] (fun (k:Nat) st=>(k≤im.nodes.l.length∧nodeAt z k (im.nodes.l.drop k)=w0)∧st=⟨[(1,true,.int .i64 z),(4,true,.int .i64 0),(5,true,.bool false),(9,true,im.nodes.val),(10,true,.int .i64 im.nodes.l.length),(11,true,.int .i64 k)],[At b0_0 0 im.row,im.ok],[]⟩) (fun k=>im.nodes.l.length-k) rfl (⟨0,⟨Nat.zero_le _,hw0⟩,rfl⟩) ?_)))))))
 rintro k st ⟨⟨hk,hw⟩,rfl⟩
 refine aSR (aU rfl (bu rfl rfl) (aNs ?_))
 refine ao _ rfl (fun h1 => ?_) (fun h1 => ?_)
 ·skip
  have hk':k<im.nodes.l.length:=by simpa using h1
  obtain ⟨x,hx⟩:∃ x,im.nodes.l[k]? = some x:=⟨_,List.getElem?_eq_getElem hk'⟩
  rw [zI z hx] at hw
  have hxf:=hf x (List.mem_of_getElem? hx)
  refine ar (aj (ah (aq (aSR (aM rfl (iJ true rfl rfl (fun _=>bI Tryz.underlying23 tk153 rfl ((az.f_nodes (.of (aI 1 rfl)))) rfl (aK hx) rfl rfl) (fun h=>absurd h (by decide)) (fun ⟨b3_1,o3_1⟩=>(US 0 tk153 0 rfl rfl rfl rfl rfl (LT rfl (bk (zs:=[.string .empty,.string .empty,.int .i64 0,.int .i64 0,.int .i64 0,.string .empty,.string .empty]) (by kernel_rfl) rfl (fun b3_3=>(aHN ?_))))))))))))
  refine aA rfl (aD rfl (aF 0 tk153 rfl rfl rfl rfl (aHK ?_)))
  refine aNn (aSR (UO 2 rfl rfl (UL 0 tk3 rfl rfl rfl rfl (aU rfl (Q0 rfl (rL _)) (aM rfl (GO 3 rfl rfl rfl (GL 0 tk3 rfl rfl rfl rfl rfl (aG rfl rfl (fun hc=>aS rfl) (aG rfl rfl (fun hc=>ff (ae rfl hc) (ae rfl hc)) (aU rfl (bo rfl rfl (fun h=>gt rfl h)) (aM rfl (aG rfl rfl (fun hc=>aS rfl) (GO 3 rfl rfl rfl (GL 0 tk3 rfl rfl rfl rfl rfl (GO 4 rfl rfl rfl ?_)))))))))))))))
  refine GL 0 tk3 rfl rfl rfl rfl rfl ?_
  refine aG rfl rfl (fun hc=>aX (ae rfl hc) (ae rfl hc) (by (first | omega | (simp at hc;omega)))) ?_
  refine aG rfl rfl (fun hc=>bu (ae rfl hc) (ae rfl hc)) (aU rfl (bo rfl rfl (fun h=>gt rfl h)) (aNn ?_))
  refine ao _ rfl (fun h2 => ?_) (fun h2 => ?_)
  ·skip
   have hb:acz z x=true:=h2
   rw [if_pos hb] at hw
   refine aSR (aM rfl (aA rfl (aA rfl (aNn (ax (dr (bB (bB (dr (bB (FZ2 [] Tryz.results39 rfl rfl ?_)))))))))))
   rw [← hw]
  ·skip
   have hb:acz z x=false:=h2
   rw [if_neg (by rw [hb];decide)] at hw
   refine ar (bp (aj (aa (aU rfl (aX rfl rfl (by omega)) (aM rfl (aNn ?_))))))
   refine ⟨[1,4,5,9,10,11],[1,0],[],rfl,?_⟩
   exact ⟨k+1,⟨⟨hk',hw⟩,rfl⟩,by omega⟩
 ·skip
  rw [List.drop_eq_nil_of_le (by simp at h1;omega)] at hw
  refine aT (aW (aW (aY (aj (aSR (aA rfl (aA rfl (aNn (ax (FZ2 [] Tryz.results39 rfl rfl ?_))))))))))
  rw [← hw];rfl
end Go.Proofs.YtfkcmbonmpcbfaaGreat

namespace Go.Sy
open Go.RowKit Go.Lp
def ac8:Res:=⟨fun _ _ _=>True,fun _ _ _ _=>trivial⟩
section
variable {P:Program} {n:Fr} {env:Env} {ps:List Per} {hp:List Res} {d:Option Tmp} {ty:TypeId} {pos:String} {af:Array Edge} {gd:Option (Nat × Bool)}
theorem mT{w:World}{b:Nat}{T:TypeId}{cs:List Value}(h:w.heap[b]? = some (.cells cs.toArray T (0,0))):w.shape? b=some (T,cs.length):=by
 unfold World.shape?;rw [h];simp
theorem abI{src dst t T:TypeId}{x:Operand}{b:Nat}{cs:List Value}(i:Nat)(hs:P.underlying src=some (.pointer t))(hd:P.underlying dst=some .unsafePointer)(ht:((P.info? t).map fun j=>decide (j.size≠0))=some true)(hx:ev env x=some (true,.pointer (some ⟨b,0,none⟩)))(hi:hp[i]? = some (Box b T cs))(h0:0<cs.length) :
   Quiet P n ⟨d,.convert src dst x,ty,pos,af,gd⟩ ⟨env,ps,hp⟩ (.pointer (some ⟨b,0,none⟩)):=fun w S fp a hst he hn=>by
 have h1:=he.val hx rfl
 obtain ⟨hb,_⟩:=hst.res i _ hi
 obtain ⟨j,hj,hjs⟩:=Option.map_eq_some_iff.1 ht
 have hrun:=Lib.run_to_unsafe (P:=P) w ⟨b,0,none⟩ hs hd hj (by simpa using hjs) (mT hb) h0
 have:(execOp a.eval ⟨d,.convert src dst x,ty,pos,af,gd⟩).run P w=.ok (.value (.pointer (some ⟨b,0,none⟩))) w:=by
   unfold execOp;dsimp only;rw [h1]
   show ((convert src dst (.pointer (some ⟨b,0,none⟩))).bind fun r=>Sem.pure (Next.value r)).run P w=_
   rw [Sem.run_bind',hrun];rfl
 rw [this];exact cx _ _
theorem vD{src dst u T:TypeId}{x:Operand}{b:Nat}{cs:List Value}(i m:Nat)(hs:P.underlying src=some .unsafePointer)(hd:P.underlying dst=some (.pointer u))(hu:(P.info? u).isSome=true)(hx:ev env x=some (true,.pointer (some ⟨b,0,none⟩)))(hi:hp[i]? = some (Box b T cs))(hm:cs.length=m)(hlies:liesAt P P.depth T (m / P.cellsOf T) 0 u 1=true) :
   Quiet P n ⟨d,.convert src dst x,ty,pos,af,gd⟩ ⟨env,ps,hp⟩ (.pointer (some ⟨b,0,none⟩)):=fun w S fp a hst he hn=>by
 have h1:=he.val hx rfl
 obtain ⟨hb,_⟩:=hst.res i _ hi
 obtain ⟨j,hj⟩:=Option.isSome_iff_exists.1 hu
 have hsh:=mT hb
 rw [hm] at hsh
 have hrun:=Lib.run_from_unsafe (P:=P) w ⟨b,0,none⟩ hs hd hj hsh hlies
 have:(execOp a.eval ⟨d,.convert src dst x,ty,pos,af,gd⟩).run P w=.ok (.value (.pointer (some ⟨b,0,none⟩))) w:=by
   unfold execOp;dsimp only;rw [h1]
   show ((convert src dst (.pointer (some ⟨b,0,none⟩))).bind fun r=>Sem.pure (Next.value r)).run P w=_
   rw [Sem.run_bind',hrun];rfl
 rw [this];exact cx _ _
theorem kC{x:Operand}{t t':TypeId}(hT:(match P.underlying t with | some (.pointer _)=>true | _=>false)=true)(hx:ev env x=some (true,.pointer none)):Quiet P n ⟨d,.binOp .eql t x (.const (.pointer none)) t',ty,pos,af,gd⟩ ⟨env,ps,hp⟩ (.bool true):=.run2 hx (y:=.const (.pointer none)) (vy:=.pointer none) rfl fun ρ w h1 h2=>by
 have hu:∃ e,P.underlying t=some (.pointer e):=by
   cases h:P.underlying t with
   | none=>rw [h] at hT;cases hT
   | some dd=>rw [h] at hT;cases dd<;>first | exact ⟨_,rfl⟩ | cases hT
 obtain ⟨e,hu⟩:=hu
 unfold execOp;dsimp only;rw [h1,h2]
 have e1:(do eqGuard BinOp.eql t x (.const (.pointer none)) (Value.pointer none) (Value.pointer none);binOp BinOp.eql t (Value.pointer none) (Value.pointer none))=binOp BinOp.eql t (Value.pointer none) (Value.pointer none):=rfl
 have e2:(binOp BinOp.eql t (Value.pointer none) (Value.pointer none)).run P w=.ok (.bool true) w:=by
   have:=run_eql_pointer_nil (P:=P) (w:=w) t none (by rw [hu];unfold Program.pointee;rw [hu])
   exact this
 show ((do eqGuard BinOp.eql t x (.const (.pointer none)) (Value.pointer none) (Value.pointer none);binOp BinOp.eql t (Value.pointer none) (Value.pointer none)).bind fun r=>Sem.pure (Next.value r)).run P w=_
 rw [e1,Sem.run_bind',e2];rfl
theorem se{x y:Operand}{t t' te:TypeId}{a0:Addr}(hu:P.underlying t=some (.pointer te))(hte:(P.info? te).isSome=true)(hx:ev env x=some (true,.pointer (some a0)))(hy:ev env y=some (true,.pointer (some a0))):Quiet P n ⟨d,.binOp .neq t x y t',ty,pos,af,gd⟩ ⟨env,ps,hp⟩ (.bool false):=.run2 hx hy fun ρ w h1 h2=>by
 obtain ⟨j,hj⟩:=Option.isSome_iff_exists.1 hte
 unfold execOp;dsimp only;rw [h1,h2]
 have e1:∀ x y:Operand,(do eqGuard BinOp.neq t x y (Value.pointer (some a0)) (Value.pointer (some a0));binOp BinOp.neq t (Value.pointer (some a0)) (Value.pointer (some a0)))=binOp BinOp.neq t (Value.pointer (some a0)) (Value.pointer (some a0)):=fun _ _=>rfl
 have e2:=Lib.run_neq_ptr_same (P:=P) w a0 hu hj
 show ((do eqGuard BinOp.neq t x y (Value.pointer (some a0)) (Value.pointer (some a0));binOp BinOp.neq t (Value.pointer (some a0)) (Value.pointer (some a0))).bind fun r=>Sem.pure (Next.value r)).run P w=_
 rw [e1,Sem.run_bind',e2];rfl
theorem oh{x:Operand}{T:TypeId}{a0:Addr}{m c:Nat}(hc:c≠0)(hx:ev env x=some (true,.slice (some a0) m c)):Quiet P n ⟨d,.call ⟨.builtin .unsafeSliceData,#[x],#[T]⟩,ty,pos,af,gd⟩ ⟨env,ps,hp⟩ (.pointer (some a0)):=.run1 hx fun ρ w h=>by
 have hr:=Lib.run_unsafeSliceData_row (P:=P) w #[T] ty a0 m c hc
 have hexec:execOp ρ ⟨d,.call ⟨.builtin .unsafeSliceData,#[x],#[T]⟩,ty,pos,af,gd⟩=(Builtin.unsafeSliceData_ #[T] ty (#[x].map ρ)).bind fun r=>Sem.pure (Next.value r):=rfl
 rw [hexec,show #[x].map ρ = #[ρ x] by simp,h,Sem.run_bind',hr];rfl
abbrev du:UInt8→List D:=fun u=>[.v (.int .u8 u.toNat)]
theorem qf{t:Nat}{x y:Operand}{pt it E:TypeId}{g cp:Nat}{l:List UInt8}{K:Sta→Prop}(i:Nat)(hp1:P.underlying pt=some (.pointer E))(hc:P.cellsOf E=1)(h0:l≠[])(hx:ev env x=some (true,.pointer (some ⟨g,0,none⟩)))(hy:ev env y=some (true,.int .i64 l.length))
   (hi:hp[i]? = some (aO (.slice (some ⟨g,0,none⟩) l.length cp) E 1 (l.map du))) (ht:fits n.size (some t)=true) (hK:K ⟨(t,true,.string ⟨l.toArray⟩)::env,ps,hp.set i ac8⟩) :
   Eff P n ⟨some t,.call ⟨.builtin .unsafeString,#[x,y],#[pt,it]⟩,ty,pos,af,gd⟩ ⟨env,ps,hp⟩ false K:=.change i hi fun w S fp a hst he hn hR=>by
 have h1:=he.val hx rfl
 have h2:=he.val hy rfl
 rcases hR with ⟨h,_⟩ | ⟨b,cap,hv,⟨cs,sp,hb,hrows,hcap,hrc,hcm⟩,hF⟩
 · cases h
 · simp only [Value.slice.injEq,Option.some.injEq,Addr.mk.injEq] at hv
   obtain ⟨⟨rfl,_⟩,_,rfl⟩:=hv
   have hlen:cs.length=l.length:=by rw [hrows.len,List.length_map,Nat.mul_one]
   rw [List.length_map] at hrc
   have hsh:=mT hb
   have hcell:∀ j u,l[j]? = some u→w.cell? ((⟨g,0,none⟩:Addr).add j)=some (.int .u8 u.toNat):=fun j u hj=>by
     obtain ⟨v,hv,hrep⟩:=hrows.rep j 0 (du u) (.v (.int .u8 u.toNat)) (by rw [List.getElem?_map,hj];rfl) rfl
     rw [Nat.mul_one,Nat.add_zero] at hv
     rw [ny hrep] at hv
     have hjl:=(List.getElem?_eq_some_iff.1 hv).1
     have:(⟨g,0,none⟩:Addr).add j=⟨g,j,none⟩:=by
       unfold Addr.add
       by_cases h:j=0
       · subst h;simp
       · simp [h]
     rw [this,ej hb,List.getElem?_append_left hjl];exact hv
   have hcl:l.length≤(cs++sp).length:=by rw [List.length_append];omega
   have hr:=Lib.run_unsafeString_row (P:=P) w pt it ty E hp1 hc g (cs++sp).length hsh l h0 hcl (by unfold maxLen at hcm;omega) hcell
   have hexec:execOp a.eval ⟨some t,.call ⟨.builtin .unsafeString,#[x,y],#[pt,it]⟩,ty,pos,af,gd⟩=(Builtin.unsafeString_ #[pt,it] ty (#[x,y].map a.eval)).bind fun r=>Sem.pure (Next.value r):=rfl
   rw [hexec,show #[x,y].map a.eval = #[a.eval x,a.eval y] by simp,h1,h2,Sem.run_bind',hr]
   have hl0:l.length≠0:=fun h=>h0 (List.eq_nil_of_length_eq_zero h)
   obtain ⟨f,hfz⟩:∃ f:Obj→Obj,w.freeze ⟨g,0,none⟩ l.length = { w with heap:=w.heap.modify g f } := ⟨_,by unfold World.freeze;rw [if_neg hl0]⟩
   refine ⟨ac8,⟨(t,true,.string ⟨l.toArray⟩)::env,ps,hp.set i ac8⟩,hK,rfl,rfl,?_,trivial,?_,?_,?_,?_,?_⟩
   · exact he.put (g:=true) (by rw [hn];simpa [fits] using ht) _
   · rw [hfz]
   · rw [hfz]
   · rw [hfz];exact ⟨rfl,rfl⟩
   · rw [hfz];simp
   · intro b' hb' hne
     rw [hfz]
     simp only [Array.getElem?_modify]
     rw [if_neg (fun h=>hne ((hF b').2 h.symm))]
end
theorem kD{P:Program}{n:Fr}{s:Sta}{d:Option Tmp}{ty:TypeId}{pos:String}{af:Array Edge}{gd:Option (Nat × Bool)}{x y:Operand}{t t':TypeId}{k:IntKind}{a b:Int}(hx:ev s.env x=some (true,.int k a))(hy:ev s.env y=some (true,.int k b)):Quiet P n ⟨d,.binOp .xor t x y t',ty,pos,af,gd⟩ s (.int k (bits .xor k a b)):=.run2 hx hy fun ρ w h1 h2=>by unfold execOp;dsimp only;rw [h1,h2];cases k<;>rfl
end Go.Sy
namespace Go.Proofs.YtfkcmbonmpcbfaaGreat
open Go.RowKit Go.Lp Go.Sy
end Go.Proofs.YtfkcmbonmpcbfaaGreat

namespace Go.Sy
open Go.RowKit Go.Lp Go.Proofs.YtfkcmbonmpcbfaaGreat
section
variable {P:Program} {n:Fr} {env:Env} {ps:List Per} {hp:List Res} {d:Option Tmp} {ty:TypeId} {pos:String} {af:Array Edge} {gd:Option (Nat × Bool)} {v:Value}
theorem zW(bs:List UInt8):∀ (r:ByteArray),(bs.map fun b=>(b.toNat:Int)).foldl (fun r n=>r.push (UInt8.ofNat n.toNat)) r=⟨r.data++bs.toArray⟩:=by
 induction bs with
 | nil=>intro r;simp
 | cons b bs ih =>
   intro r
   rw [List.map_cons,List.foldl_cons,ih]
   simp [ByteArray.push]
theorem j6{x:Operand}{T E T2:TypeId}{m c:Nat}{ad:Option Addr}{rows:List (List D)}(i:Nat)(bs:List UInt8)(hT:P.underlying T=some (.slice E))(hE:P.underlying E=some (.int .u8))(hD:P.underlying T2=some .string)(hx:ev env x=some (true,.slice ad m c))
   (hi:hp[i]? = some (aO (.slice ad m c) E 1 rows)) (hr:rows=bs.map fun b=>[.v (.int .u8 b.toNat)]) (h0:bs≠[]) :
   Quiet P n ⟨d,.convert T T2 x,ty,pos,af,gd⟩ ⟨env,ps,hp⟩ (.string (ofBytes bs)):=fun w S fp a hst he hn=>by
 have h1:=he.val hx rfl
 subst hr
 rcases hst.res i _ hi with ⟨_,h,_⟩ | ⟨b,cap,hv,⟨cs,sp,hb,hrows,hcap,_,_⟩,_⟩
 · simp at h;exact absurd h h0
 · injection hv with hv1 hv2 hv3
   subst hv1;subst hv2;subst hv3
   have hl:cs.length=bs.length:=by have:=hrows.len;simpa using this
   have hcs:cs=bs.map fun b=>(.int .u8 b.toNat:Value):=by
     apply List.ext_getElem?
     intro k
     cases hk:bs[k]? with
     | none=>rw [List.getElem?_eq_none (by have:=List.getElem?_eq_none_iff.1 hk;omega)];simp [hk]
     | some u =>
       obtain ⟨y,hy,hrep⟩:=hrows.rep k 0 [.v (.int .u8 u.toNat)] (.v (.int .u8 u.toNat)) (by simp [hk]) rfl
       rw [Nat.mul_one,Nat.add_zero] at hy
       rw [hy,ny hrep];simp [hk]
   have hload:(loadCells ⟨b,0,none⟩ bs.length).run P w=.ok ((bs.map fun b=>(b.toNat:Int)).map (Value.int .u8)).toArray w:=by
     rw [run_loadCells w ⟨b,0,none⟩ bs.length (fun k=>cs.getD k undef) (fun k hk=>by
       have:(Addr.mk b 0 none).add k=⟨b,k,none⟩:=by
         unfold Addr.add;split
         · rename_i h;rw [h]
         · simp
       rw [this,ej hb,List.getElem?_append_left (by omega)]
       simp [List.getD,show k<cs.length by omega])]
     congr 2
     rw [hcs,List.map_map]
     apply List.ext_getElem
     · simp
     · intro k h1 h2
       simp at h1 h2 ⊢
       simp [List.getD,h2]
   have:(convert T T2 (.slice (some ⟨b,0,none⟩) (bs.map fun b=>[D.v (.int .u8 b.toNat)]).length c)).run P w=.ok (.string (ofBytes bs)) w:=by
     rw [List.length_map,run_convert_bytes_string w T T2 E _ _ _ hT hE hD,run_bytesToString w ⟨b,0,none⟩ bs.length c (bs.map fun b=>(b.toNat:Int)) hload]
     congr 2
     rw [zW];simp [ofBytes]
   have hx2:(execOp a.eval ⟨d,.convert T T2 x,ty,pos,af,gd⟩).run P w=.ok (.value (.string (ofBytes bs))) w:=by
     unfold execOp;dsimp only;rw [h1]
     show ((convert T T2 _).bind fun r=>Sem.pure (Next.value r)).run P w=_
     rw [Sem.run_bind',this];rfl
   rw [hx2];exact cx _ _
end
end Go.Sy
namespace Go.Proofs.YtfkcmbonmpcbfaaGreat
open Go.RowKit Go.Lp Go.Sy
end Go.Proofs.YtfkcmbonmpcbfaaGreat

namespace Go.Sy
open Go.RowKit Go.Lp
section
variable {P:Program} {n:Fr} {s:Sta} {d:Option Tmp} {ty:TypeId} {pos:String} {af:Array Edge} {gd:Option (Nat × Bool)}
theorem oX{x y:Operand}{T:TypeId}{kk:IntKind}{z:Int}{b:ByteArray}(hT:P.underlying T=some .string)(hx:ev s.env x=some (true,.string b))(hy:ev s.env y=some (true,.int kk z))(h0:0≤z)(h1:z≤b.size) :
   Quiet P n ⟨d,.slice T x (some y) none none,ty,pos,af,gd⟩ s (.string (b.extract z.toNat b.size)):=.run2 hx hy fun ρ w e1 e2=>by
 unfold execOp;dsimp only;simp only [Option.map_some,Option.map_none];rw [e1,e2]
 show ((Instr.sliceAt T (.string b) (some (.int kk z)) none none).bind fun r=>Sem.pure (Next.value r)).run P w=_
 have:(Instr.sliceAt T (.string b) (some (.int kk z)) none none).run P w=.ok (.string (b.extract z.toNat b.size)) w:=by
   rw [run_sliceAt_string w T _ _ _ _ hT]
   exact run_slice_string_l w T b hT kk z h0 h1
 rw [Sem.run_bind',this];rfl
end
end Go.Sy
namespace Go.Proofs.YtfkcmbonmpcbfaaGreat
open Go.RowKit Go.Lp Go.Sy
theorem yy(z:Int):∃ u:UInt8,IntKind.u8.wrap z=u.toNat:=by
 have h:0≤IntKind.u8.wrap z∧IntKind.u8.wrap z<256:=by
   have:IntKind.u8.wrap z=z % 256:=rfl
   rw [this];omega
 obtain ⟨k,hk⟩:=Int.eq_ofNat_of_zero_le h.1
 refine ⟨UInt8.ofNat k,?_⟩
 have h2:(UInt8.ofNat k).toNat=k % 256:=by simp
 rw [hk,h2]
 omega
end Go.Proofs.YtfkcmbonmpcbfaaGreat

namespace Go.Sy
open Go.RowKit Go.Lp Go.Proofs.YtfkcmbonmpcbfaaGreat
end Go.Sy
namespace Go.Proofs.YtfkcmbonmpcbfaaGreat
open Go.RowKit Go.Lp Go.Sy
theorem ac6{m:Nat}(h:m<18446744073709551616):IntKind.u64.wrap ((m:Int).tdiv 128)=((m / 128:Nat):Int):=by
 rw [show ((m:Int)).tdiv 128=((m / 128:Nat):Int) from rfl,IntKind.wrap_u64];omega
end Go.Proofs.YtfkcmbonmpcbfaaGreat

namespace Go.Sy
open Go.RowKit Go.Lp Go.Proofs.YtfkcmbonmpcbfaaGreat
theorem adT{P:Program}{env:Env}{ps:List Per}{hp:List Res}{tx:TypeId}{l:List UInt8}(hk:P.underlying tx=some .string):lK P ⟨env,ps,hp⟩ tx 1 (.string (Go.Lv.bytesOf l)) (l.map du):=⟨fun w S fp hst=>by
 refine ⟨l.map fun u=>.int .u8 u.toNat,⟨by simp,fun i r h => ?_,fun v hv => ?_,fun i j r d h1 h2 => ?_⟩,?_⟩
 · rw [List.getElem?_map] at h
   obtain ⟨u,_,rfl⟩:=Option.map_eq_some_iff.1 h
   rfl
 · obtain ⟨u,_,rfl⟩:=List.mem_map.1 hv
   rfl
 · rw [List.getElem?_map] at h1
   obtain ⟨u,hu,rfl⟩:=Option.map_eq_some_iff.1 h1
   have hj:j=0:=by
     have:=(List.getElem?_eq_some_iff.1 h2).1;simpa using this
   subst hj
   simp only [List.getElem?_cons_zero,Option.some.injEq] at h2
   subst h2
   exact ⟨_,by rw [List.getElem?_map,Nat.mul_one,Nat.add_zero,hu];rfl,.v _⟩
 · have:=Src.ofString (P:=P) (w:=w) hk (Go.Lv.bytesOf l)
   rw [List.length_map]
   have e:byteCells (Go.Lv.bytesOf l)=l.map fun u=>.int .u8 u.toNat:=rfl
   rw [← e];exact this⟩
end Go.Sy
namespace Go.Proofs.YtfkcmbonmpcbfaaGreat
open Go.RowKit Go.Lp Go.Sy Go.Lv
open Go.Proofs.Tryz
attribute [local irreducible] aL aB awp aC fwp Quiet
theorem vg(p:Value)(w:World):(Extern.AbiNoEscape.same #[p]).run Tryz.prog w=.ok p w:=rfl
abbrev bR(b:Nat)(p v x:Value):Res:=Box b 93 [p,v,x]
theorem wk(b:Nat)(v x:Value):Con Tryz.prog 289 [.pointer (some ⟨b,0,none⟩)] [] [bR b (.pointer none) v x] fun _ ps hp=>ps=[]∧hp=[bR b (.pointer (some ⟨b,0,none⟩)) v x]:=by
 refine EN1 Tryz.func289 rfl (aSR (aM rfl (UN rfl rfl (UO 0 rfl rfl (UL 0 tk88 rfl rfl rfl rfl (aU rfl (kC (by kernel_rfl) rfl) (aNn ?_)))))))
 refine ao _ rfl (fun h1 => ?_) (fun h1 => ?_)
 ·skip
  refine aa (aM rfl (aM rfl ?_))
  refine aU rfl (abI (t:=91) 0 (by kernel_rfl) (by kernel_rfl) (by kernel_rfl) rfl rfl (by simp)) ?_
  refine aU rfl (ac3 (vs:=_) Tryz.func327 rfl rfl (by kernel_rfl) (by kernel_rfl) rfl (fun w=>vg _ w)) (aU rfl (vD (u:=91) 0 3 (by kernel_rfl) (by kernel_rfl) (by kernel_rfl) rfl rfl rfl (by kernel_rfl)) (UN rfl rfl (UO 0 rfl rfl (aD rfl (aF 0 tk88 rfl rfl rfl rfl (aHK ?_))))))
  refine bj (FZ0 [0] Tryz.results289 ?_)
  exact ⟨rfl,rfl⟩
 ·skip
  exact absurd h1 (by decide)
theorem wm(b:Nat)(v x:Value):Con Tryz.prog 289 [.pointer (some ⟨b,0,none⟩)] [] [bR b (.pointer (some ⟨b,0,none⟩)) v x] fun _ ps hp=>ps=[]∧hp=[bR b (.pointer (some ⟨b,0,none⟩)) v x]:=by
 refine EN1 Tryz.func289 rfl (aSR (aM rfl (UN rfl rfl (UO 0 rfl rfl (UL 0 tk88 rfl rfl rfl rfl (aU rfl (qE (by kernel_rfl) rfl) (aNn ?_)))))))
 refine ao _ rfl (fun h1 => ?_) (fun h1 => ?_)
 ·skip
  exact absurd h1 (by decide)
 ·skip
  refine aSR (aM rfl (UN rfl rfl (UO 0 rfl rfl (UL 0 tk88 rfl rfl rfl rfl (aM rfl (aU rfl (se (te:=91) (by kernel_rfl) (by kernel_rfl) rfl rfl) (aNn ?_)))))))
  refine ao _ rfl (fun h2 => ?_) (fun h2 => ?_)
  ·skip
   exact absurd h2 (by decide)
  ·skip
   refine ar (FZ0 [0] Tryz.results289 ?_)
   exact ⟨rfl,rfl⟩
theorem yM(b:Nat)(p:Value)(hp:p=.pointer none∨p=.pointer (some ⟨b,0,none⟩))(v x:Value):Con Tryz.prog 289 [.pointer (some ⟨b,0,none⟩)] [] [bR b p v x] fun _ ps hp=>ps=[]∧hp=[bR b (.pointer (some ⟨b,0,none⟩)) v x]:=by
 rcases hp with rfl | rfl
 · exact wk b v x
 · exact wm b v x
theorem mU(b:Nat)(p:Value)(hp:p=.pointer none∨p=.pointer (some ⟨b,0,none⟩))(v x:Value)(l t:List UInt8)(ht:t≠[])(hl:l.length+t.length≤1000000000):Con Tryz.prog 213 [.pointer (some ⟨b,0,none⟩),.string (bytesOf t)] [] [bR b p v x,aO v 5 1 (l.map du)]
   fun _ ps hp=>ps=[]∧∃ (ad:Option Addr) (c:Nat),hp=[bR b (.pointer (some ⟨b,0,none⟩)) (.slice ad (l++t).length c) x,aO (.slice ad (l++t).length c) 5 1 ((l++t).map du)]:=by
 refine EN2 Tryz.func213 rfl ?_
 have ht':t.map du≠[]:=by simpa using ht
 refine aSR (aA rfl (aA rfl (aNn (aSR (aM rfl (LF rfl (EC [] [0] rfl (yM b p hp v x) ?_)))))))
 rintro _ _ _ ⟨rfl,rfl⟩
 refine aST ?_
 refine aNn (aSR (aM rfl (aM rfl (UN rfl rfl (UO 1 rfl rfl (UL 0 tk89 rfl rfl rfl rfl (aM rfl ?_)))))))
 refine aD rfl (cj 1 el89 rfl rfl rfl rfl (adT Tryz.underlying9) (by first | assumption | simp) (by rw [List.length_map,List.length_map];omega) ((l++t).length) (by rw [List.length_map,List.length_map,List.length_append]) (fun v2_6 c2_6 => ?_))
 refine aHK ?_
 refine UN rfl rfl (UO 1 rfl rfl (aD rfl (aF 0 tk89 rfl rfl rfl rfl (aHK ?_))))
 refine aNn (aSR (aM rfl (aU rfl (cP Tryz.underlying9 rfl) (aA rfl (aA rfl (aNn (ax (FZ2 [0,1] Tryz.results213 rfl rfl ?_))))))))
 exact ⟨rfl,v2_6,c2_6,by rw [List.map_append];rfl⟩
theorem aaF(b:Nat)(p:Value)(g cp:Nat)(hcp:cp≠0)(x:Value)(l:List UInt8)(hl:l≠[]):Con Tryz.prog 61 [.pointer (some ⟨b,0,none⟩)] [] [bR b p (.slice (some ⟨g,0,none⟩) l.length cp) x,aO (.slice (some ⟨g,0,none⟩) l.length cp) 5 1 (l.map du)]
   fun r ps hp=>ps=[]∧hp=[]∧r=.string (bytesOf l):=by
 refine EN1 Tryz.func61 rfl (aSR (aA rfl (aNs (DR [10] 12 (VM 0 rfl rfl (VN 1 rfl rfl rfl (VO 2 1 rfl rfl rfl (VL 3 0 tk89 rfl rfl rfl rfl rfl (bV 4 rfl rfl (oh hcp rfl) (VM 5 rfl rfl (VN 6 rfl rfl rfl (VO 7 1 rfl rfl rfl (VL 8 0 tk89 rfl rfl rfl rfl rfl (bV 9 rfl rfl (aZ Tryz.underlying89 rfl) ?_))))))))))))))
 refine VE 10 rfl rfl (qf 1 (by kernel_rfl) (by kernel_rfl) hl rfl rfl rfl rfl (bST rfl ?_))
 refine bV 11 rfl rfl (bE rfl) (BN (aj (ax (FZ1 [] Tryz.results61 rfl ?_))))
 exact ⟨rfl,rfl,rfl⟩
theorem xI(m0:Nat)(h0:m0<18446744073709551616):Con Tryz.prog 292 [.slice none 0 0,.int .u64 m0] [] [] fun r ps hp=>ps=[]∧∃ (ad:Option Addr) (c:Nat),r=.slice ad (aV m0).length c∧hp=[aO (.slice ad (aV m0).length c) 5 1 ((aV m0).map du)]:=by
 refine EN2 Tryz.func292 rfl (ah (cW 5 1 ?_))
 show awp _ _ _ _ ⟨_,_,[_]⟩
 refine aa (aA rfl (aNs (aq (aQ [0,1,4] [] [0] (fun (q:Nat × (Value × List UInt8)) st=>WrI m0 q.2.2 q.1∧st=⟨[(0,true,q.2.1),(1,true,.int .u64 q.1),(4,true,.slice none 0 0)],[],[aO q.2.1 5 1 (q.2.2.map du)]⟩) (fun q=>q.1) rfl (⟨(m0,(.slice none 0 0,[])),.start h0,rfl⟩) ?_))))
 rintro ⟨m,v,l⟩ st ⟨hI,rfl⟩
 dsimp only at hI ⊢
 have hll:=hI.le
 refine ah (aSR (aM rfl (aU rfl (fi rfl rfl) (aNn ?_))))
 refine ao _ rfl (fun h1 => ?_) (fun h1 => ?_)
 ·skip
  have h128:128≤m:=by simp at h1;omega
  refine ar (aj (aq (aSR (aM rfl (aM rfl (aU rfl (gZ rfl rfl (by decide)) (aU rfl (dm (by kernel_rfl) Tryz.underlying5 rfl) (aU rfl (yj rfl rfl) (LT rfl (WL (zs:=[.int .u8 0]) el89 rfl rfl rfl (.more rfl (.v rfl .nil) .nil) rfl rfl (fun v2_5=>(aHN ?_))))))))))))
  refine aD rfl (cj 0 el89 rfl rfl rfl rfl (cY 1 el89 rfl (by simp)) (by first | assumption | simp) (by rw [List.length_map];exact Nat.le_trans (show l.length+1≤10 by omega) (by decide)) ((l.length+1)) (by rw [List.length_map];rfl) (fun v2_6 c2_6 => ?_))
  refine aHK ?_
  refine aA rfl (aNn ?_)
  rw [adp m]
  refine aa (aM rfl (aU rfl (qF rfl rfl (by decide)) (aA rfl (bj (bp (aj ?_))))))
  refine ⟨[0,1,4],[],[0],rfl,?_⟩
  have hlt:m<18446744073709551616:=Nat.lt_of_lt_of_le hI.lt (Nat.le_trans (Nat.mul_le_mul_left 2 (Nat.pow_le_pow_right (by decide) (show 9-l.length≤9 by omega))) (by decide))
  exact ⟨(m / 128,(_,l++[UInt8.ofNat (m % 128+128)])),⟨hI.step h128,by dsimp only;rw [← ac6 hlt,List.map_append,List.map_singleton,du,rq (show m % 128+128<256 by omega)];rfl⟩,by dsimp only;omega⟩
 ·skip
  have h128:m<128:=by simp at h1;omega
  refine aT (aW (aW (aY (aj (aSR (aM rfl (aM rfl (aU rfl (dm (by kernel_rfl) Tryz.underlying5 rfl) (LT rfl (WL (zs:=[.int .u8 0]) el89 rfl rfl rfl (.more rfl (.v rfl .nil) .nil) rfl rfl (fun v4_3=>(aHN ?_))))))))))))
  refine aD rfl (cj 0 el89 rfl rfl rfl rfl (cY 1 el89 rfl (by simp)) (by first | assumption | simp) (by rw [List.length_map];exact Nat.le_trans (show l.length+1≤10 by omega) (by decide)) ((aV m0).length) (by rw [← hI.last h128,List.length_map,List.length_append];rfl) (fun v4_4 c4_4 => ?_))
  refine aHK ?_
  refine aA rfl (aNn (ax (FZ1 [0] Tryz.results292 rfl ?_)))
  refine ⟨rfl,v4_4,c4_4,rfl,?_⟩
  rw [← hI.last h128,List.map_append,List.map_singleton,du,rq (show m<256 by omega),xR h128]
  rfl
theorem uV(m:Nat)(hm:m≤9223372036854775807):Con Tryz.prog 219 [.int .i64 m] [] [] fun r ps hp=>ps=[]∧hp=[]∧r=.string (bytesOf (aV m)):=by
 refine EN1 Tryz.func219 rfl (aSR (aA rfl (aNs (aSR (aM rfl (aU rfl (bu rfl rfl) (aNn ?_)))))))
 refine ao _ rfl (fun h1 => ?_) (fun h1 => ?_)
 ·skip
  exact absurd h1 (by simp)
 ·skip
  refine ar (aj (aSR (aM rfl (aU rfl (dm (by kernel_rfl) Tryz.underlying301 rfl) ?_))))
  refine LT rfl (EC [] [] rfl ((by show Con _ _ [.slice none 0 0,.int .u64 (IntKind.u64.wrap (m:Int))] [] [] _;rw [Go.wraps_u64 (m:Int) (by omega) (by omega)];exact xI m (by omega))) ?_)
  rintro _ _ _ ⟨rfl,ad,c,rfl,rfl⟩
  refine aST ?_
  refine aU rfl (j6 0 (aV m) Tryz.underlying89 Tryz.underlying5 Tryz.underlying9 rfl rfl rfl (oR m)) (aA rfl (aNn (ax (FZ1 [] Tryz.results219 rfl ?_))))
  exact ⟨rfl,rfl,rfl⟩
theorem aaO(z:Int)(hz:I64 z):Con Tryz.prog 216 [.int .i64 z] [] [] fun r ps hp=>ps=[]∧hp=[]∧r=.string (bytesOf (aV (zz z))):=by
 refine EN1 Tryz.func216 rfl (aSR (aA rfl (aNn (aSR (aM rfl (aU rfl (dm (by kernel_rfl) Tryz.underlying301 rfl) (aU rfl (yl rfl rfl (by decide)) (aM rfl (aU rfl (abH rfl rfl (by decide)) (aU rfl (dm (by kernel_rfl) Tryz.underlying301 rfl) (aU rfl ((kD rfl rfl).castV (congrArg (Value.int .u64) (adV hz))) (LT rfl (EC [] [] rfl (xI (zz z) (yA hz)) ?_)))))))))))))
 rintro _ _ _ ⟨rfl,ad,c,rfl,rfl⟩
 refine aST ?_
 refine aU rfl (j6 0 (aV (zz z)) Tryz.underlying89 Tryz.underlying5 Tryz.underlying9 rfl rfl rfl (oR _)) (aA rfl (aNn (ax (FZ1 [] Tryz.results216 rfl ?_))))
 exact ⟨rfl,rfl,rfl⟩
theorem zq(s:ByteArray)(hs:s.size≤4611686018427387904):Con Tryz.prog 218 [.string s] [] [] fun r ps hp=>ps=[]∧hp=[]∧r=.string (bytesOf (tg s)):=by
 refine EN1 Tryz.func218 rfl (aSR (aA rfl (aNn (aSR (aM rfl (aU rfl (cP Tryz.underlying9 rfl) (LT rfl (EC [] [] rfl (uV s.size (by omega)) ?_))))))))
 rintro _ _ _ ⟨rfl,rfl,rfl⟩
 refine aST ?_
 refine aM rfl ?_
 refine aU rfl (kE rfl rfl (by have h:(aV s.size).length≤10:=fU 10 s.size;show (aV s.size).length+s.size≤_;omega)) ?_
 refine aA rfl (aNn (ax (FZ1 [] Tryz.results218 rfl ?_)))
 exact ⟨rfl,rfl,congrArg Value.string (eD (aV s.size) (gH s)).symm⟩
end Go.Proofs.YtfkcmbonmpcbfaaGreat

