/- Parts of the proof, in build order. No condition. -/
import Derived.Test.YtfkcmbonmpcbfaaGreatTb23
import Derived.Test.YtfkcmbonmpcbfaaGreatTb05
import Derived.Test.YtfkcmbonmpcbfaaGreatTb10
import Derived.Test.YtfkcmbonmpcbfaaGreatTb21
import Derived.Test.YtfkcmbonmpcbfaaGreatProg
import Derived.Ground.SlmcProg
import Derived.Shelf.SlMaps.Clone
import Derived.Test.YtfkcmbonmpcbfaaGreatTb08
set_option linter.unusedSimpArgs false
set_option linter.unusedVariables false
set_option maxHeartbeats 1000000
set_option maxRecDepth 20000
namespace Go.Proofs.YtfkcmbonmpcbfaaGreat
open Go.RowKit Go.Lp Go.Sy Go.Lv
open Go.Proofs.Tryz
attribute [local irreducible] aL aB awp aC fwp Quiet
theorem xw(im:ak)(b b2:Nat)(e:Int)(i:Nat)(x:bj):Con Tryz.prog 167 [.int .i64 i,x.val,.pointer (some ⟨b2,0,none⟩),.pointer (some ⟨b,0,none⟩)] [At b 0 im.row] [Box b2 3 [.int .i64 e]] fun r ps hp=>ps=[]∧r=.bool (abp im e i x).1∧hp=[Box b2 3 [.int .i64 (abp im e i x).2]]:=by
 refine EN4 Tryz.func167 rfl (aSR (LT rfl (bz rfl rfl rfl (fun b0_0=>(aHN ?_)))))
 refine aA rfl (aNn (aSR (UO 0 rfl rfl (UL 1 tk3 rfl rfl rfl rfl (UL 0 tk3 rfl rfl rfl rfl (UO 2 rfl rfl (UD 2 tk3 0 rfl rfl rfl rfl (aU rfl (Q0 rfl (cB _ _ _)) (aM rfl (GO 1 rfl rfl rfl (GL 1 tk3 rfl rfl rfl rfl rfl (GO 2 rfl rfl rfl (aG rfl rfl (fun hc=>aP (o:=2) tk3 (aa rfl hc) (.of (aF 0 rfl)) rfl) (GO 0 rfl rfl rfl ?_))))))))))))))
 refine GL 1 tk3 rfl rfl rfl rfl rfl (aG rfl rfl (fun hc=>ab8 (aa rfl hc) (aa rfl hc)) (aG rfl rfl (fun hc=>dQ (by kernel_rfl) (ax (aa rfl hc) (ax (aa rfl rfl) (ax (aa rfl hc) rfl))) (fun w S fp hst=>(cB _ _ _).quiet0 hst)) (aU rfl (aQ rfl rfl (fun h=>gt rfl h)) (aA rfl (aNn (aSR (UO 0 rfl rfl (UL 1 tk3 rfl rfl rfl rfl (UO 1 rfl rfl (UL 1 tk3 rfl rfl rfl rfl (aU rfl (ab7 rfl rfl) (aI rfl (aW 0 tk3 rfl rfl rfl rfl (aHK ?_))))))))))))))
 refine aNn (aSR (aM rfl (aA rfl (aNn (aj (FZ1 [0] Tryz.results167 rfl ?_))))))
 exact ⟨rfl,rfl,rfl⟩
theorem tk263:tyk Tryz.prog 263=some (false,1):=by kernel_rfl
theorem xx(x:cK):Con Tryz.prog 169 [x.val] [] [] fun r _ _=>r=v3 (inG x):=by
 refine EN1 Tryz.func169 rfl (aSR (LT rfl (bz rfl rfl rfl (fun b0_0=>(aHN ?_)))))
 refine aA rfl (aA rfl (aA rfl (aNs (DR [] 9 (VO 0 0 rfl rfl rfl (VL 1 0 tk3 rfl rfl rfl rfl rfl (VO 2 1 rfl rfl rfl (VL 3 0 tk3 rfl rfl rfl rfl rfl (VO 4 2 rfl rfl rfl (VL 5 0 tk3 rfl rfl rfl rfl rfl (bV 6 rfl rfl (bB rfl) (bV 7 rfl rfl (bB rfl) (bV 8 rfl rfl (bB rfl) (BN ?_))))))))))))))
 refine an (aj ?_)
 refine acs [] [] rfl Tryz.results169 rfl rfl rfl ?_ (.inr rfl)
 rfl
theorem lz(im:ak)(b bf b2:Nat)(e:Int)(i:Nat)(x:cK):Con Tryz.prog 256 [.int .i64 i,x.val,.pointer (some ⟨bf,0,none⟩),.pointer (some ⟨b2,0,none⟩),.pointer (some ⟨b,0,none⟩)] [b7 (At bf 0 [.v (.func (.func 169) #[] #[])]) (At b 0 im.row)] [Box b2 3 [.int .i64 e]] fun r ps hp=>ps=[]∧r=.bool (j8 im inG e i x).1∧hp=[Box b2 3 [.int .i64 (j8 im inG e i x).2]]:=by
 refine EN5 Tryz.func256 rfl (bF _ (Ent.left (.of (aF 0 rfl))) (bF _ (Ent.right (.of (aF 1 rfl))) (aSR (LT rfl (bz rfl rfl rfl (fun b0_0=>(aHN ?_)))))))
 refine aA rfl (aNn (aSR (UD 0 tk263 1 rfl rfl rfl rfl (UL 1 tk262 rfl rfl rfl rfl (aU rfl (fl (by kernel_rfl) rfl rfl (fun w S fp hst=>(xx x).quiet0 hst)) ?_)))))
 refine aM rfl (aU rfl (aK rfl rfl) (aU rfl (aK rfl rfl) (aU rfl (aK rfl rfl) (aA rfl (aA rfl (aA rfl (aNn (aSR (aM rfl (aU rfl (bw rfl rfl) (aM rfl (aG rfl rfl (fun hc=>az rfl) (aG rfl rfl (fun hc=>bJ 0 tk3 rfl rfl rfl) ?_)))))))))))))
 refine aG rfl rfl (fun hc=>dR (aa rfl hc) (aa rfl hc)) (aU rfl (aQ rfl rfl (fun h=>gt rfl h)) (aM rfl (aG rfl rfl (fun hc=>az rfl) (aG rfl rfl (fun hc=>az rfl) (aG rfl rfl (fun hc=>dq (aa rfl hc) (aa rfl hc)) (aU rfl (aQ rfl rfl (fun h=>gt rfl h)) (aM rfl (aG rfl rfl (fun hc=>az rfl) (GO 2 rfl rfl rfl ?_)))))))))
 refine aG rfl rfl (fun hc=>aP (o:=2) tk3 (aa rfl hc) (.of (aF 0 rfl)) rfl) (aG rfl rfl (fun hc=>dq (aa rfl hc) (aa rfl hc)) (aU rfl (aQ rfl rfl (fun h=>gt rfl h)) (aA rfl (aNn (aSR (aM rfl (aI rfl (aW 0 tk3 rfl rfl rfl rfl (aHK ?_)))))))))
 refine aNn (aSR (aM rfl (aA rfl (aNn (aj (FZ1 [0] Tryz.results256 rfl ?_))))))
 exact ⟨rfl,rfl,rfl⟩
theorem my(im:ak)(l:Sl cK):Con Tryz.prog 168 [im.val,l.val,.func (.func 169) #[] #[]] [ShF cK.row l] [] fun r _ _=>r=.bool (eE (j8 im inG) 0 0 l.l).1:=by
 refine EN3 Tryz.func168 rfl (aSR (LT rfl (bz rfl rfl rfl (fun b0_0=>(aHN ?_)))))
 refine LT rfl (bz rfl rfl rfl (fun b0_1=>(aHN ?_)))
 refine aA rfl (aNs (bd 0 rfl rfl ?_))
 show awp _ _ _ _ ⟨_,At _ 0 _::_,_⟩
 refine ae (LT rfl (bt (zs:=[.int .i64 0]) (by kernel_rfl) rfl (fun b1_0=>(aHN ?_))))
 refine aI rfl (aW 2 tk3 rfl rfl rfl rfl (aHK ?_))
 refine aNs (bd 1 rfl rfl ?_)
 show awp _ _ _ _ ⟨_,At b0_1 0 [.v (.func (.func 169) #[] #[])]::_,_⟩
 refine ae (aM rfl (aU rfl (dB (l:=[.tmp 5,.tmp 7,.tmp 3]) rfl) (LF rfl (EC [0,1,2] [2] rfl (Con.clH (((ni l 256 [.pointer (some ⟨b0_1,0,none⟩),.pointer (some ⟨b1_0,0,none⟩),.pointer (some ⟨b0_0,0,none⟩)] (b7 (At b0_1 0 [.v (.func (.func 169) #[] #[])]) (At b0_0 0 im.row)) (fun e=>Box b1_0 3 [.int .i64 e]) (j8 im inG) 0 (by kernel_rfl) (fun s i x _=>lz im b0_0 b0_1 b1_0 s i x)).pre2 (.of (aF 0 rfl)) (Ent.mk2 (.of (aF 2 rfl)) (.of (aF 1 rfl))))) (fun _ _ _ h=>h.2.1)) ?_))))
 rintro _ _ _ ⟨rfl,rfl,rfl⟩
 refine aST ?_
 refine aA rfl (aNn (aj (FZ1 [] Tryz.results168 rfl ?_)))
 rfl
theorem tk269:tyk Tryz.prog 269=some (false,1):=by kernel_rfl
theorem xz(x:fT):Con Tryz.prog 173 [x.val] [] [] fun r _ _=>r=v3 (vaG x):=by
 refine EN1 Tryz.func173 rfl (aSR (LT rfl (bz rfl rfl rfl (fun b0_0=>(aHN ?_)))))
 refine aA rfl (aA rfl (aA rfl (aNs (DR [] 9 (VO 0 0 rfl rfl rfl (VL 1 0 tk3 rfl rfl rfl rfl rfl (VO 2 1 rfl rfl rfl (VL 3 0 tk3 rfl rfl rfl rfl rfl (VO 4 2 rfl rfl rfl (VL 5 0 tk3 rfl rfl rfl rfl rfl (bV 6 rfl rfl (bB rfl) (bV 7 rfl rfl (bB rfl) (bV 8 rfl rfl (bB rfl) (BN ?_))))))))))))))
 refine an (aj ?_)
 refine acs [] [] rfl Tryz.results173 rfl rfl rfl ?_ (.inr rfl)
 rfl
theorem pf(im:ak)(b bf b2:Nat)(e:Int)(i:Nat)(x:fT):Con Tryz.prog 257 [.int .i64 i,x.val,.pointer (some ⟨bf,0,none⟩),.pointer (some ⟨b2,0,none⟩),.pointer (some ⟨b,0,none⟩)] [b7 (At bf 0 [.v (.func (.func 173) #[] #[])]) (At b 0 im.row)] [Box b2 3 [.int .i64 e]] fun r ps hp=>ps=[]∧r=.bool (j8 im vaG e i x).1∧hp=[Box b2 3 [.int .i64 (j8 im vaG e i x).2]]:=by
 refine EN5 Tryz.func257 rfl (bF _ (Ent.left (.of (aF 0 rfl))) (bF _ (Ent.right (.of (aF 1 rfl))) (aSR (LT rfl (bz rfl rfl rfl (fun b0_0=>(aHN ?_)))))))
 refine aA rfl (aNn (aSR (UD 0 tk269 1 rfl rfl rfl rfl (UL 1 tk268 rfl rfl rfl rfl (aU rfl (fl (by kernel_rfl) rfl rfl (fun w S fp hst=>(xz x).quiet0 hst)) ?_)))))
 refine aM rfl (aU rfl (aK rfl rfl) (aU rfl (aK rfl rfl) (aU rfl (aK rfl rfl) (aA rfl (aA rfl (aA rfl (aNn (aSR (aM rfl (aU rfl (bw rfl rfl) (aM rfl (aG rfl rfl (fun hc=>az rfl) (aG rfl rfl (fun hc=>bJ 0 tk3 rfl rfl rfl) ?_)))))))))))))
 refine aG rfl rfl (fun hc=>dR (aa rfl hc) (aa rfl hc)) (aU rfl (aQ rfl rfl (fun h=>gt rfl h)) (aM rfl (aG rfl rfl (fun hc=>az rfl) (aG rfl rfl (fun hc=>az rfl) (aG rfl rfl (fun hc=>dq (aa rfl hc) (aa rfl hc)) (aU rfl (aQ rfl rfl (fun h=>gt rfl h)) (aM rfl (aG rfl rfl (fun hc=>az rfl) (GO 2 rfl rfl rfl ?_)))))))))
 refine aG rfl rfl (fun hc=>aP (o:=2) tk3 (aa rfl hc) (.of (aF 0 rfl)) rfl) (aG rfl rfl (fun hc=>dq (aa rfl hc) (aa rfl hc)) (aU rfl (aQ rfl rfl (fun h=>gt rfl h)) (aA rfl (aNn (aSR (aM rfl (aI rfl (aW 0 tk3 rfl rfl rfl rfl (aHK ?_)))))))))
 refine aNn (aSR (aM rfl (aA rfl (aNn (aj (FZ1 [0] Tryz.results257 rfl ?_))))))
 exact ⟨rfl,rfl,rfl⟩
theorem ra(im:ak)(l:Sl fT):Con Tryz.prog 172 [im.val,l.val,.func (.func 173) #[] #[]] [ShF fT.row l] [] fun r _ _=>r=.bool (eE (j8 im vaG) 0 0 l.l).1:=by
 refine EN3 Tryz.func172 rfl (aSR (LT rfl (bz rfl rfl rfl (fun b0_0=>(aHN ?_)))))
 refine LT rfl (bz rfl rfl rfl (fun b0_1=>(aHN ?_)))
 refine aA rfl (aNs (bd 0 rfl rfl ?_))
 show awp _ _ _ _ ⟨_,At _ 0 _::_,_⟩
 refine ae (LT rfl (bt (zs:=[.int .i64 0]) (by kernel_rfl) rfl (fun b1_0=>(aHN ?_))))
 refine aI rfl (aW 2 tk3 rfl rfl rfl rfl (aHK ?_))
 refine aNs (bd 1 rfl rfl ?_)
 show awp _ _ _ _ ⟨_,At b0_1 0 [.v (.func (.func 173) #[] #[])]::_,_⟩
 refine ae (aM rfl (aU rfl (dB (l:=[.tmp 5,.tmp 7,.tmp 3]) rfl) (LF rfl (EC [0,1,2] [2] rfl (Con.clH (((sq l 257 [.pointer (some ⟨b0_1,0,none⟩),.pointer (some ⟨b1_0,0,none⟩),.pointer (some ⟨b0_0,0,none⟩)] (b7 (At b0_1 0 [.v (.func (.func 173) #[] #[])]) (At b0_0 0 im.row)) (fun e=>Box b1_0 3 [.int .i64 e]) (j8 im vaG) 0 (by kernel_rfl) (fun s i x _=>pf im b0_0 b0_1 b1_0 s i x)).pre2 (.of (aF 0 rfl)) (Ent.mk2 (.of (aF 2 rfl)) (.of (aF 1 rfl))))) (fun _ _ _ h=>h.2.1)) ?_))))
 rintro _ _ _ ⟨rfl,rfl,rfl⟩
 refine aST ?_
 refine aA rfl (aNn (aj (FZ1 [] Tryz.results172 rfl ?_)))
 rfl
theorem tk275:tyk Tryz.prog 275=some (false,1):=by kernel_rfl
theorem xB(x:dH):Con Tryz.prog 177 [x.val] [] [] fun r _ _=>r=v3 (deG x):=by
 refine EN1 Tryz.func177 rfl (aSR (LT rfl (bz rfl rfl rfl (fun b0_0=>(aHN ?_)))))
 refine aA rfl (aA rfl (aA rfl (aNs (DR [] 9 (VO 0 0 rfl rfl rfl (VL 1 0 tk3 rfl rfl rfl rfl rfl (VO 2 1 rfl rfl rfl (VL 3 0 tk3 rfl rfl rfl rfl rfl (VO 4 2 rfl rfl rfl (VL 5 0 tk3 rfl rfl rfl rfl rfl (bV 6 rfl rfl (bB rfl) (bV 7 rfl rfl (bB rfl) (bV 8 rfl rfl (bB rfl) (BN ?_))))))))))))))
 refine an (aj ?_)
 refine acs [] [] rfl Tryz.results177 rfl rfl rfl ?_ (.inr rfl)
 rfl
theorem mw(im:ak)(b bf b2:Nat)(e:Int)(i:Nat)(x:dH):Con Tryz.prog 258 [.int .i64 i,x.val,.pointer (some ⟨bf,0,none⟩),.pointer (some ⟨b2,0,none⟩),.pointer (some ⟨b,0,none⟩)] [b7 (At bf 0 [.v (.func (.func 177) #[] #[])]) (At b 0 im.row)] [Box b2 3 [.int .i64 e]] fun r ps hp=>ps=[]∧r=.bool (j8 im deG e i x).1∧hp=[Box b2 3 [.int .i64 (j8 im deG e i x).2]]:=by
 refine EN5 Tryz.func258 rfl (bF _ (Ent.left (.of (aF 0 rfl))) (bF _ (Ent.right (.of (aF 1 rfl))) (aSR (LT rfl (bz rfl rfl rfl (fun b0_0=>(aHN ?_)))))))
 refine aA rfl (aNn (aSR (UD 0 tk275 1 rfl rfl rfl rfl (UL 1 tk274 rfl rfl rfl rfl (aU rfl (fl (by kernel_rfl) rfl rfl (fun w S fp hst=>(xB x).quiet0 hst)) ?_)))))
 refine aM rfl (aU rfl (aK rfl rfl) (aU rfl (aK rfl rfl) (aU rfl (aK rfl rfl) (aA rfl (aA rfl (aA rfl (aNn (aSR (aM rfl (aU rfl (bw rfl rfl) (aM rfl (aG rfl rfl (fun hc=>az rfl) (aG rfl rfl (fun hc=>bJ 0 tk3 rfl rfl rfl) ?_)))))))))))))
 refine aG rfl rfl (fun hc=>dR (aa rfl hc) (aa rfl hc)) (aU rfl (aQ rfl rfl (fun h=>gt rfl h)) (aM rfl (aG rfl rfl (fun hc=>az rfl) (aG rfl rfl (fun hc=>az rfl) (aG rfl rfl (fun hc=>dq (aa rfl hc) (aa rfl hc)) (aU rfl (aQ rfl rfl (fun h=>gt rfl h)) (aM rfl (aG rfl rfl (fun hc=>az rfl) (GO 2 rfl rfl rfl ?_)))))))))
 refine aG rfl rfl (fun hc=>aP (o:=2) tk3 (aa rfl hc) (.of (aF 0 rfl)) rfl) (aG rfl rfl (fun hc=>dq (aa rfl hc) (aa rfl hc)) (aU rfl (aQ rfl rfl (fun h=>gt rfl h)) (aA rfl (aNn (aSR (aM rfl (aI rfl (aW 0 tk3 rfl rfl rfl rfl (aHK ?_)))))))))
 refine aNn (aSR (aM rfl (aA rfl (aNn (aj (FZ1 [0] Tryz.results258 rfl ?_))))))
 exact ⟨rfl,rfl,rfl⟩
theorem nu(im:ak)(l:Sl dH):Con Tryz.prog 176 [im.val,l.val,.func (.func 177) #[] #[]] [ShF dH.row l] [] fun r _ _=>r=.bool (eE (j8 im deG) 0 0 l.l).1:=by
 refine EN3 Tryz.func176 rfl (aSR (LT rfl (bz rfl rfl rfl (fun b0_0=>(aHN ?_)))))
 refine LT rfl (bz rfl rfl rfl (fun b0_1=>(aHN ?_)))
 refine aA rfl (aNs (bd 0 rfl rfl ?_))
 show awp _ _ _ _ ⟨_,At _ 0 _::_,_⟩
 refine ae (LT rfl (bt (zs:=[.int .i64 0]) (by kernel_rfl) rfl (fun b1_0=>(aHN ?_))))
 refine aI rfl (aW 2 tk3 rfl rfl rfl rfl (aHK ?_))
 refine aNs (bd 1 rfl rfl ?_)
 show awp _ _ _ _ ⟨_,At b0_1 0 [.v (.func (.func 177) #[] #[])]::_,_⟩
 refine ae (aM rfl (aU rfl (dB (l:=[.tmp 5,.tmp 7,.tmp 3]) rfl) (LF rfl (EC [0,1,2] [2] rfl (Con.clH (((pb l 258 [.pointer (some ⟨b0_1,0,none⟩),.pointer (some ⟨b1_0,0,none⟩),.pointer (some ⟨b0_0,0,none⟩)] (b7 (At b0_1 0 [.v (.func (.func 177) #[] #[])]) (At b0_0 0 im.row)) (fun e=>Box b1_0 3 [.int .i64 e]) (j8 im deG) 0 (by kernel_rfl) (fun s i x _=>mw im b0_0 b0_1 b1_0 s i x)).pre2 (.of (aF 0 rfl)) (Ent.mk2 (.of (aF 2 rfl)) (.of (aF 1 rfl))))) (fun _ _ _ h=>h.2.1)) ?_))))
 rintro _ _ _ ⟨rfl,rfl,rfl⟩
 refine aST ?_
 refine aA rfl (aNn (aj (FZ1 [] Tryz.results176 rfl ?_)))
 rfl
theorem xy(i:Nat)(x:cK):Con Tryz.prog 171 [.int .i64 i,x.val] [] [] fun r _ _=>r=.bool (inB x):=by
 refine EN2 Tryz.func171 rfl (aSR (LT rfl (bz rfl rfl rfl (fun b0_0=>(aHN ?_)))))
 refine aA rfl (aNn (aSR (UO 3 rfl rfl (UL 0 tk9 rfl rfl rfl rfl (aU rfl (Q0 rfl (gS _)) (aM rfl (GO 4 rfl rfl rfl (GL 0 tk9 rfl rfl rfl rfl rfl (aG rfl rfl (fun hc=>Q0 (ax (aa rfl hc) rfl) (gS _)) (aU rfl (aQ rfl rfl (fun h=>gt rfl h)) (aM rfl (GO 5 rfl rfl rfl ?_))))))))))))
 refine GL 0 tk3 rfl rfl rfl rfl rfl (aG rfl rfl (fun hc=>dR (aa rfl hc) rfl) (aU rfl (aQ rfl rfl (fun h=>gt rfl h)) (aA rfl (aNn (aj (FZ1 [] Tryz.results171 rfl ?_))))))
 rfl
theorem xA(im:ak)(hS:eK im)(b i:Nat)(x:fT):Con Tryz.prog 175 [.int .i64 i,x.val,.pointer (some ⟨b,0,none⟩)] [At b 0 im.row] [] fun r _ _=>r=.bool (vaB im x):=by
 have hc0:=hS.c0
 have hcd:=hS.cd
 have hdz:=hS.dz
 have hzm:=hS.zm
 refine EN3 Tryz.func175 rfl (aSR (LT rfl (bz rfl rfl rfl (fun b0_0=>(aHN ?_)))))
 refine aA rfl (aNn (aSR (UO 4 rfl rfl (UL 0 tk3 rfl rfl rfl rfl (aU rfl (bw rfl rfl) (aM rfl (GO 4 rfl rfl rfl (GL 0 tk3 rfl rfl rfl rfl rfl (aG rfl rfl (fun hc=>bw (aa rfl hc) rfl) (aG rfl rfl (fun hc=>az (aa rfl hc)) (GO 5 rfl rfl rfl (GL 0 tk3 rfl rfl rfl rfl rfl (aG rfl rfl (fun hc=>dQ (by kernel_rfl) (ax (aa rfl hc) (ax (aa rfl rfl) (ax (aa rfl rfl) rfl))) (fun w S fp hst=>(cB _ _ _).quiet0 hst)) ?_)))))))))))))
 refine aG rfl rfl (fun hc=>aQ (aa rfl hc) rfl (fun h=>gt hc h)) (aU rfl (cm rfl rfl (fun h=>gf rfl h)) (aM rfl (GO 4 rfl rfl rfl (GL 0 tk3 rfl rfl rfl rfl rfl (aG rfl rfl (fun hc=>bw (aa rfl hc) rfl) (aG rfl rfl (fun hc=>az (aa rfl hc)) (GO 5 rfl rfl rfl (GL 0 tk3 rfl rfl rfl rfl rfl (GO 4 rfl rfl rfl (aG rfl rfl (fun hc=>aP (o:=4) tk3 (aa rfl hc) (.of (aF 0 rfl)) rfl) ?_))))))))))
 refine aG rfl rfl (fun hc=>bN (aa rfl hc) rfl (by (first | omega | (simp at hc;omega)))) ?_
 refine aG rfl rfl (fun hc=>dQ (by kernel_rfl) (ax (aa rfl hc) (ax (aa rfl rfl) (ax (aa rfl hc) rfl))) (fun w S fp hst=>(cB _ _ _).quiet0 hst)) (aG rfl rfl (fun hc=>aQ (aa rfl hc) rfl (fun h=>gt hc h)) (aU rfl (cm rfl rfl (fun h=>gf rfl h)) (aA rfl (aNn (aSR (UO 3 rfl rfl (UL 0 tk9 rfl rfl rfl rfl (aU rfl (Q0 rfl (gS _)) (aM rfl (aG rfl rfl (fun hc=>az rfl) (aU rfl (aQ rfl rfl (fun h=>gt rfl h)) (aA rfl (aNn (aj (FZ1 [] Tryz.results175 rfl ?_)))))))))))))))
 rfl
theorem xC(i:Nat)(x:dH):Con Tryz.prog 179 [.int .i64 i,x.val] [] [] fun r _ _=>r=.bool (deB x):=by
 refine EN2 Tryz.func179 rfl (aSR (LT rfl (bz rfl rfl rfl (fun b0_0=>(aHN ?_)))))
 refine aA rfl (aNn (aSR (UO 3 rfl rfl (UL 0 tk3 rfl rfl rfl rfl (aU rfl (dR rfl rfl) (aM rfl (GO 3 rfl rfl rfl (GL 0 tk3 rfl rfl rfl rfl rfl (aG rfl rfl (fun hc=>qq (aa rfl hc) rfl (by decide)) (aG rfl rfl (fun hc=>bw (aa rfl hc) rfl) (aU rfl (aQ rfl rfl (fun h=>gt rfl h)) (aA rfl (aNn (aj (FZ1 [] Tryz.results179 rfl ?_)))))))))))))))
 rfl
theorem zC(im:ak)(hS:eK im):Con Tryz.prog 72 [im.val] [im.ok] [] fun r _ _=>r=.bool (ab6 im):=by
 refine EN1 Tryz.func72 rfl (aSR (LT rfl (bz rfl rfl rfl (fun b0_0=>(aHN ?_)))))
 refine aA rfl (aNs (bd 0 rfl rfl ?_))
 show awp _ _ _ _ ⟨_,At _ 0 _::_,_⟩
 refine ae (UO 19 rfl rfl (UD 19 tk37 0 rfl rfl rfl rfl (LT rfl (bt (zs:=[.slice none 0 0,.slice none 0 0,.slice none 0 0,.slice none 0 0,.slice none 0 0,.slice none 0 0]) (by kernel_rfl) rfl (fun b1_2=>(aHN ?_))))))
 refine aI rfl (aW 1 tk37 rfl rfl rfl rfl (aHK ?_))
 refine aNs (bd 1 rfl rfl ?_)
 show awp _ _ _ _ ⟨_,At b1_2 0 im.info.row::_,_⟩
 refine ae (UO 0 rfl rfl (UD 0 tk30 0 rfl rfl rfl rfl (aU rfl (dB (l:=[.tmp 1,.tmp 3]) rfl) (aU rfl (QC rfl (fun w S fp hst=>(((o7 im.info.marks 162 [.pointer (some ⟨b0_0,0,none⟩),.pointer (some ⟨b1_2,0,none⟩)] (abq im b0_0 b1_2) (aai im) (by kernel_rfl) (fun i x hx=>xu im b0_0 b1_2 i x hx)).post (fun _ _ _ h=>h.2.2)).pre2 (ps:=[At b1_2 0 im.info.row,At b0_0 0 im.row,im.ok]) (cY.f_marks (ak.f_info (.of (aF 2 rfl)))) (Ent.mk2 (.of (aF 1 rfl)) (Ent.mk2 (.of (aF 0 rfl)) (.of (aF 2 rfl))))).quiet3 (aF 0 rfl) (aF 1 rfl) (aF 2 rfl) hst)) (aA rfl (aNn (aSR (UO 1 rfl rfl (UD 1 tk31 0 rfl rfl rfl rfl (aU rfl (dB (l:=[.tmp 1,.tmp 3]) rfl) (aU rfl (QC rfl (fun w S fp hst=>(((oZ im.info.lines 165 [.pointer (some ⟨b0_0,0,none⟩),.pointer (some ⟨b1_2,0,none⟩)] (abq im b0_0 b1_2) (aad im) (by kernel_rfl) (fun i x hx=>xv im hS b0_0 b1_2 i x hx)).post (fun _ _ _ h=>h.2.2)).pre2 (ps:=[At b1_2 0 im.info.row,At b0_0 0 im.row,im.ok]) (cY.f_lines (ak.f_info (.of (aF 2 rfl)))) (Ent.mk2 (.of (aF 1 rfl)) (Ent.mk2 (.of (aF 0 rfl)) (.of (aF 2 rfl))))).quiet3 (aF 0 rfl) (aF 1 rfl) (aF 2 rfl) hst)) (aA rfl (aNn (aSR ?_))))))))))))))
 refine LT rfl (bt (zs:=[.int .i64 0]) (by kernel_rfl) rfl (fun b4_0=>(aHN ?_)))
 refine aI rfl (aW 2 tk3 rfl rfl rfl rfl (aHK ?_))
 refine aNn (aSR (UO 2 rfl rfl (UD 2 tk32 0 rfl rfl rfl rfl (aU rfl (dB (l:=[.tmp 6,.tmp 1]) rfl) (LF rfl (EC [0,1,2] [2] rfl (Con.clH (((qP im.info.ends 167 [.pointer (some ⟨b4_0,0,none⟩),.pointer (some ⟨b0_0,0,none⟩)] (At b0_0 0 im.row) (fun e=>Box b4_0 3 [.int .i64 e]) (abp im) 0 (by kernel_rfl) (fun s i x _=>xw im b0_0 b4_0 s i x)).pre2 (cY.f_ends (ak.f_info (.of (aF 0 rfl)))) (.of (aF 1 rfl)))) (fun _ _ _ h=>h.2.1)) ?_))))))
 rintro _ _ _ ⟨rfl,rfl,rfl⟩
 refine aST ?_
 refine aA rfl (aNn (aSR (UD 0 tk40 1 rfl rfl rfl rfl (UO 3 rfl rfl (UD 3 tk33 0 rfl rfl rfl rfl (aU rfl (Q1 rfl ((my im im.info.inlines).pre1 (ps:=[im.ok]) (cY.f_inlines (ak.f_info (.of (aF 0 rfl))))) 2 rfl) (aM rfl (GO 3 rfl rfl rfl (aG rfl rfl (fun hc=>aP (o:=3) tk33 (aa rfl hc) (.of (aF 0 rfl)) rfl) ?_)))))))))
 refine aG rfl rfl (fun hc=>Q1 (ax (aa rfl hc) (ax (aa rfl rfl) rfl)) (((mr im.info.inlines 171 [] im.ok (fun _ x=>inB x) (by kernel_rfl) (fun i x _=>(xy i x).pre (fun _ h=>by cases h))).post (fun _ _ _ h=>h.2.2)).pre2 (ps:=[im.ok]) (cY.f_inlines (ak.f_info (.of (aF 0 rfl)))) (.of (aF 0 rfl))) 2 rfl) ?_
 refine aU rfl (aQ rfl rfl (fun h=>gt rfl h)) (aA rfl (aNn (aSR (UD 0 tk40 1 rfl rfl rfl rfl (UO 4 rfl rfl (UD 4 tk34 0 rfl rfl rfl rfl (aU rfl (Q1 rfl ((ra im im.info.vars).pre1 (ps:=[im.ok]) (cY.f_vars (ak.f_info (.of (aF 0 rfl))))) 2 rfl) (aM rfl (GO 4 rfl rfl rfl (aG rfl rfl (fun hc=>aP (o:=4) tk34 (aa rfl hc) (.of (aF 0 rfl)) rfl) (aG rfl rfl (fun hc=>dB (l:=[.tmp 1]) rfl) (aG rfl rfl (fun hc=>QC (ax (aa rfl hc) (ax (aa rfl hc) rfl)) (fun w S fp hst=>(((qO im.info.vars 175 [.pointer (some ⟨b0_0,0,none⟩)] (At b0_0 0 im.row) (fun _ x=>vaB im x) (by kernel_rfl) (fun i x _=>xA im hS b0_0 i x)).post (fun _ _ _ h=>h.2.2)).pre2 (ps:=[At b0_0 0 im.row,im.ok]) (cY.f_vars (ak.f_info (.of (aF 1 rfl)))) (.of (aF 0 rfl))).quiet2 (aF 1 rfl) (aF 2 rfl) hst)) ?_))))))))))))
 refine aU rfl (aQ rfl rfl (fun h=>gt rfl h)) (aA rfl (aNn (aSR (UD 0 tk40 1 rfl rfl rfl rfl (UO 5 rfl rfl (UD 5 tk35 0 rfl rfl rfl rfl (aU rfl (Q1 rfl ((nu im im.info.depths).pre1 (ps:=[im.ok]) (cY.f_depths (ak.f_info (.of (aF 0 rfl))))) 2 rfl) (aM rfl (GO 5 rfl rfl rfl (aG rfl rfl (fun hc=>aP (o:=5) tk35 (aa rfl hc) (.of (aF 0 rfl)) rfl) ?_))))))))))
 refine aG rfl rfl (fun hc=>Q1 (ax (aa rfl hc) (ax (aa rfl rfl) rfl)) (((nc im.info.depths 179 [] im.ok (fun _ x=>deB x) (by kernel_rfl) (fun i x _=>(xC i x).pre (fun _ h=>by cases h))).post (fun _ _ _ h=>h.2.2)).pre2 (ps:=[im.ok]) (cY.f_depths (ak.f_info (.of (aF 0 rfl)))) (.of (aF 0 rfl))) 2 rfl) ?_
 refine aU rfl (aQ rfl rfl (fun h=>gt rfl h)) (aA rfl (aNn (aSR (aM rfl (aM rfl (aG rfl rfl (fun hc=>az rfl) (aU rfl (aQ rfl rfl (fun h=>gt rfl h)) (aM rfl (aG rfl rfl (fun hc=>az rfl) (aU rfl (aQ rfl rfl (fun h=>gt rfl h)) (aM rfl (aG rfl rfl (fun hc=>az rfl) (aU rfl (aQ rfl rfl (fun h=>gt rfl h)) ?_)))))))))))))
 refine aM rfl (aG rfl rfl (fun hc=>az rfl) (aU rfl (aQ rfl rfl (fun h=>gt rfl h)) (aM rfl (aG rfl rfl (fun hc=>az rfl) (aU rfl (aQ rfl rfl (fun h=>gt rfl h)) (aA rfl (aNn (aj (FZ1 [] Tryz.results72 rfl ?_)))))))))
 rfl
theorem rr{im:ak}(h:gY im=true):im.imports.l.length≤4096∧im.slots.l.length=im.imports.l.length:=by
 unfold gY at h
 split at h
 · cases h
 · rename_i hh
   rw [Bool.not_eq_true] at hh
   unfold te at hh
   simp only [Bool.or_eq_false_iff,Bool.not_eq_false',decide_eq_false_iff_not,decide_eq_true_eq] at hh
   omega
def gK(im:ak):Bool:=((((((((lO im && lI im) && s7 im) && gY im) && l9 im) && wQ im) && ry im true) && ab6 im) && si im)
theorem gA(im:ak)(hi:I64 im.code∧I64 im.data∧I64 im.zero):Con Tryz.prog 16 [im.val] [im.ok] [] (YN Value.bool fun b=>b=true↔y7 im.versions.l∧gK im=true):=by
 refine EN1 Tryz.func16 rfl (ei (ak.f_name (.of (aF 0 rfl))) (fun hsn=>(aSR (LT rfl (bz rfl rfl rfl (fun b0_0=>(aHN ?_)))))))
 refine aA rfl (aNs (bd 0 rfl rfl ?_))
 show awp _ _ _ _ ⟨_,At _ 0 _::_,_⟩
 refine ae (UD 0 tk40 0 rfl rfl rfl rfl (aU rfl (Q0 rfl (xL im hsn hi)) (aM rfl (aG rfl rfl (fun hc=>aP (o:=0) tk40 rfl (.of (aF 0 rfl)) rfl) ?_))))
 refine aG rfl rfl (fun hc=>Q1 (ax (aa rfl hc) rfl) (xJ im (eQ.1 (by simpa using hc))) 1 rfl) ?_
 refine aU rfl (aQ rfl rfl (fun h=>gt rfl h)) (aM rfl (aG rfl rfl (fun hc=>aP (o:=0) tk40 rfl (.of (aF 0 rfl)) rfl) (aG rfl rfl (fun hc=>Q1 (ax (aa rfl hc) rfl) (sw im) 1 rfl) (aU rfl (aQ rfl rfl (fun h=>gt rfl h)) (aM rfl (aG rfl rfl (fun hc=>aP (o:=0) tk40 rfl (.of (aF 0 rfl)) rfl) ?_))))))
 refine aG rfl rfl (fun hc=>Q1 (ax (aa rfl hc) rfl) (sx im (eQ.1 (by simp at hc;exact hc.1.1))) 1 rfl) ?_
 refine aU rfl (aQ rfl rfl (fun h=>gt rfl h)) (aM rfl (aG rfl rfl (fun hc=>aP (o:=0) tk40 rfl (.of (aF 0 rfl)) rfl) ?_))
 refine aG rfl rfl (fun hc=>Q1 (ax (aa rfl hc) rfl) (zw im (eQ.1 (by simp at hc;exact hc.1.1.1)) (rr (by simp at hc;exact hc.2)).2) 1 rfl) ?_
 refine aU rfl (aQ rfl rfl (fun h=>gt rfl h)) (aM rfl (aG rfl rfl (fun hc=>aP (o:=0) tk40 rfl (.of (aF 0 rfl)) rfl) ?_))
 refine aG rfl rfl (fun hc=>Q1 (ax (aa rfl hc) rfl) (uQ im (eQ.1 (by simp at hc;exact hc.1.1.1.1))) 1 rfl) ?_
 refine aU rfl (aQ rfl rfl (fun h=>gt rfl h)) (aM rfl (aG rfl rfl (fun hc=>aP (o:=0) tk40 rfl (.of (aF 0 rfl)) rfl) ?_))
 refine ga (caps:=[]) [0] (false) (by kernel_rfl) _ rfl rfl (fun _=>rfl) (fun hc=>(ax (aa rfl hc) rfl)) (fun hc=>by rw [List.append_nil];exact xI im) (fun v8 hv8 => ?_)
 refine aU rfl (aQ rfl rfl (fun h=>gt rfl h)) (aM rfl (aG rfl rfl (fun hc=>aP (o:=0) tk40 rfl (.of (aF 0 rfl)) rfl) ?_))
 refine aG rfl rfl (fun hc=>Q1 (ax (aa rfl hc) rfl) (zC im (eQ.1 (by simp at hc;exact hc.1.1.1.1.1.1))) 1 rfl) ?_
 refine aU rfl (aQ rfl rfl (fun h=>gt rfl h)) (aM rfl (aG rfl rfl (fun hc=>aP (o:=0) tk40 rfl (.of (aF 0 rfl)) rfl) ?_))
 refine aG rfl rfl (fun hc=>Q1 (ax (aa rfl hc) rfl) (ss im (eQ.1 (by simp at hc;exact hc.1.1.1.1.1.1.1))) 1 rfl) ?_
 refine aU rfl (aQ rfl rfl (fun h=>gt rfl h)) (aA rfl (aNn (aj (FZ1 [] Tryz.results16 rfl ?_))))
 refine ⟨⟨rfl,rfl⟩,_,rfl,fun h => ?_,fun ⟨hs,h⟩ => ?_⟩
 · simp only [Bool.and_eq_true] at h
   have h8:=(hv8 (by simp;exact h.1.1.1)).1 h.1.1.2
   refine ⟨h8.1,?_⟩
   unfold gK;simp only [Bool.and_eq_true]
   exact ⟨⟨⟨h.1.1.1,h8.2⟩,h.1.2⟩,h.2⟩
 · unfold gK at h
   simp only [Bool.and_eq_true] at h ⊢
   exact ⟨⟨⟨h.1.1.1,(hv8 (by simp;exact h.1.1.1)).2 ⟨hs,h.1.1.2⟩⟩,h.1.2⟩,h.2⟩
end Go.Proofs.YtfkcmbonmpcbfaaGreat

namespace Go.Proofs.YtfkcmbonmpcbfaaGreat
open Go.RowKit Go.Lp Go.Sy Go.Lv Go.Sort
open Go.Proofs.Tryz
attribute [local irreducible] aL aB awp aC fwp Quiet
def uh (s:bk) (M:Mem) (m:Int) (im:ak) (br:Bool) (x:bk × Mem) (e:Int):Prop :=
 ((m<0∨br=false)∧x=(s,M)∧e=1)∨(0≤m∧br=true∧(s.mods m).isSome=true∧x=(s,M)∧e=4) ∨
 (0 ≤ m∧br=true∧(s.mods m).isSome=false∧∃ ks,dw s.thr ks∧ks.Pairwise (fun a b=>a<b) ∧
   (((cQ (fJ m) ({ s with mods:=aZ s.mods m im },M) ks).2=true∧x=(cQ (fJ m) ({ s with mods:=aZ s.mods m im },M) ks).1∧e=0) ∨
    ((cQ (fJ m) ({ s with mods:=aZ s.mods m im },M) ks).2=false∧e=7∧∃ y ds,y=(cQ (fJ m) ({ s with mods:=aZ s.mods m im },M) ks).1∧dw y.1.at_ ds∧ds.Pairwise jK∧x=goR y.1 y.2 m ds)))
abbrev fU(im:ak)(b:Bool):Prop:=b=true↔y7 im.versions.l∧gK im=true
structure jM (im:ak):Prop where
 r:I64 im.code∧I64 im.data∧I64 im.zero
 f:gN im
theorem iY(b p mb tb ab:Nat)(s:bk)(hs:∀ k im,s.mods k=some im→gN im){A C:Nat}(hA:e7 s.at_ A)(hC:e7 s.thr C)(hAC:A+C≤1000000)(M:Mem)(hM:cL M)(m:Int)(im:ak)(him:jM im) :
   Con Tryz.prog 19 [.pointer (some ⟨b,0,none⟩),.int .i64 m,im.val] [im.ok] (fO b p mb tb ab s M) fun r ps hp=>ps=[]∧∃ br x e,(0≤m→fU im br)∧uh s M m im br x e∧r=.int .i64 e∧hp=fO b p mb tb ab x.1 x.2:=by
 refine EN3 Tryz.func19 rfl (aSR (LT rfl (bz rfl rfl rfl (fun b0_0=>(aHN ?_)))))
 refine aA rfl (aNs (aSR (aM rfl (aU rfl (bg rfl rfl) (aM rfl (aG rfl rfl (fun hc=>bJ 5 tk40 rfl rfl rfl) ?_))))))
 refine ga (caps:=[]) [0] (false) (by kernel_rfl) _ rfl rfl (fun _=>rfl) (fun hc=>(ax (aa rfl hc) rfl)) (fun hc=>by rw [List.append_nil];exact gA im him.r) (fun br hbr => ?_)
 refine aG rfl rfl (fun hc=>bY (aa rfl hc)) (aU rfl (cm rfl rfl (fun h=>gf rfl h)) (aNn ?_))
 refine ah _ rfl (fun h1 => ?_) (fun h1 => ?_)
 ·skip
  refine aSR (aA rfl (aNn (aj (aN (FZ1 [0,1,2,3,4] Tryz.results19 rfl ?_)))))
  exact ⟨rfl,br,(s,M),1,fun h=>hbr (by simp;omega),.inl ⟨by simpa using h1,rfl,rfl⟩,rfl,rfl⟩
 ·skip
  have hm0:0≤m∧br=true:=by simp at h1;exact ⟨by omega,h1.2⟩
  have hR:0≤m→fU im br:=fun h=>hbr (by simp;omega)
  refine ai (an (aq (aSR (aM rfl (UN rfl rfl (UO 1 rfl rfl (UL 0 tk118 rfl rfl rfl rfl (aM rfl (aU rfl (jf (k:=m) (v0:=(default:ak)) 1 Tryz.underlying118 (keI) (by kernel_rfl) rfl rfl rfl) ?_)))))))))
  generalize hg0:(s.mods m).getD default=im0
  refine aM rfl (aU rfl (aK rfl rfl) (aU rfl (aK rfl rfl) (LT rfl (bt (zs:=ZI) (by kernel_rfl) rfl (fun b3_9=>(aHN ?_))))))
  refine aI rfl (aW 6 tk40 rfl rfl rfl rfl (aHK ?_))
  refine aA rfl (aNn (aSR (aM rfl (aNn ?_))))
  refine ah _ rfl (fun h2 => ?_) (fun h2 => ?_)
  ·skip
   refine aSR (aA rfl (aNn (aj (aN (FZ1 [0,1,2,3,4] Tryz.results19 rfl ?_)))))
   exact ⟨rfl,br,(s,M),4,hR,.inr (.inl ⟨hm0.1,hm0.2,h2,rfl,rfl⟩),rfl,rfl⟩
  ·skip
   refine ai (an (aq (DR [6] 7 (VM 0 rfl rfl (VN 1 rfl rfl rfl (VO 2 1 rfl rfl rfl (VL 3 0 tk118 rfl rfl rfl rfl rfl (VM 4 rfl rfl (VL 5 5 tk40 rfl rfl rfl rfl rfl (iR 6 rfl (by kernel_rfl) rfl rfl (cP (k:=m) (v:=im) 1 Tryz.underlying118 (keI) rfl rfl rfl rfl (bST rfl ?_))))))))))))
   refine BN (an (aq (aSR (aM rfl (UN rfl rfl (UO 2 rfl rfl (UL 0 tk119 rfl rfl rfl rfl (LT rfl (EC [] [] rfl (xF tb) ?_)))))))))
   rintro _ _ _ ⟨rfl,bx2,rfl,rfl⟩
   refine aST ?_
   refine LF rfl (EC [1] [2] rfl (l7 (by kernel_rfl) (adF tb bx2 s.thr) (hC.toK (by omega))) ?_)
   rintro r7 _ _ ⟨rfl,ks,hk,hlt,rfl⟩
   refine aST ?_
   have hkl:ks.length≤C:=hC ks hk.nd fun k h=>(hk.iff k).1 h
   have hs2:∀ k im',aZ s.mods m im k=some im'→gN im':=fun k im' h=>by
     unfold aZ at h
     split at h
     · cases h;exact him.f
     · exact hs k im' h
   refine aU rfl (dF 7 Tryz.underlying26 rfl rfl) (aM rfl (aNn (ao ?_)))
   refine aR [0,1,39,40,41] [] [0,1,2,3,4,7] (fun (q:Nat × (bk × Mem)) s'=>q.1≤ks.length∧cQ (fJ m) ({ s with mods:=aZ s.mods m im },M) ks=cQ (fJ m) q.2 (ks.drop q.1)∧q.2.1.mods=aZ s.mods m im∧cL q.2.2∧e7 q.2.1.at_ (A+q.1)∧s'=⟨[(0,true,.pointer (some ⟨b,0,none⟩)),(1,true,.int .i64 m),(39,true,r7),(40,true,.int .i64 ks.length),(41,true,.int .i64 q.1)],[],fO b p mb tb ab q.2.1 q.2.2++[aD r7 3 1 (ks.map gl)]⟩) (fun q=>ks.length-q.1) rfl (⟨(0,({ s with mods:=aZ s.mods m im },M)),Nat.zero_le _,rfl,rfl,hM,hA,by rw [List.length_map];rfl⟩) ?_
   rintro ⟨j,x⟩ s' ⟨hj,hmk,hmo,hMx,hAx,rfl⟩
   dsimp only at hj hmk hmo hMx hAx
   refine aSR (aU rfl (bg rfl rfl) (aNs ?_))
   refine ah _ rfl (fun h3 => ?_) (fun h3 => ?_)
   ·skip
    have hj':j<ks.length:=by simpa using h3
    obtain ⟨k,hkj⟩:∃ k,ks[j]? = some k:=⟨ks[j]'hj',by simp⟩
    have hrow:(ks.map gl)[j]? = some (gl k):=by rw [List.getElem?_map,hkj];rfl
    have hdr:ks.drop j=k::ks.drop (j+1):=by rw [List.drop_eq_getElem_cons hj'];congr 1;rw [List.getElem?_eq_getElem hj'] at hkj;exact Option.some.inj hkj
    rw [hdr] at hmk
    refine ai (an (aq (ao (aSR ?_))))
    refine aU rfl (bE 5 j el26 rfl rfl rfl rfl (by rw [List.length_map];exact hj')) ?_
    refine aU rfl (bb 5 j 0 tk3 rfl rfl hrow rfl rfl) (aA rfl (aNn (aSR (aM rfl (aM rfl (aM rfl (LF rfl (EC [] [0,1,2,3,4] rfl (pW b p mb tb ab x.1 (fun k im h=>hs2 k im (hmo ▸ h)) x.2 hMx k m) ?_))))))))
    rintro _ _ _ ⟨rfl,rfl,rfl⟩
    refine aST ?_
    refine aU rfl (bY rfl) (aNn ?_)
    refine ah _ rfl (fun h4 => ?_) (fun h4 => ?_)
    ·skip
     have hno:(mkT x.1 x.2 k m).2.2=false:=by simpa using h4
     have hmk2:cQ (fJ m) ({ s with mods:=aZ s.mods m im },M) ks=(((mkT x.1 x.2 k m).1,(mkT x.1 x.2 k m).2.1),false):=hmk.trans (oh (f:=fJ m) hno)
     refine aSR (aM rfl (aM rfl (LF rfl (EC [] [0,1,2,3,4] rfl (abg b p mb tb ab (mkT x.1 x.2 k m).1 ((mI hAx k m).toK (by omega)) (mkT x.1 x.2 k m).2.1 (ru hMx k m) m) ?_))))
     rintro _ _ _ ⟨rfl,ds,hd,hdl,rfl⟩
     refine aST ?_
     refine aNn (aSR (aA rfl (aNn (aj (bH (aN (aN (bH (aN (FZ1 [0,1,2,3,4] Tryz.results19 rfl ?_))))))))))
     exact ⟨rfl,br,goR (mkT x.1 x.2 k m).1 (mkT x.1 x.2 k m).2.1 m ds,7,hR,.inr (.inr ⟨hm0.1,hm0.2,by simpa using h2,ks,hk,hlt,.inr ⟨by rw [hmk2],rfl,((mkT x.1 x.2 k m).1,(mkT x.1 x.2 k m).2.1),ds,by rw [hmk2],hd,hdl,rfl⟩⟩),rfl,rfl⟩
    ·skip
     have hyes:(mkT x.1 x.2 k m).2.2=true:=by simpa using h4
     have hmk2:cQ (fJ m) ({ s with mods:=aZ s.mods m im },M) ks=cQ (fJ m) ((mkT x.1 x.2 k m).1,(mkT x.1 x.2 k m).2.1) (ks.drop (j+1)):=hmk.trans (fx (f:=fJ m) hyes)
     refine ai (bo (an (ae (aU rfl (aO rfl rfl (by omega)) (aM rfl (aNn ?_))))))
     refine ⟨[0,1,39,40,41],[],[0,1,2,3,4,5],rfl,?_⟩
     refine ⟨(j+1,((mkT x.1 x.2 k m).1,(mkT x.1 x.2 k m).2.1)),⟨by omega,hmk2,(tk _ _ _ _).trans hmo,ru hMx k m,mI hAx k m,rfl⟩,by dsimp only;omega⟩
   ·skip
    have hdr:ks.drop j=[]:=List.drop_of_length_le (by simp at h3;omega)
    rw [hdr] at hmk
    refine aS (aV (aV (ba (an (aSR (aA rfl (aNn (aj (FZ1 [0,1,2,3,4] Tryz.results19 rfl ?_)))))))))
    exact ⟨rfl,br,x,0,hR,.inr (.inr ⟨hm0.1,hm0.2,by simpa using h2,ks,hk,hlt,.inl ⟨by rw [hmk];rfl,by rw [hmk];rfl,rfl⟩⟩),rfl,rfl⟩
def xa(s:bk)(m:Int)(im:ak)(br:Bool)(s':bk)(e:Int):Prop :=
 (s.mods m=none∧s'=s∧e=9)∨(∃ old,s.mods m=some old∧((br=false∨im.block≠old.block)∧s'=s∧e=1∨br=true∧im.block=old.block∧s' = { s with mods:=aZ s.mods m im } ∧ e=0))
theorem nw(b p mb tb ab:Nat)(s:bk)(M:Mem)(m:Int)(im:ak)(him:jM im) :
   Con Tryz.prog 20 [.pointer (some ⟨b,0,none⟩),.int .i64 m,im.val] [im.ok] (fO b p mb tb ab s M) fun r ps hp=>ps=[]∧∃ br s' e,((s.mods m).isSome=true→fU im br)∧xa s m im br s' e∧r=.int .i64 e∧hp=fO b p mb tb ab s' M:=by
 obtain ⟨im0,hg0⟩:∃ im0,(s.mods m).getD default=im0:=⟨_,rfl⟩
 refine EN3 Tryz.func20 rfl (aSR (LT rfl (bz rfl rfl rfl (fun b0_0=>(aHN ?_)))))
 refine aA rfl (aNn (aSR (aM rfl (UN rfl rfl (UO 1 rfl rfl (UL 0 tk118 rfl rfl rfl rfl (aM rfl (aU rfl (jf (k:=m) (v0:=(default:ak)) 1 Tryz.underlying118 (keI) (by kernel_rfl) rfl rfl rfl) ?_))))))))
 rw [hg0]
 refine aM rfl (aU rfl (aK rfl rfl) (aU rfl (aK rfl rfl) (LT rfl (bt (zs:=ZI) (by kernel_rfl) rfl (fun b1_9=>(aHN ?_))))))
 refine aI rfl (aW 6 tk40 rfl rfl rfl rfl (aHK ?_))
 refine aA rfl (aNs (ao (aSR (aM rfl (aU rfl (bY rfl) (aA rfl (aNn ?_)))))))
 refine ah _ rfl (fun h1 => ?_) (fun h1 => ?_)
 ·skip
  refine aSR (aA rfl (aNn (aj (bH (aN (FZ1 [0,1,2,3,4] Tryz.results20 rfl ?_))))))
  exact ⟨rfl,false,s,9,fun h=>by rw [h] at h1;simp at h1,.inl ⟨by simpa using h1,rfl,rfl⟩,rfl,rfl⟩
 ·skip
  have hsm:s.mods m=some im0:=by
    cases hmm:s.mods m with
    | none=>rw [hmm] at h1;simp at h1
    | some x=>rw [hmm] at hg0;exact congrArg some hg0
  refine aSR (UL 5 tk40 rfl rfl rfl rfl ?_)
  refine ga (caps:=[]) [0] (false) (by kernel_rfl) true rfl rfl (fun _=>rfl) (fun hc=>rfl) (fun hc=>by rw [List.append_nil];exact gA im him.r) (fun br hbr => ?_)
  refine aU rfl (bY rfl) (aM rfl (GO 7 rfl rfl rfl (GL 5 tk3 rfl rfl rfl rfl rfl (GO 7 rfl rfl rfl (GL 6 tk3 rfl rfl rfl rfl rfl (aG rfl rfl (fun hc=>dS (aa rfl hc) (aa rfl hc)) (aU rfl (cm rfl rfl (fun h=>gf rfl h)) (aA rfl (aNn ?_)))))))))
  refine ah _ rfl (fun h2 => ?_) (fun h2 => ?_)
  ·skip
   refine aSR (aA rfl (aNn (aj (bH (aN (FZ1 [0,1,2,3,4] Tryz.results20 rfl ?_))))))
   exact ⟨rfl,br,s,1,fun _=>(by first | exact hbr | exact hbr rfl),.inr ⟨im0,hsm,.inl ⟨by simpa using h2,rfl,rfl⟩⟩,rfl,rfl⟩
  ·skip
   refine ai (bo (an (aq (DR [6] 7 (VM 0 rfl rfl (VN 1 rfl rfl rfl (VO 2 1 rfl rfl rfl (VL 3 0 tk118 rfl rfl rfl rfl rfl (VM 4 rfl rfl (VL 5 5 tk40 rfl rfl rfl rfl rfl (iR 6 rfl (by kernel_rfl) rfl rfl (cP (k:=m) (v:=im) 1 Tryz.underlying118 (keI) rfl rfl rfl rfl (bST rfl ?_)))))))))))))
   refine BN (an (aSR (aA rfl (aNn (aj (FZ1 [0,1,2,3,4] Tryz.results20 rfl ?_))))))
   have h3:br=true∧im.block=im0.block:=by simpa using h2
   exact ⟨rfl,br,{ s with mods:=aZ s.mods m im },0,fun _=>(by first | exact hbr | exact hbr rfl),.inr ⟨im0,hsm,.inr ⟨h3.1,h3.2,rfl,rfl⟩⟩,rfl,rfl⟩
def fB:bk:=⟨fun _=>none,fun _=>none,fun _=>none⟩
theorem sN(p:Nat):Con Tryz.prog 17 [.pointer (some ⟨p,0,none⟩)] [] [] fun r ps hp=>ps=[]∧∃ b mb tb ab,r=.pointer (some ⟨b,0,none⟩)∧hp=[Box b 122 [.pointer (some ⟨p,0,none⟩),.map (some mb),.map (some tb),.map (some ab)],cN mb kI ak.val fB.mods,cN tb kI vBo fB.thr,cN ab cj vI fB.at_]:=by
 refine EN1 Tryz.func17 rfl (aSR (aA rfl (aNn (aSR (aM rfl (LT rfl (dO (kI) (ak.val) rfl (fun b1_1=>(aHN ?_)))))))))
 refine LT rfl (dO (kI) (vBo) rfl (fun b1_2=>(aHN ?_)))
 refine LT rfl (dO (cj) (vI) rfl (fun b1_3=>(aHN ?_)))
 refine aU rfl (gr (l:=[(0,.tmp 3),(1,.tmp 4),(2,.tmp 5),(3,.tmp 6)]) (zs:=[.pointer none,.map none,.map none,.map none]) (pl:=[(0,1),(1,1),(2,1),(3,1)]) (by kernel_rfl) (by kernel_rfl) (by kernel_rfl) rfl rfl rfl) (LT rfl (bz rfl rfl rfl (fun b1_5=>(aHN ?_))))
 refine aA rfl (aNn (aj (FZ1 [3,0,1,2] Tryz.results17 rfl ?_)))
 exact ⟨rfl,_,_,_,_,rfl,rfl⟩
end Go.Proofs.YtfkcmbonmpcbfaaGreat

namespace Go.Proofs
open Go.Shelf
end Go.Proofs

namespace Go.Proofs.YtfkcmbonmpcbfaaGreat
open Go.RowKit Go.Lp Go.Sy Go.Lv Go.Sort
open Go.Proofs.Tryz
attribute [local irreducible] aL aB awp aC fwp Quiet
def eB(l:List ak)(i:Int):ak:=if l=[] then default else elt l (i % l.length)
def fW(l:List ak):Bool:=l.all fun x => !(decide (4096<x.data) || decide (4096<x.block))
theorem xt(acts:Sl y0)(ims:Sl ak):Con Tryz.prog 15 [.slice acts.ad acts.l.length acts.cap,.slice ims.ad ims.l.length ims.cap] [ShF ak.row ims] [] fun r _ _=>r=.bool (fW ims.l && (decide ((acts.l.length:Int)≤30) && decide ((ims.l.length:Int)≤6))):=by
 refine EN2 Tryz.func15 rfl (aSR (aA rfl (aNs (aSR (aA rfl (aNn (ao (cA (.of (aF 0 rfl)) (fun hlx=>(aR [0,1,5] [0] [] (fun (k:Nat) s=>(k≤ims.l.length∧fW (ims.l.take k)=true)∧s=⟨[(0,true,.slice acts.ad acts.l.length acts.cap),(1,true,.slice ims.ad ims.l.length ims.cap),(5,true,.int .i64 k)],[ShF ak.row ims],[]⟩) (fun k=>ims.l.length-k) rfl (⟨0,⟨Nat.zero_le _,rfl⟩,rfl⟩) ?_))))))))))
 rintro k s ⟨⟨hk,hf⟩,rfl⟩
 refine aq (aSR (aM rfl (aM rfl (aU rfl (aY Tryz.underlying49 rfl) (aU rfl (bg rfl rfl) (aNn ?_))))))
 refine ah _ rfl (fun h1 => ?_) (fun h1 => ?_)
 ·skip
  have hk':k<ims.l.length:=by simpa using h1
  obtain ⟨x,hx⟩:∃ x,ims.l[k]? = some x:=⟨ims.l[k]'hk',by simp⟩
  have hsn:fW (ims.l.take (k+1))=(fW (ims.l.take k) && !(decide (4096<x.data) || decide (4096<x.block))):=by unfold fW;rw [List.take_add_one,hx];simp
  refine ai (an (aq (ao (aSR (aM rfl (aM rfl (UI Tryz.underlying49 tk40 0 rfl rfl rfl rfl rfl (aJ hx) rfl rfl (fun ⟨b4_2,o4_2⟩=>(UO 3 rfl rfl (US 3 tk3 0 rfl rfl rfl rfl rfl (aU rfl (dy rfl rfl) (aM rfl (aG rfl rfl (fun hc=>az rfl) (aG rfl rfl (fun hc=>az rfl) ?_))))))))))))))
  refine fZ _ rfl rfl (fun hc=>aX Tryz.underlying49 tk40 (aa rfl hc) ((.of (aF 1 rfl))) (aa rfl hc) (aJ hx) rfl rfl) (fun _=>⟨(0,0)⟩) (fun ⟨b4_9,o4_9⟩=>(aG rfl rfl (fun hc=>qFA (off:=7) (aa rfl hc)) (aG rfl rfl (fun hc=>dW (o:=7) tk3 (aa rfl hc) (aF 0 rfl) hc rfl) (aG rfl rfl (fun hc=>dy (aa rfl hc) rfl) (aU rfl (cm rfl rfl (fun h=>gf rfl h)) (aNn ?_))))))
  refine ah _ rfl (fun h2 => ?_) (fun h2 => ?_)
  ·skip
   refine aSR (aA rfl (aNn (aj (bH (aN (aN (bH (aN (FZ1 [] Tryz.results15 rfl ?_)))))))))
   have hno:fW ims.l=false:=by
     unfold fW
     rw [List.all_eq_false]
     exact ⟨x,List.mem_of_getElem? hx,by rw [h2];decide⟩
   rw [hno];rfl
  ·skip
   refine ai (bo (an (ae (aM rfl (aU rfl (aO rfl rfl (by omega)) (aA rfl (aNn ?_)))))))
   refine ⟨[0,1,5],[0],[],rfl,?_⟩
   refine ⟨k+1,⟨⟨by omega,by rw [hsn,hf,h2];rfl⟩,rfl⟩,by omega⟩
 ·skip
  have hf2:fW ims.l=true:=by rw [List.take_of_length_le (by simp at h1;omega)] at hf;exact hf
  refine aS (aV (aV (ba (an (aSR (aM rfl (aU rfl (aY Tryz.underlying58 rfl) (aU rfl (dq rfl rfl) (aM rfl (aG rfl rfl (fun hc=>az rfl) (aG rfl rfl (fun hc=>aY Tryz.underlying49 (aa rfl hc)) (aG rfl rfl (fun hc=>dq (aa rfl hc) rfl) (aU rfl (aQ rfl rfl (fun h=>gt rfl h)) (aA rfl (aNn (aj ?_))))))))))))))))
  refine FZ1 [] Tryz.results15 rfl ?_
  rw [hf2];simp
theorem ady{ps:List Per} : Ent ps (dU ByteArray.empty):=fun _ _ _=>(by decide:ByteArray.empty.size≤maxLen)
theorem adJ{α:Type}{row:α→List D}{ps:List Per} : Ent ps (ShF row (default:Sl α)):=fun _ _ _=>ea.e none 0 (Nat.zero_le _)
theorem adg{α:Type}{f:α→Per}{ps:List Per} : Ent ps (b6 f []):=fun _ _ _ x hx=>by cases hx
def DoR(ims:List ak)(a:y0)(s:bk)(M:Mem)(x:bk × Mem)(e:Int):Prop :=
 (a.do_ % 7=0∧∃ br,(0≤a.n→fU (eB ims a.i) br)∧uh s M a.n (eB ims a.i) br x e) ∨
 (a.do_ % 7=1∧rT s M a.n x e) ∨
 (a.do_ % 7=2∧∃ br s',((s.mods a.n).isSome=true→fU (eB ims a.i) br)∧xa s a.n (eB ims a.i) br s' e∧x=(s',M)) ∨
 (a.do_ % 7=3∧e=0∧∃ ds,dw s.at_ ds∧ds.Pairwise jK∧x=goR s M a.n ds) ∨
 (a.do_ % 7=4∧e=0∧∃ ds,dw s.at_ ds∧ds.Pairwise jK∧x=mz s M a.n ds) ∨
 (a.do_ % 7=5∧x=(s,(mapM M ⟨dD M a.size,a.size,3,0,0⟩).1)∧e=(mapM M ⟨dD M a.size,a.size,3,0,0⟩).2) ∨
 (a.do_ % 7=6∧(((s.at_ (a.n,a.m)).isSome=true∧x=(s,(gL M ((s.at_ (a.n,a.m)).getD 0) 1 a.size).1)∧e=(gL M ((s.at_ (a.n,a.m)).getD 0) 1 a.size).2)∨((s.at_ (a.n,a.m)).isSome=false∧x=(s,M)∧e=0)))
structure ac7 (s:bk) (A B C:Nat):Prop where
 fit:∀ k im,s.mods k=some im→gN im
 fa:e7 s.at_ A
 fm:e7 s.mods B
 ft:e7 s.thr C
 at_:∀ k a,s.at_ k=some a→I64 a
 few:A+B+C≤1000000
end Go.Proofs.YtfkcmbonmpcbfaaGreat

namespace Go.Proofs.YtfkcmbonmpcbfaaGreat
open Go.RowKit Go.Lp Go.Sy Go.Lv Go.Sort
def ars(M:Mem):List Ar:=M.map (·.1)
theorem wg(M:Mem)(t:Int)(b:List UInt8):ars (oW M t b)=ars M:=by
 unfold ars oW
 rw [List.map_map]
 refine List.map_congr_left fun x _ => ?_
 simp only [Function.comp_apply]
 split<;>rfl
theorem jq(M:Mem)(t:Int)(b:List UInt8):ars (df M t b).1=ars M:=by
 unfold df
 split
 · rfl
 · split
   · exact wg _ _ _
   · rfl
theorem xc(M:Mem)(t z n:Int):ars (gL M t z n).1=ars M:=by
 unfold gL
 split
 · rfl
 · split
   · split
     · rfl
     · exact wg _ _ _
   · rfl
theorem og{M:Mem}{a:Ar}(h:(mapM M a).2≠0):(mapM M a).1=M:=by
 unfold mapM at h ⊢
 split
 · rfl
 · split
   · rfl
   · split
     · rfl
     · rename_i h1 h2 h3
       rw [if_neg h1,if_neg h2,if_neg h3] at h
       exact absurd rfl h
theorem iC {M:Mem} {a:Ar} (h:(mapM M a).2=0) (x:Cell):x∈(mapM M a).1↔x=(a,List.replicate a.size.toNat 0)∨x∈M:=by
 unfold mapM at h ⊢
 split
 · rename_i h1;rw [if_pos h1] at h;simp at h
 · split
   · rename_i h1 h2;rw [if_neg h1,if_pos h2] at h;simp at h
   · split
     · rename_i h1 h2 h3;rw [if_neg h1,if_neg h2,if_pos h3] at h;simp at h
     · dsimp only
       simp only [List.mem_append,List.mem_filter,List.mem_singleton,Bool.not_eq_true',decide_eq_true_eq,decide_eq_false_iff_not]
       constructor
       · rintro ((⟨h,_⟩ | h) | ⟨h,_⟩)
         · exact .inr h
         · exact .inl h
         · exact .inr h
       · rintro (h | h)
         · exact .inl (.inr h)
         · by_cases hc:x.1.at_<a.at_
           · exact .inl (.inl ⟨h,hc⟩)
           · exact .inr ⟨h,hc⟩
theorem yg{M:Mem}{a:Ar}(h:(mapM M a).2=0):dK a=true:=by
 cases hr:dK a with
 | true=>rfl
 | false=>unfold mapM at h;rw [if_pos hr] at h;simp at h
theorem fG{M:Mem}{r:Ar} : r∈ars M↔∃ x∈M,x.1=r:=List.mem_map
theorem jo{M:Mem}{a:Ar}(h:(mapM M a).2=0)(r:Ar):r∈ars (mapM M a).1↔r=a∨r∈ars M:=by
 rw [fG,fG]
 constructor
 · rintro ⟨x,hx,rfl⟩
   rcases (iC h x).1 hx with rfl | hx
   · exact .inl rfl
   · exact .inr ⟨x,hx,rfl⟩
 · rintro (rfl | ⟨x,hx,rfl⟩)
   · exact ⟨_,(iC h _).2 (.inl rfl),rfl⟩
   · exact ⟨x,(iC h x).2 (.inr hx),rfl⟩
theorem lj(M:Mem)(t:Int)(r:Ar):r∈ars (eS M t).1↔r∈ars M∧r.at_≠t:=by
 unfold eS
 split
 · rw [fG,fG]
   constructor
   · rintro ⟨x,hx,rfl⟩
     have:=List.mem_filter.1 hx
     exact ⟨⟨x,this.1,rfl⟩,by simpa using this.2⟩
   · rintro ⟨⟨x,hx,rfl⟩,h⟩
     exact ⟨x,List.mem_filter.2 ⟨hx,by simpa using h⟩,rfl⟩
 · rename_i h
   refine ⟨fun hr=>⟨hr,fun e=>h ?_⟩,fun hr=>hr.1⟩
   obtain ⟨x,hx,rfl⟩:=fG.1 hr
   exact List.any_eq_true.2 ⟨x,hx,by simpa using e⟩
theorem aci{M:Mem}(h:cL M){x y:Cell}(hx:x∈M)(hy:y∈M)(e:x.1.at_=y.1.at_):x=y:=by
 obtain ⟨i,hi⟩:=List.mem_iff_getElem?.1 hx
 obtain ⟨j,hj⟩:=List.mem_iff_getElem?.1 hy
 have h1:=h.inv.ok hi
 have h2:=h.inv.ok hj
 rcases Nat.lt_trichotomy i j with hlt | rfl | hlt
 · have:=h.inv.lt hi hj hlt;omega
 · rw [hi] at hj;exact Option.some.inj hj
 · have:=h.inv.lt hj hi hlt;omega
theorem ze{M:Mem}(h:cL M){r q:Ar}(hr:r∈ars M)(hq:q∈ars M)(e:r.at_=q.at_):r=q:=by
 obtain ⟨x,hx,rfl⟩:=fG.1 hr
 obtain ⟨y,hy,rfl⟩:=fG.1 hq
 rw [aci h hx hy e]
structure qG (s:bk) (M:Mem):Prop where
 ok:cL M
 own:∀ t m a,s.at_ (t,m)=some a→∃ im,s.mods m=some im∧(s.thr t).isSome=true∧0<im.block∧(⟨a,im.block,4,t,m⟩:Ar)∈ars M
 all:∀ r∈ars M,r.kind=4→s.at_ (r.owner,r.mod)=some r.at_
 rt:∀ m im,s.mods m=some im→0≤im.block∧((bS im.tls).length:Int)≤im.block
theorem qF{M:Mem}{a:Ar}(h:(mapM M a).2=0){b:List UInt8}(hb:(b.length:Int)≤a.size):(df (mapM M a).1 a.at_ b).2=0:=by
 have hr:=b8.1 (yg h)
 unfold df
 split
 · rfl
 · have:(dP (mapM M a).1 a.at_ b.length).isSome=true:=by
     unfold dP
     rw [List.find?_isSome]
     refine ⟨_,(iC h _).2 (.inl rfl),?_⟩
     unfold holds
     simp only [Bool.and_eq_true,decide_eq_true_eq]
     omega
   obtain ⟨x,hx⟩:=Option.isSome_iff_exists.1 this
   rw [hx]
theorem yj{s:bk}{M:Mem}{t m:Int}{im:ak}(hI:qG s M)(hm:s.mods m=some im)(ht:(s.thr t).isSome=true)(hn:s.at_ (t,m)=none) :
   (im.block=0∧mkT s M t m=(s,M,true))∨(0<im.block∧mkT s M t m=(s,M,false)) ∨
   (0<im.block∧∃ a M',mkT s M t m=({ s with at_:=aZ s.at_ (t,m) a },M',true)∧qG { s with at_:=aZ s.at_ (t,m) a } M'∧∀ r,r∈ars M'↔r=⟨a,im.block,4,t,m⟩∨r∈ars M):=by
 have hg:(s.mods m).getD default=im:=by rw [hm];rfl
 obtain ⟨h0,hl⟩:=hI.rt m im hm
 unfold mkT
 dsimp only
 rw [hg]
 by_cases hb:im.block=0
 · exact .inl ⟨hb,by rw [if_pos hb]⟩
 · rw [if_neg hb]
   have hb0:0<im.block:=by omega
   by_cases he:(mapM M ⟨dD M im.block,im.block,4,t,m⟩).2=0
   · rw [if_neg (by rw [he];simp)]
     have hw:=qF he hl
     refine .inr (.inr ⟨hb0,dD M im.block,_,by rw [hw];rfl,?_,fun r=>by rw [jq];exact jo he r⟩)
     refine ⟨(hI.ok.map _).write _ _,fun t' m' a h => ?_,fun r hr hk => ?_,hI.rt⟩
     · dsimp only at h ⊢
       rw [jq]
       unfold aZ at h
       split at h
       · rename_i e
         simp only [Prod.mk.injEq] at e
         obtain ⟨rfl,rfl⟩:=e
         cases h
         exact ⟨im,hm,ht,hb0,(jo he _).2 (.inl rfl)⟩
       · obtain ⟨im',h1,h2,h3,h4⟩:=hI.own t' m' a h
         exact ⟨im',h1,h2,h3,(jo he _).2 (.inr h4)⟩
     · rw [jq] at hr
       dsimp only
       unfold aZ
       rcases (jo he r).1 hr with rfl | hr
       · rw [if_pos rfl]
       · have:=hI.all r hr hk
         rw [if_neg (fun e=>by rw [e,hn] at this;cases this)]
         exact this
   · rw [if_pos he,og he]
     exact .inr (.inl ⟨hb0,rfl⟩)
def mkG(g:Int→Int × Int)(x:bk × Mem)(k:Int):bk × Mem × Bool:=mkT x.1 x.2 (g k).1 (g k).2
structure abX (g:Int→Int × Int) (ks:List Int) (x y:bk × Mem) (b:Bool):Prop where
 inv:qG y.1 y.2
 mods:y.1.mods=x.1.mods
 thr:y.1.thr=x.1.thr
 at_:∀ p,(∀ k∈ks,p≠g k)→y.1.at_ p=x.1.at_ p
 ar:∀ r:Ar,(r.kind≠4∨∀ k∈ks,(r.owner,r.mod)≠g k)→(r∈ars y.2↔r∈ars x.2)
 all:b=true→∀ k∈ks,∀ im,x.1.mods (g k).2=some im→0<im.block→(y.1.at_ (g k)).isSome=true
theorem iD{g:Int→Int × Int}(hg:∀ a b,g a=g b→a=b):∀ (ks:List Int) (x:bk × Mem),qG x.1 x.2→ks.Nodup→(∀ k∈ks,(x.1.mods (g k).2).isSome=true)→(∀ k∈ks,(x.1.thr (g k).1).isSome=true)→(∀ k∈ks,x.1.at_ (g k)=none) →
   abX g ks x (cQ (mkG g) x ks).1 (cQ (mkG g) x ks).2
 | [],x,hI,_,_,_,_=>⟨hI,rfl,rfl,fun _ _=>rfl,fun _ _=>Iff.rfl,fun _ k hk=>by cases hk⟩
 | k :: ks,x,hI,hnd,hm,ht,hn=>by
   obtain ⟨im,him⟩:=Option.isSome_iff_exists.1 (hm k List.mem_cons_self)
   have hnk:=(List.nodup_cons.1 hnd).1
   rcases yj hI him (ht k List.mem_cons_self) (hn k List.mem_cons_self) with ⟨hb,he⟩ | ⟨hb,he⟩ | ⟨hb,a,M',he,hI',har⟩
   · have e:cQ (mkG g) x (k::ks)=cQ (mkG g) x ks:=by
       rw [fx (f:=mkG g) (show (mkG g x k).2.2=true by unfold mkG;rw [he])]
       unfold mkG;rw [he]
     rw [e]
     have ih:=iD hg ks x hI (List.nodup_cons.1 hnd).2 (fun j hj=>hm j (List.mem_cons_of_mem _ hj)) (fun j hj=>ht j (List.mem_cons_of_mem _ hj)) (fun j hj=>hn j (List.mem_cons_of_mem _ hj))
     refine ⟨ih.inv,ih.mods,ih.thr,fun p hp=>ih.at_ p fun j hj=>hp j (List.mem_cons_of_mem _ hj),fun r hr=>ih.ar r (hr.imp id fun h j hj=>h j (List.mem_cons_of_mem _ hj)),fun hbt j hj im' him' hb' => ?_⟩
     rcases List.mem_cons.1 hj with rfl | hj
     · rw [him] at him';cases him';omega
     · exact ih.all hbt j hj im' him' hb'
   · have e:cQ (mkG g) x (k::ks)=(x,false):=by
       rw [oh (f:=mkG g) (show (mkG g x k).2.2=false by unfold mkG;rw [he])]
       unfold mkG;rw [he]
     rw [e]
     exact ⟨hI,rfl,rfl,fun _ _=>rfl,fun _ _=>Iff.rfl,fun h=>by cases h⟩
   · have e:cQ (mkG g) x (k::ks)=cQ (mkG g) ({ x.1 with at_:=aZ x.1.at_ (g k) a },M') ks:=by
       rw [fx (f:=mkG g) (show (mkG g x k).2.2=true by unfold mkG;rw [he])]
       unfold mkG;rw [he]
     rw [e]
     have hne:∀ j∈ks,g j≠g k:=fun j hj h=>hnk (hg _ _ h ▸ hj)
     have ih:=iD hg ks ({ x.1 with at_:=aZ x.1.at_ (g k) a },M') hI' (List.nodup_cons.1 hnd).2 (fun j hj=>hm j (List.mem_cons_of_mem _ hj)) (fun j hj=>ht j (List.mem_cons_of_mem _ hj)) (fun j hj=>by
       show aZ x.1.at_ (g k) a (g j)=none
       unfold aZ;rw [if_neg (hne j hj)];exact hn j (List.mem_cons_of_mem _ hj))
     refine ⟨ih.inv,ih.mods,ih.thr,fun p hp => ?_,fun r hr => ?_,fun hbt j hj im' him' hb' => ?_⟩
     · rw [ih.at_ p fun j hj=>hp j (List.mem_cons_of_mem _ hj)]
       show aZ x.1.at_ (g k) a p=_
       unfold aZ;rw [if_neg (hp k List.mem_cons_self)]
     · rw [ih.ar r (hr.imp id fun h j hj=>h j (List.mem_cons_of_mem _ hj))]
       refine (har r).trans ⟨fun h=>h.elim (fun h => ?_) id,.inr⟩
       subst h
       rcases hr with hr | hr
       · exact absurd rfl hr
       · exact absurd rfl (hr k List.mem_cons_self)
     · rcases List.mem_cons.1 hj with rfl | hj
       · rw [ih.at_ (g j) fun i hi=>(hne i hi).symm]
         show (aZ x.1.at_ (g j) a (g j)).isSome=true
         unfold aZ;rw [if_pos rfl];rfl
       · exact ih.all hbt j hj im' him' hb'
structure AtI (s:bk) (M:Mem):Prop where
 ok:cL M
 own:∀ p a,s.at_ p=some a→∃ z,(⟨a,z,4,p.1,p.2⟩:Ar)∈ars M
 all:∀ r∈ars M,r.kind=4→s.at_ (r.owner,r.mod)=some r.at_
theorem qG.toAt{s:bk}{M:Mem}(h:qG s M):AtI s M:=⟨h.ok,fun p a hp=>let ⟨im,_,_,_,h4⟩:=h.own p.1 p.2 a hp; ⟨im.block,h4⟩,h.all⟩
theorem xU{c:Int × Int→Bool}{x:bk × Mem}{k:Int × Int}{a:Int}(hI:AtI x.1 x.2)(hc:c k=true)(ha:x.1.at_ k=some a) :
   iZ c x k=({ x.1 with at_:=cV x.1.at_ k },(eS x.2 a).1)∧AtI { x.1 with at_:=cV x.1.at_ k } (eS x.2 a).1∧∀ r,r∈ars (eS x.2 a).1↔r∈ars x.2∧¬ (r.kind=4∧(r.owner,r.mod)=k):=by
 obtain ⟨z,hz⟩:=hI.own k a ha
 have key:∀ r,r∈ars x.2→(r.at_=a↔r.kind=4∧(r.owner,r.mod)=k):=fun r hr=>by
   constructor
   · intro e
     have:=ze hI.ok hr hz e
     subst this
     exact ⟨rfl,rfl⟩
   · rintro ⟨h1,h2⟩
     have:=hI.all r hr h1
     rw [h2,ha] at this
     exact (Option.some.inj this).symm
 refine ⟨by unfold iZ;rw [if_pos hc,ha];rfl,⟨hI.ok.unmap _,fun p b hp => ?_,fun r hr hk => ?_⟩,fun r => ?_⟩
 · dsimp only at hp
   unfold cV at hp
   split at hp
   · cases hp
   · rename_i hpk
     obtain ⟨y,hy⟩:=hI.own p b hp
     exact ⟨y,(lj _ _ _).2 ⟨hy,fun e=>hpk ((key _ hy).1 e).2⟩⟩
 · obtain ⟨h1,h2⟩:=(lj _ _ _).1 hr
   dsimp only
   unfold cV
   rw [if_neg fun e=>h2 ((key r h1).2 ⟨hk,e⟩)]
   exact hI.all r h1 hk
 · rw [lj]
   exact and_congr_right fun hr=>not_congr (key r hr)
structure ac5 (c:Int × Int→Bool) (ds:List (Int × Int)) (x y:bk × Mem):Prop where
 inv:AtI y.1 y.2
 mods:y.1.mods=x.1.mods
 thr:y.1.thr=x.1.thr
 at_:∀ p,y.1.at_ p=if p∈ds∧c p=true then none else x.1.at_ p
 ar:∀ r,r∈ars y.2↔r∈ars x.2∧¬ (r.kind=4∧(r.owner,r.mod)∈ds∧c (r.owner,r.mod)=true)
theorem gj{c:Int × Int→Bool} : ∀ (ds:List (Int × Int)) (x:bk × Mem),AtI x.1 x.2→ds.Nodup→(∀ k∈ds,(x.1.at_ k).isSome=true)→ac5 c ds x (ej c x ds)
 | [],x,hI,_,_=>⟨hI,rfl,rfl,fun p=>by rw [if_neg (fun h=>by cases h.1)];rfl,fun r=>⟨fun h=>⟨h,fun e=>by cases e.2.1⟩,fun h=>h.1⟩⟩
 | k :: ds,x,hI,hnd,hs=>by
   have hnk:=(List.nodup_cons.1 hnd).1
   have e:ej c x (k::ds)=ej c (iZ c x k) ds:=rfl
   rw [e]
   by_cases hc:c k=true
   · obtain ⟨a,ha⟩:=Option.isSome_iff_exists.1 (hs k List.mem_cons_self)
     obtain ⟨e1,hI',har⟩:=xU hI hc ha
     rw [e1]
     have ih:=gj (c:=c) ds ({ x.1 with at_:=cV x.1.at_ k },(eS x.2 a).1) hI' (List.nodup_cons.1 hnd).2 (fun j hj=>by
       show (cV x.1.at_ k j).isSome=true
       unfold cV;rw [if_neg (show ¬ j=k from fun e=>hnk (e ▸ hj))];exact hs j (List.mem_cons_of_mem _ hj))
     refine ⟨ih.inv,ih.mods,ih.thr,fun p => ?_,fun r => ?_⟩
     · rw [ih.at_ p]
       show (if p∈ds∧c p=true then none else cV x.1.at_ k p)=_
       unfold cV
       by_cases h1:p∈ds∧c p=true
       · rw [if_pos h1,if_pos ⟨List.mem_cons_of_mem _ h1.1,h1.2⟩]
       · rw [if_neg h1]
         by_cases h2:p=k
         · subst h2;rw [if_pos rfl,if_pos ⟨List.mem_cons_self,hc⟩]
         · rw [if_neg h2,if_neg fun h=>h1 ⟨(List.mem_cons.1 h.1).resolve_left h2,h.2⟩]
     · rw [ih.ar r,har r]
       constructor
       · rintro ⟨⟨h1,h2⟩,h3⟩
         refine ⟨h1,fun ⟨h4,h5,h6⟩ => ?_⟩
         rcases List.mem_cons.1 h5 with h5 | h5
         · exact h2 ⟨h4,h5⟩
         · exact h3 ⟨h4,h5,h6⟩
       · rintro ⟨h1,h2⟩
         exact ⟨⟨h1,fun ⟨h3,h4⟩=>h2 ⟨h3,h4 ▸ List.mem_cons_self,h4 ▸ hc⟩⟩,fun ⟨h3,h4,h5⟩=>h2 ⟨h3,List.mem_cons_of_mem _ h4,h5⟩⟩
   · have e1:iZ c x k=x:=by unfold iZ;rw [if_neg hc]
     rw [e1]
     have ih:=gj (c:=c) ds x hI (List.nodup_cons.1 hnd).2 (fun j hj=>hs j (List.mem_cons_of_mem _ hj))
     have hiff:∀ p,(p∈k::ds∧c p=true)↔(p∈ds∧c p=true):=fun p=>⟨fun ⟨h1,h2⟩=>⟨(List.mem_cons.1 h1).resolve_left (fun e=>hc (e ▸ h2)),h2⟩,fun ⟨h1,h2⟩=>⟨List.mem_cons_of_mem _ h1,h2⟩⟩
     refine ⟨ih.inv,ih.mods,ih.thr,fun p => ?_,fun r => ?_⟩
     · rw [ih.at_ p]
       by_cases h1:p∈ds∧c p=true
       · rw [if_pos h1,if_pos ((hiff p).2 h1)]
       · rw [if_neg h1,if_neg fun h=>h1 ((hiff p).1 h)]
     · rw [ih.ar r]
       exact and_congr_right fun _=>not_congr (and_congr_right fun _=>(hiff _).symm)
end Go.Proofs.YtfkcmbonmpcbfaaGreat

