/- Parts of the proof, in build order. No condition. -/
import Derived.Test.YtgkbbdgklpabpaaGreatDoorSn24
import Derived.Test.YtgkbbdgklpabpaaGreatDoorSn07
import Derived.Test.YtgkbbdgklpabpaaGreatDoorSn05
import Derived.Test.YtgkbbdgklpabpaaGreatDoorSn09
import Derived.Test.YtgkbbdgklpabpaaGreatDoorSn22
import Derived.Test.YtgkbbdgklpabpaaGreatDoorSn20
set_option linter.unusedSimpArgs false
set_option linter.unusedVariables false
set_option maxHeartbeats 20000000
set_option maxRecDepth 20000
namespace Go.Proofs.YtgkbbdgklpabpaaGreatDoor
open Go.RowKit Go.Lp Go.Sy
open Go.Proofs.Tryz
attribute [local irreducible] aL aB awp aC fwp Quiet
def aad:ByteArray:=⟨#[22,0,0,0,0,0,0,0]⟩
abbrev ab6(v:Option Addr):aQ:=⟨⟨#[111]⟩,⟨#[102]⟩,0,8,24,aad++aad++aad,⟨v,2,[⟨8,6,⟨0,1,0,0⟩,0⟩,⟨16,6,⟨0,1,0,0⟩,0⟩]⟩,bQ,bQ,bQ,bQ,bQ⟩
abbrev ab7(v:Option Addr):aQ:=⟨⟨#[111]⟩,⟨#[103]⟩,0,8,8,aad,⟨v,1,[⟨0,6,⟨0,0,8,0⟩,0⟩]⟩,bQ,bQ,bQ,bQ,bQ⟩
abbrev gg(va vb vc:Option Addr):aI:=⟨⟨#[117]⟩,false,⟨vc,2,[ab6 va,ab7 vb]⟩,bQ,bQ,bQ,bQ,bQ,⟨0,0,0,0⟩,bQ,bQ⟩
abbrev iE(vd:Option Addr):aS:=⟨⟨vd,2,[0,600]⟩,bQ,bQ,768,768,768,0⟩
theorem ru:Con Tryz.prog 12 [] [] [] fun r ps hp=>∃ va vb vc vd,(r=.tuple #[(gg va vb vc).val,(iE vd).val]∧hp=[])∧ps=[cnd true (ShF bd (iE vd).nodes),cnd true (ShF aQ.row (gg va vb vc).nodes),cnd true (ShF dR.row (ab7 vb).refs),cnd true (ShF dR.row (ab6 va).refs)]:=by
 refine Con.enter Tryz.func12 rfl (by simp [Tryz.ntmps12]) ?_
 show awp _ _ _ _ ⟨[],_,_⟩
 refine aSR (LT rfl (aV (zs:=[.string .empty,.bool false,.slice none 0 0,.slice none 0 0,.slice none 0 0,.slice none 0 0,.slice none 0 0,.slice none 0 0,.int .i64 0,.int .i64 0,.int .i64 0,.int .i64 0,.slice none 0 0,.slice none 0 0]) (by kernel_rfl) rfl (fun b0_0=>(aHN ?_))))
 refine LT rfl (aV (zs:=[.slice none 0 0,.slice none 0 0,.slice none 0 0,.int .i64 0,.int .i64 0,.int .i64 0,.int .i64 0]) (by kernel_rfl) rfl (fun b0_1=>(aHN ?_)))
 refine aNn (aSR (aA rfl (aNn (aSR (aM rfl (aM rfl (aU rfl (yZ rfl rfl (Nat.le_of_ble_eq_true rfl)) (aM rfl (aU rfl (yZ rfl rfl (Nat.le_of_ble_eq_true rfl)) (aU rfl (bO (l:=[(1,.const (.int .i64 1))]) (zs:=[.int .i64 0,.int .i64 0,.int .i64 0,.int .i64 0]) (pl:=[(0,1),(1,1),(2,1),(3,1)]) (by kernel_rfl) (by kernel_rfl) (by kernel_rfl) rfl rfl rfl) (aU rfl (bO (l:=[(0,.const (.int .i64 8)),(1,.const (.int .i64 6)),(2,.tmp 9)]) (zs:=[.int .i64 0,.int .i64 0,.int .i64 0,.int .i64 0,.int .i64 0,.int .i64 0,.int .i64 0]) (pl:=[(0,1),(1,1),(2,4),(6,1)]) (by kernel_rfl) (by kernel_rfl) (by kernel_rfl) rfl rfl rfl) (aU rfl (bO (l:=[(1,.const (.int .i64 1))]) (zs:=[.int .i64 0,.int .i64 0,.int .i64 0,.int .i64 0]) (pl:=[(0,1),(1,1),(2,1),(3,1)]) (by kernel_rfl) (by kernel_rfl) (by kernel_rfl) rfl rfl rfl) (aU rfl (bO (l:=[(0,.const (.int .i64 16)),(1,.const (.int .i64 6)),(2,.tmp 11)]) (zs:=[.int .i64 0,.int .i64 0,.int .i64 0,.int .i64 0,.int .i64 0,.int .i64 0,.int .i64 0]) (pl:=[(0,1),(1,1),(2,4),(6,1)]) (by kernel_rfl) (by kernel_rfl) (by kernel_rfl) rfl rfl rfl) (ey (zs:=[.int .i64 0,.int .i64 0,.int .i64 0,.int .i64 0,.int .i64 0,.int .i64 0,.int .i64 0]) (l:=[(0,.tmp 10),(1,.tmp 12)]) el45 (by kernel_rfl) (by decide) (by decide) (by decide) rfl _ rfl (fun hc=>rfl) rfl (.more rfl (.v rfl (.v rfl (.v rfl (.v rfl (.v rfl (.v rfl (.v rfl .nil))))))) (.more rfl (.v rfl (.v rfl (.v rfl (.v rfl (.v rfl (.v rfl (.v rfl .nil))))))) .nil)) rfl rfl (fun v2_9 => ?_)))))))))))))))
 refine aU rfl (bO (l:=[(0,.const (.string ⟨#[111]⟩)),(1,.const (.string ⟨#[102]⟩)),(3,.const (.int .i64 8)),(4,.const (.int .i64 24)),(5,.tmp 8),(6,.tmp 13)]) (zs:=[.string .empty,.string .empty,.int .i64 0,.int .i64 0,.int .i64 0,.string .empty,.slice none 0 0,.slice none 0 0,.slice none 0 0,.slice none 0 0,.slice none 0 0,.slice none 0 0]) (pl:=[(0,1),(1,1),(2,1),(3,1),(4,1),(5,1),(6,1),(7,1),(8,1),(9,1),(10,1),(11,1)]) (by kernel_rfl) (by kernel_rfl) (by kernel_rfl) rfl rfl rfl) (aM rfl (aU rfl (bO (l:=[(2,.const (.int .i64 8))]) (zs:=[.int .i64 0,.int .i64 0,.int .i64 0,.int .i64 0]) (pl:=[(0,1),(1,1),(2,1),(3,1)]) (by kernel_rfl) (by kernel_rfl) (by kernel_rfl) rfl rfl rfl) (aU rfl (bO (l:=[(1,.const (.int .i64 6)),(2,.tmp 16)]) (zs:=[.int .i64 0,.int .i64 0,.int .i64 0,.int .i64 0,.int .i64 0,.int .i64 0,.int .i64 0]) (pl:=[(0,1),(1,1),(2,4),(6,1)]) (by kernel_rfl) (by kernel_rfl) (by kernel_rfl) rfl rfl rfl) (ey (zs:=[.int .i64 0,.int .i64 0,.int .i64 0,.int .i64 0,.int .i64 0,.int .i64 0,.int .i64 0]) (l:=[(0,.tmp 17)]) el45 (by kernel_rfl) (by decide) (by decide) (by decide) rfl _ rfl (fun hc=>rfl) rfl (.more rfl (.v rfl (.v rfl (.v rfl (.v rfl (.v rfl (.v rfl (.v rfl .nil))))))) .nil) rfl rfl (fun v2_14=>(aU rfl (bO (l:=[(0,.const (.string ⟨#[111]⟩)),(1,.const (.string ⟨#[103]⟩)),(3,.const (.int .i64 8)),(4,.const (.int .i64 8)),(5,.tmp 15),(6,.tmp 18)]) (zs:=[.string .empty,.string .empty,.int .i64 0,.int .i64 0,.int .i64 0,.string .empty,.slice none 0 0,.slice none 0 0,.slice none 0 0,.slice none 0 0,.slice none 0 0,.slice none 0 0]) (pl:=[(0,1),(1,1),(2,1),(3,1),(4,1),(5,1),(6,1),(7,1),(8,1),(9,1),(10,1),(11,1)]) (by kernel_rfl) (by kernel_rfl) (by kernel_rfl) rfl rfl rfl) (ey (zs:=[.string .empty,.string .empty,.int .i64 0,.int .i64 0,.int .i64 0,.string .empty,.slice none 0 0,.slice none 0 0,.slice none 0 0,.slice none 0 0,.slice none 0 0,.slice none 0 0]) (l:=[(0,.tmp 14),(1,.tmp 19)]) el22 (by kernel_rfl) (by decide) (by decide) (by decide) rfl _ rfl (fun hc=>rfl) rfl (.more rfl (.v rfl (.v rfl (.v rfl (.v rfl (.v rfl (.v rfl (.v rfl (.v rfl (.v rfl (.v rfl (.v rfl (.v rfl .nil)))))))))))) (.more rfl (.v rfl (.v rfl (.v rfl (.v rfl (.v rfl (.v rfl (.v rfl (.v rfl (.v rfl (.v rfl (.v rfl (.v rfl .nil)))))))))))) .nil)) rfl rfl (fun v2_16=>(aU rfl (bO (l:=[(0,.const (.string ⟨#[117]⟩)),(2,.tmp 20)]) (zs:=[.string .empty,.bool false,.slice none 0 0,.slice none 0 0,.slice none 0 0,.slice none 0 0,.slice none 0 0,.slice none 0 0,.int .i64 0,.int .i64 0,.int .i64 0,.int .i64 0,.slice none 0 0,.slice none 0 0]) (pl:=[(0,1),(1,1),(2,1),(3,1),(4,1),(5,1),(6,1),(7,1),(8,4),(12,1),(13,1)]) (by kernel_rfl) (by kernel_rfl) (by kernel_rfl) rfl rfl rfl) (LT rfl (aV (zs:=[.string .empty,.bool false,.slice none 0 0,.slice none 0 0,.slice none 0 0,.slice none 0 0,.slice none 0 0,.slice none 0 0,.int .i64 0,.int .i64 0,.int .i64 0,.int .i64 0,.slice none 0 0,.slice none 0 0]) (by kernel_rfl) rfl (fun b2_18=>(aHN ?_)))))))))))))
 refine aN rfl (bb 2 tk32 rfl rfl rfl rfl (aHK ?_))
 refine aNn (aSR (UL 2 tk32 rfl rfl rfl rfl (ey (zs:=[.int .i64 0]) (l:=[(0,.const (.int .i64 0)),(1,.const (.int .i64 600))]) el33 (by kernel_rfl) (by decide) (by decide) (by decide) rfl _ rfl (fun hc=>rfl) rfl (.more rfl (.v rfl .nil) (.more rfl (.v rfl .nil) .nil)) rfl rfl (fun v3_1=>(aU rfl (bO (l:=[(0,.tmp 23),(3,.const (.int .i64 768)),(4,.const (.int .i64 768)),(5,.const (.int .i64 768))]) (zs:=[.slice none 0 0,.slice none 0 0,.slice none 0 0,.int .i64 0,.int .i64 0,.int .i64 0,.int .i64 0]) (pl:=[(0,1),(1,1),(2,1),(3,1),(4,1),(5,1),(6,1)]) (by kernel_rfl) (by kernel_rfl) (by kernel_rfl) rfl rfl rfl) (aN rfl (bb 0 tk32 rfl rfl rfl rfl (aHK ?_))))))))
 refine aN rfl (bb 1 tk36 rfl rfl rfl rfl (aHK ?_))
 refine aNn (ae ?_)
 refine gm [3,2,1,0] [] rfl Tryz.results12 (dq 0 tk32 rfl rfl rfl) (dq 1 tk36 rfl rfl rfl) ?_ (.inr rfl)
 exact ⟨v2_9,v2_14,v2_16,v3_1,⟨rfl,rfl⟩,rfl⟩
theorem abE{α:Type}{f:α→Per}{ps:List Per}{a b:α}(h1:Ent ps (f a))(h2:Ent ps (f b)):Ent ps (bu f [a,b]):=fun w S h c hc=>by
 simp only [List.mem_cons,List.not_mem_nil,or_false] at hc
 rcases hc with rfl | rfl
 · exact h1 w S h
 · exact h2 w S h
theorem yG{ps:List Per}{x:aQ}(h1:x.obj.size≤maxLen)(h2:x.sec.size≤maxLen)(h3:x.bytes.size≤maxLen)(h4:Ent ps (ShF dR.row x.refs))(h5:x.marks=bQ∧x.lines=bQ∧x.inlines=bQ∧x.vars=bQ∧x.depths=bQ):Ent ps x.ok:=by
 obtain ⟨a,b,c,d,e⟩:=h5
 unfold aQ.ok
 rw [a,b,c,d,e]
 exact .mk2 (rO h1) (.mk2 (rO h2) (.mk2 (rO h3) (.mk2 h4 (.mk2 dT (.mk2 gW (.mk2 dT (.mk2 gW (.mk2 dT (.mk2 gW (.mk2 dT (.mk2 gW dT)))))))))))
theorem tm:Con Tryz.prog 12 [] [] [] fun r ps hp=>hp=[]∧∃ va vb vc vd,r=.tuple #[(gg va vb vc).val,(iE vd).val]∧ps=[(gg va vb vc).ok,(iE vd).ok] :=
 Con.conv ru fun v ps' hp' ⟨va,vb,vc,vd,⟨h1,h2⟩,h3⟩=>by
   subst h1 h2 h3
   refine ⟨_,_,StE.ents (ps':=[(gg va vb vc).ok,(iE vd).ok]) fun p hp => ?_,rfl,va,vb,vc,vd,rfl,rfl⟩
   simp only [List.mem_cons,List.not_mem_nil,or_false] at hp
   rcases hp with rfl | rfl
   · exact .mk2 (rO (Nat.le_of_ble_eq_true rfl)) (.mk2 (.yes (.of (ax 1 rfl)) rfl) (.mk2 (abE (yG (Nat.le_of_ble_eq_true rfl) (Nat.le_of_ble_eq_true rfl) (Nat.le_of_ble_eq_true rfl) (.yes (.of (ax 3 rfl)) rfl) ⟨rfl,rfl,rfl,rfl,rfl⟩) (yG (Nat.le_of_ble_eq_true rfl) (Nat.le_of_ble_eq_true rfl) (Nat.le_of_ble_eq_true rfl) (.yes (.of (ax 2 rfl)) rfl) ⟨rfl,rfl,rfl,rfl,rfl⟩)) (.mk2 dT (.mk2 gW (.mk2 dT (.mk2 gW (.mk2 dT (.mk2 dT (.mk2 dT (.mk2 gW (.mk2 dT (.mk2 gW (.mk2 dT gW)))))))))))))
   · exact .mk2 (.yes (.of (ax 0 rfl)) rfl) (.mk2 dT dT)
abbrev ka(vd:Option Addr)(T:Sl bt):aS:=⟨⟨vd,2,[0,600]⟩,bQ,T,768,768,768,0⟩
abbrev abl:List bC:=[⟨8,⟨8,6,⟨0,1,0,0⟩,0⟩⟩,⟨16,⟨16,6,⟨0,1,0,0⟩,0⟩⟩,⟨600,⟨0,6,⟨0,0,8,0⟩,0⟩⟩]
theorem pW(va vb vc vd:Option Addr):bZ (gg va vb vc).nodes.l (iE vd).nodes.l=abl:=by kernel_rfl
theorem qU(va vb vc vd:Option Addr)(T:Sl bt):ra (gg va vb vc) (ka vd T) where
 len:=rfl
 few:=Nat.le_of_ble_eq_true rfl
 refs:=Nat.le_of_ble_eq_true rfl
 ln:=fun z hz=>by
   simp only [List.mem_cons,List.not_mem_nil,or_false] at hz
   unfold I64;omega
 size:=fun x hx=>by
   simp only [List.mem_cons,List.not_mem_nil,or_false] at hx
   rcases hx with rfl | rfl
   · show I64 24;unfold I64;omega
   · show I64 8;unfold I64;omega
 code:=by show I64 768;unfold I64;omega
 at_ := fun k x a hx ha r hr=>by
   match k with
   | 0 =>
     simp only [List.getElem?_cons_zero,Option.some.injEq] at hx ha
     subst hx ha
     simp only [List.mem_cons,List.not_mem_nil,or_false] at hr
     rcases hr with rfl | rfl<;>exact ⟨by decide,by decide⟩
   | 1 =>
     simp only [List.getElem?_cons_succ,List.getElem?_cons_zero,Option.some.injEq] at hx ha
     subst hx ha
     simp only [List.mem_cons,List.not_mem_nil,or_false] at hr
     rcases hr with rfl
     exact ⟨by decide,by decide⟩
   | k+2=>simp at hx
 call:=fun c hc=>by
   have hc':c∈abl:=by rw [← pW va vb vc vd];exact hc
   have hln:∀ z∈[(0:Int),600],-1099511627776≤z∧z≤1099511627776:=fun z hz=>by
     simp only [List.mem_cons,List.not_mem_nil,or_false] at hz
     omega
   simp only [List.mem_cons,List.not_mem_nil,or_false] at hc'
   rcases hc' with rfl | rfl | rfl
   · exact ⟨⟨.inl rfl,fun _=>⟨by decide,by show (1:Int)<2;decide⟩,⟨by decide,by decide⟩,⟨by decide,by decide⟩,⟨by decide,by decide⟩,hln⟩,by decide,by decide⟩
   · exact ⟨⟨.inl rfl,fun _=>⟨by decide,by show (1:Int)<2;decide⟩,⟨by decide,by decide⟩,⟨by decide,by decide⟩,⟨by decide,by decide⟩,hln⟩,by decide,by decide⟩
   · exact ⟨⟨.inl rfl,fun _=>⟨by decide,by show (0:Int)<2;decide⟩,⟨by decide,by decide⟩,⟨by decide,by decide⟩,⟨by decide,by decide⟩,hln⟩,by decide,by decide⟩
abbrev uw:List bt:=[⟨24,0,1,0⟩,⟨88,0,0,8⟩]
theorem zx(va vb vc vd:Option Addr):q0S (gg va vb vc) (iE vd)=⟨[],[(24,576),(608,160)],[]⟩:=by kernel_rfl
theorem aay:(gu [0,600] abl ⟨[],[(24,576),(608,160)],[]⟩).map (fun q=>oR 0 q.U q.S)=some uw:=by kernel_rfl
theorem w6{va vb vc vd:Option Addr}{L:aS}{e:Int}(h:zG (bZ (gg va vb vc).nodes.l (iE vd).nodes.l) (q0S (gg va vb vc) (iE vd)) 0 (iE vd) L e):∃ a c,L=ka vd ⟨a,c,uw⟩∧e=0:=by
 rw [pW,zx] at h
 have hr:=aay
 rcases h with ⟨h1,_⟩ | ⟨q,T,h1,h2,h3,h4⟩
 · rw [show (iE vd).nodes.l=[0,600] from rfl] at h1
   rw [h1] at hr;cases hr
 · rw [show (iE vd).nodes.l=[0,600] from rfl] at h1
   rw [h1,Option.map_some,Option.some.injEq,← h3] at hr
   obtain ⟨a,c,l⟩:=T
   dsimp only at hr
   subst hr
   exact ⟨a,c,h2,h4⟩
theorem k7{va vb vc vd a:Option Addr}{c:Nat}{i k n:Int}{b:Bool}{S:List bt}(h:SvR (gg va vb vc) (ka vd ⟨a,c,S⟩) i k n b)(hi:InC (gg va vb vc) i k)(j:Int)(hn:dO [0,600] (qT (gg va vb vc) (ka vd ⟨a,c,S⟩) i k)=true)(hf:cF (qT (gg va vb vc) (ka vd ⟨a,c,S⟩) i k) S=j):n=max j 0∧b=decide (0≤j):=by
 rcases h with ⟨h1,_⟩ | ⟨_,_,⟨h1,_⟩ | ⟨_,h2,h3⟩⟩
 · exact absurd hi h1
 · rw [show (ka vd ⟨a,c,S⟩).nodes.l=[0,600] from rfl,hn] at h1;cases h1
 · rw [show (ka vd ⟨a,c,S⟩).stubs.l=S from rfl,hf] at h2 h3;exact ⟨h2,h3⟩
theorem aaw(va vb vc:Option Addr):InC (gg va vb vc) 0 1:=⟨⟨by decide,by show (0:Int)<2;decide⟩,⟨by decide,by show (1:Int)<2;decide⟩,rfl⟩
theorem aav(va vb vc:Option Addr):InC (gg va vb vc) 0 0:=⟨⟨by decide,by show (0:Int)<2;decide⟩,⟨by decide,by show (0:Int)<2;decide⟩,rfl⟩
theorem aax(va vb vc:Option Addr):InC (gg va vb vc) 1 0:=⟨⟨by decide,by show (1:Int)<2;decide⟩,⟨by decide,by show (0:Int)<1;decide⟩,rfl⟩
theorem u9:∀ s∈uw,-1099511627776≤s.at_∧s.at_≤1099511627776:=fun s hs=>by
 simp only [List.mem_cons,List.not_mem_nil,or_false] at hs
 rcases hs with rfl | rfl<;>exact ⟨by decide,by decide⟩
theorem qt:Con Tryz.prog 5 [] [] [] fun r _ _=>r=.bool true:=by
 refine Con.enter Tryz.func5 rfl (by simp [Tryz.ntmps5]) ?_
 show awp _ _ _ _ ⟨[],_,_⟩
 refine aSR (aA rfl (aNn (aSR (LT rfl (EC [] [] rfl (tm) ?_)))))
 rintro _ _ _ ⟨rfl,va,vb,vc,vd,rfl,rfl⟩
 refine aST ?_
 refine aM rfl (aU rfl (cD rfl rfl) (aU rfl (cD rfl rfl) (LT rfl (aV (zs:=[.string .empty,.bool false,.slice none 0 0,.slice none 0 0,.slice none 0 0,.slice none 0 0,.slice none 0 0,.slice none 0 0,.int .i64 0,.int .i64 0,.int .i64 0,.int .i64 0,.slice none 0 0,.slice none 0 0]) (by kernel_rfl) rfl (fun b1_4=>(aHN ?_))))))
 refine LT rfl (aV (zs:=[.slice none 0 0,.slice none 0 0,.slice none 0 0,.int .i64 0,.int .i64 0,.int .i64 0,.int .i64 0]) (by kernel_rfl) rfl (fun b1_5=>(aHN ?_)))
 refine aN rfl (bb 0 tk32 rfl rfl rfl rfl (aHK ?_))
 refine aN rfl (bb 1 tk36 rfl rfl rfl rfl (aHK ?_))
 refine aNn (aSR (UL 0 tk32 rfl rfl rfl rfl (UL 1 tk36 rfl rfl rfl rfl (LT rfl (EC [1,0] [] rfl ((mW (gg va vb vc) (iE vd) (qU va vb vc vd bQ)).pre (iq (aI.f_nodes (.of (ax 0 rfl))) (aI.f_nodesA (.of (ax 0 rfl))) (aS.f_nodes (.of (ax 1 rfl))))) ?_)))))
 rintro _ _ _ ⟨rfl,L,e,⟨rfl,rfl⟩,hL⟩
 refine aST ?_
 refine aM rfl (aU rfl (cD rfl rfl) (aU rfl (cD rfl rfl) (LT rfl (aV (zs:=[.slice none 0 0,.slice none 0 0,.slice none 0 0,.int .i64 0,.int .i64 0,.int .i64 0,.int .i64 0]) (by kernel_rfl) rfl (fun b2_6=>(aHN ?_))))))
 refine aN rfl (bb 2 tk36 rfl rfl rfl rfl (aHK ?_))
 refine aA rfl (aNs (aD ?_))
 obtain ⟨sa,sc,rfl,rfl⟩:=w6 hL
 refine az (aM rfl (aU rfl (fq rfl rfl) (aM rfl (GO 2 rfl rfl rfl (GL 2 tk34 rfl rfl rfl rfl rfl (aG rfl rfl (fun hc=>bw Tryz.underlying34 (ah rfl hc)) (aG rfl rfl (fun hc=>fq (ah rfl hc) rfl) (aU rfl (ga rfl rfl (fun h=>gf rfl h)) (aM rfl (GO 0 rfl rfl rfl (GL 2 tk33 rfl rfl rfl rfl rfl (aG rfl rfl (fun hc=>bw Tryz.underlying33 (ah rfl hc)) (aG rfl rfl (fun hc=>fq (ah rfl hc) rfl) (aU rfl (ga rfl rfl (fun h=>gf rfl h)) (aNn ?_)))))))))))))))
 refine aa _ rfl (fun h1 => ?_) (fun h1 => ?_)
 ·skip
  exact Bool.noConfusion (show false=true from h1)
 ·skip
  refine aE (ao (aSR (UL 0 tk32 rfl rfl rfl rfl (UL 2 tk36 rfl rfl rfl rfl (LT rfl (EC [2,1,0] [] rfl ((il (gg va vb vc) (ka vd ⟨sa,sc,uw⟩) 0 1 (qU va vb vc vd _) u9).pre (ea (.of (ax 1 rfl)) (.mk2 (aS.f_nodes (x:=iE vd) (.of (ax 2 rfl))) (.mk2 dT (.of (ax 0 rfl)))))) ?_))))))
  rintro _ _ _ ⟨⟨rfl,rfl⟩,n1,t1,rfl,hv1⟩
  refine aST ?_
  refine aM rfl (aU rfl (cD rfl rfl) (aU rfl (cD rfl rfl) (aA rfl (aA rfl (aNn (aSR (UL 0 tk32 rfl rfl rfl rfl (UL 2 tk36 rfl rfl rfl rfl (LT rfl (EC [2,1,0] [] rfl ((il (gg va vb vc) (ka vd ⟨sa,sc,uw⟩) 1 0 (qU va vb vc vd _) u9).pre (ea (.of (ax 1 rfl)) (.mk2 (aS.f_nodes (x:=iE vd) (.of (ax 2 rfl))) (.mk2 dT (.of (ax 0 rfl)))))) ?_))))))))))
  rintro _ _ _ ⟨⟨rfl,rfl⟩,n2,t2,rfl,hv2⟩
  refine aST ?_
  refine aM rfl (aU rfl (cD rfl rfl) (aU rfl (cD rfl rfl) (aA rfl (aA rfl (aNn (aSR (UL 0 tk32 rfl rfl rfl rfl (UL 1 tk36 rfl rfl rfl rfl ?_))))))))
  refine LT rfl (EC [1,0] [] rfl (il (gg va vb vc) (iE vd) 0 0 (qU va vb vc vd bQ) (fun s hs=>by cases hs)) ?_)
  rintro _ _ _ ⟨⟨rfl,rfl⟩,n3,t3,rfl,hv3⟩
  refine aST ?_
  refine aM rfl (aU rfl (cD rfl rfl) (aU rfl (cD rfl rfl) (aA rfl (aA rfl (aNs ?_)))))
  obtain ⟨rfl,rfl⟩:=k7 hv1 (aaw va vb vc) 0 (by kernel_rfl) (by kernel_rfl)
  obtain ⟨rfl,rfl⟩:=k7 hv2 (aax va vb vc) 1 (by kernel_rfl) (by kernel_rfl)
  obtain ⟨rfl,rfl⟩:=k7 (S:=[]) hv3 (aav va vb vc) (-1) (by kernel_rfl) (by kernel_rfl)
  refine az (UO 2 rfl rfl (UL 2 tk34 rfl rfl rfl rfl (UI Tryz.underlying34 tk44 0 rfl rfl rfl rfl rfl (ak (show uw[0]? = some ⟨24,0,1,0⟩ from rfl)) rfl rfl (fun ⟨b8_2,o8_2⟩=>(US 0 tk44 0 rfl rfl rfl rfl rfl (aU rfl (bO (l:=[(0,.const (.int .i64 24)),(2,.const (.int .i64 1))]) (zs:=[.int .i64 0,.int .i64 0,.int .i64 0,.int .i64 0]) (pl:=[(0,1),(1,1),(2,1),(3,1)]) (by kernel_rfl) (by kernel_rfl) (by kernel_rfl) rfl rfl rfl) (aU rfl (kY (by kernel_rfl) (by kernel_rfl) (by kernel_rfl) (fun w=>fX 9998 _ _ _ w (by kernel_rfl) rfl rfl) rfl rfl) (aM rfl (GO 2 rfl rfl rfl (GL 2 tk34 rfl rfl rfl rfl rfl (bK _ rfl rfl (fun hc=>ai Tryz.underlying34 tk44 (ah rfl hc) ((.of (ax 1 rfl))) rfl (ak (show uw[1]? = some ⟨88,0,0,8⟩ from rfl)) rfl rfl) (fun _=>⟨(0,0)⟩) (fun ⟨b8_9,o8_9⟩=>(aG rfl rfl (fun hc=>dE (o:=0) tk44 (ah rfl hc) (ax 0 rfl) hc rfl) (aG rfl rfl (fun hc=>bO (l:=[(0,.const (.int .i64 88)),(3,.const (.int .i64 8))]) (zs:=[.int .i64 0,.int .i64 0,.int .i64 0,.int .i64 0]) (pl:=[(0,1),(1,1),(2,1),(3,1)]) (by kernel_rfl) (by kernel_rfl) (by kernel_rfl) rfl rfl rfl) (aG rfl rfl (fun hc=>kY (by kernel_rfl) (by kernel_rfl) (by kernel_rfl) (fun w=>fX 9998 _ _ _ w (by kernel_rfl) rfl rfl) (ah rfl hc) (ah rfl hc)) ?_)))))))))))))))
  refine aU rfl (dK rfl rfl (fun h=>gt rfl h)) (aM rfl (aG rfl rfl (fun hc=>bJ rfl) (aG rfl rfl (fun hc=>cS (ah rfl hc) rfl) (aU rfl (dK rfl rfl (fun h=>gt rfl h)) (aM rfl (aG rfl rfl (fun hc=>bJ rfl) (aU rfl (dK rfl rfl (fun h=>gt rfl h)) (aM rfl (aG rfl rfl (fun hc=>bJ rfl) (aG rfl rfl (fun hc=>cS (ah rfl hc) rfl) (aU rfl (dK rfl rfl (fun h=>gt rfl h)) (aM rfl (aG rfl rfl (fun hc=>bJ rfl) (aU rfl (dK rfl rfl (fun h=>gt rfl h)) (aM rfl (aG rfl rfl (fun hc=>bJ rfl) (aG rfl rfl (fun hc=>ft (ah rfl hc)) (aU rfl (dK rfl rfl (fun h=>gt rfl h)) (aM rfl ?_)))))))))))))))))))
  refine GO 0 rfl rfl rfl (GL 2 tk33 rfl rfl rfl rfl rfl (bK _ rfl rfl (fun hc=>ai Tryz.underlying33 tk3 (ah rfl hc) ((aS.f_nodes (x:=iE vd) (.of (ax 4 rfl)))) rfl (ak (row:=bd) (show [(0:Int),600][1]? = some 600 from rfl)) rfl rfl) (fun _=>⟨(0,0)⟩) (fun ⟨b8_35,o8_35⟩=>(aG rfl rfl (fun hc=>dE (o:=0) tk3 (ah rfl hc) (ax 0 rfl) hc rfl) (aG rfl rfl (fun hc=>cS (ah rfl hc) rfl) (aU rfl (dK rfl rfl (fun h=>gt rfl h)) (aA rfl (aNn (ae (FZ1 [] Tryz.results5 rfl ?_))))))))))
  exact congrArg Value.bool (by kernel_rfl)
end Go.Proofs.YtgkbbdgklpabpaaGreatDoor

namespace Go.Proofs.YtgkbbdgklpabpaaGreatDoor
open Go.RowKit Go.Lp Go.Sy
theorem jB{n t:Int}(h : -1152921504606846976≤n∧n≤1152921504606846976)(ht:1≤t∧t≤1099511627776):n≤upI n t∧upI n t<n+t:=by
 have hb:¬ (((t<1∨1099511627776<t)∨n < -1152921504606846976)∨1152921504606846976<n):=by omega
 have:=Int.emod_nonneg n (show t≠0 by omega)
 have:=Int.emod_lt_of_pos n (show 0<t by omega)
 unfold upI fQ
 rw [if_neg hb]
 split<;>omega
def exI(sp size:Int):Int:=upI ((size*sp).tdiv 1000) 8
theorem kN{sp size:Int}(h1:0≤sp∧sp≤10000)(h2:0≤size∧size≤1048576):(0≤size*sp∧size*sp≤10485760000)∧0≤exI sp size∧exI sp size≤10485768:=by
 have a:0≤size*sp:=Int.mul_nonneg h2.1 h1.1
 have b:size*sp≤1048576*10000:=Int.mul_le_mul h2.2 h1.2 h1.1 (by decide)
 have c:(size*sp).tdiv 1000=size*sp / 1000:=Int.tdiv_eq_ediv_of_nonneg a
 have:=jB (n:=(size*sp).tdiv 1000) (t:=8) (by omega) (by omega)
 unfold exI
 omega
abbrev PlS:=List Int × Int × Int
def plN(sp kind:Int)(q:PlS)(p:aQ × Nat):PlS :=
 if p.1.kind=kind then
   (q.1.set p.2 (upI q.2.1 p.1.align),(if kind=0 then (if fV kind=true then upI q.2.1 p.1.align+p.1.size else upI q.2.1 p.1.align+p.1.size+exI sp p.1.size)+16 else (if fV kind=true then upI q.2.1 p.1.align+p.1.size else upI q.2.1 p.1.align+p.1.size+exI sp p.1.size)),if kind=0 then q.2.2+8 else q.2.2)
 else q
def plF(sp kind:Int)(l:List (aQ × Nat))(q:PlS):PlS:=l.foldl (plN sp kind) q
def NdZ(x:aQ):Prop:=(0≤x.size∧x.size≤1048576)∧(1≤x.align∧x.align≤256)
theorem yU{sp kind:Int}(hsp:0≤sp∧sp≤10000){q:PlS}{p:aQ × Nat}(hp:NdZ p.1)(hq:0≤q.2.1∧q.2.1≤1000000000000000000) :
   (plN sp kind q p).1.length=q.1.length∧(q.2.1≤(plN sp kind q p).2.1∧(plN sp kind q p).2.1≤q.2.1+12000000)∧(q.2.2≤(plN sp kind q p).2.2∧(plN sp kind q p).2.2≤q.2.2+8):=by
 have hu:=jB (n:=q.2.1) (t:=p.1.align) (by omega) (by have:=hp.2;omega)
 have he:=kN hsp hp.1
 have h1:=hp.1;have h2:=hp.2
 unfold plN
 split
 · refine ⟨List.length_set,?_,?_⟩
   · dsimp only;split<;>split<;>omega
   · dsimp only;split<;>omega
 · exact ⟨rfl,by omega,by omega⟩
theorem iz{sp kind:Int}(hsp:0≤sp∧sp≤10000):∀ (l:List (aQ × Nat)) (q:PlS),(∀ p∈l,NdZ p.1)→0≤q.2.1→q.2.1+12000000*(l.length:Int)≤1000000000000000000 →
   (plF sp kind l q).1.length=q.1.length∧(q.2.1≤(plF sp kind l q).2.1∧(plF sp kind l q).2.1≤q.2.1+12000000*(l.length:Int))∧(q.2.2≤(plF sp kind l q).2.2∧(plF sp kind l q).2.2≤q.2.2+8*(l.length:Int))
 | [],q,_,_,_=>⟨rfl,⟨Int.le_refl _,by simp [plF]⟩,⟨Int.le_refl _,by simp [plF]⟩⟩
 | p::l,q,hp,h0,h1=>by
   have hl:((p::l).length:Int)=(l.length:Int)+1:=by simp
   rw [hl] at h1 ⊢
   have a:=yU (kind:=kind) hsp (hp p (List.mem_cons_self ..)) (q:=q) ⟨h0,by omega⟩
   have b:=iz (kind:=kind) hsp l (plN sp kind q p) (fun x hx=>hp x (List.mem_cons_of_mem _ hx)) (by omega) (by omega)
   rw [show plF sp kind (p::l) q=plF sp kind l (plN sp kind q p) from rfl]
   exact ⟨b.1.trans a.1,by omega,by omega⟩
theorem iy{sp kind:Int}(hk:kind≠0):∀ (l:List (aQ × Nat)) (q:PlS),(plF sp kind l q).2.2=q.2.2
 | [],_=>rfl
 | p::l,q=>by
   rw [show plF sp kind (p::l) q=plF sp kind l (plN sp kind q p) from rfl,iy hk l]
   unfold plN;split<;>rfl
def slS(q:List Int × Int)(i:Int):List Int × Int:=(q.1.set i.toNat q.2,q.2+8)
theorem j9:∀ (l:List Int) (q:List Int × Int),(l.foldl slS q).1.length=q.1.length∧(l.foldl slS q).2=q.2+8*(l.length:Int)
 | [],q=>⟨rfl,by simp⟩
 | i::l,q=>by
   have:=j9 l (slS q i)
   rw [List.foldl_cons]
   refine ⟨this.1.trans List.length_set,?_⟩
   rw [this.2,List.length_cons];unfold slS;dsimp only;omega
def spI(spare:Int):Int:=min (max spare 0) 10000
theorem uq(spare:Int):0≤spI spare∧spI spare≤10000:=by unfold spI;omega
section
variable (u:aI) (spare:Int)
def nzU:List (aQ × Nat):=u.nodes.l.zipIdx
def q1P:PlS:=plF (spI spare) 0 (nzU u) (List.replicate u.nodes.l.length 0,0,0)
def cH:Int:=upI ((q1P u spare).2.1+((q1P u spare).2.2+8*(u.imports.l.length:Int)+exI (spI spare) 64)) 256
def slP:List Int × Int:=(eE u).foldl slS (List.replicate u.imports.l.length (-1),cH u spare)
def q2P:PlS:=plF (spI spare) 1 (nzU u) ((q1P u spare).1,(slP u spare).2+8*(spI spare).tdiv 100,cH u spare)
def gV:Int:=upI (q2P u spare).2.1 256
def q3P:PlS:=plF (spI spare) 2 (nzU u) ((q2P u spare).1,gV u spare,cH u spare)
def lJ:Int:=upI (q3P u spare).2.1 256
def q4P:PlS:=plF (spI spare) 3 (nzU u) ((q3P u spare).1,0,cH u spare)
def q5P:PlS:=plF (spI spare) 4 (nzU u) ((q4P u spare).1,(q4P u spare).2.1,cH u spare)
def oV:Int:=(q5P u spare).2.1
theorem j3:(nzU u).length=u.nodes.l.length:=List.length_zipIdx
theorem tX(h:∀ x∈u.nodes.l,NdZ x):∀ p∈nzU u,NdZ p.1:=fun p hp=>h _ (List.mem_of_getElem? (List.mem_zipIdx_iff_getElem?.1 hp))
theorem yr(h:∀ x∈u.nodes.l,NdZ x)(hN:u.nodes.l.length≤100000000)(hI:u.imports.l.length≤100000000) :
   ((q1P u spare).1.length=u.nodes.l.length∧0≤(q1P u spare).2.1∧(q1P u spare).2.1≤1200000000000000∧0≤(q1P u spare).2.2∧(q1P u spare).2.2≤800000000) ∧
   ((q1P u spare).2.1≤cH u spare∧cH u spare≤1300000000000000) ∧
   ((slP u spare).1.length=u.imports.l.length∧cH u spare≤(slP u spare).2∧(slP u spare).2≤1400000000000000) ∧
   ((q2P u spare).1.length=u.nodes.l.length∧cH u spare≤(q2P u spare).2.1∧(q2P u spare).2.1≤3000000000000000∧(q2P u spare).2.2=cH u spare) ∧
   ((q2P u spare).2.1≤gV u spare∧gV u spare≤3100000000000000) ∧
   ((q3P u spare).1.length=u.nodes.l.length∧gV u spare≤(q3P u spare).2.1∧(q3P u spare).2.1≤5000000000000000∧(q3P u spare).2.2=cH u spare) ∧
   ((q3P u spare).2.1≤lJ u spare∧lJ u spare≤5100000000000000) ∧
   ((q4P u spare).1.length=u.nodes.l.length∧0≤(q4P u spare).2.1∧(q4P u spare).2.1≤1200000000000000∧(q4P u spare).2.2=cH u spare) ∧
   ((q5P u spare).1.length=u.nodes.l.length∧(q4P u spare).2.1≤oV u spare∧oV u spare≤2400000000000000∧(q5P u spare).2.2=cH u spare):=by
 have hs:=uq spare
 have hz:=tX u h
 have hl:((nzU u).length:Int)≤100000000:=by rw [j3];omega
 have hn:=pJ u
 have hd:0≤(spI spare).tdiv 100∧(spI spare).tdiv 100≤100:=by rw [Int.tdiv_eq_ediv_of_nonneg hs.1];omega
 have he:=(kN (size:=64) hs (by omega)).2
 have a1:=iz (kind:=0) hs (nzU u) (List.replicate u.nodes.l.length 0,0,0) hz (by dsimp only;omega) (by dsimp only;omega)
 rw [show plF (spI spare) 0 (nzU u) (List.replicate u.nodes.l.length 0,0,0)=q1P u spare from rfl] at a1
 dsimp only at a1
 rw [List.length_replicate] at a1
 have a2:=jB (n:=(q1P u spare).2.1+((q1P u spare).2.2+8*(u.imports.l.length:Int)+exI (spI spare) 64)) (t:=256) (by omega) (by omega)
 rw [show upI ((q1P u spare).2.1+((q1P u spare).2.2+8*(u.imports.l.length:Int)+exI (spI spare) 64)) 256=cH u spare from rfl] at a2
 have a3:=j9 (eE u) (List.replicate u.imports.l.length (-1),cH u spare)
 rw [show (eE u).foldl slS (List.replicate u.imports.l.length (-1),cH u spare)=slP u spare from rfl] at a3
 dsimp only at a3
 rw [List.length_replicate] at a3
 have a4:=iz (kind:=1) hs (nzU u) ((q1P u spare).1,(slP u spare).2+8*(spI spare).tdiv 100,cH u spare) hz (by dsimp only;omega) (by dsimp only;omega)
 have b4:=iy (sp:=spI spare) (kind:=1) (by decide) (nzU u) ((q1P u spare).1,(slP u spare).2+8*(spI spare).tdiv 100,cH u spare)
 rw [show plF (spI spare) 1 (nzU u) ((q1P u spare).1,(slP u spare).2+8*(spI spare).tdiv 100,cH u spare)=q2P u spare from rfl] at a4 b4
 dsimp only at a4 b4
 have a5:=jB (n:=(q2P u spare).2.1) (t:=256) (by omega) (by omega)
 rw [show upI (q2P u spare).2.1 256=gV u spare from rfl] at a5
 have a6:=iz (kind:=2) hs (nzU u) ((q2P u spare).1,gV u spare,cH u spare) hz (by dsimp only;omega) (by dsimp only;omega)
 have b6:=iy (sp:=spI spare) (kind:=2) (by decide) (nzU u) ((q2P u spare).1,gV u spare,cH u spare)
 rw [show plF (spI spare) 2 (nzU u) ((q2P u spare).1,gV u spare,cH u spare)=q3P u spare from rfl] at a6 b6
 dsimp only at a6 b6
 have a7:=jB (n:=(q3P u spare).2.1) (t:=256) (by omega) (by omega)
 rw [show upI (q3P u spare).2.1 256=lJ u spare from rfl] at a7
 have a8:=iz (kind:=3) hs (nzU u) ((q3P u spare).1,0,cH u spare) hz (by dsimp only;omega) (by dsimp only;omega)
 have b8:=iy (sp:=spI spare) (kind:=3) (by decide) (nzU u) ((q3P u spare).1,0,cH u spare)
 rw [show plF (spI spare) 3 (nzU u) ((q3P u spare).1,0,cH u spare)=q4P u spare from rfl] at a8 b8
 dsimp only at a8 b8
 have a9:=iz (kind:=4) hs (nzU u) ((q4P u spare).1,(q4P u spare).2.1,cH u spare) hz (by dsimp only;omega) (by dsimp only;omega)
 have b9:=iy (sp:=spI spare) (kind:=4) (by decide) (nzU u) ((q4P u spare).1,(q4P u spare).2.1,cH u spare)
 rw [show plF (spI spare) 4 (nzU u) ((q4P u spare).1,(q4P u spare).2.1,cH u spare)=q5P u spare from rfl] at a9 b9
 dsimp only at a9 b9
 rw [show (q5P u spare).2.1=oV u spare from rfl] at a9
 exact ⟨⟨a1.1,by omega,by omega,by omega,by omega⟩,⟨by omega,by omega⟩,⟨a3.1,by omega,by omega⟩,⟨a4.1.trans a1.1,by omega,by omega,b4⟩,⟨by omega,by omega⟩,⟨a6.1.trans (a4.1.trans a1.1),by omega,by omega,b6⟩,⟨by omega,by omega⟩,⟨a8.1.trans (a6.1.trans (a4.1.trans a1.1)),by omega,by omega,b8⟩,⟨a9.1.trans (a8.1.trans (a6.1.trans (a4.1.trans a1.1))),by omega,by omega,b9⟩⟩
end
theorem wK{sp kind:Int}{q:PlS}{p:aQ × Nat}{j:Nat}(h:p.2=j→p.1.kind≠kind):(plN sp kind q p).1[j]? = q.1[j]? := by
 unfold plN
 split
 · rename_i hk
   rw [List.getElem?_set_ne (fun e=>h e hk)]
 · rfl
theorem kW{sp kind:Int} : ∀ (l:List (aQ × Nat)) (q:PlS) (j:Nat),(∀ p∈l,p.2=j→p.1.kind≠kind)→(plF sp kind l q).1[j]? = q.1[j]?
 | [],_,_,_=>rfl
 | p::l,q,j,h=>by
   rw [show plF sp kind (p::l) q=plF sp kind l (plN sp kind q p) from rfl,kW l _ j fun x hx=>h x (List.mem_cons_of_mem _ hx)]
   exact wK (h p (List.mem_cons_self ..))
theorem kV{sp kind:Int}(hsp:0≤sp∧sp≤10000):∀ (l:List (aQ × Nat)) (q:PlS),(∀ p∈l,NdZ p.1)→0≤q.2.1→q.2.1+12000000*(l.length:Int)≤1000000000000000000→(l.map (·.2)).Nodup→(∀ p∈l,p.2<q.1.length) →
   ∀ p∈l,p.1.kind=kind→∃ a,(plF sp kind l q).1[p.2]? = some a∧q.2.1≤a∧a+p.1.size≤(plF sp kind l q).2.1
 | [],_,_,_,_,_,_,p,hp,_=>by cases hp
 | x :: l,q,hz,h0,h1,hn,hlt,p,hp,hk=>by
   have hl:((x::l).length:Int)=(l.length:Int)+1:=by simp
   rw [hl] at h1
   rw [List.map_cons,List.nodup_cons] at hn
   have a:=yU (kind:=kind) hsp (hz x (List.mem_cons_self ..)) (q:=q) ⟨h0,by omega⟩
   have b:=iz (kind:=kind) hsp l (plN sp kind q x) (fun y hy=>hz y (List.mem_cons_of_mem _ hy)) (by omega) (by omega)
   rw [show plF sp kind (x::l) q=plF sp kind l (plN sp kind q x) from rfl]
   rcases List.mem_cons.1 hp with rfl | hp
   · have hxz:=hz p (List.mem_cons_self ..)
     have hu:=jB (n:=q.2.1) (t:=p.1.align) (by omega) (by have:=hxz.2;omega)
     have he:=kN hsp hxz.1
     refine ⟨upI q.2.1 p.1.align,?_,hu.1,?_⟩
     · rw [kW l _ _ fun y hy e=>absurd (List.mem_map.2 ⟨y,hy,e⟩) hn.1]
       unfold plN
       rw [if_pos hk]
       exact List.getElem?_set_self (hlt p (List.mem_cons_self ..))
     · refine Int.le_trans ?_ b.2.1.1
       unfold plN
       rw [if_pos hk]
       dsimp only
       split<;>split<;>omega
   · obtain ⟨c,h2,h3,h4⟩:=kV hsp l (plN sp kind q x) (fun y hy=>hz y (List.mem_cons_of_mem _ hy)) (by omega) (by omega) hn.2 (fun y hy=>by rw [a.1];exact hlt y (List.mem_cons_of_mem _ hy)) p hp hk
     exact ⟨c,h2,by omega,h4⟩
theorem gp(u:aI):((nzU u).map (·.2)).Nodup:=by
 unfold nzU
 rw [show (fun x:aQ × Nat=>x.2)=Prod.snd from rfl,List.zipIdx_map_snd]
 exact List.nodup_range'
theorem aaf{u:aI}{k:Nat}{x:aQ}(h:u.nodes.l[k]? = some x):(x,k)∈nzU u:=by
 unfold nzU
 exact List.mem_zipIdx_iff_getElem?.2 h
theorem yL{u:aI}{k:Nat}{x:aQ}(h:u.nodes.l[k]? = some x){kind:Int}(hk:x.kind≠kind):∀ p∈nzU u,p.2=k→p.1.kind≠kind:=fun p hp e=>by
 have:=List.mem_zipIdx_iff_getElem?.1 hp
 rw [e,h] at this
 rw [← Option.some.inj this];exact hk
theorem aab{u:aI}{spare:Int}(h:∀ x∈u.nodes.l,NdZ x)(hN:u.nodes.l.length≤100000000)(hI:u.imports.l.length≤100000000)(hz:lJ u spare≤1048576)(ht:oV u spare≤1048576){k:Nat}{x:aQ}(hx:u.nodes.l[k]? = some x)(hk:0≤x.kind∧x.kind<5) :
   ∃ a,(q5P u spare).1[k]? = some a∧(0≤a∧a+x.size≤1048576)∧(x.kind=0→a+x.size≤cH u spare):=by
 have hs:=uq spare
 have hzz:=tX u h
 have hl:((nzU u).length:Int)≤100000000:=by rw [j3];omega
 obtain ⟨f1,f2,f3,f4,f5,f6,f7,f8,f9⟩:=yr u spare h hN hI
 have hd:0≤(spI spare).tdiv 100∧(spI spare).tdiv 100≤100:=by rw [Int.tdiv_eq_ediv_of_nonneg hs.1];omega
 have hlt:∀ (m:List Int),m.length=u.nodes.l.length→∀ p∈nzU u,p.2<m.length:=fun m hm p hp=>by
   rw [hm];exact (List.getElem?_eq_some_iff.1 (List.mem_zipIdx_iff_getElem?.1 hp)).1
 have hm:=aaf hx
 have ho:∀ kind (q:PlS),x.kind≠kind→(plF (spI spare) kind (nzU u) q).1[k]? = q.1[k]? := fun kind q hne=>kW _ q k (yL hx hne)
 have e5:(q5P u spare).1[k]? = (plF (spI spare) 4 (nzU u) ((q4P u spare).1,(q4P u spare).2.1,cH u spare)).1[k]? := rfl
 have e4:(q4P u spare).1[k]? = (plF (spI spare) 3 (nzU u) ((q3P u spare).1,0,cH u spare)).1[k]? := rfl
 have e3:(q3P u spare).1[k]? = (plF (spI spare) 2 (nzU u) ((q2P u spare).1,gV u spare,cH u spare)).1[k]? := rfl
 have e2:(q2P u spare).1[k]? = (plF (spI spare) 1 (nzU u) ((q1P u spare).1,(slP u spare).2+8*(spI spare).tdiv 100,cH u spare)).1[k]? := rfl
 have hcase:x.kind=0∨x.kind=1∨x.kind=2∨x.kind=3∨x.kind=4:=by omega
 rcases hcase with c | c | c | c | c
 · obtain ⟨a,h1,h2,h3⟩:=kV (kind:=0) hs (nzU u) (List.replicate u.nodes.l.length 0,0,0) hzz (by dsimp only;omega) (by dsimp only;omega) (gp u) (hlt _ List.length_replicate) (x,k) hm c
   have h3':a+x.size≤(q1P u spare).2.1:=h3
   refine ⟨a,?_,⟨h2,by omega⟩,fun _=>by omega⟩
   rw [e5,ho 4 _ (by omega),e4,ho 3 _ (by omega),e3,ho 2 _ (by omega),e2,ho 1 _ (by omega)];exact h1
 · obtain ⟨a,h1,h2,h3⟩:=kV (kind:=1) hs (nzU u) ((q1P u spare).1,(slP u spare).2+8*(spI spare).tdiv 100,cH u spare) hzz (by dsimp only;omega) (by dsimp only;omega) (gp u) (hlt _ f1.1) (x,k) hm c
   have h3':a+x.size≤(q2P u spare).2.1:=h3
   dsimp only at h2
   refine ⟨a,?_,⟨by omega,by omega⟩,fun hc=>by omega⟩
   rw [e5,ho 4 _ (by omega),e4,ho 3 _ (by omega),e3,ho 2 _ (by omega)];exact h1
 · obtain ⟨a,h1,h2,h3⟩:=kV (kind:=2) hs (nzU u) ((q2P u spare).1,gV u spare,cH u spare) hzz (by dsimp only;omega) (by dsimp only;omega) (gp u) (hlt _ f4.1) (x,k) hm c
   have h3':a+x.size≤(q3P u spare).2.1:=h3
   dsimp only at h2
   refine ⟨a,?_,⟨by omega,by omega⟩,fun hc=>by omega⟩
   rw [e5,ho 4 _ (by omega),e4,ho 3 _ (by omega)];exact h1
 · obtain ⟨a,h1,h2,h3⟩:=kV (kind:=3) hs (nzU u) ((q3P u spare).1,0,cH u spare) hzz (by dsimp only;omega) (by dsimp only;omega) (gp u) (hlt _ f6.1) (x,k) hm c
   have h3':a+x.size≤(q4P u spare).2.1:=h3
   dsimp only at h2
   refine ⟨a,?_,⟨by omega,by omega⟩,fun hc=>by omega⟩
   rw [e5,ho 4 _ (by omega)];exact h1
 · obtain ⟨a,h1,h2,h3⟩:=kV (kind:=4) hs (nzU u) ((q4P u spare).1,(q4P u spare).2.1,cH u spare) hzz (by dsimp only;omega) (by dsimp only;omega) (gp u) (hlt _ f8.1) (x,k) hm c
   have h3':a+x.size≤oV u spare:=h3
   dsimp only at h2
   exact ⟨a,h1,⟨by omega,by omega⟩,fun hc=>by omega⟩
end Go.Proofs.YtgkbbdgklpabpaaGreatDoor

namespace Go.Sy
open Go.RowKit Go.Lp
theorem Con.quietO{P:Program}{f:FuncId}{args:List Value}{p:Per}{v:Value}{B:Res}(h:Con P f args [p] [] fun u _ _=>u=v)(i:Nat){w:World}{S:aZ}{fp:Nat→aZ}{ps':List Per}{hp:List Res}(hi:hp[i]? = some B)(hst:St w S fp ps' hp)
   (hB:∀ w S F,B.holds w S F→p.holds w (fun b=>S b∨F b)):Calls P f args.toArray w fun e w'=>e=.returned v∧Below w.heap.size w w' :=
 h.quiet1 (S:=fun b=>S b∨fp i b) (fp:=fun _ _=>False) (ps':=[p]) (hp:=[]) (List.mem_singleton.2 rfl) ⟨fun q hq=>by rw [List.mem_singleton.1 hq];exact hB _ _ _ (hst.res i B hi),fun _ _ hR=>by simp at hR,fun i hi=>by simp at hi,fun i j hi=>by simp at hi,fun b hb=>hb.elim (hst.slt b) fun hh=>(hst.lt i (List.getElem?_eq_some_iff.1 hi).1 b hh).1⟩
theorem rm{b:Nat}{T:TypeId}{cs:List Value}(o:Nat){v:Value}(hc:cs[o]? = some v)(h1:v.oneCell'=true):∀ w S F,(Box b T cs).holds w S F→(At b o [.v v]).holds w (fun b=>S b∨F b):=fun w S F ⟨hb,hF⟩=>⟨.inr ((hF b).2 rfl),fun j d hj=>by
   cases j with
   | succ j=>simp at hj
   | zero =>
     simp only [List.getElem?_cons_zero,Option.some.injEq] at hj
     exact ⟨v,by rw [dA hb];exact hc,h1,by rw [← hj];exact .v v⟩⟩
end Go.Sy
namespace Go.Proofs.YtgkbbdgklpabpaaGreatDoor
open Go.RowKit Go.Lp Go.Sy
open Go.Proofs.Tryz
attribute [local irreducible] aL aB awp aC fwp Quiet
abbrev frV(u:aI)(nv sv:Value)(code data zero tls sp nx:Int):List Value:=[.string u.name,.bool u.lib,u.nodes.val,u.imports.val,u.offers.val,u.inits.val,u.lasts.val,u.needs.val,.int .i64 u.entry.kind,.int .i64 u.entry.n,.int .i64 u.entry.off,.int .i64 u.entry.size,u.versions.val,u.changes.val,nv,sv,.slice none 0 0,.int .i64 code,.int .i64 data,.int .i64 zero,.int .i64 tls,.int .i64 sp,.int .i64 nx]
theorem mQ(bf:Nat)(sp size:Int)(hsp:0≤sp∧sp≤10000)(hs:0≤size∧size≤1048576) :
   Con Tryz.prog 56 [.pointer (some ⟨bf,0,none⟩),.int .i64 size] [At bf 21 [.v (.int .i64 sp)]] [] fun r _ _=>r=.int .i64 (exI sp size):=by
 have he:=kN hsp hs
 have hd:(size*sp).tdiv 1000=size*sp / 1000:=Int.tdiv_eq_ediv_of_nonneg he.1.1
 have hw:IntKind.i64.wrap ((size*sp).tdiv 1000)=(size*sp).tdiv 1000:=by rw [IntKind.wrap_i64];omega
 refine EN2 Tryz.func56 rfl (aSR (aA rfl (aNn (aSR (aM rfl (aM rfl (UN rfl rfl (UO 21 rfl rfl (aU rfl (cg (p:=21) (o:=0) (v:=.int .i64 sp) tk3 rfl (.of (ax 0 rfl)) rfl) (aU rfl (qM rfl rfl (by omega)) (aU rfl (yY rfl rfl (by decide)) ?_)))))))))))
 refine aU rfl (Q0 rfl (l6 _ 8 (by rw [hw];unfold I64;omega))) ?_
 refine aA rfl (aNn (ae (FZ1 [] Tryz.results56 rfl ?_)))
 show Value.int .i64 _=_;rw [hw];rfl
theorem kJ(bf:Nat)(u:aI)(nv sv:Value)(code data zero tls sp nx:Int)(hn:I64 nx) :
   Con Tryz.prog 57 [.pointer (some ⟨bf,0,none⟩)] [] [Box bf 100 (frV u nv sv code data zero tls sp nx)] fun r ps hp=>ps=[]∧r=.int .i64 (upI nx 256)∧hp=[Box bf 100 (frV u nv sv code data zero tls sp (upI nx 256))]:=by
 refine EN1 Tryz.func57 rfl (go 0 [0,0,0,0,22,0] ?_)
 refine aU rfl (Q0 rfl (l6 nx 256 hn)) (go 2 [0,22,0,0,0,22,0,0] ?_)
 refine ae (FZ1 [0] Tryz.results57 rfl ?_)
 exact ⟨rfl,rfl,rfl⟩
theorem tu(bf:Nat)(u:aI)(nv sv:Value)(code data zero tls sp nx kind:Int)(ns:List Int)(hsp:0≤sp∧sp≤10000)(hN:u.nodes.l.length≤100000000)(hx:∀ x∈u.nodes.l,NdZ x)(hl:ns.length=u.nodes.l.length)(h0:0≤nx∧nx≤100000000000000000)(hc:0≤code∧code≤100000000000000000)(hk:0≤kind∧kind<5) :
   Con Tryz.prog 55 [.pointer (some ⟨bf,0,none⟩),.int .i64 kind] [u.ok] [Box bf 100 (frV u nv sv code data zero tls sp nx),aK nv 3 1 (ns.map bd)]
     fun r ps hp=>ps=[]∧hp=[Box bf 100 (frV u nv sv (plF sp kind (nzU u) (ns,nx,code)).2.2 data zero tls sp (plF sp kind (nzU u) (ns,nx,code)).2.1),aK nv 3 1 ((plF sp kind (nzU u) (ns,nx,code)).1.map bd)]:=by
 refine EN2 Tryz.func55 rfl (aSR (aM rfl (UN rfl rfl (UO 0 rfl rfl (UO 2 rfl rfl (UL 0 tk22 rfl rfl rfl rfl (aU rfl (bw Tryz.underlying22 rfl) (aM rfl (aNn (aJ (aF [0,1,10,11,12] [0] [0,1] (fun (q:Nat × PlS) st=>(q.1≤u.nodes.l.length∧q.2=plF sp kind ((nzU u).take q.1) (ns,nx,code))∧st=⟨[(0,true,.pointer (some ⟨bf,0,none⟩)),(1,true,.int .i64 kind),(10,true,u.nodes.val),(11,true,.int .i64 u.nodes.l.length),(12,true,.int .i64 q.1)],[u.ok],[Box bf 100 (frV u nv sv q.2.2.2 data zero tls sp q.2.2.1),aK nv 3 1 (q.2.1.map bd)]⟩) (fun q=>u.nodes.l.length-q.1) rfl (⟨(0,(ns,nx,code)),⟨Nat.zero_le _,rfl⟩,rfl⟩) ?_)))))))))))
 rintro ⟨k,ms,mx,mc⟩ st ⟨⟨hk,hq⟩,rfl⟩
 dsimp only at hk hq
 have hqo:=iz (kind:=kind) hsp ((nzU u).take k) (ns,nx,code) (fun p hp=>tX u hx p (List.mem_of_mem_take hp)) h0.1 (by rw [List.length_take,j3];dsimp only;omega)
 rw [← hq,List.length_take,j3] at hqo
 dsimp only at hqo
 obtain ⟨hml,hm1,hm2⟩:=hqo
 refine aSR (aU rfl (cZ rfl rfl) (aNs ?_))
 refine aa _ rfl (fun h1 => ?_) (fun h1 => ?_)
 ·skip
  have hk':k<u.nodes.l.length:=by simpa using h1
  obtain ⟨x,hx1⟩:∃ x,u.nodes.l[k]? = some x:=⟨_,List.getElem?_eq_getElem hk'⟩
  obtain ⟨hxs,hxa⟩:=hx x (List.mem_of_getElem? hx1)
  have hsn:plF sp kind ((nzU u).take (k+1)) (ns,nx,code)=plN sp kind (ms,mx,mc) (x,k):=by
    unfold plF;rw [List.take_add_one,show (nzU u)[k]? = some (x,k) by unfold nzU;rw [List.getElem?_zipIdx,hx1];simp,Option.toList_some,List.foldl_append];exact congrArg (fun q=>plN sp kind q (x,k)) hq.symm
  have hup:=jB (n:=mx) (t:=x.align) (by omega) (by omega)
  have hex:=kN hsp hxs
  obtain ⟨A,hA⟩:∃ A,upI mx x.align=A:=⟨_,rfl⟩
  obtain ⟨y,hy⟩:∃ y,ms[k]? = some y:=⟨_,List.getElem?_eq_getElem (by omega)⟩
  refine aE (ao (aD (aJ (aSR (aM rfl (bK true rfl rfl (fun _=>ai Tryz.underlying22 tk52 rfl ((aI.f_nodes (.of (ax 0 rfl)))) rfl (ak hx1) rfl rfl) (fun h=>absurd h (by decide)) (fun ⟨b2_1,o2_1⟩=>(US 0 tk52 0 rfl rfl rfl rfl rfl (LT rfl (aV (zs:=[.string .empty,.string .empty,.int .i64 0,.int .i64 0,.int .i64 0,.string .empty,.slice none 0 0,.slice none 0 0,.slice none 0 0,.slice none 0 0,.slice none 0 0,.slice none 0 0]) (by kernel_rfl) rfl (fun b2_3=>(aHN ?_))))))))))))
  refine aA rfl (aN rfl (bb 2 tk52 rfl rfl rfl rfl (aHK ?_)))
  refine aNs (aSR (UO 2 rfl rfl (UL 2 tk3 rfl rfl rfl rfl (aM rfl (aU rfl (fq rfl rfl) (aNn ?_))))))
  refine aa _ rfl (fun h2 => ?_) (fun h2 => ?_)
  ·skip
   have hne:¬ x.kind=kind:=by simpa using h2
   rw [show plN sp kind (ms,mx,mc) (x,k)=(ms,mx,mc) from if_neg hne] at hsn
   refine ba (bg (bk (ao (az (aU rfl (bp rfl rfl (by omega)) (aM rfl (aNn ?_)))))))
   refine ⟨[0,1,10,11,12],[0],[0,1],rfl,?_⟩
   exact ⟨(k+1,_),⟨⟨hk',hsn.symm⟩,rfl⟩,by dsimp only;omega⟩
  ·skip
   have hne:x.kind=kind:=by simpa using h2
   rw [show plN sp kind (ms,mx,mc) (x,k)=_ from if_pos hne] at hsn
   dsimp only at hsn
   rw [hA] at hsn hup
   refine aE (ao (aD (DR [14] 15 (VM 0 rfl rfl (VN 1 rfl rfl rfl (VO 2 14 rfl rfl rfl (VO 3 0 rfl rfl rfl (VL 4 0 tk33 rfl rfl rfl rfl rfl (VM 5 rfl rfl (VM 6 rfl rfl (VN 7 rfl rfl rfl (VO 8 22 rfl rfl rfl (VL 9 0 tk3 rfl rfl rfl rfl rfl (VO 10 3 rfl rfl rfl (VL 11 2 tk3 rfl rfl rfl rfl rfl ?_)))))))))))))))
   refine bV 12 rfl rfl (Q0 rfl (hA ▸ l6 mx x.align (by unfold I64;omega))) ?_
   refine bV 13 rfl rfl (bH 1 k el33 rfl rfl rfl rfl (by rw [List.length_map];omega)) ?_
   refine VE 14 rfl rfl (cM 1 k 0 tk3 rfl rfl rfl (ak hy) rfl (.v rfl .nil) rfl (by decide) (bST rfl ?_))
   refine BN (ao (aD ?_))
   refine lg (hp':=[_,aK nv 3 1 ((ms.set k A).map bd),_]) (by rw [List.map_set];rfl) ?_
   refine DR [14] 15 (VM 0 rfl rfl (VM 1 rfl rfl (VN 2 rfl rfl rfl (VO 3 14 rfl rfl rfl (VO 4 0 rfl rfl rfl (VL 5 0 tk33 rfl rfl rfl rfl rfl (VM 6 rfl rfl ?_)))))))
   refine bV 7 rfl rfl (bH 1 k el33 rfl rfl rfl rfl (by rw [List.length_map,List.length_set];omega)) ?_
   refine bV 8 rfl rfl (bj (u:=.int .i64 A) 1 k 0 tk3 rfl rfl (ak (List.getElem?_set_self (by omega))) rfl rfl) ?_
   refine VO 9 4 rfl rfl rfl (VL 10 2 tk3 rfl rfl rfl rfl rfl (bV 11 rfl rfl (bp rfl rfl (by omega)) (VN 12 rfl rfl rfl (VO 13 22 rfl rfl rfl (dF 14 rfl (by kernel_rfl) rfl rfl (bb 0 tk3 rfl rfl rfl rfl (bST rfl ?_)))))))
   refine BN (ao (aD (aSR (aM rfl (aU rfl (Q0 rfl (mP kind)) (aU rfl (ft rfl) (aNn ?_)))))))
   refine aa _ rfl (fun h3 => ?_) (fun h3 => ?_)
   ·skip
    have hb:¬ fV kind=true:=by simpa using h3
    rw [if_neg hb] at hsn
    refine DR [11] 12 (VM 0 rfl rfl (VN 1 rfl rfl rfl (VO 2 22 rfl rfl rfl (VL 3 0 tk3 rfl rfl rfl rfl rfl (VM 4 rfl rfl (VO 5 4 rfl rfl rfl (VL 6 2 tk3 rfl rfl rfl rfl rfl (bV 7 rfl rfl (QC rfl (fun w S fp hst=>(mQ bf sp x.size hsp hxs).quietO 0 rfl hst (rm 21 rfl rfl))) (bV 8 rfl rfl (bp rfl rfl (by omega)) (VN 9 rfl rfl rfl (VO 10 22 rfl rfl rfl (dF 11 rfl (by kernel_rfl) rfl rfl (bb 0 tk3 rfl rfl rfl rfl (bST rfl ?_))))))))))))))
    refine BN (ao (aSR (aM rfl (aU rfl (cS rfl rfl) (aNn ?_)))))
    refine aa _ rfl (fun h4 => ?_) (fun h4 => ?_)
    ·skip
     have hz:kind=0:=by simpa using h4
     rw [if_pos hz,if_pos hz] at hsn
     refine aSR (aM rfl (UN rfl rfl (UO 22 rfl rfl (UL 0 tk3 rfl rfl rfl rfl (aU rfl (bp rfl rfl (by omega)) (UN rfl rfl (UO 22 rfl rfl (aN rfl (bb 0 tk3 rfl rfl rfl rfl (aHK ?_))))))))))
     refine aNn (az (aM rfl (UN rfl rfl (UO 14 rfl rfl (UO 3 rfl rfl (UL 0 tk3 rfl rfl rfl rfl (aU rfl (bp rfl rfl (by omega)) (UN rfl rfl (UO 14 rfl rfl (UO 3 rfl rfl (aN rfl (bb 0 tk3 rfl rfl rfl rfl (aHK ?_)))))))))))))
     refine dG (cL (ao (az (aU rfl (bp rfl rfl (by omega)) (aM rfl (aNn ?_))))))
     refine ⟨[0,1,10,11,12],[0],[0,1],rfl,?_⟩
     exact ⟨(k+1,_),⟨⟨hk',hsn.symm⟩,rfl⟩,by dsimp only;omega⟩
    ·skip
     have hz:¬ kind=0:=by simpa using h4
     rw [if_neg hz,if_neg hz] at hsn
     refine aE (cL (ao (az (aU rfl (bp rfl rfl (by omega)) (aM rfl (aNn ?_))))))
     refine ⟨[0,1,10,11,12],[0],[0,1],rfl,?_⟩
     exact ⟨(k+1,_),⟨⟨hk',hsn.symm⟩,rfl⟩,by dsimp only;omega⟩
   ·skip
    have hb:fV kind=true:=by simpa using h3
    rw [if_pos hb] at hsn
    refine aE (ao (aSR (aM rfl (aU rfl (cS rfl rfl) (aNn ?_)))))
    refine aa _ rfl (fun h5 => ?_) (fun h5 => ?_)
    ·skip
     have hz:kind=0:=by simpa using h5
     rw [if_pos hz,if_pos hz] at hsn
     refine aSR (aM rfl (UN rfl rfl (UO 22 rfl rfl (UL 0 tk3 rfl rfl rfl rfl (aU rfl (bp rfl rfl (by omega)) (UN rfl rfl (UO 22 rfl rfl (aN rfl (bb 0 tk3 rfl rfl rfl rfl (aHK ?_))))))))))
     refine aNn (az (aM rfl (UN rfl rfl (UO 14 rfl rfl (UO 3 rfl rfl (UL 0 tk3 rfl rfl rfl rfl (aU rfl (bp rfl rfl (by omega)) (UN rfl rfl (UO 14 rfl rfl (UO 3 rfl rfl (aN rfl (bb 0 tk3 rfl rfl rfl rfl (aHK ?_)))))))))))))
     refine dG (cL (ao (az (aU rfl (bp rfl rfl (by omega)) (aM rfl (aNn ?_))))))
     refine ⟨[0,1,10,11,12],[0],[0,1],rfl,?_⟩
     exact ⟨(k+1,_),⟨⟨hk',hsn.symm⟩,rfl⟩,by dsimp only;omega⟩
    ·skip
     have hz:¬ kind=0:=by simpa using h5
     rw [if_neg hz,if_neg hz] at hsn
     refine aE (cL (ao (az (aU rfl (bp rfl rfl (by omega)) (aM rfl (aNn ?_))))))
     refine ⟨[0,1,10,11,12],[0],[0,1],rfl,?_⟩
     exact ⟨(k+1,_),⟨⟨hk',hsn.symm⟩,rfl⟩,by dsimp only;omega⟩
 ·skip
  have hke:k=u.nodes.l.length:=by have:=of_decide_eq_false h1;omega
  subst hke
  rw [List.take_of_length_le (by rw [j3];exact Nat.le_refl _)] at hq
  refine ba (bg (bg (bk (FZ0 [0,1] Tryz.results55 ?_))))
  exact ⟨rfl,by rw [← hq];rfl⟩
end Go.Proofs.YtgkbbdgklpabpaaGreatDoor

