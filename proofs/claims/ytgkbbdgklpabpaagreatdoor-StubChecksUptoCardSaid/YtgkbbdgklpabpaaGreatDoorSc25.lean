/- Parts of the proof, in build order. No condition. -/
import Derived.Test.YtgkbbdgklpabpaaGreatDoorSc24
import Derived.Test.YtgkbbdgklpabpaaGreatDoorSc07
import Derived.Test.YtgkbbdgklpabpaaGreatDoorSc05
import Derived.Test.YtgkbbdgklpabpaaGreatDoorSc09
import Derived.Test.YtgkbbdgklpabpaaGreatDoorSc22
import Derived.Test.YtgkbbdgklpabpaaGreatDoorSc20
import Derived.Test.YtgkbbdgklpabpaaGreatDoorSc15
set_option linter.unusedSimpArgs false
set_option linter.unusedVariables false
set_option maxHeartbeats 20000000
set_option maxRecDepth 20000
namespace Go.Proofs.YtgkbbdgklpabpaaGreatDoor
open Go.RowKit Go.Lp Go.Sy
open Go.Proofs.Tryz
attribute [local irreducible] aL aB awp aC fwp Quiet
def aaP:ByteArray:=⟨#[22,0,0,0,0,0,0,0]⟩
abbrev acT(v:Option Addr):aQ:=⟨⟨#[111]⟩,⟨#[102]⟩,0,8,24,aaP++aaP++aaP,⟨v,2,[⟨8,6,⟨0,1,0,0⟩,0⟩,⟨16,6,⟨0,1,0,0⟩,0⟩]⟩,cI,cI,cI,cI,cI⟩
abbrev acU(v:Option Addr):aQ:=⟨⟨#[111]⟩,⟨#[103]⟩,0,8,8,aaP,⟨v,1,[⟨0,6,⟨0,0,8,0⟩,0⟩]⟩,cI,cI,cI,cI,cI⟩
abbrev gn(va vb vc:Option Addr):aJ:=⟨⟨#[117]⟩,false,⟨vc,2,[acT va,acU vb]⟩,cI,cI,cI,cI,cI,⟨0,0,0,0⟩,cI,cI⟩
abbrev iO(vd:Option Addr):aN:=⟨⟨vd,2,[0,600]⟩,cI,cI,768,768,768,0⟩
theorem rO:Con Tryz.prog 12 [] [] [] fun r ps hp=>∃ va vb vc vd,(r=.tuple #[(gn va vb vc).val,(iO vd).val]∧hp=[])∧ps=[cnd true (ShF bd (iO vd).nodes),cnd true (ShF aQ.row (gn va vb vc).nodes),cnd true (ShF dE.row (acU vb).refs),cnd true (ShF dE.row (acT va).refs)]:=by
 refine Con.enter Tryz.func12 rfl (by simp [Tryz.ntmps12]) ?_
 show awp _ _ _ _ ⟨[],_,_⟩
 refine aSR (LT rfl (aW (zs:=[.string .empty,.bool false,.slice none 0 0,.slice none 0 0,.slice none 0 0,.slice none 0 0,.slice none 0 0,.slice none 0 0,.int .i64 0,.int .i64 0,.int .i64 0,.int .i64 0,.slice none 0 0,.slice none 0 0]) (by kernel_rfl) rfl (fun b0_0=>(aHN ?_))))
 refine LT rfl (aW (zs:=[.slice none 0 0,.slice none 0 0,.slice none 0 0,.int .i64 0,.int .i64 0,.int .i64 0,.int .i64 0]) (by kernel_rfl) rfl (fun b0_1=>(aHN ?_)))
 refine aNn (aSR (aA rfl (aNn (aSR (aM rfl (aM rfl (aU rfl (zF rfl rfl (Nat.le_of_ble_eq_true rfl)) (aM rfl (aU rfl (zF rfl rfl (Nat.le_of_ble_eq_true rfl)) (aU rfl (bP (l:=[(1,.const (.int .i64 1))]) (zs:=[.int .i64 0,.int .i64 0,.int .i64 0,.int .i64 0]) (pl:=[(0,1),(1,1),(2,1),(3,1)]) (by kernel_rfl) (by kernel_rfl) (by kernel_rfl) rfl rfl rfl) (aU rfl (bP (l:=[(0,.const (.int .i64 8)),(1,.const (.int .i64 6)),(2,.tmp 9)]) (zs:=[.int .i64 0,.int .i64 0,.int .i64 0,.int .i64 0,.int .i64 0,.int .i64 0,.int .i64 0]) (pl:=[(0,1),(1,1),(2,4),(6,1)]) (by kernel_rfl) (by kernel_rfl) (by kernel_rfl) rfl rfl rfl) (aU rfl (bP (l:=[(1,.const (.int .i64 1))]) (zs:=[.int .i64 0,.int .i64 0,.int .i64 0,.int .i64 0]) (pl:=[(0,1),(1,1),(2,1),(3,1)]) (by kernel_rfl) (by kernel_rfl) (by kernel_rfl) rfl rfl rfl) (aU rfl (bP (l:=[(0,.const (.int .i64 16)),(1,.const (.int .i64 6)),(2,.tmp 11)]) (zs:=[.int .i64 0,.int .i64 0,.int .i64 0,.int .i64 0,.int .i64 0,.int .i64 0,.int .i64 0]) (pl:=[(0,1),(1,1),(2,4),(6,1)]) (by kernel_rfl) (by kernel_rfl) (by kernel_rfl) rfl rfl rfl) (eK (zs:=[.int .i64 0,.int .i64 0,.int .i64 0,.int .i64 0,.int .i64 0,.int .i64 0,.int .i64 0]) (l:=[(0,.tmp 10),(1,.tmp 12)]) el45 (by kernel_rfl) (by decide) (by decide) (by decide) rfl _ rfl (fun hc=>rfl) rfl (.more rfl (.v rfl (.v rfl (.v rfl (.v rfl (.v rfl (.v rfl (.v rfl .nil))))))) (.more rfl (.v rfl (.v rfl (.v rfl (.v rfl (.v rfl (.v rfl (.v rfl .nil))))))) .nil)) rfl rfl (fun v2_9 => ?_)))))))))))))))
 refine aU rfl (bP (l:=[(0,.const (.string ⟨#[111]⟩)),(1,.const (.string ⟨#[102]⟩)),(3,.const (.int .i64 8)),(4,.const (.int .i64 24)),(5,.tmp 8),(6,.tmp 13)]) (zs:=[.string .empty,.string .empty,.int .i64 0,.int .i64 0,.int .i64 0,.string .empty,.slice none 0 0,.slice none 0 0,.slice none 0 0,.slice none 0 0,.slice none 0 0,.slice none 0 0]) (pl:=[(0,1),(1,1),(2,1),(3,1),(4,1),(5,1),(6,1),(7,1),(8,1),(9,1),(10,1),(11,1)]) (by kernel_rfl) (by kernel_rfl) (by kernel_rfl) rfl rfl rfl) (aM rfl (aU rfl (bP (l:=[(2,.const (.int .i64 8))]) (zs:=[.int .i64 0,.int .i64 0,.int .i64 0,.int .i64 0]) (pl:=[(0,1),(1,1),(2,1),(3,1)]) (by kernel_rfl) (by kernel_rfl) (by kernel_rfl) rfl rfl rfl) (aU rfl (bP (l:=[(1,.const (.int .i64 6)),(2,.tmp 16)]) (zs:=[.int .i64 0,.int .i64 0,.int .i64 0,.int .i64 0,.int .i64 0,.int .i64 0,.int .i64 0]) (pl:=[(0,1),(1,1),(2,4),(6,1)]) (by kernel_rfl) (by kernel_rfl) (by kernel_rfl) rfl rfl rfl) (eK (zs:=[.int .i64 0,.int .i64 0,.int .i64 0,.int .i64 0,.int .i64 0,.int .i64 0,.int .i64 0]) (l:=[(0,.tmp 17)]) el45 (by kernel_rfl) (by decide) (by decide) (by decide) rfl _ rfl (fun hc=>rfl) rfl (.more rfl (.v rfl (.v rfl (.v rfl (.v rfl (.v rfl (.v rfl (.v rfl .nil))))))) .nil) rfl rfl (fun v2_14=>(aU rfl (bP (l:=[(0,.const (.string ⟨#[111]⟩)),(1,.const (.string ⟨#[103]⟩)),(3,.const (.int .i64 8)),(4,.const (.int .i64 8)),(5,.tmp 15),(6,.tmp 18)]) (zs:=[.string .empty,.string .empty,.int .i64 0,.int .i64 0,.int .i64 0,.string .empty,.slice none 0 0,.slice none 0 0,.slice none 0 0,.slice none 0 0,.slice none 0 0,.slice none 0 0]) (pl:=[(0,1),(1,1),(2,1),(3,1),(4,1),(5,1),(6,1),(7,1),(8,1),(9,1),(10,1),(11,1)]) (by kernel_rfl) (by kernel_rfl) (by kernel_rfl) rfl rfl rfl) (eK (zs:=[.string .empty,.string .empty,.int .i64 0,.int .i64 0,.int .i64 0,.string .empty,.slice none 0 0,.slice none 0 0,.slice none 0 0,.slice none 0 0,.slice none 0 0,.slice none 0 0]) (l:=[(0,.tmp 14),(1,.tmp 19)]) el22 (by kernel_rfl) (by decide) (by decide) (by decide) rfl _ rfl (fun hc=>rfl) rfl (.more rfl (.v rfl (.v rfl (.v rfl (.v rfl (.v rfl (.v rfl (.v rfl (.v rfl (.v rfl (.v rfl (.v rfl (.v rfl .nil)))))))))))) (.more rfl (.v rfl (.v rfl (.v rfl (.v rfl (.v rfl (.v rfl (.v rfl (.v rfl (.v rfl (.v rfl (.v rfl (.v rfl .nil)))))))))))) .nil)) rfl rfl (fun v2_16=>(aU rfl (bP (l:=[(0,.const (.string ⟨#[117]⟩)),(2,.tmp 20)]) (zs:=[.string .empty,.bool false,.slice none 0 0,.slice none 0 0,.slice none 0 0,.slice none 0 0,.slice none 0 0,.slice none 0 0,.int .i64 0,.int .i64 0,.int .i64 0,.int .i64 0,.slice none 0 0,.slice none 0 0]) (pl:=[(0,1),(1,1),(2,1),(3,1),(4,1),(5,1),(6,1),(7,1),(8,4),(12,1),(13,1)]) (by kernel_rfl) (by kernel_rfl) (by kernel_rfl) rfl rfl rfl) (LT rfl (aW (zs:=[.string .empty,.bool false,.slice none 0 0,.slice none 0 0,.slice none 0 0,.slice none 0 0,.slice none 0 0,.slice none 0 0,.int .i64 0,.int .i64 0,.int .i64 0,.int .i64 0,.slice none 0 0,.slice none 0 0]) (by kernel_rfl) rfl (fun b2_18=>(aHN ?_)))))))))))))
 refine aT rfl (bX 2 tk32 rfl rfl rfl rfl (aHK ?_))
 refine aNn (aSR (UL 2 tk32 rfl rfl rfl rfl (eK (zs:=[.int .i64 0]) (l:=[(0,.const (.int .i64 0)),(1,.const (.int .i64 600))]) el33 (by kernel_rfl) (by decide) (by decide) (by decide) rfl _ rfl (fun hc=>rfl) rfl (.more rfl (.v rfl .nil) (.more rfl (.v rfl .nil) .nil)) rfl rfl (fun v3_1=>(aU rfl (bP (l:=[(0,.tmp 23),(3,.const (.int .i64 768)),(4,.const (.int .i64 768)),(5,.const (.int .i64 768))]) (zs:=[.slice none 0 0,.slice none 0 0,.slice none 0 0,.int .i64 0,.int .i64 0,.int .i64 0,.int .i64 0]) (pl:=[(0,1),(1,1),(2,1),(3,1),(4,1),(5,1),(6,1)]) (by kernel_rfl) (by kernel_rfl) (by kernel_rfl) rfl rfl rfl) (aT rfl (bX 0 tk32 rfl rfl rfl rfl (aHK ?_))))))))
 refine aT rfl (bX 1 tk36 rfl rfl rfl rfl (aHK ?_))
 refine aNn (ae ?_)
 refine lS [3,2,1,0] [] rfl Tryz.results12 (ef 0 tk32 rfl rfl rfl) (ef 1 tk36 rfl rfl rfl) ?_ (.inr rfl)
 exact ⟨v2_9,v2_14,v2_16,v3_1,⟨rfl,rfl⟩,rfl⟩
theorem acp{α:Type}{f:α→Per}{ps:List Per}{a b:α}(h1:Ent ps (f a))(h2:Ent ps (f b)):Ent ps (bu f [a,b]):=fun w S h c hc=>by
 simp only [List.mem_cons,List.not_mem_nil,or_false] at hc
 rcases hc with rfl | rfl
 · exact h1 w S h
 · exact h2 w S h
theorem zn{ps:List Per}{x:aQ}(h1:x.obj.size≤maxLen)(h2:x.sec.size≤maxLen)(h3:x.bytes.size≤maxLen)(h4:Ent ps (ShF dE.row x.refs))(h5:x.marks=cI∧x.lines=cI∧x.inlines=cI∧x.vars=cI∧x.depths=cI):Ent ps x.ok:=by
 obtain ⟨a,b,c,d,e⟩:=h5
 unfold aQ.ok
 rw [a,b,c,d,e]
 exact .mk2 (si h1) (.mk2 (si h2) (.mk2 (si h3) (.mk2 h4 (.mk2 eC (.mk2 iq (.mk2 eC (.mk2 iq (.mk2 eC (.mk2 iq (.mk2 eC (.mk2 iq eC)))))))))))
theorem tN:Con Tryz.prog 12 [] [] [] fun r ps hp=>hp=[]∧∃ va vb vc vd,r=.tuple #[(gn va vb vc).val,(iO vd).val]∧ps=[(gn va vb vc).ok,(iO vd).ok] :=
 Con.conv rO fun v ps' hp' ⟨va,vb,vc,vd,⟨h1,h2⟩,h3⟩=>by
   subst h1 h2 h3
   refine ⟨_,_,StE.ents (ps':=[(gn va vb vc).ok,(iO vd).ok]) fun p hp => ?_,rfl,va,vb,vc,vd,rfl,rfl⟩
   simp only [List.mem_cons,List.not_mem_nil,or_false] at hp
   rcases hp with rfl | rfl
   · exact .mk2 (si (Nat.le_of_ble_eq_true rfl)) (.mk2 (.yes (.of (ax 1 rfl)) rfl) (.mk2 (acp (zn (Nat.le_of_ble_eq_true rfl) (Nat.le_of_ble_eq_true rfl) (Nat.le_of_ble_eq_true rfl) (.yes (.of (ax 3 rfl)) rfl) ⟨rfl,rfl,rfl,rfl,rfl⟩) (zn (Nat.le_of_ble_eq_true rfl) (Nat.le_of_ble_eq_true rfl) (Nat.le_of_ble_eq_true rfl) (.yes (.of (ax 2 rfl)) rfl) ⟨rfl,rfl,rfl,rfl,rfl⟩)) (.mk2 eC (.mk2 iq (.mk2 eC (.mk2 iq (.mk2 eC (.mk2 eC (.mk2 eC (.mk2 iq (.mk2 eC (.mk2 iq (.mk2 eC iq)))))))))))))
   · exact .mk2 (.yes (.of (ax 0 rfl)) rfl) (.mk2 eC eC)
abbrev kB(vd:Option Addr)(T:Sl bj):aN:=⟨⟨vd,2,[0,600]⟩,cI,T,768,768,768,0⟩
abbrev ab5:List bt:=[⟨8,⟨8,6,⟨0,1,0,0⟩,0⟩⟩,⟨16,⟨16,6,⟨0,1,0,0⟩,0⟩⟩,⟨600,⟨0,6,⟨0,0,8,0⟩,0⟩⟩]
theorem qe(va vb vc vd:Option Addr):bR (gn va vb vc).nodes.l (iO vd).nodes.l=ab5:=by kernel_rfl
theorem rq(va vb vc vd:Option Addr)(T:Sl bj):tn (gn va vb vc) (kB vd T) where
 len:=rfl
 few:=Nat.le_of_ble_eq_true rfl
 refs:=Nat.le_of_ble_eq_true rfl
 ln:=fun z hz=>by
   simp only [List.mem_cons,List.not_mem_nil,or_false] at hz
   unfold I64;omega
 size:=fun x hx=>by
   simp only [List.mem_cons,List.not_mem_nil,or_false] at hx
   rcases hx with rfl | rfl
   · show I64 24;unfold I64;omega
   · show I64 8;unfold I64;omega
 code:=by show I64 768;unfold I64;omega
 at_ := fun k x a hx ha r hr=>by
   match k with
   | 0 =>
     simp only [List.getElem?_cons_zero,Option.some.injEq] at hx ha
     subst hx ha
     simp only [List.mem_cons,List.not_mem_nil,or_false] at hr
     rcases hr with rfl | rfl<;>exact ⟨by decide,by decide⟩
   | 1 =>
     simp only [List.getElem?_cons_succ,List.getElem?_cons_zero,Option.some.injEq] at hx ha
     subst hx ha
     simp only [List.mem_cons,List.not_mem_nil,or_false] at hr
     rcases hr with rfl
     exact ⟨by decide,by decide⟩
   | k+2=>simp at hx
 call:=fun c hc=>by
   have hc':c∈ab5:=by rw [← qe va vb vc vd];exact hc
   have hln:∀ z∈[(0:Int),600],-1099511627776≤z∧z≤1099511627776:=fun z hz=>by
     simp only [List.mem_cons,List.not_mem_nil,or_false] at hz
     omega
   simp only [List.mem_cons,List.not_mem_nil,or_false] at hc'
   rcases hc' with rfl | rfl | rfl
   · exact ⟨⟨.inl rfl,fun _=>⟨by decide,by show (1:Int)<2;decide⟩,⟨by decide,by decide⟩,⟨by decide,by decide⟩,⟨by decide,by decide⟩,hln⟩,by decide,by decide⟩
   · exact ⟨⟨.inl rfl,fun _=>⟨by decide,by show (1:Int)<2;decide⟩,⟨by decide,by decide⟩,⟨by decide,by decide⟩,⟨by decide,by decide⟩,hln⟩,by decide,by decide⟩
   · exact ⟨⟨.inl rfl,fun _=>⟨by decide,by show (0:Int)<2;decide⟩,⟨by decide,by decide⟩,⟨by decide,by decide⟩,⟨by decide,by decide⟩,hln⟩,by decide,by decide⟩
abbrev uY:List bj:=[⟨24,0,1,0⟩,⟨88,0,0,8⟩]
theorem aah(va vb vc vd:Option Addr):q0S (gn va vb vc) (iO vd)=⟨[],[(24,576),(608,160)],[]⟩:=by kernel_rfl
theorem abb:(kx [0,600] ab5 ⟨[],[(24,576),(608,160)],[]⟩).map (fun q=>sI 0 q.U q.S)=some uY:=by kernel_rfl
theorem xP{va vb vc vd:Option Addr}{L:aN}{e:Int}(h:abu (bR (gn va vb vc).nodes.l (iO vd).nodes.l) (q0S (gn va vb vc) (iO vd)) 0 (iO vd) L e):∃ a c,L=kB vd ⟨a,c,uY⟩∧e=0:=by
 rw [qe,aah] at h
 have hr:=abb
 rcases h with ⟨h1,_⟩ | ⟨q,T,h1,h2,h3,h4⟩
 · rw [show (iO vd).nodes.l=[0,600] from rfl] at h1
   rw [h1] at hr;cases hr
 · rw [show (iO vd).nodes.l=[0,600] from rfl] at h1
   rw [h1,Option.map_some,Option.some.injEq,← h3] at hr
   obtain ⟨a,c,l⟩:=T
   dsimp only at hr
   subst hr
   exact ⟨a,c,h2,h4⟩
theorem lE{va vb vc vd a:Option Addr}{c:Nat}{i k n:Int}{b:Bool}{S:List bj}(h:SvR (gn va vb vc) (kB vd ⟨a,c,S⟩) i k n b)(hi:InC (gn va vb vc) i k)(j:Int)(hn:dt [0,600] (iN (gn va vb vc) (kB vd ⟨a,c,S⟩) i k)=true)(hf:b9 (iN (gn va vb vc) (kB vd ⟨a,c,S⟩) i k) S=j):n=max j 0∧b=decide (0≤j):=by
 rcases h with ⟨h1,_⟩ | ⟨_,_,⟨h1,_⟩ | ⟨_,h2,h3⟩⟩
 · exact absurd hi h1
 · rw [show (kB vd ⟨a,c,S⟩).nodes.l=[0,600] from rfl,hn] at h1;cases h1
 · rw [show (kB vd ⟨a,c,S⟩).stubs.l=S from rfl,hf] at h2 h3;exact ⟨h2,h3⟩
theorem aa9(va vb vc:Option Addr):InC (gn va vb vc) 0 1:=⟨⟨by decide,by show (0:Int)<2;decide⟩,⟨by decide,by show (1:Int)<2;decide⟩,rfl⟩
theorem aa8(va vb vc:Option Addr):InC (gn va vb vc) 0 0:=⟨⟨by decide,by show (0:Int)<2;decide⟩,⟨by decide,by show (0:Int)<2;decide⟩,rfl⟩
theorem aba(va vb vc:Option Addr):InC (gn va vb vc) 1 0:=⟨⟨by decide,by show (1:Int)<2;decide⟩,⟨by decide,by show (0:Int)<1;decide⟩,rfl⟩
theorem vM:∀ s∈uY,-1099511627776≤s.at_∧s.at_≤1099511627776:=fun s hs=>by
 simp only [List.mem_cons,List.not_mem_nil,or_false] at hs
 rcases hs with rfl | rfl<;>exact ⟨by decide,by decide⟩
theorem qH:Con Tryz.prog 5 [] [] [] fun r _ _=>r=.bool true:=by
 refine Con.enter Tryz.func5 rfl (by simp [Tryz.ntmps5]) ?_
 show awp _ _ _ _ ⟨[],_,_⟩
 refine aSR (aA rfl (aNn (aSR (LT rfl (EC [] [] rfl (tN) ?_)))))
 rintro _ _ _ ⟨rfl,va,vb,vc,vd,rfl,rfl⟩
 refine aST ?_
 refine aM rfl (aU rfl (cT rfl rfl) (aU rfl (cT rfl rfl) (LT rfl (aW (zs:=[.string .empty,.bool false,.slice none 0 0,.slice none 0 0,.slice none 0 0,.slice none 0 0,.slice none 0 0,.slice none 0 0,.int .i64 0,.int .i64 0,.int .i64 0,.int .i64 0,.slice none 0 0,.slice none 0 0]) (by kernel_rfl) rfl (fun b1_4=>(aHN ?_))))))
 refine LT rfl (aW (zs:=[.slice none 0 0,.slice none 0 0,.slice none 0 0,.int .i64 0,.int .i64 0,.int .i64 0,.int .i64 0]) (by kernel_rfl) rfl (fun b1_5=>(aHN ?_)))
 refine aT rfl (bX 0 tk32 rfl rfl rfl rfl (aHK ?_))
 refine aT rfl (bX 1 tk36 rfl rfl rfl rfl (aHK ?_))
 refine aNn (aSR (UL 0 tk32 rfl rfl rfl rfl (UL 1 tk36 rfl rfl rfl rfl (LT rfl (EC [1,0] [] rfl ((ua (gn va vb vc) (iO vd) (rq va vb vc vd cI)).pre (jm (aJ.f_nodes (.of (ax 0 rfl))) (aJ.f_nodesA (.of (ax 0 rfl))) (aN.f_nodes (.of (ax 1 rfl))))) ?_)))))
 rintro _ _ _ ⟨rfl,L,e,⟨rfl,rfl⟩,hL⟩
 refine aST ?_
 refine aM rfl (aU rfl (cT rfl rfl) (aU rfl (cT rfl rfl) (LT rfl (aW (zs:=[.slice none 0 0,.slice none 0 0,.slice none 0 0,.int .i64 0,.int .i64 0,.int .i64 0,.int .i64 0]) (by kernel_rfl) rfl (fun b2_6=>(aHN ?_))))))
 refine aT rfl (bX 2 tk36 rfl rfl rfl rfl (aHK ?_))
 refine aA rfl (aNs (aq ?_))
 obtain ⟨sa,sc,rfl,rfl⟩:=xP hL
 refine az (aM rfl (aU rfl (fg rfl rfl) (aM rfl (GO 2 rfl rfl rfl (GL 2 tk34 rfl rfl rfl rfl rfl (aG rfl rfl (fun hc=>bk Tryz.underlying34 (ah rfl hc)) (aG rfl rfl (fun hc=>fg (ah rfl hc) rfl) (aU rfl (eX rfl rfl (fun h=>gf rfl h)) (aM rfl (GO 0 rfl rfl rfl (GL 2 tk33 rfl rfl rfl rfl rfl (aG rfl rfl (fun hc=>bk Tryz.underlying33 (ah rfl hc)) (aG rfl rfl (fun hc=>fg (ah rfl hc) rfl) (aU rfl (eX rfl rfl (fun h=>gf rfl h)) (aNn ?_)))))))))))))))
 refine aa _ rfl (fun h1 => ?_) (fun h1 => ?_)
 ·skip
  exact Bool.noConfusion (show false=true from h1)
 ·skip
  refine aD (an (aSR (UL 0 tk32 rfl rfl rfl rfl (UL 2 tk36 rfl rfl rfl rfl (LT rfl (EC [2,1,0] [] rfl ((iC (gn va vb vc) (kB vd ⟨sa,sc,uY⟩) 0 1 (rq va vb vc vd _) vM).pre (ej (.of (ax 1 rfl)) (.mk2 (aN.f_nodes (x:=iO vd) (.of (ax 2 rfl))) (.mk2 eC (.of (ax 0 rfl)))))) ?_))))))
  rintro _ _ _ ⟨⟨rfl,rfl⟩,n1,t1,rfl,hv1⟩
  refine aST ?_
  refine aM rfl (aU rfl (cT rfl rfl) (aU rfl (cT rfl rfl) (aA rfl (aA rfl (aNn (aSR (UL 0 tk32 rfl rfl rfl rfl (UL 2 tk36 rfl rfl rfl rfl (LT rfl (EC [2,1,0] [] rfl ((iC (gn va vb vc) (kB vd ⟨sa,sc,uY⟩) 1 0 (rq va vb vc vd _) vM).pre (ej (.of (ax 1 rfl)) (.mk2 (aN.f_nodes (x:=iO vd) (.of (ax 2 rfl))) (.mk2 eC (.of (ax 0 rfl)))))) ?_))))))))))
  rintro _ _ _ ⟨⟨rfl,rfl⟩,n2,t2,rfl,hv2⟩
  refine aST ?_
  refine aM rfl (aU rfl (cT rfl rfl) (aU rfl (cT rfl rfl) (aA rfl (aA rfl (aNn (aSR (UL 0 tk32 rfl rfl rfl rfl (UL 1 tk36 rfl rfl rfl rfl ?_))))))))
  refine LT rfl (EC [1,0] [] rfl (iC (gn va vb vc) (iO vd) 0 0 (rq va vb vc vd cI) (fun s hs=>by cases hs)) ?_)
  rintro _ _ _ ⟨⟨rfl,rfl⟩,n3,t3,rfl,hv3⟩
  refine aST ?_
  refine aM rfl (aU rfl (cT rfl rfl) (aU rfl (cT rfl rfl) (aA rfl (aA rfl (aNs ?_)))))
  obtain ⟨rfl,rfl⟩:=lE hv1 (aa9 va vb vc) 0 (by kernel_rfl) (by kernel_rfl)
  obtain ⟨rfl,rfl⟩:=lE hv2 (aba va vb vc) 1 (by kernel_rfl) (by kernel_rfl)
  obtain ⟨rfl,rfl⟩:=lE (S:=[]) hv3 (aa8 va vb vc) (-1) (by kernel_rfl) (by kernel_rfl)
  refine az (UO 2 rfl rfl (UL 2 tk34 rfl rfl rfl rfl (UI Tryz.underlying34 tk44 0 rfl rfl rfl rfl rfl (ak (show uY[0]? = some ⟨24,0,1,0⟩ from rfl)) rfl rfl (fun ⟨b8_2,o8_2⟩=>(US 0 tk44 0 rfl rfl rfl rfl rfl (aU rfl (bP (l:=[(0,.const (.int .i64 24)),(2,.const (.int .i64 1))]) (zs:=[.int .i64 0,.int .i64 0,.int .i64 0,.int .i64 0]) (pl:=[(0,1),(1,1),(2,1),(3,1)]) (by kernel_rfl) (by kernel_rfl) (by kernel_rfl) rfl rfl rfl) (aU rfl (lC (by kernel_rfl) (by kernel_rfl) (by kernel_rfl) (fun w=>gl 9998 _ _ _ w (by kernel_rfl) rfl rfl) rfl rfl) (aM rfl (GO 2 rfl rfl rfl (GL 2 tk34 rfl rfl rfl rfl rfl (bI _ rfl rfl (fun hc=>ai Tryz.underlying34 tk44 (ah rfl hc) ((.of (ax 1 rfl))) rfl (ak (show uY[1]? = some ⟨88,0,0,8⟩ from rfl)) rfl rfl) (fun _=>⟨(0,0)⟩) (fun ⟨b8_9,o8_9⟩=>(aG rfl rfl (fun hc=>cq (o:=0) tk44 (ah rfl hc) (ax 0 rfl) hc rfl) (aG rfl rfl (fun hc=>bP (l:=[(0,.const (.int .i64 88)),(3,.const (.int .i64 8))]) (zs:=[.int .i64 0,.int .i64 0,.int .i64 0,.int .i64 0]) (pl:=[(0,1),(1,1),(2,1),(3,1)]) (by kernel_rfl) (by kernel_rfl) (by kernel_rfl) rfl rfl rfl) (aG rfl rfl (fun hc=>lC (by kernel_rfl) (by kernel_rfl) (by kernel_rfl) (fun w=>gl 9998 _ _ _ w (by kernel_rfl) rfl rfl) (ah rfl hc) (ah rfl hc)) ?_)))))))))))))))
  refine aU rfl (dv rfl rfl (fun h=>gt rfl h)) (aM rfl (aG rfl rfl (fun hc=>bo rfl) (aG rfl rfl (fun hc=>dw (ah rfl hc) rfl) (aU rfl (dv rfl rfl (fun h=>gt rfl h)) (aM rfl (aG rfl rfl (fun hc=>bo rfl) (aU rfl (dv rfl rfl (fun h=>gt rfl h)) (aM rfl (aG rfl rfl (fun hc=>bo rfl) (aG rfl rfl (fun hc=>dw (ah rfl hc) rfl) (aU rfl (dv rfl rfl (fun h=>gt rfl h)) (aM rfl (aG rfl rfl (fun hc=>bo rfl) (aU rfl (dv rfl rfl (fun h=>gt rfl h)) (aM rfl (aG rfl rfl (fun hc=>bo rfl) (aG rfl rfl (fun hc=>eJ (ah rfl hc)) (aU rfl (dv rfl rfl (fun h=>gt rfl h)) (aM rfl ?_)))))))))))))))))))
  refine GO 0 rfl rfl rfl (GL 2 tk33 rfl rfl rfl rfl rfl (bI _ rfl rfl (fun hc=>ai Tryz.underlying33 tk3 (ah rfl hc) ((aN.f_nodes (x:=iO vd) (.of (ax 4 rfl)))) rfl (ak (row:=bd) (show [(0:Int),600][1]? = some 600 from rfl)) rfl rfl) (fun _=>⟨(0,0)⟩) (fun ⟨b8_35,o8_35⟩=>(aG rfl rfl (fun hc=>cq (o:=0) tk3 (ah rfl hc) (ax 0 rfl) hc rfl) (aG rfl rfl (fun hc=>dw (ah rfl hc) rfl) (aU rfl (dv rfl rfl (fun h=>gt rfl h)) (aA rfl (aNn (ae (FZ1 [] Tryz.results5 rfl ?_))))))))))
  exact congrArg Value.bool (by kernel_rfl)
end Go.Proofs.YtgkbbdgklpabpaaGreatDoor

namespace Go.Proofs.YtgkbbdgklpabpaaGreatDoor
open Go.RowKit Go.Lp Go.Sy
def NdZ(x:aQ):Prop:=(0≤x.size∧x.size≤1048576)∧(1≤x.align∧x.align≤256)
section
variable (u:aJ) (spare:Int)
end
end Go.Proofs.YtgkbbdgklpabpaaGreatDoor

namespace Go.Sy
open Go.RowKit Go.Lp
end Go.Sy
namespace Go.Proofs.YtgkbbdgklpabpaaGreatDoor
open Go.RowKit Go.Lp Go.Sy
open Go.Proofs.Tryz
attribute [local irreducible] aL aB awp aC fwp Quiet
theorem Con.know{P:Program}{f:FuncId}{args:List Value}{ps:List Per}{hp:List Res}{R:Value→List Per→List Res→Prop}{φ:Value→Prop}(h:Con P f args ps hp R)(hk:∀ v ps' hp',R v ps' hp'→∀ w S fp,St w S fp ps' hp'→φ v):Con P f args ps hp fun v ps' hp'=>R v ps' hp'∧φ v:=fun w S fp hst =>
 (h w S fp hst).mono fun _ _ ⟨v,ps',hp',S',fp',he,hR,hst',hE,hg⟩=>⟨v,ps',hp',S',fp',he,⟨hR,hk _ _ _ hR _ _ _ hst'⟩,hst',hE,hg⟩
end Go.Proofs.YtgkbbdgklpabpaaGreatDoor

namespace Go.Proofs.YtgkbbdgklpabpaaGreatDoor
open Go.RowKit Go.Lp Go.Sy
theorem xo{u:aJ}(hu:iy u):∀ x∈u.nodes.l,NdZ x:=fun x hx=>by
 have h:=(hu.nodes x hx).sec
 have h1:0≤x.size∧x.size≤1048576:=h.size
 have h2:1≤x.align∧x.align≤256:=h.al
 exact ⟨h1,h2⟩
structure aap (u:aJ) (l:aN):Prop where
 len:l.nodes.l.length=u.nodes.l.length
 slen:l.slots.l.length=u.imports.l.length
 slots:∀ z∈l.slots.l,I64 z
 code:0≤l.code∧l.code≤1048576
 node:∀ (k:Nat) (x:aQ),u.nodes.l[k]? = some x→∃ a,l.nodes.l[k]? = some a∧(0≤a∧a+x.size≤1048576)∧(x.kind=0→a+x.size≤l.code)
theorem we{ns:List aQ}{ln:List Int}{c:bt}(h:c∈bR ns ln):∃ (k:Nat) (x:aQ) (a:Int) (r:dE),ns[k]? = some x∧ln[k]? = some a∧r∈x.refs.l∧r.kind=6∧c=⟨a+r.at_,r⟩:=by
 obtain ⟨⟨x,a⟩,hp,hc⟩:=List.mem_flatMap.1 h
 obtain ⟨r,hr,rfl⟩:=List.mem_map.1 hc
 obtain ⟨k,hk⟩:=List.mem_iff_getElem?.1 hp
 obtain ⟨h1,h2⟩:=List.getElem?_zip_eq_some.1 hk
 have h3:=List.mem_filter.1 hr
 exact ⟨k,x,a,r,h1,h2,h3.1,by simpa using h3.2,rfl⟩
theorem aax{u:aJ}{l:aN}(hu:iy u)(hf:aap u l){c:bt}(h:c∈bR u.nodes.l l.nodes.l):jk l.nodes.l c∧(0≤c.at_∧c.at_+8≤l.code)∧aao u c.r.to_:=by
 obtain ⟨k,x,a,r,h1,h2,h3,h4,rfl⟩:=we h
 have hx:=hu.nodes x (List.mem_of_getElem? h1)
 obtain ⟨hr,hft⟩:=hx.refs r h3
 obtain ⟨a',e,ha,hc⟩:=hf.node k x h1
 rw [h2] at e
 obtain rfl:=Option.some.inj e
 have hk0:=(hr.code (by rw [h4];decide)).1
 have hat:=hr.at_
 rw [h4,show dN 6=8 from rfl] at hat
 have hca:=hc hk0
 have hcd:=hf.code
 have hkk:r.to_.kind=0∨r.to_.kind=1:=by
   by_cases h0:r.to_.kind=0
   · exact .inl h0
   · by_cases h5:r.to_.kind=1
     · exact .inr h5
     · have:=hft.nul h0 h5
       rw [h4] at this
       exact absurd this (by decide)
 have hz:=xo hu
 refine ⟨⟨hkk,fun h0=>by rw [hf.len];exact (hft.ex.node h0).1,by dsimp only;omega,?_,by have:=hr.add;dsimp only;omega,fun z hzz => ?_⟩,by dsimp only;omega,hft.ex⟩
 · rcases hkk with h0 | h0
   · have h5:=hft.ex.node h0
     have h6:=(hz (elt u.nodes.l r.to_.n) (List.mem_of_getElem? (cS h5.1.2 h5.1.1))).1
     dsimp only;omega
   · have h5:=hft.ex.imp h0
     dsimp only;omega
 · obtain ⟨j,hj⟩:=List.mem_iff_getElem?.1 hzz
   have hjl:=(List.getElem?_eq_some_iff.1 hj).1
   obtain ⟨y,hy⟩:∃ y,u.nodes.l[j]? = some y:=⟨_,List.getElem?_eq_getElem (by rw [← hf.len];exact hjl)⟩
   obtain ⟨b,e,hb,_⟩:=hf.node j y hy
   rw [hj] at e
   obtain rfl:=Option.some.inj e
   have:=(hz y (List.mem_of_getElem? hy)).1
   omega
theorem abl{u:aJ}{l:aN}(hu:iy u)(hs:SzU u)(hR:dV u.nodes.l≤100000000)(hf:aap u l):tn u l where
 len:=hf.len
 few:=hs.nodes
 refs:=hR
 ln:=fun z hzz=>by
   obtain ⟨j,hj⟩:=List.mem_iff_getElem?.1 hzz
   have hjl:=(List.getElem?_eq_some_iff.1 hj).1
   obtain ⟨y,hy⟩:∃ y,u.nodes.l[j]? = some y:=⟨_,List.getElem?_eq_getElem (by rw [← hf.len];exact hjl)⟩
   obtain ⟨b,e,hb,_⟩:=hf.node j y hy
   rw [hj] at e
   obtain rfl:=Option.some.inj e
   have:=(xo hu y (List.mem_of_getElem? hy)).1
   unfold I64;omega
 size:=fun x hx=>by have:=(xo hu x hx).1;unfold I64;omega
 code:=by have:=hf.code;unfold I64;omega
 at_:=fun k x a hx ha r hr=>by
   obtain ⟨b,e,hb,_⟩:=hf.node k x hx
   rw [ha] at e
   obtain rfl:=Option.some.inj e
   have h1:=(xo hu x (List.mem_of_getElem? hx)).1
   have h2:=((hu.nodes x (List.mem_of_getElem? hx)).refs r hr).1.at_
   have h3:0≤dN r.kind:=by unfold dN;split<;>(try split)<;>omega
   omega
 call:=fun c hc=>by
   obtain ⟨h1,h2,_⟩:=aax hu hf hc
   have:=hf.code
   exact ⟨h1,by omega,by omega⟩
def tm(ln:List Int)(c:bt):Prop:=om ln c=false∧dt ln c=true
structure aar (ln:List Int) (cs done:List bt) (q:StS):Prop where
 by_:∀ s∈q.S,∃ c∈cs,tm ln c∧s.kind=(eF c).kind∧s.n=(eF c).n
 last:q.S≠[]→∃ c∈cs,tm ln c∧b9 c q.S.dropLast<0
 srv:∀ c∈done,dt ln c=true→∃ s∈q.S,s.kind=(eF c).kind∧s.n=(eF c).n
theorem wZ{c:bt}{S:List bj}(h:0≤b9 c S):∃ s∈S,s.kind=(eF c).kind∧s.n=(eF c).n:=by
 unfold b9 at h
 split at h
 · rename_i i hi
   have hm:=List.findIdx?_eq_some_iff_getElem.1 hi
   obtain ⟨hl,h1,_⟩:=hm
   have h2:=h1
   unfold mq at h2
   rw [Bool.and_eq_true,decide_eq_true_eq] at h2
   exact ⟨S[i],List.getElem_mem hl,h2.1.1,h2.1.2.1⟩
 · omega
theorem aar.step{ln:List Int}{cs done:List bt}{q q':StS}{c:bt}(h:aar ln cs done q)(hc:c∈cs)(he:fj ln q c=some q'):aar ln cs (done++[c]) q':=by
 have key:∀ (q2:StS),(∀ s∈q.S,s∈q2.S)→(∀ s∈q2.S,∃ c∈cs,tm ln c∧s.kind=(eF c).kind∧s.n=(eF c).n)→(q2.S≠[]→∃ c∈cs,tm ln c∧b9 c q2.S.dropLast<0)→(dt ln c=true→∃ s∈q2.S,s.kind=(eF c).kind∧s.n=(eF c).n)→aar ln cs (done++[c]) q2:=fun q2 h1 h2 h3 h4=>⟨h2,h3,fun d hd hn=>by
   rcases List.mem_append.1 hd with hd | hd
   · obtain ⟨s,hs,h5⟩:=h.srv d hd hn
     exact ⟨s,h1 s hs,h5⟩
   · rw [List.mem_singleton.1 hd] at hn ⊢;exact h4 hn⟩
 unfold fj at he
 split at he
 · cases he
 rename_i hod
 split at he
 · rename_i hn
   cases he
   exact key q (fun _ h=>h) h.by_ h.last fun hh=>by rw [hn] at hh;cases hh
 rename_i hn
 split at he
 · rename_i hf
   cases he
   exact key _ (fun _ h=>h) h.by_ h.last fun _=>wZ hf
 rename_i hf
 split at he
 · cases he
   have hfc:tm ln c:=⟨by simpa using hod,by simpa using hn⟩
   refine key _ (fun s hs=>List.mem_append_left _ hs) (fun s hs => ?_) (fun _ => ?_) fun _=>⟨_,List.mem_append_right _ (List.mem_singleton.2 rfl),rfl,rfl⟩
   · rcases List.mem_append.1 hs with hs | hs
     · exact h.by_ s hs
     · rw [List.mem_singleton.1 hs];exact ⟨c,hc,hfc,rfl,rfl⟩
   · refine ⟨c,hc,hfc,?_⟩
     dsimp only
     rw [List.dropLast_concat]
     omega
 · cases he
structure adf (u:aJ) (L:aN):Prop where
 right:iy u
 fs:aap u L
 by_:∀ s∈L.stubs.l,∃ c∈bR u.nodes.l L.nodes.l,tm L.nodes.l c∧s.kind=(eF c).kind∧s.n=(eF c).n
 last:L.stubs.l≠[]→∃ c∈bR u.nodes.l L.nodes.l,tm L.nodes.l c∧b9 c L.stubs.l.dropLast<0
 at_:∀ s∈L.stubs.l,-4398046511104≤s.at_∧s.at_≤4398046511104
 srv:∀ c∈bR u.nodes.l L.nodes.l,dt L.nodes.l c=true→∃ s∈L.stubs.l,s.kind=(eF c).kind∧s.n=(eF c).n
open Go.Proofs.Tryz
attribute [local irreducible] aL aB awp aC fwp Quiet
theorem tM(u:aJ)(l:aN)(hs:SzU u):Con Tryz.prog 6 [u.val,l.val] [u.ok,bC,dR] [] (YB (iy u∧l.stubs.l.length≤60)):=by
 have hN:=hs.nodes
 refine EN2 Tryz.func6 rfl (aSR (LT rfl (aS rfl rfl rfl (fun b0_0=>(aHN ?_)))))
 refine LT rfl (aS rfl rfl rfl (fun b0_1=>(aHN ?_)))
 refine aA rfl (aNs (aSR (UO 2 rfl rfl (UL 0 tk22 rfl rfl rfl rfl (aU rfl (bk Tryz.underlying22 rfl) (aU rfl (eH rfl rfl) (aM rfl (GO 3 rfl rfl rfl (GL 0 tk23 rfl rfl rfl rfl rfl (aG rfl rfl (fun hc=>bk Tryz.underlying23 (ah rfl hc)) (aG rfl rfl (fun hc=>eH (ah rfl hc) rfl) (aU rfl (eX rfl rfl (fun h=>gf rfl h)) (aM rfl (GO 4 rfl rfl rfl ?_))))))))))))))
 refine GL 0 tk24 rfl rfl rfl rfl rfl (aG rfl rfl (fun hc=>bk Tryz.underlying24 (ah rfl hc)) (aG rfl rfl (fun hc=>eH (ah rfl hc) rfl) (aU rfl (eX rfl rfl (fun h=>gf rfl h)) (aM rfl (GO 13 rfl rfl rfl (GL 0 tk30 rfl rfl rfl rfl rfl (aG rfl rfl (fun hc=>bk Tryz.underlying30 (ah rfl hc)) (aG rfl rfl (fun hc=>eH (ah rfl hc) rfl) (aU rfl (eX rfl rfl (fun h=>gf rfl h)) (aM rfl (GO 3 rfl rfl rfl (GL 1 tk3 rfl rfl rfl rfl rfl (aG rfl rfl (fun hc=>eH (ah rfl hc) rfl) (aU rfl (eX rfl rfl (fun h=>gf rfl h)) (aM rfl ?_)))))))))))))))
 refine GO 2 rfl rfl rfl (GL 1 tk34 rfl rfl rfl rfl rfl (aG rfl rfl (fun hc=>bk Tryz.underlying34 (ah rfl hc)) (aG rfl rfl (fun hc=>eH (ah rfl hc) rfl) (aU rfl (eX rfl rfl (fun h=>gf rfl h)) (aNn ?_)))))
 refine aa _ rfl (fun h1 => ?_) (fun h1 => ?_)
 ·skip
  refine aSR (aA rfl (aNn (ae (aj (FZ1 [] Tryz.results6 rfl ?_)))))
  exact ⟨⟨rfl,rfl⟩,_,rfl,fun h=>by cases h⟩
 ·skip
  have hst:l.stubs.l.length≤60:=by simp at h1;omega
  refine aD (an (aq (aSR (aA rfl (aNn (aH (aF [2,5] [2,1,0] [0] (fun (k:Nat) st=>k≤u.nodes.l.length∧st=⟨[(2,true,.pointer (some ⟨b0_0,0,none⟩)),(5,true,.int .i64 k)],[u.ok,bC,dR],[Box b0_0 32 u.vs]⟩) (fun k=>u.nodes.l.length-k) rfl (⟨0,Nat.zero_le _,rfl⟩) ?_)))))))
  rintro k st ⟨hk,rfl⟩
  refine aq (aSR (aM rfl (UO 2 rfl rfl (UL 0 tk22 rfl rfl rfl rfl (aU rfl (bk Tryz.underlying22 rfl) (aU rfl (cf rfl rfl) (aNn ?_)))))))
  refine aa _ rfl (fun h2 => ?_) (fun h2 => ?_)
  ·skip
   have hk':k<u.nodes.l.length:=by simpa using h2
   obtain ⟨x,hx⟩:∃ x,u.nodes.l[k]? = some x:=⟨_,List.getElem?_eq_getElem hk'⟩
   refine aD (an (aq (aH (aSR (UO 2 rfl rfl (UL 0 tk22 rfl rfl rfl rfl (aM rfl (bI true rfl rfl (fun _=>ai Tryz.underlying22 tk52 rfl ((aJ.f_nodes (.of (ax 0 rfl)))) rfl (ak hx) rfl rfl) (fun h=>absurd h (by decide)) (fun ⟨b6_3,o6_3⟩=>(UO 6 rfl rfl (US 6 tk45 0 rfl rfl rfl rfl rfl (aU rfl (bk Tryz.underlying45 rfl) (aU rfl (eH rfl rfl) (aM rfl (GO 2 rfl rfl rfl ?_)))))))))))))))
   refine GL 0 tk22 rfl rfl rfl rfl rfl (aG rfl rfl (fun hc=>bo rfl) (bI _ rfl rfl (fun hc=>ai Tryz.underlying22 tk52 (ah rfl hc) ((aJ.f_nodes (.of (ax 1 rfl)))) (ah rfl hc) (ak hx) rfl rfl) (fun _=>⟨(0,0)⟩) (fun ⟨b6_12,o6_12⟩=>(aG rfl rfl (fun hc=>qFA (off:=5) (ah rfl hc)) (aG rfl rfl (fun hc=>cq (o:=5) tk9 (ah rfl hc) (ax 0 rfl) hc rfl) (aG rfl rfl (fun hc=>sP Tryz.underlying9 (ah rfl hc)) (aG rfl rfl (fun hc=>eH (ah rfl hc) rfl) (aU rfl (eX rfl rfl (fun h=>gf rfl h)) (aM rfl (GO 2 rfl rfl rfl (GL 0 tk22 rfl rfl rfl rfl rfl (aG rfl rfl (fun hc=>bo rfl) (bI _ rfl rfl (fun hc=>ai Tryz.underlying22 tk52 (ah rfl hc) ((aJ.f_nodes (.of (ax 2 rfl)))) (ah rfl hc) (ak hx) rfl rfl) (fun _=>⟨(0,0)⟩) (fun ⟨b6_22,o6_22⟩=>(aG rfl rfl (fun hc=>qFA (off:=8) (ah rfl hc)) ?_)))))))))))))))
   refine aG rfl rfl (fun hc=>cq (o:=8) tk47 (ah rfl hc) (ax 0 rfl) hc rfl) (aG rfl rfl (fun hc=>bk Tryz.underlying47 (ah rfl hc)) (aG rfl rfl (fun hc=>eH (ah rfl hc) rfl) (aU rfl (eX rfl rfl (fun h=>gf rfl h)) (aM rfl (GO 2 rfl rfl rfl (GL 0 tk22 rfl rfl rfl rfl rfl (aG rfl rfl (fun hc=>bo rfl) (bI _ rfl rfl (fun hc=>ai Tryz.underlying22 tk52 (ah rfl hc) ((aJ.f_nodes (.of (ax 3 rfl)))) (ah rfl hc) (ak hx) rfl rfl) (fun _=>⟨(0,0)⟩) (fun ⟨b6_32,o6_32⟩=>(aG rfl rfl (fun hc=>qFA (off:=10) (ah rfl hc)) (aG rfl rfl (fun hc=>cq (o:=10) tk49 (ah rfl hc) (ax 0 rfl) hc rfl) (aG rfl rfl (fun hc=>bk Tryz.underlying49 (ah rfl hc)) (aG rfl rfl (fun hc=>eH (ah rfl hc) rfl) (aU rfl (eX rfl rfl (fun h=>gf rfl h)) (aNn ?_)))))))))))))))
   refine aa _ rfl (fun h3 => ?_) (fun h3 => ?_)
   ·skip
    refine aSR (aA rfl (aNn (ae (aK (aj (aj (aK (aj (FZ1 [] Tryz.results6 rfl ?_)))))))))
    exact ⟨⟨rfl,rfl⟩,_,rfl,fun h=>by cases h⟩
   ·skip
    refine aD (ca (an (az (aM rfl (aU rfl (bz rfl rfl (by omega)) (aA rfl (aNn ?_)))))))
    refine ⟨[2,5],[2,1,0],[0],rfl,?_⟩
    exact ⟨k+1,⟨hk',rfl⟩,by omega⟩
  ·skip
   refine aY (bb (bb (bg (an (aSR (UL 0 tk32 rfl rfl rfl rfl ?_))))))
   refine aE (caps:=[]) [2,1,0] (false) (by kernel_rfl) true rfl rfl (fun _=>rfl) (fun hc=>rfl) (fun hc=>by rw [List.append_nil];exact uk u hs) (fun c1 hc1 => ?_)
   refine aA rfl (aNn (ae (FZ1 [] Tryz.results6 rfl ?_)))
   exact ⟨⟨rfl,rfl⟩,_,rfl,fun h=>⟨hc1 rfl h,hst⟩⟩
theorem qK (k : Int):Con Tryz.prog 194 [.int .i64 k] [] [] fun r ps hp=>(ps=[]∧hp=[])∧∃ a b,r=.tuple #[.int .i64 a,.int .i64 b]:=by
 refine EN1 Tryz.func194 rfl (go 2 [0,0,0,0,0] ?_)
 refine aa _ rfl (fun h1 => ?_) (fun h1 => ?_)
 ·skip
  refine aD (an ?_)
  refine aa _ rfl (fun _ => ?_) (fun h=>absurd (h1.symm.trans h) (by decide))
  refine go 2 [0,0] ?_
  refine ae (aK (aj (FZ2 [] Tryz.results194 rfl rfl ?_)))
  exact ⟨⟨rfl,rfl⟩,_,_,rfl⟩
 ·skip
  refine go 2 [0,0] ?_
  refine aa _ rfl (fun h2 => ?_) (fun h2 => ?_)
  ·skip
   refine aD (an ?_)
   refine aa _ rfl (fun _ => ?_) (fun h=>absurd (h2.symm.trans h) (by decide))
   refine go 2 [0,0] ?_
   refine ae (aK (aj (FZ2 [] Tryz.results194 rfl rfl ?_)))
   exact ⟨⟨rfl,rfl⟩,_,_,rfl⟩
  ·skip
   refine go 2 [0,0] ?_
   refine aa _ rfl (fun h3 => ?_) (fun h3 => ?_)
   ·skip
    refine aD (an ?_)
    refine aa _ rfl (fun _ => ?_) (fun h=>absurd (h3.symm.trans h) (by decide))
    refine go 2 [0,0] ?_
    refine ae (aK (aj (FZ2 [] Tryz.results194 rfl rfl ?_)))
    exact ⟨⟨rfl,rfl⟩,_,_,rfl⟩
   ·skip
    refine go 2 [0,0] ?_
    refine aa _ rfl (fun h4 => ?_) (fun h4 => ?_)
    ·skip
     refine aD (an ?_)
     refine aa _ rfl (fun _ => ?_) (fun h=>absurd (h4.symm.trans h) (by decide))
     refine go 2 [0,0] ?_
     refine ae (aK (aj (FZ2 [] Tryz.results194 rfl rfl ?_)))
     exact ⟨⟨rfl,rfl⟩,_,_,rfl⟩
    ·skip
     refine go 2 [0,0] ?_
     refine aa _ rfl (fun h5 => ?_) (fun h5 => ?_)
     ·skip
      refine go 2 [0,0] ?_
      refine ae (aK (aj (FZ2 [] Tryz.results194 rfl rfl ?_)))
      exact ⟨⟨rfl,rfl⟩,_,_,rfl⟩
     ·skip
      refine go 2 [0,0] ?_
      refine aa _ rfl (fun h6 => ?_) (fun h6 => ?_)
      ·skip
       refine go 2 [0,0] ?_
       refine ae (aK (aj (FZ2 [] Tryz.results194 rfl rfl ?_)))
       exact ⟨⟨rfl,rfl⟩,_,_,rfl⟩
      ·skip
       refine go 2 [0,0] ?_
       refine aa _ rfl (fun h7 => ?_) (fun h7 => ?_)
       ·skip
        refine go 2 [0,0] ?_
        refine ae (aK (aj (FZ2 [] Tryz.results194 rfl rfl ?_)))
        exact ⟨⟨rfl,rfl⟩,_,_,rfl⟩
       ·skip
        refine go 2 [0,0] ?_
        refine aa _ rfl (fun h8 => ?_) (fun h8 => ?_)
        ·skip
         refine aD (an ?_)
         refine aa _ rfl (fun _ => ?_) (fun h=>absurd (h8.symm.trans h) (by decide))
         refine go 2 [0,0] ?_
         refine ae (aK (aj (FZ2 [] Tryz.results194 rfl rfl ?_)))
         exact ⟨⟨rfl,rfl⟩,_,_,rfl⟩
        ·skip
         refine go 2 [0,0] ?_
         refine aa _ rfl (fun h9 => ?_) (fun h9 => ?_)
         ·skip
          refine aD (an ?_)
          refine aa _ rfl (fun _ => ?_) (fun h=>absurd (h9.symm.trans h) (by decide))
          refine go 2 [0,0] ?_
          refine ae (aK (aj (FZ2 [] Tryz.results194 rfl rfl ?_)))
          exact ⟨⟨rfl,rfl⟩,_,_,rfl⟩
         ·skip
          refine go 2 [0,0] ?_
          refine aa _ rfl (fun h10 => ?_) (fun h10 => ?_)
          ·skip
           refine aD (an ?_)
           refine aa _ rfl (fun _ => ?_) (fun h=>absurd (h10.symm.trans h) (by decide))
           refine go 2 [0,0] ?_
           refine ae (aK (aj (FZ2 [] Tryz.results194 rfl rfl ?_)))
           exact ⟨⟨rfl,rfl⟩,_,_,rfl⟩
          ·skip
           refine go 2 [0,0] ?_
           refine aa _ rfl (fun h11 => ?_) (fun h11 => ?_)
           ·skip
            refine aD (an ?_)
            refine aa _ rfl (fun _ => ?_) (fun h=>absurd (h11.symm.trans h) (by decide))
            refine go 2 [0,0] ?_
            refine ae (aK (aj (FZ2 [] Tryz.results194 rfl rfl ?_)))
            exact ⟨⟨rfl,rfl⟩,_,_,rfl⟩
           ·skip
            refine go 2 [0,0] ?_
            refine aa _ rfl (fun h12 => ?_) (fun h12 => ?_)
            ·skip
             refine aD (an ?_)
             refine aa _ rfl (fun _ => ?_) (fun h=>absurd (h12.symm.trans h) (by decide))
             refine go 2 [0,0] ?_
             refine ae (aK (aj (FZ2 [] Tryz.results194 rfl rfl ?_)))
             exact ⟨⟨rfl,rfl⟩,_,_,rfl⟩
            ·skip
             refine go 2 [0,0] ?_
             refine aa _ rfl (fun h13 => ?_) (fun h13 => ?_)
             ·skip
              refine go 2 [0,0] ?_
              refine ae (aK (aj (FZ2 [] Tryz.results194 rfl rfl ?_)))
              exact ⟨⟨rfl,rfl⟩,_,_,rfl⟩
             ·skip
              refine go 2 [0,0] ?_
              refine ae (FZ2 [] Tryz.results194 rfl rfl ?_)
              exact ⟨⟨rfl,rfl⟩,_,_,rfl⟩
theorem w4(v:Int):(decide (v.tmod 8=0) && decide (v ≥ -512) && decide (v≤504))=lT v:=by
 unfold lT
 by_cases h:v.tmod 8=0
 · have h8:(8:Int) ∣ v:=Int.dvd_of_tmod_eq_zero h
   rw [show decide (v≤504)=decide (v<512) from decide_eq_decide.2 (by omega)]
 · rw [decide_eq_false h];rfl
theorem qJ(v:Int):Con Tryz.prog 123 [.int .i64 6,.int .i64 v] [] [] fun r _ _=>r=.bool (lT v):=by
 refine EN2 Tryz.func123 rfl (go 0 [0,0] ?_)
 refine LT rfl (EC [] [] rfl (qK 6) ?_)
 rintro _ _ _ ⟨⟨rfl,rfl⟩,wa,wb,rfl⟩
 refine aST ?_
 refine go 2 [0,0,0,0,0,0,0] ?_
 refine aa _ rfl (fun h1 => ?_) (fun h1 => ?_)
 ·skip
  exfalso;first | exact absurd h1 (by decide) | exact absurd h2 (by decide)
 ·skip
  refine go 2 [0,0] ?_
  refine aa _ rfl (fun h2 => ?_) (fun h2 => ?_)
  ·skip
   refine go 0 [0] ?_
   refine aU rfl (ee rfl rfl (by decide)) (go 2 [0,0,0,0,0,0,0,0,0,0] ?_)
   refine ae (aj (FZ1 [] Tryz.results123 rfl ?_))
   exact congrArg Value.bool (w4 v)
  ·skip
   exfalso;first | exact absurd h1 (by decide) | exact absurd h2 (by decide)
theorem ka(a x:Int)(h : -4611686018427387904≤x-a∧x-a≤4611686018427387904):Con Tryz.prog 87 [.int .i64 a,.int .i64 x] [] [] fun r _ _=>r=.bool (lT (x-a)):=by
 refine EN2 Tryz.func87 rfl (go 0 [0,0,0,0] ?_)
 refine aU rfl (Q0 rfl (qJ _)) (go 2 [0] ?_)
 refine ae (FZ1 [] Tryz.results87 rfl ?_)
 rfl
theorem lO(c:bt)(l:aN)(h:jk l.nodes.l c)(hk:c.r.to_.kind=0):Con Tryz.prog 53 [l.val,c.r.val] [ShF bd l.nodes] [] fun r _ _=>r=.int .i64 (fG l.nodes.l c):=by
 have h1:=h.elt hk;have h2:=h.off;have h3:=h.add
 refine EN2 Tryz.func53 rfl (aSR (LT rfl (aS rfl rfl rfl (fun b0_0=>(aHN ?_)))))
 refine LT rfl (aS rfl rfl rfl (fun b0_1=>(aHN ?_)))
 refine go 3 [0] ?_
 refine DR [] 15 (go 0 [0,0,4,2,6] ?_)
 refine dz 5 rfl (by kernel_rfl) true rfl rfl (fun _=>ai Tryz.underlying33 tk3 rfl ((.of (ax 0 rfl))) rfl (bN (i:=c.r.to_.n) (h.idx hk).2 (h.idx hk).1) (by have:=h.idx hk;omega) rfl) (fun h=>absurd h (by decide)) (fun ⟨b1_5,o1_5⟩ => ?_)
 refine go 2 [4,4,4,6,0,12,6,0,0] ?_
 refine ae (FZ1 [] Tryz.results53 rfl ?_)
 rfl
theorem qP(c:bt)(l:aN)(h:jk l.nodes.l c):Con Tryz.prog 51 [l.val,.int .i64 c.at_,c.r.val] [ShF bd l.nodes] [] fun r _ _=>r=.bool (dt l.nodes.l c):=by
 have h1:=h.elt;have h2:=h.off;have h3:=h.add;have h4:=h.at_
 have hg:c.r.to_.kind=0 → -3298534883328≤fG l.nodes.l c∧fG l.nodes.l c≤3298534883328:=fun hk=>by have:=h1 hk;unfold fG;omega
 refine EN3 Tryz.func51 rfl (aSR (LT rfl (aS rfl rfl rfl (fun b0_0=>(aHN ?_)))))
 refine LT rfl (aS rfl rfl rfl (fun b0_1=>(aHN ?_)))
 refine go 2 [0,2,0,3,0] ?_
 refine aa _ rfl (fun h1 => ?_) (fun h1 => ?_)
 ·skip
  have hk:c.r.to_.kind=1:=by simpa using h1
  refine go 2 [0] ?_
  refine ae (aj (FZ1 [] Tryz.results51 rfl ?_))
  unfold dt;rw [decide_eq_true hk,Bool.true_or]
 ·skip
  have hn:¬ c.r.to_.kind=1:=by simpa using h1
  have hk:c.r.to_.kind=0:=h.kind.resolve_right hn
  refine go 0 [0,19968,19971] ?_
  refine aU rfl (Q1 rfl (lO c l h hk) 0 rfl) ?_
  refine aU rfl (Q0 rfl (ka c.at_ _ (by have:=hg hk;omega))) ?_
  refine go 2 [0,0] ?_
  refine ae (FZ1 [] Tryz.results51 rfl ?_)
  unfold dt;rw [decide_eq_false hn,Bool.false_or]
theorem tV(c:bt)(l:aN)(h:jk l.nodes.l c):Con Tryz.prog 23 [l.val,.int .i64 c.at_,c.r.val] [ShF bd l.nodes] [] fun r _ _=>r=.bool (om l.nodes.l c):=by
 have h1:=h.elt;have h2:=h.off;have h3:=h.add;have h4:=h.at_
 have hg:c.r.to_.kind=0 → -3298534883328≤fG l.nodes.l c∧fG l.nodes.l c≤3298534883328:=fun hk=>by have:=h1 hk;unfold fG;omega
 refine EN3 Tryz.func23 rfl (aSR (LT rfl (aS rfl rfl rfl (fun b0_0=>(aHN ?_)))))
 refine LT rfl (aS rfl rfl rfl (fun b0_1=>(aHN ?_)))
 refine go 0 [0,2,0,3,0,0,19968,19971] ?_
 refine aG rfl rfl (fun hc=>Q1 (ao (ah rfl hc) (ao (ah rfl hc) rfl)) (lO c l h (by simpa using hc)) 0 rfl) ?_
 refine go 0 [0,0] ?_
 refine aG rfl rfl (fun hc=>ee (ah rfl hc) rfl (by decide)) (go 2 [0,0,0] ?_)
 refine ae (FZ1 [] Tryz.results23 rfl ?_)
 rfl
theorem vW{α:Type}{ps:List α}{k:Nat}{p:α}{Q:α→Prop}(h:ps[k]? = some p)(h1:∀ x∈ps.take k,Q x)(h2:Q p):∀ x∈ps.take (k+1),Q x:=fun x hx=>by
 rw [List.take_add_one,h,Option.toList_some,List.mem_append,List.mem_singleton] at hx
 rcases hx with hx | rfl
 · exact h1 x hx
 · exact h2
def aac(c:bt)(s:bj):Bool:=decide (s.kind=(eF c).kind∧s.n=(eF c).n∧s.off=(eF c).off)
theorem qR(s:bj)(c:bt){ln:List Int}(h:jk ln c):Con Tryz.prog 88 [s.val,c.r.val] [] [] fun r _ _=>r=.bool (aac c s):=by
 have h2:=h.off;have h3:=h.add
 refine EN2 Tryz.func88 rfl (aSR (LT rfl (aS rfl rfl rfl (fun b0_0=>(aHN ?_)))))
 refine LT rfl (aS rfl rfl rfl (fun b0_1=>(aHN ?_)))
 refine go 2 [0,2,0,3,0] ?_
 refine aa _ rfl (fun h1 => ?_) (fun h1 => ?_)
 ·skip
  have hk:c.r.to_.kind=1:=by simpa using h1
  refine go 2 [1,0,0,0,2,0,2,1,3,0,0,0,3,0,0,0,0] ?_
  refine ae (aj (FZ1 [] Tryz.results88 rfl ?_))
  unfold aac eF;rw [if_pos hk];simp [Bool.decide_and,Bool.and_assoc]
 ·skip
  have hk:¬ c.r.to_.kind=1:=by simpa using h1
  refine go 2 [1,0,0,0,2,0,2,1,3,0,0,0,3,0,2,2,3,6,3,0,0,0,0] ?_
  refine ae (FZ1 [] Tryz.results88 rfl ?_)
  unfold aac eF;rw [if_neg hk];simp [Bool.decide_and,Bool.and_assoc]
theorem qO(l:Sl bj)(c:bt){ln:List Int}(hc:jk ln c)(h:∀ s∈l.l,-4611686018427387904≤s.at_-c.at_∧s.at_-c.at_≤4611686018427387904) :
   Con Tryz.prog 52 [l.val,.int .i64 c.at_,c.r.val] [ShF bj.row l] [] fun r _ _=>r=.int .i64 (b9 c l.l):=by
 refine EN3 Tryz.func52 rfl (aO (.of (ax 0 rfl)) (fun hlen=>(aSR (LT rfl (aS rfl rfl rfl (fun b0_0=>(aHN ?_)))))))
 refine aA rfl (aNs (aSR (aA rfl (aNn (aH ?_)))))
 refine aF [0,1,5,7] [0] [0] (fun (k:Nat) st=>(k≤l.l.length∧∀ s∈l.l.take k,mq c s=false)∧st=⟨[(0,true,l.val),(1,true,.int .i64 c.at_),(5,true,.pointer (some ⟨b0_0,0,none⟩)),(7,true,.int .i64 k)],[ShF bj.row l],[Box b0_0 54 c.r.vs]⟩) (fun k=>l.l.length-k) rfl (⟨0,⟨Nat.zero_le _,fun s hs=>by cases hs⟩,rfl⟩) ?_
 rintro k st ⟨⟨hk,hn⟩,rfl⟩
 have hgo:=pM c l.l k hk hn
 refine aq (aSR (aM rfl (aM rfl (aU rfl (bk Tryz.underlying34 rfl) (aU rfl (cf rfl rfl) (aNn ?_))))))
 refine aa _ rfl (fun h1 => ?_) (fun h1 => ?_)
 ·skip
  have hk':k<l.l.length:=by simpa using h1
  obtain ⟨s,hs⟩:∃ s,l.l[k]? = some s:=⟨_,List.getElem?_eq_getElem hk'⟩
  have hsb:=h s (List.mem_of_getElem? hs)
  refine aD (an (aq (aH (aq (DR [] 15 (VM 0 rfl rfl (VM 1 rfl rfl (XI 2 Tryz.underlying34 tk44 0 rfl rfl rfl rfl rfl rfl (ak hs) rfl rfl (fun ⟨b4_2,o4_2⟩=>(VT 3 0 tk44 0 rfl rfl rfl rfl rfl rfl (VL 4 0 tk54 rfl rfl rfl rfl rfl (bV 5 rfl rfl (Q0 rfl (qR s c hc)) (VM 6 rfl rfl (bW 7 rfl rfl rfl (fun hc=>bo rfl) (bW 8 rfl rfl rfl (fun hc=>bo rfl) ?_)))))))))))))))
  refine bW 9 rfl rfl rfl (fun hc=>bo rfl) (dz 10 rfl (by kernel_rfl) _ rfl rfl (fun hc=>ai Tryz.underlying34 tk44 (ah rfl hc) ((.of (ax 1 rfl))) (ah rfl hc) (ak hs) rfl rfl) (fun _=>⟨(0,0)⟩) (fun ⟨b4_10,o4_10⟩=>(bW 11 rfl rfl rfl (fun hc=>qFA (off:=0) (ah rfl hc)) (bW 12 rfl rfl rfl (fun hc=>cq (o:=0) tk3 (ah rfl hc) (ax 0 rfl) hc rfl) (bW 13 rfl rfl rfl (fun hc=>Q0 (ao (ah rfl hc) (ao (ah rfl hc) rfl)) (ka c.at_ s.at_ hsb)) (bV 14 rfl rfl (dv rfl rfl (fun h=>gt rfl h)) (BN (an ?_))))))))
  refine aa _ rfl (fun h2 => ?_) (fun h2 => ?_)
  ·skip
   have hsv:mq c s=true:=h2
   refine aSR (aM rfl (aA rfl (aNn (ae (aK (aj (aj (aK (aj (FZ1 [] Tryz.results52 rfl ?_))))))))))
   exact congrArg _ (hgo.1 s hs hsv).symm
  ·skip
   have hsv:mq c s=false:=h2
   refine aD (ca (an (az (aM rfl (aU rfl (bz rfl rfl (by omega)) (aA rfl (aNn ?_)))))))
   refine ⟨[0,1,5,7],[0],[0],rfl,?_⟩
   refine ⟨k+1,⟨⟨hk',vW hs hn hsv⟩,rfl⟩,by omega⟩
 ·skip
  refine aY (bb (bb (bg (an (aSR (aA rfl (aNn (ae (FZ1 [] Tryz.results52 rfl ?_)))))))))
  exact congrArg _ (hgo.2 (by simp at h1;omega)).symm
theorem pf(u:aJ)(l:aN)(i k:Int)(hul:tn u l)(hsb:∀ s∈l.stubs.l,-1099511627776≤s.at_∧s.at_≤1099511627776) :
   Con Tryz.prog 22 [u.val,l.val,.int .i64 i,.int .i64 k] [u.ok,l.ok] [] fun r ps hp=>(ps=[]∧hp=[])∧∃ n b,r=.tuple #[.int .i64 n,.bool b]∧SvR u l i k n b:=by
 have hlen:=hul.len
 refine EN4 Tryz.func22 rfl (fI (p:=ShF bd l.nodes) (aN.f_nodes (.of (ax 1 rfl))) (fI (p:=ShF bj.row l.stubs) (aN.f_stubs (.of (ax 2 rfl))) (aSR (LT rfl (aS rfl rfl rfl (fun b0_0=>(aHN ?_)))))))
 refine LT rfl (aS rfl rfl rfl (fun b0_1=>(aHN ?_)))
 refine aA rfl (aA rfl (aNs (aSR (aM rfl (aU rfl (cf rfl rfl) (aM rfl (aG rfl rfl (fun hc=>bo rfl) (GO 2 rfl rfl rfl ?_))))))))
 refine GL 0 tk22 rfl rfl rfl rfl rfl (aG rfl rfl (fun hc=>bk Tryz.underlying22 (ah rfl hc)) (aG rfl rfl (fun hc=>eT (ah rfl hc) (ah rfl hc)) (aU rfl (eX rfl rfl (fun h=>gf rfl h)) (aM rfl (aG rfl rfl (fun hc=>bo rfl) (aG rfl rfl (fun hc=>cf (ah rfl hc) rfl) (aU rfl (eX rfl rfl (fun h=>gf rfl h)) (aNn ?_))))))))
 refine aa _ rfl (fun h1 => ?_) (fun h1 => ?_)
 ·skip
  have hno:¬ InC u i k:=by rintro ⟨a,b,c⟩;simp at h1;omega
  refine aSR (aA rfl (aA rfl (aNn (ae (aj (FZ2 [] Tryz.results22 rfl rfl ?_))))))
  exact ⟨⟨rfl,rfl⟩,0,false,rfl,.inl ⟨hno,rfl,rfl⟩⟩
 ·skip
  have hik:(0≤i∧i<u.nodes.l.length)∧0≤k:=by simp at h1;omega
  refine aD (an (aq (aSR (aM rfl (UO 2 rfl rfl (UL 0 tk22 rfl rfl rfl rfl (aM rfl (bI true rfl rfl (fun _=>ai Tryz.underlying22 tk52 rfl ((aJ.f_nodes (.of (ax 2 rfl)))) rfl (bN (i:=i) hik.1.2 hik.1.1) (by omega) rfl) (fun h=>absurd h (by decide)) (fun ⟨b3_4,o3_4⟩=>(UO 6 rfl rfl (US 6 tk45 0 rfl rfl rfl rfl rfl (aU rfl (bk Tryz.underlying45 rfl) (aU rfl (eT rfl rfl) (aNn ?_))))))))))))))
  refine aa _ rfl (fun h2 => ?_) (fun h2 => ?_)
  ·skip
   have hno:¬ InC u i k:=by rintro ⟨a,b,c⟩;simp at h2;omega
   refine aSR (aA rfl (aA rfl (aNn (ae (aj (FZ2 [] Tryz.results22 rfl rfl ?_))))))
   exact ⟨⟨rfl,rfl⟩,0,false,rfl,.inl ⟨hno,rfl,rfl⟩⟩
  ·skip
   have hkl:k<(elt u.nodes.l i).refs.l.length:=by simp at h2;omega
   refine aD (an (aSR (UO 2 rfl rfl (UL 0 tk22 rfl rfl rfl rfl (aM rfl (bI true rfl rfl (fun _=>ai Tryz.underlying22 tk52 rfl ((aJ.f_nodes (.of (ax 3 rfl)))) rfl (bN (i:=i) hik.1.2 hik.1.1) (by omega) rfl) (fun h=>absurd h (by decide)) (fun ⟨b5_3,o5_3⟩=>(UO 6 rfl rfl (US 6 tk45 0 rfl rfl rfl rfl rfl (aM rfl (bI true rfl rfl (fun _=>ai Tryz.underlying45 tk54 rfl ((aQ.f_refs (Ent.elt (aJ.f_nodesA (.of (ax 4 rfl))) (i:=i) hik.1.2 hik.1.1))) rfl (bN (i:=k) hkl hik.2) (by omega) rfl) (fun h=>absurd h (by decide)) (fun ⟨b5_7,o5_7⟩=>(US 0 tk54 0 rfl rfl rfl rfl rfl ?_)))))))))))))
   refine LT rfl (aW (zs:=[.int .i64 0,.int .i64 0,.int .i64 0,.int .i64 0,.int .i64 0,.int .i64 0,.int .i64 0]) (by kernel_rfl) rfl (fun b5_9=>(aHN ?_)))
   refine aT rfl (bX 2 tk54 rfl rfl rfl rfl (aHK ?_))
   refine aNs (aSR (UO 1 rfl rfl (UL 2 tk3 rfl rfl rfl rfl (aU rfl (fg rfl rfl) (aNn ?_)))))
   refine aa _ rfl (fun h3 => ?_) (fun h3 => ?_)
   ·skip
    have hno:¬ InC u i k:=by rintro ⟨a,b,c⟩;simp at h3;exact h3 c
    refine aSR (aA rfl (aA rfl (aNn (ae (aj (FZ2 [] Tryz.results22 rfl rfl ?_))))))
    exact ⟨⟨rfl,rfl⟩,0,false,rfl,.inl ⟨hno,rfl,rfl⟩⟩
   ·skip
    have hin:InC u i k:=⟨hik.1,⟨hik.2,hkl⟩,by simpa using h3⟩
    obtain ⟨hi,hk,h6⟩:=id hin
    obtain ⟨hx,ha⟩:=And.intro (cS hi.2 hi.1) (cS (l:=l.nodes.l) (i:=i) (by omega) hi.1)
    have hr:=cS hk.2 hk.1
    have hcm:=jx hx ha (List.mem_of_getElem? hr) h6
    have hcc:=(hul.call _ hcm).1
    have hcb:=(hul.call _ hcm).2
    have hat:=hul.at_ _ _ _ hx ha _ (List.mem_of_getElem? hr)
    refine aD (an (aq (DR [] 9 (VO 0 0 rfl rfl rfl (VL 1 1 tk33 rfl rfl rfl rfl rfl (VM 2 rfl rfl (dz 3 rfl (by kernel_rfl) true rfl rfl (fun _=>ai Tryz.underlying33 tk3 rfl ((.of (ax 4 rfl))) rfl (ak ha) (by omega) rfl) (fun h=>absurd h (by decide)) (fun ⟨b8_3,o8_3⟩=>(VT 4 0 tk3 0 rfl rfl rfl rfl rfl rfl (VO 5 0 rfl rfl rfl (VL 6 2 tk3 rfl rfl rfl rfl rfl (bV 7 rfl rfl (bz rfl rfl (by omega)) (bV 8 rfl rfl (dM rfl) (BN ?_))))))))))))))
    refine an (aq (aSR (UL 1 tk36 rfl rfl rfl rfl (aM rfl (UL 2 tk54 rfl rfl rfl rfl (aU rfl (Q1 rfl (qP (iN u l i k) l hcc) 5 rfl) (aU rfl (eJ rfl) (aNn ?_))))))))
    refine aa _ rfl (fun h4 => ?_) (fun h4 => ?_)
    ·skip
     have hnd:dt l.nodes.l (iN u l i k)=false:=by simpa using h4
     refine aSR (aA rfl (aA rfl (aNn (ae (aj (FZ2 [] Tryz.results22 rfl rfl ?_))))))
     exact ⟨⟨rfl,rfl⟩,-1,true,rfl,.inr ⟨hin,hcm,.inl ⟨hnd,rfl,rfl⟩⟩⟩
    ·skip
     have hnd:dt l.nodes.l (iN u l i k)=true:=by simpa using h4
     refine aD (an (aSR (UO 2 rfl rfl (UL 1 tk34 rfl rfl rfl rfl (aM rfl (UL 2 tk54 rfl rfl rfl rfl ?_))))))
     refine aU rfl (Q1 rfl (qO l.stubs (iN u l i k) hcc (fun s hs2=>by have:=hsb s hs2;have hcb':0≤(iN u l i k).at_∧(iN u l i k).at_≤1099511627264:=hcb;omega)) 4 rfl) ?_
     refine aA rfl (aNn (aSR (aM rfl (aU rfl (zE rfl rfl) (aM rfl (aU rfl (eT rfl rfl) (aA rfl (aA rfl (aNn (ae (FZ2 [] Tryz.results22 rfl rfl ?_)))))))))))
     exact ⟨⟨rfl,rfl⟩,_,_,rfl,.inr ⟨hin,hcm,.inr ⟨hnd,rfl,rfl⟩⟩⟩
end Go.Proofs.YtgkbbdgklpabpaaGreatDoor

