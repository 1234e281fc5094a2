/- Parts of the proof, in build order. No condition. -/
import Derived.Test.YtfkcmbonmpcbfaaGreatTb07
import Derived.Test.YtfkcmbonmpcbfaaGreatTb04
import Derived.Test.YtfkcmbonmpcbfaaGreatTb09
import Derived.Test.YtfkcmbonmpcbfaaGreatTb05
import Derived.Sort.Walk0
import Derived.Test.YtfkcmbonmpcbfaaGreatTb08
import Derived.ChangeKeysEq
import Derived.Lib.Bytealg
import Derived.Test.YtfkcmbonmpcbfaaGreatProg
import Derived.Ground.NamesProg
import Derived.Shelf.Sort.Plain
import Derived.Ground.Names2Prog
import Derived.Shelf.Slices.CompactI
import Derived.Shelf.Slices.Clone
import Derived.Shelf.Slices.Reverse
import Derived.Shelf.Slices.In.SortNone
set_option linter.unusedSimpArgs false
set_option linter.unusedVariables false
set_option maxHeartbeats 1000000
set_option maxRecDepth 20000
namespace Go.Proofs.YtfkcmbonmpcbfaaGreat
open Go.RowKit Go.Lp Go.Sy
open Go.Proofs.Tryz
attribute [local irreducible] aL aB awp aC fwp Quiet
theorem tk160:tyk Tryz.prog 160=some (false,1):=by kernel_rfl
theorem sC(n v:Int)(bn:Nat):Con Tryz.prog 343 [.int .i64 v,.pointer (some ⟨bn,0,none⟩)] [At bn 0 [.v (.int .i64 n)]] [] fun r _ _=>r=.bool (wG n v):=by
 refine Con.enter Tryz.func343 rfl (by simp [Tryz.ntmps343]) ?_
 show awp _ _ _ _ ⟨[(0,true,_),(1,true,_)],_,_⟩
 refine aSR (aA rfl (aNn (aSR (aM rfl (aU rfl (dR rfl rfl) (aM rfl (aG rfl rfl (fun hc=>az rfl) (aG rfl rfl (fun hc=>aP (o:=0) tk3 rfl (.of (aF 0 rfl)) rfl) (aG rfl rfl (fun hc=>bg (aa rfl hc) (aa rfl hc)) (aU rfl (aQ rfl rfl (fun h=>gt rfl h)) (aA rfl (aNn (aj ?_)))))))))))))
 refine jZ [] [] rfl Tryz.results343 rfl ?_ (.inr rfl)
 rfl
abbrev wH(bn:Nat):Value:=.func (.func 343) #[] #[.pointer (some ⟨bn,0,none⟩)]
theorem ux(n:Int)(a:ct)(bn b5:Nat):Con Tryz.prog 345 [a.val,.pointer (some ⟨b5,0,none⟩)] [At b5 0 [.v (wH bn)],At bn 0 [.v (.int .i64 n)]] [] fun r _ _=>r=.bool (jW n a):=by
 refine Con.enter Tryz.func345 rfl (by simp [Tryz.ntmps345]) ?_
 show awp _ _ _ _ ⟨[(0,true,_),(1,true,_)],_,_⟩
 refine aSR ?_
 refine aI (q:=true) rfl (bz rfl rfl rfl (fun b0_0 => ?_))
 refine aHN ?_
 refine aA rfl (aNn (aSR (aU rfl (aP (o:=0) tk160 rfl (.of (aF 0 rfl)) rfl) ?_)))
 refine aU rfl (qFA (off:=0) rfl) ?_
 refine aU rfl (bJ 0 tk3 rfl rfl rfl) ?_
 refine aU rfl (fl (by kernel_rfl) rfl rfl (fun w S fp hst=>(sC n _ bn).quiet1 (aF 1 rfl) hst)) ?_
 refine aU rfl (bY rfl) (aM rfl (aG rfl rfl (fun hc=>aP (o:=0) tk160 rfl (.of (aF 0 rfl)) rfl) ?_))
 refine aG rfl rfl (fun hc=>qFA (off:=1) rfl) ?_
 refine aG rfl rfl (fun hc=>bJ 0 tk3 (aa rfl hc) rfl rfl) ?_
 refine aG rfl rfl (fun hc=>fl (by kernel_rfl) (aa rfl hc) (ax (aa rfl hc) rfl) (fun w S fp hst=>(sC n _ bn).quiet1 (aF 1 rfl) hst)) ?_
 refine aG rfl rfl (fun hc=>bY (aa rfl hc)) (aU rfl (cm rfl rfl (fun h=>gf rfl h)) (aA rfl (aNn (aj ?_))))
 refine jZ [] [] rfl Tryz.results345 rfl ?_ (.inr rfl)
 rfl
theorem pe(n:Int)(l:Sl ct)(bn b5:Nat):Con Tryz.prog 375 [l.val,.func (.func 345) #[] #[.pointer (some ⟨b5,0,none⟩)]] [ShF ct.row l,At b5 0 [.v (wH bn)],At bn 0 [.v (.int .i64 n)]] []
   fun r ps hp=>(ps=[]∧hp=[])∧∃ z:Int,r=.int .i64 z∧decide (z≥0)=l.l.any (jW n):=by
 refine Con.enter Tryz.func375 rfl (by simp [Tryz.ntmps375]) ?_
 show awp _ _ _ _ ⟨[(0,true,_),(1,true,_)],_,_⟩
 refine cA (.of (aF 0 rfl)) (fun hlen => ?_)
 refine aSR (aA rfl (aNs (aSR ?_)))
 refine aM rfl (aU rfl (aY Tryz.underlying354 rfl) (aM rfl (aNn (ao (aR [0,1,7,8] [2,1,0] [] (fun (k:Nat) s=>(k≤l.l.length∧(l.l.take k).any (jW n)=false)∧s=⟨[(0,true,l.val),(1,true,.func (.func 345) #[] #[.pointer (some ⟨b5,0,none⟩)]),(7,true,.int .i64 l.l.length),(8,true,.int .i64 k)],[ShF ct.row l,At b5 0 [.v (wH bn)],At bn 0 [.v (.int .i64 n)]],[]⟩) (fun k=>l.l.length-k) rfl (⟨0,⟨Nat.zero_le _,rfl⟩,rfl⟩) ?_)))))
 rintro k s ⟨⟨hk,hno⟩,rfl⟩
 refine aSR (aU rfl (bg rfl rfl) (aNs ?_))
 refine ah _ rfl (fun h1 => ?_) (fun h1 => ?_)
 ·skip
  have hk':k<l.l.length:=by simpa using h1
  obtain ⟨a,ha⟩:∃ a,l.l[k]? = some a:=⟨l.l[k]'hk',by simp⟩
  refine ai (an (aq (ao (aSR (aM rfl (aA rfl (aNn (aSR (aM rfl (aM rfl (aM rfl ?_)))))))))))
  refine fZ true rfl rfl (fun _=>aX Tryz.underlying354 tk356 rfl ((.of (aF 0 rfl))) rfl (aJ ha) rfl rfl) (fun h=>absurd h (by decide)) (fun ⟨b4_3,o4_3⟩ => ?_)
  refine aU rfl (dW (o:=0) tk356 rfl (aF 0 rfl) rfl rfl) ?_
  refine aU rfl (fl (by kernel_rfl) rfl rfl (fun w S fp hst=>(ux n a bn b5).quiet2 (aF 2 rfl) (aF 3 rfl) hst)) ?_
  refine aNn ?_
  refine ah _ rfl (fun h2 => ?_) (fun h2 => ?_)
  ·skip
   refine aSR (aM rfl (aA rfl (aNn (aj (bH (aN (aN (bH (aN ?_)))))))))
   refine jZ [] [] rfl Tryz.results375 rfl ?_ (.inr rfl)
   refine ⟨⟨rfl,rfl⟩,_,rfl,?_⟩
   rw [List.any_eq_true.2 ⟨a,List.mem_of_getElem? ha,h2⟩];simp
  ·skip
   refine ai (bo (an (ae ?_)))
   refine aU rfl (aO rfl rfl (by omega)) ?_
   refine aM rfl (aNn ?_)
   refine ⟨[0,1,7,8],[2,1,0],[],rfl,?_⟩
   refine ⟨k+1,⟨⟨by omega,?_⟩,rfl⟩,by omega⟩
   rw [List.take_add_one,ha,List.any_append,hno];simpa using h2
 ·skip
  refine aS (aV (aV (ba (an (aSR (aA rfl (aNn (aj ?_))))))))
  refine jZ [] [] rfl Tryz.results375 rfl ?_ (.inr rfl)
  refine ⟨⟨rfl,rfl⟩,_,rfl,?_⟩
  rw [List.take_of_length_le (by simpa using h1)] at hno
  rw [hno];rfl
theorem qV(n:Int)(l:Sl ct)(bn b5:Nat):Con Tryz.prog 344 [l.val,.func (.func 345) #[] #[.pointer (some ⟨b5,0,none⟩)]] [ShF ct.row l,At b5 0 [.v (wH bn)],At bn 0 [.v (.int .i64 n)]] []
   fun r _ _=>r=.bool (l.l.any (jW n)):=by
 refine Con.enter Tryz.func344 rfl (by simp [Tryz.ntmps344]) ?_
 show awp _ _ _ _ ⟨[(0,true,_),(1,true,_)],_,_⟩
 refine aSR (aA rfl (aNn (aSR (aM rfl (aM rfl ?_)))))
 refine aI (q:=true) rfl (zQ [2,1,0] [] (by kernel_rfl) rfl rfl rfl rfl (pe n l bn b5) ?_)
 rintro _ _ _ ⟨⟨rfl,rfl⟩,z,rfl,hz⟩
 refine aST ?_
 refine aU rfl (dR rfl rfl) (aA rfl (aNn (aj ?_)))
 refine jZ [] [] rfl Tryz.results344 rfl ?_ (.inr rfl)
 rw [hz]
theorem pR(n:Int)(l:Sl ct):Con Tryz.prog 304 [.int .i64 n,l.val] [ShF ct.row l] [] fun r _ _=>r=.bool (vO n l.l):=by
 refine Con.enter Tryz.func304 rfl (by simp [Tryz.ntmps304]) ?_
 show awp _ _ _ _ ⟨[(0,true,_),(1,true,_)],_,_⟩
 refine aSR ?_
 refine aI (q:=true) rfl (bz rfl rfl rfl (fun b0_0 => ?_))
 refine aHN ?_
 refine aA rfl (aNs (bd 0 rfl rfl ?_))
 show awp _ _ _ _ ⟨_,At _ 0 _::_,_⟩
 refine ae (aU rfl (dB (l:=[.tmp 2]) rfl) ?_)
 refine aI (q:=true) rfl (bt (zs:=[.nilFunc]) (by kernel_rfl) rfl (fun b1_1 => ?_))
 refine aHN ?_
 refine aI rfl (aW 1 tk160 rfl rfl rfl rfl ?_)
 refine aHK ?_
 refine aNs (bd 1 rfl rfl ?_)
 show awp _ _ _ _ ⟨_,At _ 0 _::_,_⟩
 refine ae (aU rfl (aP (o:=0) tk3 rfl (.of (aF 1 rfl)) rfl) (aU rfl (dR rfl rfl) (aM rfl (aG rfl rfl (fun hc=>aP (o:=0) tk3 rfl (.of (aF 1 rfl)) rfl) (aG rfl rfl (fun hc=>dq (aa rfl hc) rfl) (aU rfl (aQ rfl rfl (fun h=>gt rfl h)) (aM rfl (aG rfl rfl (fun hc=>az rfl) (aG rfl rfl (fun hc=>dB (l:=[.tmp 5]) rfl) ?_)))))))))
 refine aG rfl rfl (fun hc=>dQ (by kernel_rfl) (ax (aa rfl hc) (ax (aa rfl hc) rfl)) (fun w S fp hst=>(qV n l b0_0 b1_1).quiet3 (aF 2 rfl) (aF 0 rfl) (aF 1 rfl) hst)) ?_
 refine aG rfl rfl (fun hc=>bY (aa rfl hc)) (aU rfl (aQ rfl rfl (fun h=>gt rfl h)) (aA rfl (aNn (aj ?_))))
 refine jZ [] [] rfl Tryz.results304 rfl ?_ (.inr rfl)
 rfl
end Go.Proofs.YtfkcmbonmpcbfaaGreat

namespace Go.Sy
open Go.RowKit Go.Lp
def YN{β:Type}(v:β→Value)(Φ:β→Prop):Value→List Per→List Res→Prop:=fun r ps hp=>(ps=[]∧hp=[])∧∃ b,r=v b∧Φ b
section
variable {P:Program} {n:Fr} {ops:Array Oper} {Q:Exit→Sta→Prop} {env:Env} {ps:List Per} {hp:List Res} {ty:TypeId} {pos:String} {af:Array Edge} {gd:Option (Nat × Bool)} {rest:List Oper} {β:Type} {v:β→Value} {Φ:β→Prop}
theorem ga{t:Nat}{f:FuncId}{g:Operand}{caps:List Value}{l:List Operand}{ts:Array TypeId}{vs:List Value}(lp:List Nat)(b0:β)(hf:cM P f=true)(c:Bool)(hc:guardOf ops env ⟨some t,.call ⟨.value g,l.toArray,ts⟩,ty,pos,af,gd⟩=some c)(ht:fits n.size (some t)=true)
   (hgv:c=true→ev env g=some (true,.func (.func f) #[] caps.toArray)) (hx:c=true→evs env l=some vs) (hcon:c=true→Con P f (vs++caps) (dE ps lp) [] (YN v Φ))
   (h:∀ b,(c=true→Φ b)→aL P n ops Q rest ⟨(t,c,v b)::env,ps,hp⟩):aL P n ops Q (⟨some t,.call ⟨.value g,l.toArray,ts⟩,ty,pos,af,gd⟩::rest) ⟨env,ps,hp⟩:=by
 cases c with
 | true =>
   refine aI (q:=true) hc (fE lp [] hf (hgv rfl) (hx rfl) ht rfl rfl (hcon rfl) ?_)
   rintro _ _ _ ⟨⟨rfl,rfl⟩,b,rfl,hb⟩
   refine iK ?_ (h b fun _=>hb)
   apply List.ext_getElem?;intro i;rw [je]
   by_cases hi:i<hp.length
   · rw [if_pos hi];rfl
   · rw [if_neg hi,List.getElem?_eq_none (by simp),List.getElem?_eq_none (by omega)]
 | false=>exact mQ (v:=v b0) false hc ht (fun h=>by cases h) (h b0 fun h=>by cases h)
end
end Go.Sy

namespace Go.Proofs.YtfkcmbonmpcbfaaGreat
open Go.RowKit Go.Lp Go.Sy
end Go.Proofs.YtfkcmbonmpcbfaaGreat

namespace Go.Sy
open Go.RowKit Go.Lp
theorem kh{P:Program}{n:Fr}{ops:Array Oper}{env:Env}{ps:List Per}{hp:List Res}{Q:Exit→Sta→Prop}{rest:List Oper}{v:Value}{T:TypeId}{sz:Nat}{rows:List (List D)}(i:Nat)(hi:hp[i]? = some (aD v T sz rows))(h:aL P n ops Q rest ⟨env,Sh v (.sl rows)::ps,hp.set i emp⟩):aL P n ops Q rest ⟨env,ps,hp⟩:=fun w S fp a hst he hn hd=>by
 have hil:=(List.getElem?_eq_some_iff.1 hi).1
 have h1:=oJ hst i hi
 have htot:∀ b,tot (fun k=>if k=i then (fun _=>False) else fp k) (hp.set i emp).length b→tot fp hp.length b:=fun b ⟨j,hj,hb⟩=>by
   dsimp only at hb
   by_cases hji:j=i
   · rw [if_pos hji] at hb;exact hb.elim
   · rw [if_neg hji] at hb;exact ⟨j,by simpa using hj,hb⟩
 have hE:Evo w S (tot fp hp.length) w (fun b=>S b∨fp i b):=⟨rfl,rfl,rfl,Nat.le_refl _,Nat.le_refl _,fun _ _ _=>rfl,fun _ h=>.inl h,fun b hb=>hb.elim .inl fun h=>.inr (.inl ⟨i,hil,h⟩)⟩
 exact eC (fun e a2 w2 hp=>hp.trans hE (fun b hb=>.inl (htot b hb))) _ _ _ (h w _ _ a h1 he hn hd)
section
variable {P:Program} {n:Fr} {ops:Array Oper} {env:Env} {ps:List Per} {hp:List Res} {Q:Exit→Sta→Prop} {rest:List Oper} {ty:TypeId} {pos:String} {af:Array Edge} {gd:Option (Nat × Bool)}
theorem y8{V:List Nat}{k:Nat}{L:Array Bool}{R:Res}(h:aB P n ops V Q k L ⟨env,ps,hp⟩):aB P n ops V Q k L ⟨env,ps,hp++[R]⟩:=fun w S fp a hst he hn hd=>by
 have hst':St w S fp ps hp:=⟨hst.per,fun i R' hR=>hst.res i R' (by rw [List.getElem?_append_left (List.getElem?_eq_some_iff.1 hR).1];exact hR),fun i hi=>hst.lt i (by simp;omega),fun i j hi hj=>hst.dj i j (by simp;omega) (by simp;omega),hst.slt⟩
 have hE:Evo w S (tot fp (hp++[R]).length) w S:=Evo.refl _ _ _
 exact kV (fun a2 w2 hp2=>hp2.trans hE (fun b ⟨j,hj,hb⟩=>.inl ⟨j,by have hj2:j<hp.length:=hj;simp;omega,hb⟩)) _ _ _ _ (h w S fp a hst' he hn hd)
theorem xb{V:List Nat}{k:Nat}{L:Array Bool}{v:Value}{T:TypeId}{sz:Nat}{rows:List (List D)}(i:Nat)(hi:hp[i]? = some (aD v T sz rows))(h:aB P n ops V Q k L ⟨env,Sh v (.sl rows)::ps,hp.set i emp⟩):aB P n ops V Q k L ⟨env,ps,hp⟩:=fun w S fp a hst he hn hd=>by
 have hil:=(List.getElem?_eq_some_iff.1 hi).1
 have h1:=oJ hst i hi
 have htot:∀ b,tot (fun k=>if k=i then (fun _=>False) else fp k) (hp.set i emp).length b→tot fp hp.length b:=fun b ⟨j,hj,hb⟩=>by
   dsimp only at hb
   by_cases hji:j=i
   · rw [if_pos hji] at hb;exact hb.elim
   · rw [if_neg hji] at hb;exact ⟨j,by simpa using hj,hb⟩
 have hE:Evo w S (tot fp hp.length) w (fun b=>S b∨fp i b):=⟨rfl,rfl,rfl,Nat.le_refl _,Nat.le_refl _,fun _ _ _=>rfl,fun _ h=>.inl h,fun b hb=>hb.elim .inl fun h=>.inr (.inl ⟨i,hil,h⟩)⟩
 exact kV (fun a2 w2 hp=>hp.trans hE (fun b hb=>.inl (htot b hb))) _ _ _ _ (h w _ _ a h1 he hn hd)
theorem aa6{V:List Nat}{k:Nat}{L:Array Bool}{t:Nat}{T E:TypeId}{len:Nat}{l:List (Nat × Operand)}{xs:List Operand}{vs zs cs:List Value}{rows:List (List D)}(i:Nat)(hi:ops[i]? = some ⟨some t,.buildSlice T len l.toArray,ty,pos,af,gd⟩)(hr:Region.ready .any ops L=[i])(hel:elB P T E zs.length=true)(hz:dL P E=some zs)(h0:0<zs.length)
   (hlen:0<len) (hsm:len*zs.length≤16777216) (hxs:l.map (·.2)=xs) (hc:guardOf ops env ⟨some t,.buildSlice T len l.toArray,ty,pos,af,gd⟩=some true) (hx:evs env xs=some vs) (hb:bld (fun i=>some (i*zs.length,zs.length)) (jL len zs) ((l.map (·.1)).zip vs)=some cs) (hrc:RCs ps zs.length cs rows) (hrl:rows.length=len) (ht:fits n.size (some t)=true)
   (h:∀ ad,aB P n ops V Q k (L.setIfInBounds i true) ⟨(t,true,.slice ad len len)::env,Sh (.slice ad len len) (.sl rows)::ps,hp⟩):aB P n ops V Q (k+1) L ⟨env,ps,hp⟩:=by
 refine iR (q:=true) i hi hr rfl hc (aca hel hz h0 hlen hsm hxs hx hb hrc hrl ht fun ad => ?_)
 refine xb hp.length (by rw [List.getElem?_append_right (Nat.le_refl _),Nat.sub_self];rfl) ?_
 rw [List.set_append_right _ _ (Nat.le_refl _),Nat.sub_self]
 exact y8 (h ad)
end
end Go.Sy

namespace Go.Sy
open Go.RowKit
section
variable {P:Program} {f:FuncId} {fn:Func} {c:Code} {ps:List Per} {hp:List Res} {R:Value→List Per→List Res→Prop} {v0 v1 v2 v3 v4 v5 v6 v7:Value}
theorem EN1(hf:P.funcs[f]? = some fn)(hb:fn.body=some c)(h:awp P ⟨fn.ntmps,none,[]⟩ c (ff P fn R) ⟨[(0,true,v0)],ps,hp⟩)(hl:Nat.ble 1 fn.ntmps=true:=by kernel_rfl):Con P f [v0] ps hp R:=Con.enter hf hb (Nat.le_of_ble_eq_true hl) h
theorem EN2(hf:P.funcs[f]? = some fn)(hb:fn.body=some c)(h:awp P ⟨fn.ntmps,none,[]⟩ c (ff P fn R) ⟨[(0,true,v0),(1,true,v1)],ps,hp⟩)(hl:Nat.ble 2 fn.ntmps=true:=by kernel_rfl):Con P f [v0,v1] ps hp R:=Con.enter hf hb (Nat.le_of_ble_eq_true hl) h
theorem EN3(hf:P.funcs[f]? = some fn)(hb:fn.body=some c)(h:awp P ⟨fn.ntmps,none,[]⟩ c (ff P fn R) ⟨[(0,true,v0),(1,true,v1),(2,true,v2)],ps,hp⟩)(hl:Nat.ble 3 fn.ntmps=true:=by kernel_rfl):Con P f [v0,v1,v2] ps hp R:=Con.enter hf hb (Nat.le_of_ble_eq_true hl) h
theorem EN4(hf:P.funcs[f]? = some fn)(hb:fn.body=some c)(h:awp P ⟨fn.ntmps,none,[]⟩ c (ff P fn R) ⟨[(0,true,v0),(1,true,v1),(2,true,v2),(3,true,v3)],ps,hp⟩)(hl:Nat.ble 4 fn.ntmps=true:=by kernel_rfl):Con P f [v0,v1,v2,v3] ps hp R:=Con.enter hf hb (Nat.le_of_ble_eq_true hl) h
theorem EN5(hf:P.funcs[f]? = some fn)(hb:fn.body=some c)(h:awp P ⟨fn.ntmps,none,[]⟩ c (ff P fn R) ⟨[(0,true,v0),(1,true,v1),(2,true,v2),(3,true,v3),(4,true,v4)],ps,hp⟩)(hl:Nat.ble 5 fn.ntmps=true:=by kernel_rfl):Con P f [v0,v1,v2,v3,v4] ps hp R:=Con.enter hf hb (Nat.le_of_ble_eq_true hl) h
theorem EN6(hf:P.funcs[f]? = some fn)(hb:fn.body=some c)(h:awp P ⟨fn.ntmps,none,[]⟩ c (ff P fn R) ⟨[(0,true,v0),(1,true,v1),(2,true,v2),(3,true,v3),(4,true,v4),(5,true,v5)],ps,hp⟩)(hl:Nat.ble 6 fn.ntmps=true:=by kernel_rfl):Con P f [v0,v1,v2,v3,v4,v5] ps hp R:=Con.enter hf hb (Nat.le_of_ble_eq_true hl) h
theorem EN7(hf:P.funcs[f]? = some fn)(hb:fn.body=some c)(h:awp P ⟨fn.ntmps,none,[]⟩ c (ff P fn R) ⟨[(0,true,v0),(1,true,v1),(2,true,v2),(3,true,v3),(4,true,v4),(5,true,v5),(6,true,v6)],ps,hp⟩)(hl:Nat.ble 7 fn.ntmps=true:=by kernel_rfl):Con P f [v0,v1,v2,v3,v4,v5,v6] ps hp R:=Con.enter hf hb (Nat.le_of_ble_eq_true hl) h
theorem EN8(hf:P.funcs[f]? = some fn)(hb:fn.body=some c)(h:awp P ⟨fn.ntmps,none,[]⟩ c (ff P fn R) ⟨[(0,true,v0),(1,true,v1),(2,true,v2),(3,true,v3),(4,true,v4),(5,true,v5),(6,true,v6),(7,true,v7)],ps,hp⟩)(hl:Nat.ble 8 fn.ntmps=true:=by kernel_rfl):Con P f [v0,v1,v2,v3,v4,v5,v6,v7] ps hp R:=Con.enter hf hb (Nat.le_of_ble_eq_true hl) h
end
section
variable {P:Program} {n:Fr} {ops:Array Oper} {Q:Exit→Sta→Prop} {s:Sta} {K:Sta→Prop}
theorem DR{l:List Oper}{id:Nat}(V:List Nat)(m:Nat)(h:aB P n l.toArray V Q m (Array.replicate m false) s)(hl:l.length=m:=by rfl)(hm:P.follows .mixedOrders=true:=by kernel_rfl):awp P n (.region id l.toArray true) Q s:=by
 subst hl;exact xd V hm h
theorem DC{l:List Oper}{id:Nat}(V W Z:List Nat)(m:Nat)(h:aC P n l.toArray V W Z Q m (Array.replicate m false) s)(hl:l.length=m:=by rfl)(hm:P.follows .mixedOrders=true:=by kernel_rfl):awp P n (.region id l.toArray true) Q s:=by
 subst hl;exact uj V W Z hm h
section
variable {fn:Func} {R:Value→List Per→List Res→Prop}
theorem FZ1{t:Nat}{v:Value}(lh:List Nat)(hr:fn.results = #[.tmp t])(hl:look s.env t=some (true,v))(h:R v (dE s.ps []) (bA s.hp lh))(ok:okH s.hp lh=true:=by rfl):ff P fn R .ret s:=jZ [] lh ok hr hl h (.inr rfl)
theorem FZ2{t u:Nat}{v v':Value}(lh:List Nat)(hr:fn.results = #[.tmp t,.tmp u])(hl:look s.env t=some (true,v))(hl':look s.env u=some (true,v'))(h:R (.tuple #[v,v']) (dE s.ps []) (bA s.hp lh))(ok:okH s.hp lh=true:=by rfl):ff P fn R .ret s:=adD [] lh ok hr hl hl' h (.inr rfl)
theorem FZ0(lh:List Nat)(hr:fn.results = #[])(h:R (.tuple #[]) (dE s.ps []) (bA s.hp lh))(ok:okH s.hp lh=true:=by rfl):ff P fn R .normal s:=xX [] lh ok hr h (.inl rfl)
end
variable {env:Env} {ps ps':List Per} {hp hp':List Res} {d:Nat} {op:Op} {ty:TypeId} {pos:String} {af:Array Edge} {gd:Option (Nat × Bool)} {rest:List Oper} {v:Value} {x:Operand} {o:Oper} {V W Z:List Nat} {k:Nat} {L L':Array Bool} {T:TypeId} {j b p u:Nat} {c:Bool} {U:TypeId} {ag:Bool} {m:Nat} {cs:List Value} {row:List D}
theorem CST(h:aC P n ops V W Z Q k L' ⟨env,ps',hp'⟩)(hL:L=L':=by (try simp only [nO,nK,nL]);rfl)(h1:ps=ps':=by (try simp only [nM,nN]);rfl)(h0:hp=hp':=by (try simp only [bA,nQ,nR,fk,place,Nat.reduceBEq,if_true,if_false,reduceIte,Nat.reduceAdd,nW]);rfl):aC P n ops V W Z Q k L ⟨env,ps,hp⟩:=ade hL h1 h0 h
theorem VO(i off:Nat)(hi:ops[i]? = some ⟨some d,.fieldAddr T x j,ty,pos,af,gd⟩)(h:okU ops env n.size ⟨some d,.fieldAddr T x j,ty,pos,af,gd⟩=true)(hx:ev env x=some (true,.pointer (some ⟨b,u,none⟩)))
   (hK:aB P n ops V Q k (L.setIfInBounds i true) ⟨(d,true,.pointer (some ⟨b,u+off,none⟩))::env,ps,hp⟩) (h0:lC P T j=some off:=by kernel_rfl) (hf:di ops V L i=true:=by kernel_rfl):aB P n ops V Q (k+1) L ⟨env,ps,hp⟩:=bV i hi h (qFA hx h0) hK hf
theorem VN{a:Addr}(i:Nat)(hi:ops[i]? = some ⟨some d,.nilCheck x,ty,pos,af,gd⟩)(h:okU ops env n.size ⟨some d,.nilCheck x,ty,pos,af,gd⟩=true)(hx:ev env x=some (true,.pointer (some a)))
   (hK:aB P n ops V Q k (L.setIfInBounds i true) ⟨(d,true,.pointer (some a))::env,ps,hp⟩) (hf:di ops V L i=true:=by kernel_rfl):aB P n ops V Q (k+1) L ⟨env,ps,hp⟩:=bV i hi h (cH hx) hK hf
theorem VM(i:Nat)(hi:ops[i]? = some ⟨some d,.move x,ty,pos,af,gd⟩)(h:mvU ops env n.size ⟨some d,.move x,ty,pos,af,gd⟩ x=some v)
   (hK:aB P n ops V Q k (L.setIfInBounds i true) ⟨(d,true,v)::env,ps,hp⟩) (hf:di ops V L i=true:=by kernel_rfl):aB P n ops V Q (k+1) L ⟨env,ps,hp⟩:=bV i hi (qk h).1 (az (qk h).2) hK hf
theorem VD(i w:Nat)(hk:tyk P U=some (ag,m))(q:Nat)(hi:ops[i]? = some ⟨some d,.load U x,ty,pos,af,gd⟩)(h:okU ops env n.size ⟨some d,.load U x,ty,pos,af,gd⟩=true)(hx:ev env x=some (true,.pointer (some ⟨b,p+w,none⟩)))(hq:ps[q]? = some (At b p row))(hv:rdD ag m row w=some v)
   (hK:aB P n ops V Q k (L.setIfInBounds i true) ⟨(d,true,v)::env,ps,hp⟩) (hf:di ops V L i=true:=by kernel_rfl):aB P n ops V Q (k+1) L ⟨env,ps,hp⟩:=bV i hi h (aP (o:=w) hk hx (.of (aF q hq)) hv) hK hf
theorem VL(i w:Nat)(hk:tyk P U=some (ag,m))(hi:ops[i]? = some ⟨some d,.load U x,ty,pos,af,gd⟩)(h:okU ops env n.size ⟨some d,.load U x,ty,pos,af,gd⟩=true)(hx:ev env x=some (true,.pointer (some ⟨b,u,none⟩)))(hq:hp[w]? = some (Box b T cs))(hv:rdC ag m cs u=some v)
   (hK:aB P n ops V Q k (L.setIfInBounds i true) ⟨(d,true,v)::env,ps,hp⟩) (hf:di ops V L i=true:=by kernel_rfl):aB P n ops V Q (k+1) L ⟨env,ps,hp⟩:=bV i hi h (bJ w hk hx hq hv) hK hf
theorem UO(off:Nat)(h:okU ops env n.size ⟨some d,.fieldAddr T x j,ty,pos,af,gd⟩=true)(hx:ev env x=some (true,.pointer (some ⟨b,u,none⟩)))(hK:aL P n ops Q rest ⟨(d,true,.pointer (some ⟨b,u+off,none⟩))::env,ps,hp⟩)(h0:lC P T j=some off:=by kernel_rfl) :
   aL P n ops Q (⟨some d,.fieldAddr T x j,ty,pos,af,gd⟩::rest) ⟨env,ps,hp⟩:=aU h (qFA hx h0) hK
theorem UN{a:Addr}(h:okU ops env n.size ⟨some d,.nilCheck x,ty,pos,af,gd⟩=true)(hx:ev env x=some (true,.pointer (some a)))(hK:aL P n ops Q rest ⟨(d,true,.pointer (some a))::env,ps,hp⟩) :
   aL P n ops Q (⟨some d,.nilCheck x,ty,pos,af,gd⟩::rest) ⟨env,ps,hp⟩:=aU h (cH hx) hK
theorem UL(w:Nat)(hk:tyk P U=some (ag,m))(h:okU ops env n.size ⟨some d,.load U x,ty,pos,af,gd⟩=true)(hx:ev env x=some (true,.pointer (some ⟨b,u,none⟩)))(hq:hp[w]? = some (Box b T cs))(hv:rdC ag m cs u=some v)
   (hK:aL P n ops Q rest ⟨(d,true,v)::env,ps,hp⟩):aL P n ops Q (⟨some d,.load U x,ty,pos,af,gd⟩::rest) ⟨env,ps,hp⟩:=aU h (bJ w hk hx hq hv) hK
theorem UD(w:Nat)(hk:tyk P U=some (ag,m))(q:Nat)(h:okU ops env n.size ⟨some d,.load U x,ty,pos,af,gd⟩=true)(hx:ev env x=some (true,.pointer (some ⟨b,p+w,none⟩)))(hq:ps[q]? = some (At b p row))(hv:rdD ag m row w=some v)
   (hK:aL P n ops Q rest ⟨(d,true,v)::env,ps,hp⟩):aL P n ops Q (⟨some d,.load U x,ty,pos,af,gd⟩::rest) ⟨env,ps,hp⟩:=aU h (aP (o:=w) hk hx (.of (aF q hq)) hv) hK
theorem GO(off:Nat)(hc:guardOf ops env ⟨some d,.fieldAddr T x j,ty,pos,af,gd⟩=some c)(hd:fits n.size (some d)=true)(hx:ev env x=some (true,.pointer (some ⟨b,u,none⟩)))(hK:aL P n ops Q rest ⟨(d,c,.pointer (some ⟨b,u+off,none⟩))::env,ps,hp⟩)(h0:lC P T j=some off:=by kernel_rfl) :
   aL P n ops Q (⟨some d,.fieldAddr T x j,ty,pos,af,gd⟩::rest) ⟨env,ps,hp⟩:=aG hc hd (fun _=>qFA hx h0) hK
theorem GL(w:Nat)(hk:tyk P U=some (ag,m))(hc:guardOf ops env ⟨some d,.load U x,ty,pos,af,gd⟩=some c)(hd:fits n.size (some d)=true)(hx:ev env x=some (c,.pointer (some ⟨b,u,none⟩)))(hq:hp[w]? = some (Box b T cs))(hv:rdC ag m cs u=some v)
   (hK:aL P n ops Q rest ⟨(d,c,v)::env,ps,hp⟩):aL P n ops Q (⟨some d,.load U x,ty,pos,af,gd⟩::rest) ⟨env,ps,hp⟩:=aG hc hd (fun hc=>bJ w hk (aa hx hc) hq hv) hK
theorem CF(i:Nat)(hi:ops[i]? = some ⟨some d,op,ty,pos,af,gd⟩)(hc:guardOf ops env ⟨some d,op,ty,pos,af,gd⟩=some true)(hd:fits n (some d)=true)(hq:Quiet P n ⟨some d,op,ty,pos,af,gd⟩ ⟨env,ps,[]⟩ v)
   (h:aC P n ops V W Z Q k (L.setIfInBounds i true) ⟨(d,true,v)::env,ps,hp⟩) (hf:eA ops [] L i=true:=by kernel_rfl):aC P n ops V W Z Q (k+1) L ⟨env,ps,hp⟩:=ui i hi hf true hc hd (fun _=>hq) h
theorem CQ(i:Nat)(hi:ops[i]? = some ⟨some d,op,ty,pos,af,gd⟩)(hc:guardOf ops env ⟨some d,op,ty,pos,af,gd⟩=some true)(hd:fits n (some d)=true)(hq:Quiet P n ⟨some d,op,ty,pos,af,gd⟩ ⟨env,ps,hp⟩ v)
   (h:aC P n ops V W Z Q k (L.setIfInBounds i true) ⟨(d,true,v)::env,ps,hp⟩) (hf:eA ops V L i=true:=by kernel_rfl):aC P n ops V W Z Q (k+1) L ⟨env,ps,hp⟩:=adB i hi hf true hc hd (fun _=>hq) h
theorem VE(i:Nat)(hi:ops[i]? = some o)(hc:guardOf ops s.env o=some true)(h:Eff P n o s false (aB P n ops V Q k (L.setIfInBounds i true)))(hr:Region.ready .any ops L=[i]:=by kernel_rfl)(hq:V.contains i=true:=by rfl):aB P n ops V Q (k+1) L s:=iR (q:=false) i hi hr hq hc h
theorem VB{t:Nat}{T E:TypeId}{len:Nat}{l:List (Nat × Operand)}{xs:List Operand}{vs zs cs:List Value}{rows:List (List D)}(i:Nat)(hi:ops[i]? = some ⟨some t,.buildSlice T len l.toArray,ty,pos,af,gd⟩)(hel:elB P T E zs.length=true)(hxs:l.map (·.2)=xs)(hc:guardOf ops env ⟨some t,.buildSlice T len l.toArray,ty,pos,af,gd⟩=some true)(hx:evs env xs=some vs)
   (hb:bld (fun i=>some (i*zs.length,zs.length)) (jL len zs) ((l.map (·.1)).zip vs)=some cs) (hrc:RCs ps zs.length cs rows) (hrl:rows.length=len) (ht:fits n.size (some t)=true)
   (h:∀ ad,aB P n ops V Q k (L.setIfInBounds i true) ⟨(t,true,.slice ad len len)::env,Sh (.slice ad len len) (.sl rows)::ps,hp⟩) (hr:Region.ready .any ops L=[i]:=by kernel_rfl) (hz:dL P E=some zs:=by kernel_rfl) (h0:0<zs.length:=by decide) (hlen:0<len:=by decide) (hsm:len*zs.length≤16777216:=by decide) :
   aB P n ops V Q (k+1) L ⟨env,ps,hp⟩:=aa6 i hi hr hel hz h0 hlen hsm hxs hc hx hb hrc hrl ht h
theorem WL{q:Bool}{t:Nat}{T E:TypeId}{len:Nat}{l:List (Nat × Operand)}{xs:List Operand}{vs zs cs:List Value}{rows:List (List D)}(hel:elB P T E zs.length=true)(hxs:l.map (·.2)=xs)(hx:evs env xs=some vs)(hb:bld (fun i=>some (i*zs.length,zs.length)) (jL len zs) ((l.map (·.1)).zip vs)=some cs)(hr:RCs ps zs.length cs rows)(hrl:rows.length=len)(ht:fits n (some t)=true)
   (hK:∀ ad,K ⟨(t,true,.slice ad len len)::env,ps,hp++[aD (.slice ad len len) E zs.length rows]⟩) (hz:dL P E=some zs:=by kernel_rfl) (h0:0<zs.length:=by decide) (hlen:0<len:=by decide) (hsm:len*zs.length≤16777216:=by decide) :
   Eff P n ⟨some t,.buildSlice T len l.toArray,ty,pos,af,gd⟩ ⟨env,ps,hp⟩ q K:=aca hel hz h0 hlen hsm hxs hx hb hr hrl ht hK
theorem QC{f:FuncId}{l:List Operand}{ts:Array TypeId}{vs:List Value}(hx:evs s.env l=some vs)(hc:∀ w S fp,St w S fp s.ps s.hp→Calls P f vs.toArray w fun e w'=>e=.returned v∧Below w.heap.size w w')(hf:cM P f=true:=by kernel_rfl) :
   Quiet P n ⟨some d,.call ⟨.value (.func f),l.toArray,ts⟩,ty,pos,af,gd⟩ s v:=dQ hf hx hc
theorem Q0{f:FuncId}{l:List Operand}{ts:Array TypeId}{vs:List Value}(hx:evs s.env l=some vs)(h:Con P f vs [] [] fun u _ _=>u=v)(hf:cM P f=true:=by kernel_rfl) :
   Quiet P n ⟨some d,.call ⟨.value (.func f),l.toArray,ts⟩,ty,pos,af,gd⟩ s v:=dQ hf hx fun _ _ _ hst=>h.quiet0 hst
theorem Q1{f:FuncId}{l:List Operand}{ts:Array TypeId}{vs:List Value}{r:Per}(hx:evs s.env l=some vs)(h:Con P f vs [r] [] fun u _ _=>u=v)(q:Nat)(hq:s.ps[q]? = some r)(hf:cM P f=true:=by kernel_rfl) :
   Quiet P n ⟨some d,.call ⟨.value (.func f),l.toArray,ts⟩,ty,pos,af,gd⟩ s v:=dQ hf hx fun _ _ _ hst=>h.quiet1 (aF q hq) hst
theorem XI{E:TypeId}{y:Operand}{sz e nn cc:Nat}{z:Int}{ad:Option Addr}{rows:List (List D)}(i:Nat)(hT:P.underlying T=some (.slice E))(hk:tyk P E=some (ag,sz))(q:Nat)(hi:ops[i]? = some ⟨some d,.indexAddr T x y,ty,pos,af,gd⟩)(hc:guardOf ops env ⟨some d,.indexAddr T x y,ty,pos,af,gd⟩=some true)(hd:fits n.size (some d)=true)
   (hx:ev env x=some (true,.slice ad nn cc)) (hq:ps[q]? = some (Sh (.slice ad nn cc) (.sl rows))) (hy:ev env y=some (true,.int .i64 z)) (hr:rows[e]? = some row) (hz:z=(e:Int)) (hl:row.length=sz)
   (h:∀ a:Nat × Nat,aB P n ops V Q k (L.setIfInBounds i true) ⟨(d,true,.pointer (some ⟨a.1,a.2,none⟩))::env,cnd true (At a.1 a.2 row)::ps,hp⟩) (hf:di ops V L i=true:=by kernel_rfl):aB P n ops V Q (k+1) L ⟨env,ps,hp⟩ :=
 mP i hi hf true hc hd (fun _=>aX hT hk hx (.of (aF q hq)) hy hr hz hl) (fun h=>absurd h (by decide)) h
theorem UI{E:TypeId}{y:Operand}{sz e nn cc:Nat}{z:Int}{ad:Option Addr}{rows:List (List D)}(hT:P.underlying T=some (.slice E))(hk:tyk P E=some (ag,sz))(q:Nat)(hc:guardOf ops env ⟨some d,.indexAddr T x y,ty,pos,af,gd⟩=some true)(hd:fits n.size (some d)=true)
   (hx:ev env x=some (true,.slice ad nn cc)) (hq:ps[q]? = some (Sh (.slice ad nn cc) (.sl rows))) (hy:ev env y=some (true,.int .i64 z)) (hr:rows[e]? = some row) (hz:z=(e:Int)) (hl:row.length=sz)
   (h:∀ a:Nat × Nat,aL P n ops Q rest ⟨(d,true,.pointer (some ⟨a.1,a.2,none⟩))::env,cnd true (At a.1 a.2 row)::ps,hp⟩):aL P n ops Q (⟨some d,.indexAddr T x y,ty,pos,af,gd⟩::rest) ⟨env,ps,hp⟩ :=
 fZ true hc hd (fun _=>aX hT hk hx (.of (aF q hq)) hy hr hz hl) (fun h=>absurd h (by decide)) h
theorem VT(i w:Nat)(hk:tyk P U=some (ag,m))(q:Nat)(hi:ops[i]? = some ⟨some d,.load U x,ty,pos,af,gd⟩)(h:okU ops env n.size ⟨some d,.load U x,ty,pos,af,gd⟩=true)(hx:ev env x=some (true,.pointer (some ⟨b,p+w,none⟩)))(hq:ps[q]? = some (cnd c (At b p row)))(hc:c=true)(hv:rdD ag m row w=some v)
   (hK:aB P n ops V Q k (L.setIfInBounds i true) ⟨(d,true,v)::env,ps,hp⟩) (hf:di ops V L i=true:=by kernel_rfl):aB P n ops V Q (k+1) L ⟨env,ps,hp⟩:=bV i hi h (dW (o:=w) hk hx (aF q hq) hc hv) hK hf
theorem US(w:Nat)(hk:tyk P U=some (ag,m))(q:Nat)(h:okU ops env n.size ⟨some d,.load U x,ty,pos,af,gd⟩=true)(hx:ev env x=some (true,.pointer (some ⟨b,p+w,none⟩)))(hq:ps[q]? = some (cnd c (At b p row)))(hc:c=true)(hv:rdD ag m row w=some v)
   (hK:aL P n ops Q rest ⟨(d,true,v)::env,ps,hp⟩):aL P n ops Q (⟨some d,.load U x,ty,pos,af,gd⟩::rest) ⟨env,ps,hp⟩:=aU h (dW (o:=w) hk hx (aF q hq) hc hv) hK
theorem BN(h:Q .normal s)(hr:Region.ready .any ops L=[]:=by kernel_rfl):aB P n ops V Q 0 L s:=acd hr h
theorem LT(hc:guardOf ops s.env o=some true)(h:Eff P n o s true (aL P n ops Q rest)):aL P n ops Q (o::rest) s:=aI hc h
theorem LF(hc:guardOf ops s.env o=some true)(h:Eff P n o s false (aL P n ops Q rest)):aL P n ops Q (o::rest) s:=aI hc h
theorem EC{t:Nat}{f:FuncId}{l:List Operand}{ts:Array TypeId}{vs:List Value}{q:Bool}{R:Value→List Per→List Res→Prop}(lp lh:List Nat)(hx:evs env l=some vs)(hc:Con P f vs (dE ps lp) (bA hp lh) R)(hK:∀ v ps' hp',R v ps' hp'→K ⟨(t,true,v)::env,ps'++ps,fk lh hp' 0 hp⟩)
   (hf:cM P f=true:=by kernel_rfl) (ht:fits n (some t)=true:=by rfl) (ok:okH hp lh=true:=by rfl) (hq:(!q || lh.isEmpty)=true:=by rfl):Eff P n ⟨some t,.call ⟨.value (.func f),l.toArray,ts⟩,ty,pos,af,gd⟩ ⟨env,ps,hp⟩ q K:=zQ lp lh hf hx ht ok hq hc hK
abbrev ZI:List Value:=[.string .empty,.bool false,.int .i64 0,.int .i64 0,.int .i64 0,.string .empty,.string .empty,.int .i64 0,.slice none 0 0,.slice none 0 0,.slice none 0 0,.slice none 0 0,.slice none 0 0,.slice none 0 0,.slice none 0 0,.slice none 0 0,.int .i64 0,.slice none 0 0,.slice none 0 0,.slice none 0 0,.slice none 0 0,.slice none 0 0,.slice none 0 0,.slice none 0 0,.slice none 0 0,.slice none 0 0]
end
end Go.Sy

namespace Go.Sy
open Go.RowKit Go.Lp
theorem acm{a b:ByteArray}(h:a.toList=b.toList):a=b:=by
 have key:∀ (x:ByteArray),x.toList=x.data.toList:=fun x=>by
   have loop:∀ (n i:Nat) (acc:List UInt8),x.size-i=n→ByteArray.toList.loop x i acc=acc.reverse++x.data.toList.drop i:=by
     intro n
     induction n with
     | zero =>
       intro i acc h
       unfold ByteArray.toList.loop
       have hle:x.data.size≤i:=by have:x.size=x.data.size:=rfl;omega
       rw [if_neg (by omega),List.drop_eq_nil_of_le (by simpa using hle),List.append_nil]
     | succ n ih =>
       intro i acc h
       unfold ByteArray.toList.loop
       have hlt:i<x.size:=by omega
       have hlt':i<x.data.toList.length:=by simpa using hlt
       rw [if_pos hlt,ih (i+1) _ (by omega),List.drop_eq_getElem_cons hlt']
       have:x.get! i=x.data.toList[i]:=by
         show x.data[i]! = _
         rw [getElem!_pos x.data i (by simpa using hlt)];simp
       rw [this];simp
   unfold ByteArray.toList
   rw [loop _ 0 [] rfl];simp
 rw [key,key] at h
 cases a;cases b
 simp only [ByteArray.mk.injEq]
 exact Array.toList_inj.1 h
theorem uk(a b:ByteArray):(a.toList == b.toList)=decide (a=b):=by
 rw [Bool.eq_iff_iff,beq_iff_eq,decide_eq_true_eq]
 exact ⟨acm,fun h=>h ▸ rfl⟩
section
variable {P:Program} {n:Fr} {d:Option Tmp} {ty:TypeId} {pos:String} {af:Array Edge} {gd:Option (Nat × Bool)} {s:Sta} {x y:Operand} {t t':TypeId} {a b:ByteArray}
theorem rH(hx:ev s.env x=some (true,.string a))(hy:ev s.env y=some (true,.string b)):Quiet P n ⟨d,.binOp .eql t x y t',ty,pos,af,gd⟩ s (.bool (decide (a=b))):=uk a b ▸ vN hx hy
theorem abz(hx:ev s.env x=some (true,.string a))(hy:ev s.env y=some (true,.string b)):Quiet P n ⟨d,.binOp .neq t x y t',ty,pos,af,gd⟩ s (.bool (!decide (a=b))):=uk a b ▸ acN hx hy
theorem acM(hx:ev s.env x=some (true,.string a))(hy:ev s.env y=some (true,.string b)):Quiet P n ⟨d,.binOp .lss t x y t',ty,pos,af,gd⟩ s (.bool (decide (a.toList<b.toList))) :=
 .run2 hx hy fun ρ w h1 h2=>by
   unfold execOp;dsimp only;rw [h1,h2]
   simp only [eqGuard_at_string,Sem.run_bind,Sem.run_pure,binOp_string_lss,Result.andThen_ok,Go.Proofs.bytesLess_eq]
theorem acL(hx:ev s.env x=some (true,.string a))(hy:ev s.env y=some (true,.string b)):Quiet P n ⟨d,.binOp .gtr t x y t',ty,pos,af,gd⟩ s (.bool (!(decide (a.toList<b.toList) || decide (a=b)))) :=
 .run2 hx hy fun ρ w h1 h2=>by
   unfold execOp;dsimp only;rw [h1,h2]
   simp only [eqGuard_at_string,Sem.run_bind,Sem.run_pure,binOp_string_gtr,Result.andThen_ok,Go.Proofs.bytesLess_eq,uk]
end
section
variable {P:Program}
end
section
variable {P:Program} {n:Fr} {env:Env} {ps:List Per} {hp:List Res} {ty:TypeId} {pos:String} {af:Array Edge} {gd:Option (Nat × Bool)} {d:Option Tmp}
def abZ(P:Program)(T:TypeId):Option (Nat × Nat):=match P.underlying T with
 | some (.array m e)=>(P.info? e).map fun i=>(i.size,m)
 | _=>none
theorem iF {T:TypeId} {l:List (Nat × Operand)} {xs:List Operand} {vs:List Value} {zs cells:List Value} {sz m:Nat} (hst:abZ P T=some (sz,m)) (hz:dL P T=some zs) (hxs:l.map (·.2)=xs) (hx:evs env xs=some vs)
   (hb:bld (fun i=>some (i*sz,sz)) zs ((l.map (·.1)).zip vs)=some cells) :
   Quiet P n ⟨d,.build T l.toArray,ty,pos,af,gd⟩ ⟨env,ps,hp⟩ (.agg cells.toArray):=fun w S fp a hs he hn=>by
 have hm:=fF he xs vs hx
 have hf:=kq _ _ _ _ hb
 have hbuilt : P.built T ((l.map (·.1)).zip vs)=some cells.toArray:=by
   unfold abZ at hst
   unfold dL at hz
   unfold Program.built
   cases hi:P.info? T with
   | none=>rw [hi] at hz;cases hz
   | some it =>
     rw [hi] at hz
     cases hzz:it.zero with
     | none=>rw [Option.bind_some,hzz] at hz;cases hz
     | some z =>
       rw [Option.bind_some,hzz] at hz
       simp only [Option.map_some,Option.some.injEq] at hz
       cases hu:P.underlying T with
       | none=>rw [hu] at hst;cases hst
       | some dd =>
         rw [hu] at hst
         cases dd with
         | array m' e =>
           simp only at hst
           cases hie:P.info? e with
           | none=>rw [hie] at hst;cases hst
           | some ie =>
             rw [hie] at hst
             simp only [Option.map_some,Option.some.injEq,Prod.mk.injEq] at hst
             simp only [hzz,hie]
             have e1:z.cells=zs.toArray:=by rw [← hz]
             rw [e1,hst.1]
             simpa using hf
         | _=>cases hst
 have:(execOp a.eval ⟨d,.build T l.toArray,ty,pos,af,gd⟩).run P w=.ok (.value (.agg cells.toArray)) w:=by
   have e:(execOp a.eval ⟨d,.build T l.toArray,ty,pos,af,gd⟩)=(Instr.build T (l.toArray.map fun (i,x)=>(i,a.eval x))).bind fun r=>Sem.pure (Next.value r):=rfl
   have e2:l.toArray.map (fun (i,x)=>(i,a.eval x))=((l.map (·.1)).zip vs).toArray:=by
     rw [← hm,← hxs]
     simp only [List.map_toArray,List.map_map]
     congr 1
     rw [List.zip_map']
     rfl
   rw [e,e2,Sem.run_bind',run_build w T _ cells.toArray (by simpa using hbuilt)];rfl
 rw [this];exact bu _ _
end
theorem StE.ents{ps ps':List Per}{hp:List Res}(h:∀ p∈ps',Ent ps p):StE ps hp ps' hp:=fun w S fp hst =>
 ⟨S,fp,⟨fun p hp=>h p hp w S hst.per,hst.res,hst.lt,hst.dj,hst.slt⟩,fun _ h=>h,fun _ h=>.inl h,fun _ h=>h⟩
end Go.Sy
namespace Go.Proofs.YtfkcmbonmpcbfaaGreat
open Go.RowKit Go.Lp Go.Sy
abbrev bZ:Int→List D:=fun z=>[D.v (eI z)]
end Go.Proofs.YtfkcmbonmpcbfaaGreat

namespace Go.Sy
open Go.RowKit Go.Lp
section
variable {P:Program} {n:Fr} {s:Sta} {d:Option Tmp} {ty:TypeId} {pos:String} {af:Array Edge} {gd:Option (Nat × Bool)} {v:Value}
end
end Go.Sy
namespace Go.Proofs.YtfkcmbonmpcbfaaGreat
open Go.RowKit Go.Lp Go.Sy
end Go.Proofs.YtfkcmbonmpcbfaaGreat

namespace Go.Sy
open Go.RowKit Go.Lp
theorem bF{P:Program}{n:Fr}{env:Env}{ps:List Per}{hp:List Res}{c:Code}{Q:Exit→Sta→Prop}(p:Per)(hp':Ent ps p)(h:awp P n c Q ⟨env,p::ps,hp⟩):awp P n c Q ⟨env,ps,hp⟩:=fun w S fp a hst he hn hd =>
 h w S fp a ⟨fun q hq=>(List.mem_cons.1 hq).elim (fun e=>e ▸ hp' w S hst.per) (fun h=>hst.per q h),hst.res,hst.lt,hst.dj,hst.slt⟩ he hn hd
theorem aat{w:World}{S F:aT}{v:Value}{E:TypeId}{sz:Nat}{rows:List (List D)}(h:(aD v E sz rows).holds w S F):∃ ad cap,v=.slice ad rows.length cap:=by
 rcases h with ⟨h1,h2,_⟩ | ⟨b,cap,h1,_⟩
 · subst h2;exact ⟨none,0,h1⟩
 · exact ⟨_,cap,h1⟩
theorem rX{P:Program}{n:Fr}{env:Env}{ps:List Per}{hp:List Res}{c:Code}{Q:Exit→Sta→Prop}(i:Nat){v:Value}{T:TypeId}{sz:Nat}{rows:List (List D)}(hi:hp[i]? = some (aD v T sz rows))(h:∀ ad cp,v=.slice ad rows.length cp→awp P n c Q ⟨env,ps,hp⟩):awp P n c Q ⟨env,ps,hp⟩:=fun w S fp a hst he hn hd=>by
 obtain ⟨ad,cp,e⟩:=aat (hst.res i _ hi)
 exact h ad cp e w S fp a hst he hn hd
end Go.Sy
namespace Go.Proofs.YtfkcmbonmpcbfaaGreat
open Go.RowKit Go.Lp Go.Sy
end Go.Proofs.YtfkcmbonmpcbfaaGreat

namespace Go.Proofs
open Go.Shelf
def Tryz.lays189_ren:Go.Shelf.Ren:=⟨fun | 189=>185 | 125=>261 | 257=>260 | 128=>316 | 129=>317 | 294=>307 | 295=>308 | 296=>309 | 297=>310 | 298=>311 | 299=>312 | 216=>313 | 300=>314 | 301=>315 | 328=>350 | 329=>351 | 330=>352 | 331=>353 | 332=>354 | 215=>302 | 343=>376 | n=>n,fun | 28=>26 | 3=>3 | 46=>305 | 0=>0 | 51=>369 | 53=>301 | 4=>4 | 183=>388 | 182=>387 | 131=>65 | 5=>5 | 9=>9 | 218=>417 | 222=>165 | 228=>443 | 229=>444 | n=>n,fun | n=>n⟩
theorem Tryz.lays189:Go.Proofs.Lays.n189 Tryz.prog Tryz.lays189_ren := {
 mixed:=by kernel_rfl
 f125:=Tryz.func261.trans (congrArg some (by kernel_rfl))
 f128:=Tryz.func316.trans (congrArg some (by kernel_rfl))
 f129:=Tryz.func317.trans (congrArg some (by kernel_rfl))
 f189:=Tryz.func185.trans (congrArg some (by kernel_rfl))
 f215:=Tryz.func302.trans (congrArg some (by kernel_rfl))
 f216:=Tryz.func313.trans (congrArg some (by kernel_rfl))
 f257:=Tryz.func260.trans (congrArg some (by kernel_rfl))
 f294:=Tryz.func307.trans (congrArg some (by kernel_rfl))
 f295:=Tryz.func308.trans (congrArg some (by kernel_rfl))
 f296:=Tryz.func309.trans (congrArg some (by kernel_rfl))
 f297:=Tryz.func310.trans (congrArg some (by kernel_rfl))
 f298:=Tryz.func311.trans (congrArg some (by kernel_rfl))
 f299:=Tryz.func312.trans (congrArg some (by kernel_rfl))
 f300:=Tryz.func314.trans (congrArg some (by kernel_rfl))
 f301:=Tryz.func315.trans (congrArg some (by kernel_rfl))
 f328:=Tryz.func350.trans (congrArg some (by kernel_rfl))
 f329:=Tryz.func351.trans (congrArg some (by kernel_rfl))
 f330:=Tryz.func352.trans (congrArg some (by kernel_rfl))
 f331:=Tryz.func353.trans (congrArg some (by kernel_rfl))
 f332:=Tryz.func354.trans (congrArg some (by kernel_rfl))
 f343:=Tryz.func376.trans (congrArg some (by kernel_rfl))
 t0:=Tryz.underlying0
 a0:=Tryz.isAgg0
 z0:=Tryz.sizeOf0
 v0:=Tryz.zeroValue0
 t3:=Tryz.underlying3
 a3:=Tryz.isAgg3
 z3:=Tryz.sizeOf3
 v3:=Tryz.zeroValue3
 t4:=Tryz.underlying4
 a4:=Tryz.isAgg4
 z4:=Tryz.sizeOf4
 v4:=Tryz.zeroValue4
 t5:=Tryz.underlying5
 a5:=Tryz.isAgg5
 z5:=Tryz.sizeOf5
 v5:=Tryz.zeroValue5
 t9:=Tryz.underlying9
 a9:=Tryz.isAgg9
 z9:=Tryz.sizeOf9
 v9:=Tryz.zeroValue9
 t28:=Tryz.underlying26
 a28:=Tryz.isAgg26
 z28:=Tryz.sizeOf26
 v28:=Tryz.zeroValue26
 t46:=Tryz.underlying305
 a46:=Tryz.isAgg305
 z46:=Tryz.sizeOf305
 v46:=Tryz.zeroValue305
 t51:=Tryz.underlying369
 a51:=Tryz.isAgg369
 z51:=Tryz.sizeOf369
 v51:=Tryz.zeroValue369
 t53:=Tryz.underlying301
 a53:=Tryz.isAgg301
 z53:=Tryz.sizeOf301
 v53:=Tryz.zeroValue301
 t131:=Tryz.underlying65
 a131:=Tryz.isAgg65
 z131:=Tryz.sizeOf65
 v131:=Tryz.zeroValue65
 t182:=Tryz.underlying387
 a182:=Tryz.isAgg387
 z182:=Tryz.sizeOf387
 v182:=Tryz.zeroValue387
 t183:=Tryz.underlying388
 a183:=Tryz.isAgg388
 z183:=Tryz.sizeOf388
 v183:=Tryz.zeroValue388
 t218:=Tryz.underlying417
 a218:=Tryz.isAgg417
 z218:=Tryz.sizeOf417
 v218:=Tryz.zeroValue417
 t222:=Tryz.underlying165
 a222:=Tryz.isAgg165
 z222:=Tryz.sizeOf165
 v222:=Tryz.zeroValue165
 t228:=Tryz.underlying443
 a228:=Tryz.isAgg443
 z228:=Tryz.sizeOf443
 v228:=Tryz.zeroValue443
 t229:=Tryz.underlying444
 a229:=Tryz.isAgg444
 z229:=Tryz.sizeOf444
 v229:=Tryz.zeroValue444 }
def Tryz.lays20_ren:Go.Shelf.Ren:=⟨fun | 20=>348 | n=>n,fun | 22=>26 | 3=>3 | 4=>4 | 0=>0 | n=>n,fun | n=>n⟩
theorem Tryz.lays20:Go.Proofs.Lays2.n20 Tryz.prog Tryz.lays20_ren := {
 mixed:=by kernel_rfl
 f20:=Tryz.func348.trans (congrArg some (by kernel_rfl))
 t0:=Tryz.underlying0
 a0:=Tryz.isAgg0
 z0:=Tryz.sizeOf0
 v0:=Tryz.zeroValue0
 t3:=Tryz.underlying3
 a3:=Tryz.isAgg3
 z3:=Tryz.sizeOf3
 v3:=Tryz.zeroValue3
 t4:=Tryz.underlying4
 a4:=Tryz.isAgg4
 z4:=Tryz.sizeOf4
 v4:=Tryz.zeroValue4
 t22:=Tryz.underlying26
 a22:=Tryz.isAgg26
 z22:=Tryz.sizeOf26
 v22:=Tryz.zeroValue26
 i3:=by kernel_rfl }
def Tryz.lays112_ren:Go.Shelf.Ren:=⟨fun | 112=>349 | n=>n,fun | 28=>26 | 3=>3 | 4=>4 | 0=>0 | n=>n,fun | n=>n⟩
theorem Tryz.lays112:Go.Proofs.Lays.n112 Tryz.prog Tryz.lays112_ren := {
 mixed:=by kernel_rfl
 f112:=Tryz.func349.trans (congrArg some (by kernel_rfl))
 t0:=Tryz.underlying0
 a0:=Tryz.isAgg0
 z0:=Tryz.sizeOf0
 v0:=Tryz.zeroValue0
 t3:=Tryz.underlying3
 a3:=Tryz.isAgg3
 z3:=Tryz.sizeOf3
 v3:=Tryz.zeroValue3
 t4:=Tryz.underlying4
 a4:=Tryz.isAgg4
 z4:=Tryz.sizeOf4
 v4:=Tryz.zeroValue4
 t28:=Tryz.underlying26
 a28:=Tryz.isAgg26
 z28:=Tryz.sizeOf26
 v28:=Tryz.zeroValue26 }
end Go.Proofs

namespace Go.Sy
open Go.RowKit Go.Lp
section
variable {P:Program} {n:Fr} {env:Env} {ps:List Per} {hp:List Res} {ty:TypeId} {pos:String} {af:Array Edge} {gd:Option (Nat × Bool)} {d:Option Tmp} {E T:TypeId} {sz:Nat} {x y:Operand} {c:Code} {Q:Exit→Sta→Prop}
theorem eF{B m cp:Nat}(k:Nat)(hel:elB P T E sz=true)(hx:ev env x=some (true,.slice (some ⟨B,0,none⟩) m cp)){z:Int}(hy:ev env y=some (true,.int .i64 z))(hz:z=(k:Int))(hk:k<m) :
   Quiet P n ⟨d,.indexAddr T x y,ty,pos,af,gd⟩ ⟨env,ps,hp⟩ (.pointer (some ⟨B,k*sz,none⟩)):=fun w S fp a hst he hn=>by
 subst hz
 obtain ⟨hT,it,hit,_,hsz,_⟩:=bP hel
 have h1:=he.val hx rfl
 have h2:=he.val hy rfl
 have:(execOp a.eval ⟨d,.indexAddr T x y,ty,pos,af,gd⟩).run P w=.ok (.value (.pointer (some ⟨B,k*sz,none⟩))) w:=by
   unfold execOp;dsimp only;rw [h1,h2]
   show ((Instr.indexAt T (.slice (some ⟨B,0,none⟩) m cp) (.int .i64 k)).bind fun r=>Sem.pure (Next.value r)).run P w=_
   have hE:P.elem T=E:=by unfold Program.elem;rw [hT]
   rw [Sem.run_bind',run_indexAt_slice _ _ _ _ _ _ _ (by rw [hE];exact hT),if_pos (by omega),hE,bQ hit,hsz]
   simp only [Result.andThen,Int.toNat_natCast]
   unfold Addr.add
   split
   · rename_i h0;rw [h0];rfl
   · simp only [Nat.zero_add];rfl
 rw [this];exact bu _ _
theorem eb(i:Nat){v:Value}{rows:List (List D)}(hi:hp[i]? = some (aD v E sz rows))(h0:rows≠[])(h:∀ B cp,v=.slice (some ⟨B,0,none⟩) rows.length cp→awp P n c Q ⟨env,ps,hp⟩):awp P n c Q ⟨env,ps,hp⟩ :=
 eV (φ:=∃ B cp,v=.slice (some ⟨B,0,none⟩) rows.length cp) i hi (fun w S F hh=>by
   rcases hh with ⟨_,h1,_⟩ | ⟨B,cp,h1,_⟩
   · exact (h0 h1).elim
   · exact ⟨B,cp,h1⟩) (fun ⟨B,cp,e⟩=>h B cp e)
end
end Go.Sy
namespace Go.Proofs.YtfkcmbonmpcbfaaGreat
open Go.RowKit Go.Lp Go.Sy Go.Sort Go.Shelf
abbrev encI(z:Int):Value:=.int .i64 z
def ed(zs:List Int):List Int:=zs.mergeSort fun x y=>decide (x≤y)
end Go.Proofs.YtfkcmbonmpcbfaaGreat

namespace Go.Proofs.YtfkcmbonmpcbfaaGreat
open Go.RowKit Go.Lp Go.Sy
def fh(L:List (List Int))(a:ct):List (List Int):=L.set a.from_.toNat (L.getD a.from_.toNat []++[a.to_])
def dh(N:Nat)(l:List ct):List (List Int):=l.foldl fh (List.replicate N [])
theorem jU(L:List (List Int))(a:ct):(fh L a).length=L.length:=by simp [fh]
theorem lD(l:List ct):∀ L:List (List Int),(l.foldl fh L).length=L.length:=by
 induction l with
 | nil=>intro L;rfl
 | cons a l ih=>intro L;rw [List.foldl_cons,ih,jU]
theorem cG(N:Nat)(l:List ct):(dh N l).length=N:=by unfold dh;rw [lD];simp
theorem tt(N:Nat)(l:List ct){k:Nat}{a:ct}(h:l[k]? = some a):dh N (l.take (k+1))=fh (dh N (l.take k)) a:=by
 unfold dh;rw [List.take_add_one,h,List.foldl_append];rfl
theorem mA(l:List ct):∀ (L:List (List Int)) (m:Nat),(∀ r∈L,r.length≤m)→∀ r∈l.foldl fh L,r.length≤m+l.length:=by
 induction l with
 | nil=>intro L m h r hr;exact h r hr
 | cons a l ih =>
   intro L m h r hr
   rw [List.foldl_cons] at hr
   have:=ih (fh L a) (m+1) (fun r hr=>by
     unfold fh at hr
     rcases List.mem_or_eq_of_mem_set hr with h1 | rfl
     · exact Nat.le_succ_of_le (h r h1)
     · have:(L.getD a.from_.toNat []).length≤m:=by
         by_cases hlt:a.from_.toNat<L.length
         · rw [show L.getD a.from_.toNat []=L[a.from_.toNat] by simp [List.getD,hlt]];exact h _ (List.getElem_mem hlt)
         · rw [show L.getD a.from_.toNat []=[] by simp [List.getD,Nat.not_lt.1 hlt]];exact Nat.zero_le _
       rw [List.length_append,List.length_singleton];omega) r hr
   rw [List.length_cons];omega
theorem qp(N:Nat)(l:List ct){r:List Int}(h:r∈dh N l):r.length≤l.length:=by
 have:=mA l (List.replicate N []) 0 (fun r hr=>by rw [(List.mem_replicate.1 hr).2];exact Nat.le_refl _) r h
 omega
def cE(zs:List Int):List Int:=Lib.compact (ed zs)
def cC(N:Nat)(l:List ct):List (List Int):=(dh N l).map cE
def fy(L:List (List Int))(k:Nat):List (List Int):=(L.take k).map cE++L.drop k
theorem j7(L:List (List Int))(k:Nat)(h:k≤L.length):(fy L k).length=L.length:=by simp [fy];omega
theorem vz{L:List (List Int)}{k:Nat}{x:List Int}(h:L[k]? = some x):(fy L k)[k]? = some x:=by
 have hk:=(List.getElem?_eq_some_iff.1 h).1
 unfold fy
 rw [List.getElem?_append_right (by simp;omega)]
 simp only [List.length_map,List.length_take,List.getElem?_drop]
 rw [show k+(k-min k L.length)=k by omega];exact h
theorem tu{L:List (List Int)}{k:Nat}{x:List Int}(h:L[k]? = some x):(fy L k).set k (cE x)=fy L (k+1):=by
 have hk:=(List.getElem?_eq_some_iff.1 h).1
 unfold fy
 rw [List.set_append_right _ _ (by simp;omega),List.take_add_one,h,List.map_append,List.append_assoc]
 congr 1
 rw [List.length_map,List.length_take,show k-min k L.length=0 by omega,List.drop_eq_getElem_cons hk,List.set_cons_zero]
 rfl
theorem jJ(vs:List Value)(k:Nat)(v:Value):cF (vs.set k v)=(cF vs).set k [.v v]:=by simp [cF,List.map_set]
theorem xe{P:Program}{n:Fr}{env:Env}{ps:List Per}{hp:List Res}{c:Code}{Q:Exit→Sta→Prop}{α:Type}{enc:α→Value}{vo:Value}{T E:TypeId}{l:List (List α)}(i:Nat)(hi:hp[i]? = some (iO vo T E enc l))(h:∀ ad cp,vo=.slice ad l.length cp→awp P n c Q ⟨env,ps,hp⟩):awp P n c Q ⟨env,ps,hp⟩ :=
 eV (φ:=∃ ad cp,vo=.slice ad l.length cp) i hi (fun w S F hh=>by
   obtain ⟨vs,hl,G,H,hG,hH,_,e⟩:=hh
   rcases hG with ⟨h1,h2,_⟩ | ⟨B,cp,h1,_⟩
   · refine ⟨none,0,?_⟩
     have:vs=[]:=by simpa [cF] using h2
     subst this
     rw [← hl];exact h1
   · exact ⟨_,cp,by rw [h1,jI,hl]⟩) (fun ⟨ad,cp,e⟩=>h ad cp e)
end Go.Proofs.YtfkcmbonmpcbfaaGreat

