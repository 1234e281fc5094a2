/- Parts of the proof, in build order. No condition. -/
import Derived.Test.YtebnelfdimiifaaGreatDoorSa21
import Derived.Test.YtebnelfdimiifaaGreatDoorSa05
import Derived.Test.YtebnelfdimiifaaGreatDoorSa07
set_option linter.unusedSimpArgs false
set_option linter.unusedVariables false
set_option maxHeartbeats 1000000
set_option maxRecDepth 20000
namespace Go.Sy
open Go.RowKit Go.Lp
theorem aaG{P:Program}{n:Fr}{ops:Array Oper}{Q:Exit→Sta→Prop}{env:Env}{ps:List Per}{hp:List Res}{ty:TypeId}{pos:String}{af:Array Edge}{gd:Option (Nat × Bool)}{rest:List Oper}{t:Nat}{f:FuncId}{g:Operand}{caps:List Value}{l:List Operand}{ts:Array TypeId}{vs:List Value}{v:Value}(lp lh:List Nat)(hf:dP P f=true)(c:Bool)(hc:guardOf ops env ⟨some t,.call ⟨.value g,l.toArray,ts⟩,ty,pos,af,gd⟩=some c)(ht:fits n.size (some t)=true)(hi:okH hp lh=true)
   (hgv:c=true→ev env g=some (true,.func (.func f) #[] caps.toArray)) (hx:c=true→evs env l=some vs) (hcon:c=true→Con P f (vs++caps) (fG ps lp) (cI hp lh) fun r ps' hp'=>ps'=[]∧hp'=cI hp lh∧r=v)
   (h:aL P n ops Q rest ⟨(t,c,v)::env,ps,hp⟩):aL P n ops Q (⟨some t,.call ⟨.value g,l.toArray,ts⟩,ty,pos,af,gd⟩::rest) ⟨env,ps,hp⟩:=by
 cases c with
 | true =>
   refine aW (q:=false) hc (fN lp lh hf (hgv rfl) (hx rfl) ht hi rfl (hcon rfl) ?_)
   rintro _ _ _ ⟨rfl,rfl,rfl⟩
   refine iN ?_ h
   apply List.ext_getElem?;intro j;rw [iX,Nat.zero_add]
   by_cases hj:j<hp.length
   · rw [if_pos hj]
     cases hpl:place lh j with
     | none=>rfl
     | some k =>
       obtain ⟨h1,h2⟩:=gH _ _ _ hpl
       have e1:lh[k]? = some j:=by
         rw [List.getD_eq_getElem?_getD,List.getElem?_eq_getElem h1] at h2
         rw [List.getElem?_eq_getElem h1];exact congrArg some h2
       have e:(cI hp lh)[k]? = some (hp.getD j emp):=by unfold cI;rw [List.getElem?_map,e1];rfl
       show some ((cI hp lh).getD k emp)=hp[j]?
       rw [List.getD_eq_getElem?_getD,e,List.getElem?_eq_getElem hj]
       show some (hp.getD j emp)=_
       rw [List.getD_eq_getElem?_getD,List.getElem?_eq_getElem hj];rfl
   · rw [if_neg hj,List.getElem?_eq_none (by simp [cI]),List.getElem?_eq_none (by omega)]
 | false=>exact kB (v:=v) false hc ht (fun h=>by cases h) h
theorem Ent.snoc{α:Type}{ps:List Per}{f:α→Per}{l:List α}{x:α}(h:Ent ps (b6 f l))(hx:Ent ps (f x)):Ent ps (b6 f (l++[x])):=fun w S hp y hy=>(List.mem_append.1 hy).elim (h w S hp y) fun e=>by rw [List.mem_singleton.1 e];exact hx w S hp
end Go.Sy
namespace Go.Proofs.YtebnelfdimiifaaGreatDoor
open Go.RowKit Go.Lp Go.Sy Go.Lv
open Go.Proofs.Tryz
attribute [local irreducible] aL aB awp aC fwp Quiet
theorem aah(r:List UInt8)(bad:Bool){t:List UInt8}{bad':Bool}(h:(iU r bad).1=.R t bad'):t.length≤r.length:=by
 rcases iV r bad with ⟨t1,m,h1,_,_,hl⟩ | h1
 · rw [h1] at h;obtain ⟨rfl,rfl⟩:=CS.R.inj h;omega
 · rw [h1] at h;obtain ⟨rfl,rfl⟩:=CS.R.inj h;exact Nat.zero_le _
theorem adr(r:List UInt8)(bad:Bool):(iU r bad).2≤9223372036854775807:=by
 rcases iV r bad with ⟨t1,m,h1,_,hm,_⟩ | h1
 · rw [h1];exact hm
 · rw [h1];exact Nat.zero_le _
theorem bX{F0 v0 v1 v2 v3 v4:Nat}{α:Type}(X:ElT Tryz.prog v2 v1 α)(hF:isF Tryz.prog F0 (gu v0 v1 v2 v3 v4) 64 #[])(b rb bt:Nat)(T:TypeId)(cs:List Value)(o:Nat)(hco:cs[o]? = some (.slice none 0 0))(p v:Value)(r:List UInt8)(bad:Bool)(hr:r.length≤1000000){τ:Type}(A:Cod τ)(pu:α→τ)(okF:α→Per)
   (F:FuncId) (caps:List Value) (pF:Per) (hFc:dP Tryz.prog F=true)
   (h:∀ (r:List UInt8) (bad:Bool) (bx:Nat),r.length≤1000000→Con Tryz.prog F (.pointer (some ⟨bx,0,none⟩)::caps) [pF] [bR b p v (.pointer (some ⟨rb,0,none⟩)),rdB rb r bad,Box bx v2 X.zs]
     fun _ ps hp'=>∃ (x:α) (r':List UInt8) (bad':Bool),A.one (.R r bad) A.zero=(.R r' bad',pu x)∧ps=[okF x]∧hp'=[bR b p v (.pointer (some ⟨rb,0,none⟩)),rdB rb r' bad',Box bx v2 (X.vs x)]) :
   Con Tryz.prog F0 [.pointer (some ⟨b,0,none⟩),.pointer (some ⟨bt,o,none⟩),.func (.func F) #[] caps.toArray] [pF] [bR b p v (.pointer (some ⟨rb,0,none⟩)),rdB rb r bad,Box bt T cs]
     fun _ ps hp'=>∃ (l:Sl α) (r':List UInt8) (bad':Bool),(dE A).one (.R r bad) []=(.R r' bad',l.l.map pu)∧ps=[ShF X.row l,b6 okF l.l]∧hp'=[bR b p v (.pointer (some ⟨rb,0,none⟩)),rdB rb r' bad',Box bt T (cs.set o l.val)]:=by
 have hol:=(List.getElem?_eq_some_iff.1 hco).1
 obtain ⟨w0,hw0⟩:∃ w0,(dE A).one (.R r bad) []=w0:=⟨_,rfl⟩
 rw [hw0]
 have tk_v1:=X.tA
 have tk_v2:=X.tE
 have un_v1:=X.uA
 have el_v1:=X.el
 obtain ⟨fn,hf,hb,hn,hr⟩:=hF
 refine Con.enterG hf hb hn (by simp) ?_
 unfold gu
 show awp _ _ _ _ ⟨[(0,true,_),(1,true,_),(2,true,_)],_,_⟩
 refine ef v2 X.sz ?_
 refine aZ (b6 okF []) (fun _ _ _ _ hx=>by cases hx) ?_
 show awp _ _ _ _ ⟨_,_,[_,_,_,_]⟩
 refine ai (aSR (aM rfl (UN rfl rfl (UO 2 rfl rfl (UL 0 tk63 rfl rfl rfl rfl (aU rfl (ny (by kernel_rfl) rfl) (aNn ?_)))))))
 refine ao _ rfl (fun h1 => ?_) (fun h1 => ?_)
 ·skip
  exact absurd h1 (by simp)
 ·skip
  refine ax (an (aSR (aM rfl (UN rfl rfl (UO 2 rfl rfl (UL 0 tk63 rfl rfl rfl rfl (LF rfl (EC [] [1] rfl (wz rb r bad (by omega)) ?_))))))))
  rintro _ _ _ ⟨rfl,t0,bad0,hq0,rfl,rfl⟩
  refine aST ?_
  refine aA rfl (aNn (aq ?_))
  refine aP [0,1,2,8] [1,0] [0,1,2,3] (fun (q:Nat × (Option Addr × Nat × List α) × List UInt8 × Bool) st=>(fV A q.1 (.R q.2.2.1 q.2.2.2) (q.2.1.2.2.map pu)=w0∧q.1≤9223372036854775807∧q.2.2.1.length≤r.length∧q.2.1.2.2.length+q.2.2.1.length≤r.length+(if (CS.R q.2.2.1 q.2.2.2).fails then 1 else 0))∧st=⟨[(0,true,.pointer (some ⟨b,0,none⟩)),(1,true,.pointer (some ⟨bt,o,none⟩)),(2,true,.func (.func F) #[] caps.toArray),(8,true,.int .i64 q.1)],[b6 okF q.2.1.2.2,pF],[bR b p v (.pointer (some ⟨rb,0,none⟩)),rdB rb q.2.2.1 q.2.2.2,Box bt T (cs.set o (.slice q.2.1.1 q.2.1.2.2.length q.2.1.2.1)),aN (.slice q.2.1.1 q.2.1.2.2.length q.2.1.2.1) v2 X.sz (q.2.1.2.2.map X.row)]⟩) (fun q=>q.1) rfl (⟨((iU r bad).2,(none,0,[]),t0,bad0),⟨by rw [← hw0,← hq0];rfl,adr r bad,aah r bad hq0,by have:=aah r bad hq0;show 0+t0.length≤_;omega⟩,by show _=(⟨_,_,[_,_,Box bt T (cs.set o (.slice none 0 0)),_]⟩:Sta);rw [rU hco];rfl⟩) ?_
  rintro ⟨n,⟨ad,cp,m⟩,r1,bad1⟩ st ⟨⟨hw,hnm,hr1,hm⟩,rfl⟩
  dsimp only at hw hnm hr1 hm ⊢
  refine ai (aSR (aM rfl (aU rfl (cN rfl rfl) (aM rfl (aG rfl rfl (fun hc=>aT rfl) ?_)))))
  refine aaG (caps:=[]) [] [0,1] (by kernel_rfl) _ rfl rfl rfl (fun _=>rfl) (fun hc=>(aK (ae rfl hc) rfl)) (fun hc=>by rw [List.append_nil];exact (wa b rb p v r1 bad1).post (fun _ _ _ ⟨h1,h2,h3⟩=>⟨h1,h3,h2⟩)) ?_
  refine aG rfl rfl (fun hc=>dO (ae rfl hc)) (aU rfl (bB rfl rfl (fun h=>gt rfl h)) (aNn ?_))
  refine ao _ rfl (fun h2 => ?_) (fun h2 => ?_)
  ·skip
   have hnf:0<n∧(CS.R r1 bad1).fails=false:=by
     rw [Bool.and_eq_true,decide_eq_true_eq,Bool.not_eq_true'] at h2
     exact ⟨by omega,h2.2⟩
   rw [hnf.2] at hm
   obtain ⟨n,rfl⟩:∃ k,n=k+1:=⟨n-1,by omega⟩
   unfold fV at hw
   rw [if_neg (by rw [hnf.2];decide)] at hw
   have hn1:((n+1:Nat):Int)-1=(n:Int):=by omega
   refine ax (an (ai (aq (aSR (LT rfl (bJ (zs:=X.zs) X.hz rfl (fun b11_0=>(aHN ?_))))))))
   refine aNn (aSR (aM rfl (LF rfl (fN [0] [0,1,4] hFc rfl rfl rfl rfl rfl (h r1 bad1 b11_0 (by omega)) ?_))))
   rintro _ _ _ ⟨x,r2,bad2,hone,rfl,rfl⟩
   refine aST ?_
   refine aNn ?_
   rw [hone] at hw
   have hless:=A.less r1 bad1 (by omega)
   obtain ⟨rd,bd,hrd1,hrd2,_⟩:=A.rd r1 bad1 (by omega)
   rw [hone] at hless hrd1
   obtain ⟨rfl,rfl⟩:=CS.R.inj hrd1
   refine aZ (b6 okF (m++[x])) (Ent.snoc (.of (aH 1 rfl)) (.of (aH 0 rfl))) (DR [6,8] 9 (aaE 0 rfl (by kernel_rfl) true rfl rfl (fun _=>aT rfl) (VM 1 rfl rfl (VN 2 rfl rfl rfl ?_))))
   refine bV 3 rfl rfl (bj 2 tk_v1 rfl rfl (List.getElem?_set_self hol)) ?_
   refine bV 4 rfl rfl (bj 4 tk_v2 rfl rfl (X.ld x)) (eQ (q:=true) 5 rfl (by kernel_rfl) rfl rfl (agB X x rfl rfl (fun v13_5=>(bST rfl ?_))))
   refine eQ 6 rfl (by kernel_rfl) rfl rfl (cK 3 el_v1 rfl rfl rfl rfl (dW 5 el_v1 rfl (by simp)) (by first | assumption | simp) (by rw [List.length_map];exact Nat.le_trans (show m.length+1≤1000001 by simp only [Bool.false_eq_true,if_false] at hm;omega) (by decide)) ((m++[x]).length) (by rw [List.length_map,List.length_append];rfl) (fun v13_6 c13_6 => ?_))
   refine bST rfl ?_
   refine VN 7 rfl rfl rfl ?_
   refine eQ 8 rfl (by kernel_rfl) rfl rfl (fj 2 ([.slice v13_6 (m++[x]).length c13_6]) ((cs.set o (.slice v13_6 (m++[x]).length c13_6))) tk_v1 rfl rfl rfl rfl rfl ((fun _ h=>by rw [List.mem_singleton.1 h];rfl)) ((by rw [List.length_set];omega)) ((by rw [kr (by rw [List.length_set];exact hol),List.set_set])) ?_)
   refine bST rfl ?_
   refine BN (bu (an (aa (aM rfl (aU rfl (cZ rfl rfl (by omega)) (aA rfl (aNn ?_)))))))
   refine ⟨[0,1,2,8],[3,0],[0,1,2,3],rfl,?_⟩
   refine ⟨(n,(v13_6,c13_6,m++[x]),r2,bad2),⟨⟨by dsimp only;rw [List.map_append];exact hw,by dsimp only;omega,by dsimp only;omega,?_⟩,by dsimp only;rw [hn1,List.map_append];rfl⟩,by dsimp only;omega⟩
   dsimp only
   rw [List.length_append,List.length_singleton]
   simp only [Bool.false_eq_true,if_false] at hm
   rcases hless with hless | hless
   · have:r2.length<r1.length:=hless
     omega
   · obtain ⟨rfl,rfl⟩:=CS.R.inj (show CS.R r2 bad2=CS.R [] true from hless)
     rw [if_pos (show (CS.R [] true).fails=true from rfl),List.length_nil]
     omega
  ·skip
   have hfin:fV A n (.R r1 bad1) (m.map pu)=(.R r1 bad1,m.map pu):=by
     cases n with
     | zero=>rfl
     | succ n =>
       apply kR
       rw [Bool.and_eq_false_iff] at h2
       rcases h2 with h2 | h2
       · exact absurd (of_decide_eq_false h2) (by omega)
       · simpa using h2
   refine ep 3 rfl (aR (aS (aS (aY ?_))))
   refine rk [2,1] [0,1,2] rfl hr ?_ (.inl rfl)
   exact ⟨⟨ad,cp,m⟩,r1,bad1,by rw [← hw,hfin],rfl,rfl⟩
theorem gS:type_of% (bX uH lM):=bX uH lM
theorem jz:type_of% (bX lI iE):=bX lI iE
theorem ox:type_of% (bX iJ iD):=bX iJ iD
theorem ot:type_of% (bX iH iA):=bX iH iA
theorem ou:type_of% (bX iI iB):=bX iI iB
theorem sC:type_of% (bX uG lL):=bX uG lL
theorem kJ:type_of% (bX gU fO):=bX gU fO
theorem qO:type_of% (bX lF ke):=bX lF ke
theorem pJ:type_of% (bX jF jg):=bX jF jg
theorem qQ:type_of% (bX lH kg):=bX lH kg
theorem qP:type_of% (bX lG kf):=bX lG kf
theorem qR:type_of% (bX je kh):=bX je kh
theorem ow:type_of% (bX gh iC):=bX gh iC
theorem sD:type_of% (bX kM lN):=bX kM lN
theorem pI:type_of% (bX gZ jf):=bX gZ jf
end Go.Proofs.YtebnelfdimiifaaGreatDoor

namespace Go.Proofs.YtebnelfdimiifaaGreatDoor
open Go.RowKit Go.Lp Go.Sy Go.Lv
abbrev u7:Type:=ByteArray × ByteArray × Int × Int × Int × ByteArray × ByteArray
def eD:Cod u7:=Cod.prod ak (Cod.prod ak (Cod.prod aj (Cod.prod aj (Cod.prod aj (Cod.prod ak (ak))))))
abbrev eO(x:bp):u7:=(x.obj,x.sec,x.kind,x.at_,x.size,x.digest,x.form)
def iL(x:bp):Prop:=Go.Lv.I64 x.kind∧Go.Lv.I64 x.at_∧Go.Lv.I64 x.size
abbrev u4:Type:=ByteArray × ByteArray × Bool × Int × Int × Int
def eA:Cod u4:=Cod.prod ak (Cod.prod ak (Cod.prod bO (Cod.prod aj (Cod.prod aj (aj)))))
abbrev eK(x:bQ):u4:=(x.name,x.version,x.main,x.kind,x.at_,x.size)
def iK(x:bQ):Prop:=Go.Lv.I64 x.kind∧Go.Lv.I64 x.at_∧Go.Lv.I64 x.size
abbrev u5:Type:=ByteArray × ByteArray × Int × Bool × Bool
def eC:Cod u5:=Cod.prod ak (Cod.prod ak (Cod.prod aj (Cod.prod bO (bO))))
abbrev eM(x:b7):u5:=(x.name,x.version,x.kind,x.weak,x.own)
def jL(x:b7):Prop:=Go.Lv.I64 x.kind
abbrev agw:Type:=Int × Int × Int × Int
def lY:Cod agw:=Cod.prod aj (Cod.prod aj (Cod.prod aj (aj)))
abbrev jP(x:fx):agw:=(x.at_,x.kind,x.import_,x.add)
def rE(x:fx):Prop:=Go.Lv.I64 x.at_∧Go.Lv.I64 x.kind∧Go.Lv.I64 x.import_∧Go.Lv.I64 x.add
abbrev zo:Type:=Int × Int × Int
def fo:Cod zo:=Cod.prod aj (Cod.prod aj (aj))
abbrev fu(x:dJ):zo:=(x.from_,x.size,x.to_)
def kU(x:dJ):Prop:=Go.Lv.I64 x.from_∧Go.Lv.I64 x.size∧Go.Lv.I64 x.to_
abbrev aek:Type:=ByteArray × Int × Int × Int
def gq:Cod aek:=Cod.prod ak (Cod.prod aj (Cod.prod aj (aj)))
abbrev gy(x:dI):aek:=(x.name,x.kind,x.at_,x.size)
def nq(x:dI):Prop:=Go.Lv.I64 x.kind∧Go.Lv.I64 x.at_∧Go.Lv.I64 x.size
abbrev aej:Type:=Int × Int × ByteArray × Int
def gp:Cod aej:=Cod.prod aj (Cod.prod aj (Cod.prod ak (aj)))
abbrev gw(x:dH):aej:=(x.sec,x.at_,x.file,x.line)
def nk(x:dH):Prop:=Go.Lv.I64 x.sec∧Go.Lv.I64 x.at_∧Go.Lv.I64 x.line
abbrev ael:Type:=Int × Int
def gX:Cod ael:=Cod.prod aj (aj)
abbrev gJ(x:bK):ael:=(x.at_,x.size)
def nr(x:bK):Prop:=Go.Lv.I64 x.at_∧Go.Lv.I64 x.size
abbrev u6:Type:=Int × Int × Int × ByteArray × ByteArray × Int
def eh:Cod u6:=Cod.prod aj (Cod.prod aj (Cod.prod aj (Cod.prod ak (Cod.prod ak (aj)))))
abbrev eN(x:ca):u6:=(x.sec,x.from_,x.to_,x.name,x.file,x.line)
def jM(x:ca):Prop:=Go.Lv.I64 x.sec∧Go.Lv.I64 x.from_∧Go.Lv.I64 x.to_∧Go.Lv.I64 x.line
abbrev agy:Type:=Int × Int × Int × ByteArray × Int × Int
def jZ:Cod agy:=Cod.prod aj (Cod.prod aj (Cod.prod aj (Cod.prod ak (Cod.prod aj (aj)))))
abbrev ji(x:eE):agy:=(x.sec,x.from_,x.to_,x.name,x.where_,x.n)
def rF(x:eE):Prop:=Go.Lv.I64 x.sec∧Go.Lv.I64 x.from_∧Go.Lv.I64 x.to_∧Go.Lv.I64 x.where_∧Go.Lv.I64 x.n
abbrev zn:Type:=Int × Int × Int × Int
def fD:Cod zn:=Cod.prod aj (Cod.prod aj (Cod.prod aj (aj)))
abbrev fP(x:cG):zn:=(x.sec,x.from_,x.to_,x.bytes)
def kT(x:cG):Prop:=Go.Lv.I64 x.sec∧Go.Lv.I64 x.from_∧Go.Lv.I64 x.to_∧Go.Lv.I64 x.bytes
open Go.Proofs.Tryz
attribute [local irreducible] aL aB awp aC fwp Quiet
theorem bD{α:Type}{vl:α→Value}{ok:α→Prop}{cs:List Value} : okC vl ok cs []:=fun _ h=>by cases h
theorem aJ{α:Type}{vl:α→Value}{ok:α→Prop}{cs:List Value}{o:Nat}{os:List Nat}(x:α)(hx:ok x)(h:cs[o]? = some (vl x))(t:okC vl ok cs os):okC vl ok cs (o::os):=fun p hp=>by
 rcases List.mem_cons.1 hp with rfl | hp
 · exact ⟨x,hx,h⟩
 · exact t p hp
abbrev atC(bc b:Nat):Per:=At bc 0 [.v (.pointer (some ⟨b,0,none⟩))]
theorem gN(s:ByteArray):(ak.enc s).length=(aQ s.size).length+s.size:=nb s
theorem qI(b bc bx:Nat)(x:bp)(hx:iL x)(p v:Value)(hp:p=.pointer none∨p=.pointer (some ⟨b,0,none⟩))(out:List UInt8)(hl:(out++eD.enc (eO x)).length≤1000000000) :
   Con Tryz.prog 51 [.pointer (some ⟨bx,0,none⟩),.pointer (some ⟨bc,0,none⟩)] [atC bc b] [bR b p v (.pointer none),aN v 5 1 (out.map cE),Box bx 71 x.vs]
     fun _ ps hp'=>ps=[]∧∃ p' v',(p'=.pointer none∨p'=.pointer (some ⟨b,0,none⟩))∧hp'=[bR b p' v' (.pointer none),aN v' 5 1 ((out++eD.enc (eO x)).map cE),Box bx 71 x.vs]:=by
 have he:eD.enc (eO x)=ak.enc x.obj++(ak.enc x.sec++(aj.enc x.kind++(aj.enc x.at_++(aj.enc x.size++(ak.enc x.digest++(ak.enc x.form)))))):=rfl
 rw [he] at hl ⊢
 obtain ⟨hi_kind,hi_at_,hi_size⟩:=hx
 have e0:bz ak unT x.vs [0,1]=ak.enc x.obj++(ak.enc x.sec++([])):=rfl
 have e1:bz aj unI x.vs [2,3,4]=aj.enc x.kind++(aj.enc x.at_++(aj.enc x.size++([]))):=rfl
 have e2:bz ak unT x.vs [5,6]=ak.enc x.digest++(ak.enc x.form++([])):=rfl
 have hall:(((out++bz ak unT x.vs [0,1])++bz aj unI x.vs [2,3,4])++bz ak unT x.vs [5,6])=out++(ak.enc x.obj++(ak.enc x.sec++(aj.enc x.kind++(aj.enc x.at_++(aj.enc x.size++(ak.enc x.digest++(ak.enc x.form))))))):=by simp only [e0,e1,e2,List.append_assoc,List.append_nil,List.nil_append,List.cons_append]
 have hs_obj:=gN x.obj
 have hs_sec:=gN x.sec
 have hs_digest:=gN x.digest
 have hs_form:=gN x.form
 simp only [List.length_append] at hl
 refine EN2 Tryz.func51 rfl (ai (DR [8] 9 (VD 0 0 tk89 0 rfl rfl rfl rfl rfl (VM 1 rfl rfl (VN 2 rfl rfl rfl (VO 3 0 rfl rfl rfl (VM 4 rfl rfl (VN 5 rfl rfl rfl (VO 6 1 rfl rfl rfl (VB (zs:=[.pointer none]) 7 rfl el215 rfl rfl rfl rfl (.more rfl (.v rfl .nil) (.more rfl (.v rfl .nil) .nil)) rfl rfl (fun v0_7 => ?_)))))))))))
 refine VE 8 rfl rfl (EC [1] [0,1,2] rfl (dR b bx 71 x.vs p v hp (out) ⟨v0_7,2,[0,1]⟩ (aJ x.obj (by omega) rfl (aJ x.sec (by omega) rfl bD)) (by simp only [e0,e1,e2,List.length_append,List.length_nil];omega)) ?_)
 rintro _ _ _ ⟨rfl,p_0,v_0,hp_0,rfl⟩
 refine bST rfl ?_
 refine BN (an (ai (DR [11] 12 (VD 0 0 tk89 1 rfl rfl rfl rfl rfl (VM 1 rfl rfl (VN 2 rfl rfl rfl (VO 3 2 rfl rfl rfl (VM 4 rfl rfl (VN 5 rfl rfl rfl (VO 6 3 rfl rfl rfl (VM 7 rfl rfl (VN 8 rfl rfl rfl (VO 9 4 rfl rfl rfl (VB (zs:=[.pointer none]) 10 rfl el214 rfl rfl rfl rfl (.more rfl (.v rfl .nil) (.more rfl (.v rfl .nil) (.more rfl (.v rfl .nil) .nil))) rfl rfl (fun v1_10 => ?_)))))))))))))))
 refine VE 11 rfl rfl (EC [2] [0,1,2] rfl (cS b bx 71 x.vs p_0 v_0 hp_0 (out++bz ak unT x.vs [0,1]) ⟨v1_10,3,[2,3,4]⟩ (aJ x.kind hi_kind rfl (aJ x.at_ hi_at_ rfl (aJ x.size hi_size rfl bD))) (by simp only [e0,e1,e2,List.length_append,List.length_nil];omega)) ?_)
 rintro _ _ _ ⟨rfl,p_1,v_1,hp_1,rfl⟩
 refine bST rfl ?_
 refine BN (an (DR [8] 9 (VD 0 0 tk89 2 rfl rfl rfl rfl rfl (VM 1 rfl rfl (VN 2 rfl rfl rfl (VO 3 5 rfl rfl rfl (VM 4 rfl rfl (VN 5 rfl rfl rfl (VO 6 6 rfl rfl rfl (VB (zs:=[.pointer none]) 7 rfl el215 rfl rfl rfl rfl (.more rfl (.v rfl .nil) (.more rfl (.v rfl .nil) .nil)) rfl rfl (fun v2_7 => ?_)))))))))))
 refine VE 8 rfl rfl (EC [3] [0,1,2] rfl (dR b bx 71 x.vs p_1 v_1 hp_1 ((out++bz ak unT x.vs [0,1])++bz aj unI x.vs [2,3,4]) ⟨v2_7,2,[5,6]⟩ (aJ x.digest (by omega) rfl (aJ x.form (by omega) rfl bD)) (by simp only [e0,e1,e2,List.length_append,List.length_nil];omega)) ?_)
 rintro _ _ _ ⟨rfl,p_2,v_2,hp_2,rfl⟩
 refine bST rfl ?_
 refine BN (FZ0 [0,1,2] Tryz.results51 ?_)
 rw [← hall];exact ⟨rfl,p_2,v_2,hp_2,rfl⟩
theorem qF(b bc bx:Nat)(x:bQ)(hx:iK x)(p v:Value)(hp:p=.pointer none∨p=.pointer (some ⟨b,0,none⟩))(out:List UInt8)(hl:(out++eA.enc (eK x)).length≤1000000000) :
   Con Tryz.prog 53 [.pointer (some ⟨bx,0,none⟩),.pointer (some ⟨bc,0,none⟩)] [atC bc b] [bR b p v (.pointer none),aN v 5 1 (out.map cE),Box bx 77 x.vs]
     fun _ ps hp'=>ps=[]∧∃ p' v',(p'=.pointer none∨p'=.pointer (some ⟨b,0,none⟩))∧hp'=[bR b p' v' (.pointer none),aN v' 5 1 ((out++eA.enc (eK x)).map cE),Box bx 77 x.vs]:=by
 have he:eA.enc (eK x)=ak.enc x.name++(ak.enc x.version++(bO.enc x.main++(aj.enc x.kind++(aj.enc x.at_++(aj.enc x.size))))):=rfl
 rw [he] at hl ⊢
 obtain ⟨hi_kind,hi_at_,hi_size⟩:=hx
 have e0:bz ak unT x.vs [0,1]=ak.enc x.name++(ak.enc x.version++([])):=rfl
 have e2:bz aj unI x.vs [3,4,5]=aj.enc x.kind++(aj.enc x.at_++(aj.enc x.size++([]))):=rfl
 have hall:(((out++bz ak unT x.vs [0,1])++bO.enc x.main)++bz aj unI x.vs [3,4,5])=out++(ak.enc x.name++(ak.enc x.version++(bO.enc x.main++(aj.enc x.kind++(aj.enc x.at_++(aj.enc x.size)))))):=by simp only [e0,e2,List.append_assoc,List.append_nil,List.nil_append,List.cons_append]
 have hs_name:=gN x.name
 have hs_version:=gN x.version
 simp only [List.length_append] at hl
 refine EN2 Tryz.func53 rfl (ai (DR [8] 9 (VD 0 0 tk89 0 rfl rfl rfl rfl rfl (VM 1 rfl rfl (VN 2 rfl rfl rfl (VO 3 0 rfl rfl rfl (VM 4 rfl rfl (VN 5 rfl rfl rfl (VO 6 1 rfl rfl rfl (VB (zs:=[.pointer none]) 7 rfl el215 rfl rfl rfl rfl (.more rfl (.v rfl .nil) (.more rfl (.v rfl .nil) .nil)) rfl rfl (fun v0_7 => ?_)))))))))))
 refine VE 8 rfl rfl (EC [1] [0,1,2] rfl (dR b bx 77 x.vs p v hp (out) ⟨v0_7,2,[0,1]⟩ (aJ x.name (by omega) rfl (aJ x.version (by omega) rfl bD)) (by simp only [e0,e2,List.length_append,List.length_nil];omega)) ?_)
 rintro _ _ _ ⟨rfl,p_0,v_0,hp_0,rfl⟩
 refine bST rfl ?_
 refine BN (an (ai (DR [4] 5 (VD 0 0 tk89 1 rfl rfl rfl rfl rfl (VM 1 rfl rfl (VN 2 rfl rfl rfl (VO 3 2 rfl rfl rfl ?_)))))))
 refine VE 4 rfl rfl (EC [] [0,1,2] rfl (lB x.main b bx 77 x.vs 2 rfl p_0 v_0 hp_0 (out++bz ak unT x.vs [0,1]) (by simp only [e0,e2,List.length_append,List.length_nil];omega)) ?_)
 rintro _ _ _ ⟨rfl,p_1,v_1,hp_1,rfl⟩
 refine bST rfl ?_
 refine BN (an (DR [11] 12 (VD 0 0 tk89 1 rfl rfl rfl rfl rfl (VM 1 rfl rfl (VN 2 rfl rfl rfl (VO 3 3 rfl rfl rfl (VM 4 rfl rfl (VN 5 rfl rfl rfl (VO 6 4 rfl rfl rfl (VM 7 rfl rfl (VN 8 rfl rfl rfl (VO 9 5 rfl rfl rfl (VB (zs:=[.pointer none]) 10 rfl el214 rfl rfl rfl rfl (.more rfl (.v rfl .nil) (.more rfl (.v rfl .nil) (.more rfl (.v rfl .nil) .nil))) rfl rfl (fun v2_10 => ?_))))))))))))))
 refine VE 11 rfl rfl (EC [2] [0,1,2] rfl (cS b bx 77 x.vs p_1 v_1 hp_1 ((out++bz ak unT x.vs [0,1])++bO.enc x.main) ⟨v2_10,3,[3,4,5]⟩ (aJ x.kind hi_kind rfl (aJ x.at_ hi_at_ rfl (aJ x.size hi_size rfl bD))) (by simp only [e0,e2,List.length_append,List.length_nil];omega)) ?_)
 rintro _ _ _ ⟨rfl,p_2,v_2,hp_2,rfl⟩
 refine bST rfl ?_
 refine BN (FZ0 [0,1,2] Tryz.results53 ?_)
 rw [← hall];exact ⟨rfl,p_2,v_2,hp_2,rfl⟩
theorem qG(b bc bx:Nat)(x:b7)(hx:jL x)(p v:Value)(hp:p=.pointer none∨p=.pointer (some ⟨b,0,none⟩))(out:List UInt8)(hl:(out++eC.enc (eM x)).length≤1000000000) :
   Con Tryz.prog 55 [.pointer (some ⟨bx,0,none⟩),.pointer (some ⟨bc,0,none⟩)] [atC bc b] [bR b p v (.pointer none),aN v 5 1 (out.map cE),Box bx 73 x.vs]
     fun _ ps hp'=>ps=[]∧∃ p' v',(p'=.pointer none∨p'=.pointer (some ⟨b,0,none⟩))∧hp'=[bR b p' v' (.pointer none),aN v' 5 1 ((out++eC.enc (eM x)).map cE),Box bx 73 x.vs]:=by
 have he:eC.enc (eM x)=ak.enc x.name++(ak.enc x.version++(aj.enc x.kind++(bO.enc x.weak++(bO.enc x.own)))):=rfl
 rw [he] at hl ⊢
 have hi_kind:=hx
 have e0:bz ak unT x.vs [0,1]=ak.enc x.name++(ak.enc x.version++([])):=rfl
 have e1:bz aj unI x.vs [2]=aj.enc x.kind++([]):=rfl
 have hall:((((out++bz ak unT x.vs [0,1])++bz aj unI x.vs [2])++bO.enc x.weak)++bO.enc x.own)=out++(ak.enc x.name++(ak.enc x.version++(aj.enc x.kind++(bO.enc x.weak++(bO.enc x.own))))):=by simp only [e0,e1,List.append_assoc,List.append_nil,List.nil_append,List.cons_append]
 have hs_name:=gN x.name
 have hs_version:=gN x.version
 simp only [List.length_append] at hl
 refine EN2 Tryz.func55 rfl (ai (DR [8] 9 (VD 0 0 tk89 0 rfl rfl rfl rfl rfl (VM 1 rfl rfl (VN 2 rfl rfl rfl (VO 3 0 rfl rfl rfl (VM 4 rfl rfl (VN 5 rfl rfl rfl (VO 6 1 rfl rfl rfl (VB (zs:=[.pointer none]) 7 rfl el215 rfl rfl rfl rfl (.more rfl (.v rfl .nil) (.more rfl (.v rfl .nil) .nil)) rfl rfl (fun v0_7 => ?_)))))))))))
 refine VE 8 rfl rfl (EC [1] [0,1,2] rfl (dR b bx 73 x.vs p v hp (out) ⟨v0_7,2,[0,1]⟩ (aJ x.name (by omega) rfl (aJ x.version (by omega) rfl bD)) (by simp only [e0,e1,List.length_append,List.length_nil];omega)) ?_)
 rintro _ _ _ ⟨rfl,p_0,v_0,hp_0,rfl⟩
 refine bST rfl ?_
 refine BN (an (ai (DR [5] 6 (VD 0 0 tk89 1 rfl rfl rfl rfl rfl (VM 1 rfl rfl (VN 2 rfl rfl rfl (VO 3 2 rfl rfl rfl (VB (zs:=[.pointer none]) 4 rfl el214 rfl rfl rfl rfl (.more rfl (.v rfl .nil) .nil) rfl rfl (fun v1_4 => ?_)))))))))
 refine VE 5 rfl rfl (EC [2] [0,1,2] rfl (cS b bx 73 x.vs p_0 v_0 hp_0 (out++bz ak unT x.vs [0,1]) ⟨v1_4,1,[2]⟩ (aJ x.kind hi_kind rfl bD) (by simp only [e0,e1,List.length_append,List.length_nil];omega)) ?_)
 rintro _ _ _ ⟨rfl,p_1,v_1,hp_1,rfl⟩
 refine bST rfl ?_
 refine BN (an (ai (DR [4] 5 (VD 0 0 tk89 2 rfl rfl rfl rfl rfl (VM 1 rfl rfl (VN 2 rfl rfl rfl (VO 3 3 rfl rfl rfl ?_)))))))
 refine VE 4 rfl rfl (EC [] [0,1,2] rfl (lB x.weak b bx 73 x.vs 3 rfl p_1 v_1 hp_1 ((out++bz ak unT x.vs [0,1])++bz aj unI x.vs [2]) (by simp only [e0,e1,List.length_append,List.length_nil];omega)) ?_)
 rintro _ _ _ ⟨rfl,p_2,v_2,hp_2,rfl⟩
 refine bST rfl ?_
 refine BN (an (DR [4] 5 (VD 0 0 tk89 2 rfl rfl rfl rfl rfl (VM 1 rfl rfl (VN 2 rfl rfl rfl (VO 3 4 rfl rfl rfl ?_))))))
 refine VE 4 rfl rfl (EC [] [0,1,2] rfl (lB x.own b bx 73 x.vs 4 rfl p_2 v_2 hp_2 (((out++bz ak unT x.vs [0,1])++bz aj unI x.vs [2])++bO.enc x.weak) (by simp only [e0,e1,List.length_append,List.length_nil];omega)) ?_)
 rintro _ _ _ ⟨rfl,p_3,v_3,hp_3,rfl⟩
 refine bST rfl ?_
 refine BN (FZ0 [0,1,2] Tryz.results55 ?_)
 rw [← hall];exact ⟨rfl,p_3,v_3,hp_3,rfl⟩
theorem vU(b bc bx:Nat)(x:fx)(hx:rE x)(p v:Value)(hp:p=.pointer none∨p=.pointer (some ⟨b,0,none⟩))(out:List UInt8)(hl:(out++lY.enc (jP x)).length≤1000000000) :
   Con Tryz.prog 58 [.pointer (some ⟨bx,0,none⟩),.pointer (some ⟨bc,0,none⟩)] [atC bc b] [bR b p v (.pointer none),aN v 5 1 (out.map cE),Box bx 75 x.vs]
     fun _ ps hp'=>ps=[]∧∃ p' v',(p'=.pointer none∨p'=.pointer (some ⟨b,0,none⟩))∧hp'=[bR b p' v' (.pointer none),aN v' 5 1 ((out++lY.enc (jP x)).map cE),Box bx 75 x.vs]:=by
 have he:lY.enc (jP x)=aj.enc x.at_++(aj.enc x.kind++(aj.enc x.import_++(aj.enc x.add))):=rfl
 rw [he] at hl ⊢
 obtain ⟨hi_at_,hi_kind,hi_import_,hi_add⟩:=hx
 have e0:bz aj unI x.vs [0,1,2,3]=aj.enc x.at_++(aj.enc x.kind++(aj.enc x.import_++(aj.enc x.add++([])))):=rfl
 have hall:(out++bz aj unI x.vs [0,1,2,3])=out++(aj.enc x.at_++(aj.enc x.kind++(aj.enc x.import_++(aj.enc x.add)))):=by simp only [e0,List.append_assoc,List.append_nil,List.nil_append,List.cons_append]
 simp only [List.length_append] at hl
 refine EN2 Tryz.func58 rfl (DR [14] 15 (VD 0 0 tk89 0 rfl rfl rfl rfl rfl (VM 1 rfl rfl (VN 2 rfl rfl rfl (VO 3 0 rfl rfl rfl (VM 4 rfl rfl (VN 5 rfl rfl rfl (VO 6 1 rfl rfl rfl (VM 7 rfl rfl (VN 8 rfl rfl rfl (VO 9 2 rfl rfl rfl (VM 10 rfl rfl (VN 11 rfl rfl rfl (VO 12 3 rfl rfl rfl ?_))))))))))))))
 refine VB (zs:=[.pointer none]) 13 rfl el214 rfl rfl rfl rfl (.more rfl (.v rfl .nil) (.more rfl (.v rfl .nil) (.more rfl (.v rfl .nil) (.more rfl (.v rfl .nil) .nil)))) rfl rfl (fun v0_13 => ?_)
 refine VE 14 rfl rfl (EC [1] [0,1,2] rfl (cS b bx 75 x.vs p v hp (out) ⟨v0_13,4,[0,1,2,3]⟩ (aJ x.at_ hi_at_ rfl (aJ x.kind hi_kind rfl (aJ x.import_ hi_import_ rfl (aJ x.add hi_add rfl bD)))) (by simp only [e0,List.length_append,List.length_nil];omega)) ?_)
 rintro _ _ _ ⟨rfl,p_0,v_0,hp_0,rfl⟩
 refine bST rfl ?_
 refine BN (FZ0 [0,1,2] Tryz.results58 ?_)
 rw [← hall];exact ⟨rfl,p_0,v_0,hp_0,rfl⟩
theorem sA(b bc bx:Nat)(x:dJ)(hx:kU x)(p v:Value)(hp:p=.pointer none∨p=.pointer (some ⟨b,0,none⟩))(out:List UInt8)(hl:(out++fo.enc (fu x)).length≤1000000000) :
   Con Tryz.prog 66 [.pointer (some ⟨bx,0,none⟩),.pointer (some ⟨bc,0,none⟩)] [atC bc b] [bR b p v (.pointer none),aN v 5 1 (out.map cE),Box bx 129 x.vs]
     fun _ ps hp'=>ps=[]∧∃ p' v',(p'=.pointer none∨p'=.pointer (some ⟨b,0,none⟩))∧hp'=[bR b p' v' (.pointer none),aN v' 5 1 ((out++fo.enc (fu x)).map cE),Box bx 129 x.vs]:=by
 have he:fo.enc (fu x)=aj.enc x.from_++(aj.enc x.size++(aj.enc x.to_)):=rfl
 rw [he] at hl ⊢
 obtain ⟨hi_from_,hi_size,hi_to_⟩:=hx
 have e0:bz aj unI x.vs [0,1,2]=aj.enc x.from_++(aj.enc x.size++(aj.enc x.to_++([]))):=rfl
 have hall:(out++bz aj unI x.vs [0,1,2])=out++(aj.enc x.from_++(aj.enc x.size++(aj.enc x.to_))):=by simp only [e0,List.append_assoc,List.append_nil,List.nil_append,List.cons_append]
 simp only [List.length_append] at hl
 refine EN2 Tryz.func66 rfl (DR [11] 12 (VD 0 0 tk89 0 rfl rfl rfl rfl rfl (VM 1 rfl rfl (VN 2 rfl rfl rfl (VO 3 0 rfl rfl rfl (VM 4 rfl rfl (VN 5 rfl rfl rfl (VO 6 1 rfl rfl rfl (VM 7 rfl rfl (VN 8 rfl rfl rfl (VO 9 2 rfl rfl rfl (VB (zs:=[.pointer none]) 10 rfl el214 rfl rfl rfl rfl (.more rfl (.v rfl .nil) (.more rfl (.v rfl .nil) (.more rfl (.v rfl .nil) .nil))) rfl rfl (fun v0_10 => ?_)))))))))))))
 refine VE 11 rfl rfl (EC [1] [0,1,2] rfl (cS b bx 129 x.vs p v hp (out) ⟨v0_10,3,[0,1,2]⟩ (aJ x.from_ hi_from_ rfl (aJ x.size hi_size rfl (aJ x.to_ hi_to_ rfl bD))) (by simp only [e0,List.length_append,List.length_nil];omega)) ?_)
 rintro _ _ _ ⟨rfl,p_0,v_0,hp_0,rfl⟩
 refine bST rfl ?_
 refine BN (FZ0 [0,1,2] Tryz.results66 ?_)
 rw [← hall];exact ⟨rfl,p_0,v_0,hp_0,rfl⟩
theorem uu(b bc bx:Nat)(x:dI)(hx:nq x)(p v:Value)(hp:p=.pointer none∨p=.pointer (some ⟨b,0,none⟩))(out:List UInt8)(hl:(out++gq.enc (gy x)).length≤1000000000) :
   Con Tryz.prog 133 [.pointer (some ⟨bx,0,none⟩),.pointer (some ⟨bc,0,none⟩)] [atC bc b] [bR b p v (.pointer none),aN v 5 1 (out.map cE),Box bx 176 x.vs]
     fun _ ps hp'=>ps=[]∧∃ p' v',(p'=.pointer none∨p'=.pointer (some ⟨b,0,none⟩))∧hp'=[bR b p' v' (.pointer none),aN v' 5 1 ((out++gq.enc (gy x)).map cE),Box bx 176 x.vs]:=by
 have he:gq.enc (gy x)=ak.enc x.name++(aj.enc x.kind++(aj.enc x.at_++(aj.enc x.size))):=rfl
 rw [he] at hl ⊢
 obtain ⟨hi_kind,hi_at_,hi_size⟩:=hx
 have e0:bz ak unT x.vs [0]=ak.enc x.name++([]):=rfl
 have e1:bz aj unI x.vs [1,2,3]=aj.enc x.kind++(aj.enc x.at_++(aj.enc x.size++([]))):=rfl
 have hall:((out++bz ak unT x.vs [0])++bz aj unI x.vs [1,2,3])=out++(ak.enc x.name++(aj.enc x.kind++(aj.enc x.at_++(aj.enc x.size)))):=by simp only [e0,e1,List.append_assoc,List.append_nil,List.nil_append,List.cons_append]
 have hs_name:=gN x.name
 simp only [List.length_append] at hl
 refine EN2 Tryz.func133 rfl (ai (DR [5] 6 (VD 0 0 tk89 0 rfl rfl rfl rfl rfl (VM 1 rfl rfl (VN 2 rfl rfl rfl (VO 3 0 rfl rfl rfl (VB (zs:=[.pointer none]) 4 rfl el215 rfl rfl rfl rfl (.more rfl (.v rfl .nil) .nil) rfl rfl (fun v0_4 => ?_))))))))
 refine VE 5 rfl rfl (EC [1] [0,1,2] rfl (dR b bx 176 x.vs p v hp (out) ⟨v0_4,1,[0]⟩ (aJ x.name (by omega) rfl bD) (by simp only [e0,e1,List.length_append,List.length_nil];omega)) ?_)
 rintro _ _ _ ⟨rfl,p_0,v_0,hp_0,rfl⟩
 refine bST rfl ?_
 refine BN (an (DR [11] 12 (VD 0 0 tk89 1 rfl rfl rfl rfl rfl (VM 1 rfl rfl (VN 2 rfl rfl rfl (VO 3 1 rfl rfl rfl (VM 4 rfl rfl (VN 5 rfl rfl rfl (VO 6 2 rfl rfl rfl (VM 7 rfl rfl (VN 8 rfl rfl rfl (VO 9 3 rfl rfl rfl (VB (zs:=[.pointer none]) 10 rfl el214 rfl rfl rfl rfl (.more rfl (.v rfl .nil) (.more rfl (.v rfl .nil) (.more rfl (.v rfl .nil) .nil))) rfl rfl (fun v1_10 => ?_))))))))))))))
 refine VE 11 rfl rfl (EC [2] [0,1,2] rfl (cS b bx 176 x.vs p_0 v_0 hp_0 (out++bz ak unT x.vs [0]) ⟨v1_10,3,[1,2,3]⟩ (aJ x.kind hi_kind rfl (aJ x.at_ hi_at_ rfl (aJ x.size hi_size rfl bD))) (by simp only [e0,e1,List.length_append,List.length_nil];omega)) ?_)
 rintro _ _ _ ⟨rfl,p_1,v_1,hp_1,rfl⟩
 refine bST rfl ?_
 refine BN (FZ0 [0,1,2] Tryz.results133 ?_)
 rw [← hall];exact ⟨rfl,p_1,v_1,hp_1,rfl⟩
theorem uq(b bc bx:Nat)(x:dH)(hx:nk x)(p v:Value)(hp:p=.pointer none∨p=.pointer (some ⟨b,0,none⟩))(out:List UInt8)(hl:(out++gp.enc (gw x)).length≤1000000000) :
   Con Tryz.prog 135 [.pointer (some ⟨bx,0,none⟩),.pointer (some ⟨bc,0,none⟩)] [atC bc b] [bR b p v (.pointer none),aN v 5 1 (out.map cE),Box bx 180 x.vs]
     fun _ ps hp'=>ps=[]∧∃ p' v',(p'=.pointer none∨p'=.pointer (some ⟨b,0,none⟩))∧hp'=[bR b p' v' (.pointer none),aN v' 5 1 ((out++gp.enc (gw x)).map cE),Box bx 180 x.vs]:=by
 have he:gp.enc (gw x)=aj.enc x.sec++(aj.enc x.at_++(ak.enc x.file++(aj.enc x.line))):=rfl
 rw [he] at hl ⊢
 obtain ⟨hi_sec,hi_at_,hi_line⟩:=hx
 have e0:bz aj unI x.vs [0,1]=aj.enc x.sec++(aj.enc x.at_++([])):=rfl
 have e1:bz ak unT x.vs [2]=ak.enc x.file++([]):=rfl
 have e2:bz aj unI x.vs [3]=aj.enc x.line++([]):=rfl
 have hall:(((out++bz aj unI x.vs [0,1])++bz ak unT x.vs [2])++bz aj unI x.vs [3])=out++(aj.enc x.sec++(aj.enc x.at_++(ak.enc x.file++(aj.enc x.line)))):=by simp only [e0,e1,e2,List.append_assoc,List.append_nil,List.nil_append,List.cons_append]
 have hs_file:=gN x.file
 simp only [List.length_append] at hl
 refine EN2 Tryz.func135 rfl (ai (DR [8] 9 (VD 0 0 tk89 0 rfl rfl rfl rfl rfl (VM 1 rfl rfl (VN 2 rfl rfl rfl (VO 3 0 rfl rfl rfl (VM 4 rfl rfl (VN 5 rfl rfl rfl (VO 6 1 rfl rfl rfl (VB (zs:=[.pointer none]) 7 rfl el214 rfl rfl rfl rfl (.more rfl (.v rfl .nil) (.more rfl (.v rfl .nil) .nil)) rfl rfl (fun v0_7 => ?_)))))))))))
 refine VE 8 rfl rfl (EC [1] [0,1,2] rfl (cS b bx 180 x.vs p v hp (out) ⟨v0_7,2,[0,1]⟩ (aJ x.sec hi_sec rfl (aJ x.at_ hi_at_ rfl bD)) (by simp only [e0,e1,e2,List.length_append,List.length_nil];omega)) ?_)
 rintro _ _ _ ⟨rfl,p_0,v_0,hp_0,rfl⟩
 refine bST rfl ?_
 refine BN (an (ai (DR [5] 6 (VD 0 0 tk89 1 rfl rfl rfl rfl rfl (VM 1 rfl rfl (VN 2 rfl rfl rfl (VO 3 2 rfl rfl rfl (VB (zs:=[.pointer none]) 4 rfl el215 rfl rfl rfl rfl (.more rfl (.v rfl .nil) .nil) rfl rfl (fun v1_4 => ?_)))))))))
 refine VE 5 rfl rfl (EC [2] [0,1,2] rfl (dR b bx 180 x.vs p_0 v_0 hp_0 (out++bz aj unI x.vs [0,1]) ⟨v1_4,1,[2]⟩ (aJ x.file (by omega) rfl bD) (by simp only [e0,e1,e2,List.length_append,List.length_nil];omega)) ?_)
 rintro _ _ _ ⟨rfl,p_1,v_1,hp_1,rfl⟩
 refine bST rfl ?_
 refine BN (an (DR [5] 6 (VD 0 0 tk89 2 rfl rfl rfl rfl rfl (VM 1 rfl rfl (VN 2 rfl rfl rfl (VO 3 3 rfl rfl rfl (VB (zs:=[.pointer none]) 4 rfl el214 rfl rfl rfl rfl (.more rfl (.v rfl .nil) .nil) rfl rfl (fun v2_4 => ?_))))))))
 refine VE 5 rfl rfl (EC [3] [0,1,2] rfl (cS b bx 180 x.vs p_1 v_1 hp_1 ((out++bz aj unI x.vs [0,1])++bz ak unT x.vs [2]) ⟨v2_4,1,[3]⟩ (aJ x.line hi_line rfl bD) (by simp only [e0,e1,e2,List.length_append,List.length_nil];omega)) ?_)
 rintro _ _ _ ⟨rfl,p_2,v_2,hp_2,rfl⟩
 refine bST rfl ?_
 refine BN (FZ0 [0,1,2] Tryz.results135 ?_)
 rw [← hall];exact ⟨rfl,p_2,v_2,hp_2,rfl⟩
theorem uw(b bc bx:Nat)(x:bK)(hx:nr x)(p v:Value)(hp:p=.pointer none∨p=.pointer (some ⟨b,0,none⟩))(out:List UInt8)(hl:(out++gX.enc (gJ x)).length≤1000000000) :
   Con Tryz.prog 137 [.pointer (some ⟨bx,0,none⟩),.pointer (some ⟨bc,0,none⟩)] [atC bc b] [bR b p v (.pointer none),aN v 5 1 (out.map cE),Box bx 159 x.vs]
     fun _ ps hp'=>ps=[]∧∃ p' v',(p'=.pointer none∨p'=.pointer (some ⟨b,0,none⟩))∧hp'=[bR b p' v' (.pointer none),aN v' 5 1 ((out++gX.enc (gJ x)).map cE),Box bx 159 x.vs]:=by
 have he:gX.enc (gJ x)=aj.enc x.at_++(aj.enc x.size):=rfl
 rw [he] at hl ⊢
 obtain ⟨hi_at_,hi_size⟩:=hx
 have e0:bz aj unI x.vs [0,1]=aj.enc x.at_++(aj.enc x.size++([])):=rfl
 have hall:(out++bz aj unI x.vs [0,1])=out++(aj.enc x.at_++(aj.enc x.size)):=by simp only [e0,List.append_assoc,List.append_nil,List.nil_append,List.cons_append]
 simp only [List.length_append] at hl
 refine EN2 Tryz.func137 rfl (DR [8] 9 (VD 0 0 tk89 0 rfl rfl rfl rfl rfl (VM 1 rfl rfl (VN 2 rfl rfl rfl (VO 3 0 rfl rfl rfl (VM 4 rfl rfl (VN 5 rfl rfl rfl (VO 6 1 rfl rfl rfl (VB (zs:=[.pointer none]) 7 rfl el214 rfl rfl rfl rfl (.more rfl (.v rfl .nil) (.more rfl (.v rfl .nil) .nil)) rfl rfl (fun v0_7 => ?_))))))))))
 refine VE 8 rfl rfl (EC [1] [0,1,2] rfl (cS b bx 159 x.vs p v hp (out) ⟨v0_7,2,[0,1]⟩ (aJ x.at_ hi_at_ rfl (aJ x.size hi_size rfl bD)) (by simp only [e0,List.length_append,List.length_nil];omega)) ?_)
 rintro _ _ _ ⟨rfl,p_0,v_0,hp_0,rfl⟩
 refine bST rfl ?_
 refine BN (FZ0 [0,1,2] Tryz.results137 ?_)
 rw [← hall];exact ⟨rfl,p_0,v_0,hp_0,rfl⟩
theorem qH(b bc bx:Nat)(x:ca)(hx:jM x)(p v:Value)(hp:p=.pointer none∨p=.pointer (some ⟨b,0,none⟩))(out:List UInt8)(hl:(out++eh.enc (eN x)).length≤1000000000) :
   Con Tryz.prog 139 [.pointer (some ⟨bx,0,none⟩),.pointer (some ⟨bc,0,none⟩)] [atC bc b] [bR b p v (.pointer none),aN v 5 1 (out.map cE),Box bx 186 x.vs]
     fun _ ps hp'=>ps=[]∧∃ p' v',(p'=.pointer none∨p'=.pointer (some ⟨b,0,none⟩))∧hp'=[bR b p' v' (.pointer none),aN v' 5 1 ((out++eh.enc (eN x)).map cE),Box bx 186 x.vs]:=by
 have he:eh.enc (eN x)=aj.enc x.sec++(aj.enc x.from_++(aj.enc x.to_++(ak.enc x.name++(ak.enc x.file++(aj.enc x.line))))):=rfl
 rw [he] at hl ⊢
 obtain ⟨hi_sec,hi_from_,hi_to_,hi_line⟩:=hx
 have e0:bz aj unI x.vs [0,1,2]=aj.enc x.sec++(aj.enc x.from_++(aj.enc x.to_++([]))):=rfl
 have e1:bz ak unT x.vs [3,4]=ak.enc x.name++(ak.enc x.file++([])):=rfl
 have e2:bz aj unI x.vs [5]=aj.enc x.line++([]):=rfl
 have hall:(((out++bz aj unI x.vs [0,1,2])++bz ak unT x.vs [3,4])++bz aj unI x.vs [5])=out++(aj.enc x.sec++(aj.enc x.from_++(aj.enc x.to_++(ak.enc x.name++(ak.enc x.file++(aj.enc x.line)))))):=by simp only [e0,e1,e2,List.append_assoc,List.append_nil,List.nil_append,List.cons_append]
 have hs_name:=gN x.name
 have hs_file:=gN x.file
 simp only [List.length_append] at hl
 refine EN2 Tryz.func139 rfl (ai (DR [11] 12 (VD 0 0 tk89 0 rfl rfl rfl rfl rfl (VM 1 rfl rfl (VN 2 rfl rfl rfl (VO 3 0 rfl rfl rfl (VM 4 rfl rfl (VN 5 rfl rfl rfl (VO 6 1 rfl rfl rfl (VM 7 rfl rfl (VN 8 rfl rfl rfl (VO 9 2 rfl rfl rfl (VB (zs:=[.pointer none]) 10 rfl el214 rfl rfl rfl rfl (.more rfl (.v rfl .nil) (.more rfl (.v rfl .nil) (.more rfl (.v rfl .nil) .nil))) rfl rfl (fun v0_10 => ?_))))))))))))))
 refine VE 11 rfl rfl (EC [1] [0,1,2] rfl (cS b bx 186 x.vs p v hp (out) ⟨v0_10,3,[0,1,2]⟩ (aJ x.sec hi_sec rfl (aJ x.from_ hi_from_ rfl (aJ x.to_ hi_to_ rfl bD))) (by simp only [e0,e1,e2,List.length_append,List.length_nil];omega)) ?_)
 rintro _ _ _ ⟨rfl,p_0,v_0,hp_0,rfl⟩
 refine bST rfl ?_
 refine BN (an (ai (DR [8] 9 (VD 0 0 tk89 1 rfl rfl rfl rfl rfl (VM 1 rfl rfl (VN 2 rfl rfl rfl (VO 3 3 rfl rfl rfl (VM 4 rfl rfl (VN 5 rfl rfl rfl (VO 6 4 rfl rfl rfl (VB (zs:=[.pointer none]) 7 rfl el215 rfl rfl rfl rfl (.more rfl (.v rfl .nil) (.more rfl (.v rfl .nil) .nil)) rfl rfl (fun v1_7 => ?_))))))))))))
 refine VE 8 rfl rfl (EC [2] [0,1,2] rfl (dR b bx 186 x.vs p_0 v_0 hp_0 (out++bz aj unI x.vs [0,1,2]) ⟨v1_7,2,[3,4]⟩ (aJ x.name (by omega) rfl (aJ x.file (by omega) rfl bD)) (by simp only [e0,e1,e2,List.length_append,List.length_nil];omega)) ?_)
 rintro _ _ _ ⟨rfl,p_1,v_1,hp_1,rfl⟩
 refine bST rfl ?_
 refine BN (an (DR [5] 6 (VD 0 0 tk89 2 rfl rfl rfl rfl rfl (VM 1 rfl rfl (VN 2 rfl rfl rfl (VO 3 5 rfl rfl rfl (VB (zs:=[.pointer none]) 4 rfl el214 rfl rfl rfl rfl (.more rfl (.v rfl .nil) .nil) rfl rfl (fun v2_4 => ?_))))))))
 refine VE 5 rfl rfl (EC [3] [0,1,2] rfl (cS b bx 186 x.vs p_1 v_1 hp_1 ((out++bz aj unI x.vs [0,1,2])++bz ak unT x.vs [3,4]) ⟨v2_4,1,[5]⟩ (aJ x.line hi_line rfl bD) (by simp only [e0,e1,e2,List.length_append,List.length_nil];omega)) ?_)
 rintro _ _ _ ⟨rfl,p_2,v_2,hp_2,rfl⟩
 refine bST rfl ?_
 refine BN (FZ0 [0,1,2] Tryz.results139 ?_)
 rw [← hall];exact ⟨rfl,p_2,v_2,hp_2,rfl⟩
theorem vV(b bc bx:Nat)(x:eE)(hx:rF x)(p v:Value)(hp:p=.pointer none∨p=.pointer (some ⟨b,0,none⟩))(out:List UInt8)(hl:(out++jZ.enc (ji x)).length≤1000000000) :
   Con Tryz.prog 141 [.pointer (some ⟨bx,0,none⟩),.pointer (some ⟨bc,0,none⟩)] [atC bc b] [bR b p v (.pointer none),aN v 5 1 (out.map cE),Box bx 192 x.vs]
     fun _ ps hp'=>ps=[]∧∃ p' v',(p'=.pointer none∨p'=.pointer (some ⟨b,0,none⟩))∧hp'=[bR b p' v' (.pointer none),aN v' 5 1 ((out++jZ.enc (ji x)).map cE),Box bx 192 x.vs]:=by
 have he:jZ.enc (ji x)=aj.enc x.sec++(aj.enc x.from_++(aj.enc x.to_++(ak.enc x.name++(aj.enc x.where_++(aj.enc x.n))))):=rfl
 rw [he] at hl ⊢
 obtain ⟨hi_sec,hi_from_,hi_to_,hi_where_,hi_n⟩:=hx
 have e0:bz aj unI x.vs [0,1,2]=aj.enc x.sec++(aj.enc x.from_++(aj.enc x.to_++([]))):=rfl
 have e1:bz ak unT x.vs [3]=ak.enc x.name++([]):=rfl
 have e2:bz aj unI x.vs [4,5]=aj.enc x.where_++(aj.enc x.n++([])):=rfl
 have hall:(((out++bz aj unI x.vs [0,1,2])++bz ak unT x.vs [3])++bz aj unI x.vs [4,5])=out++(aj.enc x.sec++(aj.enc x.from_++(aj.enc x.to_++(ak.enc x.name++(aj.enc x.where_++(aj.enc x.n)))))):=by simp only [e0,e1,e2,List.append_assoc,List.append_nil,List.nil_append,List.cons_append]
 have hs_name:=gN x.name
 simp only [List.length_append] at hl
 refine EN2 Tryz.func141 rfl (ai (DR [11] 12 (VD 0 0 tk89 0 rfl rfl rfl rfl rfl (VM 1 rfl rfl (VN 2 rfl rfl rfl (VO 3 0 rfl rfl rfl (VM 4 rfl rfl (VN 5 rfl rfl rfl (VO 6 1 rfl rfl rfl (VM 7 rfl rfl (VN 8 rfl rfl rfl (VO 9 2 rfl rfl rfl (VB (zs:=[.pointer none]) 10 rfl el214 rfl rfl rfl rfl (.more rfl (.v rfl .nil) (.more rfl (.v rfl .nil) (.more rfl (.v rfl .nil) .nil))) rfl rfl (fun v0_10 => ?_))))))))))))))
 refine VE 11 rfl rfl (EC [1] [0,1,2] rfl (cS b bx 192 x.vs p v hp (out) ⟨v0_10,3,[0,1,2]⟩ (aJ x.sec hi_sec rfl (aJ x.from_ hi_from_ rfl (aJ x.to_ hi_to_ rfl bD))) (by simp only [e0,e1,e2,List.length_append,List.length_nil];omega)) ?_)
 rintro _ _ _ ⟨rfl,p_0,v_0,hp_0,rfl⟩
 refine bST rfl ?_
 refine BN (an (ai (DR [5] 6 (VD 0 0 tk89 1 rfl rfl rfl rfl rfl (VM 1 rfl rfl (VN 2 rfl rfl rfl (VO 3 3 rfl rfl rfl (VB (zs:=[.pointer none]) 4 rfl el215 rfl rfl rfl rfl (.more rfl (.v rfl .nil) .nil) rfl rfl (fun v1_4 => ?_)))))))))
 refine VE 5 rfl rfl (EC [2] [0,1,2] rfl (dR b bx 192 x.vs p_0 v_0 hp_0 (out++bz aj unI x.vs [0,1,2]) ⟨v1_4,1,[3]⟩ (aJ x.name (by omega) rfl bD) (by simp only [e0,e1,e2,List.length_append,List.length_nil];omega)) ?_)
 rintro _ _ _ ⟨rfl,p_1,v_1,hp_1,rfl⟩
 refine bST rfl ?_
 refine BN (an (DR [8] 9 (VD 0 0 tk89 2 rfl rfl rfl rfl rfl (VM 1 rfl rfl (VN 2 rfl rfl rfl (VO 3 4 rfl rfl rfl (VM 4 rfl rfl (VN 5 rfl rfl rfl (VO 6 5 rfl rfl rfl (VB (zs:=[.pointer none]) 7 rfl el214 rfl rfl rfl rfl (.more rfl (.v rfl .nil) (.more rfl (.v rfl .nil) .nil)) rfl rfl (fun v2_7 => ?_)))))))))))
 refine VE 8 rfl rfl (EC [3] [0,1,2] rfl (cS b bx 192 x.vs p_1 v_1 hp_1 ((out++bz aj unI x.vs [0,1,2])++bz ak unT x.vs [3]) ⟨v2_7,2,[4,5]⟩ (aJ x.where_ hi_where_ rfl (aJ x.n hi_n rfl bD)) (by simp only [e0,e1,e2,List.length_append,List.length_nil];omega)) ?_)
 rintro _ _ _ ⟨rfl,p_2,v_2,hp_2,rfl⟩
 refine bST rfl ?_
 refine BN (FZ0 [0,1,2] Tryz.results141 ?_)
 rw [← hall];exact ⟨rfl,p_2,v_2,hp_2,rfl⟩
theorem sy(b bc bx:Nat)(x:cG)(hx:kT x)(p v:Value)(hp:p=.pointer none∨p=.pointer (some ⟨b,0,none⟩))(out:List UInt8)(hl:(out++fD.enc (fP x)).length≤1000000000) :
   Con Tryz.prog 143 [.pointer (some ⟨bx,0,none⟩),.pointer (some ⟨bc,0,none⟩)] [atC bc b] [bR b p v (.pointer none),aN v 5 1 (out.map cE),Box bx 198 x.vs]
     fun _ ps hp'=>ps=[]∧∃ p' v',(p'=.pointer none∨p'=.pointer (some ⟨b,0,none⟩))∧hp'=[bR b p' v' (.pointer none),aN v' 5 1 ((out++fD.enc (fP x)).map cE),Box bx 198 x.vs]:=by
 have he:fD.enc (fP x)=aj.enc x.sec++(aj.enc x.from_++(aj.enc x.to_++(aj.enc x.bytes))):=rfl
 rw [he] at hl ⊢
 obtain ⟨hi_sec,hi_from_,hi_to_,hi_bytes⟩:=hx
 have e0:bz aj unI x.vs [0,1,2,3]=aj.enc x.sec++(aj.enc x.from_++(aj.enc x.to_++(aj.enc x.bytes++([])))):=rfl
 have hall:(out++bz aj unI x.vs [0,1,2,3])=out++(aj.enc x.sec++(aj.enc x.from_++(aj.enc x.to_++(aj.enc x.bytes)))):=by simp only [e0,List.append_assoc,List.append_nil,List.nil_append,List.cons_append]
 simp only [List.length_append] at hl
 refine EN2 Tryz.func143 rfl (DR [14] 15 (VD 0 0 tk89 0 rfl rfl rfl rfl rfl (VM 1 rfl rfl (VN 2 rfl rfl rfl (VO 3 0 rfl rfl rfl (VM 4 rfl rfl (VN 5 rfl rfl rfl (VO 6 1 rfl rfl rfl (VM 7 rfl rfl (VN 8 rfl rfl rfl (VO 9 2 rfl rfl rfl (VM 10 rfl rfl (VN 11 rfl rfl rfl (VO 12 3 rfl rfl rfl ?_))))))))))))))
 refine VB (zs:=[.pointer none]) 13 rfl el214 rfl rfl rfl rfl (.more rfl (.v rfl .nil) (.more rfl (.v rfl .nil) (.more rfl (.v rfl .nil) (.more rfl (.v rfl .nil) .nil)))) rfl rfl (fun v0_13 => ?_)
 refine VE 14 rfl rfl (EC [1] [0,1,2] rfl (cS b bx 198 x.vs p v hp (out) ⟨v0_13,4,[0,1,2,3]⟩ (aJ x.sec hi_sec rfl (aJ x.from_ hi_from_ rfl (aJ x.to_ hi_to_ rfl (aJ x.bytes hi_bytes rfl bD)))) (by simp only [e0,List.length_append,List.length_nil];omega)) ?_)
 rintro _ _ _ ⟨rfl,p_0,v_0,hp_0,rfl⟩
 refine bST rfl ?_
 refine BN (FZ0 [0,1,2] Tryz.results143 ?_)
 rw [← hall];exact ⟨rfl,p_0,v_0,hp_0,rfl⟩
end Go.Proofs.YtebnelfdimiifaaGreatDoor

