/- Parts of the proof, in build order. No condition. -/
import Derived.Test.YtfkcmbonmpcbfaaGreatRa06
import Derived.Test.YtfkcmbonmpcbfaaGreatRa14
import Derived.Test.YtfkcmbonmpcbfaaGreatRa05
import Derived.Test.YtfkcmbonmpcbfaaGreatRa09
import Derived.Test.YtfkcmbonmpcbfaaGreatRa10
import Derived.Test.YtfkcmbonmpcbfaaGreatRa13
import Derived.Test.YtfkcmbonmpcbfaaGreatRa11
import Derived.Test.YtfkcmbonmpcbfaaGreatRa04
set_option linter.unusedSimpArgs false
set_option linter.unusedVariables false
set_option maxHeartbeats 1000000
set_option maxRecDepth 20000
namespace Go.Sy
open Go.RowKit Go.Lp
def fQ{σ α:Type}(f:σ→Nat→α→Bool × σ):σ→Nat→List α→Bool × σ
 | s,_,[]=>(true,s)
 | s,i,a::l=>if (f s i a).1 then fQ f (f s i a).2 (i+1) l else (false,(f s i a).2)
theorem oK{σ α:Type}(f:σ→Nat→α→Bool × σ){s:σ}{l:List α}{k:Nat}{a:α}(h:l[k]? = some a):fQ f s k (l.drop k)=if (f s k a).1 then fQ f (f s k a).2 (k+1) (l.drop (k+1)) else (false,(f s k a).2):=by
 obtain ⟨h1,h2⟩:=List.getElem?_eq_some_iff.1 h
 rw [List.drop_eq_getElem_cons h1,h2];rfl
theorem o5{σ α:Type}(f:σ→Nat→α→Bool × σ){s:σ}{l:List α}{k i:Nat}(h:l.length≤k):fQ f s i (l.drop k)=(true,s):=by rw [List.drop_eq_nil_of_le h];rfl
theorem Con.addEmp{P:Program}{f:FuncId}{args:List Value}{ps:List Per}{R:Value→List Per→List Res→Prop}(h:Con P f args ps [emp] fun v ps' hp'=>hp'=[emp]∧R v ps' []):Con P f args ps [] R:=fun w S fp hst =>
 (h w S (fun _ _=>False) ⟨hst.per,fun i R hR=>(by
   cases i with
   | zero=>simp only [List.getElem?_cons_zero,Option.some.injEq] at hR;subst hR;exact fun _ h=>h
   | succ i=>simp at hR),fun _ _ _ h=>h.elim,fun _ _ _ _ _ _ h=>h.elim,hst.slt⟩).mono fun e w' ⟨v,ps',hp',S',fp',he,⟨hl,hR⟩,hst',hE,_⟩=>by
   subst hl
   exact ⟨v,ps',[],S',fp',he,hR,⟨hst'.per,fun i R hR=>by simp at hR,fun i hi=>by simp at hi,fun i j hi=>by simp at hi,hst'.slt⟩,hE.wider (fun b ⟨_,_,h⟩=>h.elim),fun b ⟨i,hi,_⟩=>by simp at hi⟩
theorem Con.ofEmp{P:Program}{f:FuncId}{args:List Value}{ps:List Per}{R:Value→List Per→List Res→Prop}(h:Con P f args ps [] fun v ps' hp'=>hp'=[]∧R v ps' [emp]):Con P f args ps [emp] R:=fun w S fp hst =>
 (h w S fp ⟨hst.per,fun i R hR=>by simp at hR,fun i hi=>by simp at hi,fun i j hi=>by simp at hi,hst.slt⟩).mono fun e w' ⟨v,ps',hp',S',fp',he,⟨hl,hR⟩,hst',hE,hg⟩=>by
   subst hl
   refine ⟨v,ps',[emp],S',(fun _ _=>False),he,hR,⟨hst'.per,fun i R hR => ?_,fun _ _ _ h=>h.elim,fun _ _ _ _ _ _ h=>h.elim,hst'.slt⟩,hE.wider (fun b ⟨i,hi,_⟩=>by simp at hi),fun b ⟨_,_,h⟩=>h.elim⟩
   cases i with
   | zero=>simp only [List.getElem?_cons_zero,Option.some.injEq] at hR;subst hR;exact fun _ h=>h
   | succ i=>simp at hR
def allI{α:Type}(f:Nat→α→Bool):Nat→List α→Bool
 | _,[]=>true
 | i,a::l=>f i a && allI f (i+1) l
theorem mR{α:Type}(f:Nat→α→Bool):∀ (i:Nat) (l:List α),(fQ (fun (_:Unit) i a=>(f i a,())) () i l).1=allI f i l
 | _,[]=>rfl
 | i,a::l=>by
   unfold fQ allI
   cases h:f i a with
   | true=>simp only [if_true,Bool.true_and];exact mR f (i+1) l
   | false=>rfl
theorem jo{α:Type}{f:Nat→α→Bool} : ∀ {i:Nat} {l:List α},allI f i l=true↔∀ k a,l[k]? = some a→f (i+k) a=true
 | _,[]=>by simp [allI]
 | i,a::l=>by
   unfold allI
   rw [Bool.and_eq_true,jo]
   constructor
   · rintro ⟨h1,h2⟩ k b hk
     cases k with
     | zero=>simp at hk;subst hk;exact h1
     | succ k=>simp at hk;have:=h2 k b hk;rwa [show i+1+k=i+(k+1) by omega] at this
   · intro h
     exact ⟨h 0 a rfl,fun k b hk=>by rw [show i+1+k=i+(k+1) by omega];exact h (k+1) b (by simpa using hk)⟩
theorem Con.allQ{P:Program}{f:FuncId}{args:List Value}{ps ps0:List Per}{v:Value}(h:Con P f args ps0 [] fun r _ _=>r=v)(hr:∀ q∈ps0,Ent ps q):Con P f args ps [emp] fun r ps' hp'=>ps'=[]∧r=v∧hp'=[emp] :=
 Con.ofEmp fun w S fp hst=>((h.pre hr) w S fp hst).mono fun e w' ⟨u,ps',hp',S',fp',he,hu,hst',hE,hg⟩ =>
   ⟨u,[],[],S',fp',he,⟨rfl,rfl,hu,rfl⟩,⟨fun p hp=>(by cases hp),fun i R hR=>by simp at hR,fun i hi=>by simp at hi,fun i j hi=>by simp at hi,hst'.slt⟩,hE,fun b ⟨i,hi,_⟩=>by simp at hi⟩
theorem Con.pre1{P:Program}{f:FuncId}{args:List Value}{ps:List Per}{p:Per}{l:List Res}{R:Value→List Per→List Res→Prop}(h:Con P f args [p] l R)(h1:Ent ps p):Con P f args ps l R:=h.pre fun x hx=>by rw [List.mem_singleton.1 hx];exact h1
theorem Con.pre2{P:Program}{f:FuncId}{args:List Value}{ps:List Per}{p q:Per}{l:List Res}{R:Value→List Per→List Res→Prop}(h:Con P f args [p,q] l R)(h1:Ent ps p)(h2:Ent ps q):Con P f args ps l R:=h.pre fun x hx=>by
 rcases List.mem_cons.1 hx with rfl | hx
 · exact h1
 · rw [List.mem_singleton.1 hx];exact h2
theorem Con.clH{P:Program}{f:FuncId}{args:List Value}{ps:List Per}{hp:List Res}{v:Value}{R:Value→List Per→List Res→Prop}(h:Con P f args ps hp R)(hv:∀ r ps' hp',R r ps' hp'→r=v):Con P f args ps hp fun r ps' hp'=>ps'=[]∧hp'=[]∧r=v:=fun w S fp hst=>(h w S fp hst).mono fun e w' ⟨u,ps',hp',S',fp',he,hu,hst',hE,hg⟩ =>
   ⟨u,[],[],S',fp',he,⟨rfl,rfl,hv _ _ _ hu⟩,⟨fun p hp=>(by cases hp),fun i R hR=>by simp at hR,fun i hi=>by simp at hi,fun i j hi=>by simp at hi,hst'.slt⟩,hE,fun b ⟨i,hi,_⟩=>by simp at hi⟩
end Go.Sy
namespace Go.Proofs.YtfkcmbonmpcbfaaGreat
open Go.RowKit Go.Lp Go.Sy Go.Lv
open Go.Proofs.Tryz
attribute [local irreducible] aL aB awp aC fwp Quiet
theorem ug{σ:Type}(l:Sl Int)(F:FuncId)(caps:List Value)(p:Per)(R:σ→Res)(f:σ→Nat→Int→Bool × σ)(s0:σ)(hF:dV Tryz.prog F=true)(h:∀ (s:σ) (i:Nat) (a:Int),l.l[i]? = some a→Con Tryz.prog F (.int .i64 i::(.int .i64 a)::caps) [p] [R s] fun r ps hp=>ps=[]∧r=.bool (f s i a).1∧hp=[R (f s i a).2]) :
   Con Tryz.prog 139 [l.val,.func (.func F) #[] caps.toArray] [ShF (fun z=>[.v (.int .i64 z)]) l,p] [R s0] fun r ps hp=>ps=[]∧r=.bool (fQ f s0 0 l.l).1∧hp=[R (fQ f s0 0 l.l).2]:=by
 obtain ⟨w0,hw0⟩:∃ w0,fQ f s0 0 l.l=w0:=⟨_,rfl⟩
 rw [hw0]
 refine EN2 Tryz.func139 rfl (bY (.of (aI 0 rfl)) (fun hlen=>(aSR (aA rfl (aNs (aSR (aM rfl (aU rfl (aZ Tryz.underlying26 rfl) (aM rfl (aNn (aq (aQ [0,1,7,8,9] [1,0] [0] (fun (q:Nat × σ) st=>(q.1≤l.l.length∧fQ f q.2 q.1 (l.l.drop q.1)=w0)∧st=⟨[(0,true,l.val),(1,true,.func (.func F) #[] caps.toArray),(7,true,l.val),(8,true,.int .i64 l.l.length),(9,true,.int .i64 q.1)],[ShF (fun z=>[.v (.int .i64 z)]) l,p],[R q.2]⟩) (fun q=>l.l.length-q.1) rfl (⟨(0,s0),⟨Nat.zero_le _,hw0⟩,rfl⟩) ?_))))))))))))
 rintro ⟨k,s⟩ st ⟨⟨hk,hw⟩,rfl⟩
 dsimp only at hk hw ⊢
 refine aSR (aU rfl (bu rfl rfl) (aNs ?_))
 refine ao _ rfl (fun h1 => ?_) (fun h1 => ?_)
 ·skip
  have hk':k<l.l.length:=by simpa using h1
  obtain ⟨a,ha⟩:∃ a,l.l[k]? = some a:=⟨_,List.getElem?_eq_getElem hk'⟩
  rw [oK f ha] at hw
  refine ar (aj (ah (aq (aSR (aM rfl (UI Tryz.underlying26 tk3 0 rfl rfl rfl rfl rfl (aK ha) rfl rfl (fun ⟨b3_1,o3_1⟩=>(US 0 tk3 0 rfl rfl rfl rfl rfl (aA rfl (aA rfl (aNn (aSR (aM rfl (aM rfl (aM rfl ?_)))))))))))))))
  refine LF rfl (fK [0] [0] hF rfl rfl rfl rfl rfl (h s k a ha) ?_)
  rintro _ _ _ ⟨rfl,rfl,rfl⟩
  refine aST ?_
  refine aU rfl (cV rfl) (aNn ?_)
  refine ao _ rfl (fun h2 => ?_) (fun h2 => ?_)
  ·skip
   have hb:(f s k a).1=false:=by simpa using h2
   rw [hb] at hw
   refine aSR (aA rfl (aNn (ax (dr (bB (bB (dr (bB (FZ1 [0] Tryz.results139 rfl ?_)))))))))
   exact ⟨rfl,by rw [← hw];rfl,by rw [← hw];rfl⟩
  ·skip
   have hb:(f s k a).1=true:=by simpa using h2
   rw [hb] at hw
   refine ar (bp (aj (aa (aU rfl (aX rfl rfl (by omega)) (aM rfl (aNn ?_))))))
   refine ⟨[0,1,7,8,9],[1,0],[0],rfl,?_⟩
   exact ⟨(k+1,(f s k a).2),⟨⟨hk',hw⟩,rfl⟩,by dsimp only;omega⟩
 ·skip
  rw [o5 f (by simp at h1;omega)] at hw
  refine aT (aW (aW (aY (aj (aSR (aA rfl (aNn (ax (FZ1 [0] Tryz.results139 rfl ?_)))))))))
  exact ⟨rfl,by rw [← hw],by rw [← hw];rfl⟩
theorem jT(l:Sl Int)(F:FuncId)(caps:List Value)(p:Per)(f:Nat→Int→Bool)(hF:dV Tryz.prog F=true)(h:∀ (i:Nat) (a:Int),l.l[i]? = some a→Con Tryz.prog F (.int .i64 i::(.int .i64 a)::caps) [p] [] fun r _ _=>r=.bool (f i a)) :
   Con Tryz.prog 139 [l.val,.func (.func F) #[] caps.toArray] [ShF (fun z=>[.v (.int .i64 z)]) l,p] [] fun r ps hp=>ps=[]∧hp=[]∧r=.bool (allI f 0 l.l):=by
 have:=ug l F caps p (fun _:Unit=>emp) (fun _ i a=>(f i a,())) () hF fun _ i a ha=>(h i a ha).allQ fun q hq=>by rw [List.mem_singleton.1 hq];exact .of (aI 0 rfl)
 rw [mR] at this
 exact Con.addEmp (this.post fun v ps' hp' ⟨h1,h2,h3⟩=>⟨h3,h1,rfl,h2⟩)
theorem pk{σ:Type}(l:Sl ByteArray)(F:FuncId)(caps:List Value)(p:Per)(R:σ→Res)(f:σ→Nat→ByteArray→Bool × σ)(s0:σ)(hF:dV Tryz.prog F=true)(h:∀ (s:σ) (i:Nat) (a:ByteArray),l.l[i]? = some a→Con Tryz.prog F (.int .i64 i::(.string a)::caps) [p] [R s] fun r ps hp=>ps=[]∧r=.bool (f s i a).1∧hp=[R (f s i a).2]) :
   Con Tryz.prog 159 [l.val,.func (.func F) #[] caps.toArray] [ShF (fun s=>[.v (.string s)]) l,p] [R s0] fun r ps hp=>ps=[]∧r=.bool (fQ f s0 0 l.l).1∧hp=[R (fQ f s0 0 l.l).2]:=by
 obtain ⟨w0,hw0⟩:∃ w0,fQ f s0 0 l.l=w0:=⟨_,rfl⟩
 rw [hw0]
 refine EN2 Tryz.func159 rfl (bY (.of (aI 0 rfl)) (fun hlen=>(aSR (aA rfl (aNs (aSR (aM rfl (aU rfl (aZ Tryz.underlying28 rfl) (aM rfl (aNn (aq (aQ [0,1,7,8,9] [1,0] [0] (fun (q:Nat × σ) st=>(q.1≤l.l.length∧fQ f q.2 q.1 (l.l.drop q.1)=w0)∧st=⟨[(0,true,l.val),(1,true,.func (.func F) #[] caps.toArray),(7,true,l.val),(8,true,.int .i64 l.l.length),(9,true,.int .i64 q.1)],[ShF (fun s=>[.v (.string s)]) l,p],[R q.2]⟩) (fun q=>l.l.length-q.1) rfl (⟨(0,s0),⟨Nat.zero_le _,hw0⟩,rfl⟩) ?_))))))))))))
 rintro ⟨k,s⟩ st ⟨⟨hk,hw⟩,rfl⟩
 dsimp only at hk hw ⊢
 refine aSR (aU rfl (bu rfl rfl) (aNs ?_))
 refine ao _ rfl (fun h1 => ?_) (fun h1 => ?_)
 ·skip
  have hk':k<l.l.length:=by simpa using h1
  obtain ⟨a,ha⟩:∃ a,l.l[k]? = some a:=⟨_,List.getElem?_eq_getElem hk'⟩
  rw [oK f ha] at hw
  refine ar (aj (ah (aq (aSR (aM rfl (UI Tryz.underlying28 tk9 0 rfl rfl rfl rfl rfl (aK ha) rfl rfl (fun ⟨b3_1,o3_1⟩=>(US 0 tk9 0 rfl rfl rfl rfl rfl (aA rfl (aA rfl (aNn (aSR (aM rfl (aM rfl (aM rfl ?_)))))))))))))))
  refine LF rfl (fK [0] [0] hF rfl rfl rfl rfl rfl (h s k a ha) ?_)
  rintro _ _ _ ⟨rfl,rfl,rfl⟩
  refine aST ?_
  refine aU rfl (cV rfl) (aNn ?_)
  refine ao _ rfl (fun h2 => ?_) (fun h2 => ?_)
  ·skip
   have hb:(f s k a).1=false:=by simpa using h2
   rw [hb] at hw
   refine aSR (aA rfl (aNn (ax (dr (bB (bB (dr (bB (FZ1 [0] Tryz.results159 rfl ?_)))))))))
   exact ⟨rfl,by rw [← hw];rfl,by rw [← hw];rfl⟩
  ·skip
   have hb:(f s k a).1=true:=by simpa using h2
   rw [hb] at hw
   refine ar (bp (aj (aa (aU rfl (aX rfl rfl (by omega)) (aM rfl (aNn ?_))))))
   refine ⟨[0,1,7,8,9],[1,0],[0],rfl,?_⟩
   exact ⟨(k+1,(f s k a).2),⟨⟨hk',hw⟩,rfl⟩,by dsimp only;omega⟩
 ·skip
  rw [o5 f (by simp at h1;omega)] at hw
  refine aT (aW (aW (aY (aj (aSR (aA rfl (aNn (ax (FZ1 [0] Tryz.results159 rfl ?_)))))))))
  exact ⟨rfl,by rw [← hw],by rw [← hw];rfl⟩
abbrev iG:ElT Tryz.prog 153 23 ba:=⟨true,7,[.string .empty,.string .empty,.int .i64 0,.int .i64 0,.int .i64 0,.string .empty,.string .empty],ba.vs,ba.row,ba.val,tk153,tk23,Tryz.underlying23,el23,by kernel_rfl,by decide,by decide,rfl,fun _=>rfl,fun _=>rfl,fun _=>rfl,fun _=>rfl,fun _=>rfl,fun _=>rfl⟩
abbrev jc:ElT Tryz.prog 222 32 bC:=⟨true,2,[.int .i64 0,.int .i64 0],bC.vs,bC.row,bC.val,tk222,tk32,Tryz.underlying32,el32,by kernel_rfl,by decide,by decide,rfl,fun _=>rfl,fun _=>rfl,fun _=>rfl,fun _=>rfl,fun _=>rfl,fun _=>rfl⟩
abbrev iE:ElT Tryz.prog 159 24 bA:=⟨true,6,[.string .empty,.string .empty,.bool false,.int .i64 0,.int .i64 0,.int .i64 0],bA.vs,bA.row,bA.val,tk159,tk24,Tryz.underlying24,el24,by kernel_rfl,by decide,by decide,rfl,fun _=>rfl,fun _=>rfl,fun _=>rfl,fun _=>rfl,fun _=>rfl,fun _=>rfl⟩
abbrev iF:ElT Tryz.prog 155 25 bK:=⟨true,5,[.string .empty,.string .empty,.int .i64 0,.bool false,.bool false],bK.vs,bK.row,bK.val,tk155,tk25,Tryz.underlying25,el25,by kernel_rfl,by decide,by decide,rfl,fun _=>rfl,fun _=>rfl,fun _=>rfl,fun _=>rfl,fun _=>rfl,fun _=>rfl⟩
abbrev k7:ElT Tryz.prog 218 30 cN:=⟨true,4,[.string .empty,.int .i64 0,.int .i64 0,.int .i64 0],cN.vs,cN.row,cN.val,tk218,tk30,Tryz.underlying30,el30,by kernel_rfl,by decide,by decide,rfl,fun _=>rfl,fun _=>rfl,fun _=>rfl,fun _=>rfl,fun _=>rfl,fun _=>rfl⟩
abbrev kY:ElT Tryz.prog 220 31 cS:=⟨true,4,[.int .i64 0,.int .i64 0,.string .empty,.int .i64 0],cS.vs,cS.row,cS.val,tk220,tk31,Tryz.underlying31,el31,by kernel_rfl,by decide,by decide,rfl,fun _=>rfl,fun _=>rfl,fun _=>rfl,fun _=>rfl,fun _=>rfl,fun _=>rfl⟩
abbrev gg:ElT Tryz.prog 262 33 bF:=⟨true,6,[.int .i64 0,.int .i64 0,.int .i64 0,.string .empty,.string .empty,.int .i64 0],bF.vs,bF.row,bF.val,tk262,tk33,Tryz.underlying33,el33,by kernel_rfl,by decide,by decide,rfl,fun _=>rfl,fun _=>rfl,fun _=>rfl,fun _=>rfl,fun _=>rfl,fun _=>rfl⟩
abbrev kr:ElT Tryz.prog 268 34 dJ:=⟨true,6,[.int .i64 0,.int .i64 0,.int .i64 0,.string .empty,.int .i64 0,.int .i64 0],dJ.vs,dJ.row,dJ.val,tk268,tk34,Tryz.underlying34,el34,by kernel_rfl,by decide,by decide,rfl,fun _=>rfl,fun _=>rfl,fun _=>rfl,fun _=>rfl,fun _=>rfl,fun _=>rfl⟩
abbrev gY:ElT Tryz.prog 274 35 cC:=⟨true,4,[.int .i64 0,.int .i64 0,.int .i64 0,.int .i64 0],cC.vs,cC.row,cC.val,tk274,tk35,Tryz.underlying35,el35,by kernel_rfl,by decide,by decide,rfl,fun _=>rfl,fun _=>rfl,fun _=>rfl,fun _=>rfl,fun _=>rfl,fun _=>rfl⟩
abbrev kX:ElT Tryz.prog 204 38 cq:=⟨true,5,[.string .empty,.string .empty,.string .empty,.slice none 0 0,.int .i64 0],cq.vs,cq.row,cq.val,tk204,tk38,Tryz.underlying38,el38,by kernel_rfl,by decide,by decide,rfl,fun _=>rfl,fun _=>rfl,fun _=>rfl,fun _=>rfl,fun _=>rfl,fun _=>rfl⟩
abbrev jC:ElT Tryz.prog 209 202 dw:=⟨true,3,[.int .i64 0,.int .i64 0,.int .i64 0],dw.vs,dw.row,dw.val,tk209,tk202,Tryz.underlying202,el202,by kernel_rfl,by decide,by decide,rfl,fun _=>rfl,fun _=>rfl,fun _=>rfl,fun _=>rfl,fun _=>rfl,fun _=>rfl⟩
abbrev gU:ElT Tryz.prog 195 29 aH:=⟨true,2,[.string .empty,.slice none 0 0],aH.vs,aH.row,aH.val,tk195,tk29,Tryz.underlying29,el29,by kernel_rfl,by decide,by decide,rfl,fun _=>rfl,fun _=>rfl,fun _=>rfl,fun _=>rfl,fun _=>rfl,fun _=>rfl⟩
abbrev tc:ElT Tryz.prog 157 27 fb:=⟨true,4,[.int .i64 0,.int .i64 0,.int .i64 0,.int .i64 0],fb.vs,fb.row,fb.val,tk157,tk27,Tryz.underlying27,el27,by kernel_rfl,by decide,by decide,rfl,fun _=>rfl,fun _=>rfl,fun _=>rfl,fun _=>rfl,fun _=>rfl,fun _=>rfl⟩
def mf (v0 v1 v2:Nat):Code:=(.seq (.region 0 #[⟨(.some 4),(.assign (.const (Go.Value.bool false))),4, "right.go:35", #[],none⟩] false) (.seq (.seq (.region 1 #[⟨(.some 7),(.move (.tmp 0)),v0, "right.go:36", #[],none⟩,⟨(.some 8),(.call ⟨(Go.Callee.builtin Go.Builtin.len),#[(.tmp 7)],#[v0]⟩),3, "right.go:36", #[⟨0,Go.Ground.data⟩],none⟩,⟨(.some 9),(.move (.const (Go.Value.int Go.IntKind.i64 0))),3, "right.go:36", #[],none⟩] false) (.block 0 (.loop (.seq (.region 2 #[⟨(.some 10),(.binOp Go.BinOp.lss 3 (.tmp 9) (.tmp 8) 3),0, "right.go:36", #[],none⟩] false) (.seq (.cond (.tmp 10) Go.Code.skip (.exit 0)) (.seq (.block 1 (.seq (.region 3 #[⟨(.some 11),(.move (.tmp 9)),3, "right.go:36", #[],none⟩,⟨(.some 12),(.indexAddr v0 (.tmp 7) (.tmp 9)),0, "right.go:36", #[],none⟩,⟨(.some 13),(.load v1 (.tmp 12)),v1, "right.go:36", #[⟨1,Go.Ground.data⟩],none⟩,⟨(.some 6),(.alloc v1),0, "right.go:36", #[],none⟩,⟨(.some 5),(.assign (.tmp 11)),3, "right.go:36", #[⟨0,Go.Ground.data⟩,⟨0,Go.Ground.phase⟩,⟨1,Go.Ground.phase⟩,⟨2,Go.Ground.phase⟩,⟨3,Go.Ground.phase⟩],none⟩,⟨none,(.store v1 (.tmp 6) (.tmp 13)),0, "right.go:36", #[⟨3,Go.Ground.data⟩,⟨2,Go.Ground.data⟩,⟨4,Go.Ground.chain⟩,⟨0,Go.Ground.phase⟩,⟨1,Go.Ground.phase⟩,⟨2,Go.Ground.phase⟩,⟨3,Go.Ground.phase⟩,⟨4,Go.Ground.phase⟩],none⟩] false) (.seq (.region 4 #[⟨(.some 14),(.move (.tmp 1)),v2, "right.go:37", #[],none⟩,⟨(.some 15),(.move (.tmp 5)),3, "right.go:37", #[],none⟩,⟨(.some 16),(.load v1 (.tmp 6)),v1, "right.go:37", #[],none⟩,⟨(.some 17),(.call ⟨(Go.Callee.value (.tmp 14)),#[(.tmp 15),(.tmp 16)],#[3,v1]⟩),4, "right.go:37", #[⟨0,Go.Ground.data⟩,⟨1,Go.Ground.data⟩,⟨2,Go.Ground.data⟩],none⟩,⟨(.some 18),(.unOp Go.UnOp.not 4 (.tmp 17)),4, "right.go:37", #[⟨3,Go.Ground.data⟩],none⟩] false) (.cond (.tmp 18) (.seq (.region 5 #[⟨(.some 4),(.assign (.const (Go.Value.bool false))),4, "right.go:38", #[],none⟩] false) Go.Code.ret) Go.Code.skip)))) (.region 6 #[⟨(.some 19),(.binOp Go.BinOp.add 3 (.tmp 9) (.const (Go.Value.int Go.IntKind.i64 1)) 3),3, "right.go:36", #[],none⟩,⟨(.some 9),(.move (.tmp 19)),3, "right.go:36", #[⟨0,Go.Ground.data⟩],none⟩] false))))))) (.seq (.region 7 #[⟨(.some 4),(.assign (.const (Go.Value.bool true))),4, "right.go:41", #[],none⟩] false) Go.Code.ret)))
theorem fc{F0 v0 v1 v2:Nat}{σ α:Type}(X:ElT Tryz.prog v1 v0 α)(hF:isF Tryz.prog F0 (mf v0 v1 v2) 20 #[.tmp 4])(l:Sl α)(F:FuncId)(caps:List Value)(p:Per)(R:σ→Res)(f:σ→Nat→α→Bool × σ)(s0:σ)(hFc:dV Tryz.prog F=true)(h:∀ (s:σ) (i:Nat) (a:α),l.l[i]? = some a→Con Tryz.prog F (.int .i64 i::X.vl a::caps) [p] [R s] fun r ps hp=>ps=[]∧r=.bool (f s i a).1∧hp=[R (f s i a).2]) :
   Con Tryz.prog F0 [l.val,.func (.func F) #[] caps.toArray] [ShF X.row l,p] [R s0] fun r ps hp=>ps=[]∧r=.bool (fQ f s0 0 l.l).1∧hp=[R (fQ f s0 0 l.l).2]:=by
 obtain ⟨w0,hw0⟩:∃ w0,fQ f s0 0 l.l=w0:=⟨_,rfl⟩
 rw [hw0]
 have tk_v1:=X.tE
 have un_v0:=X.uA
 obtain ⟨fn,hf,hb,hn,hr⟩:=hF
 refine Con.enterG hf hb hn (by simp) ?_
 unfold mf
 show awp _ _ _ _ ⟨[(0,true,_),(1,true,_)],_,_⟩
 refine bY (.of (aI 0 rfl)) (fun hlen=>(aSR (aA rfl (aNs (aSR (aM rfl (aU rfl (aZ un_v0 rfl) (aM rfl (aNn (aq (aQ [0,1,7,8,9] [1,0] [0] (fun (q:Nat × σ) st=>(q.1≤l.l.length∧fQ f q.2 q.1 (l.l.drop q.1)=w0)∧st=⟨[(0,true,l.val),(1,true,.func (.func F) #[] caps.toArray),(7,true,l.val),(8,true,.int .i64 l.l.length),(9,true,.int .i64 q.1)],[ShF X.row l,p],[R q.2]⟩) (fun q=>l.l.length-q.1) rfl (⟨(0,s0),⟨Nat.zero_le _,hw0⟩,rfl⟩) ?_)))))))))))
 rintro ⟨k,s⟩ st ⟨⟨hk,hw⟩,rfl⟩
 dsimp only at hk hw ⊢
 refine aSR (aU rfl (bu rfl rfl) (aNs ?_))
 refine ao _ rfl (fun h1 => ?_) (fun h1 => ?_)
 ·skip
  have hk':k<l.l.length:=by simpa using h1
  obtain ⟨a,ha⟩:∃ a,l.l[k]? = some a:=⟨_,List.getElem?_eq_getElem hk'⟩
  rw [oK f ha] at hw
  refine ar (aj (ah (aq (aSR (aM rfl (iJ true rfl rfl (fun _=>bI un_v0 tk_v1 rfl ((.of (aI 0 rfl))) rfl (aK ha) rfl ((X.rl a))) (fun h=>absurd h (by decide)) (fun ⟨b3_1,o3_1⟩=>(aU rfl (gz (o:=0) tk_v1 rfl (aI 0 rfl) rfl (X.ldD a)) (LT rfl (bk (zs:=X.zs) X.hz rfl (fun b3_3=>(aHN ?_))))))))))))
  refine aA rfl (aD rfl (aF 1 tk_v1 rfl rfl rfl (X.put a) (aHK ?_)))
  refine aNn (aSR (aM rfl (aM rfl (aU rfl (bJ 1 tk_v1 rfl rfl (X.ld a)) (LF rfl (fK [0] [0] hFc rfl rfl rfl rfl rfl (h s k a ha) ?_))))))
  rintro _ _ _ ⟨rfl,rfl,rfl⟩
  refine aST ?_
  refine aU rfl (cV rfl) (aNn ?_)
  refine ao _ rfl (fun h2 => ?_) (fun h2 => ?_)
  ·skip
   have hb:(f s k a).1=false:=by simpa using h2
   rw [hb] at hw
   refine aSR (aA rfl (aNn (ax (dr (bB (bB (dr (bB ?_))))))))
   refine iX [] [0] rfl hr rfl ?_ (.inr rfl)
   exact ⟨rfl,by rw [← hw];rfl,by rw [← hw];rfl⟩
  ·skip
   have hb:(f s k a).1=true:=by simpa using h2
   rw [hb] at hw
   refine ar (bp (aj (aa (aU rfl (aX rfl rfl (by omega)) (aM rfl (aNn ?_))))))
   refine ⟨[0,1,7,8,9],[1,0],[0],rfl,?_⟩
   exact ⟨(k+1,(f s k a).2),⟨⟨hk',hw⟩,rfl⟩,by dsimp only;omega⟩
 ·skip
  rw [o5 f (by simp at h1;omega)] at hw
  refine aT (aW (aW (aY (aj (aSR (aA rfl (aNn (ax ?_))))))))
  refine iX [] [0] rfl hr rfl ?_ (.inr rfl)
  exact ⟨rfl,by rw [← hw],by rw [← hw];rfl⟩
theorem dx{F0 v0 v1 v2:Nat}{α:Type}(X:ElT Tryz.prog v1 v0 α)(hF:isF Tryz.prog F0 (mf v0 v1 v2) 20 #[.tmp 4])(l:Sl α)(F:FuncId)(caps:List Value)(p:Per)(f:Nat→α→Bool)(hFc:dV Tryz.prog F=true)(h:∀ (i:Nat) (a:α),l.l[i]? = some a→Con Tryz.prog F (.int .i64 i::X.vl a::caps) [p] [] fun r _ _=>r=.bool (f i a)) :
   Con Tryz.prog F0 [l.val,.func (.func F) #[] caps.toArray] [ShF X.row l,p] [] fun r ps hp=>ps=[]∧hp=[]∧r=.bool (allI f 0 l.l):=by
 have:=fc X hF l F caps p (fun _:Unit=>emp) (fun _ i a=>(f i a,())) () hFc fun _ i a ha=>(h i a ha).allQ fun q hq=>by rw [List.mem_singleton.1 hq];exact .of (aI 0 rfl)
 rw [mR] at this
 exact Con.addEmp (this.post fun v ps' hp' ⟨h1,h2,h3⟩=>⟨h3,h1,rfl,h2⟩)
theorem nX:isF Tryz.prog 144 (mf 23 153 239) 20 #[.tmp 4]:=⟨_,Tryz.func144,rfl,Tryz.ntmps144,Tryz.results144⟩
theorem ou:type_of% (dx iG nX):=dx iG nX
theorem kN:isF Tryz.prog 166 (mf 32 222 259) 20 #[.tmp 4]:=⟨_,Tryz.func166,rfl,Tryz.ntmps166,Tryz.results166⟩
theorem sH{σ:Type} : type_of% (@fc _ _ _ _ σ _ jc kN):=fc jc kN
theorem qY:type_of% (dx jc kN):=dx jc kN
theorem nU:isF Tryz.prog 149 (mf 24 159 248) 20 #[.tmp 4]:=⟨_,Tryz.func149,rfl,Tryz.ntmps149,Tryz.results149⟩
theorem pg{σ:Type} : type_of% (@fc _ _ _ _ σ _ iE nU):=fc iE nU
theorem nV:isF Tryz.prog 154 (mf 25 155 250) 20 #[.tmp 4]:=⟨_,Tryz.func154,rfl,Tryz.ntmps154,Tryz.results154⟩
theorem ph{σ:Type} : type_of% (@fc _ _ _ _ σ _ iF nV):=fc iF nV
theorem rB:isF Tryz.prog 161 (mf 30 218 255) 20 #[.tmp 4]:=⟨_,Tryz.func161,rfl,Tryz.ntmps161,Tryz.results161⟩
theorem qX:type_of% (dx k7 rB):=dx k7 rB
theorem rA:isF Tryz.prog 164 (mf 31 220 257) 20 #[.tmp 4]:=⟨_,Tryz.func164,rfl,Tryz.ntmps164,Tryz.results164⟩
theorem qW:type_of% (dx kY rA):=dx kY rA
theorem iZ:isF Tryz.prog 170 (mf 33 262 265) 20 #[.tmp 4]:=⟨_,Tryz.func170,rfl,Tryz.ntmps170,Tryz.results170⟩
theorem pj{σ:Type} : type_of% (@fc _ _ _ _ σ _ gg iZ):=fc gg iZ
theorem ot:type_of% (dx gg iZ):=dx gg iZ
theorem mg:isF Tryz.prog 174 (mf 34 268 271) 20 #[.tmp 4]:=⟨_,Tryz.func174,rfl,Tryz.ntmps174,Tryz.results174⟩
theorem uh{σ:Type} : type_of% (@fc _ _ _ _ σ _ kr mg):=fc kr mg
theorem sG:type_of% (dx kr mg):=dx kr mg
theorem jN:isF Tryz.prog 178 (mf 35 274 277) 20 #[.tmp 4]:=⟨_,Tryz.func178,rfl,Tryz.ntmps178,Tryz.results178⟩
theorem qZ{σ:Type} : type_of% (@fc _ _ _ _ σ _ gY jN):=fc gY jN
theorem pe:type_of% (dx gY jN):=dx gY jN
theorem rz:isF Tryz.prog 180 (mf 38 204 281) 20 #[.tmp 4]:=⟨_,Tryz.func180,rfl,Tryz.ntmps180,Tryz.results180⟩
theorem qV:type_of% (dx kX rz):=dx kX rz
theorem o4:isF Tryz.prog 182 (mf 202 209 280) 20 #[.tmp 4]:=⟨_,Tryz.func182,rfl,Tryz.ntmps182,Tryz.results182⟩
theorem pf:type_of% (dx jC o4):=dx jC o4
end Go.Proofs.YtfkcmbonmpcbfaaGreat

namespace Go.Proofs.YtfkcmbonmpcbfaaGreat
open Go.RowKit Go.Lp Go.Sy Go.Lv
def jb(n:Int):Int:=if n < -1152921504606846976∨1152921504606846976<n then n else n-n % 256
def upF(n:Int):Int:=if jb n≠n then jb n+256 else n
def upB(n:Int):Bool:=decide (upF n=n)
def il(n lo hi:Int):Bool:=decide (lo≤n) && decide (n≤hi)
theorem mi{n lo hi:Int} : il n lo hi=true↔lo≤n∧n≤hi:=by unfold il;simp
def ib(k:Int):Bool:=(decide (k=0) || decide (k=1)) || decide (k=2)
def ea(k:Int):Int:=if (decide (k=1) || decide (k=2))=true then 4 else 8
def instrB(c n:Int):Bool:=il n 0 (c-8) && decide (n.tmod 8=0)
def nS(s:ByteArray):Bool:=decide ((s.size:Int)≤64)
def mB(s:ByteArray):Bool:=decide (s=⟨#[]⟩) || fj s
def l6(im:az):Bool:=((((((((upB im.code && (upB im.data && upB im.zero)) && decide (0≤im.code)) && decide (im.code≤im.data)) && decide (im.data≤im.zero)) && decide (im.zero≤1048576)) && decide ((im.bytes.size:Int)=im.data)) && il im.block im.tls.size 1048576) && fj im.name)
structure fV (im:az):Prop where
 up:upB im.code=true∧upB im.data=true∧upB im.zero=true
 c0:0≤im.code
 cd:im.code≤im.data
 dz:im.data≤im.zero
 zm:im.zero≤1048576
 by_:(im.bytes.size:Int)=im.data
 bl:(im.tls.size:Int)≤im.block∧im.block≤1048576
 nm:fj im.name=true
theorem gN{im:az} : l6 im=true↔fV im:=by
 unfold l6
 simp only [Bool.and_eq_true,decide_eq_true_eq,mi]
 constructor
 · rintro ⟨⟨⟨⟨⟨⟨⟨⟨h1,h2,h3⟩,h4⟩,h5⟩,h6⟩,h7⟩,h8⟩,h9⟩,h10⟩
   exact ⟨⟨h1,h2,h3⟩,h4,h5,h6,h7,h8,h9,h10⟩
 · rintro ⟨⟨h1,h2,h3⟩,h4,h5,h6,h7,h8,h9,h10⟩
   exact ⟨⟨⟨⟨⟨⟨⟨⟨h1,h2,h3⟩,h4⟩,h5⟩,h6⟩,h7⟩,h8⟩,h9⟩,h10⟩
open Go.Proofs.Tryz
attribute [local irreducible] aL aB awp aC fwp Quiet
theorem zp(n:Int)(hn:I64 n):Con Tryz.prog 244 [.int .i64 n,.int .i64 256] [] [] fun r _ _=>r=.int .i64 (jb n):=by
 refine EN2 Tryz.func244 rfl (aSR (aA rfl (aNs (aSR (aM rfl (aU rfl (bu rfl rfl) (aM rfl (aG rfl rfl (fun hc=>aS rfl) (aG rfl rfl (fun hc=>eA (ae rfl hc) rfl) (aU rfl (eu rfl rfl (fun h=>gf rfl h)) (aM rfl (aG rfl rfl (fun hc=>aS rfl) ?_))))))))))))
 refine aG rfl rfl (fun hc=>bu (ae rfl hc) rfl) (aU rfl (eu rfl rfl (fun h=>gf rfl h)) (aM rfl (aG rfl rfl (fun hc=>aS rfl) (aG rfl rfl (fun hc=>eA (ae rfl hc) rfl) (aU rfl (eu rfl rfl (fun h=>gf rfl h)) (aNn ?_))))))
 refine ao _ rfl (fun h1 => ?_) (fun h1 => ?_)
 ·skip
  have hb:n < -1152921504606846976∨1152921504606846976<n:=by simp at h1;omega
  refine aSR (aM rfl (aA rfl (aNn (ax (bB (FZ1 [] Tryz.results244 rfl ?_))))))
  unfold jb;rw [if_pos hb]
 ·skip
  have hb:¬ (n < -1152921504606846976∨1152921504606846976<n):=by simp at h1;omega
  have ht:n.tmod 256=if n % 256=0∨0≤n then n % 256 else n % 256-256:=by
    have e:(256:Int).natAbs=256:=rfl
    rw [Int.tmod_eq_emod,e];split<;>split<;>omega
  refine ar (aj (aSR (aM rfl (aM rfl (aU rfl (gZ rfl rfl (by decide)) (aA rfl (aNs (aSR (aM rfl (aU rfl (bu rfl rfl) (aNn ?_)))))))))))
  refine ao _ rfl (fun h2 => ?_) (fun h2 => ?_)
  ·skip
   have hneg:n.tmod 256<0:=by simpa using h2
   have ht2:n.tmod 256+256=n % 256:=by rw [ht] at hneg ⊢;split at hneg<;>omega
   refine aa (aM rfl (aM rfl (aU rfl (aX rfl rfl (by omega)) (aA rfl (aNn (aSR (aM rfl (aM rfl (aU rfl (dp rfl rfl (by omega)) (aA rfl (aNn (ax (FZ1 [] Tryz.results244 rfl ?_)))))))))))))
   unfold jb;rw [if_neg hb,← ht2]
  ·skip
   have hneg:¬ n.tmod 256<0:=by simpa using h2
   have ht2:n.tmod 256=n % 256:=by rw [ht] at hneg ⊢;split at hneg<;>omega
   refine ar (aj (aSR (aM rfl (aM rfl (aU rfl (dp rfl rfl (by omega)) (aA rfl (aNn (ax (FZ1 [] Tryz.results244 rfl ?_)))))))))
   unfold jb;rw [if_neg hb,← ht2]
theorem aco(n:Int)(hn:I64 n):Con Tryz.prog 141 [.int .i64 n,.int .i64 256] [] [] fun r _ _=>r=.int .i64 (upF n):=by
 have hd:jb n=n∨jb n≤1152921504606846976:=by unfold jb;split<;>omega
 have hd2:jb n≠n → -1152921504606846976-256≤jb n:=by unfold jb;split<;>omega
 refine EN2 Tryz.func141 rfl (aSR (aA rfl (aNs (aSR (aM rfl (aM rfl (aU rfl (Q0 rfl (zp n hn)) (aA rfl (aNn (aSR (aM rfl (aM rfl (aU rfl (ft rfl rfl) (aNn ?_))))))))))))))
 refine ao _ rfl (fun h1 => ?_) (fun h1 => ?_)
 ·skip
  have hb:jb n≠n:=by simpa using h1
  have hd3:=hd2 hb
  refine aSR (aM rfl (aM rfl (aU rfl (aX rfl rfl (by omega)) (aA rfl (aNn (ax (bB (FZ1 [] Tryz.results141 rfl ?_))))))))
  unfold upF;rw [if_pos hb]
 ·skip
  have hb:¬ jb n≠n:=by simpa using h1
  refine ar (aj (aSR (aM rfl (aA rfl (aNn (ax (FZ1 [] Tryz.results141 rfl ?_)))))))
  unfold upF;rw [if_neg hb]
theorem wM(i n:Int)(hn:I64 n):Con Tryz.prog 140 [.int .i64 i,.int .i64 n] [] [] fun r _ _=>r=.bool (upB n):=by
 refine EN2 Tryz.func140 rfl (aSR (aA rfl (aNn (aSR (aM rfl (aU rfl (Q0 rfl (aco n hn)) (aM rfl (aU rfl (cJ rfl rfl) (aA rfl (aNn (ax (FZ1 [] Tryz.results140 rfl ?_))))))))))))
 rfl
theorem gG(s:ByteArray)(hs:s.size≤maxLen):Con Tryz.prog 143 [.string s] [] [] fun r _ _=>r=.bool (fj s):=by
 have hok:∀ ps:List Per,Ent ps (aH.ok ⟨s,⟨none,0,[]⟩⟩):=fun ps w S hp=>⟨hs,gD.e none 0 (Nat.zero_le _),fun x hx=>by cases hx⟩
 refine EN1 Tryz.func143 rfl (aSR (aA rfl (aNn (aSR (aM rfl (aU rfl (eb (l:=[(0,.tmp 3)]) (zs:=[.string .empty,.slice none 0 0]) (pl:=[(0,1),(1,1)]) (by kernel_rfl) (by kernel_rfl) (by kernel_rfl) rfl rfl rfl) (LT rfl (WL (zs:=[.string .empty,.slice none 0 0]) el29 rfl rfl rfl (.more rfl (.v rfl (.v rfl .nil)) .nil) rfl rfl (fun v1_2=>(aHN ?_))))))))))
 refine eN 0 rfl ?_
 refine LT rfl (EC [0] [] rfl ((qb ⟨v1_2,1,[⟨s,⟨none,0,[]⟩⟩]⟩).pre (fun p hp=>by
   rcases List.mem_cons.1 hp with rfl | hp
   · exact .of (aI 0 rfl)
   · rw [List.mem_singleton.1 hp]
     exact fun w S hp x hx=>(by rw [List.mem_singleton.1 hx];exact hok _ w S hp))) ?_)
 rintro _ _ _ ⟨⟨rfl,rfl⟩,b,rfl,hb1,hb2⟩
 refine aST ?_
 refine aA rfl (aNn (ax (FZ1 [] Tryz.results143 rfl (congrArg Value.bool ?_))))
 cases hn:fj s with
 | true=>exact hb2 ⟨Nat.le_refl _,fun d hd=>by rw [List.mem_singleton.1 hd];exact hn,fun d hd=>by rw [List.mem_singleton.1 hd]⟩
 | false =>
   cases b with
   | false=>rfl
   | true=>have:=(hb1 rfl).nm _ (List.mem_singleton.2 rfl);rw [hn] at this;cases this
theorem jU(s:ByteArray)(hs:s.size≤maxLen):Con Tryz.prog 153 [.string s] [] [] fun r _ _=>r=.bool (mB s):=by
 refine EN1 Tryz.func153 rfl (aSR (aA rfl (aNn (aSR (aM rfl (aU rfl (jh rfl rfl) (aM rfl (aG rfl rfl (fun hc=>aS rfl) (aG rfl rfl (fun hc=>Q0 (aN (ae rfl hc) rfl) (gG s hs)) (aU rfl (eu rfl rfl (fun h=>gf rfl h)) (aA rfl (aNn (ax (FZ1 [] Tryz.results153 rfl ?_))))))))))))))
 rfl
theorem jy(s:ByteArray):Con Tryz.prog 163 [.string s] [] [] fun r _ _=>r=.bool (nS s):=by
 refine EN1 Tryz.func163 rfl (aSR (aA rfl (aNn (aSR (aM rfl (aU rfl (cP Tryz.underlying9 rfl) (aU rfl (ff rfl rfl) (aA rfl (aNn (ax (FZ1 [] Tryz.results163 rfl ?_)))))))))))
 rfl
theorem dA(n lo hi:Int):Con Tryz.prog 142 [.int .i64 n,.int .i64 lo,.int .i64 hi] [] [] fun r _ _=>r=.bool (il n lo hi):=by
 refine EN3 Tryz.func142 rfl (aSR (aA rfl (aNn (aSR (aM rfl (aM rfl (aU rfl (fi rfl rfl) (aM rfl (aG rfl rfl (fun hc=>aS rfl) (aG rfl rfl (fun hc=>aS rfl) (aG rfl rfl (fun hc=>ff (ae rfl hc) (ae rfl hc)) (aU rfl (bo rfl rfl (fun h=>gt rfl h)) (aA rfl (aNn (ax ?_)))))))))))))))
 refine FZ1 [] Tryz.results142 rfl ?_
 rfl
theorem rL(k:Int):Con Tryz.prog 99 [.int .i64 k] [] [] fun r _ _=>r=.bool (ib k):=by
 refine EN1 Tryz.func99 rfl (aSR (aA rfl (aNn (aSR (aM rfl (aU rfl (cJ rfl rfl) (aM rfl (aG rfl rfl (fun hc=>aS rfl) (aG rfl rfl (fun hc=>cJ (ae rfl hc) rfl) (aU rfl (eu rfl rfl (fun h=>gf rfl h)) (aM rfl (aG rfl rfl (fun hc=>aS rfl) (aG rfl rfl (fun hc=>cJ (ae rfl hc) rfl) ?_)))))))))))))
 refine aU rfl (eu rfl rfl (fun h=>gf rfl h)) (aA rfl (aNn (ax (FZ1 [] Tryz.results99 rfl ?_))))
 rfl
theorem pN(k:Int):Con Tryz.prog 156 [.int .i64 k] [] [] fun r _ _=>r=.int .i64 (ea k):=by
 refine EN1 Tryz.func156 rfl (aSR (aA rfl (aNs (aSR (aM rfl (aU rfl (cJ rfl rfl) (aM rfl (aG rfl rfl (fun hc=>aS rfl) (aG rfl rfl (fun hc=>cJ (ae rfl hc) rfl) (aU rfl (eu rfl rfl (fun h=>gf rfl h)) (aNn ?_)))))))))))
 refine ao _ rfl (fun h1 => ?_) (fun h1 => ?_)
 ·skip
  refine aSR (aA rfl (aNn (ax (bB (FZ1 [] Tryz.results156 rfl ?_)))))
  unfold ea;rw [if_pos h1]
 ·skip
  refine ar (aj (aSR (aA rfl (aNn (ax (FZ1 [] Tryz.results156 rfl ?_))))))
  unfold ea;rw [if_neg (by rw [h1];decide)]
theorem con_instr(im:az)(hc:0≤im.code∧im.code≤9223372036854775807)(n:Int):Con Tryz.prog 147 [im.val,.int .i64 n] [] [] fun r _ _=>r=.bool (instrB im.code n):=by
 refine EN2 Tryz.func147 rfl (aSR (LT rfl (cK rfl rfl rfl (fun b0_0=>(aHN ?_)))))
 refine aA rfl (aNn (aSR (aM rfl (UO 2 rfl rfl (UL 0 tk3 rfl rfl rfl rfl (aU rfl (dp rfl rfl (by omega)) (aU rfl (Q0 rfl (dA n 0 (im.code-8))) (aM rfl (aG rfl rfl (fun hc=>aS rfl) (aG rfl rfl (fun hc=>gZ (ae rfl hc) rfl (by decide)) (aG rfl rfl (fun hc=>cJ (ae rfl hc) rfl) (aU rfl (bo rfl rfl (fun h=>gt rfl h)) (aA rfl (aNn (ax ?_)))))))))))))))
 refine FZ1 [] Tryz.results147 rfl ?_
 rfl
theorem zh(im:az)(hn:im.name.size≤maxLen)(hi:I64 im.code∧I64 im.data∧I64 im.zero):Con Tryz.prog 65 [im.val] [] [] fun r _ _=>r=.bool (l6 im):=by
 refine EN1 Tryz.func65 rfl (aSR (LT rfl (cK rfl rfl rfl (fun b0_0=>(aHN ?_)))))
 refine aA rfl (aNn (aSR (UO 2 rfl rfl (UL 0 tk3 rfl rfl rfl rfl (UO 3 rfl rfl (UL 0 tk3 rfl rfl rfl rfl (UO 4 rfl rfl (UL 0 tk3 rfl rfl rfl rfl (LT rfl (WL (zs:=[.int .i64 0]) el26 rfl rfl rfl (.more rfl (.v rfl .nil) (.more rfl (.v rfl .nil) (.more rfl (.v rfl .nil) .nil))) rfl rfl (fun v1_6=>(aHN ?_))))))))))))
 refine eN 1 rfl ?_
 refine LT rfl (EC [0,0] [] rfl ((jT ⟨v1_6,3,[im.code,im.data,im.zero]⟩ 140 [] (ShF (fun z=>[.v (.int .i64 z)]) ⟨v1_6,3,[im.code,im.data,im.zero]⟩) (fun _ n=>upB n) (by kernel_rfl) (fun i a ha=>(wM i a (by
   have:=List.mem_of_getElem? ha
   simp at this
   rcases this with rfl | rfl | rfl
   · exact hi.1
   · exact hi.2.1
   · exact hi.2.2)).pre (fun _ h=>by cases h)))) ?_)
 rintro _ _ _ ⟨rfl,rfl,rfl⟩
 refine aST ?_
 refine aA rfl (aNn (aSR (aM rfl (aM rfl (GO 2 rfl rfl rfl (GL 0 tk3 rfl rfl rfl rfl rfl (aG rfl rfl (fun hc=>ff rfl (ae rfl hc)) (aU rfl (bo rfl rfl (fun h=>gt rfl h)) (aM rfl (GO 2 rfl rfl rfl (GL 0 tk3 rfl rfl rfl rfl rfl (GO 3 rfl rfl rfl ?_))))))))))))
 refine GL 0 tk3 rfl rfl rfl rfl rfl (aG rfl rfl (fun hc=>ff (ae rfl hc) (ae rfl hc)) (aU rfl (bo rfl rfl (fun h=>gt rfl h)) (aM rfl (GO 3 rfl rfl rfl (GL 0 tk3 rfl rfl rfl rfl rfl (GO 4 rfl rfl rfl (GL 0 tk3 rfl rfl rfl rfl rfl (aG rfl rfl (fun hc=>ff (ae rfl hc) (ae rfl hc)) (aU rfl (bo rfl rfl (fun h=>gt rfl h)) (aM rfl (GO 4 rfl rfl rfl (GL 0 tk3 rfl rfl rfl rfl rfl (aG rfl rfl (fun hc=>ff (ae rfl hc) rfl) (aU rfl (bo rfl rfl (fun h=>gt rfl h)) (aM rfl ?_)))))))))))))))
 refine GO 5 rfl rfl rfl (GL 0 tk9 rfl rfl rfl rfl rfl (aG rfl rfl (fun hc=>cP Tryz.underlying9 (ae rfl hc)) (GO 3 rfl rfl rfl (GL 0 tk3 rfl rfl rfl rfl rfl (aG rfl rfl (fun hc=>cJ (ae rfl hc) (ae rfl hc)) (aU rfl (bo rfl rfl (fun h=>gt rfl h)) (aM rfl (GO 7 rfl rfl rfl (GL 0 tk3 rfl rfl rfl rfl rfl (GO 6 rfl rfl rfl (GL 0 tk9 rfl rfl rfl rfl rfl (aG rfl rfl (fun hc=>cP Tryz.underlying9 (ae rfl hc)) (aG rfl rfl (fun hc=>fe (by kernel_rfl) (aN (ae rfl hc) (aN (ae rfl hc) (aN (ae rfl rfl) rfl))) (fun w S fp hst=>(dA _ _ _).quiet0 hst)) (aU rfl (bo rfl rfl (fun h=>gt rfl h)) (aM rfl ?_)))))))))))))))
 refine GO 0 rfl rfl rfl (GL 0 tk9 rfl rfl rfl rfl rfl (aG rfl rfl (fun hc=>Q0 (aN (ae rfl hc) rfl) (gG _ hn)) (aU rfl (bo rfl rfl (fun h=>gt rfl h)) (aA rfl (aNn (ax (FZ1 [] Tryz.results65 rfl (congrArg Value.bool ?_))))))))
 unfold l6
 simp [allI]
end Go.Proofs.YtfkcmbonmpcbfaaGreat

namespace Go.Proofs.YtfkcmbonmpcbfaaGreat
open Go.RowKit Go.Lp Go.Sy Go.Lv
theorem yq{α:Type}[DecidableEq α]{l:List α}{a:α} : (fu l a).getD false=true↔a∈l:=by unfold fu;by_cases h:a∈l<;>simp [h]
def qd(a b:bC):Bool:=decide (a.at_+a.size≤b.at_) || decide (b.at_+b.size≤a.at_)
theorem wS{a b:bC}(h:qd a b=true):qd b a=true:=by unfold qd at *;rw [Bool.or_comm];exact h
def kB:List bC→Bool
 | []=>true
 | a::l=>l.all (qd a) && kB l
theorem nv:∀ {l:List bC},kB l=true↔l.Pairwise fun a b=>qd a b=true
 | []=>by simp [kB]
 | a::l=>by rw [kB,Bool.and_eq_true,List.all_eq_true,List.pairwise_cons,nv]
def gi(s:bC):Bool := !decide (s.size≤0)
def o6(l:List bC):Bool:=kB (l.filter gi)
def aay(q:List bC)(i:Nat)(a:bC):Bool:=decide ((i:Int)=0) || decide ((elt q ((i:Int)-1)).at_+(elt q ((i:Int)-1)).size≤a.at_)
theorem xf{l m:List bC}(h:l.Perm m):kB l=kB m:=by
 rw [Bool.eq_iff_iff,nv,nv]
 exact h.pairwise_iff fun h=>wS h
theorem o7:∀ {q:List bC},(∀ s∈q,gi s=true)→(q.Pairwise fun a b=>a.at_≤b.at_)→((∀ k a b,q[k]? = some a→q[k+1]? = some b→a.at_+a.size≤b.at_)↔kB q=true)
 | [],_,_=>by simp [kB]
 | [a],_,_=>by simp [kB]
 | a :: b::q,hf,hs=>by
   have ih:=o7 (q:=b::q) (fun s hs=>hf s (List.mem_cons_of_mem _ hs)) (List.pairwise_cons.1 hs).2
   have ha:¬ a.size≤0:=by have:=hf a (by simp);simpa [gi] using this
   have hb:¬ b.size≤0:=by have:=hf b (by simp);simpa [gi] using this
   rw [List.pairwise_cons] at hs
   have hab:=hs.1 b (by simp)
   have hbc:=(List.pairwise_cons.1 hs.2).1
   rw [kB,Bool.and_eq_true,← ih,List.all_eq_true]
   constructor
   · intro h
     have h0:=h 0 a b rfl rfl
     refine ⟨fun s hm => ?_,fun k x y hx hy=>h (k+1) x y (by simpa using hx) (by simpa using hy)⟩
     unfold qd
     rw [Bool.or_eq_true,decide_eq_true_eq]
     rcases List.mem_cons.1 hm with rfl | hm
     · exact .inl h0
     · have:=hbc s hm;left;omega
   · rintro ⟨h1,h2⟩ k x y hx hy
     cases k with
     | zero =>
       simp at hx hy;subst hx;subst hy
       have:=h1 b (by simp)
       unfold qd at this
       rw [Bool.or_eq_true,decide_eq_true_eq,decide_eq_true_eq] at this
       rcases this with h | h
       · exact h
       · omega
     | succ k=>exact h2 k x y (by simpa using hx) (by simpa using hy)
theorem uc{l q:List bC}(hp:q.Perm (l.filter gi))(hs:q.Pairwise fun a b=>¬ sF b.at_ a.at_<0):allI (aay q) 0 q=o6 l:=by
 unfold o6
 rw [← xf hp,Bool.eq_iff_iff,jo,← o7 (fun s h=>(List.mem_filter.1 (hp.mem_iff.1 h)).2) (hs.imp fun h=>by rw [ue] at h;omega)]
 constructor
 · intro h k a b ha hb
   have:=h (k+1) b hb
   have hk:=(List.getElem?_eq_some_iff.1 ha).1
   have he:elt q (((0+(k+1):Nat):Int)-1)=a:=by
     rw [show (((0+(k+1):Nat):Int)-1)=(k:Int) by omega]
     unfold elt;rw [List.getD_eq_getElem?_getD,Int.toNat_natCast,ha];rfl
   unfold aay at this
   rw [he,Bool.or_eq_true,decide_eq_true_eq,decide_eq_true_eq] at this
   rcases this with h | h
   · omega
   · exact h
 · intro h k b hb
   unfold aay
   rw [Bool.or_eq_true,decide_eq_true_eq,decide_eq_true_eq]
   cases k with
   | zero=>left;rfl
   | succ k =>
     right
     have hk:=(List.getElem?_eq_some_iff.1 hb).1
     have ha:q[k]? = some q[k]:=List.getElem?_eq_getElem (by omega)
     have he:elt q (((0+(k+1):Nat):Int)-1)=q[k]:=by
       rw [show (((0+(k+1):Nat):Int)-1)=(k:Int) by omega]
       unfold elt;rw [List.getD_eq_getElem?_getD,Int.toNat_natCast,ha];rfl
     rw [he];exact h k _ b ha hb
structure l8 (g:bC→Bool) (zs ys:List bC) (w r:Nat):Prop where
 ln:ys.length=zs.length
 wr:w<r
 rl:r≤zs.length
 kp:ys.take w=(zs.take r).filter fun a => !g a
 rs:ys.drop r=zs.drop r
section
variable {g:bC→Bool} {zs ys:List bC} {w r i:Nat} {a:bC}
theorem l8.start(ha:zs[i]? = some a)(hg:g a=true)(h:∀ b∈zs.take i,g b=false):l8 g zs zs i (i+1):=by
 have hi:=(List.getElem?_eq_some_iff.1 ha).1
 refine ⟨rfl,Nat.lt_succ_self _,hi,?_,rfl⟩
 rw [List.take_add_one,ha,Option.toList_some,List.filter_append,List.filter_eq_self.2 fun b hb=>by rw [h b hb];rfl]
 simp [hg]
theorem l8.get(h:l8 g zs ys w r)(hr:r<zs.length):ys[r]? = zs[r]? := by
 have:=congrArg (·[0]?) h.rs
 simpa [List.getElem?_drop] using this
theorem l8.keep(h:l8 g zs ys w r)(ha:zs[r]? = some a)(hg:g a=false):l8 g zs (ys.set w a) (w+1) (r+1):=by
 have hr:=(List.getElem?_eq_some_iff.1 ha).1
 have hln:=h.ln
 have hwr:=h.wr
 refine ⟨by rw [List.length_set];exact hln,by omega,hr,?_,?_⟩
 · rw [List.take_add_one,List.getElem?_set_self (by omega),List.take_set_of_le (Nat.le_refl _),h.kp,List.take_add_one,ha]
   simp [hg]
 · rw [List.drop_set_of_lt (by omega)]
   have:=congrArg (List.drop 1) h.rs
   rwa [List.drop_drop,List.drop_drop] at this
theorem l8.drop(h:l8 g zs ys w r)(ha:zs[r]? = some a)(hg:g a=true):l8 g zs ys w (r+1):=by
 have hr:=(List.getElem?_eq_some_iff.1 ha).1
 have hwr:=h.wr
 refine ⟨h.ln,by omega,hr,?_,?_⟩
 · rw [h.kp,List.take_add_one,ha];simp [hg]
 · have:=congrArg (List.drop 1) h.rs
   rwa [List.drop_drop,List.drop_drop] at this
theorem l8.all(h:l8 g zs ys w r)(hr:zs.length≤r):ys.take w=zs.filter fun a => !g a:=by rw [h.kp,List.take_of_length_le hr]
end

abbrev pV(p:Int × Int):Value:=.agg #[.int .i64 p.1,.int .i64 p.2]
def xi(im:az)(k:Int):Int:=if k=1 then im.code else if k=2 then im.data else 0
def xh(im:az)(k:Int):Int:=if k=0 then im.code else if k=1 then im.data else if k=2 then im.zero else im.block
theorem abz(im:az){k:Int}(h:0≤k∧k≤4):(ic (ic (ic (ic (ic (fun _=>none) 0 ((0:Int),im.code)) 1 (im.code,im.data)) 2 (im.data,im.zero)) 3 ((0:Int),im.block)) 4 ((0:Int),im.block) k).getD ((0:Int),(0:Int))=(xi im k,xh im k):=by
 unfold ic xi xh
 rcases (by omega:k=0∨k=1∨k=2∨k=3∨k=4) with rfl | rfl | rfl | rfl | rfl<;>simp
def iC(x:ba):Bool:=((((((!il x.kind 0 4) || (!fj x.sec)) || (!mB x.obj)) || (!decide ((x.digest.size:Int)=32))) || ((!decide ((x.form.size:Int)=0)) && (!decide ((x.form.size:Int)=32)))) || (!il x.size 0 1048576)) || (!il x.at_ 0 1048576)
def xa(im:az)(x:ba):Bool:=(decide (xi im x.kind≤x.at_) && decide (x.at_+x.size≤xh im x.kind)) && ((!decide (x.kind=0)) || decide (x.at_.tmod 8=0))
def jf(im:az)(x:ba):Bool:=(!iC x) && xa im x
theorem og{x:ba}(h:iC x=false):(0≤x.kind∧x.kind≤4)∧(0≤x.size∧x.size≤1048576)∧(0≤x.at_∧x.at_≤1048576):=by
 unfold iC at h
 simp only [Bool.or_eq_false_iff,Bool.not_eq_false',mi] at h
 exact ⟨h.1.1.1.1.1.1,h.1.2,h.2⟩
end Go.Proofs.YtfkcmbonmpcbfaaGreat

namespace Go.Sy
open Go.RowKit Go.Lp
section
variable {P:Program} {n:Fr} {env:Env} {ps:List Per} {hp:List Res} {d:Option Tmp} {ty:TypeId} {pos:String} {af:Array Edge} {gd:Option (Nat × Bool)} {K:Sta→Prop}
theorem wV{x:Operand}{T E:TypeId}{sz k B m cp c' o m':Nat}{rows:List (List D)}{zs:List Value}(i:Nat)(hel:elB P T E sz=true)(hz:fm P E=some zs)(h1:zs.all (·.oneCell')=true)(hzl:zs.length=sz)(ho:o=k*sz)(hm':m'=m-k)
   (hx:ev env x=some (true,.slice (some ⟨B,o,none⟩) m' c')) (hi:hp[i]? = some (aO (.slice (some ⟨B,0,none⟩) m cp) E sz rows)) (hm:rows.length=m) (hk:k<m)
   (hK:K ⟨env,ps,hp.set i (aO (.slice (some ⟨B,0,none⟩) k cp) E sz (rows.take k))⟩):Eff P n ⟨none,.call ⟨.builtin .clear,#[x],#[T]⟩,ty,pos,af,gd⟩ ⟨env,ps,hp⟩ false K:=.change i hi fun w S fp a hst he hn hR=>by
 subst ho;subst hm'
 have e1:=he.val hx rfl
 obtain ⟨hT,it,hit,_⟩:=dT hel
 obtain ⟨z,hzr,hzc⟩:=vO hz w
 have hbS:=fun b hb=>(hst.lt i (List.getElem?_eq_some_iff.1 hi).1 b hb).2
 rcases hR with ⟨h,_⟩ | ⟨b,cap,hv,⟨cs,sp,hb,hrows,hcap,hrc,hcm⟩,hF⟩
 · cases h
 · simp only [Value.slice.injEq,Option.some.injEq,Addr.mk.injEq] at hv
   obtain ⟨⟨rfl,_⟩,hmr,rfl⟩:=hv
   have hzsz:z.cells.size=sz:=by rw [← hzl,← hzc];simp
   have hvl:(Builtin.zeroCells z.cells (m-k)).toList.length=(m-k)*sz:=by simp [Builtin.zeroCells,hzsz]
   have hv1:∀ v∈(Builtin.zeroCells z.cells (m-k)).toList,v.oneCell'=true:=fun v hv=>by
     have hv2:v∈(List.range ((m-k)*z.cells.size)).map fun i=>z.cells[i % z.cells.size]! := by simpa [Builtin.zeroCells] using hv
     obtain ⟨j,hj,rfl⟩:=List.mem_map.1 hv2
     have hj2:=List.mem_range.1 hj
     have h0:0<z.cells.size:=by
       rcases Nat.eq_zero_or_pos z.cells.size with h | h
       · rw [h] at hj2;simp at hj2
       · exact h
     have hlt:=Nat.mod_lt j h0
     rw [getElem!_pos z.cells _ hlt]
     exact List.all_eq_true.1 h1 _ (by rw [← hzc];exact Array.getElem_mem_toList hlt)
   have hlen:=hrows.len
   have hle:k*sz+(m-k)*sz≤cs.length:=by
     rw [hlen,hm,← Nat.add_mul];exact Nat.mul_le_mul_right _ (by omega)
   have hrun:(execOp a.eval ⟨none,.call ⟨.builtin .clear,#[x],#[T]⟩,ty,pos,af,gd⟩).run P w=.ok (.value (.tuple #[])) (w.setRow B (wrC (cs++sp) (k*sz) (Builtin.zeroCells z.cells (m-k)).toList).toArray):=by
     have hexec:execOp a.eval ⟨none,.call ⟨.builtin .clear,#[x],#[T]⟩,ty,pos,af,gd⟩=(Builtin.clear_ #[T] ty (#[x].map a.eval)).bind fun r=>Sem.pure (Next.value r):=rfl
     rw [hexec,show #[x].map a.eval = #[a.eval x] by simp,e1,Sem.run_bind']
     have hst2:=gA (P:=P) B E (k*sz) (Builtin.zeroCells z.cells (m-k)).toList 0 (cs++sp) w hb hv1 (by rw [hvl,List.length_append];omega)
     obtain ⟨q,hq⟩:∃ q,m-k=q+1:=⟨m-k-1,by omega⟩
     have:(Builtin.clear_ #[T] ty #[.slice (some ⟨B,k*sz,none⟩) (m-k) c']).run P w=.ok (.tuple #[]) (w.setRow B (wrC (cs++sp) (k*sz) (Builtin.zeroCells z.cells (m-k)).toList).toArray):=by
       rw [hq] at hst2 ⊢
       simp [Builtin.clear_,run_underlying hT,hzr,hst2]
     rw [this];rfl
   rw [hrun]
   refine ⟨aO (.slice (some ⟨B,0,none⟩) k cp) E sz (rows.take k),_,hK,rfl,rfl,he,?_,rfl,rfl,⟨rfl,rfl⟩,by simp [World.setRow],fun b' hb' hne=>setRow_other _ _ _ _ (fun h=>hne ((hF b').2 h))⟩
   refine .inr ⟨B,cp,by rw [List.length_take,Nat.min_eq_left (by omega)],⟨cs.take (k*sz),(wrC (cs++sp) (k*sz) (Builtin.zeroCells z.cells (m-k)).toList).drop (k*sz),?_,?_,?_,by rw [List.length_take];omega,hcm⟩,hF⟩
   · have:cs.take (k*sz)++(wrC (cs++sp) (k*sz) (Builtin.zeroCells z.cells (m-k)).toList).drop (k*sz)=wrC (cs++sp) (k*sz) (Builtin.zeroCells z.cells (m-k)).toList:=by
       have e:cs.take (k*sz)=(wrC (cs++sp) (k*sz) (Builtin.zeroCells z.cells (m-k)).toList).take (k*sz):=by
         unfold wrC
         rw [List.take_append_of_le_length (l₂:=sp) (by omega),List.take_append_of_le_length (by rw [List.length_take];omega),List.take_take,Nat.min_self]
       rw [e,List.take_append_drop]
     rw [this];exact setRow_heap _ _ _ _ _ _ hb
   · exact (om hrows (by omega)).mono (fun b' hb'=>setRow_other _ _ _ _ (fun h=>hbS B ((hF B).2 rfl) (h ▸ hb'))) (fun _ h=>h)
   · have hle2:k*sz+(Builtin.zeroCells z.cells (m-k)).toList.length≤(cs++sp).length:=by rw [hvl,List.length_append];omega
     rw [List.length_append,List.length_drop,tO hle2,List.length_take,← hcap,List.length_append];omega
theorem jD{α β:Type}[DecidableEq α]{κ:α→Value}{ν:β→Value}{m:α→Option β}{kt:TypeId}{T E:TypeId}{x y z:Operand}{b:Nat}{k:α}{v:β}(i:Nat)(hT:P.underlying T=some (.map kt E))(KO:ij P kt κ)(hx:ev env x=some (true,.map (some b)))(hy:ev env y=some (true,κ k))(hz:ev env z=some (true,ν v))(hi:hp[i]? = some (fv b κ ν m))
   (hK:K ⟨env,ps,hp.set i (fv b κ ν (ic m k v))⟩):Eff P n ⟨none,.insert T x y z,ty,pos,af,gd⟩ ⟨env,ps,hp⟩ false K:=fg (ty:=ty) (pos:=pos) (af:=af) (gd:=gd) i hT KO hx hy hz hi hK
end
end Go.Sy

namespace Go.Proofs.YtfkcmbonmpcbfaaGreat
open Go.RowKit Go.Lp Go.Sy Go.Lv
open Go.Proofs.Tryz
attribute [local irreducible] aL aB awp aC fwp Quiet
theorem uU(l:Sl bC)(hl:l.l.length≤1000000):Con Tryz.prog 246 [l.val] [ShF bC.row l] [] fun r ps hp=>ps=[]∧∃ (ad:Option Addr) (c:Nat),r=.slice ad l.l.length c∧hp=[aO (.slice ad l.l.length c) 222 2 (l.l.map bC.row)]:=by
 refine EN1 Tryz.func246 rfl ?_
 refine kg (φ:=l.ad=none→l.l=[]) (fun w S fp hst => ?_) (fun hnil => ?_)
 · intro hn
   have hrep:gD w S (.slice l.ad l.l.length l.cap) (.sl (l.l.map bC.row)):=hst.per _ (aI 0 rfl)
   rw [hn] at hrep
   generalize hrw:l.l.map bC.row=rows at hrep
   generalize l.l.length=m at hrep
   cases hrep with
   | e=>exact List.map_eq_nil_iff.1 hrw
 refine aSR (aA rfl (aNs (aSR (aM rfl (aU rfl (xm Tryz.underlying32 rfl) (aNn ?_))))))
 refine ao _ rfl (fun h1 => ?_) (fun h1 => ?_)
 ·skip
  have hl0:l.l=[]:=hnil (by simpa using h1)
  refine ah (cW 222 2 ?_)
  show awp _ _ _ _ ⟨_,_,[_]⟩
  refine aa (aA rfl (aNn (ax (bB (FZ1 [0] Tryz.results246 rfl ?_)))))
  exact ⟨rfl,none,0,by rw [hl0];rfl,by rw [hl0];rfl⟩
 ·skip
  refine ar (aj (aSR (LT rfl (xy el32 rfl (fun v3_0=>(aHN ?_))))))
  refine aM rfl ?_
  refine aD rfl (sw 0 el32 el32 rfl rfl rfl rfl (aI 0 rfl) ((fun r hr=>by obtain ⟨z,_,rfl⟩:=List.mem_map.1 hr;rfl)) (by show ([]:List (List D)).length+(l.l.map bC.row).length≤_;rw [List.length_map];exact Nat.le_trans (show 0+l.l.length≤1000000 by omega) (by decide)) (l.l.length) (by simp;try omega) (fun v3_2 c3_2 => ?_))
  refine aHK ?_
  refine aA rfl (aNn (ax (FZ1 [0] Tryz.results246 rfl ?_)))
  exact ⟨rfl,v3_2,c3_2,rfl,rfl⟩
theorem pn(a:bC):Con Tryz.prog 247 [a.val] [] [] fun r _ _=>r=.bool (!gi a):=by
 refine EN1 Tryz.func247 rfl (aSR (LT rfl (cK rfl rfl rfl (fun b0_0=>(aHN ?_)))))
 refine aA rfl (aNn (aSR (UO 1 rfl rfl (UL 0 tk3 rfl rfl rfl rfl (aU rfl (ff rfl rfl) (aA rfl (aNn (ax (FZ1 [] Tryz.results247 rfl ?_)))))))))
 unfold gi;rw [Bool.not_not]
theorem zk(v:Value)(zs:List bC)(hz:zs.length≤1000000):Con Tryz.prog 300 [v,.func (.func 247) #[] #[]] [] [aO v 222 2 (zs.map bC.row)]
   fun r ps hp=>ps=[]∧hp=[aO v 222 2 (zs.map bC.row)]∧∃ z:Int,r=.int .i64 z∧((z = -1∧∀ b∈zs,(!gi b)=false)∨∃ (i:Nat) (a:bC),z=i∧zs[i]? = some a∧(!gi a)=true∧∀ b∈zs.take i,(!gi b)=false):=by
 refine EN2 Tryz.func300 rfl (aSR (aA rfl (aNs (aSR (aM rfl (aU rfl (gL 0 Tryz.underlying32 rfl rfl) (aM rfl (aNn (aq ?_)))))))))
 refine aQ [0,1,7,8] [] [0] (fun (k:Nat) s=>(k≤zs.length∧∀ b∈zs.take k,(!gi b)=false)∧s=⟨[(0,true,v),(1,true,.func (.func 247) #[] #[]),(7,true,.int .i64 zs.length),(8,true,.int .i64 k)],[],[aO v 222 2 (zs.map bC.row)]⟩) (fun k=>zs.length-k) rfl (⟨0,⟨Nat.zero_le _,fun b h=>by cases h⟩,by rw [List.length_map];rfl⟩) ?_
 rintro k s ⟨⟨hk,hpre⟩,rfl⟩
 refine aSR (aU rfl (bu rfl rfl) (aNs ?_))
 refine ao _ rfl (fun h1 => ?_) (fun h1 => ?_)
 ·skip
  have hk':k<zs.length:=by simpa using h1
  obtain ⟨a,ha⟩:∃ a,zs[k]? = some a:=⟨zs[k]'hk',by simp⟩
  refine ar (aj (ah (aq (aSR (aM rfl (aA rfl (aNn (aSR (aM rfl (aM rfl (aM rfl ?_)))))))))))
  refine aU rfl (cr 0 k el32 rfl rfl rfl rfl (by rw [List.length_map];exact hk')) ?_
  refine aU rfl (bN (u:=a.val) 0 k 0 tk222 rfl rfl (aK ha) rfl rfl) (aU rfl (jg (by kernel_rfl) rfl rfl (fun w S fp hst=>(pn a).quiet0 hst)) (aNn ?_))
  refine ao _ rfl (fun h2 => ?_) (fun h2 => ?_)
  ·skip
   refine aSR (aM rfl (aA rfl (aNn (ax (dr (bB (bB (dr (bB (FZ1 [0] Tryz.results300 rfl ?_))))))))))
   exact ⟨rfl,rfl,k,rfl,.inr ⟨k,a,rfl,ha,h2,hpre⟩⟩
  ·skip
   refine ar (bp (aj (aa (aU rfl (aX rfl rfl (by omega)) (aM rfl (aNn ?_))))))
   refine ⟨[0,1,7,8],[],[0],rfl,?_⟩
   refine ⟨k+1,⟨⟨by omega,fun b hb => ?_⟩,rfl⟩,by omega⟩
   rw [List.take_add_one,ha,Option.toList_some] at hb
   rcases List.mem_append.1 hb with h | h
   · exact hpre b h
   · rw [List.mem_singleton.1 h];exact h2
 ·skip
  refine aT (aW (aW (aY (aj (aSR (aA rfl (aNn (ax (FZ1 [0] Tryz.results300 rfl ?_)))))))))
  exact ⟨rfl,rfl,-1,rfl,.inl ⟨rfl,fun b hb=>hpre b (by rw [List.take_of_length_le (by simp at h1;omega)];exact hb)⟩⟩
theorem zj(v:Value)(zs:List bC)(hz:zs.length≤1000000):Con Tryz.prog 245 [v,.func (.func 247) #[] #[]] [] [aO v 222 2 (zs.map bC.row)]
   fun r ps hp=>ps=[]∧hp=[aO r 222 2 ((zs.filter gi).map bC.row)]:=by
 have hff:(zs.filter fun a => !(!gi a))=zs.filter gi:=List.filter_congr fun a _=>Bool.not_not _
 refine EN2 Tryz.func245 rfl (aSR (aA rfl (aNn (aSR (aM rfl (aM rfl (LF rfl (EC [] [0] rfl (zk v zs hz) ?_))))))))
 rintro _ _ _ ⟨rfl,rfl,z,rfl,hres⟩
 refine aST ?_
 refine aA rfl (aNs (aSR (aM rfl (aU rfl (cJ rfl rfl) (aNn ?_)))))
 refine ao _ rfl (fun h1 => ?_) (fun h1 => ?_)
 ·skip
  have hz1:z = -1:=by simpa using h1
  have hall:∀ b∈zs,(!gi b)=false:=by
    rcases hres with ⟨_,h⟩ | ⟨i,_,h,_⟩
    · exact h
    · omega
  refine aSR (aM rfl (aA rfl (aNn (ax (bB (FZ1 [0] Tryz.results245 rfl ?_))))))
  exact ⟨rfl,by rw [List.filter_eq_self.2 fun b hb=>by have:=hall b hb;simpa using this];rfl⟩
 ·skip
  have hz1:¬ z = -1:=by simpa using h1
  obtain ⟨i,a0,rfl,ha0,hg0,hpre⟩:=hres.resolve_left fun h=>hz1 h.1
  have hil:=(List.getElem?_eq_some_iff.1 ha0).1
  refine ar (aj (ah (aSR (aM rfl (aU rfl (aX rfl rfl (by omega)) (aA rfl (aNn (aq ?_))))))))
  refine jq 0 rfl (by intro h;rw [List.map_eq_nil_iff] at h;rw [h] at hil;cases hil) (fun B cp hv hcp => ?_)
  rw [List.length_map] at hv hcp
  subst hv
  refine aQ [0,1,5,6] [] [0] (fun (q:(Nat × Nat) × List bC) st=>l8 (fun a => !gi a) zs q.2 q.1.1 q.1.2∧st=⟨[(0,true,.slice (some ⟨B,0,none⟩) zs.length cp),(1,true,.func (.func 247) #[] #[]),(5,true,.int .i64 q.1.1),(6,true,.int .i64 q.1.2)],[],[aO (.slice (some ⟨B,0,none⟩) zs.length cp) 222 2 (q.2.map bC.row)]⟩) (fun q=>zs.length-q.1.2) rfl (⟨((i,i+1),zs),l8.start ha0 hg0 hpre,rfl⟩) ?_
  rintro ⟨⟨w,r⟩,ys⟩ st ⟨hI,rfl⟩
  dsimp only at hI ⊢
  have hln:=hI.ln
  have hwr:=hI.wr
  have hrl:=hI.rl
  refine ah (aSR (aM rfl (aM rfl (aU rfl (aZ Tryz.underlying32 rfl) (aU rfl (bu rfl rfl) (aNn ?_))))))
  refine ao _ rfl (fun h2 => ?_) (fun h2 => ?_)
  ·skip
   have hr':r<zs.length:=by simpa using h2
   obtain ⟨a,ha⟩:∃ a,zs[r]? = some a:=⟨_,List.getElem?_eq_getElem hr'⟩
   have hya:ys[r]? = some a:=(hI.get hr').trans ha
   obtain ⟨yw,hyw⟩:∃ yw,ys[w]? = some yw:=⟨_,List.getElem?_eq_getElem (by omega)⟩
   refine ar (aj (ah (aq (aSR (aM rfl (aM rfl ?_))))))
   refine aU rfl (cr 0 r el32 rfl rfl rfl rfl (by rw [List.length_map];omega)) ?_
   refine aU rfl (bN (u:=a.val) 0 r 0 tk222 rfl rfl (aK hya) rfl rfl) (LT rfl (bk (zs:=[.int .i64 0,.int .i64 0]) (by kernel_rfl) rfl (fun b7_4=>(aHN ?_))))
   refine aD rfl (aF 1 tk222 rfl rfl rfl rfl (aHK ?_))
   refine aNn (aSR (aM rfl (UL 1 tk222 rfl rfl rfl rfl (aU rfl (jg (by kernel_rfl) rfl rfl (fun w S fp hst=>(pn a).quiet0 hst)) (aU rfl (cV rfl) (aNn ?_))))))
   refine ao _ rfl (fun h3 => ?_) (fun h3 => ?_)
   ·skip
    have hga:(!gi a)=false:=by simpa using h3
    refine aSR (aM rfl (aM rfl (UL 1 tk222 rfl rfl rfl rfl ?_)))
    refine aU rfl (cr 0 w el32 rfl rfl rfl rfl (by rw [List.length_map];omega)) ?_
    refine LF rfl (dO 0 w 0 tk222 rfl rfl rfl (aK hyw) rfl (.v rfl (.v rfl .nil)) rfl (by decide) (aHK ?_))
    refine aNn (aa (aM rfl (aU rfl (aX rfl rfl (by omega)) (aA rfl (bj (bp (aj (aa (aM rfl (aU rfl (aX rfl rfl (by omega)) (aA rfl (aNn ?_))))))))))))
    refine ⟨[0,1,5,6],[],[0],rfl,?_⟩
    refine ⟨((w+1,r+1),ys.set w a),⟨hI.keep ha hga,?_⟩,by dsimp only;omega⟩
    dsimp only
    rw [List.map_set];rfl
   ·skip
    have hga:(!gi a)=true:=by simpa using h3
    refine ar (bp (aj (aa (aM rfl (aU rfl (aX rfl rfl (by omega)) (aA rfl (aNn ?_)))))))
    refine ⟨[0,1,5,6],[],[0],rfl,?_⟩
    exact ⟨((w,r+1),ys),⟨hI.drop ha hga,rfl⟩,by dsimp only;omega⟩
  ·skip
   have hr':zs.length≤r:=by simp at h2;omega
   refine aT (aW (aW (aY (aj (aSR (aM rfl (aM rfl ?_)))))))
   refine aU rfl (nw w (zs.length-w) (w*2) el32 rfl rfl rfl (by omega) hcp rfl (by rw [Nat.zero_add])) ?_
   refine LF rfl (wV (k:=w) 0 el32 (zs:=[.int .i64 0,.int .i64 0]) (by kernel_rfl) (by decide) rfl rfl rfl rfl rfl (by rw [List.length_map];exact hln) (by omega) ?_)
   refine aHK ?_
   refine aNn (aSR (aM rfl (aM rfl (aU rfl (iH w el32 rfl rfl rfl (by omega) hcp) (aA rfl (aNn (ax (FZ1 [0] Tryz.results245 rfl ?_))))))))
   exact ⟨rfl,by rw [← hff,← hI.all hr',List.map_take];rfl⟩
end Go.Proofs.YtfkcmbonmpcbfaaGreat

