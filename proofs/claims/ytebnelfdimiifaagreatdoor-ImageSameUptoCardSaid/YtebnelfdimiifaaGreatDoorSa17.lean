/- Parts of the proof, in build order. No condition. -/
import Derived.Test.YtebnelfdimiifaaGreatDoorSa10
import Derived.Test.YtebnelfdimiifaaGreatDoorSa16
import Derived.Test.YtebnelfdimiifaaGreatDoorSa05
import Derived.Test.YtebnelfdimiifaaGreatDoorSa07
import Derived.Test.YtebnelfdimiifaaGreatDoorSa11
import Derived.Test.YtebnelfdimiifaaGreatDoorSa15
import Derived.Test.YtebnelfdimiifaaGreatDoorSa13
import Derived.Test.YtebnelfdimiifaaGreatDoorSa04
set_option linter.unusedSimpArgs false
set_option linter.unusedVariables false
set_option maxHeartbeats 1000000
set_option maxRecDepth 20000
namespace Go.Sy
open Go.RowKit Go.Lp
def fU{σ α:Type}(f:σ→Nat→α→Bool × σ):σ→Nat→List α→Bool × σ
 | s,_,[]=>(true,s)
 | s,i,a::l=>if (f s i a).1 then fU f (f s i a).2 (i+1) l else (false,(f s i a).2)
theorem pW{σ α:Type}(f:σ→Nat→α→Bool × σ){s:σ}{l:List α}{k:Nat}{a:α}(h:l[k]? = some a):fU f s k (l.drop k)=if (f s k a).1 then fU f (f s k a).2 (k+1) (l.drop (k+1)) else (false,(f s k a).2):=by
 obtain ⟨h1,h2⟩:=List.getElem?_eq_some_iff.1 h
 rw [List.drop_eq_getElem_cons h1,h2];rfl
theorem qb{σ α:Type}(f:σ→Nat→α→Bool × σ){s:σ}{l:List α}{k i:Nat}(h:l.length≤k):fU f s i (l.drop k)=(true,s):=by rw [List.drop_eq_nil_of_le h];rfl
theorem Con.addEmp{P:Program}{f:FuncId}{args:List Value}{ps:List Per}{R:Value→List Per→List Res→Prop}(h:Con P f args ps [emp] fun v ps' hp'=>hp'=[emp]∧R v ps' []):Con P f args ps [] R:=fun w S fp hst =>
 (h w S (fun _ _=>False) ⟨hst.per,fun i R hR=>(by
   cases i with
   | zero=>simp only [List.getElem?_cons_zero,Option.some.injEq] at hR;subst hR;exact fun _ h=>h
   | succ i=>simp at hR),fun _ _ _ h=>h.elim,fun _ _ _ _ _ _ h=>h.elim,hst.slt⟩).mono fun e w' ⟨v,ps',hp',S',fp',he,⟨hl,hR⟩,hst',hE,_⟩=>by
   subst hl
   exact ⟨v,ps',[],S',fp',he,hR,⟨hst'.per,fun i R hR=>by simp at hR,fun i hi=>by simp at hi,fun i j hi=>by simp at hi,hst'.slt⟩,hE.wider (fun b ⟨_,_,h⟩=>h.elim),fun b ⟨i,hi,_⟩=>by simp at hi⟩
theorem Con.ofEmp{P:Program}{f:FuncId}{args:List Value}{ps:List Per}{R:Value→List Per→List Res→Prop}(h:Con P f args ps [] fun v ps' hp'=>hp'=[]∧R v ps' [emp]):Con P f args ps [emp] R:=fun w S fp hst =>
 (h w S fp ⟨hst.per,fun i R hR=>by simp at hR,fun i hi=>by simp at hi,fun i j hi=>by simp at hi,hst.slt⟩).mono fun e w' ⟨v,ps',hp',S',fp',he,⟨hl,hR⟩,hst',hE,hg⟩=>by
   subst hl
   refine ⟨v,ps',[emp],S',(fun _ _=>False),he,hR,⟨hst'.per,fun i R hR => ?_,fun _ _ _ h=>h.elim,fun _ _ _ _ _ _ h=>h.elim,hst'.slt⟩,hE.wider (fun b ⟨i,hi,_⟩=>by simp at hi),fun b ⟨_,_,h⟩=>h.elim⟩
   cases i with
   | zero=>simp only [List.getElem?_cons_zero,Option.some.injEq] at hR;subst hR;exact fun _ h=>h
   | succ i=>simp at hR
def allI{α:Type}(f:Nat→α→Bool):Nat→List α→Bool
 | _,[]=>true
 | i,a::l=>f i a && allI f (i+1) l
theorem od{α:Type}(f:Nat→α→Bool):∀ (i:Nat) (l:List α),(fU (fun (_:Unit) i a=>(f i a,())) () i l).1=allI f i l
 | _,[]=>rfl
 | i,a::l=>by
   unfold fU allI
   cases h:f i a with
   | true=>simp only [if_true,Bool.true_and];exact od f (i+1) l
   | false=>rfl
theorem ju{α:Type}{f:Nat→α→Bool} : ∀ {i:Nat} {l:List α},allI f i l=true↔∀ k a,l[k]? = some a→f (i+k) a=true
 | _,[]=>by simp [allI]
 | i,a::l=>by
   unfold allI
   rw [Bool.and_eq_true,ju]
   constructor
   · rintro ⟨h1,h2⟩ k b hk
     cases k with
     | zero=>simp at hk;subst hk;exact h1
     | succ k=>simp at hk;have:=h2 k b hk;rwa [show i+1+k=i+(k+1) by omega] at this
   · intro h
     exact ⟨h 0 a rfl,fun k b hk=>by rw [show i+1+k=i+(k+1) by omega];exact h (k+1) b (by simpa using hk)⟩
theorem Con.allQ{P:Program}{f:FuncId}{args:List Value}{ps ps0:List Per}{v:Value}(h:Con P f args ps0 [] fun r _ _=>r=v)(hr:∀ q∈ps0,Ent ps q):Con P f args ps [emp] fun r ps' hp'=>ps'=[]∧r=v∧hp'=[emp] :=
 Con.ofEmp fun w S fp hst=>((h.pre hr) w S fp hst).mono fun e w' ⟨u,ps',hp',S',fp',he,hu,hst',hE,hg⟩ =>
   ⟨u,[],[],S',fp',he,⟨rfl,rfl,hu,rfl⟩,⟨fun p hp=>(by cases hp),fun i R hR=>by simp at hR,fun i hi=>by simp at hi,fun i j hi=>by simp at hi,hst'.slt⟩,hE,fun b ⟨i,hi,_⟩=>by simp at hi⟩
theorem Con.pre1{P:Program}{f:FuncId}{args:List Value}{ps:List Per}{p:Per}{l:List Res}{R:Value→List Per→List Res→Prop}(h:Con P f args [p] l R)(h1:Ent ps p):Con P f args ps l R:=h.pre fun x hx=>by rw [List.mem_singleton.1 hx];exact h1
theorem Con.pre2{P:Program}{f:FuncId}{args:List Value}{ps:List Per}{p q:Per}{l:List Res}{R:Value→List Per→List Res→Prop}(h:Con P f args [p,q] l R)(h1:Ent ps p)(h2:Ent ps q):Con P f args ps l R:=h.pre fun x hx=>by
 rcases List.mem_cons.1 hx with rfl | hx
 · exact h1
 · rw [List.mem_singleton.1 hx];exact h2
theorem Con.clH{P:Program}{f:FuncId}{args:List Value}{ps:List Per}{hp:List Res}{v:Value}{R:Value→List Per→List Res→Prop}(h:Con P f args ps hp R)(hv:∀ r ps' hp',R r ps' hp'→r=v):Con P f args ps hp fun r ps' hp'=>ps'=[]∧hp'=[]∧r=v:=fun w S fp hst=>(h w S fp hst).mono fun e w' ⟨u,ps',hp',S',fp',he,hu,hst',hE,hg⟩ =>
   ⟨u,[],[],S',fp',he,⟨rfl,rfl,hv _ _ _ hu⟩,⟨fun p hp=>(by cases hp),fun i R hR=>by simp at hR,fun i hi=>by simp at hi,fun i j hi=>by simp at hi,hst'.slt⟩,hE,fun b ⟨i,hi,_⟩=>by simp at hi⟩
end Go.Sy
namespace Go.Proofs.YtebnelfdimiifaaGreatDoor
open Go.RowKit Go.Lp Go.Sy Go.Lv
open Go.Proofs.Tryz
attribute [local irreducible] aL aB awp aC fwp Quiet
theorem vK{σ:Type}(l:Sl Int)(F:FuncId)(caps:List Value)(p:Per)(R:σ→Res)(f:σ→Nat→Int→Bool × σ)(s0:σ)(hF:dP Tryz.prog F=true)(h:∀ (s:σ) (i:Nat) (a:Int),l.l[i]? = some a→Con Tryz.prog F (.int .i64 i::(.int .i64 a)::caps) [p] [R s] fun r ps hp=>ps=[]∧r=.bool (f s i a).1∧hp=[R (f s i a).2]) :
   Con Tryz.prog 72 [l.val,.func (.func F) #[] caps.toArray] [ShF (fun z=>[.v (.int .i64 z)]) l,p] [R s0] fun r ps hp=>ps=[]∧r=.bool (fU f s0 0 l.l).1∧hp=[R (fU f s0 0 l.l).2]:=by
 obtain ⟨w0,hw0⟩:∃ w0,fU f s0 0 l.l=w0:=⟨_,rfl⟩
 rw [hw0]
 refine EN2 Tryz.func72 rfl (bS (.of (aH 0 rfl)) (fun hlen=>(aSR (aA rfl (aNs (aSR (aM rfl (aU rfl (aX Tryz.underlying25 rfl) (aM rfl (aNn (aq (aP [0,1,7,8,9] [1,0] [0] (fun (q:Nat × σ) st=>(q.1≤l.l.length∧fU f q.2 q.1 (l.l.drop q.1)=w0)∧st=⟨[(0,true,l.val),(1,true,.func (.func F) #[] caps.toArray),(7,true,l.val),(8,true,.int .i64 l.l.length),(9,true,.int .i64 q.1)],[ShF (fun z=>[.v (.int .i64 z)]) l,p],[R q.2]⟩) (fun q=>l.l.length-q.1) rfl (⟨(0,s0),⟨Nat.zero_le _,hw0⟩,rfl⟩) ?_))))))))))))
 rintro ⟨k,s⟩ st ⟨⟨hk,hw⟩,rfl⟩
 dsimp only at hk hw ⊢
 refine aSR (aU rfl (bC rfl rfl) (aNs ?_))
 refine ao _ rfl (fun h1 => ?_) (fun h1 => ?_)
 ·skip
  have hk':k<l.l.length:=by simpa using h1
  obtain ⟨a,ha⟩:∃ a,l.l[k]? = some a:=⟨_,List.getElem?_eq_getElem hk'⟩
  rw [pW f ha] at hw
  refine ax (an (ai (aq (aSR (aM rfl (UI Tryz.underlying25 tk3 0 rfl rfl rfl rfl rfl (aI ha) rfl rfl (fun ⟨b3_1,o3_1⟩=>(US 0 tk3 0 rfl rfl rfl rfl rfl (aA rfl (aA rfl (aNn (aSR (aM rfl (aM rfl (aM rfl ?_)))))))))))))))
  refine LF rfl (fN [0] [0] hF rfl rfl rfl rfl rfl (h s k a ha) ?_)
  rintro _ _ _ ⟨rfl,rfl,rfl⟩
  refine aST ?_
  refine aU rfl (dO rfl) (aNn ?_)
  refine ao _ rfl (fun h2 => ?_) (fun h2 => ?_)
  ·skip
   have hb:(f s k a).1=false:=by simpa using h2
   rw [hb] at hw
   refine aSR (aA rfl (aNn (az (cH (bw (bw (cH (bw (FZ1 [0] Tryz.results72 rfl ?_)))))))))
   exact ⟨rfl,by rw [← hw];rfl,by rw [← hw];rfl⟩
  ·skip
   have hb:(f s k a).1=true:=by simpa using h2
   rw [hb] at hw
   refine ax (bu (an (aa (aU rfl (aV rfl rfl (by omega)) (aM rfl (aNn ?_))))))
   refine ⟨[0,1,7,8,9],[1,0],[0],rfl,?_⟩
   exact ⟨(k+1,(f s k a).2),⟨⟨hk',hw⟩,rfl⟩,by dsimp only;omega⟩
 ·skip
  rw [qb f (by simp at h1;omega)] at hw
  refine aR (aS (aS (aY (an (aSR (aA rfl (aNn (az (FZ1 [0] Tryz.results72 rfl ?_)))))))))
  exact ⟨rfl,by rw [← hw],by rw [← hw];rfl⟩
theorem j4(l:Sl Int)(F:FuncId)(caps:List Value)(p:Per)(f:Nat→Int→Bool)(hF:dP Tryz.prog F=true)(h:∀ (i:Nat) (a:Int),l.l[i]? = some a→Con Tryz.prog F (.int .i64 i::(.int .i64 a)::caps) [p] [] fun r _ _=>r=.bool (f i a)) :
   Con Tryz.prog 72 [l.val,.func (.func F) #[] caps.toArray] [ShF (fun z=>[.v (.int .i64 z)]) l,p] [] fun r ps hp=>ps=[]∧hp=[]∧r=.bool (allI f 0 l.l):=by
 have:=vK l F caps p (fun _:Unit=>emp) (fun _ i a=>(f i a,())) () hF fun _ i a ha=>(h i a ha).allQ fun q hq=>by rw [List.mem_singleton.1 hq];exact .of (aH 0 rfl)
 rw [od] at this
 exact Con.addEmp (this.post fun v ps' hp' ⟨h1,h2,h3⟩=>⟨h3,h1,rfl,h2⟩)
theorem qq{σ:Type}(l:Sl ByteArray)(F:FuncId)(caps:List Value)(p:Per)(R:σ→Res)(f:σ→Nat→ByteArray→Bool × σ)(s0:σ)(hF:dP Tryz.prog F=true)(h:∀ (s:σ) (i:Nat) (a:ByteArray),l.l[i]? = some a→Con Tryz.prog F (.int .i64 i::(.string a)::caps) [p] [R s] fun r ps hp=>ps=[]∧r=.bool (f s i a).1∧hp=[R (f s i a).2]) :
   Con Tryz.prog 92 [l.val,.func (.func F) #[] caps.toArray] [ShF (fun s=>[.v (.string s)]) l,p] [R s0] fun r ps hp=>ps=[]∧r=.bool (fU f s0 0 l.l).1∧hp=[R (fU f s0 0 l.l).2]:=by
 obtain ⟨w0,hw0⟩:∃ w0,fU f s0 0 l.l=w0:=⟨_,rfl⟩
 rw [hw0]
 refine EN2 Tryz.func92 rfl (bS (.of (aH 0 rfl)) (fun hlen=>(aSR (aA rfl (aNs (aSR (aM rfl (aU rfl (aX Tryz.underlying27 rfl) (aM rfl (aNn (aq (aP [0,1,7,8,9] [1,0] [0] (fun (q:Nat × σ) st=>(q.1≤l.l.length∧fU f q.2 q.1 (l.l.drop q.1)=w0)∧st=⟨[(0,true,l.val),(1,true,.func (.func F) #[] caps.toArray),(7,true,l.val),(8,true,.int .i64 l.l.length),(9,true,.int .i64 q.1)],[ShF (fun s=>[.v (.string s)]) l,p],[R q.2]⟩) (fun q=>l.l.length-q.1) rfl (⟨(0,s0),⟨Nat.zero_le _,hw0⟩,rfl⟩) ?_))))))))))))
 rintro ⟨k,s⟩ st ⟨⟨hk,hw⟩,rfl⟩
 dsimp only at hk hw ⊢
 refine aSR (aU rfl (bC rfl rfl) (aNs ?_))
 refine ao _ rfl (fun h1 => ?_) (fun h1 => ?_)
 ·skip
  have hk':k<l.l.length:=by simpa using h1
  obtain ⟨a,ha⟩:∃ a,l.l[k]? = some a:=⟨_,List.getElem?_eq_getElem hk'⟩
  rw [pW f ha] at hw
  refine ax (an (ai (aq (aSR (aM rfl (UI Tryz.underlying27 tk9 0 rfl rfl rfl rfl rfl (aI ha) rfl rfl (fun ⟨b3_1,o3_1⟩=>(US 0 tk9 0 rfl rfl rfl rfl rfl (aA rfl (aA rfl (aNn (aSR (aM rfl (aM rfl (aM rfl ?_)))))))))))))))
  refine LF rfl (fN [0] [0] hF rfl rfl rfl rfl rfl (h s k a ha) ?_)
  rintro _ _ _ ⟨rfl,rfl,rfl⟩
  refine aST ?_
  refine aU rfl (dO rfl) (aNn ?_)
  refine ao _ rfl (fun h2 => ?_) (fun h2 => ?_)
  ·skip
   have hb:(f s k a).1=false:=by simpa using h2
   rw [hb] at hw
   refine aSR (aA rfl (aNn (az (cH (bw (bw (cH (bw (FZ1 [0] Tryz.results92 rfl ?_)))))))))
   exact ⟨rfl,by rw [← hw];rfl,by rw [← hw];rfl⟩
  ·skip
   have hb:(f s k a).1=true:=by simpa using h2
   rw [hb] at hw
   refine ax (bu (an (aa (aU rfl (aV rfl rfl (by omega)) (aM rfl (aNn ?_))))))
   refine ⟨[0,1,7,8,9],[1,0],[0],rfl,?_⟩
   exact ⟨(k+1,(f s k a).2),⟨⟨hk',hw⟩,rfl⟩,by dsimp only;omega⟩
 ·skip
  rw [qb f (by simp at h1;omega)] at hw
  refine aR (aS (aS (aY (an (aSR (aA rfl (aNn (az (FZ1 [0] Tryz.results92 rfl ?_)))))))))
  exact ⟨rfl,by rw [← hw],by rw [← hw];rfl⟩
abbrev iJ:ElT Tryz.prog 71 22 bp:=⟨true,7,[.string .empty,.string .empty,.int .i64 0,.int .i64 0,.int .i64 0,.string .empty,.string .empty],bp.vs,bp.row,bp.val,tk71,tk22,Tryz.underlying22,el22,by kernel_rfl,by decide,by decide,rfl,fun _=>rfl,fun _=>rfl,fun _=>rfl,fun _=>rfl,fun _=>rfl,fun _=>rfl⟩
abbrev je:ElT Tryz.prog 159 31 bK:=⟨true,2,[.int .i64 0,.int .i64 0],bK.vs,bK.row,bK.val,tk159,tk31,Tryz.underlying31,el31,by kernel_rfl,by decide,by decide,rfl,fun _=>rfl,fun _=>rfl,fun _=>rfl,fun _=>rfl,fun _=>rfl,fun _=>rfl⟩
abbrev iH:ElT Tryz.prog 77 23 bQ:=⟨true,6,[.string .empty,.string .empty,.bool false,.int .i64 0,.int .i64 0,.int .i64 0],bQ.vs,bQ.row,bQ.val,tk77,tk23,Tryz.underlying23,el23,by kernel_rfl,by decide,by decide,rfl,fun _=>rfl,fun _=>rfl,fun _=>rfl,fun _=>rfl,fun _=>rfl,fun _=>rfl⟩
abbrev iI:ElT Tryz.prog 73 24 b7:=⟨true,5,[.string .empty,.string .empty,.int .i64 0,.bool false,.bool false],b7.vs,b7.row,b7.val,tk73,tk24,Tryz.underlying24,el24,by kernel_rfl,by decide,by decide,rfl,fun _=>rfl,fun _=>rfl,fun _=>rfl,fun _=>rfl,fun _=>rfl,fun _=>rfl⟩
abbrev lH:ElT Tryz.prog 176 29 dI:=⟨true,4,[.string .empty,.int .i64 0,.int .i64 0,.int .i64 0],dI.vs,dI.row,dI.val,tk176,tk29,Tryz.underlying29,el29,by kernel_rfl,by decide,by decide,rfl,fun _=>rfl,fun _=>rfl,fun _=>rfl,fun _=>rfl,fun _=>rfl,fun _=>rfl⟩
abbrev lG:ElT Tryz.prog 180 30 dH:=⟨true,4,[.int .i64 0,.int .i64 0,.string .empty,.int .i64 0],dH.vs,dH.row,dH.val,tk180,tk30,Tryz.underlying30,el30,by kernel_rfl,by decide,by decide,rfl,fun _=>rfl,fun _=>rfl,fun _=>rfl,fun _=>rfl,fun _=>rfl,fun _=>rfl⟩
abbrev gh:ElT Tryz.prog 186 32 ca:=⟨true,6,[.int .i64 0,.int .i64 0,.int .i64 0,.string .empty,.string .empty,.int .i64 0],ca.vs,ca.row,ca.val,tk186,tk32,Tryz.underlying32,el32,by kernel_rfl,by decide,by decide,rfl,fun _=>rfl,fun _=>rfl,fun _=>rfl,fun _=>rfl,fun _=>rfl,fun _=>rfl⟩
abbrev kM:ElT Tryz.prog 192 33 eE:=⟨true,6,[.int .i64 0,.int .i64 0,.int .i64 0,.string .empty,.int .i64 0,.int .i64 0],eE.vs,eE.row,eE.val,tk192,tk33,Tryz.underlying33,el33,by kernel_rfl,by decide,by decide,rfl,fun _=>rfl,fun _=>rfl,fun _=>rfl,fun _=>rfl,fun _=>rfl,fun _=>rfl⟩
abbrev gZ:ElT Tryz.prog 198 34 cG:=⟨true,4,[.int .i64 0,.int .i64 0,.int .i64 0,.int .i64 0],cG.vs,cG.row,cG.val,tk198,tk34,Tryz.underlying34,el34,by kernel_rfl,by decide,by decide,rfl,fun _=>rfl,fun _=>rfl,fun _=>rfl,fun _=>rfl,fun _=>rfl,fun _=>rfl⟩
abbrev lF:ElT Tryz.prog 58 37 cr:=⟨true,5,[.string .empty,.string .empty,.string .empty,.slice none 0 0,.int .i64 0],cr.vs,cr.row,cr.val,tk58,tk37,Tryz.underlying37,el37,by kernel_rfl,by decide,by decide,rfl,fun _=>rfl,fun _=>rfl,fun _=>rfl,fun _=>rfl,fun _=>rfl,fun _=>rfl⟩
abbrev jF:ElT Tryz.prog 129 56 dJ:=⟨true,3,[.int .i64 0,.int .i64 0,.int .i64 0],dJ.vs,dJ.row,dJ.val,tk129,tk56,Tryz.underlying56,el56,by kernel_rfl,by decide,by decide,rfl,fun _=>rfl,fun _=>rfl,fun _=>rfl,fun _=>rfl,fun _=>rfl,fun _=>rfl⟩
abbrev gU:ElT Tryz.prog 55 28 aF:=⟨true,2,[.string .empty,.slice none 0 0],aF.vs,aF.row,aF.val,tk55,tk28,Tryz.underlying28,el28,by kernel_rfl,by decide,by decide,rfl,fun _=>rfl,fun _=>rfl,fun _=>rfl,fun _=>rfl,fun _=>rfl,fun _=>rfl⟩
abbrev uG:ElT Tryz.prog 75 26 fx:=⟨true,4,[.int .i64 0,.int .i64 0,.int .i64 0,.int .i64 0],fx.vs,fx.row,fx.val,tk75,tk26,Tryz.underlying26,el26,by kernel_rfl,by decide,by decide,rfl,fun _=>rfl,fun _=>rfl,fun _=>rfl,fun _=>rfl,fun _=>rfl,fun _=>rfl⟩
def mM (v0 v1 v2:Nat):Code:=(.seq (.region 0 #[⟨(.some 4),(.assign (.const (Go.Value.bool false))),4, "right.go:35", #[],none⟩] false) (.seq (.seq (.region 1 #[⟨(.some 7),(.move (.tmp 0)),v0, "right.go:36", #[],none⟩,⟨(.some 8),(.call ⟨(Go.Callee.builtin Go.Builtin.len),#[(.tmp 7)],#[v0]⟩),3, "right.go:36", #[⟨0,Go.Ground.data⟩],none⟩,⟨(.some 9),(.move (.const (Go.Value.int Go.IntKind.i64 0))),3, "right.go:36", #[],none⟩] false) (.block 0 (.loop (.seq (.region 2 #[⟨(.some 10),(.binOp Go.BinOp.lss 3 (.tmp 9) (.tmp 8) 3),0, "right.go:36", #[],none⟩] false) (.seq (.cond (.tmp 10) Go.Code.skip (.exit 0)) (.seq (.block 1 (.seq (.region 3 #[⟨(.some 11),(.move (.tmp 9)),3, "right.go:36", #[],none⟩,⟨(.some 12),(.indexAddr v0 (.tmp 7) (.tmp 9)),0, "right.go:36", #[],none⟩,⟨(.some 13),(.load v1 (.tmp 12)),v1, "right.go:36", #[⟨1,Go.Ground.data⟩],none⟩,⟨(.some 6),(.alloc v1),0, "right.go:36", #[],none⟩,⟨(.some 5),(.assign (.tmp 11)),3, "right.go:36", #[⟨0,Go.Ground.data⟩,⟨0,Go.Ground.phase⟩,⟨1,Go.Ground.phase⟩,⟨2,Go.Ground.phase⟩,⟨3,Go.Ground.phase⟩],none⟩,⟨none,(.store v1 (.tmp 6) (.tmp 13)),0, "right.go:36", #[⟨3,Go.Ground.data⟩,⟨2,Go.Ground.data⟩,⟨4,Go.Ground.chain⟩,⟨0,Go.Ground.phase⟩,⟨1,Go.Ground.phase⟩,⟨2,Go.Ground.phase⟩,⟨3,Go.Ground.phase⟩,⟨4,Go.Ground.phase⟩],none⟩] false) (.seq (.region 4 #[⟨(.some 14),(.move (.tmp 1)),v2, "right.go:37", #[],none⟩,⟨(.some 15),(.move (.tmp 5)),3, "right.go:37", #[],none⟩,⟨(.some 16),(.load v1 (.tmp 6)),v1, "right.go:37", #[],none⟩,⟨(.some 17),(.call ⟨(Go.Callee.value (.tmp 14)),#[(.tmp 15),(.tmp 16)],#[3,v1]⟩),4, "right.go:37", #[⟨0,Go.Ground.data⟩,⟨1,Go.Ground.data⟩,⟨2,Go.Ground.data⟩],none⟩,⟨(.some 18),(.unOp Go.UnOp.not 4 (.tmp 17)),4, "right.go:37", #[⟨3,Go.Ground.data⟩],none⟩] false) (.cond (.tmp 18) (.seq (.region 5 #[⟨(.some 4),(.assign (.const (Go.Value.bool false))),4, "right.go:38", #[],none⟩] false) Go.Code.ret) Go.Code.skip)))) (.region 6 #[⟨(.some 19),(.binOp Go.BinOp.add 3 (.tmp 9) (.const (Go.Value.int Go.IntKind.i64 1)) 3),3, "right.go:36", #[],none⟩,⟨(.some 9),(.move (.tmp 19)),3, "right.go:36", #[⟨0,Go.Ground.data⟩],none⟩] false))))))) (.seq (.region 7 #[⟨(.some 4),(.assign (.const (Go.Value.bool true))),4, "right.go:41", #[],none⟩] false) Go.Code.ret)))
theorem fa{F0 v0 v1 v2:Nat}{σ α:Type}(X:ElT Tryz.prog v1 v0 α)(hF:isF Tryz.prog F0 (mM v0 v1 v2) 20 #[.tmp 4])(l:Sl α)(F:FuncId)(caps:List Value)(p:Per)(R:σ→Res)(f:σ→Nat→α→Bool × σ)(s0:σ)(hFc:dP Tryz.prog F=true)(h:∀ (s:σ) (i:Nat) (a:α),l.l[i]? = some a→Con Tryz.prog F (.int .i64 i::X.vl a::caps) [p] [R s] fun r ps hp=>ps=[]∧r=.bool (f s i a).1∧hp=[R (f s i a).2]) :
   Con Tryz.prog F0 [l.val,.func (.func F) #[] caps.toArray] [ShF X.row l,p] [R s0] fun r ps hp=>ps=[]∧r=.bool (fU f s0 0 l.l).1∧hp=[R (fU f s0 0 l.l).2]:=by
 obtain ⟨w0,hw0⟩:∃ w0,fU f s0 0 l.l=w0:=⟨_,rfl⟩
 rw [hw0]
 have tk_v1:=X.tE
 have un_v0:=X.uA
 obtain ⟨fn,hf,hb,hn,hr⟩:=hF
 refine Con.enterG hf hb hn (by simp) ?_
 unfold mM
 show awp _ _ _ _ ⟨[(0,true,_),(1,true,_)],_,_⟩
 refine bS (.of (aH 0 rfl)) (fun hlen=>(aSR (aA rfl (aNs (aSR (aM rfl (aU rfl (aX un_v0 rfl) (aM rfl (aNn (aq (aP [0,1,7,8,9] [1,0] [0] (fun (q:Nat × σ) st=>(q.1≤l.l.length∧fU f q.2 q.1 (l.l.drop q.1)=w0)∧st=⟨[(0,true,l.val),(1,true,.func (.func F) #[] caps.toArray),(7,true,l.val),(8,true,.int .i64 l.l.length),(9,true,.int .i64 q.1)],[ShF X.row l,p],[R q.2]⟩) (fun q=>l.l.length-q.1) rfl (⟨(0,s0),⟨Nat.zero_le _,hw0⟩,rfl⟩) ?_)))))))))))
 rintro ⟨k,s⟩ st ⟨⟨hk,hw⟩,rfl⟩
 dsimp only at hk hw ⊢
 refine aSR (aU rfl (bC rfl rfl) (aNs ?_))
 refine ao _ rfl (fun h1 => ?_) (fun h1 => ?_)
 ·skip
  have hk':k<l.l.length:=by simpa using h1
  obtain ⟨a,ha⟩:∃ a,l.l[k]? = some a:=⟨_,List.getElem?_eq_getElem hk'⟩
  rw [pW f ha] at hw
  refine ax (an (ai (aq (aSR (aM rfl (jo true rfl rfl (fun _=>bI un_v0 tk_v1 rfl ((.of (aH 0 rfl))) rfl (aI ha) rfl ((X.rl a))) (fun h=>absurd h (by decide)) (fun ⟨b3_1,o3_1⟩=>(aU rfl (gz (o:=0) tk_v1 rfl (aH 0 rfl) rfl (X.ldD a)) (LT rfl (bJ (zs:=X.zs) X.hz rfl (fun b3_3=>(aHN ?_))))))))))))
  refine aA rfl (aW rfl (ba 1 tk_v1 rfl rfl rfl (X.put a) (aHK ?_)))
  refine aNn (aSR (aM rfl (aM rfl (aU rfl (bj 1 tk_v1 rfl rfl (X.ld a)) (LF rfl (fN [0] [0] hFc rfl rfl rfl rfl rfl (h s k a ha) ?_))))))
  rintro _ _ _ ⟨rfl,rfl,rfl⟩
  refine aST ?_
  refine aU rfl (dO rfl) (aNn ?_)
  refine ao _ rfl (fun h2 => ?_) (fun h2 => ?_)
  ·skip
   have hb:(f s k a).1=false:=by simpa using h2
   rw [hb] at hw
   refine aSR (aA rfl (aNn (az (cH (bw (bw (cH (bw ?_))))))))
   refine nf [] [0] rfl hr rfl ?_ (.inr rfl)
   exact ⟨rfl,by rw [← hw];rfl,by rw [← hw];rfl⟩
  ·skip
   have hb:(f s k a).1=true:=by simpa using h2
   rw [hb] at hw
   refine ax (bu (an (aa (aU rfl (aV rfl rfl (by omega)) (aM rfl (aNn ?_))))))
   refine ⟨[0,1,7,8,9],[1,0],[0],rfl,?_⟩
   exact ⟨(k+1,(f s k a).2),⟨⟨hk',hw⟩,rfl⟩,by dsimp only;omega⟩
 ·skip
  rw [qb f (by simp at h1;omega)] at hw
  refine aR (aS (aS (aY (an (aSR (aA rfl (aNn (az ?_))))))))
  refine nf [] [0] rfl hr rfl ?_ (.inr rfl)
  exact ⟨rfl,by rw [← hw],by rw [← hw];rfl⟩
theorem dq{F0 v0 v1 v2:Nat}{α:Type}(X:ElT Tryz.prog v1 v0 α)(hF:isF Tryz.prog F0 (mM v0 v1 v2) 20 #[.tmp 4])(l:Sl α)(F:FuncId)(caps:List Value)(p:Per)(f:Nat→α→Bool)(hFc:dP Tryz.prog F=true)(h:∀ (i:Nat) (a:α),l.l[i]? = some a→Con Tryz.prog F (.int .i64 i::X.vl a::caps) [p] [] fun r _ _=>r=.bool (f i a)) :
   Con Tryz.prog F0 [l.val,.func (.func F) #[] caps.toArray] [ShF X.row l,p] [] fun r ps hp=>ps=[]∧hp=[]∧r=.bool (allI f 0 l.l):=by
 have:=fa X hF l F caps p (fun _:Unit=>emp) (fun _ i a=>(f i a,())) () hFc fun _ i a ha=>(h i a ha).allQ fun q hq=>by rw [List.mem_singleton.1 hq];exact .of (aH 0 rfl)
 rw [od] at this
 exact Con.addEmp (this.post fun v ps' hp' ⟨h1,h2,h3⟩=>⟨h3,h1,rfl,h2⟩)
theorem oX:isF Tryz.prog 77 (mM 22 71 155) 20 #[.tmp 4]:=⟨_,Tryz.func77,rfl,Tryz.ntmps77,Tryz.results77⟩
theorem pE:type_of% (dq iJ oX):=dq iJ oX
theorem lk:isF Tryz.prog 99 (mM 31 159 183) 20 #[.tmp 4]:=⟨_,Tryz.func99,rfl,Tryz.ntmps99,Tryz.results99⟩
theorem ud{σ:Type} : type_of% (@fa _ _ _ _ σ _ je lk):=fa je lk
theorem sn:type_of% (dq je lk):=dq je lk
theorem oU:isF Tryz.prog 82 (mM 23 77 166) 20 #[.tmp 4]:=⟨_,Tryz.func82,rfl,Tryz.ntmps82,Tryz.results82⟩
theorem ql{σ:Type} : type_of% (@fa _ _ _ _ σ _ iH oU):=fa iH oU
theorem oW:isF Tryz.prog 87 (mM 24 73 169) 20 #[.tmp 4]:=⟨_,Tryz.func87,rfl,Tryz.ntmps87,Tryz.results87⟩
theorem qo{σ:Type} : type_of% (@fa _ _ _ _ σ _ iI oW):=fa iI oW
theorem sT:isF Tryz.prog 94 (mM 29 176 177) 20 #[.tmp 4]:=⟨_,Tryz.func94,rfl,Tryz.ntmps94,Tryz.results94⟩
theorem sm:type_of% (dq lH sT):=dq lH sT
theorem sS:isF Tryz.prog 97 (mM 30 180 181) 20 #[.tmp 4]:=⟨_,Tryz.func97,rfl,Tryz.ntmps97,Tryz.results97⟩
theorem si:type_of% (dq lG sS):=dq lG sS
theorem i7:isF Tryz.prog 103 (mM 32 186 189) 20 #[.tmp 4]:=⟨_,Tryz.func103,rfl,Tryz.ntmps103,Tryz.results103⟩
theorem qp{σ:Type} : type_of% (@fa _ _ _ _ σ _ gh i7):=fa gh i7
theorem pD:type_of% (dq gh i7):=dq gh i7
theorem mN:isF Tryz.prog 107 (mM 33 192 195) 20 #[.tmp 4]:=⟨_,Tryz.func107,rfl,Tryz.ntmps107,Tryz.results107⟩
theorem vM{σ:Type} : type_of% (@fa _ _ _ _ σ _ kM mN):=fa kM mN
theorem uc:type_of% (dq kM mN):=dq kM mN
theorem jU:isF Tryz.prog 111 (mM 34 198 201) 20 #[.tmp 4]:=⟨_,Tryz.func111,rfl,Tryz.ntmps111,Tryz.results111⟩
theorem sq{σ:Type} : type_of% (@fa _ _ _ _ σ _ gZ jU):=fa gZ jU
theorem qj:type_of% (dq gZ jU):=dq gZ jU
theorem sR:isF Tryz.prog 113 (mM 37 58 205) 20 #[.tmp 4]:=⟨_,Tryz.func113,rfl,Tryz.ntmps113,Tryz.results113⟩
theorem sg:type_of% (dq lF sR):=dq lF sR
theorem qa:isF Tryz.prog 115 (mM 56 129 204) 20 #[.tmp 4]:=⟨_,Tryz.func115,rfl,Tryz.ntmps115,Tryz.results115⟩
theorem qk:type_of% (dq jF qa):=dq jF qa
end Go.Proofs.YtebnelfdimiifaaGreatDoor

namespace Go.Proofs.YtebnelfdimiifaaGreatDoor
open Go.RowKit Go.Lp Go.Sy Go.Lv
def jd(n:Int):Int:=if n < -1152921504606846976∨1152921504606846976<n then n else n-n % 256
def upF(n:Int):Int:=if jd n≠n then jd n+256 else n
def upB(n:Int):Bool:=decide (upF n=n)
def iy(n lo hi:Int):Bool:=decide (lo≤n) && decide (n≤hi)
theorem mP{n lo hi:Int} : iy n lo hi=true↔lo≤n∧n≤hi:=by unfold iy;simp
def ik(k:Int):Bool:=(decide (k=0) || decide (k=1)) || decide (k=2)
def dX(k:Int):Int:=if (decide (k=1) || decide (k=2))=true then 4 else 8
def instrB(c n:Int):Bool:=iy n 0 (c-8) && decide (n.tmod 8=0)
def oP(s:ByteArray):Bool:=decide ((s.size:Int)≤64)
def ni(s:ByteArray):Bool:=decide (s=⟨#[]⟩) || fg s
def mF(im:aD):Bool:=((((((((upB im.code && (upB im.data && upB im.zero)) && decide (0≤im.code)) && decide (im.code≤im.data)) && decide (im.data≤im.zero)) && decide (im.zero≤1048576)) && decide ((im.bytes.size:Int)=im.data)) && iy im.block im.tls.size 1048576) && fg im.name)
structure fZ (im:aD):Prop where
 up:upB im.code=true∧upB im.data=true∧upB im.zero=true
 c0:0≤im.code
 cd:im.code≤im.data
 dz:im.data≤im.zero
 zm:im.zero≤1048576
 by_:(im.bytes.size:Int)=im.data
 bl:(im.tls.size:Int)≤im.block∧im.block≤1048576
 nm:fg im.name=true
theorem gL{im:aD} : mF im=true↔fZ im:=by
 unfold mF
 simp only [Bool.and_eq_true,decide_eq_true_eq,mP]
 constructor
 · rintro ⟨⟨⟨⟨⟨⟨⟨⟨h1,h2,h3⟩,h4⟩,h5⟩,h6⟩,h7⟩,h8⟩,h9⟩,h10⟩
   exact ⟨⟨h1,h2,h3⟩,h4,h5,h6,h7,h8,h9,h10⟩
 · rintro ⟨⟨h1,h2,h3⟩,h4,h5,h6,h7,h8,h9,h10⟩
   exact ⟨⟨⟨⟨⟨⟨⟨⟨h1,h2,h3⟩,h4⟩,h5⟩,h6⟩,h7⟩,h8⟩,h9⟩,h10⟩
open Go.Proofs.Tryz
attribute [local irreducible] aL aB awp aC fwp Quiet
theorem abl(n:Int)(hn:I64 n):Con Tryz.prog 148 [.int .i64 n,.int .i64 256] [] [] fun r _ _=>r=.int .i64 (jd n):=by
 refine EN2 Tryz.func148 rfl (aSR (aA rfl (aNs (aSR (aM rfl (aU rfl (bC rfl rfl) (aM rfl (aG rfl rfl (fun hc=>aT rfl) (aG rfl rfl (fun hc=>cN (ae rfl hc) rfl) (aU rfl (dp rfl rfl (fun h=>gf rfl h)) (aM rfl (aG rfl rfl (fun hc=>aT rfl) ?_))))))))))))
 refine aG rfl rfl (fun hc=>bC (ae rfl hc) rfl) (aU rfl (dp rfl rfl (fun h=>gf rfl h)) (aM rfl (aG rfl rfl (fun hc=>aT rfl) (aG rfl rfl (fun hc=>cN (ae rfl hc) rfl) (aU rfl (dp rfl rfl (fun h=>gf rfl h)) (aNn ?_))))))
 refine ao _ rfl (fun h1 => ?_) (fun h1 => ?_)
 ·skip
  have hb:n < -1152921504606846976∨1152921504606846976<n:=by simp at h1;omega
  refine aSR (aM rfl (aA rfl (aNn (az (bw (FZ1 [] Tryz.results148 rfl ?_))))))
  unfold jd;rw [if_pos hb]
 ·skip
  have hb:¬ (n < -1152921504606846976∨1152921504606846976<n):=by simp at h1;omega
  have ht:n.tmod 256=if n % 256=0∨0≤n then n % 256 else n % 256-256:=by
    have e:(256:Int).natAbs=256:=rfl
    rw [Int.tmod_eq_emod,e];split<;>split<;>omega
  refine ax (an (aSR (aM rfl (aM rfl (aU rfl (fl rfl rfl (by decide)) (aA rfl (aNs (aSR (aM rfl (aU rfl (bC rfl rfl) (aNn ?_)))))))))))
  refine ao _ rfl (fun h2 => ?_) (fun h2 => ?_)
  ·skip
   have hneg:n.tmod 256<0:=by simpa using h2
   have ht2:n.tmod 256+256=n % 256:=by rw [ht] at hneg ⊢;split at hneg<;>omega
   refine aa (aM rfl (aM rfl (aU rfl (aV rfl rfl (by omega)) (aA rfl (aNn (aSR (aM rfl (aM rfl (aU rfl (cZ rfl rfl (by omega)) (aA rfl (aNn (az (FZ1 [] Tryz.results148 rfl ?_)))))))))))))
   unfold jd;rw [if_neg hb,← ht2]
  ·skip
   have hneg:¬ n.tmod 256<0:=by simpa using h2
   have ht2:n.tmod 256=n % 256:=by rw [ht] at hneg ⊢;split at hneg<;>omega
   refine ax (an (aSR (aM rfl (aM rfl (aU rfl (cZ rfl rfl (by omega)) (aA rfl (aNn (az (FZ1 [] Tryz.results148 rfl ?_)))))))))
   unfold jd;rw [if_neg hb,← ht2]
theorem aeE(n:Int)(hn:I64 n):Con Tryz.prog 74 [.int .i64 n,.int .i64 256] [] [] fun r _ _=>r=.int .i64 (upF n):=by
 have hd:jd n=n∨jd n≤1152921504606846976:=by unfold jd;split<;>omega
 have hd2:jd n≠n → -1152921504606846976-256≤jd n:=by unfold jd;split<;>omega
 refine EN2 Tryz.func74 rfl (aSR (aA rfl (aNs (aSR (aM rfl (aM rfl (aU rfl (Q0 rfl (abl n hn)) (aA rfl (aNn (aSR (aM rfl (aM rfl (aU rfl (fI rfl rfl) (aNn ?_))))))))))))))
 refine ao _ rfl (fun h1 => ?_) (fun h1 => ?_)
 ·skip
  have hb:jd n≠n:=by simpa using h1
  have hd3:=hd2 hb
  refine aSR (aM rfl (aM rfl (aU rfl (aV rfl rfl (by omega)) (aA rfl (aNn (az (bw (FZ1 [] Tryz.results74 rfl ?_))))))))
  unfold upF;rw [if_pos hb]
 ·skip
  have hb:¬ jd n≠n:=by simpa using h1
  refine ax (an (aSR (aM rfl (aA rfl (aNn (az (FZ1 [] Tryz.results74 rfl ?_)))))))
  unfold upF;rw [if_neg hb]
theorem yu(i n:Int)(hn:I64 n):Con Tryz.prog 73 [.int .i64 i,.int .i64 n] [] [] fun r _ _=>r=.bool (upB n):=by
 refine EN2 Tryz.func73 rfl (aSR (aA rfl (aNn (aSR (aM rfl (aU rfl (Q0 rfl (aeE n hn)) (aM rfl (aU rfl (cA rfl rfl) (aA rfl (aNn (az (FZ1 [] Tryz.results73 rfl ?_))))))))))))
 rfl
theorem gF(s:ByteArray)(hs:s.size≤maxLen):Con Tryz.prog 76 [.string s] [] [] fun r _ _=>r=.bool (fg s):=by
 have hok:∀ ps:List Per,Ent ps (aF.ok ⟨s,⟨none,0,[]⟩⟩):=fun ps w S hp=>⟨hs,fv.e none 0 (Nat.zero_le _),fun x hx=>by cases hx⟩
 refine EN1 Tryz.func76 rfl (aSR (aA rfl (aNn (aSR (aM rfl (aU rfl (ib (l:=[(0,.tmp 3)]) (zs:=[.string .empty,.slice none 0 0]) (pl:=[(0,1),(1,1)]) (by kernel_rfl) (by kernel_rfl) (by kernel_rfl) rfl rfl rfl) (LT rfl (WL (zs:=[.string .empty,.slice none 0 0]) el28 rfl rfl rfl (.more rfl (.v rfl (.v rfl .nil)) .nil) rfl rfl (fun v1_2=>(aHN ?_))))))))))
 refine eG 0 rfl ?_
 refine LT rfl (EC [0] [] rfl ((q5 ⟨v1_2,1,[⟨s,⟨none,0,[]⟩⟩]⟩).pre (fun p hp=>by
   rcases List.mem_cons.1 hp with rfl | hp
   · exact .of (aH 0 rfl)
   · rw [List.mem_singleton.1 hp]
     exact fun w S hp x hx=>(by rw [List.mem_singleton.1 hx];exact hok _ w S hp))) ?_)
 rintro _ _ _ ⟨⟨rfl,rfl⟩,b,rfl,hb1,hb2⟩
 refine aST ?_
 refine aA rfl (aNn (az (FZ1 [] Tryz.results76 rfl (congrArg Value.bool ?_))))
 cases hn:fg s with
 | true=>exact hb2 (lj.all ⟨Nat.le_refl _,fun d hd=>by rw [List.mem_singleton.1 hd];exact hn,fun d hd=>by rw [List.mem_singleton.1 hd]⟩)
 | false =>
   cases b with
   | false=>rfl
   | true=>have:=(hb1 rfl).nm _ (List.mem_singleton.2 rfl);rw [hn] at this;cases this
theorem j5(s:ByteArray)(hs:s.size≤maxLen):Con Tryz.prog 86 [.string s] [] [] fun r _ _=>r=.bool (ni s):=by
 refine EN1 Tryz.func86 rfl (aSR (aA rfl (aNn (aSR (aM rfl (aU rfl (jm rfl rfl) (aM rfl (aG rfl rfl (fun hc=>aT rfl) (aG rfl rfl (fun hc=>Q0 (aK (ae rfl hc) rfl) (gF s hs)) (aU rfl (dp rfl rfl (fun h=>gf rfl h)) (aA rfl (aNn (az (FZ1 [] Tryz.results86 rfl ?_))))))))))))))
 rfl
theorem jC(s:ByteArray):Con Tryz.prog 96 [.string s] [] [] fun r _ _=>r=.bool (oP s):=by
 refine EN1 Tryz.func96 rfl (aSR (aA rfl (aNn (aSR (aM rfl (aU rfl (cB Tryz.underlying9 rfl) (aU rfl (eY rfl rfl) (aA rfl (aNn (az (FZ1 [] Tryz.results96 rfl ?_)))))))))))
 rfl
theorem dt(n lo hi:Int):Con Tryz.prog 75 [.int .i64 n,.int .i64 lo,.int .i64 hi] [] [] fun r _ _=>r=.bool (iy n lo hi):=by
 refine EN3 Tryz.func75 rfl (aSR (aA rfl (aNn (aSR (aM rfl (aM rfl (aU rfl (fH rfl rfl) (aM rfl (aG rfl rfl (fun hc=>aT rfl) (aG rfl rfl (fun hc=>aT rfl) (aG rfl rfl (fun hc=>eY (ae rfl hc) (ae rfl hc)) (aU rfl (bB rfl rfl (fun h=>gt rfl h)) (aA rfl (aNn (az ?_)))))))))))))))
 refine FZ1 [] Tryz.results75 rfl ?_
 rfl
theorem tc(k:Int):Con Tryz.prog 22 [.int .i64 k] [] [] fun r _ _=>r=.bool (ik k):=by
 refine EN1 Tryz.func22 rfl (aSR (aA rfl (aNn (aSR (aM rfl (aU rfl (cA rfl rfl) (aM rfl (aG rfl rfl (fun hc=>aT rfl) (aG rfl rfl (fun hc=>cA (ae rfl hc) rfl) (aU rfl (dp rfl rfl (fun h=>gf rfl h)) (aM rfl (aG rfl rfl (fun hc=>aT rfl) (aG rfl rfl (fun hc=>cA (ae rfl hc) rfl) ?_)))))))))))))
 refine aU rfl (dp rfl rfl (fun h=>gf rfl h)) (aA rfl (aNn (az (FZ1 [] Tryz.results22 rfl ?_))))
 rfl
theorem qN(k:Int):Con Tryz.prog 89 [.int .i64 k] [] [] fun r _ _=>r=.int .i64 (dX k):=by
 refine EN1 Tryz.func89 rfl (aSR (aA rfl (aNs (aSR (aM rfl (aU rfl (cA rfl rfl) (aM rfl (aG rfl rfl (fun hc=>aT rfl) (aG rfl rfl (fun hc=>cA (ae rfl hc) rfl) (aU rfl (dp rfl rfl (fun h=>gf rfl h)) (aNn ?_)))))))))))
 refine ao _ rfl (fun h1 => ?_) (fun h1 => ?_)
 ·skip
  refine aSR (aA rfl (aNn (az (bw (FZ1 [] Tryz.results89 rfl ?_)))))
  unfold dX;rw [if_pos h1]
 ·skip
  refine ax (an (aSR (aA rfl (aNn (az (FZ1 [] Tryz.results89 rfl ?_))))))
  unfold dX;rw [if_neg (by rw [h1];decide)]
theorem con_instr(im:aD)(hc:0≤im.code∧im.code≤9223372036854775807)(n:Int):Con Tryz.prog 80 [im.val,.int .i64 n] [] [] fun r _ _=>r=.bool (instrB im.code n):=by
 refine EN2 Tryz.func80 rfl (aSR (LT rfl (cx rfl rfl rfl (fun b0_0=>(aHN ?_)))))
 refine aA rfl (aNn (aSR (aM rfl (UO 2 rfl rfl (UL 0 tk3 rfl rfl rfl rfl (aU rfl (cZ rfl rfl (by omega)) (aU rfl (Q0 rfl (dt n 0 (im.code-8))) (aM rfl (aG rfl rfl (fun hc=>aT rfl) (aG rfl rfl (fun hc=>fl (ae rfl hc) rfl (by decide)) (aG rfl rfl (fun hc=>cA (ae rfl hc) rfl) (aU rfl (bB rfl rfl (fun h=>gt rfl h)) (aA rfl (aNn (az ?_)))))))))))))))
 refine FZ1 [] Tryz.results80 rfl ?_
 rfl
theorem abg(im:aD)(hn:im.name.size≤maxLen)(hi:I64 im.code∧I64 im.data∧I64 im.zero):Con Tryz.prog 25 [im.val] [] [] fun r _ _=>r=.bool (mF im):=by
 refine EN1 Tryz.func25 rfl (aSR (LT rfl (cx rfl rfl rfl (fun b0_0=>(aHN ?_)))))
 refine aA rfl (aNn (aSR (UO 2 rfl rfl (UL 0 tk3 rfl rfl rfl rfl (UO 3 rfl rfl (UL 0 tk3 rfl rfl rfl rfl (UO 4 rfl rfl (UL 0 tk3 rfl rfl rfl rfl (LT rfl (WL (zs:=[.int .i64 0]) el25 rfl rfl rfl (.more rfl (.v rfl .nil) (.more rfl (.v rfl .nil) (.more rfl (.v rfl .nil) .nil))) rfl rfl (fun v1_6=>(aHN ?_))))))))))))
 refine eG 1 rfl ?_
 refine LT rfl (EC [0,0] [] rfl ((j4 ⟨v1_6,3,[im.code,im.data,im.zero]⟩ 73 [] (ShF (fun z=>[.v (.int .i64 z)]) ⟨v1_6,3,[im.code,im.data,im.zero]⟩) (fun _ n=>upB n) (by kernel_rfl) (fun i a ha=>(yu i a (by
   have:=List.mem_of_getElem? ha
   simp at this
   rcases this with rfl | rfl | rfl
   · exact hi.1
   · exact hi.2.1
   · exact hi.2.2)).pre (fun _ h=>by cases h)))) ?_)
 rintro _ _ _ ⟨rfl,rfl,rfl⟩
 refine aST ?_
 refine aA rfl (aNn (aSR (aM rfl (aM rfl (GO 2 rfl rfl rfl (GL 0 tk3 rfl rfl rfl rfl rfl (aG rfl rfl (fun hc=>eY rfl (ae rfl hc)) (aU rfl (bB rfl rfl (fun h=>gt rfl h)) (aM rfl (GO 2 rfl rfl rfl (GL 0 tk3 rfl rfl rfl rfl rfl (GO 3 rfl rfl rfl ?_))))))))))))
 refine GL 0 tk3 rfl rfl rfl rfl rfl (aG rfl rfl (fun hc=>eY (ae rfl hc) (ae rfl hc)) (aU rfl (bB rfl rfl (fun h=>gt rfl h)) (aM rfl (GO 3 rfl rfl rfl (GL 0 tk3 rfl rfl rfl rfl rfl (GO 4 rfl rfl rfl (GL 0 tk3 rfl rfl rfl rfl rfl (aG rfl rfl (fun hc=>eY (ae rfl hc) (ae rfl hc)) (aU rfl (bB rfl rfl (fun h=>gt rfl h)) (aM rfl (GO 4 rfl rfl rfl (GL 0 tk3 rfl rfl rfl rfl rfl (aG rfl rfl (fun hc=>eY (ae rfl hc) rfl) (aU rfl (bB rfl rfl (fun h=>gt rfl h)) (aM rfl ?_)))))))))))))))
 refine GO 5 rfl rfl rfl (GL 0 tk9 rfl rfl rfl rfl rfl (aG rfl rfl (fun hc=>cB Tryz.underlying9 (ae rfl hc)) (GO 3 rfl rfl rfl (GL 0 tk3 rfl rfl rfl rfl rfl (aG rfl rfl (fun hc=>cA (ae rfl hc) (ae rfl hc)) (aU rfl (bB rfl rfl (fun h=>gt rfl h)) (aM rfl (GO 7 rfl rfl rfl (GL 0 tk3 rfl rfl rfl rfl rfl (GO 6 rfl rfl rfl (GL 0 tk9 rfl rfl rfl rfl rfl (aG rfl rfl (fun hc=>cB Tryz.underlying9 (ae rfl hc)) (aG rfl rfl (fun hc=>fb (by kernel_rfl) (aK (ae rfl hc) (aK (ae rfl hc) (aK (ae rfl rfl) rfl))) (fun w S fp hst=>(dt _ _ _).quiet0 hst)) (aU rfl (bB rfl rfl (fun h=>gt rfl h)) (aM rfl ?_)))))))))))))))
 refine GO 0 rfl rfl rfl (GL 0 tk9 rfl rfl rfl rfl rfl (aG rfl rfl (fun hc=>Q0 (aK (ae rfl hc) rfl) (gF _ hn)) (aU rfl (bB rfl rfl (fun h=>gt rfl h)) (aA rfl (aNn (az (FZ1 [] Tryz.results25 rfl (congrArg Value.bool ?_))))))))
 unfold mF
 simp [allI]
end Go.Proofs.YtebnelfdimiifaaGreatDoor

namespace Go.Proofs.YtebnelfdimiifaaGreatDoor
open Go.RowKit Go.Lp Go.Sy Go.Lv
theorem aas{α:Type}[DecidableEq α]{l:List α}{a:α} : (fw l a).getD false=true↔a∈l:=by unfold fw;by_cases h:a∈l<;>simp [h]
def q7(a b:bK):Bool:=decide (a.at_+a.size≤b.at_) || decide (b.at_+b.size≤a.at_)
theorem yC{a b:bK}(h:q7 a b=true):q7 b a=true:=by unfold q7 at *;rw [Bool.or_comm];exact h
def kW:List bK→Bool
 | []=>true
 | a::l=>l.all (q7 a) && kW l
theorem oL:∀ {l:List bK},kW l=true↔l.Pairwise fun a b=>q7 a b=true
 | []=>by simp [kW]
 | a::l=>by rw [kW,Bool.and_eq_true,List.all_eq_true,List.pairwise_cons,oL]
def gj(s:bK):Bool := !decide (s.size≤0)
def qc(l:List bK):Bool:=kW (l.filter gj)
def acy(q:List bK)(i:Nat)(a:bK):Bool:=decide ((i:Int)=0) || decide ((elt q ((i:Int)-1)).at_+(elt q ((i:Int)-1)).size≤a.at_)
theorem yY{l m:List bK}(h:l.Perm m):kW l=kW m:=by
 rw [Bool.eq_iff_iff,oL,oL]
 exact h.pairwise_iff fun h=>yC h
theorem qd:∀ {q:List bK},(∀ s∈q,gj s=true)→(q.Pairwise fun a b=>a.at_≤b.at_)→((∀ k a b,q[k]? = some a→q[k+1]? = some b→a.at_+a.size≤b.at_)↔kW q=true)
 | [],_,_=>by simp [kW]
 | [a],_,_=>by simp [kW]
 | a :: b::q,hf,hs=>by
   have ih:=qd (q:=b::q) (fun s hs=>hf s (List.mem_cons_of_mem _ hs)) (List.pairwise_cons.1 hs).2
   have ha:¬ a.size≤0:=by have:=hf a (by simp);simpa [gj] using this
   have hb:¬ b.size≤0:=by have:=hf b (by simp);simpa [gj] using this
   rw [List.pairwise_cons] at hs
   have hab:=hs.1 b (by simp)
   have hbc:=(List.pairwise_cons.1 hs.2).1
   rw [kW,Bool.and_eq_true,← ih,List.all_eq_true]
   constructor
   · intro h
     have h0:=h 0 a b rfl rfl
     refine ⟨fun s hm => ?_,fun k x y hx hy=>h (k+1) x y (by simpa using hx) (by simpa using hy)⟩
     unfold q7
     rw [Bool.or_eq_true,decide_eq_true_eq]
     rcases List.mem_cons.1 hm with rfl | hm
     · exact .inl h0
     · have:=hbc s hm;left;omega
   · rintro ⟨h1,h2⟩ k x y hx hy
     cases k with
     | zero =>
       simp at hx hy;subst hx;subst hy
       have:=h1 b (by simp)
       unfold q7 at this
       rw [Bool.or_eq_true,decide_eq_true_eq,decide_eq_true_eq] at this
       rcases this with h | h
       · exact h
       · omega
     | succ k=>exact h2 k x y (by simpa using hx) (by simpa using hy)
theorem vE{l q:List bK}(hp:q.Perm (l.filter gj))(hs:q.Pairwise fun a b=>¬ ub b.at_ a.at_<0):allI (acy q) 0 q=qc l:=by
 unfold qc
 rw [← yY hp,Bool.eq_iff_iff,ju,← qd (fun s h=>(List.mem_filter.1 (hp.mem_iff.1 h)).2) (hs.imp fun h=>by rw [vH] at h;omega)]
 constructor
 · intro h k a b ha hb
   have:=h (k+1) b hb
   have hk:=(List.getElem?_eq_some_iff.1 ha).1
   have he:elt q (((0+(k+1):Nat):Int)-1)=a:=by
     rw [show (((0+(k+1):Nat):Int)-1)=(k:Int) by omega]
     unfold elt;rw [List.getD_eq_getElem?_getD,Int.toNat_natCast,ha];rfl
   unfold acy at this
   rw [he,Bool.or_eq_true,decide_eq_true_eq,decide_eq_true_eq] at this
   rcases this with h | h
   · omega
   · exact h
 · intro h k b hb
   unfold acy
   rw [Bool.or_eq_true,decide_eq_true_eq,decide_eq_true_eq]
   cases k with
   | zero=>left;rfl
   | succ k =>
     right
     have hk:=(List.getElem?_eq_some_iff.1 hb).1
     have ha:q[k]? = some q[k]:=List.getElem?_eq_getElem (by omega)
     have he:elt q (((0+(k+1):Nat):Int)-1)=q[k]:=by
       rw [show (((0+(k+1):Nat):Int)-1)=(k:Int) by omega]
       unfold elt;rw [List.getD_eq_getElem?_getD,Int.toNat_natCast,ha];rfl
     rw [he];exact h k _ b ha hb
structure mI (g:bK→Bool) (zs ys:List bK) (w r:Nat):Prop where
 ln:ys.length=zs.length
 wr:w<r
 rl:r≤zs.length
 kp:ys.take w=(zs.take r).filter fun a => !g a
 rs:ys.drop r=zs.drop r
section
variable {g:bK→Bool} {zs ys:List bK} {w r i:Nat} {a:bK}
theorem mI.start(ha:zs[i]? = some a)(hg:g a=true)(h:∀ b∈zs.take i,g b=false):mI g zs zs i (i+1):=by
 have hi:=(List.getElem?_eq_some_iff.1 ha).1
 refine ⟨rfl,Nat.lt_succ_self _,hi,?_,rfl⟩
 rw [List.take_add_one,ha,Option.toList_some,List.filter_append,List.filter_eq_self.2 fun b hb=>by rw [h b hb];rfl]
 simp [hg]
theorem mI.get(h:mI g zs ys w r)(hr:r<zs.length):ys[r]? = zs[r]? := by
 have:=congrArg (·[0]?) h.rs
 simpa [List.getElem?_drop] using this
theorem mI.keep(h:mI g zs ys w r)(ha:zs[r]? = some a)(hg:g a=false):mI g zs (ys.set w a) (w+1) (r+1):=by
 have hr:=(List.getElem?_eq_some_iff.1 ha).1
 have hln:=h.ln
 have hwr:=h.wr
 refine ⟨by rw [List.length_set];exact hln,by omega,hr,?_,?_⟩
 · rw [List.take_add_one,List.getElem?_set_self (by omega),List.take_set_of_le (Nat.le_refl _),h.kp,List.take_add_one,ha]
   simp [hg]
 · rw [List.drop_set_of_lt (by omega)]
   have:=congrArg (List.drop 1) h.rs
   rwa [List.drop_drop,List.drop_drop] at this
theorem mI.drop(h:mI g zs ys w r)(ha:zs[r]? = some a)(hg:g a=true):mI g zs ys w (r+1):=by
 have hr:=(List.getElem?_eq_some_iff.1 ha).1
 have hwr:=h.wr
 refine ⟨h.ln,by omega,hr,?_,?_⟩
 · rw [h.kp,List.take_add_one,ha];simp [hg]
 · have:=congrArg (List.drop 1) h.rs
   rwa [List.drop_drop,List.drop_drop] at this
theorem mI.all(h:mI g zs ys w r)(hr:zs.length≤r):ys.take w=zs.filter fun a => !g a:=by rw [h.kp,List.take_of_length_le hr]
end

abbrev pV(p:Int × Int):Value:=.agg #[.int .i64 p.1,.int .i64 p.2]
def y5(im:aD)(k:Int):Int:=if k=1 then im.code else if k=2 then im.data else 0
def y4(im:aD)(k:Int):Int:=if k=0 then im.code else if k=1 then im.data else if k=2 then im.zero else im.block
theorem adL(im:aD){k:Int}(h:0≤k∧k≤4):(iq (iq (iq (iq (iq (fun _=>none) 0 ((0:Int),im.code)) 1 (im.code,im.data)) 2 (im.data,im.zero)) 3 ((0:Int),im.block)) 4 ((0:Int),im.block) k).getD ((0:Int),(0:Int))=(y5 im k,y4 im k):=by
 unfold iq y5 y4
 rcases (by omega:k=0∨k=1∨k=2∨k=3∨k=4) with rfl | rfl | rfl | rfl | rfl<;>simp
def iF(x:bp):Bool:=((((((!iy x.kind 0 4) || (!fg x.sec)) || (!ni x.obj)) || (!decide ((x.digest.size:Int)=32))) || ((!decide ((x.form.size:Int)=0)) && (!decide ((x.form.size:Int)=32)))) || (!iy x.size 0 1048576)) || (!iy x.at_ 0 1048576)
def yP(im:aD)(x:bp):Bool:=(decide (y5 im x.kind≤x.at_) && decide (x.at_+x.size≤y4 im x.kind)) && ((!decide (x.kind=0)) || decide (x.at_.tmod 8=0))
def jh(im:aD)(x:bp):Bool:=(!iF x) && yP im x
theorem pn{x:bp}(h:iF x=false):(0≤x.kind∧x.kind≤4)∧(0≤x.size∧x.size≤1048576)∧(0≤x.at_∧x.at_≤1048576):=by
 unfold iF at h
 simp only [Bool.or_eq_false_iff,Bool.not_eq_false',mP] at h
 exact ⟨h.1.1.1.1.1.1,h.1.2,h.2⟩
end Go.Proofs.YtebnelfdimiifaaGreatDoor

namespace Go.Sy
open Go.RowKit Go.Lp
section
variable {P:Program} {n:Fr} {env:Env} {ps:List Per} {hp:List Res} {d:Option Tmp} {ty:TypeId} {pos:String} {af:Array Edge} {gd:Option (Nat × Bool)} {K:Sta→Prop}
theorem yG{x:Operand}{T E:TypeId}{sz k B m cp c' o m':Nat}{rows:List (List D)}{zs:List Value}(i:Nat)(hel:elB P T E sz=true)(hz:fc P E=some zs)(h1:zs.all (·.oneCell')=true)(hzl:zs.length=sz)(ho:o=k*sz)(hm':m'=m-k)
   (hx:ev env x=some (true,.slice (some ⟨B,o,none⟩) m' c')) (hi:hp[i]? = some (aN (.slice (some ⟨B,0,none⟩) m cp) E sz rows)) (hm:rows.length=m) (hk:k<m)
   (hK:K ⟨env,ps,hp.set i (aN (.slice (some ⟨B,0,none⟩) k cp) E sz (rows.take k))⟩):Eff P n ⟨none,.call ⟨.builtin .clear,#[x],#[T]⟩,ty,pos,af,gd⟩ ⟨env,ps,hp⟩ false K:=.change i hi fun w S fp a hst he hn hR=>by
 subst ho;subst hm'
 have e1:=he.val hx rfl
 obtain ⟨hT,it,hit,_⟩:=dF hel
 obtain ⟨z,hzr,hzc⟩:=xu hz w
 have hbS:=fun b hb=>(hst.lt i (List.getElem?_eq_some_iff.1 hi).1 b hb).2
 rcases hR with ⟨h,_⟩ | ⟨b,cap,hv,⟨cs,sp,hb,hrows,hcap,hrc,hcm⟩,hF⟩
 · cases h
 · simp only [Value.slice.injEq,Option.some.injEq,Addr.mk.injEq] at hv
   obtain ⟨⟨rfl,_⟩,hmr,rfl⟩:=hv
   have hzsz:z.cells.size=sz:=by rw [← hzl,← hzc];simp
   have hvl:(Builtin.zeroCells z.cells (m-k)).toList.length=(m-k)*sz:=by simp [Builtin.zeroCells,hzsz]
   have hv1:∀ v∈(Builtin.zeroCells z.cells (m-k)).toList,v.oneCell'=true:=fun v hv=>by
     have hv2:v∈(List.range ((m-k)*z.cells.size)).map fun i=>z.cells[i % z.cells.size]! := by simpa [Builtin.zeroCells] using hv
     obtain ⟨j,hj,rfl⟩:=List.mem_map.1 hv2
     have hj2:=List.mem_range.1 hj
     have h0:0<z.cells.size:=by
       rcases Nat.eq_zero_or_pos z.cells.size with h | h
       · rw [h] at hj2;simp at hj2
       · exact h
     have hlt:=Nat.mod_lt j h0
     rw [getElem!_pos z.cells _ hlt]
     exact List.all_eq_true.1 h1 _ (by rw [← hzc];exact Array.getElem_mem_toList hlt)
   have hlen:=hrows.len
   have hle:k*sz+(m-k)*sz≤cs.length:=by
     rw [hlen,hm,← Nat.add_mul];exact Nat.mul_le_mul_right _ (by omega)
   have hrun:(execOp a.eval ⟨none,.call ⟨.builtin .clear,#[x],#[T]⟩,ty,pos,af,gd⟩).run P w=.ok (.value (.tuple #[])) (w.setRow B (wrC (cs++sp) (k*sz) (Builtin.zeroCells z.cells (m-k)).toList).toArray):=by
     have hexec:execOp a.eval ⟨none,.call ⟨.builtin .clear,#[x],#[T]⟩,ty,pos,af,gd⟩=(Builtin.clear_ #[T] ty (#[x].map a.eval)).bind fun r=>Sem.pure (Next.value r):=rfl
     rw [hexec,show #[x].map a.eval = #[a.eval x] by simp,e1,Sem.run_bind']
     have hst2:=gA (P:=P) B E (k*sz) (Builtin.zeroCells z.cells (m-k)).toList 0 (cs++sp) w hb hv1 (by rw [hvl,List.length_append];omega)
     obtain ⟨q,hq⟩:∃ q,m-k=q+1:=⟨m-k-1,by omega⟩
     have:(Builtin.clear_ #[T] ty #[.slice (some ⟨B,k*sz,none⟩) (m-k) c']).run P w=.ok (.tuple #[]) (w.setRow B (wrC (cs++sp) (k*sz) (Builtin.zeroCells z.cells (m-k)).toList).toArray):=by
       rw [hq] at hst2 ⊢
       simp [Builtin.clear_,run_underlying hT,hzr,hst2]
     rw [this];rfl
   rw [hrun]
   refine ⟨aN (.slice (some ⟨B,0,none⟩) k cp) E sz (rows.take k),_,hK,rfl,rfl,he,?_,rfl,rfl,⟨rfl,rfl⟩,by simp [World.setRow],fun b' hb' hne=>setRow_other _ _ _ _ (fun h=>hne ((hF b').2 h))⟩
   refine .inr ⟨B,cp,by rw [List.length_take,Nat.min_eq_left (by omega)],⟨cs.take (k*sz),(wrC (cs++sp) (k*sz) (Builtin.zeroCells z.cells (m-k)).toList).drop (k*sz),?_,?_,?_,by rw [List.length_take];omega,hcm⟩,hF⟩
   · have:cs.take (k*sz)++(wrC (cs++sp) (k*sz) (Builtin.zeroCells z.cells (m-k)).toList).drop (k*sz)=wrC (cs++sp) (k*sz) (Builtin.zeroCells z.cells (m-k)).toList:=by
       have e:cs.take (k*sz)=(wrC (cs++sp) (k*sz) (Builtin.zeroCells z.cells (m-k)).toList).take (k*sz):=by
         unfold wrC
         rw [List.take_append_of_le_length (l₂:=sp) (by omega),List.take_append_of_le_length (by rw [List.length_take];omega),List.take_take,Nat.min_self]
       rw [e,List.take_append_drop]
     rw [this];exact setRow_heap _ _ _ _ _ _ hb
   · exact (py hrows (by omega)).mono (fun b' hb'=>setRow_other _ _ _ _ (fun h=>hbS B ((hF B).2 rfl) (h ▸ hb'))) (fun _ h=>h)
   · have hle2:k*sz+(Builtin.zeroCells z.cells (m-k)).toList.length≤(cs++sp).length:=by rw [hvl,List.length_append];omega
     rw [List.length_append,List.length_drop,vf hle2,List.length_take,← hcap,List.length_append];omega
theorem jG{α β:Type}[DecidableEq α]{κ:α→Value}{ν:β→Value}{m:α→Option β}{kt:TypeId}{T E:TypeId}{x y z:Operand}{b:Nat}{k:α}{v:β}(i:Nat)(hT:P.underlying T=some (.map kt E))(KO:iw P kt κ)(hx:ev env x=some (true,.map (some b)))(hy:ev env y=some (true,κ k))(hz:ev env z=some (true,ν v))(hi:hp[i]? = some (fy b κ ν m))
   (hK:K ⟨env,ps,hp.set i (fy b κ ν (iq m k v))⟩):Eff P n ⟨none,.insert T x y z,ty,pos,af,gd⟩ ⟨env,ps,hp⟩ false K:=fe (ty:=ty) (pos:=pos) (af:=af) (gd:=gd) i hT KO hx hy hz hi hK
end
end Go.Sy

namespace Go.Proofs.YtebnelfdimiifaaGreatDoor
open Go.RowKit Go.Lp Go.Sy Go.Lv
open Go.Proofs.Tryz
attribute [local irreducible] aL aB awp aC fwp Quiet
theorem wC(l:Sl bK)(hl:l.l.length≤1000000):Con Tryz.prog 150 [l.val] [ShF bK.row l] [] fun r ps hp=>ps=[]∧∃ (ad:Option Addr) (c:Nat),r=.slice ad l.l.length c∧hp=[aN (.slice ad l.l.length c) 159 2 (l.l.map bK.row)]:=by
 refine EN1 Tryz.func150 rfl ?_
 refine kE (φ:=l.ad=none→l.l=[]) (fun w S fp hst => ?_) (fun hnil => ?_)
 · intro hn
   have hrep:fv w S (.slice l.ad l.l.length l.cap) (.sl (l.l.map bK.row)):=hst.per _ (aH 0 rfl)
   rw [hn] at hrep
   generalize hrw:l.l.map bK.row=rows at hrep
   generalize l.l.length=m at hrep
   cases hrep with
   | e=>exact List.map_eq_nil_iff.1 hrw
 refine aSR (aA rfl (aNs (aSR (aM rfl (aU rfl (zg Tryz.underlying31 rfl) (aNn ?_))))))
 refine ao _ rfl (fun h1 => ?_) (fun h1 => ?_)
 ·skip
  have hl0:l.l=[]:=hnil (by simpa using h1)
  refine ai (ef 159 2 ?_)
  show awp _ _ _ _ ⟨_,_,[_]⟩
  refine aa (aA rfl (aNn (az (bw (FZ1 [0] Tryz.results150 rfl ?_)))))
  exact ⟨rfl,none,0,by rw [hl0];rfl,by rw [hl0];rfl⟩
 ·skip
  refine ax (an (aSR (LT rfl (zu el31 rfl (fun v3_0=>(aHN ?_))))))
  refine aM rfl ?_
  refine aW rfl (tS 0 el31 el31 rfl rfl rfl rfl (aH 0 rfl) ((fun r hr=>by obtain ⟨z,_,rfl⟩:=List.mem_map.1 hr;rfl)) (by show ([]:List (List D)).length+(l.l.map bK.row).length≤_;rw [List.length_map];exact Nat.le_trans (show 0+l.l.length≤1000000 by omega) (by decide)) (l.l.length) (by simp;try omega) (fun v3_2 c3_2 => ?_))
  refine aHK ?_
  refine aA rfl (aNn (az (FZ1 [0] Tryz.results150 rfl ?_)))
  exact ⟨rfl,v3_2,c3_2,rfl,rfl⟩
theorem qt(a:bK):Con Tryz.prog 151 [a.val] [] [] fun r _ _=>r=.bool (!gj a):=by
 refine EN1 Tryz.func151 rfl (aSR (LT rfl (cx rfl rfl rfl (fun b0_0=>(aHN ?_)))))
 refine aA rfl (aNn (aSR (UO 1 rfl rfl (UL 0 tk3 rfl rfl rfl rfl (aU rfl (eY rfl rfl) (aA rfl (aNn (az (FZ1 [] Tryz.results151 rfl ?_)))))))))
 unfold gj;rw [Bool.not_not]
theorem abj(v:Value)(zs:List bK)(hz:zs.length≤1000000):Con Tryz.prog 174 [v,.func (.func 151) #[] #[]] [] [aN v 159 2 (zs.map bK.row)]
   fun r ps hp=>ps=[]∧hp=[aN v 159 2 (zs.map bK.row)]∧∃ z:Int,r=.int .i64 z∧((z = -1∧∀ b∈zs,(!gj b)=false)∨∃ (i:Nat) (a:bK),z=i∧zs[i]? = some a∧(!gj a)=true∧∀ b∈zs.take i,(!gj b)=false):=by
 refine EN2 Tryz.func174 rfl (aSR (aA rfl (aNs (aSR (aM rfl (aU rfl (gK 0 Tryz.underlying31 rfl rfl) (aM rfl (aNn (aq ?_)))))))))
 refine aP [0,1,7,8] [] [0] (fun (k:Nat) s=>(k≤zs.length∧∀ b∈zs.take k,(!gj b)=false)∧s=⟨[(0,true,v),(1,true,.func (.func 151) #[] #[]),(7,true,.int .i64 zs.length),(8,true,.int .i64 k)],[],[aN v 159 2 (zs.map bK.row)]⟩) (fun k=>zs.length-k) rfl (⟨0,⟨Nat.zero_le _,fun b h=>by cases h⟩,by rw [List.length_map];rfl⟩) ?_
 rintro k s ⟨⟨hk,hpre⟩,rfl⟩
 refine aSR (aU rfl (bC rfl rfl) (aNs ?_))
 refine ao _ rfl (fun h1 => ?_) (fun h1 => ?_)
 ·skip
  have hk':k<zs.length:=by simpa using h1
  obtain ⟨a,ha⟩:∃ a,zs[k]? = some a:=⟨zs[k]'hk',by simp⟩
  refine ax (an (ai (aq (aSR (aM rfl (aA rfl (aNn (aSR (aM rfl (aM rfl (aM rfl ?_)))))))))))
  refine aU rfl (bZ 0 k el31 rfl rfl rfl rfl (by rw [List.length_map];exact hk')) ?_
  refine aU rfl (bE (u:=a.val) 0 k 0 tk159 rfl rfl (aI ha) rfl rfl) (aU rfl (jk (by kernel_rfl) rfl rfl (fun w S fp hst=>(qt a).quiet0 hst)) (aNn ?_))
  refine ao _ rfl (fun h2 => ?_) (fun h2 => ?_)
  ·skip
   refine aSR (aM rfl (aA rfl (aNn (az (cH (bw (bw (cH (bw (FZ1 [0] Tryz.results174 rfl ?_))))))))))
   exact ⟨rfl,rfl,k,rfl,.inr ⟨k,a,rfl,ha,h2,hpre⟩⟩
  ·skip
   refine ax (bu (an (aa (aU rfl (aV rfl rfl (by omega)) (aM rfl (aNn ?_))))))
   refine ⟨[0,1,7,8],[],[0],rfl,?_⟩
   refine ⟨k+1,⟨⟨by omega,fun b hb => ?_⟩,rfl⟩,by omega⟩
   rw [List.take_add_one,ha,Option.toList_some] at hb
   rcases List.mem_append.1 hb with h | h
   · exact hpre b h
   · rw [List.mem_singleton.1 h];exact h2
 ·skip
  refine aR (aS (aS (aY (an (aSR (aA rfl (aNn (az (FZ1 [0] Tryz.results174 rfl ?_)))))))))
  exact ⟨rfl,rfl,-1,rfl,.inl ⟨rfl,fun b hb=>hpre b (by rw [List.take_of_length_le (by simp at h1;omega)];exact hb)⟩⟩
theorem abi(v:Value)(zs:List bK)(hz:zs.length≤1000000):Con Tryz.prog 149 [v,.func (.func 151) #[] #[]] [] [aN v 159 2 (zs.map bK.row)]
   fun r ps hp=>ps=[]∧hp=[aN r 159 2 ((zs.filter gj).map bK.row)]:=by
 have hff:(zs.filter fun a => !(!gj a))=zs.filter gj:=List.filter_congr fun a _=>Bool.not_not _
 refine EN2 Tryz.func149 rfl (aSR (aA rfl (aNn (aSR (aM rfl (aM rfl (LF rfl (EC [] [0] rfl (abj v zs hz) ?_))))))))
 rintro _ _ _ ⟨rfl,rfl,z,rfl,hres⟩
 refine aST ?_
 refine aA rfl (aNs (aSR (aM rfl (aU rfl (cA rfl rfl) (aNn ?_)))))
 refine ao _ rfl (fun h1 => ?_) (fun h1 => ?_)
 ·skip
  have hz1:z = -1:=by simpa using h1
  have hall:∀ b∈zs,(!gj b)=false:=by
    rcases hres with ⟨_,h⟩ | ⟨i,_,h,_⟩
    · exact h
    · omega
  refine aSR (aM rfl (aA rfl (aNn (az (bw (FZ1 [0] Tryz.results149 rfl ?_))))))
  exact ⟨rfl,by rw [List.filter_eq_self.2 fun b hb=>by have:=hall b hb;simpa using this];rfl⟩
 ·skip
  have hz1:¬ z = -1:=by simpa using h1
  obtain ⟨i,a0,rfl,ha0,hg0,hpre⟩:=hres.resolve_left fun h=>hz1 h.1
  have hil:=(List.getElem?_eq_some_iff.1 ha0).1
  refine ax (an (ai (aSR (aM rfl (aU rfl (aV rfl rfl (by omega)) (aA rfl (aNn (aq ?_))))))))
  refine gD 0 rfl (by intro h;rw [List.map_eq_nil_iff] at h;rw [h] at hil;cases hil) (fun B cp hv hcp => ?_)
  rw [List.length_map] at hv hcp
  subst hv
  refine aP [0,1,5,6] [] [0] (fun (q:(Nat × Nat) × List bK) st=>mI (fun a => !gj a) zs q.2 q.1.1 q.1.2∧st=⟨[(0,true,.slice (some ⟨B,0,none⟩) zs.length cp),(1,true,.func (.func 151) #[] #[]),(5,true,.int .i64 q.1.1),(6,true,.int .i64 q.1.2)],[],[aN (.slice (some ⟨B,0,none⟩) zs.length cp) 159 2 (q.2.map bK.row)]⟩) (fun q=>zs.length-q.1.2) rfl (⟨((i,i+1),zs),mI.start ha0 hg0 hpre,rfl⟩) ?_
  rintro ⟨⟨w,r⟩,ys⟩ st ⟨hI,rfl⟩
  dsimp only at hI ⊢
  have hln:=hI.ln
  have hwr:=hI.wr
  have hrl:=hI.rl
  refine ai (aSR (aM rfl (aM rfl (aU rfl (aX Tryz.underlying31 rfl) (aU rfl (bC rfl rfl) (aNn ?_))))))
  refine ao _ rfl (fun h2 => ?_) (fun h2 => ?_)
  ·skip
   have hr':r<zs.length:=by simpa using h2
   obtain ⟨a,ha⟩:∃ a,zs[r]? = some a:=⟨_,List.getElem?_eq_getElem hr'⟩
   have hya:ys[r]? = some a:=(hI.get hr').trans ha
   obtain ⟨yw,hyw⟩:∃ yw,ys[w]? = some yw:=⟨_,List.getElem?_eq_getElem (by omega)⟩
   refine ax (an (ai (aq (aSR (aM rfl (aM rfl ?_))))))
   refine aU rfl (bZ 0 r el31 rfl rfl rfl rfl (by rw [List.length_map];omega)) ?_
   refine aU rfl (bE (u:=a.val) 0 r 0 tk159 rfl rfl (aI hya) rfl rfl) (LT rfl (bJ (zs:=[.int .i64 0,.int .i64 0]) (by kernel_rfl) rfl (fun b7_4=>(aHN ?_))))
   refine aW rfl (ba 1 tk159 rfl rfl rfl rfl (aHK ?_))
   refine aNn (aSR (aM rfl (UL 1 tk159 rfl rfl rfl rfl (aU rfl (jk (by kernel_rfl) rfl rfl (fun w S fp hst=>(qt a).quiet0 hst)) (aU rfl (dO rfl) (aNn ?_))))))
   refine ao _ rfl (fun h3 => ?_) (fun h3 => ?_)
   ·skip
    have hga:(!gj a)=false:=by simpa using h3
    refine aSR (aM rfl (aM rfl (UL 1 tk159 rfl rfl rfl rfl ?_)))
    refine aU rfl (bZ 0 w el31 rfl rfl rfl rfl (by rw [List.length_map];omega)) ?_
    refine LF rfl (du 0 w 0 tk159 rfl rfl rfl (aI hyw) rfl (.v rfl (.v rfl .nil)) rfl (by decide) (aHK ?_))
    refine aNn (aa (aM rfl (aU rfl (aV rfl rfl (by omega)) (aA rfl (bP (bu (an (aa (aM rfl (aU rfl (aV rfl rfl (by omega)) (aA rfl (aNn ?_))))))))))))
    refine ⟨[0,1,5,6],[],[0],rfl,?_⟩
    refine ⟨((w+1,r+1),ys.set w a),⟨hI.keep ha hga,?_⟩,by dsimp only;omega⟩
    dsimp only
    rw [List.map_set];rfl
   ·skip
    have hga:(!gj a)=true:=by simpa using h3
    refine ax (bu (an (aa (aM rfl (aU rfl (aV rfl rfl (by omega)) (aA rfl (aNn ?_)))))))
    refine ⟨[0,1,5,6],[],[0],rfl,?_⟩
    exact ⟨((w,r+1),ys),⟨hI.drop ha hga,rfl⟩,by dsimp only;omega⟩
  ·skip
   have hr':zs.length≤r:=by simp at h2;omega
   refine aR (aS (aS (aY (an (aSR (aM rfl (aM rfl ?_)))))))
   refine aU rfl (oN w (zs.length-w) (w*2) el31 rfl rfl rfl (by omega) hcp rfl (by rw [Nat.zero_add])) ?_
   refine LF rfl (yG (k:=w) 0 el31 (zs:=[.int .i64 0,.int .i64 0]) (by kernel_rfl) (by decide) rfl rfl rfl rfl rfl (by rw [List.length_map];exact hln) (by omega) ?_)
   refine aHK ?_
   refine aNn (aSR (aM rfl (aM rfl (aU rfl (iM w el31 rfl rfl rfl (by omega) hcp) (aA rfl (aNn (az (FZ1 [0] Tryz.results149 rfl ?_))))))))
   exact ⟨rfl,by rw [← hff,← hI.all hr',List.map_take];rfl⟩
end Go.Proofs.YtebnelfdimiifaaGreatDoor

