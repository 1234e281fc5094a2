/- Parts of the proof, in build order. No condition. -/
import Derived.Test.YtfkcmbonmpcbfaaGreatTb08
import Derived.Test.YtfkcmbonmpcbfaaGreatTb16
import Derived.Test.YtfkcmbonmpcbfaaGreatTb05
import Derived.Test.YtfkcmbonmpcbfaaGreatTb10
import Derived.Test.YtfkcmbonmpcbfaaGreatTb09
import Derived.Test.YtfkcmbonmpcbfaaGreatTb06
import Derived.Shelf.SlSortCmp.WholeK
import Derived.Shelf.SlSortCmp.NoneTotal
import Derived.Test.YtfkcmbonmpcbfaaGreatProg
import Derived.Ground.SlsfProg
import Derived.Test.YtfkcmbonmpcbfaaGreatTb12
import Derived.Lib.UnsafeStr
import Derived.Lib.Builder
import Derived.Test.YtfkcmbonmpcbfaaGreatTb04
set_option linter.unusedSimpArgs false
set_option linter.unusedVariables false
set_option maxHeartbeats 1000000
set_option maxRecDepth 20000
namespace Go.Sy
open Go.RowKit Go.Lp
def eE{σ α:Type}(f:σ→Nat→α→Bool × σ):σ→Nat→List α→Bool × σ
 | s,_,[]=>(true,s)
 | s,i,a::l=>if (f s i a).1 then eE f (f s i a).2 (i+1) l else (false,(f s i a).2)
theorem mD{σ α:Type}(f:σ→Nat→α→Bool × σ){s:σ}{l:List α}{k:Nat}{a:α}(h:l[k]? = some a):eE f s k (l.drop k)=if (f s k a).1 then eE f (f s k a).2 (k+1) (l.drop (k+1)) else (false,(f s k a).2):=by
 obtain ⟨h1,h2⟩:=List.getElem?_eq_some_iff.1 h
 rw [List.drop_eq_getElem_cons h1,h2];rfl
theorem mT{σ α:Type}(f:σ→Nat→α→Bool × σ){s:σ}{l:List α}{k i:Nat}(h:l.length≤k):eE f s i (l.drop k)=(true,s):=by rw [List.drop_eq_nil_of_le h];rfl
theorem Con.addEmp{P:Program}{f:FuncId}{args:List Value}{ps:List Per}{R:Value→List Per→List Res→Prop}(h:Con P f args ps [emp] fun v ps' hp'=>hp'=[emp]∧R v ps' []):Con P f args ps [] R:=fun w S fp hst =>
 (h w S (fun _ _=>False) ⟨hst.per,fun i R hR=>(by
   cases i with
   | zero=>simp only [List.getElem?_cons_zero,Option.some.injEq] at hR;subst hR;exact fun _ h=>h
   | succ i=>simp at hR),fun _ _ _ h=>h.elim,fun _ _ _ _ _ _ h=>h.elim,hst.slt⟩).mono fun e w' ⟨v,ps',hp',S',fp',he,⟨hl,hR⟩,hst',hE,_⟩=>by
   subst hl
   exact ⟨v,ps',[],S',fp',he,hR,⟨hst'.per,fun i R hR=>by simp at hR,fun i hi=>by simp at hi,fun i j hi=>by simp at hi,hst'.slt⟩,hE.wider (fun b ⟨_,_,h⟩=>h.elim),fun b ⟨i,hi,_⟩=>by simp at hi⟩
theorem Con.ofEmp{P:Program}{f:FuncId}{args:List Value}{ps:List Per}{R:Value→List Per→List Res→Prop}(h:Con P f args ps [] fun v ps' hp'=>hp'=[]∧R v ps' [emp]):Con P f args ps [emp] R:=fun w S fp hst =>
 (h w S fp ⟨hst.per,fun i R hR=>by simp at hR,fun i hi=>by simp at hi,fun i j hi=>by simp at hi,hst.slt⟩).mono fun e w' ⟨v,ps',hp',S',fp',he,⟨hl,hR⟩,hst',hE,hg⟩=>by
   subst hl
   refine ⟨v,ps',[emp],S',(fun _ _=>False),he,hR,⟨hst'.per,fun i R hR => ?_,fun _ _ _ h=>h.elim,fun _ _ _ _ _ _ h=>h.elim,hst'.slt⟩,hE.wider (fun b ⟨i,hi,_⟩=>by simp at hi),fun b ⟨_,_,h⟩=>h.elim⟩
   cases i with
   | zero=>simp only [List.getElem?_cons_zero,Option.some.injEq] at hR;subst hR;exact fun _ h=>h
   | succ i=>simp at hR
def allI{α:Type}(f:Nat→α→Bool):Nat→List α→Bool
 | _,[]=>true
 | i,a::l=>f i a && allI f (i+1) l
theorem lg{α:Type}(f:Nat→α→Bool):∀ (i:Nat) (l:List α),(eE (fun (_:Unit) i a=>(f i a,())) () i l).1=allI f i l
 | _,[]=>rfl
 | i,a::l=>by
   unfold eE allI
   cases h:f i a with
   | true=>simp only [if_true,Bool.true_and];exact lg f (i+1) l
   | false=>rfl
theorem gO{α:Type}{f:Nat→α→Bool} : ∀ {i:Nat} {l:List α},allI f i l=true↔∀ k a,l[k]? = some a→f (i+k) a=true
 | _,[]=>by simp [allI]
 | i,a::l=>by
   unfold allI
   rw [Bool.and_eq_true,gO]
   constructor
   · rintro ⟨h1,h2⟩ k b hk
     cases k with
     | zero=>simp at hk;subst hk;exact h1
     | succ k=>simp at hk;have:=h2 k b hk;rwa [show i+1+k=i+(k+1) by omega] at this
   · intro h
     exact ⟨h 0 a rfl,fun k b hk=>by rw [show i+1+k=i+(k+1) by omega];exact h (k+1) b (by simpa using hk)⟩
theorem Con.allQ{P:Program}{f:FuncId}{args:List Value}{ps ps0:List Per}{v:Value}(h:Con P f args ps0 [] fun r _ _=>r=v)(hr:∀ q∈ps0,Ent ps q):Con P f args ps [emp] fun r ps' hp'=>ps'=[]∧r=v∧hp'=[emp] :=
 Con.ofEmp fun w S fp hst=>((h.pre hr) w S fp hst).mono fun e w' ⟨u,ps',hp',S',fp',he,hu,hst',hE,hg⟩ =>
   ⟨u,[],[],S',fp',he,⟨rfl,rfl,hu,rfl⟩,⟨fun p hp=>(by cases hp),fun i R hR=>by simp at hR,fun i hi=>by simp at hi,fun i j hi=>by simp at hi,hst'.slt⟩,hE,fun b ⟨i,hi,_⟩=>by simp at hi⟩
theorem Con.pre1{P:Program}{f:FuncId}{args:List Value}{ps:List Per}{p:Per}{l:List Res}{R:Value→List Per→List Res→Prop}(h:Con P f args [p] l R)(h1:Ent ps p):Con P f args ps l R:=h.pre fun x hx=>by rw [List.mem_singleton.1 hx];exact h1
theorem Con.pre2{P:Program}{f:FuncId}{args:List Value}{ps:List Per}{p q:Per}{l:List Res}{R:Value→List Per→List Res→Prop}(h:Con P f args [p,q] l R)(h1:Ent ps p)(h2:Ent ps q):Con P f args ps l R:=h.pre fun x hx=>by
 rcases List.mem_cons.1 hx with rfl | hx
 · exact h1
 · rw [List.mem_singleton.1 hx];exact h2
theorem Con.clH{P:Program}{f:FuncId}{args:List Value}{ps:List Per}{hp:List Res}{v:Value}{R:Value→List Per→List Res→Prop}(h:Con P f args ps hp R)(hv:∀ r ps' hp',R r ps' hp'→r=v):Con P f args ps hp fun r ps' hp'=>ps'=[]∧hp'=[]∧r=v:=fun w S fp hst=>(h w S fp hst).mono fun e w' ⟨u,ps',hp',S',fp',he,hu,hst',hE,hg⟩ =>
   ⟨u,[],[],S',fp',he,⟨rfl,rfl,hv _ _ _ hu⟩,⟨fun p hp=>(by cases hp),fun i R hR=>by simp at hR,fun i hi=>by simp at hi,fun i j hi=>by simp at hi,hst'.slt⟩,hE,fun b ⟨i,hi,_⟩=>by simp at hi⟩
end Go.Sy
namespace Go.Proofs.YtfkcmbonmpcbfaaGreat
open Go.RowKit Go.Lp Go.Sy Go.Lv
open Go.Proofs.Tryz
attribute [local irreducible] aL aB awp aC fwp Quiet
theorem sn{σ:Type}(l:Sl Int)(F:FuncId)(caps:List Value)(p:Per)(R:σ→Res)(f:σ→Nat→Int→Bool × σ)(s0:σ)(hF:cM Tryz.prog F=true)(h:∀ (s:σ) (i:Nat) (a:Int),l.l[i]? = some a→Con Tryz.prog F (.int .i64 i::(.int .i64 a)::caps) [p] [R s] fun r ps hp=>ps=[]∧r=.bool (f s i a).1∧hp=[R (f s i a).2]) :
   Con Tryz.prog 139 [l.val,.func (.func F) #[] caps.toArray] [ShF (fun z=>[.v (.int .i64 z)]) l,p] [R s0] fun r ps hp=>ps=[]∧r=.bool (eE f s0 0 l.l).1∧hp=[R (eE f s0 0 l.l).2]:=by
 obtain ⟨w0,hw0⟩:∃ w0,eE f s0 0 l.l=w0:=⟨_,rfl⟩
 rw [hw0]
 refine EN2 Tryz.func139 rfl (cA (.of (aF 0 rfl)) (fun hlen=>(aSR (aA rfl (aNs (aSR (aM rfl (aU rfl (aY Tryz.underlying26 rfl) (aM rfl (aNn (ao (aR [0,1,7,8,9] [1,0] [0] (fun (q:Nat × σ) st=>(q.1≤l.l.length∧eE f q.2 q.1 (l.l.drop q.1)=w0)∧st=⟨[(0,true,l.val),(1,true,.func (.func F) #[] caps.toArray),(7,true,l.val),(8,true,.int .i64 l.l.length),(9,true,.int .i64 q.1)],[ShF (fun z=>[.v (.int .i64 z)]) l,p],[R q.2]⟩) (fun q=>l.l.length-q.1) rfl (⟨(0,s0),⟨Nat.zero_le _,hw0⟩,rfl⟩) ?_))))))))))))
 rintro ⟨k,s⟩ st ⟨⟨hk,hw⟩,rfl⟩
 dsimp only at hk hw ⊢
 refine aSR (aU rfl (bg rfl rfl) (aNs ?_))
 refine ah _ rfl (fun h1 => ?_) (fun h1 => ?_)
 ·skip
  have hk':k<l.l.length:=by simpa using h1
  obtain ⟨a,ha⟩:∃ a,l.l[k]? = some a:=⟨_,List.getElem?_eq_getElem hk'⟩
  rw [mD f ha] at hw
  refine ai (an (aq (ao (aSR (aM rfl (UI Tryz.underlying26 tk3 0 rfl rfl rfl rfl rfl (aJ ha) rfl rfl (fun ⟨b3_1,o3_1⟩=>(US 0 tk3 0 rfl rfl rfl rfl rfl (aA rfl (aA rfl (aNn (aSR (aM rfl (aM rfl (aM rfl ?_)))))))))))))))
  refine LF rfl (fE [0] [0] hF rfl rfl rfl rfl rfl (h s k a ha) ?_)
  rintro _ _ _ ⟨rfl,rfl,rfl⟩
  refine aST ?_
  refine aU rfl (bY rfl) (aNn ?_)
  refine ah _ rfl (fun h2 => ?_) (fun h2 => ?_)
  ·skip
   have hb:(f s k a).1=false:=by simpa using h2
   rw [hb] at hw
   refine aSR (aA rfl (aNn (aj (bH (aN (aN (bH (aN (FZ1 [0] Tryz.results139 rfl ?_)))))))))
   exact ⟨rfl,by rw [← hw];rfl,by rw [← hw];rfl⟩
  ·skip
   have hb:(f s k a).1=true:=by simpa using h2
   rw [hb] at hw
   refine ai (bo (an (ae (aU rfl (aO rfl rfl (by omega)) (aM rfl (aNn ?_))))))
   refine ⟨[0,1,7,8,9],[1,0],[0],rfl,?_⟩
   exact ⟨(k+1,(f s k a).2),⟨⟨hk',hw⟩,rfl⟩,by dsimp only;omega⟩
 ·skip
  rw [mT f (by simp at h1;omega)] at hw
  refine aS (aV (aV (ba (an (aSR (aA rfl (aNn (aj (FZ1 [0] Tryz.results139 rfl ?_)))))))))
  exact ⟨rfl,by rw [← hw],by rw [← hw];rfl⟩
theorem ix(l:Sl Int)(F:FuncId)(caps:List Value)(p:Per)(f:Nat→Int→Bool)(hF:cM Tryz.prog F=true)(h:∀ (i:Nat) (a:Int),l.l[i]? = some a→Con Tryz.prog F (.int .i64 i::(.int .i64 a)::caps) [p] [] fun r _ _=>r=.bool (f i a)) :
   Con Tryz.prog 139 [l.val,.func (.func F) #[] caps.toArray] [ShF (fun z=>[.v (.int .i64 z)]) l,p] [] fun r ps hp=>ps=[]∧hp=[]∧r=.bool (allI f 0 l.l):=by
 have:=sn l F caps p (fun _:Unit=>emp) (fun _ i a=>(f i a,())) () hF fun _ i a ha=>(h i a ha).allQ fun q hq=>by rw [List.mem_singleton.1 hq];exact .of (aF 0 rfl)
 rw [lg] at this
 exact Con.addEmp (this.post fun v ps' hp' ⟨h1,h2,h3⟩=>⟨h3,h1,rfl,h2⟩)
theorem nj{σ:Type}(l:Sl ByteArray)(F:FuncId)(caps:List Value)(p:Per)(R:σ→Res)(f:σ→Nat→ByteArray→Bool × σ)(s0:σ)(hF:cM Tryz.prog F=true)(h:∀ (s:σ) (i:Nat) (a:ByteArray),l.l[i]? = some a→Con Tryz.prog F (.int .i64 i::(.string a)::caps) [p] [R s] fun r ps hp=>ps=[]∧r=.bool (f s i a).1∧hp=[R (f s i a).2]) :
   Con Tryz.prog 159 [l.val,.func (.func F) #[] caps.toArray] [ShF (fun s=>[.v (.string s)]) l,p] [R s0] fun r ps hp=>ps=[]∧r=.bool (eE f s0 0 l.l).1∧hp=[R (eE f s0 0 l.l).2]:=by
 obtain ⟨w0,hw0⟩:∃ w0,eE f s0 0 l.l=w0:=⟨_,rfl⟩
 rw [hw0]
 refine EN2 Tryz.func159 rfl (cA (.of (aF 0 rfl)) (fun hlen=>(aSR (aA rfl (aNs (aSR (aM rfl (aU rfl (aY Tryz.underlying28 rfl) (aM rfl (aNn (ao (aR [0,1,7,8,9] [1,0] [0] (fun (q:Nat × σ) st=>(q.1≤l.l.length∧eE f q.2 q.1 (l.l.drop q.1)=w0)∧st=⟨[(0,true,l.val),(1,true,.func (.func F) #[] caps.toArray),(7,true,l.val),(8,true,.int .i64 l.l.length),(9,true,.int .i64 q.1)],[ShF (fun s=>[.v (.string s)]) l,p],[R q.2]⟩) (fun q=>l.l.length-q.1) rfl (⟨(0,s0),⟨Nat.zero_le _,hw0⟩,rfl⟩) ?_))))))))))))
 rintro ⟨k,s⟩ st ⟨⟨hk,hw⟩,rfl⟩
 dsimp only at hk hw ⊢
 refine aSR (aU rfl (bg rfl rfl) (aNs ?_))
 refine ah _ rfl (fun h1 => ?_) (fun h1 => ?_)
 ·skip
  have hk':k<l.l.length:=by simpa using h1
  obtain ⟨a,ha⟩:∃ a,l.l[k]? = some a:=⟨_,List.getElem?_eq_getElem hk'⟩
  rw [mD f ha] at hw
  refine ai (an (aq (ao (aSR (aM rfl (UI Tryz.underlying28 tk9 0 rfl rfl rfl rfl rfl (aJ ha) rfl rfl (fun ⟨b3_1,o3_1⟩=>(US 0 tk9 0 rfl rfl rfl rfl rfl (aA rfl (aA rfl (aNn (aSR (aM rfl (aM rfl (aM rfl ?_)))))))))))))))
  refine LF rfl (fE [0] [0] hF rfl rfl rfl rfl rfl (h s k a ha) ?_)
  rintro _ _ _ ⟨rfl,rfl,rfl⟩
  refine aST ?_
  refine aU rfl (bY rfl) (aNn ?_)
  refine ah _ rfl (fun h2 => ?_) (fun h2 => ?_)
  ·skip
   have hb:(f s k a).1=false:=by simpa using h2
   rw [hb] at hw
   refine aSR (aA rfl (aNn (aj (bH (aN (aN (bH (aN (FZ1 [0] Tryz.results159 rfl ?_)))))))))
   exact ⟨rfl,by rw [← hw];rfl,by rw [← hw];rfl⟩
  ·skip
   have hb:(f s k a).1=true:=by simpa using h2
   rw [hb] at hw
   refine ai (bo (an (ae (aU rfl (aO rfl rfl (by omega)) (aM rfl (aNn ?_))))))
   refine ⟨[0,1,7,8,9],[1,0],[0],rfl,?_⟩
   exact ⟨(k+1,(f s k a).2),⟨⟨hk',hw⟩,rfl⟩,by dsimp only;omega⟩
 ·skip
  rw [mT f (by simp at h1;omega)] at hw
  refine aS (aV (aV (ba (an (aSR (aA rfl (aNn (aj (FZ1 [0] Tryz.results159 rfl ?_)))))))))
  exact ⟨rfl,by rw [← hw],by rw [← hw];rfl⟩
abbrev p6:ElT Tryz.prog 153 23 bp:=⟨true,7,[.string .empty,.string .empty,.int .i64 0,.int .i64 0,.int .i64 0,.string .empty,.string .empty],bp.vs,bp.row,bp.val,tk153,tk23,Tryz.underlying23,el23,by kernel_rfl,by decide,by decide,rfl,fun _=>rfl,fun _=>rfl,fun _=>rfl,fun _=>rfl,fun _=>rfl,fun _=>rfl⟩
abbrev mG:ElT Tryz.prog 222 32 bj:=⟨true,2,[.int .i64 0,.int .i64 0],bj.vs,bj.row,bj.val,tk222,tk32,Tryz.underlying32,el32,by kernel_rfl,by decide,by decide,rfl,fun _=>rfl,fun _=>rfl,fun _=>rfl,fun _=>rfl,fun _=>rfl,fun _=>rfl⟩
abbrev pZ:ElT Tryz.prog 159 24 bO:=⟨true,6,[.string .empty,.string .empty,.bool false,.int .i64 0,.int .i64 0,.int .i64 0],bO.vs,bO.row,bO.val,tk159,tk24,Tryz.underlying24,el24,by kernel_rfl,by decide,by decide,rfl,fun _=>rfl,fun _=>rfl,fun _=>rfl,fun _=>rfl,fun _=>rfl,fun _=>rfl⟩
abbrev p4:ElT Tryz.prog 155 25 bR:=⟨true,5,[.string .empty,.string .empty,.int .i64 0,.bool false,.bool false],bR.vs,bR.row,bR.val,tk155,tk25,Tryz.underlying25,el25,by kernel_rfl,by decide,by decide,rfl,fun _=>rfl,fun _=>rfl,fun _=>rfl,fun _=>rfl,fun _=>rfl,fun _=>rfl⟩
abbrev wu:ElT Tryz.prog 218 30 fc:=⟨true,4,[.string .empty,.int .i64 0,.int .i64 0,.int .i64 0],fc.vs,fc.row,fc.val,tk218,tk30,Tryz.underlying30,el30,by kernel_rfl,by decide,by decide,rfl,fun _=>rfl,fun _=>rfl,fun _=>rfl,fun _=>rfl,fun _=>rfl,fun _=>rfl⟩
abbrev wq:ElT Tryz.prog 220 31 fb:=⟨true,4,[.int .i64 0,.int .i64 0,.string .empty,.int .i64 0],fb.vs,fb.row,fb.val,tk220,tk31,Tryz.underlying31,el31,by kernel_rfl,by decide,by decide,rfl,fun _=>rfl,fun _=>rfl,fun _=>rfl,fun _=>rfl,fun _=>rfl,fun _=>rfl⟩
abbrev jw:ElT Tryz.prog 262 33 cK:=⟨true,6,[.int .i64 0,.int .i64 0,.int .i64 0,.string .empty,.string .empty,.int .i64 0],cK.vs,cK.row,cK.val,tk262,tk33,Tryz.underlying33,el33,by kernel_rfl,by decide,by decide,rfl,fun _=>rfl,fun _=>rfl,fun _=>rfl,fun _=>rfl,fun _=>rfl,fun _=>rfl⟩
abbrev rf:ElT Tryz.prog 268 34 fT:=⟨true,6,[.int .i64 0,.int .i64 0,.int .i64 0,.string .empty,.int .i64 0,.int .i64 0],fT.vs,fT.row,fT.val,tk268,tk34,Tryz.underlying34,el34,by kernel_rfl,by decide,by decide,rfl,fun _=>rfl,fun _=>rfl,fun _=>rfl,fun _=>rfl,fun _=>rfl,fun _=>rfl⟩
abbrev kx:ElT Tryz.prog 274 35 dH:=⟨true,4,[.int .i64 0,.int .i64 0,.int .i64 0,.int .i64 0],dH.vs,dH.row,dH.val,tk274,tk35,Tryz.underlying35,el35,by kernel_rfl,by decide,by decide,rfl,fun _=>rfl,fun _=>rfl,fun _=>rfl,fun _=>rfl,fun _=>rfl,fun _=>rfl⟩
abbrev wo:ElT Tryz.prog 204 38 dC:=⟨true,5,[.string .empty,.string .empty,.string .empty,.slice none 0 0,.int .i64 0],dC.vs,dC.row,dC.val,tk204,tk38,Tryz.underlying38,el38,by kernel_rfl,by decide,by decide,rfl,fun _=>rfl,fun _=>rfl,fun _=>rfl,fun _=>rfl,fun _=>rfl,fun _=>rfl⟩
abbrev sS:ElT Tryz.prog 209 202 eD:=⟨true,3,[.int .i64 0,.int .i64 0,.int .i64 0],eD.vs,eD.row,eD.val,tk209,tk202,Tryz.underlying202,el202,by kernel_rfl,by decide,by decide,rfl,fun _=>rfl,fun _=>rfl,fun _=>rfl,fun _=>rfl,fun _=>rfl,fun _=>rfl⟩
def kl (v0 v1 v2:Nat):Code:=(.seq (.region 0 #[⟨(.some 4),(.assign (.const (Go.Value.bool false))),4, "right.go:35", #[],none⟩] false) (.seq (.seq (.region 1 #[⟨(.some 7),(.move (.tmp 0)),v0, "right.go:36", #[],none⟩,⟨(.some 8),(.call ⟨(Go.Callee.builtin Go.Builtin.len),#[(.tmp 7)],#[v0]⟩),3, "right.go:36", #[⟨0,Go.Ground.data⟩],none⟩,⟨(.some 9),(.move (.const (Go.Value.int Go.IntKind.i64 0))),3, "right.go:36", #[],none⟩] false) (.block 0 (.loop (.seq (.region 2 #[⟨(.some 10),(.binOp Go.BinOp.lss 3 (.tmp 9) (.tmp 8) 3),0, "right.go:36", #[],none⟩] false) (.seq (.cond (.tmp 10) Go.Code.skip (.exit 0)) (.seq (.block 1 (.seq (.region 3 #[⟨(.some 11),(.move (.tmp 9)),3, "right.go:36", #[],none⟩,⟨(.some 12),(.indexAddr v0 (.tmp 7) (.tmp 9)),0, "right.go:36", #[],none⟩,⟨(.some 13),(.load v1 (.tmp 12)),v1, "right.go:36", #[⟨1,Go.Ground.data⟩],none⟩,⟨(.some 6),(.alloc v1),0, "right.go:36", #[],none⟩,⟨(.some 5),(.assign (.tmp 11)),3, "right.go:36", #[⟨0,Go.Ground.data⟩,⟨0,Go.Ground.phase⟩,⟨1,Go.Ground.phase⟩,⟨2,Go.Ground.phase⟩,⟨3,Go.Ground.phase⟩],none⟩,⟨none,(.store v1 (.tmp 6) (.tmp 13)),0, "right.go:36", #[⟨3,Go.Ground.data⟩,⟨2,Go.Ground.data⟩,⟨4,Go.Ground.chain⟩,⟨0,Go.Ground.phase⟩,⟨1,Go.Ground.phase⟩,⟨2,Go.Ground.phase⟩,⟨3,Go.Ground.phase⟩,⟨4,Go.Ground.phase⟩],none⟩] false) (.seq (.region 4 #[⟨(.some 14),(.move (.tmp 1)),v2, "right.go:37", #[],none⟩,⟨(.some 15),(.move (.tmp 5)),3, "right.go:37", #[],none⟩,⟨(.some 16),(.load v1 (.tmp 6)),v1, "right.go:37", #[],none⟩,⟨(.some 17),(.call ⟨(Go.Callee.value (.tmp 14)),#[(.tmp 15),(.tmp 16)],#[3,v1]⟩),4, "right.go:37", #[⟨0,Go.Ground.data⟩,⟨1,Go.Ground.data⟩,⟨2,Go.Ground.data⟩],none⟩,⟨(.some 18),(.unOp Go.UnOp.not 4 (.tmp 17)),4, "right.go:37", #[⟨3,Go.Ground.data⟩],none⟩] false) (.cond (.tmp 18) (.seq (.region 5 #[⟨(.some 4),(.assign (.const (Go.Value.bool false))),4, "right.go:38", #[],none⟩] false) Go.Code.ret) Go.Code.skip)))) (.region 6 #[⟨(.some 19),(.binOp Go.BinOp.add 3 (.tmp 9) (.const (Go.Value.int Go.IntKind.i64 1)) 3),3, "right.go:36", #[],none⟩,⟨(.some 9),(.move (.tmp 19)),3, "right.go:36", #[⟨0,Go.Ground.data⟩],none⟩] false))))))) (.seq (.region 7 #[⟨(.some 4),(.assign (.const (Go.Value.bool true))),4, "right.go:41", #[],none⟩] false) Go.Code.ret)))
theorem dN{F0 v0 v1 v2:Nat}{σ α:Type}(X:ElT Tryz.prog v1 v0 α)(hF:isF Tryz.prog F0 (kl v0 v1 v2) 20 #[.tmp 4])(l:Sl α)(F:FuncId)(caps:List Value)(p:Per)(R:σ→Res)(f:σ→Nat→α→Bool × σ)(s0:σ)(hFc:cM Tryz.prog F=true)(h:∀ (s:σ) (i:Nat) (a:α),l.l[i]? = some a→Con Tryz.prog F (.int .i64 i::X.vl a::caps) [p] [R s] fun r ps hp=>ps=[]∧r=.bool (f s i a).1∧hp=[R (f s i a).2]) :
   Con Tryz.prog F0 [l.val,.func (.func F) #[] caps.toArray] [ShF X.row l,p] [R s0] fun r ps hp=>ps=[]∧r=.bool (eE f s0 0 l.l).1∧hp=[R (eE f s0 0 l.l).2]:=by
 obtain ⟨w0,hw0⟩:∃ w0,eE f s0 0 l.l=w0:=⟨_,rfl⟩
 rw [hw0]
 have tk_v1:=X.tE
 have un_v0:=X.uA
 obtain ⟨fn,hf,hb,hn,hr⟩:=hF
 refine Con.enterG hf hb hn (by simp) ?_
 unfold kl
 show awp _ _ _ _ ⟨[(0,true,_),(1,true,_)],_,_⟩
 refine cA (.of (aF 0 rfl)) (fun hlen=>(aSR (aA rfl (aNs (aSR (aM rfl (aU rfl (aY un_v0 rfl) (aM rfl (aNn (ao (aR [0,1,7,8,9] [1,0] [0] (fun (q:Nat × σ) st=>(q.1≤l.l.length∧eE f q.2 q.1 (l.l.drop q.1)=w0)∧st=⟨[(0,true,l.val),(1,true,.func (.func F) #[] caps.toArray),(7,true,l.val),(8,true,.int .i64 l.l.length),(9,true,.int .i64 q.1)],[ShF X.row l,p],[R q.2]⟩) (fun q=>l.l.length-q.1) rfl (⟨(0,s0),⟨Nat.zero_le _,hw0⟩,rfl⟩) ?_)))))))))))
 rintro ⟨k,s⟩ st ⟨⟨hk,hw⟩,rfl⟩
 dsimp only at hk hw ⊢
 refine aSR (aU rfl (bg rfl rfl) (aNs ?_))
 refine ah _ rfl (fun h1 => ?_) (fun h1 => ?_)
 ·skip
  have hk':k<l.l.length:=by simpa using h1
  obtain ⟨a,ha⟩:∃ a,l.l[k]? = some a:=⟨_,List.getElem?_eq_getElem hk'⟩
  rw [mD f ha] at hw
  refine ai (an (aq (ao (aSR (aM rfl (fZ true rfl rfl (fun _=>aX un_v0 tk_v1 rfl ((.of (aF 0 rfl))) rfl (aJ ha) rfl ((X.rl a))) (fun h=>absurd h (by decide)) (fun ⟨b3_1,o3_1⟩=>(aU rfl (dW (o:=0) tk_v1 rfl (aF 0 rfl) rfl (X.ldD a)) (LT rfl (bt (zs:=X.zs) X.hz rfl (fun b3_3=>(aHN ?_))))))))))))
  refine aA rfl (aI rfl (aW 1 tk_v1 rfl rfl rfl (X.put a) (aHK ?_)))
  refine aNn (aSR (aM rfl (aM rfl (aU rfl (bJ 1 tk_v1 rfl rfl (X.ld a)) (LF rfl (fE [0] [0] hFc rfl rfl rfl rfl rfl (h s k a ha) ?_))))))
  rintro _ _ _ ⟨rfl,rfl,rfl⟩
  refine aST ?_
  refine aU rfl (bY rfl) (aNn ?_)
  refine ah _ rfl (fun h2 => ?_) (fun h2 => ?_)
  ·skip
   have hb:(f s k a).1=false:=by simpa using h2
   rw [hb] at hw
   refine aSR (aA rfl (aNn (aj (bH (aN (aN (bH (aN ?_))))))))
   refine jZ [] [0] rfl hr rfl ?_ (.inr rfl)
   exact ⟨rfl,by rw [← hw];rfl,by rw [← hw];rfl⟩
  ·skip
   have hb:(f s k a).1=true:=by simpa using h2
   rw [hb] at hw
   refine ai (bo (an (ae (aU rfl (aO rfl rfl (by omega)) (aM rfl (aNn ?_))))))
   refine ⟨[0,1,7,8,9],[1,0],[0],rfl,?_⟩
   exact ⟨(k+1,(f s k a).2),⟨⟨hk',hw⟩,rfl⟩,by dsimp only;omega⟩
 ·skip
  rw [mT f (by simp at h1;omega)] at hw
  refine aS (aV (aV (ba (an (aSR (aA rfl (aNn (aj ?_))))))))
  refine jZ [] [0] rfl hr rfl ?_ (.inr rfl)
  exact ⟨rfl,by rw [← hw],by rw [← hw];rfl⟩
theorem cx{F0 v0 v1 v2:Nat}{α:Type}(X:ElT Tryz.prog v1 v0 α)(hF:isF Tryz.prog F0 (kl v0 v1 v2) 20 #[.tmp 4])(l:Sl α)(F:FuncId)(caps:List Value)(p:Per)(f:Nat→α→Bool)(hFc:cM Tryz.prog F=true)(h:∀ (i:Nat) (a:α),l.l[i]? = some a→Con Tryz.prog F (.int .i64 i::X.vl a::caps) [p] [] fun r _ _=>r=.bool (f i a)) :
   Con Tryz.prog F0 [l.val,.func (.func F) #[] caps.toArray] [ShF X.row l,p] [] fun r ps hp=>ps=[]∧hp=[]∧r=.bool (allI f 0 l.l):=by
 have:=dN X hF l F caps p (fun _:Unit=>emp) (fun _ i a=>(f i a,())) () hFc fun _ i a ha=>(h i a ha).allQ fun q hq=>by rw [List.mem_singleton.1 hq];exact .of (aF 0 rfl)
 rw [lg] at this
 exact Con.addEmp (this.post fun v ps' hp' ⟨h1,h2,h3⟩=>⟨h3,h1,rfl,h2⟩)
theorem lW:isF Tryz.prog 144 (kl 23 153 239) 20 #[.tmp 4]:=⟨_,Tryz.func144,rfl,Tryz.ntmps144,Tryz.results144⟩
theorem mu:type_of% (cx p6 lW):=cx p6 lW
theorem jn:isF Tryz.prog 166 (kl 32 222 259) 20 #[.tmp 4]:=⟨_,Tryz.func166,rfl,Tryz.ntmps166,Tryz.results166⟩
theorem qP{σ:Type} : type_of% (@dN _ _ _ _ σ _ mG jn):=dN mG jn
theorem pa:type_of% (cx mG jn):=cx mG jn
theorem lU:isF Tryz.prog 149 (kl 24 159 248) 20 #[.tmp 4]:=⟨_,Tryz.func149,rfl,Tryz.ntmps149,Tryz.results149⟩
theorem ng{σ:Type} : type_of% (@dN _ _ _ _ σ _ pZ lU):=dN pZ lU
theorem lV:isF Tryz.prog 154 (kl 25 155 250) 20 #[.tmp 4]:=⟨_,Tryz.func154,rfl,Tryz.ntmps154,Tryz.results154⟩
theorem nh{σ:Type} : type_of% (@dN _ _ _ _ σ _ p4 lV):=dN p4 lV
theorem pG:isF Tryz.prog 161 (kl 30 218 255) 20 #[.tmp 4]:=⟨_,Tryz.func161,rfl,Tryz.ntmps161,Tryz.results161⟩
theorem o7:type_of% (cx wu pG):=cx wu pG
theorem pF:isF Tryz.prog 164 (kl 31 220 257) 20 #[.tmp 4]:=⟨_,Tryz.func164,rfl,Tryz.ntmps164,Tryz.results164⟩
theorem oZ:type_of% (cx wq pF):=cx wq pF
theorem gy:isF Tryz.prog 170 (kl 33 262 265) 20 #[.tmp 4]:=⟨_,Tryz.func170,rfl,Tryz.ntmps170,Tryz.results170⟩
theorem ni{σ:Type} : type_of% (@dN _ _ _ _ σ _ jw gy):=dN jw gy
theorem mr:type_of% (cx jw gy):=cx jw gy
theorem km:isF Tryz.prog 174 (kl 34 268 271) 20 #[.tmp 4]:=⟨_,Tryz.func174,rfl,Tryz.ntmps174,Tryz.results174⟩
theorem sq{σ:Type} : type_of% (@dN _ _ _ _ σ _ rf km):=dN rf km
theorem qO:type_of% (cx rf km):=cx rf km
theorem ik:isF Tryz.prog 178 (kl 35 274 277) 20 #[.tmp 4]:=⟨_,Tryz.func178,rfl,Tryz.ntmps178,Tryz.results178⟩
theorem pb{σ:Type} : type_of% (@dN _ _ _ _ σ _ kx ik):=dN kx ik
theorem nc:type_of% (cx kx ik):=cx kx ik
theorem pE:isF Tryz.prog 180 (kl 38 204 281) 20 #[.tmp 4]:=⟨_,Tryz.func180,rfl,Tryz.ntmps180,Tryz.results180⟩
theorem oY:type_of% (cx wo pE):=cx wo pE
theorem mS:isF Tryz.prog 182 (kl 202 209 280) 20 #[.tmp 4]:=⟨_,Tryz.func182,rfl,Tryz.ntmps182,Tryz.results182⟩
theorem nf:type_of% (cx sS mS):=cx sS mS
def gl(z:Int):List D:=[.v (.int .i64 z)]
def ow(k:Int × Int):List D:=[.v (.int .i64 k.1),.v (.int .i64 k.2)]
theorem zt{β:Type}{m:Int→Option β}{f:FuncId}{bx:Nat}{p:Per}{A:Res}(hf:cM Tryz.prog f=true)(h:ItC f bx p A kI m)(hB:∀ l:List (Int),l.Nodup→(∀ k∈l,(m k).isSome=true)→l.length≤1000000) :
   Con Tryz.prog 259 [.slice none 0 0,.func (.func f) #[] #[.pointer (some ⟨bx,0,none⟩)]] [p] [A] fun r ps hp=>ps=[]∧∃ seen:List (Int),dw m seen∧hp=[A,aD r 3 1 (seen.reverse.map gl)]:=by
 refine Con.enterM Tryz.func259 rfl (by simp [Tryz.ntmps259]) ?_
 show fwp _ _ _ _ _ ⟨[(0,true,_),(1,true,_)],_,_⟩
 refine wz (ae (LT rfl (bz rfl rfl rfl (fun b0_0=>(aHN ?_)))))
 refine aA rfl (aNn (tc (ew 3 1 ?_)))
 show awp _ _ _ _ ⟨_,_,[_,_,_]⟩
 refine ae (aM rfl (aNn ?_))
 refine qc (Rr:=fun _ ps hp2=>ps=[]∧∃ (seen:List (Int)) (v:Value),dw m seen∧hp2=[Box b0_0 26 [v],aD v 3 1 (seen.reverse.map gl),A]) [0] [1,2,0] rfl rfl hf rfl (fun l1 r1 ht1 he1 hs1 hn1 hp1 ha1 hb1 => ?_) (fun D1 RA1 RB1 w1 ps1 hq1 hR1 => ?_)
 ·skip
  refine sr (l:=[dx l1 r1,Box b0_0 26 [.slice none 0 0],aD (.slice none 0 0) 3 1 []]) ((h l1 (List (Int) × Value) (fun q=>Bun [dx l1 r1,Box b0_0 26 [q.2],aD q.2 3 1 (q.1.map gl)]) (fun seen q=>q.1=seen.reverse∧seen.Nodup∧∀ k∈seen,(m k).isSome=true) ([],.slice none 0 0) ⟨rfl,List.nodup_nil,fun k hk=>by cases hk⟩ (fun seen k q hk hns hq => ?_)).post (fun v ps' hp' ⟨e1,seen,q,hkp,hq,e2⟩=>⟨_,_,e2,r1,_,rfl,by rw [hs1];decide,hn1,e1,seen,q.2,hkp,by rw [← hq.1];rfl⟩))
  have hql:q.1.length≤1000000:=by rw [hq.1,List.length_reverse];exact hB _ hq.2.1 hq.2.2
  refine kY.post (sP (R:=fun v ps hp=>v=.bool true∧ps=[]∧∃ v',hp=[dx l1 r1,Box b0_0 26 [v'],aD v' 3 1 ((q.1++[k]).map gl)]) (ps:=[]) ?_) ?_
  · skip
    refine pX ht1 hp1 ha1 hb1 hs1 rfl he1 rfl (ae (aA rfl (bK ?_)))
    refine an ⟨rfl,?_⟩
    refine lZ (by (try simp only [nK,nL]);rfl) ?_
    refine ao (ae (UL 1 tk26 rfl rfl rfl rfl (aM rfl (LT rfl (WL (zs:=[.int .i64 0]) el26 rfl rfl rfl (.more rfl (.v rfl .nil) .nil) rfl rfl (fun v3_2=>(aHN ?_)))))))
    refine aI rfl (cJ 2 el26 rfl rfl rfl rfl (dY 3 el26 rfl (by simp)) (by first | assumption | simp) (by simp;omega) _ rfl (fun v3_3 c3_3 => ?_))
    refine aHK ?_
    refine aI rfl (aW 1 tk26 rfl rfl rfl rfl (aHK ?_))
    refine bK (bo ?_)
    refine ⟨none,[],[0,1,2],rfl,rfl,rfl,?_⟩
    simp only [nK,nL]
    exact ⟨rfl,rfl,_,by rw [n1 hs1 hn1,List.map_append];rfl⟩
  · rintro v ps' hp' ⟨l',e,h1,h2,v',h3⟩
    exact ⟨h1,h2,(q.1++[k],v'),⟨by rw [hq.1];simp,List.nodup_cons.2 ⟨hns,hq.2.1⟩,fun j hj=>(List.mem_cons.1 hj).elim (fun e=>e ▸ hk) (hq.2.2 j)⟩,e.trans (by rw [h3])⟩
 obtain ⟨rfl,seen,v,hkp,rfl⟩:=hR1
 refine zX (by (try simp only [nM,nN]);rfl) (by (try simp only [nM,nN,nK,nL,nH,nI,fk,place,Nat.reduceBEq,if_true,if_false,reduceIte,Nat.reduceAdd,nW]);rfl) ?_
 refine ob (aSR (UL 1 tk26 rfl rfl rfl rfl (aA rfl (aNn (aj ?_)))))
 refine ab3 [] [0,2] [3] [D1] rfl Tryz.results259 rfl rfl rfl ?_ (.inr rfl)
 exact ⟨rfl,seen,hkp,rfl⟩
theorem qR{β:Type}{m:Int→Option β}{f:FuncId}{bx:Nat}{p:Per}{A:Res}(hf:cM Tryz.prog f=true)(h:ItC f bx p A kI m)(hB:∀ l:List (Int),l.Nodup→(∀ k∈l,(m k).isSome=true)→l.length≤1000000) :
   Con Tryz.prog 184 [.func (.func f) #[] #[.pointer (some ⟨bx,0,none⟩)]] [p] [A] fun r ps hp=>ps=[]∧∃ seen:List (Int),dw m seen∧hp=[A,aD r 3 1 (seen.reverse.map gl)]:=by
 refine EN1 Tryz.func184 rfl (aSR (aA rfl (aNn (aSR (aM rfl (LF rfl (EC [0] [0] rfl (zt hf h hB) ?_)))))))
 rintro r1 _ _ ⟨rfl,seen,hkp,rfl⟩
 refine aST ?_
 refine aA rfl (aNn (aj (FZ1 [0,1] Tryz.results184 rfl ?_)))
 exact ⟨rfl,seen,hkp,rfl⟩
theorem zu{β:Type}{m:Int × Int→Option β}{f:FuncId}{bx:Nat}{p:Per}{A:Res}(hf:cM Tryz.prog f=true)(h:ItC f bx p A cj m)(hB:∀ l:List (Int × Int),l.Nodup→(∀ k∈l,(m k).isSome=true)→l.length≤1000000) :
   Con Tryz.prog 329 [.slice none 0 0,.func (.func f) #[] #[.pointer (some ⟨bx,0,none⟩)]] [p] [A] fun r ps hp=>ps=[]∧∃ seen:List (Int × Int),dw m seen∧hp=[A,aD r 133 2 (seen.reverse.map ow)]:=by
 refine Con.enterM Tryz.func329 rfl (by simp [Tryz.ntmps329]) ?_
 show fwp _ _ _ _ _ ⟨[(0,true,_),(1,true,_)],_,_⟩
 refine wz (ae (LT rfl (bz rfl rfl rfl (fun b0_0=>(aHN ?_)))))
 refine aA rfl (aNn (tc (ew 133 2 ?_)))
 show awp _ _ _ _ ⟨_,_,[_,_,_]⟩
 refine ae (aM rfl (aNn ?_))
 refine qc (Rr:=fun _ ps hp2=>ps=[]∧∃ (seen:List (Int × Int)) (v:Value),dw m seen∧hp2=[Box b0_0 340 [v],aD v 133 2 (seen.reverse.map ow),A]) [0] [1,2,0] rfl rfl hf rfl (fun l1 r1 ht1 he1 hs1 hn1 hp1 ha1 hb1 => ?_) (fun D1 RA1 RB1 w1 ps1 hq1 hR1 => ?_)
 ·skip
  refine sr (l:=[dx l1 r1,Box b0_0 340 [.slice none 0 0],aD (.slice none 0 0) 133 2 []]) ((h l1 (List (Int × Int) × Value) (fun q=>Bun [dx l1 r1,Box b0_0 340 [q.2],aD q.2 133 2 (q.1.map ow)]) (fun seen q=>q.1=seen.reverse∧seen.Nodup∧∀ k∈seen,(m k).isSome=true) ([],.slice none 0 0) ⟨rfl,List.nodup_nil,fun k hk=>by cases hk⟩ (fun seen k q hk hns hq => ?_)).post (fun v ps' hp' ⟨e1,seen,q,hkp,hq,e2⟩=>⟨_,_,e2,r1,_,rfl,by rw [hs1];decide,hn1,e1,seen,q.2,hkp,by rw [← hq.1];rfl⟩))
  have hql:q.1.length≤1000000:=by rw [hq.1,List.length_reverse];exact hB _ hq.2.1 hq.2.2
  refine kY.post (sP (R:=fun v ps hp=>v=.bool true∧ps=[]∧∃ v',hp=[dx l1 r1,Box b0_0 340 [v'],aD v' 133 2 ((q.1++[k]).map ow)]) (ps:=[]) ?_) ?_
  · skip
    refine pX ht1 hp1 ha1 hb1 hs1 rfl he1 rfl (ae (LT rfl (bt (zs:=[.int .i64 0,.int .i64 0]) (by kernel_rfl) rfl (fun b2_0=>(aHN ?_)))))
    refine aI rfl (aW 3 tk133 rfl rfl rfl rfl (aHK ?_))
    refine bK ?_
    refine an ⟨rfl,?_⟩
    refine lZ (by (try simp only [nK,nL]);rfl) ?_
    refine ao (ae (UL 1 tk340 rfl rfl rfl rfl (UL 3 tk133 rfl rfl rfl rfl (LT rfl (WL (zs:=[.int .i64 0,.int .i64 0]) el340 rfl rfl rfl (.more rfl (.v rfl (.v rfl .nil)) .nil) rfl rfl (fun v3_2=>(aHN ?_)))))))
    refine aI rfl (cJ 2 el340 rfl rfl rfl rfl (dY 4 el340 rfl (by simp)) (by first | assumption | simp) (by simp;omega) _ rfl (fun v3_3 c3_3 => ?_))
    refine aHK ?_
    refine aI rfl (aW 1 tk340 rfl rfl rfl rfl (aHK ?_))
    refine bK (bo ?_)
    refine ⟨none,[],[0,1,2],rfl,rfl,rfl,?_⟩
    simp only [nK,nL]
    exact ⟨rfl,rfl,_,by rw [n1 hs1 hn1,List.map_append];rfl⟩
  · rintro v ps' hp' ⟨l',e,h1,h2,v',h3⟩
    exact ⟨h1,h2,(q.1++[k],v'),⟨by rw [hq.1];simp,List.nodup_cons.2 ⟨hns,hq.2.1⟩,fun j hj=>(List.mem_cons.1 hj).elim (fun e=>e ▸ hk) (hq.2.2 j)⟩,e.trans (by rw [h3])⟩
 obtain ⟨rfl,seen,v,hkp,rfl⟩:=hR1
 refine zX (by (try simp only [nM,nN]);rfl) (by (try simp only [nM,nN,nK,nL,nH,nI,fk,place,Nat.reduceBEq,if_true,if_false,reduceIte,Nat.reduceAdd,nW]);rfl) ?_
 refine ob (aSR (UL 1 tk340 rfl rfl rfl rfl (aA rfl (aNn (aj ?_)))))
 refine ab3 [] [0,2] [3] [D1] rfl Tryz.results329 rfl rfl rfl ?_ (.inr rfl)
 exact ⟨rfl,seen,hkp,rfl⟩
theorem qS{β:Type}{m:Int × Int→Option β}{f:FuncId}{bx:Nat}{p:Per}{A:Res}(hf:cM Tryz.prog f=true)(h:ItC f bx p A cj m)(hB:∀ l:List (Int × Int),l.Nodup→(∀ k∈l,(m k).isSome=true)→l.length≤1000000) :
   Con Tryz.prog 296 [.func (.func f) #[] #[.pointer (some ⟨bx,0,none⟩)]] [p] [A] fun r ps hp=>ps=[]∧∃ seen:List (Int × Int),dw m seen∧hp=[A,aD r 133 2 (seen.reverse.map ow)]:=by
 refine EN1 Tryz.func296 rfl (aSR (aA rfl (aNn (aSR (aM rfl (LF rfl (EC [0] [0] rfl (zu hf h hB) ?_)))))))
 rintro r1 _ _ ⟨rfl,seen,hkp,rfl⟩
 refine aST ?_
 refine aA rfl (aNn (aj (FZ1 [0,1] Tryz.results296 rfl ?_)))
 exact ⟨rfl,seen,hkp,rfl⟩
end Go.Proofs.YtfkcmbonmpcbfaaGreat

namespace Go.Sy
open Go.RowKit Go.Lp Go.Sort Go.Proofs
section
variable {α:Type} [Inhabited α] {enc:α→List Value} {k:Nat}
omit [Inhabited α] in
theorem gk(hk:∀ x,(enc x).length=k):∀ zs:List α,(zs.flatMap enc).length=zs.length*k
 | []=>by simp
 | x::zs=>by rw [List.flatMap_cons,List.length_append,gk hk zs,hk,List.length_cons,Nat.add_mul,Nat.one_mul];omega
omit [Inhabited α] in
theorem flat_get(hk:∀ x,(enc x).length=k):∀ (zs:List α) (i j:Nat) (x:α),zs[i]? = some x→j<k→(zs.flatMap enc)[i*k+j]? = (enc x)[j]?
 | [],i,j,x,h,_=>by simp at h
 | y::zs,0,j,x,h,hj=>by
   simp only [List.getElem?_cons_zero,Option.some.injEq] at h
   subst h
   rw [List.flatMap_cons,Nat.zero_mul,Nat.zero_add,List.getElem?_append_left (by rw [hk];exact hj)]
 | y::zs,i+1,j,x,h,hj=>by
   rw [List.getElem?_cons_succ] at h
   rw [List.flatMap_cons,List.getElem?_append_right (by rw [hk,Nat.add_mul];omega),hk,show (i+1)*k+j-k=i*k+j by rw [Nat.add_mul];omega]
   exact flat_get hk zs i j x h hj
theorem oa(hk:∀ x,(enc x).length=k)(d:Array α):flatK enc k d=(d.toList.flatMap enc).toArray:=by
 apply Array.ext'
 apply List.ext_getElem?
 intro t
 show (flatK enc k d).toList[t]? = (d.toList.flatMap enc)[t]?
 by_cases ht:t<d.size*k
 · have k0 : 0 < k := by rcases Nat.eq_zero_or_pos k with h | h
                         · subst h;simp at ht
                         · exact h
   have hd:t / k<d.size:=(Nat.div_lt_iff_lt_mul k0).2 ht
   have h1:=flat_get hk d.toList (t / k) (t % k) d[t / k]! (by simp [hd]) (Nat.mod_lt _ k0)
   rw [show t / k*k+t % k=t by rw [Nat.mul_comm];exact Nat.div_add_mod t k] at h1
   rw [h1,Array.getElem?_toList]
   have h2:=get_flatK enc k d t ht
   have h3:t % k<(enc d[t / k]!).length:=by rw [hk];exact Nat.mod_lt _ k0
   rw [List.getElem?_eq_getElem h3]
   have hs:t<(flatK enc k d).size:=by rw [size_flatK];exact ht
   rw [Array.getElem?_eq_getElem hs]
   rw [getElem!_pos _ t hs] at h2
   rw [h2,getElem!_pos (enc d[t / k]!) (t % k) h3]
 · rw [List.getElem?_eq_none (by simpa using ht),List.getElem?_eq_none (by rw [gk hk];simpa using ht)]
abbrev sX(enc:α→List Value)(l:List α):List (List D):=l.map fun x=>(enc x).map D.v
theorem aau(hk:∀ x,(enc x).length=k)(k0:0<k){w:World}{S F:aT}{v:Value}{T:TypeId}{zs:List α}(h:(aD v T k (sX enc zs)).holds w S F) :
   (v=.slice none 0 0∧zs=[])∨∃ b cap sp,v=.slice (some ⟨b,0,none⟩) zs.length cap∧w.heap[b]? = some (.cells (zs.flatMap enc++sp).toArray T (0,0))∧zs.length*k+sp.length=cap*k∧zs.length≤cap∧cap≤maxLen∧(∀ j,F j↔j=b)∧HoldsK enc k w b 0 zs.toArray:=by
 rcases h with ⟨h1,h2,_⟩ | ⟨b,cap,hv,⟨cs,sp,hb,hr,hl,hle,hc⟩,hF⟩
 · left;exact ⟨h1,by simpa using h2⟩
 · right
   have hlen:=hr.len
   rw [List.length_map] at hlen
   have hcs:cs=zs.flatMap enc:=by
     apply List.ext_getElem?
     intro t
     by_cases ht:t<zs.length*k
     · have hd:t / k<zs.length:=(Nat.div_lt_iff_lt_mul k0).2 ht
       have hj:=Nat.mod_lt t k0
       have hx:zs[t / k]? = some (zs[t / k]'hd):=List.getElem?_eq_getElem hd
       have h1:=flat_get hk zs (t / k) (t % k) _ hx hj
       have h3:t % k<(enc (zs[t / k]'hd)).length:=by rw [hk];exact hj
       obtain ⟨u,hu,hrep⟩:=hr.rep (t / k) (t % k) ((enc (zs[t / k]'hd)).map D.v) (.v ((enc (zs[t / k]'hd))[t % k]'h3)) (by rw [List.getElem?_map,hx];rfl) (by rw [List.getElem?_map,List.getElem?_eq_getElem h3];rfl)
       rw [show t / k*k+t % k=t by rw [Nat.mul_comm];exact Nat.div_add_mod t k] at h1 hu
       cases hrep
       rw [hu,h1,List.getElem?_eq_getElem h3]
     · rw [List.getElem?_eq_none (by omega),List.getElem?_eq_none (by rw [gk hk];omega)]
   subst hcs
   refine ⟨b,cap,sp,by rw [hv,List.length_map],hb,by rw [← hl,List.length_append,gk hk],by rwa [List.length_map] at hle,hc,hF,fun j hj => ?_⟩
   rw [oa hk] at hj ⊢
   have hj':j<(zs.flatMap enc).length:=by simpa using hj
   refine ⟨?_,?_⟩
   · rw [Nat.zero_add,c9 hb,List.getElem?_append_left hj',List.getElem?_eq_getElem hj']
     congr 1
     show _=(zs.flatMap enc).toArray[j]!
     rw [getElem!_pos (zs.flatMap enc).toArray j (by simpa using hj')];simp
   · unfold World.frozen?
     rw [hb]
     simp
theorem pS{P:Program}{ρ:Go.Shelf.Ren}(L:SlLaysF0.n6 P ρ)(k0:0<k)(aE:∀ w,(isAgg (ρ.t 24)).run P w=.ok true w)(zE:∀ w,(Go.sizeOf (ρ.t 24)).run P w=.ok k w)(hk:∀ x,(enc x).length=k)(h1:∀ x,∀ v∈enc x,v.oneCell'=true)
   (cf:α→α→Int) (hO:SWO (ltOf cf)) (g:FuncId) (hg:cM P g=true) (hcmp:∀ x y,Con P g [.agg (enc x).toArray,.agg (enc y).toArray] [] [] fun r _ _=>r=.int .i64 (cf x y)) {T:TypeId} {v:Value} (zs:List α) (hz:zs.length<4611686018427387904) :
   Con P (ρ.f 6) [v,.func (.func g) #[] #[]] [] [aD v T k (sX enc zs)] fun _ ps' hp'=>ps'=[]∧∃ q:List α,q.Perm zs∧(q.Pairwise fun a b=>¬ cf b a<0)∧hp'=[aD v T k (sX enc q)]:=fun w S fp hst=>by
 have hr:=hst.res 0 _ rfl
 rcases aau hk k0 hr with ⟨e1,e2⟩ | ⟨b,cap,sp,hv,hb,hl,hle,hc,hF,hH⟩
 · subst e1 e2
   refine (AnyF.slices_SortFunc_none L none 0 (.func (.func g) #[] #[]) w).mono fun e w' ⟨he,hw⟩ => ?_
   have hbl:Go.Sy.Below w.heap.size w w':=by rw [hw];exact .refl _ _
   exact ⟨_,[],_,S,fp,he,⟨rfl,[],List.Perm.refl _,List.Pairwise.nil,rfl⟩,⟨(fun p hp=>by cases hp),(hst.below hbl).res,(hst.below hbl).lt,hst.dj,(hst.below hbl).slt⟩,Evo.of_below _ _ hbl,fun b hb=>.inl hb⟩
 · have hbl:=lt_of_heap hb
   have eg:∀ args w,(callFunc g args).run P w=.ok (.enter g args) w:=fX hg
   have hlays:CmpLays P g #[] enc k cf b 0 zs.toArray.size w:=fun m os dk _ x y=>by
     have hst0:∀ W:World,St W (fun _=>False) (fun _ _=>False) [] []:=fun W=>⟨fun p hp=>(by cases hp),fun i R hi=>(by simp at hi),fun i hi=>(by simp at hi),fun i j hi=>(by simp at hi),fun b hb=>hb.elim⟩
     refine ((hcmp x y).quiet0 (hst0 (sortWorldK enc k w b 0 m dk os))).mono fun e w' ⟨he,hbw⟩=>⟨he,?_⟩
     obtain ⟨objs,d,rfl⟩:=iB hbw.kit
     have hd:=hbw.drawn
     refine ⟨d-(sortWorldK enc k w b 0 m dk os).drawn,objs,?_⟩
     unfold World.ext grow World.drewN
     have hd':(sortWorldK enc k w b 0 m dk os).drawn≤d:=hd
     simp only [World.mk.injEq,true_and,and_true]
     omega
   have hcall:=AnyQ.slices_SortFunc L k aE zE enc hk h1 cf hO g #[] b 0 cap zs.toArray w eg hlays hH hbl (by simpa using hz)
   rw [show zs.toArray.size=zs.length by simp,← hv] at hcall
   refine hcall.mono fun e w' ⟨he,d',n,os,hp,hs,hw⟩ => ?_
   obtain ⟨p1,_,p3⟩:=hp
   have hsz':d'.toList.length=zs.length:=by simpa using p1
   have hperm:d'.toList.Perm zs:=by
     have e1:(d'.extract 0 zs.length).toList=d'.toList:=by
       rw [Array.toList_extract,List.extract_eq_take_drop,List.drop_zero,List.take_of_length_le (by omega)]
     have e2:(zs.toArray.extract 0 zs.length).toList=zs:=by simp
     rw [e1,e2] at p3;exact p3
   have hsort:d'.toList.Pairwise fun a b=>¬ cf b a<0:=by
     rw [List.pairwise_iff_getElem]
     intro i j hi hj hij
     have hi':i<d'.size:=by simpa using hi
     have hj':j<d'.size:=by simpa using hj
     have:=hs i j (Nat.zero_le _) hij (by omega)
     rw [getElem!_pos d' i hi',getElem!_pos d' j hj'] at this
     unfold ltOf at this
     simpa using this
   have hfl:(flatK enc k d')=(d'.toList.flatMap enc).toArray:=oa hk d'
   have hlen':(d'.toList.flatMap enc).length=zs.length*k:=by rw [gk hk,hsz']
   have hb':w'.heap[b]? = some (.cells (d'.toList.flatMap enc++sp).toArray T (0,0)):=by
     rw [hw]
     show ((w.heap.modify b (onCells (putCells id 0 (flatK enc k d'))))++os)[b]? = _
     rw [Array.getElem?_append_left (by simpa using hbl),Array.getElem?_modify,if_pos rfl,hb,Option.map_some]
     show some (Obj.cells (putCells id 0 (flatK enc k d') (zs.flatMap enc++sp).toArray) T (0,0))=_
     rw [hfl,jQ id (d'.toList.flatMap enc) (zs.flatMap enc) sp (by rw [hlen',gk hk]),List.map_id]
   have hoth:∀ j,j<w.heap.size→j≠b→w'.heap[j]? = w.heap[j]? := fun j hj hne=>by
     rw [hw]
     show ((w.heap.modify b (onCells (putCells id 0 (flatK enc k d'))))++os)[j]? = _
     rw [Array.getElem?_append_left (by simpa using hj),Array.getElem?_modify,if_neg (Ne.symm hne)]
   have hsz:w.heap.size≤w'.heap.size:=by
     rw [hw]
     show _≤((w.heap.modify b (onCells (putCells id 0 (flatK enc k d'))))++os).size
     simp
   have hfb:fp 0 b:=(hF b).2 rfl
   refine ⟨_,[],[aD v T k (sX enc d'.toList)],S,fp,he,⟨rfl,d'.toList,hperm,hsort,rfl⟩,⟨(fun p hp=>by cases hp),fun i R' hi => ?_,fun i hi j hj => ?_,hst.dj,fun j hj=>Nat.lt_of_lt_of_le (hst.slt j hj) hsz⟩,⟨by rw [hw];rfl,by rw [hw];rfl,by rw [hw];rfl,hsz,by rw [hw];exact Nat.le_add_right _ _,fun j hj hx=>hoth j hj fun e=>hx ⟨0,by simp,e ▸ hfb⟩,fun _ h=>h,fun _ h=>.inl h⟩,fun j hj=>.inl hj⟩
   · cases i with
     | succ i=>simp at hi
     | zero =>
       simp only [List.getElem?_cons_zero,Option.some.injEq] at hi
       subst hi
       refine .inr ⟨b,cap,by rw [List.length_map,hsz',hv],⟨d'.toList.flatMap enc,sp,hb',⟨by rw [List.length_map,gk hk],fun i r hi => ?_,fun u hu => ?_,fun i j r d g1 g2 => ?_⟩,by rw [List.length_append,hlen'];exact hl,by rw [List.length_map,hsz'];exact hle,hc⟩,hF⟩
       · rw [List.getElem?_map,Option.map_eq_some_iff] at hi
         obtain ⟨x,_,rfl⟩:=hi;rw [List.length_map,hk]
       · obtain ⟨x,_,hx⟩:=List.mem_flatMap.1 hu;exact h1 x u hx
       · rw [List.getElem?_map,Option.map_eq_some_iff] at g1
         obtain ⟨x,hx,rfl⟩:=g1
         rw [List.getElem?_map,Option.map_eq_some_iff] at g2
         obtain ⟨u,hu,rfl⟩:=g2
         have hj:j<k:=by rw [← hk x];exact (List.getElem?_eq_some_iff.1 hu).1
         exact ⟨u,by rw [flat_get hk _ i j x hx hj];exact hu,.v u⟩
   · have hi':i<[aD v T k (sX enc zs)].length:=by simpa using hi
     exact ⟨Nat.lt_of_lt_of_le (hst.lt i hi' j hj).1 hsz,(hst.lt i hi' j hj).2⟩
end
end Go.Sy

namespace Go.Proofs
open Go.Shelf
def Tryz.sortPr_ren:Go.Shelf.Ren:=⟨fun | 6=>297 | 15=>261 | 14=>330 | 28=>316 | 29=>317 | 20=>360 | 21=>361 | 22=>362 | 23=>363 | 24=>364 | 25=>365 | 26=>366 | 27=>367 | 46=>377 | 47=>351 | 48=>352 | 49=>378 | 50=>379 | 57=>381 | n=>n,fun | 22=>340 | 24=>133 | 25=>345 | 3=>3 | 39=>305 | 0=>0 | 53=>369 | 55=>301 | 4=>4 | 46=>388 | 45=>387 | 50=>65 | 5=>5 | 9=>9 | 66=>417 | 70=>165 | 76=>443 | 77=>444 | n=>n,fun | n=>n⟩
theorem Tryz.sortPr:Go.Proofs.SlLaysF0.n6 Tryz.prog Tryz.sortPr_ren := {
 mixed:=by kernel_rfl
 f6:=⟨Tryz.f297.name,by decide,Tryz.func297.trans (congrArg some (by kernel_rfl))⟩
 f14:=⟨Tryz.f330.name,by decide,Tryz.func330.trans (congrArg some (by kernel_rfl))⟩
 f15:=Tryz.func261.trans (congrArg some (by kernel_rfl))
 f20:=⟨Tryz.f360.name,by decide,Tryz.func360.trans (congrArg some (by kernel_rfl))⟩
 f21:=⟨Tryz.f361.name,by decide,Tryz.func361.trans (congrArg some (by kernel_rfl))⟩
 f22:=⟨Tryz.f362.name,by decide,Tryz.func362.trans (congrArg some (by kernel_rfl))⟩
 f23:=⟨Tryz.f363.name,by decide,Tryz.func363.trans (congrArg some (by kernel_rfl))⟩
 f24:=⟨Tryz.f364.name,by decide,Tryz.func364.trans (congrArg some (by kernel_rfl))⟩
 f25:=⟨Tryz.f365.name,by decide,Tryz.func365.trans (congrArg some (by kernel_rfl))⟩
 f26:=⟨Tryz.f366.name,by decide,Tryz.func366.trans (congrArg some (by kernel_rfl))⟩
 f27:=⟨Tryz.f367.name,by decide,Tryz.func367.trans (congrArg some (by kernel_rfl))⟩
 f28:=Tryz.func316.trans (congrArg some (by kernel_rfl))
 f29:=Tryz.func317.trans (congrArg some (by kernel_rfl))
 f46:=⟨Tryz.f377.name,by decide,Tryz.func377.trans (congrArg some (by kernel_rfl))⟩
 f47:=Tryz.func351.trans (congrArg some (by kernel_rfl))
 f48:=Tryz.func352.trans (congrArg some (by kernel_rfl))
 f49:=⟨Tryz.f378.name,by decide,Tryz.func378.trans (congrArg some (by kernel_rfl))⟩
 f50:=⟨Tryz.f379.name,by decide,Tryz.func379.trans (congrArg some (by kernel_rfl))⟩
 f57:=⟨Tryz.f381.name,by decide,Tryz.func381.trans (congrArg some (by kernel_rfl))⟩
 t0:=Tryz.underlying0
 a0:=Tryz.isAgg0
 z0:=Tryz.sizeOf0
 v0:=Tryz.zeroValue0
 t3:=Tryz.underlying3
 a3:=Tryz.isAgg3
 z3:=Tryz.sizeOf3
 v3:=Tryz.zeroValue3
 t4:=Tryz.underlying4
 a4:=Tryz.isAgg4
 z4:=Tryz.sizeOf4
 v4:=Tryz.zeroValue4
 t5:=Tryz.underlying5
 a5:=Tryz.isAgg5
 z5:=Tryz.sizeOf5
 v5:=Tryz.zeroValue5
 t9:=Tryz.underlying9
 a9:=Tryz.isAgg9
 z9:=Tryz.sizeOf9
 v9:=Tryz.zeroValue9
 t22:=Tryz.underlying340
 a22:=Tryz.isAgg340
 z22:=Tryz.sizeOf340
 v22:=Tryz.zeroValue340
 t25:=Tryz.underlying345
 a25:=Tryz.isAgg345
 z25:=Tryz.sizeOf345
 v25:=Tryz.zeroValue345
 t39:=Tryz.underlying305
 a39:=Tryz.isAgg305
 z39:=Tryz.sizeOf305
 v39:=Tryz.zeroValue305
 t45:=Tryz.underlying387
 a45:=Tryz.isAgg387
 z45:=Tryz.sizeOf387
 v45:=Tryz.zeroValue387
 t46:=Tryz.underlying388
 a46:=Tryz.isAgg388
 z46:=Tryz.sizeOf388
 v46:=Tryz.zeroValue388
 t50:=Tryz.underlying65
 a50:=Tryz.isAgg65
 z50:=Tryz.sizeOf65
 v50:=Tryz.zeroValue65
 t53:=Tryz.underlying369
 a53:=Tryz.isAgg369
 z53:=Tryz.sizeOf369
 v53:=Tryz.zeroValue369
 t55:=Tryz.underlying301
 a55:=Tryz.isAgg301
 z55:=Tryz.sizeOf301
 v55:=Tryz.zeroValue301
 t66:=Tryz.underlying417
 a66:=Tryz.isAgg417
 z66:=Tryz.sizeOf417
 v66:=Tryz.zeroValue417
 t70:=Tryz.underlying165
 a70:=Tryz.isAgg165
 z70:=Tryz.sizeOf165
 v70:=Tryz.zeroValue165
 t76:=Tryz.underlying443
 a76:=Tryz.isAgg443
 z76:=Tryz.sizeOf443
 v76:=Tryz.zeroValue443
 t77:=Tryz.underlying444
 a77:=Tryz.isAgg444
 z77:=Tryz.sizeOf444
 v77:=Tryz.zeroValue444 }
end Go.Proofs

namespace Go.Sy
open Go.RowKit
section
variable {P:Program} {n:Fr} {env:Env} {ps:List Per} {hp:List Res} {d:Option Tmp} {ty:TypeId} {pos:String} {af:Array Edge} {gd:Option (Nat × Bool)}
theorem oC{T E:TypeId}{x:Operand}{m sz:Nat}{b:Nat}(hT:P.underlying T=some (.array m E))(hE:((P.info? E).map fun j=>j.size)=some sz)(hx:ev env x=some (true,.pointer (some ⟨b,0,none⟩)))(hm:0<m) :
   Quiet P n ⟨d,.slice T x none none none,ty,pos,af,gd⟩ ⟨env,ps,hp⟩ (.slice (some ⟨b,0,none⟩) m m):=fun w S fp a hst he hn=>by
 have h1:=he.val hx rfl
 obtain ⟨j,hj,hjs⟩:=Option.map_eq_some_iff.1 hE
 have:(execOp a.eval ⟨d,.slice T x none none none,ty,pos,af,gd⟩).run P w=.ok (.value (.slice (some ⟨b,0,none⟩) m m)) w:=by
   unfold execOp;dsimp only;simp only [Option.map_none];rw [h1]
   show ((Instr.sliceAt T (.pointer (some ⟨b,0,none⟩)) none none none).bind fun r=>Sem.pure (Next.value r)).run P w=_
   have hm0:¬ m=0:=by omega
   have:(Instr.sliceAt T (.pointer (some ⟨b,0,none⟩)) none none none).run P w=.ok (.slice (some ⟨b,0,none⟩) m m) w:=by
     unfold Instr.sliceAt
     simp [run_underlying hT,Instr.sureAddr,asAddr,Instr.sliceBounds,Instr.sliceBound,sizeOf,typeInfo,hj,Addr.add,hm0]
   rw [Sem.run_bind',this];rfl
 rw [this];exact bu _ _
end
end Go.Sy
namespace Go.Proofs.YtfkcmbonmpcbfaaGreat
open Go.RowKit Go.Lp Go.Sy Go.Lv Go.Sort
open Go.Proofs.Tryz
attribute [local irreducible] aL aB awp aC fwp Quiet
def cmpL:List Int→List Int→Int
 | [],[]=>0
 | [],_::_ => -1
 | _::_,[]=>1
 | x::xs,y::ys=>if jX x y≠0 then jX x y else cmpL xs ys
theorem qU(xs ys:Sl Int):Con Tryz.prog 242 [.slice xs.ad xs.l.length xs.cap,.slice ys.ad ys.l.length ys.cap] [ShF gl xs,ShF gl ys] [] fun r _ _=>r=.int .i64 (cmpL xs.l ys.l):=by
 refine EN2 Tryz.func242 rfl (aSR (aA rfl (aNs (aSR (aM rfl (aU rfl (aY Tryz.underlying26 rfl) (aM rfl (aNn (ao (cA (.of (aF 0 rfl)) (fun hlx=>(cA (.of (aF 1 rfl)) (fun hly=>(aR [0,1,9,10,11] [1,0] [] (fun (k:Nat) s=>(k≤xs.l.length∧k≤ys.l.length∧cmpL xs.l ys.l=cmpL (xs.l.drop k) (ys.l.drop k))∧s=⟨[(0,true,.slice xs.ad xs.l.length xs.cap),(1,true,.slice ys.ad ys.l.length ys.cap),(9,true,.slice xs.ad xs.l.length xs.cap),(10,true,.int .i64 xs.l.length),(11,true,.int .i64 k)],[ShF gl xs,ShF gl ys],[]⟩) (fun k=>xs.l.length-k) rfl (⟨0,⟨Nat.zero_le _,Nat.zero_le _,rfl⟩,rfl⟩) ?_))))))))))))))
 rintro k s ⟨⟨hk,hky,hc⟩,rfl⟩
 refine aSR (aU rfl (bg rfl rfl) (aNs ?_))
 refine ah _ rfl (fun h1 => ?_) (fun h1 => ?_)
 ·skip
  have hk':k<xs.l.length:=by simpa using h1
  obtain ⟨x,hx⟩:∃ x,xs.l[k]? = some x:=⟨xs.l[k]'hk',by simp⟩
  have ex:=List.drop_eq_getElem_cons hk'
  rw [show xs.l[k]=x by rw [List.getElem?_eq_getElem hk'] at hx;exact Option.some.inj hx] at ex
  refine ai (an (aq (ao (aSR (aM rfl (UI Tryz.underlying26 tk3 0 rfl rfl rfl rfl rfl (aJ hx) rfl rfl (fun ⟨b3_1,o3_1⟩ => ?_)))))))
  refine US 0 tk3 0 rfl rfl rfl rfl rfl (aA rfl (aA rfl (aNs (aSR (aM rfl (aM rfl (aU rfl (aY Tryz.underlying26 rfl) (aU rfl (dR rfl rfl) (aNn ?_)))))))))
  refine ah _ rfl (fun h2 => ?_) (fun h2 => ?_)
  ·skip
   refine aSR (aA rfl (aNn (aj (aN (bH (aN (aN (bH (aN (FZ1 [] Tryz.results242 rfl ?_))))))))))
   rw [hc,ex,show ys.l.drop k=[] from List.drop_of_length_le (by simpa using h2)];rfl
  ·skip
   have hk2:k<ys.l.length:=by simp at h2;omega
   obtain ⟨y,hy⟩:∃ y,ys.l[k]? = some y:=⟨ys.l[k]'hk2,by simp⟩
   have ey:=List.drop_eq_getElem_cons hk2
   rw [show ys.l[k]=y by rw [List.getElem?_eq_getElem hk2] at hy;exact Option.some.inj hy] at ey
   refine ai (an (aSR (aM rfl (aM rfl (UI Tryz.underlying26 tk3 2 rfl rfl rfl rfl rfl (aJ hy) rfl rfl (fun ⟨b6_2,o6_2⟩=>(US 0 tk3 0 rfl rfl rfl rfl rfl (aA rfl (aNn (aSR (aM rfl (aM rfl (aU rfl (Q0 rfl (ku _ _)) ?_)))))))))))))
   refine aA rfl (aNn (aSR (aM rfl (aU rfl (dS rfl rfl) (aNn ?_)))))
   refine ah _ rfl (fun h3 => ?_) (fun h3 => ?_)
   ·skip
    refine aSR (aM rfl (aA rfl (aNn (aj (bH (aN (aN (bH (aN (FZ1 [] Tryz.results242 rfl ?_))))))))))
    rw [hc,ex,ey];unfold cmpL;rw [if_pos (by simpa using h3)]
   ·skip
    refine ai (bo (an (ae (aU rfl (aO rfl rfl (by omega)) (aM rfl (aNn ?_))))))
    refine ⟨[0,1,9,10,11],[1,0],[],rfl,?_⟩
    refine ⟨k+1,⟨⟨by omega,by omega,?_⟩,rfl⟩,by omega⟩
    rw [hc,ex,ey];conv=>lhs;unfold cmpL
    rw [if_neg (by simpa using h3)]
 ·skip
  have hkx:k=xs.l.length:=by simp at h1;omega
  refine aS (aV (aV (ba (an (aq (aSR (aM rfl (aU rfl (aY Tryz.underlying26 rfl) (aM rfl (aU rfl (aY Tryz.underlying26 rfl) (aU rfl (bg rfl rfl) (aNn ?_))))))))))))
  refine ah _ rfl (fun h4 => ?_) (fun h4 => ?_)
  ·skip
   refine aSR (aA rfl (aNn (aj (aN (FZ1 [] Tryz.results242 rfl ?_)))))
   have hk3:k<ys.l.length:=by simp at h4;omega
   rw [hc,List.drop_of_length_le (by omega),List.drop_eq_getElem_cons hk3];rfl
  ·skip
   refine ai (an (aSR (aA rfl (aNn (aj (FZ1 [] Tryz.results242 rfl ?_))))))
   rw [hc,List.drop_of_length_le (by omega),List.drop_of_length_le (by simp at h4;omega)];rfl
theorem wh{ps:List Per}{b:Nat}{x y:Int}(h:At b 0 [.v (kI x),.v (kI y)]∈ps):Ent ps (ShF gl ⟨some ⟨b,0,none⟩,2,[x,y]⟩):=fun w S hp=>by
 obtain ⟨hS,hc⟩:=hp _ h
 obtain ⟨u0,a1,_,a3⟩:=hc 0 _ rfl
 obtain ⟨u1,b1,_,b3⟩:=hc 1 _ rfl
 cases a3;cases b3
 refine ea.sl b 0 2 1 [gl x,gl y] (fun i _=>if i=0 then kI x else kI y) hS (Nat.le_refl 2) (by decide) (fun i r hr => ?_) (fun i j r d hr hd => ?_) (fun i j r d hr hd => ?_)
 · match i with
   | 0=>cases hr;rfl
   | 1=>cases hr;rfl
   | i+2=>simp at hr
 · match i with
   | 0=>cases hr;match j with
     | 0=>cases hd;exact ⟨a1,rfl⟩
     | j+1=>simp [gl] at hd
   | 1=>cases hr;match j with
     | 0=>cases hd;exact ⟨b1,rfl⟩
     | j+1=>simp [gl] at hd
   | i+2=>simp at hr
 · match i with
   | 0=>cases hr;match j with
     | 0=>cases hd;exact .v _
     | j+1=>simp [gl] at hd
   | 1=>cases hr;match j with
     | 0=>cases hd;exact .v _
     | j+1=>simp [gl] at hd
   | i+2=>simp at hr
def l4(a b:Int × Int):Int:=cmpL [a.1,a.2] [b.1,b.2]
theorem pM(a b:Int × Int):l4 a b<0↔a.1<b.1∨(a.1=b.1∧a.2<b.2):=by
 unfold l4 cmpL cmpL cmpL
 unfold jX
 split<;>split<;>(repeat split)<;>omega
theorem j4(a b:Int × Int):ltOf l4 a b=decide (a.1<b.1∨(a.1=b.1∧a.2<b.2)):=by
 unfold ltOf
 exact decide_eq_decide.2 (pM _ _)
theorem yU:SWO (ltOf l4) where
 irrefl x:=by rw [j4,decide_eq_false_iff_not];omega
 trans x y z h1 h2:=by rw [j4,decide_eq_true_eq] at *;omega
 ntrans x y z h1 h2:=by
   rw [j4,decide_eq_false_iff_not] at *
   omega
theorem xp(a b:Int × Int):Con Tryz.prog 241 [.agg #[.int .i64 a.1,.int .i64 a.2],.agg #[.int .i64 b.1,.int .i64 b.2]] [] [] fun r _ _=>r=.int .i64 (l4 a b):=by
 refine EN2 Tryz.func241 rfl (aSR (LT rfl (bz rfl rfl rfl (fun b0_0=>(aHN ?_)))))
 refine LT rfl (bz rfl rfl rfl (fun b0_1=>(aHN ?_)))
 refine aA rfl (aNs (bd 0 rfl rfl (bd 1 rfl rfl ?_)))
 show awp _ _ _ _ ⟨_,[_,_],[_,_]⟩
 refine DR [] 4 (bV 0 rfl rfl (oC (m:=2) (sz:=1) Tryz.underlying133 (by kernel_rfl) rfl (by decide)) (bV 1 rfl rfl (oC (m:=2) (sz:=1) Tryz.underlying133 (by kernel_rfl) rfl (by decide)) (bV 2 rfl rfl (QC rfl (fun w S fp hst=>((qU ⟨some ⟨b0_0,0,none⟩,2,[a.1,a.2]⟩ ⟨some ⟨b0_1,0,none⟩,2,[b.1,b.2]⟩).pre2 (ps:=[At b0_0 0 [.v (kI a.1),.v (kI a.2)],At b0_1 0 [.v (kI b.1),.v (kI b.2)]]) (wh (.head _)) (wh (.tail _ (.head _)))).quiet2 (aF 1 rfl) (aF 0 rfl) hst)) (bV 3 rfl rfl (bB rfl) (BN (an (aj (FZ1 [] Tryz.results241 rfl ?_))))))))
 rfl
theorem uK(v:Value)(zs:List (Int × Int))(hz:zs.length≤1000000):Con Tryz.prog 297 [v,.func (.func 241) #[] #[]] [] [aD v 133 2 (zs.map ow)]
   fun _ ps hp=>ps=[]∧∃ q:List (Int × Int),q.Perm zs∧(q.Pairwise fun a b=>¬ l4 b a<0)∧hp=[aD v 133 2 (q.map ow)] :=
 pS (enc:=fun k:Int × Int=>[.int .i64 k.1,.int .i64 k.2]) Tryz.sortPr (by decide) Tryz.isAgg133 Tryz.sizeOf133 (fun _=>rfl) (fun x v hv=>by simp at hv;rcases hv with rfl | rfl<;>rfl) l4 yU 241 (by kernel_rfl) (fun x y=>xp x y) (T:=133) (v:=v) zs (by omega)
def jK(a b:Int × Int):Prop:=a.1<b.1∨(a.1=b.1∧a.2<b.2)
theorem dw.perm{α β:Type}{m:α→Option β}{l q:List α}(h:dw m l)(hp:q.Perm l):dw m q:=⟨hp.nodup_iff.2 h.nd,fun k=>hp.mem_iff.trans (h.iff k)⟩
theorem abr{β:Type}{m:Int→Option β}{q:List Int}(h:dw m q)(hs:q.Pairwise fun a b=>a≤b):q.Pairwise fun a b=>a<b :=
 (hs.and h.nd).imp fun ⟨h1,h2⟩=>by omega
theorem aac{β:Type}{m:Int × Int→Option β}{q:List (Int × Int)}(h:dw m q)(hs:q.Pairwise fun a b=>¬ l4 b a<0):q.Pairwise jK :=
 (hs.and h.nd).imp fun {a b} ⟨h1,h2⟩=>by
   rw [pM] at h1
   unfold jK
   have:¬ (a.1=b.1∧a.2=b.2):=fun e=>h2 (Prod.ext e.1 e.2)
   omega
theorem l7{β:Type}{m:Int→Option β}{f:FuncId}{bx:Nat}{p:Per}{A:Res}(hf:cM Tryz.prog f=true)(h:ItC f bx p A kI m)(hB:∀ l:List Int,l.Nodup→(∀ k∈l,(m k).isSome=true)→l.length≤1000000) :
   Con Tryz.prog 74 [.func (.func f) #[] #[.pointer (some ⟨bx,0,none⟩)]] [p] [A] fun r ps hp=>ps=[]∧∃ ks:List Int,dw m ks∧ks.Pairwise (fun a b=>a<b)∧hp=[A,aD r 3 1 (ks.map gl)]:=by
 refine EN1 Tryz.func74 rfl (aSR (aA rfl (aNn (aSR (aM rfl (LF rfl (EC [0] [0] rfl (qR hf h hB) ?_)))))))
 rintro r1 _ _ ⟨rfl,seen,hkp,rfl⟩
 refine aST ?_
 refine aA rfl (aNn (aSR ?_))
 have hsl:seen.reverse.length≤1000000:=hB _ ((List.reverse_perm seen).nodup_iff.2 hkp.nd) fun k hk=>(hkp.iff k).1 (List.mem_reverse.1 hk)
 refine aM rfl (LF rfl (EC [] [1] rfl (jv (v:=r1) (T:=3) seen.reverse (by omega)) ?_))
 rintro r2 _ _ ⟨rfl,rfl⟩
 refine aST ?_
 refine aNn (aSR (aM rfl (aA rfl (aNn (aj (FZ1 [0,1] Tryz.results74 rfl ?_))))))
 have hpm:(ed seen.reverse).Perm seen:=(List.mergeSort_perm _ _).trans (List.reverse_perm _)
 have hk2:=hkp.perm hpm
 exact ⟨rfl,ed seen.reverse,hk2,abr hk2 ((List.pairwise_mergeSort (fun a b c h1 h2=>by simp at *;omega) (fun a b=>by simp;omega) _).imp fun h=>by simpa using h),rfl⟩
theorem sH{β:Type}{m:Int × Int→Option β}{f:FuncId}{bx:Nat}{p:Per}{A:Res}(hf:cM Tryz.prog f=true)(h:ItC f bx p A cj m)(hB:∀ l:List (Int × Int),l.Nodup→(∀ k∈l,(m k).isSome=true)→l.length≤1000000) :
   Con Tryz.prog 239 [.func (.func f) #[] #[.pointer (some ⟨bx,0,none⟩)],.func (.func 241) #[] #[]] [p] [A] fun r ps hp=>ps=[]∧∃ ks:List (Int × Int),dw m ks∧ks.Pairwise jK∧hp=[A,aD r 133 2 (ks.map ow)]:=by
 refine EN2 Tryz.func239 rfl (aSR (aA rfl (aNn (aSR (aM rfl (LF rfl (EC [0] [0] rfl (qS hf h hB) ?_)))))))
 rintro r1 _ _ ⟨rfl,seen,hkp,rfl⟩
 refine aST ?_
 refine aA rfl (aNn (aSR ?_))
 have hsl:seen.reverse.length≤1000000:=hB _ ((List.reverse_perm seen).nodup_iff.2 hkp.nd) fun k hk=>(hkp.iff k).1 (List.mem_reverse.1 hk)
 refine aM rfl (aM rfl (LF rfl (EC [] [1] rfl (uK r1 seen.reverse hsl) ?_)))
 rintro r2 _ _ ⟨rfl,q,hq,hs,rfl⟩
 refine aST ?_
 refine aNn (aSR (aM rfl (aA rfl (aNn (aj (FZ1 [0,1] Tryz.results239 rfl ?_))))))
 have hk2:=hkp.perm (hq.trans (List.reverse_perm _))
 exact ⟨rfl,q,hk2,aac hk2 hs,rfl⟩
end Go.Proofs.YtfkcmbonmpcbfaaGreat

namespace Go.Sy
open Go.RowKit Go.Lp
section
variable {P:Program} {n:Fr} {env:Env} {ps:List Per} {hp:List Res} {d:Option Tmp} {ty:TypeId} {pos:String} {af:Array Edge} {gd:Option (Nat × Bool)}
abbrev tK:UInt8→List D:=fun u=>[.v (.int .u8 u.toNat)]
end
end Go.Sy
namespace Go.Proofs.YtfkcmbonmpcbfaaGreat
open Go.RowKit Go.Lp Go.Sy
end Go.Proofs.YtfkcmbonmpcbfaaGreat

