/- Parts of the proof, in build order. No condition. -/
import Derived.Test.YtgkbbdgklpabpaaGreatDoorSc05
import Derived.Test.YtgkbbdgklpabpaaGreatDoorSc06
import Derived.MapKept
import Derived.Test.YtgkbbdgklpabpaaGreatDoorSc04
import Derived.Laws.StructEq
import Derived.Laws.Small
import Derived.ChangeKeysEq
import Derived.DeepKeys3
set_option linter.unusedSimpArgs false
set_option linter.unusedVariables false
set_option maxHeartbeats 20000000
set_option maxRecDepth 20000
namespace Go.Sy
open Go.RowKit
structure Fu (t:Nat) (m:List Nat) (X:Prop):Prop where run:X
structure ab9 (Y:Prop):Prop where get:Y
def EvC(c:Bool)(env:Env)(x:Operand)(v:Value):Prop:=c=true→ev env x=some (true,v)
def Gd(c a:Bool):Prop:=c=true→a=true
def QuS(cd:Nat)(c:Bool)(P:Program)(n:Fr)(o:Oper)(s:Sta)(v:Value):Prop:=c=true→Quiet P n o s v
def QuC(cd:Nat)(c:Bool)(P:Program)(n:Fr)(o:Oper)(s:Sta)(K:Value→Prop):Prop:=∃ v,QuS cd c P n o s v∧K v
section
variable {c a b:Bool} {env:Env} {x:Operand} {v:Value}
theorem gc0:Gd c c:=id
theorem gc1{y:Bool}(h:Gd a y):Gd (a && b) y:=fun hc=>h (gL hc)
theorem ec0(h:ev env x=some (true,v)):EvC c env x v:=fun _=>h
theorem ec1(h:ev env x=some (a,v))(g:Gd c a):EvC c env x v:=fun hc=>ah h (g hc)
end
def acE(env:Env):Op→Option (Value × Bool)
 | .move x=>(ev env x).map fun r=>(r.2,r.1)
 | .assign x=>(ev env x).map fun r=>(r.2,r.1)
 | .nilCheck x=>match ev env x with
   | some (g,.pointer (some a))=>some (.pointer (some a),g)
   | _=>none
 | .unOp .not _ x=>match ev env x with
   | some (g,.bool b)=>some (.bool (!b),g)
   | _=>none
 | .extract x i=>match ev env x with
   | some (g,.tuple vs)=>(vs[i]?).map fun v=>(v,g)
   | _=>none
 | .binOp f _ x y _=>match ev env x,ev env y with
   | some (g,.int k a),some (h,.int l b)=>bif k == l then (match f with
     | .lss=>some (.bool (decide (a<b)),g && h)
     | .leq=>some (.bool (decide (a≤b)),g && h)
     | .gtr=>some (.bool (decide (b<a)),g && h)
     | .geq=>some (.bool (decide (b≤a)),g && h)
     | .eql=>some (.bool (decide (a=b)),g && h)
     | .neq=>some (.bool (!decide (a=b)),g && h)
     | _=>none) else none
   | some (g,.string a),some (h,.string b)=>match f with
     | .eql=>some (.bool (a.toList == b.toList),g && h)
     | .neq=>some (.bool (!(a.toList == b.toList)),g && h)
     | _=>none
   | _,_=>none
 | _=>none
theorem gcA{c a b:Bool}(h:Gd c a)(k:Gd c b):Gd c (a && b):=fun hc=>by rw [h hc,k hc];rfl
theorem gcT{c:Bool} : Gd c true:=fun _=>rfl
theorem acG{cd:Nat}{c g:Bool}{P:Program}{n:Fr}{s:Sta}{d:Option Tmp}{op:Op}{ty:TypeId}{pos:String}{af:Array Edge}{gd:Option (Nat × Bool)}{v:Value}(h:acE s.env op=some (v,g))(hg:Gd c g):QuS cd c P n ⟨d,op,ty,pos,af,gd⟩ s v:=fun hc=>by
 have hg:=hg hc
 subst hg
 unfold acE at h
 split at h
 · obtain ⟨⟨g,u⟩,hx,h⟩:=Option.map_eq_some_iff.1 h;cases h;exact bo hx
 · obtain ⟨⟨g,u⟩,hx,h⟩:=Option.map_eq_some_iff.1 h;cases h;exact dM hx
 · split at h
   · rename_i hx;cases h;exact gW hx
   · cases h
 · split at h
   · rename_i hx;cases h;exact eJ hx
   · cases h
 · split at h
   · rename_i hx;obtain ⟨u,hi,h⟩:=Option.map_eq_some_iff.1 h;cases h;exact cT hx hi
   · cases h
 · split at h
   · rename_i g k a h' l b hx hy
     cases hk:(k == l) with
     | false=>rw [hk] at h;cases h
     | true =>
       rw [hk] at h
       obtain rfl:k=l:=by simpa using hk
       simp only [cond_true] at h
       split at h<;>(first | (cases h;done) | (simp only [Option.some.injEq,Prod.mk.injEq,Bool.and_eq_true] at h;obtain ⟨rfl,rfl,rfl⟩:=h))
       · exact cf hx hy
       · exact lY hx hy
       · exact eH hx hy
       · exact eT hx hy
       · exact dw hx hy
       · exact fg hx hy
   · rename_i g a h' b hx hy
     split at h<;>(first | (cases h;done) | (simp only [Option.some.injEq,Prod.mk.injEq,Bool.and_eq_true] at h;obtain ⟨rfl,rfl,rfl⟩:=h))
     · exact zG hx hy
     · exact zK hx hy
   · cases h
 · cases h
section
variable {cd:Nat} {c:Bool} {P:Program} {n:Fr} {s:Sta} {d:Option Tmp} {ty:TypeId} {pos:String} {af:Array Edge} {gd:Option (Nat × Bool)} {x y:Operand} {v:Value} {b:Nat} {U T t':TypeId} {i j:Int} {k:IntKind}
theorem ac9{e o:Nat}(hx:EvC c s.env x (.pointer (some ⟨b,o,none⟩)))(hf:jG P T e=some cd):QuS cd c P n ⟨d,.fieldAddr T x e,ty,pos,af,gd⟩ s (.pointer (some ⟨b,o+cd,none⟩)):=fun hc=>lX hf (hx hc)
theorem acJ{o:Nat}{cs:List Value}(h0:cd % 3=0)(hi:s.hp[cd / 3 % 16]? = some (Box b T cs))(hx:EvC c s.env x (.pointer (some ⟨b,o,none⟩)))(hk:tyk P U=some (Nat.beq (cd / 1536 % 2) 1,cd / 3072+1))(hv:rdC (Nat.beq (cd / 1536 % 2) 1) (cd / 3072+1) cs o=some v) :
   QuS cd c P n ⟨d,.load U x,ty,pos,af,gd⟩ s v:=fun hc=>fq _ hk (hx hc) hi hv
theorem acI{p:Nat}{row:List D}(h0:cd % 3=1)(hi:s.ps[cd / 3 % 16]? = some (At b p row))(hx:EvC c s.env x (.pointer (some ⟨b,p+cd / 48 % 32,none⟩)))(hk:tyk P U=some (Nat.beq (cd / 1536 % 2) 1,cd / 3072+1))(hv:rdD (Nat.beq (cd / 1536 % 2) 1) (cd / 3072+1) row (cd / 48 % 32)=some v) :
   QuS cd c P n ⟨d,.load U x,ty,pos,af,gd⟩ s v:=fun hc=>cm hk (hx hc) (.of (ax _ hi)) hv
theorem acK{a:Bool}{p:Nat}{row:List D}(h0:cd % 3=2)(hi:s.ps[cd / 3 % 16]? = some (cnd a (At b p row)))(hg:Gd c a)(hx:EvC c s.env x (.pointer (some ⟨b,p+cd / 48 % 32,none⟩)))(hk:tyk P U=some (Nat.beq (cd / 1536 % 2) 1,cd / 3072+1))(hv:rdD (Nat.beq (cd / 1536 % 2) 1) (cd / 3072+1) row (cd / 48 % 32)=some v) :
   QuS cd c P n ⟨d,.load U x,ty,pos,af,gd⟩ s v:=fun hc=>cq hk (hx hc) (ax _ hi) (hg hc) hv
theorem acH{b1 b2 gx:Bool}(hx:EvC c s.env x (.bool b1))(hy:ev s.env y=some (gx,.bool b2))(hg:b1=true→Gd c gx):QuS cd c P n ⟨d,.pick x y (.const (.bool false)),ty,pos,af,gd⟩ s (.bool (b1 && b2)):=fun hc=>dv (hx hc) hy fun h=>hg h hc
theorem ada{b1 b2 gx:Bool}(hx:EvC c s.env x (.bool b1))(hy:ev s.env y=some (gx,.bool b2))(hg:b1=false→Gd c gx):QuS cd c P n ⟨d,.pick x (.const (.bool true)) y,ty,pos,af,gd⟩ s (.bool (b1 || b2)):=fun hc=>eX (hx hc) hy fun h=>hg h hc
theorem acF(hx:EvC c s.env x (.int .i64 i))(hy:EvC c s.env y (.int .i64 j))(h:c=true → -9223372036854775808≤i+j∧i+j≤9223372036854775807):QuS cd c P n ⟨d,.binOp .add T x y t',ty,pos,af,gd⟩ s (.int .i64 (i+j)):=fun hc=>bz (hx hc) (hy hc) (h hc)
theorem acO(hx:EvC c s.env x (.int .i64 i))(hy:EvC c s.env y (.int .i64 j))(h:c=true → -9223372036854775808≤i-j∧i-j≤9223372036854775807):QuS cd c P n ⟨d,.binOp .sub T x y t',ty,pos,af,gd⟩ s (.int .i64 (i-j)):=fun hc=>lB (hx hc) (hy hc) (h hc)
theorem acN(hx:EvC c s.env x (.int .i64 i))(hy:EvC c s.env y (.int .i64 j))(h:c=true → -9223372036854775808≤i*j∧i*j≤9223372036854775807):QuS cd c P n ⟨d,.binOp .mul T x y t',ty,pos,af,gd⟩ s (.int .i64 (i*j)):=fun hc=>abO (hx hc) (hy hc) (h hc)
theorem abS{ad:Option Addr}{m e:Nat}(hx:EvC c s.env x (.slice ad m e))(hT:P.underlying T=some (.slice cd)):QuS cd c P n ⟨d,.call ⟨.builtin .len,#[x],#[T]⟩,ty,pos,af,gd⟩ s (.int .i64 m):=fun hc=>bk hT (hx hc)
theorem abT{p:ByteArray}(hx:EvC c s.env x (.string p))(hT:P.underlying T=some .string):QuS cd c P n ⟨d,.call ⟨.builtin .len,#[x],#[T]⟩,ty,pos,af,gd⟩ s (.int .i64 p.size):=fun hc=>sP hT (hx hc)
theorem acM{ts:Array TypeId}(hx:EvC c s.env x (.int k i))(hy:EvC c s.env y (.int k j)):QuS cd c P n ⟨d,.call ⟨.builtin .min,#[x,y],ts⟩,ty,pos,af,gd⟩ s (.int k (min i j)):=fun hc=>acA (hx hc) (hy hc)
theorem acL{ts:Array TypeId}(hx:EvC c s.env x (.int k i))(hy:EvC c s.env y (.int k j)):QuS cd c P n ⟨d,.call ⟨.builtin .max,#[x,y],ts⟩,ty,pos,af,gd⟩ s (.int k (max i j)):=fun hc=>zE (hx hc) (hy hc)
end
section
variable {P:Program} {n:Fr} {ops:Array Oper} {V W Z:List Nat} {Q:Exit→Sta→Prop} {env:Env} {ps:List Per} {hp hp':List Res} {e cd d kk:Nat} {op:Op} {ty:TypeId} {pos:String} {af:Array Edge} {gd:Option (Nat × Bool)} {v:Value} {rest:List Oper} {c:Bool} {L:Array Bool} {t:Nat} {m:List Nat}
def ixR(ops:Array Oper)(kk e:Nat):Nat:=(ops.size-(kk+1)+e / 4) % ops.size
def nxt:Nat→List Nat→Option Nat
 | t,_::_=>some t
 | t+1,[]=>some t
 | 0,[]=>none
theorem fuX{X Y:Prop}{u:Nat}(h:Y→X)(hm:nxt t m=some u)(k:Fu u m Y):Fu t m X:=⟨h k.run⟩
theorem fuZ{X:Prop}(k:ab9 X):Fu 0 [] X:=⟨k.get⟩
theorem fuQ{o:Oper}{s:Sta}{K:Value→Prop}(hq:QuS cd c P n o s v)(k:Fu t m (K v)):Fu t m (QuC cd c P n o s K):=⟨⟨v,hq,k.run⟩⟩
theorem fL1(h:okU ops env n.size ⟨some d,op,ty,pos,af,gd⟩=true)(k:Fu t m (QuC cd true P n ⟨some d,op,ty,pos,af,gd⟩ ⟨env,ps,hp⟩ fun v=>aL P n ops Q rest ⟨(d,true,v)::env,ps,hp⟩)):Fu t (cd::m) (aL P n ops Q (⟨some d,op,ty,pos,af,gd⟩::rest) ⟨env,ps,hp⟩) :=
 let ⟨⟨_,hq,hk⟩⟩:=k; ⟨yc true (fi h).1 (fi h).2 hq hk⟩
theorem fL2(hc:guardOf ops env ⟨some d,op,ty,pos,af,gd⟩=some c)(hd:fits n (some d)=true)(k:Fu t m (QuC cd c P n ⟨some d,op,ty,pos,af,gd⟩ ⟨env,ps,hp⟩ fun v=>aL P n ops Q rest ⟨(d,c,v)::env,ps,hp⟩)):Fu t (cd::m) (aL P n ops Q (⟨some d,op,ty,pos,af,gd⟩::rest) ⟨env,ps,hp⟩) :=
 let ⟨⟨_,hq,hk⟩⟩:=k; ⟨yc c hc hd hq hk⟩
theorem fL3{x y:Operand}{U T:TypeId}{b o:Nat}{cs cs':List Value}{vy:Value}(hx:ev env x=some (true,.pointer (some ⟨b,o,none⟩)))(hy:ev env y=some (true,vy))(hi:hp[cd / 3 % 16]? = some (Box b T cs))(hk:tyk P U=some (Nat.beq (cd / 1536 % 2) 1,cd / 3072+1))(hc:guardOf ops env ⟨none,.store U x y,ty,pos,af,gd⟩=some true)
   (hw:wrL (cd / 3072+1) cs o vy.cells.toList=some cs') (hh:hp.set (cd / 3 % 16) (Box b T cs')=hp') (k:Fu t m (aL P n ops Q rest ⟨env,ps,hp'⟩)):Fu t (cd::m) (aL P n ops Q (⟨none,.store U x y,ty,pos,af,gd⟩::rest) ⟨env,ps,hp⟩) :=
 ⟨aT hc (bX _ hk hx hy hi hw (hh ▸ k.run))⟩
theorem fB1(h0:e % 8=1)(hi:ops[ixR ops kk (e / 2)]? = some ⟨some d,op,ty,pos,af,gd⟩)(h:okU ops env n.size ⟨some d,op,ty,pos,af,gd⟩=true)(hf:cC ops V L (ixR ops kk (e / 2))=true)
   (k:Fu t m (QuC cd true P n ⟨some d,op,ty,pos,af,gd⟩ ⟨env,ps,hp⟩ fun v=>aB P n ops V Q kk (L.setIfInBounds (ixR ops kk (e / 2)) true) ⟨(d,true,v)::env,ps,hp⟩)):Fu t (e::cd::m) (aB P n ops V Q (kk+1) L ⟨env,ps,hp⟩) :=
 let ⟨⟨_,hq,hk⟩⟩:=k; ⟨vU _ hi hf true (fi h).1 (fi h).2 hq hk⟩
theorem ac2(h0:e % 2=0)(hi:ops[ixR ops kk 0]? = some ⟨some d,op,ty,pos,af,gd⟩)(h:okU ops env n.size ⟨some d,op,ty,pos,af,gd⟩=true)(hf:cC ops V L (ixR ops kk 0)=true)
   (k:Fu t m (QuC (e / 2) true P n ⟨some d,op,ty,pos,af,gd⟩ ⟨env,ps,hp⟩ fun v=>aB P n ops V Q kk (L.setIfInBounds (ixR ops kk 0) true) ⟨(d,true,v)::env,ps,hp⟩)):Fu t (e::m) (aB P n ops V Q (kk+1) L ⟨env,ps,hp⟩) :=
 let ⟨⟨_,hq,hk⟩⟩:=k; ⟨vU _ hi hf true (fi h).1 (fi h).2 hq hk⟩
theorem fB2(h0:e % 8=1)(hi:ops[ixR ops kk (e / 2)]? = some ⟨some d,op,ty,pos,af,gd⟩)(hc:guardOf ops env ⟨some d,op,ty,pos,af,gd⟩=some c)(hd:fits n (some d)=true)(hf:cC ops V L (ixR ops kk (e / 2))=true)
   (k:Fu t m (QuC cd c P n ⟨some d,op,ty,pos,af,gd⟩ ⟨env,ps,hp⟩ fun v=>aB P n ops V Q kk (L.setIfInBounds (ixR ops kk (e / 2)) true) ⟨(d,c,v)::env,ps,hp⟩)):Fu t (e::cd::m) (aB P n ops V Q (kk+1) L ⟨env,ps,hp⟩) :=
 let ⟨⟨_,hq,hk⟩⟩:=k; ⟨vU _ hi hf c hc hd hq hk⟩
theorem ac3(h0:e % 2=0)(hi:ops[ixR ops kk 0]? = some ⟨some d,op,ty,pos,af,gd⟩)(hc:guardOf ops env ⟨some d,op,ty,pos,af,gd⟩=some c)(hd:fits n (some d)=true)(hf:cC ops V L (ixR ops kk 0)=true)
   (k:Fu t m (QuC (e / 2) c P n ⟨some d,op,ty,pos,af,gd⟩ ⟨env,ps,hp⟩ fun v=>aB P n ops V Q kk (L.setIfInBounds (ixR ops kk 0) true) ⟨(d,c,v)::env,ps,hp⟩)):Fu t (e::m) (aB P n ops V Q (kk+1) L ⟨env,ps,hp⟩) :=
 let ⟨⟨_,hq,hk⟩⟩:=k; ⟨vU _ hi hf c hc hd hq hk⟩
theorem fB3(h0:e % 8=3)(hi:ops[ixR ops kk (e / 2)]? = some ⟨some d,op,ty,pos,af,gd⟩)(h:okU ops env n.size ⟨some d,op,ty,pos,af,gd⟩=true)(hf:iV ops V L (ixR ops kk (e / 2))=true)
   (k:Fu t m (QuC cd true P n ⟨some d,op,ty,pos,af,gd⟩ ⟨env,[],[]⟩ fun v=>aB P n ops V Q kk (L.setIfInBounds (ixR ops kk (e / 2)) true) ⟨(d,true,v)::env,ps,hp⟩)):Fu t (e::cd::m) (aB P n ops V Q (kk+1) L ⟨env,ps,hp⟩) :=
 let ⟨⟨_,hq,hk⟩⟩:=k; ⟨acd _ hi hf true (fi h).1 (fi h).2 hq hk⟩
theorem fB4(h0:e % 8=3)(hi:ops[ixR ops kk (e / 2)]? = some ⟨some d,op,ty,pos,af,gd⟩)(hc:guardOf ops env ⟨some d,op,ty,pos,af,gd⟩=some c)(hd:fits n (some d)=true)(hf:iV ops V L (ixR ops kk (e / 2))=true)
   (k:Fu t m (QuC cd c P n ⟨some d,op,ty,pos,af,gd⟩ ⟨env,[],[]⟩ fun v=>aB P n ops V Q kk (L.setIfInBounds (ixR ops kk (e / 2)) true) ⟨(d,c,v)::env,ps,hp⟩)):Fu t (e::cd::m) (aB P n ops V Q (kk+1) L ⟨env,ps,hp⟩) :=
 let ⟨⟨_,hq,hk⟩⟩:=k; ⟨acd _ hi hf c hc hd hq hk⟩
theorem fB5{x y:Operand}{U T:TypeId}{b o:Nat}{cs cs':List Value}{vy:Value}(h0:e % 8=7)(hi:ops[ixR ops kk (e / 2)]? = some ⟨none,.store U x y,ty,pos,af,gd⟩)(hx:ev env x=some (true,.pointer (some ⟨b,o,none⟩)))(hy:ev env y=some (true,vy))(hb:hp[cd / 3 % 16]? = some (Box b T cs))(hk:tyk P U=some (Nat.beq (cd / 1536 % 2) 1,cd / 3072+1))(hc:guardOf ops env ⟨none,.store U x y,ty,pos,af,gd⟩=some true)
   (hw:wrL (cd / 3072+1) cs o vy.cells.toList=some cs') (hh:hp.set (cd / 3 % 16) (Box b T cs')=hp') (hr:Region.ready .any ops L=[ixR ops kk (e / 2)]) (hq:V.contains (ixR ops kk (e / 2))=true) (k:Fu t m (aB P n ops V Q kk (L.setIfInBounds (ixR ops kk (e / 2)) true) ⟨env,ps,hp'⟩)):Fu t (e::cd::m) (aB P n ops V Q (kk+1) L ⟨env,ps,hp⟩) :=
 ⟨dG (q:=false) _ hi hr hq hc (bX _ hk hx hy hb hw (hh ▸ k.run))⟩
theorem fC1(h0:e % 8=1)(hi:ops[ixR ops kk (e / 2)]? = some ⟨some d,op,ty,pos,af,gd⟩)(h:okU ops env n.size ⟨some d,op,ty,pos,af,gd⟩=true)(hf:c7 ops [] L (ixR ops kk (e / 2))=true)
   (k:Fu t m (QuC cd true P n ⟨some d,op,ty,pos,af,gd⟩ ⟨env,ps,[]⟩ fun v=>aC P n ops V W Z Q kk (L.setIfInBounds (ixR ops kk (e / 2)) true) ⟨(d,true,v)::env,ps,hp⟩)):Fu t (e::cd::m) (aC P n ops V W Z Q (kk+1) L ⟨env,ps,hp⟩) :=
 let ⟨⟨_,hq,hk⟩⟩:=k; ⟨xZ _ hi hf true (fi h).1 (fi h).2 hq hk⟩
theorem ac4(h0:e % 2=0)(hi:ops[ixR ops kk 0]? = some ⟨some d,op,ty,pos,af,gd⟩)(h:okU ops env n.size ⟨some d,op,ty,pos,af,gd⟩=true)(hf:c7 ops [] L (ixR ops kk 0)=true)
   (k:Fu t m (QuC (e / 2) true P n ⟨some d,op,ty,pos,af,gd⟩ ⟨env,ps,[]⟩ fun v=>aC P n ops V W Z Q kk (L.setIfInBounds (ixR ops kk 0) true) ⟨(d,true,v)::env,ps,hp⟩)):Fu t (e::m) (aC P n ops V W Z Q (kk+1) L ⟨env,ps,hp⟩) :=
 let ⟨⟨_,hq,hk⟩⟩:=k; ⟨xZ _ hi hf true (fi h).1 (fi h).2 hq hk⟩
theorem fC2(h0:e % 8=1)(hi:ops[ixR ops kk (e / 2)]? = some ⟨some d,op,ty,pos,af,gd⟩)(hc:guardOf ops env ⟨some d,op,ty,pos,af,gd⟩=some c)(hd:fits n (some d)=true)(hf:c7 ops [] L (ixR ops kk (e / 2))=true)
   (k:Fu t m (QuC cd c P n ⟨some d,op,ty,pos,af,gd⟩ ⟨env,ps,[]⟩ fun v=>aC P n ops V W Z Q kk (L.setIfInBounds (ixR ops kk (e / 2)) true) ⟨(d,c,v)::env,ps,hp⟩)):Fu t (e::cd::m) (aC P n ops V W Z Q (kk+1) L ⟨env,ps,hp⟩) :=
 let ⟨⟨_,hq,hk⟩⟩:=k; ⟨xZ _ hi hf c hc hd hq hk⟩
theorem ac5(h0:e % 2=0)(hi:ops[ixR ops kk 0]? = some ⟨some d,op,ty,pos,af,gd⟩)(hc:guardOf ops env ⟨some d,op,ty,pos,af,gd⟩=some c)(hd:fits n (some d)=true)(hf:c7 ops [] L (ixR ops kk 0)=true)
   (k:Fu t m (QuC (e / 2) c P n ⟨some d,op,ty,pos,af,gd⟩ ⟨env,ps,[]⟩ fun v=>aC P n ops V W Z Q kk (L.setIfInBounds (ixR ops kk 0) true) ⟨(d,c,v)::env,ps,hp⟩)):Fu t (e::m) (aC P n ops V W Z Q (kk+1) L ⟨env,ps,hp⟩) :=
 let ⟨⟨_,hq,hk⟩⟩:=k; ⟨xZ _ hi hf c hc hd hq hk⟩
theorem fC3(h0:e % 8=3)(hi:ops[ixR ops kk (e / 2)]? = some ⟨some d,op,ty,pos,af,gd⟩)(h:okU ops env n.size ⟨some d,op,ty,pos,af,gd⟩=true)(hf:c7 ops V L (ixR ops kk (e / 2))=true)
   (k:Fu t m (QuC cd true P n ⟨some d,op,ty,pos,af,gd⟩ ⟨env,ps,hp⟩ fun v=>aC P n ops V W Z Q kk (L.setIfInBounds (ixR ops kk (e / 2)) true) ⟨(d,true,v)::env,ps,hp⟩)):Fu t (e::cd::m) (aC P n ops V W Z Q (kk+1) L ⟨env,ps,hp⟩) :=
 let ⟨⟨_,hq,hk⟩⟩:=k; ⟨ach _ hi hf true (fi h).1 (fi h).2 hq hk⟩
theorem isQ{o:Oper}{s:Sta}{K:Value→Prop}(k:Fu t m (QuC cd c P n o s K)):Fu t m (QuC cd c P n o s K):=k
theorem isL{l:List Oper}{s:Sta}(k:Fu t m (aL P n ops Q l s)):Fu t m (aL P n ops Q l s):=k
theorem isB{s:Sta}(k:Fu t m (aB P n ops V Q kk L s)):Fu t m (aB P n ops V Q kk L s):=k
theorem isC{s:Sta}(k:Fu t m (aC P n ops V W Z Q kk L s)):Fu t m (aC P n ops V W Z Q kk L s):=k
theorem go {X Y:Prop} (t:Nat) (m:List Nat) (k:Y) (h:ab9 Y→Fu t m X:=by
   intro k
   repeat first
     | (refine isQ ?_
        refine fuQ (by
                    first
                    | exact acG (by exact rfl) (by first | exact fun _=>rfl | (repeat first | exact gc0 | exact gcT | refine gcA ?_ ?_ | refine gc1 ?_))
                    | exact acH (by first | exact ec0 rfl | (refine ec1 rfl ?_;repeat first | exact gc0 | refine gc1 ?_)) (by exact rfl) (by first | exact fun _=>gc0 | (intro h0 hc;first | exact rfl | exact gt hc h0 | exact gt rfl h0 | exact hc | exact gL hc))
                    | exact ada (by first | exact ec0 rfl | (refine ec1 rfl ?_;repeat first | exact gc0 | refine gc1 ?_)) (by exact rfl) (by first | exact fun _=>gc0 | (intro h0 hc;first | exact rfl | exact gf hc h0 | exact gf rfl h0 | exact hc | exact gL hc))
                    | exact ac9 (by first | exact ec0 rfl | (refine ec1 rfl ?_;repeat first | exact gc0 | refine gc1 ?_)) (by kernel_rfl)
                    | exact acJ rfl rfl (by first | exact ec0 rfl | (refine ec1 rfl ?_;repeat first | exact gc0 | refine gc1 ?_)) (by kernel_rfl) (by exact rfl)
                    | exact acI rfl rfl (by first | exact ec0 rfl | (refine ec1 rfl ?_;repeat first | exact gc0 | refine gc1 ?_)) (by kernel_rfl) (by exact rfl)
                    | exact acK rfl rfl (by first | exact gcT | exact gc0 | (repeat first | exact gc0 | exact gcT | refine gcA ?_ ?_ | refine gc1 ?_)) (by first | exact ec0 rfl | (refine ec1 rfl ?_;repeat first | exact gc0 | refine gc1 ?_)) (by kernel_rfl) (by exact rfl)
                    | exact acF (by first | exact ec0 rfl | (refine ec1 rfl ?_;repeat first | exact gc0 | refine gc1 ?_)) (by first | exact ec0 rfl | (refine ec1 rfl ?_;repeat first | exact gc0 | refine gc1 ?_)) (by intro hc;first | omega | (simp at hc;omega))
                    | exact acO (by first | exact ec0 rfl | (refine ec1 rfl ?_;repeat first | exact gc0 | refine gc1 ?_)) (by first | exact ec0 rfl | (refine ec1 rfl ?_;repeat first | exact gc0 | refine gc1 ?_)) (by intro hc;first | omega | (simp at hc;omega))
                    | exact acN (by first | exact ec0 rfl | (refine ec1 rfl ?_;repeat first | exact gc0 | refine gc1 ?_)) (by first | exact ec0 rfl | (refine ec1 rfl ?_;repeat first | exact gc0 | refine gc1 ?_)) (by intro hc;first | omega | (simp at hc;omega))
                    | exact abS (by first | exact ec0 rfl | (refine ec1 rfl ?_;repeat first | exact gc0 | refine gc1 ?_)) (by kernel_rfl)
                    | exact abT (by first | exact ec0 rfl | (refine ec1 rfl ?_;repeat first | exact gc0 | refine gc1 ?_)) (by kernel_rfl)
                    | exact acM (by first | exact ec0 rfl | (refine ec1 rfl ?_;repeat first | exact gc0 | refine gc1 ?_)) (by first | exact ec0 rfl | (refine ec1 rfl ?_;repeat first | exact gc0 | refine gc1 ?_))
                    | exact acL (by first | exact ec0 rfl | (refine ec1 rfl ?_;repeat first | exact gc0 | refine gc1 ?_)) (by first | exact ec0 rfl | (refine ec1 rfl ?_;repeat first | exact gc0 | refine gc1 ?_))) ?_)
     | (refine isL ?_
        first
        | refine fL1 rfl ?_
        | refine fL2 rfl rfl ?_
        | refine fuX dJ rfl ?_
        | refine fL3 (by exact rfl) (by exact rfl) (by exact rfl) (by kernel_rfl) (by exact rfl) (by exact rfl) (by (try simp only [nK,nL]);rfl) ?_)
     | (refine isB ?_
        first
        | refine ac2 rfl rfl rfl (by kernel_rfl) ?_
        | refine ac3 rfl rfl rfl rfl (by kernel_rfl) ?_
        | refine fB1 rfl rfl rfl (by kernel_rfl) ?_
        | refine fB2 rfl rfl rfl rfl (by kernel_rfl) ?_
        | refine fB3 rfl rfl rfl (by kernel_rfl) ?_
        | refine fB4 rfl rfl rfl rfl (by kernel_rfl) ?_
        | refine fuX (xW (by kernel_rfl)) rfl ?_
        | refine fB5 rfl rfl (by exact rfl) (by exact rfl) (by exact rfl) (by kernel_rfl) (by exact rfl) (by exact rfl) (by (try simp only [nK,nL]);rfl) (by kernel_rfl) (by exact rfl) ?_)
     | (refine isC ?_
        first
        | refine ac4 rfl rfl rfl (by kernel_rfl) ?_
        | refine ac5 rfl rfl rfl rfl (by kernel_rfl) ?_
        | refine fC1 rfl rfl rfl (by kernel_rfl) ?_
        | refine fC2 rfl rfl rfl rfl (by kernel_rfl) ?_
        | refine fC3 rfl rfl rfl (by kernel_rfl) ?_)
     | refine fuX an rfl ?_ | refine fuX aq rfl ?_ | refine fuX az rfl ?_ | refine fuX ca rfl ?_ | refine fuX bb rfl ?_ | refine fuX bg rfl ?_ | refine fuX (rI rfl) rfl ?_ | refine fuX aH rfl ?_ | refine fuX aD rfl ?_ | refine fuX aY rfl ?_ | refine fuX vY rfl ?_
   exact fuZ k):X:=(h ⟨k⟩).run
end
end Go.Sy

namespace Go.Proofs.YtgkbbdgklpabpaaGreatDoor
open Go.RowKit Go.Lp Go.Sy
open Go.Proofs.Tryz
attribute [local irreducible] aL aB awp aC fwp Quiet
theorem tk82:tyk Tryz.prog 82=some (false,1):=by kernel_rfl
theorem rS(n v:Int)(bn:Nat):Con Tryz.prog 199 [.int .i64 v,.pointer (some ⟨bn,0,none⟩)] [At bn 0 [.v (.int .i64 n)]] [] fun r _ _=>r=.bool (vB n v):=by
 refine Con.enter Tryz.func199 rfl (by simp [Tryz.ntmps199]) ?_
 show awp _ _ _ _ ⟨[(0,true,_),(1,true,_)],_,_⟩
 refine go 2 [0,0,0,0,0,1,0,0,0] ?_
 refine ae ?_
 refine bB [] [] rfl Tryz.results199 rfl ?_ (.inr rfl)
 rfl
abbrev vC(bn:Nat):Value:=.func (.func 199) #[] #[.pointer (some ⟨bn,0,none⟩)]
theorem tB(n:Int)(a:cj)(bn b5:Nat):Con Tryz.prog 201 [a.val,.pointer (some ⟨b5,0,none⟩)] [At b5 0 [.v (vC bn)],At bn 0 [.v (.int .i64 n)]] [] fun r _ _=>r=.bool (jv n a):=by
 refine Con.enter Tryz.func201 rfl (by simp [Tryz.ntmps201]) ?_
 show awp _ _ _ _ ⟨[(0,true,_),(1,true,_)],_,_⟩
 refine aSR ?_
 refine aT (q:=true) rfl (aS rfl rfl rfl (fun b0_0 => ?_))
 refine aHN ?_
 refine go 4 [0] ?_
 refine aU rfl (cm (o:=0) tk82 rfl (.of (ax 0 rfl)) rfl) ?_
 refine go 0 [0,0] ?_
 refine aU rfl (mA (by kernel_rfl) rfl rfl (fun w S fp hst=>(rS n _ bn).quiet1 (ax 1 rfl) hst)) ?_
 refine go 0 [0,0] ?_
 refine aG rfl rfl (fun hc=>cm (o:=0) tk82 rfl (.of (ax 0 rfl)) rfl) ?_
 refine go 0 [1,0] ?_
 refine aG rfl rfl (fun hc=>mA (by kernel_rfl) (ah rfl hc) (ao (ah rfl hc) rfl) (fun w S fp hst=>(rS n _ bn).quiet1 (ax 1 rfl) hst)) ?_
 refine go 2 [0,0,0] ?_
 refine ae ?_
 refine bB [] [] rfl Tryz.results201 rfl ?_ (.inr rfl)
 rfl
theorem oY(n:Int)(l:Sl cj)(bn b5:Nat):Con Tryz.prog 236 [l.val,.func (.func 201) #[] #[.pointer (some ⟨b5,0,none⟩)]] [ShF cj.row l,At b5 0 [.v (vC bn)],At bn 0 [.v (.int .i64 n)]] []
   fun r ps hp=>(ps=[]∧hp=[])∧∃ z:Int,r=.int .i64 z∧decide (z≥0)=l.l.any (jv n):=by
 refine Con.enter Tryz.func236 rfl (by simp [Tryz.ntmps236]) ?_
 show awp _ _ _ _ ⟨[(0,true,_),(1,true,_)],_,_⟩
 refine aO (.of (ax 0 rfl)) (fun hlen => ?_)
 refine go 3 [0,0,168,0] ?_
 refine aF [0,1,7,8] [2,1,0] [] (fun (k:Nat) s=>(k≤l.l.length∧(l.l.take k).any (jv n)=false)∧s=⟨[(0,true,l.val),(1,true,.func (.func 201) #[] #[.pointer (some ⟨b5,0,none⟩)]),(7,true,.int .i64 l.l.length),(8,true,.int .i64 k)],[ShF cj.row l,At b5 0 [.v (vC bn)],At bn 0 [.v (.int .i64 n)]],[]⟩) (fun k=>l.l.length-k) rfl (⟨0,⟨Nat.zero_le _,rfl⟩,rfl⟩) ?_
 rintro k s ⟨⟨hk,hno⟩,rfl⟩
 refine go 3 [0] ?_
 refine aa _ rfl (fun h1 => ?_) (fun h1 => ?_)
 ·skip
  have hk':k<l.l.length:=by simpa using h1
  obtain ⟨a,ha⟩:∃ a,l.l[k]? = some a:=⟨l.l[k]'hk',by simp⟩
  refine go 0 [0,0,0,0,0] ?_
  refine bI true rfl rfl (fun _=>ai Tryz.underlying163 tk168 rfl ((.of (ax 0 rfl))) rfl (ak ha) rfl rfl) (fun h=>absurd h (by decide)) (fun ⟨b4_3,o4_3⟩ => ?_)
  refine go 0 [4610] ?_
  refine aU rfl (mA (by kernel_rfl) rfl rfl (fun w S fp hst=>(tB n a bn b5).quiet2 (ax 2 rfl) (ax 3 rfl) hst)) ?_
  refine aNn ?_
  refine aa _ rfl (fun h2 => ?_) (fun h2 => ?_)
  ·skip
   refine go 2 [0,0] ?_
   refine ae (aK (aj (aj (aK (aj ?_)))))
   refine bB [] [] rfl Tryz.results236 rfl ?_ (.inr rfl)
   refine ⟨⟨rfl,rfl⟩,_,rfl,?_⟩
   rw [List.any_eq_true.2 ⟨a,List.mem_of_getElem? ha,h2⟩];simp
  ·skip
   refine go 1 [0,0] ?_
   refine an ?_
   refine ⟨[0,1,7,8],[2,1,0],[],rfl,?_⟩
   refine ⟨k+1,⟨⟨by omega,?_⟩,rfl⟩,by omega⟩
   rw [List.take_add_one,ha,List.any_append,hno];simpa using h2
 ·skip
  refine go 2 [0] ?_
  refine ae ?_
  refine bB [] [] rfl Tryz.results236 rfl ?_ (.inr rfl)
  refine ⟨⟨rfl,rfl⟩,_,rfl,?_⟩
  rw [List.take_of_length_le (by simpa using h1)] at hno
  rw [hno];rfl
theorem qB(n:Int)(l:Sl cj)(bn b5:Nat):Con Tryz.prog 200 [l.val,.func (.func 201) #[] #[.pointer (some ⟨b5,0,none⟩)]] [ShF cj.row l,At b5 0 [.v (vC bn)],At bn 0 [.v (.int .i64 n)]] []
   fun r _ _=>r=.bool (l.l.any (jv n)):=by
 refine Con.enter Tryz.func200 rfl (by simp [Tryz.ntmps200]) ?_
 show awp _ _ _ _ ⟨[(0,true,_),(1,true,_)],_,_⟩
 refine go 0 [0,0,0] ?_
 refine aT (q:=true) rfl (fe [2,1,0] [] (by kernel_rfl) rfl rfl rfl rfl (oY n l bn b5) ?_)
 rintro _ _ _ ⟨⟨rfl,rfl⟩,z,rfl,hz⟩
 refine aST ?_
 refine go 2 [0,0] ?_
 refine ae ?_
 refine bB [] [] rfl Tryz.results200 rfl ?_ (.inr rfl)
 rw [hz]
theorem pH(n:Int)(l:Sl cj):Con Tryz.prog 130 [.int .i64 n,l.val] [ShF cj.row l] [] fun r _ _=>r=.bool (uR n l.l):=by
 refine Con.enter Tryz.func130 rfl (by simp [Tryz.ntmps130]) ?_
 show awp _ _ _ _ ⟨[(0,true,_),(1,true,_)],_,_⟩
 refine aSR ?_
 refine aT (q:=true) rfl (aS rfl rfl rfl (fun b0_0 => ?_))
 refine aHN ?_
 refine go 3 [0] ?_
 refine aZ 0 rfl rfl ?_
 show awp _ _ _ _ ⟨_,At _ 0 _::_,_⟩
 refine az (aU rfl (cA (l:=[.tmp 2]) rfl) ?_)
 refine aT (q:=true) rfl (aW (zs:=[.nilFunc]) (by kernel_rfl) rfl (fun b1_1 => ?_))
 refine aHN ?_
 refine aT rfl (bX 1 tk82 rfl rfl rfl rfl ?_)
 refine aHK ?_
 refine aNs (aZ 1 rfl rfl ?_)
 show awp _ _ _ _ ⟨_,At _ 0 _::_,_⟩
 refine go 0 [4,0,0,4,0,0,0,0] ?_
 refine aG rfl rfl (fun hc=>cA (l:=[.tmp 5]) rfl) ?_
 refine aG rfl rfl (fun hc=>jK (by kernel_rfl) (ao (ah rfl hc) (ao (ah rfl hc) rfl)) (fun w S fp hst=>(qB n l b0_0 b1_1).quiet3 (ax 2 rfl) (ax 0 rfl) (ax 1 rfl) hst)) ?_
 refine go 2 [0,0,0] ?_
 refine ae ?_
 refine bB [] [] rfl Tryz.results130 rfl ?_ (.inr rfl)
 rfl
end Go.Proofs.YtgkbbdgklpabpaaGreatDoor

namespace Go.Sy
open Go.RowKit Go.Lp
def YN{β:Type}(v:β→Value)(Φ:β→Prop):Value→List Per→List Res→Prop:=fun r ps hp=>(ps=[]∧hp=[])∧∃ b,r=v b∧Φ b
abbrev YB(Φ:Prop):Value→List Per→List Res→Prop:=YN Value.bool fun b=>b=true→Φ
section
variable {P:Program} {n:Fr} {ops:Array Oper} {Q:Exit→Sta→Prop} {env:Env} {ps:List Per} {hp:List Res} {ty:TypeId} {pos:String} {af:Array Edge} {gd:Option (Nat × Bool)} {rest:List Oper} {β:Type} {v:β→Value} {Φ:β→Prop}
theorem aE{t:Nat}{f:FuncId}{g:Operand}{caps:List Value}{l:List Operand}{ts:Array TypeId}{vs:List Value}(lp:List Nat)(b0:β)(hf:aX P f=true)(c:Bool)(hc:guardOf ops env ⟨some t,.call ⟨.value g,l.toArray,ts⟩,ty,pos,af,gd⟩=some c)(ht:fits n.size (some t)=true)
   (hgv:c=true→ev env g=some (true,.func (.func f) #[] caps.toArray)) (hx:c=true→evs env l=some vs) (hcon:c=true→Con P f (vs++caps) (el ps lp) [] (YN v Φ))
   (h:∀ b,(c=true→Φ b)→aL P n ops Q rest ⟨(t,c,v b)::env,ps,hp⟩):aL P n ops Q (⟨some t,.call ⟨.value g,l.toArray,ts⟩,ty,pos,af,gd⟩::rest) ⟨env,ps,hp⟩:=by
 cases c with
 | true =>
   refine aT (q:=true) hc (gh lp [] hf (hgv rfl) (hx rfl) ht rfl rfl (hcon rfl) ?_)
   rintro _ _ _ ⟨⟨rfl,rfl⟩,b,rfl,hb⟩
   refine ig ?_ (h b fun _=>hb)
   apply List.ext_getElem?;intro i;rw [iJ]
   by_cases hi:i<hp.length
   · rw [if_pos hi];rfl
   · rw [if_neg hi,List.getElem?_eq_none (by simp),List.getElem?_eq_none (by omega)]
 | false=>exact mG (v:=v b0) false hc ht (fun h=>by cases h) (h b0 fun h=>by cases h)
theorem cQ{V:List Nat}{k:Nat}{L:Array Bool}{t:Nat}{f:FuncId}{g:Operand}{caps:List Value}{l:List Operand}{ts:Array TypeId}{vs:List Value}(i:Nat)(hi:ops[i]? = some ⟨some t,.call ⟨.value g,l.toArray,ts⟩,ty,pos,af,gd⟩)(hr:Region.ready .any ops L=[i])(lp:List Nat)(b0:β)(hf:aX P f=true)(c:Bool)(hc:guardOf ops env ⟨some t,.call ⟨.value g,l.toArray,ts⟩,ty,pos,af,gd⟩=some c)(ht:fits n.size (some t)=true)
   (hgv:c=true→ev env g=some (true,.func (.func f) #[] caps.toArray)) (hx:c=true→evs env l=some vs) (hcon:c=true→Con P f (vs++caps) (el ps lp) [] (YN v Φ))
   (h:∀ b,(c=true→Φ b)→aB P n ops V Q k (L.setIfInBounds i true) ⟨(t,c,v b)::env,ps,hp⟩):aB P n ops V Q (k+1) L ⟨env,ps,hp⟩:=by
 cases c with
 | true =>
   refine dG (q:=true) i hi hr rfl hc (gh lp [] hf (hgv rfl) (hx rfl) ht rfl rfl (hcon rfl) ?_)
   rintro _ _ _ ⟨⟨rfl,rfl⟩,b,rfl,hb⟩
   refine acb rfl ?_ (h b fun _=>hb)
   apply List.ext_getElem?;intro j;rw [iJ]
   by_cases hj:j<hp.length
   · rw [if_pos hj];rfl
   · rw [if_neg hj,List.getElem?_eq_none (by simp),List.getElem?_eq_none (by omega)]
 | false =>
   intro w S fp a hst he hn hdf w1 hb
   refine ⟨fun h0=>(by rw [hr] at h0;cases h0),fun j hj => ?_⟩
   rw [hr] at hj
   obtain rfl:=List.mem_singleton.1 hj
   refine ⟨_,hi,?_⟩
   rw [if_neg (by rw [dD (ops:=ops) hc he];exact Bool.false_ne_true)]
   refine ⟨fun _=>Below.refl _ _,?_⟩
   have hen:=he.set (dst:=some t) (by rw [hn];exact ht) false (v b0)
   exact iQ (fun a2 w2 hp=>hp.trans (Evo.of_below _ _ hb) (fun _ h=>.inl h)) _ _ _ _ (h b0 (fun h=>by cases h) w1 S fp _ (hst.below hb) hen (by rw [ep];exact hn) (by rw [put_defers];exact hdf))
end
end Go.Sy

namespace Go.Sy
open Go.RowKit Go.Lp Go.MapKept
structure fh {α:Type} (P:Program) (kt:TypeId) (κ:α→Value):Prop where
 inj:∀ a b,κ a=κ b→a=b
 check:∀ (w:World) (em:Bool) (a:α),(Instr.checkKey em 10000 kt (κ a)).run P w=.ok () w
 find:∀ (w:World) (x:α) (es:List MapEntry),(∀ e∈es,∃ a,e.key=κ a) →
   ((Instr.findKey kt (κ x) es).run P w=.ok none w∧∀ e∈es,e.key≠κ x)∨∃ j e,(Instr.findKey kt (κ x) es).run P w=.ok (some (j,e.val)) w∧es[j]? = some e∧e.key=κ x
 stays:∀ (w:World) (a:α),(Instr.keyThatStays (κ a) (κ a)).run P w=.ok (κ a) w
theorem lU{α:Type}{P:Program}{kt:TypeId}{d:TypeDesc}{κ:α→Value}(hd:P.underlying kt=some d)(hk:∀ a,IsKey d (κ a))(inj:∀ a b,κ a=κ b→a=b):fh P kt κ where
 inj:=inj
 check w em a:=run_checkKey hd (hk a) em 9999
 find w x es hes:=by
   rcases findNow_spec (hk x) es 0 (fun e he=>by obtain ⟨a,ha⟩:=hes e he;rw [ha];exact hk a) with ⟨h1,h2⟩ | ⟨j,e,h1,h2,h3⟩
   · exact .inl ⟨run_findKey hd h1,h2⟩
   · exact .inr ⟨j,e,by rw [Nat.zero_add] at h1;exact run_findKey hd h1,h2,h3⟩
 stays w a:=run_keyThatStays (hk a)
theorem zh{P:Program}{kt:TypeId}(hd:P.underlying kt=some .string):fh P kt (fun s:ByteArray=>Value.string s):=lU hd (fun _=>trivial) (fun _ _ h=>by injection h)
theorem abH{P:Program}{kt:TypeId}(hd:P.underlying kt=some (.int .i64)):fh P kt (fun z:Int=>Value.int .i64 z):=lU hd (fun _=>rfl) (fun _ _ h=>by injection h)
section
variable {α β:Type}
structure ry (κ:α→Value) (ν:β→Value) (m:α→Option β) (es:List MapEntry):Prop where
 of:∀ e∈es,∃ a v,e.key=κ a∧e.val=ν v∧m a=some v
 mem:∀ a v,m a=some v→∃ e∈es,e.key=κ a∧e.val=ν v
 apart:es.Pairwise fun e e'=>e.key≠e'.key
def eg(b:Nat)(κ:α→Value)(ν:β→Value)(m:α→Option β):Res :=
 ⟨fun w _ F=>(∃ es clock,w.heap[b]? = some (.map es clock)∧ry κ ν m es.toList∧Stamped es clock)∧∀ k,F k↔k=b,fun ⟨⟨es,clock,h,he⟩,hF⟩ h1 _ _=>⟨⟨es,clock,(h1 b ((hF b).2 rfl)).trans h,he⟩,hF⟩⟩
def fJ[DecidableEq α](m:α→Option β)(k:α)(v:β):α→Option β:=fun a=>if a=k then some v else m a
variable {κ:α→Value} {ν:β→Value} {m:α→Option β} {P:Program} {kt:TypeId}
theorem ry.put[DecidableEq α](K:fh P kt κ){es:Array MapEntry}(h:ry κ ν m es.toList)(k:α)(v:β){clock:Nat}(h0:∀ e∈es.toList,e.key≠κ k):ry κ ν (fJ m k v) (es.push { key:=κ k,val:=ν v,born:=clock }).toList where
 of e he:=by
   rw [Array.toList_push,List.mem_append,List.mem_singleton] at he
   rcases he with he | rfl
   · obtain ⟨a,u,h1,h2,h3⟩:=h.of e he
     refine ⟨a,u,h1,h2,?_⟩
     have:a≠k:=fun e'=>h0 e he (by rw [h1,e'])
     simp [fJ,this,h3]
   · exact ⟨k,v,rfl,rfl,by simp [fJ]⟩
 mem a u ha:=by
   unfold fJ at ha
   split at ha
   · rename_i hak
     simp only [Option.some.injEq] at ha
     subst hak ha
     exact ⟨_,by rw [Array.toList_push];exact List.mem_append_right _ (List.mem_singleton.2 rfl),rfl,rfl⟩
   · obtain ⟨e,he,h1,h2⟩:=h.mem a u ha
     exact ⟨e,by rw [Array.toList_push];exact List.mem_append_left _ he,h1,h2⟩
 apart:=by
   rw [Array.toList_push,List.pairwise_append]
   exact ⟨h.apart,List.pairwise_singleton _ _,fun e he e' he'=>by rw [List.mem_singleton.1 he'];exact h0 e he⟩
theorem ry.turn[DecidableEq α](K:fh P kt κ){es:Array MapEntry}(h:ry κ ν m es.toList)(k:α)(v:β){j:Nat}{e0:MapEntry}(hj:es.toList[j]? = some e0)(h0:e0.key=κ k) :
   ry κ ν (fJ m k v) (es.modify j fun e => { e with key:=κ k,val:=ν v }).toList:=by
 have hjl:j<es.toList.length:=(List.getElem?_eq_some_iff.1 hj).1
 have hg:∀ i,(es.modify j fun e => { e with key:=κ k,val:=ν v }).toList[i]? = if i=j then some { e0 with key:=κ k,val:=ν v } else es.toList[i]? := fun i=>by
   rw [Array.getElem?_toList,Array.getElem?_modify]
   by_cases hij:i=j
   · subst hij
     rw [if_pos rfl,if_pos rfl,← Array.getElem?_toList,hj];rfl
   · rw [if_neg hij,if_neg (Ne.symm hij),Array.getElem?_toList]
 have hpw:=List.pairwise_iff_getElem.1 h.apart
 have hne:∀ i e,es.toList[i]? = some e→i≠j→e.key≠κ k:=fun i e hi hij hk=>by
   obtain ⟨hil,rfl⟩:=List.getElem?_eq_some_iff.1 hi
   obtain ⟨_,rfl⟩:=List.getElem?_eq_some_iff.1 hj
   rcases Nat.lt_or_gt_of_ne hij with hlt | hlt
   · exact hpw i j hil hjl hlt (by rw [hk,h0])
   · exact hpw j i hjl hil hlt (by rw [hk,h0])
 refine ⟨fun e he => ?_,fun a u ha => ?_,?_⟩
 · obtain ⟨i,hi⟩:=List.mem_iff_getElem?.1 he
   rw [hg] at hi
   split at hi
   · simp only [Option.some.injEq] at hi
     subst hi
     exact ⟨k,v,rfl,rfl,by simp [fJ]⟩
   · rename_i hij
     obtain ⟨a,u,h1,h2,h3⟩:=h.of e (List.mem_of_getElem? hi)
     refine ⟨a,u,h1,h2,?_⟩
     have:a≠k:=fun e'=>hne i e hi hij (by rw [h1,e'])
     simp [fJ,this,h3]
 · unfold fJ at ha
   split at ha
   · rename_i hak
     simp only [Option.some.injEq] at ha
     subst hak ha
     exact ⟨_,List.mem_of_getElem? (by rw [hg,if_pos rfl]),rfl,rfl⟩
   · rename_i hak
     obtain ⟨e,he,h1,h2⟩:=h.mem a u ha
     obtain ⟨i,hi⟩:=List.mem_iff_getElem?.1 he
     have hij:i≠j:=fun hij=>by
       rw [hij,hj] at hi
       simp only [Option.some.injEq] at hi
       subst hi
       exact hak (K.inj _ _ (by rw [← h1,h0]))
     exact ⟨e,List.mem_of_getElem? (i:=i) (by rw [hg,if_neg hij,hi]),h1,h2⟩
 · rw [List.pairwise_iff_getElem]
   intro i i' hi hi' hlt
   have l1:=List.getElem?_eq_getElem hi
   have l2:=List.getElem?_eq_getElem hi'
   rw [hg] at l1 l2
   split at l1
   · rename_i hij
     rw [if_neg (by omega)] at l2
     simp only [Option.some.injEq] at l1
     rw [← l1]
     exact fun e=>hne i' _ l2 (by omega) e.symm
   · rename_i hij
     split at l2
     · simp only [Option.some.injEq] at l2
       rw [← l2]
       exact hne i _ l1 hij
     · obtain ⟨q1,e1⟩:=List.getElem?_eq_some_iff.1 l1
       obtain ⟨q2,e2⟩:=List.getElem?_eq_some_iff.1 l2
       rw [← e1,← e2]
       exact hpw i i' q1 q2 hlt
variable {n:Fr} {env:Env} {ps:List Per} {hp:List Res} {ty:TypeId} {pos:String} {af:Array Edge} {gd:Option (Nat × Bool)} {K:Sta→Prop} {d:Option Tmp} {q:Bool}
theorem dB{t:Nat}{T:TypeId}(κ:α→Value)(ν:β→Value)(ht:fits n (some t)=true)(hK:∀ b,K ⟨(t,true,.map (some b))::env,ps,hp++[eg b κ ν fun _=>none]⟩) :
   Eff P n ⟨some t,.makeMap T none,ty,pos,af,gd⟩ ⟨env,ps,hp⟩ q K:=.push fun w S fp a hst he hn=>by
 have:(execOp a.eval ⟨some t,.makeMap T none,ty,pos,af,gd⟩).run P w=.ok (.value (.map (some w.heap.size))) (w.alloc (.map #[] 0)):=by
   show ((Instr.makeMap T none).bind fun r=>Sem.pure (Next.value r)).run P w=_
   rw [Sem.run_bind']
   have:(Instr.makeMap T none).run P w=.ok (.map (some w.heap.size)) (w.alloc (.map #[] 0)):=by
     simp [Instr.makeMap,Sem.run_bind,Result.andThen,newObj,Sem.run]
   rw [this];rfl
 rw [this]
 refine ⟨eg w.heap.size κ ν fun _=>none,fun b=>b=w.heap.size,_,hK w.heap.size,rfl,rfl,he.put (g:=true) (by rw [hn];simpa [fits] using ht) _,fl _ _,⟨⟨#[],0,nS _ _,⟨fun e he=>(by simp at he),fun a v h=>(by cases h),List.Pairwise.nil⟩,stamped_empty 0⟩,fun _=>Iff.rfl⟩,fun b hb => ?_⟩
 subst hb
 exact ⟨Nat.le_refl _,by rw [World.size_alloc];omega⟩
theorem cD[DecidableEq α]{T E:TypeId}{x y z:Operand}{b:Nat}{k:α}{v:β}(i:Nat)(hT:P.underlying T=some (.map kt E))(KO:fh P kt κ)(hx:ev env x=some (true,.map (some b)))(hy:ev env y=some (true,κ k))(hz:ev env z=some (true,ν v))(hi:hp[i]? = some (eg b κ ν m))
   (hK:K ⟨env,ps,hp.set i (eg b κ ν (fJ m k v))⟩):Eff P n ⟨none,.mapUpdate T x y z,ty,pos,af,gd⟩ ⟨env,ps,hp⟩ false K:=.change i hi fun w S fp a hst he hn ⟨⟨es,clock,hb,hes,hsm⟩,hF⟩=>by
 have h1:=he.val hx rfl
 have h2:=he.val hy rfl
 have h3:=he.val hz rfl
 have key:∃ es' clock',(Instr.mapUpdate T (.map (some b)) (κ k) (ν v)).run P w=.ok () (w.putObj b (.map es' clock'))∧ry κ ν (fJ m k v) es'.toList∧Stamped es' clock':=by
   rcases KO.find w k es.toList (fun e he=>let ⟨a,_,h,_⟩:=hes.of e he; ⟨a,h⟩) with ⟨f1,f2⟩ | ⟨j,e0,f1,f2,f3⟩
   · refine ⟨es.push { key:=κ k,val:=ν v,born:=clock },clock+1,?_,hes.put KO k v f2,stamped_push hsm f2⟩
     simp only [Instr.mapUpdate,Sem.run_bind,run_underlying hT,Result.andThen,Go.MapKept.run_getObj_map hb,KO.check,f1,Go.MapKept.run_setObj_map _ hb]
     rfl
   · refine ⟨es.modify j fun e => { e with key:=κ k,val:=ν v },clock,?_,hes.turn KO k v f2 f3,stamped_modify hsm j _ (fun _ _=>rfl) (fun e he h=>by rw [← Array.getElem?_toList,f2] at h;obtain rfl:=Option.some.inj h;exact f3.symm)⟩
     have f2':es[j]? = some e0:=by rw [← Array.getElem?_toList];exact f2
     simp only [Instr.mapUpdate,Sem.run_bind,run_underlying hT,Result.andThen,Go.MapKept.run_getObj_map hb,KO.check,f1,f2',Option.map_some,Option.getD_some,f3,KO.stays,Go.MapKept.run_setObj_map _ hb]
     rfl
 obtain ⟨es',clock',hrun,hes'⟩:=key
 have:(execOp a.eval ⟨none,.mapUpdate T x y z,ty,pos,af,gd⟩).run P w=.ok .skip (w.putObj b (.map es' clock')):=by
   unfold execOp;dsimp only;rw [h1,h2,h3]
   show ((Instr.mapUpdate T (.map (some b)) (κ k) (ν v)).bind fun _=>Sem.pure Next.skip).run P w=_
   rw [Sem.run_bind',hrun];rfl
 rw [this]
 have hbl:=(Array.getElem?_eq_some_iff.1 hb).1
 exact ⟨eg b κ ν (fJ m k v),_,hK,rfl,rfl,he,⟨⟨es',clock',World.putObj_heap_same hbl,hes'⟩,hF⟩,rfl,rfl,⟨rfl,rfl⟩,by rw [World.putObj_size];exact Nat.le_refl _,fun b' _ hb'=>World.putObj_heap_other (fun e=>hb' ((hF b').2 e))⟩
theorem sR{T E:TypeId}{x y:Operand}{b:Nat}{k:α}{v0:β}(i:Nat)(ok:Bool)(hT:P.underlying T=some (.map kt E))(KO:fh P kt κ)(hz:(P.info? E).bind (·.zero)=some (ν v0))(hx:ev env x=some (true,.map (some b)))(hy:ev env y=some (true,κ k))(hi:hp[i]? = some (eg b κ ν m)) :
   Quiet P n ⟨d,.lookup T x y ok,ty,pos,af,gd⟩ ⟨env,ps,hp⟩ (bif ok then .tuple #[ν ((m k).getD v0),.bool (m k).isSome] else ν ((m k).getD v0)):=fun w S fp a hst he hn=>by
 have h1:=he.val hx rfl
 have h2:=he.val hy rfl
 obtain ⟨⟨es,clock,hb,hes,_⟩,hF⟩:=hst.res i _ hi
 have hzr:(zeroValue E).run P w=.ok (ν v0) w:=by
   cases hE:P.info? E with
   | none=>rw [hE] at hz;cases hz
   | some it =>
     rw [hE,Option.bind_some] at hz
     simp [zeroValue,typeInfo,hE,hz]
 have hrun:(Instr.lookup T (.map (some b)) (κ k) ok).run P w=.ok (bif ok then .tuple #[ν ((m k).getD v0),.bool (m k).isSome] else ν ((m k).getD v0)) w:=by
   rcases KO.find w k es.toList (fun e he=>let ⟨a,_,h,_⟩:=hes.of e he; ⟨a,h⟩) with ⟨f1,f2⟩ | ⟨j,e0,f1,f2,f3⟩
   · have hm:m k=none:=by
       cases hmk:m k with
       | none=>rfl
       | some u=>obtain ⟨e,he,g1,_⟩:=hes.mem k u hmk;exact (f2 e he g1).elim
     rw [hm]
     simp only [Instr.lookup,Sem.run_bind,run_underlying hT,Result.andThen,Go.MapKept.run_getObj_map hb,KO.check,f1,hzr,Sem.run_pure]
     cases ok<;>rfl
   · obtain ⟨a,u,g1,g2,g3⟩:=hes.of e0 (List.mem_of_getElem? f2)
     obtain rfl:a=k:=KO.inj _ _ (by rw [← g1,f3])
     rw [g3]
     simp only [Instr.lookup,Sem.run_bind,run_underlying hT,Result.andThen,Go.MapKept.run_getObj_map hb,KO.check,f1,Sem.run_pure,g2]
     cases ok<;>rfl
 have:(execOp a.eval ⟨d,.lookup T x y ok,ty,pos,af,gd⟩).run P w=.ok (.value (bif ok then .tuple #[ν ((m k).getD v0),.bool (m k).isSome] else ν ((m k).getD v0))) w:=by
   unfold execOp;dsimp only;rw [h1,h2]
   show ((Instr.lookup T (.map (some b)) (κ k) ok).bind fun r=>Sem.pure (Next.value r)).run P w=_
   rw [Sem.run_bind',hrun];rfl
 rw [this];exact bE _ _
theorem gm{T E:TypeId}{x y:Operand}{b:Nat}{k:α}{v0:β}(i:Nat)(hT:P.underlying T=some (.map kt E))(KO:fh P kt κ)(hz:(P.info? E).bind (·.zero)=some (ν v0))(hx:ev env x=some (true,.map (some b)))(hy:ev env y=some (true,κ k))(hi:hp[i]? = some (eg b κ ν m)) :
   Quiet P n ⟨d,.lookup T x y false,ty,pos,af,gd⟩ ⟨env,ps,hp⟩ (ν ((m k).getD v0)):=sR i false hT KO hz hx hy hi
theorem sQ{T E:TypeId}{x y:Operand}{b:Nat}{k:α}{v0:β}(i:Nat)(hT:P.underlying T=some (.map kt E))(KO:fh P kt κ)(hz:(P.info? E).bind (·.zero)=some (ν v0))(hx:ev env x=some (true,.map (some b)))(hy:ev env y=some (true,κ k))(hi:hp[i]? = some (eg b κ ν m)) :
   Quiet P n ⟨d,.lookup T x y true,ty,pos,af,gd⟩ ⟨env,ps,hp⟩ (.tuple #[ν ((m k).getD v0),.bool (m k).isSome]):=sR i true hT KO hz hx hy hi
end
end Go.Sy

namespace Go.Sy
open Go.RowKit
section
variable {P:Program} {n:Fr} {s:Sta} {d:Option Tmp} {ty:TypeId} {pos:String} {af:Array Edge} {gd:Option (Nat × Bool)} {x y:Operand} {t t':TypeId}
theorem abQ{b1 b2:Bool}(hT:P.underlying t=some .bool)(hx:ev s.env x=some (true,.bool b1))(hy:ev s.env y=some (true,.bool b2)):Quiet P n ⟨d,.binOp .eql t x y t',ty,pos,af,gd⟩ s (.bool (b1 == b2)) :=
 .run2 hx hy fun ρ w h1 h2=>by
   unfold execOp;dsimp only;rw [h1,h2]
   simp only [eqGuard_at_bool,binOp,Sem.run_bind,Sem.run_pure,run_equal_bool w t b1 b2 hT,Result.andThen_ok]
theorem lC{xs ys:Array Value}{b:Bool}(hT:P.underlying t=some (.struct (P.fieldsOf t)))(hp:P.stoodInHeld t=false)(hm:P.eqGuardType P.depth t=false)
   (hr:∀ w,(Op.eqFields 9999 xs ys (P.fieldsOf t).toList).run P w=.ok b w) (hx:ev s.env x=some (true,.agg xs)) (hy:ev s.env y=some (true,.agg ys)):Quiet P n ⟨d,.binOp .eql t x y t',ty,pos,af,gd⟩ s (.bool b) :=
 .run2 hx hy fun ρ w h1 h2=>by
   unfold execOp;dsimp only;rw [h1,h2]
   simp only [Sem.run_bind,run_eqGuard_agg w _ t _ _ xs ys hm,Result.andThen_ok,run_eql_struct,run_equalIn_struct w 9999 t xs ys hT hp,hr w]
   rfl
theorem abP{xs ys:Array Value}{b:Bool}(hT:P.underlying t=some (.struct (P.fieldsOf t)))(hp:P.stoodInHeld t=false)(hm:P.eqGuardType P.depth t=false)
   (hr:∀ w,(Op.eqFields 9999 xs ys (P.fieldsOf t).toList).run P w=.ok b w) (hx:ev s.env x=some (true,.agg xs)) (hy:ev s.env y=some (true,.agg ys)):Quiet P n ⟨d,.binOp .neq t x y t',ty,pos,af,gd⟩ s (.bool (!b)) :=
 .run2 hx hy fun ρ w h1 h2=>by
   unfold execOp;dsimp only;rw [h1,h2]
   simp only [Sem.run_bind,run_eqGuard_agg w _ t _ _ xs ys hm,Result.andThen_ok,run_neq_struct,run_equalIn_struct w 9999 t xs ys hT hp,hr w]
   rfl
theorem abn{k yk:IntKind}{a b:Int}(hx:ev s.env x=some (true,.int k a))(hy:ev s.env y=some (true,.int yk b))(hb:0≤b):Quiet P n ⟨d,.binOp .shl t x y t',ty,pos,af,gd⟩ s (.int k (k.wrap (a*2 ^ min b.toNat k.bits))) :=
 .run2 hx hy fun ρ w h1 h2=>by
   have e:Op.shift .shl k a yk b=pure (.int k (k.wrap (a*2 ^ min b.toNat k.bits))):=by unfold Op.shift;rw [if_neg (by omega)]
   unfold execOp;dsimp only;rw [h1,h2]
   have e2:(do eqGuard BinOp.shl t x y (Value.int k a) (Value.int yk b);binOp BinOp.shl t (Value.int k a) (Value.int yk b))=Op.shift .shl k a yk b:=by cases k<;>cases yk<;>rfl
   rw [e2,e];rfl
theorem vG{k yk:IntKind}{a b:Int}(hx:ev s.env x=some (true,.int k a))(hy:ev s.env y=some (true,.int yk b))(hb:0≤b):Quiet P n ⟨d,.binOp .shr t x y t',ty,pos,af,gd⟩ s (.int k (a.fdiv (2 ^ min b.toNat k.bits))) :=
 .run2 hx hy fun ρ w h1 h2=>by
   have e:Op.shift .shr k a yk b=pure (.int k (a.fdiv (2 ^ min b.toNat k.bits))):=by unfold Op.shift;rw [if_neg (by omega)]
   unfold execOp;dsimp only;rw [h1,h2]
   have e2:(do eqGuard BinOp.shr t x y (Value.int k a) (Value.int yk b);binOp BinOp.shr t (Value.int k a) (Value.int yk b))=Op.shift .shr k a yk b:=by cases k<;>cases yk<;>rfl
   rw [e2,e];rfl
theorem acC{k:IntKind}{a b:Int}(hx:ev s.env x=some (true,.int k a))(hy:ev s.env y=some (true,.int k b)):Quiet P n ⟨d,.binOp .or t x y t',ty,pos,af,gd⟩ s (.int k (k.wrap (BitVec.ofInt k.bits a ||| BitVec.ofInt k.bits b).toNat)) :=
 .run2 hx hy fun ρ w h1 h2=>by
   unfold execOp;dsimp only;rw [h1,h2];cases k<;>rfl
theorem abM{k:IntKind}{a b:Int}(hx:ev s.env x=some (true,.int k a))(hy:ev s.env y=some (true,.int k b)):Quiet P n ⟨d,.binOp .and t x y t',ty,pos,af,gd⟩ s (.int k (k.wrap (BitVec.ofInt k.bits a &&& BitVec.ofInt k.bits b).toNat)) :=
 .run2 hx hy fun ρ w h1 h2=>by
   unfold execOp;dsimp only;rw [h1,h2];cases k<;>rfl
end
def lx(P:Program)(t:TypeId):Bool:=match P.underlying t with
 | some (.int _)=>true
 | _=>false
def eG(xs:Array Value)(o:Nat):Option Int:=match xs[o]? with
 | some (.int .i64 a)=>some a
 | _=>none
def eD(xs ys:Array Value)(l:List Nat):Bool:=l.all fun o=>match eG xs o,eG ys o with
 | some a,some b=>a == b
 | _,_=>true
def dy(xs:Array Value)(l:List Nat):Bool:=l.all fun o=>(eG xs o).isSome
theorem gl {P:Program} (d:Nat) (xs ys:Array Value):∀ (fs:List Field) (w:World),fs.all (fun f=>decide (f.name ≠ "_") && lx P f.type)=true→dy xs (fs.map (·.offset))=true→dy ys (fs.map (·.offset))=true →
   (Op.eqFields (d+1) xs ys fs).run P w=.ok (eD xs ys (fs.map (·.offset))) w
 | [],w,_,_,_=>rfl
 | f :: fs,w,h,hx,hy=>by
   simp only [List.all_cons,Bool.and_eq_true,decide_eq_true_eq] at h
   obtain ⟨⟨h1,h2⟩,h3⟩:=h
   simp only [dy,List.map_cons,List.all_cons,Bool.and_eq_true] at hx hy
   have ih:=gl d xs ys fs w h3 hx.2 hy.2
   obtain ⟨k,hk⟩:∃ k,P.underlying f.type=some (.int k):=by
     unfold lx at h2;split at h2
     · exact ⟨_,by assumption⟩
     · cases h2
   have hp:P.plainKey f.type=true:=by unfold Program.plainKey;rw [hk]
   have key:∀ zs:Array Value,(eG zs f.offset).isSome=true→∃ a,zs[f.offset]? = some (.int .i64 a)∧eG zs f.offset=some a:=fun zs hz=>by
     unfold eG at hz ⊢
     split at hz
     · rename_i a hh;exact ⟨a,hh,rfl⟩
     · cases hz
   obtain ⟨a,ha,ha'⟩:=key xs hx.1
   obtain ⟨b,hb,hb'⟩:=key ys hy.1
   simp only [Op.eqFields,if_pos h1,Sem.run_bind,run_part_plain w hp ha,run_part_plain w hp hb,Result.andThen_ok,run_equalIn_int w d f.type .i64 k a b hk,Sem.run_ite,Sem.run_pure,ih]
   simp only [eD,List.map_cons,List.all_cons,ha',hb']
   cases h:(a == b)<;>simp
end Go.Sy

namespace Go.Sy
open Go.RowKit Go.Lp Go.MapKept
section
variable {P:Program}
def cH(k:ByteArray × ByteArray):Value:=.agg #[.string k.1,.string k.2]
theorem pQ(a b:ByteArray × ByteArray)(h:cH a=cH b):a=b:=by
 unfold cH at h
 injection h with h
 simp at h
 exact Prod.ext h.1 h.2
theorem lR(d:Nat)(t:TypeId)(a b:ByteArray)(w:World)(h:P.underlying t=some .string):(Op.equalIn (d+1) t (.string a) (.string b)).run P w=.ok (decide (a=b)) w:=by
 have:(a == b)=decide (a=b):=by rw [Bool.eq_iff_iff,bytes_beq,decide_eq_true_eq]
 simp [Op.equalIn,run_underlying h,this]
theorem ku{e:TypeId}(he:P.underlying e=some .string){xs:Array Value}{off:Nat}{v:Value}(hx:xs[off]? = some v)(w:World):(part e xs off).run P w=.ok v w :=
 run_part_plain w (by unfold Program.plainKey;rw [he]) hx
theorem xu{kt:TypeId}(hwide:(match P.underlying kt with | some (.array _ _) | some (.struct _)=>true | _=>false)=true)(heq:∀ (w:World) (a b:ByteArray × ByteArray),(Op.equal kt (cH a) (cH b)).run P w=.ok (decide (a=b)) w)(w:World)(x:ByteArray × ByteArray)(es:List MapEntry)(hes:∀ e∈es,∃ a,e.key=cH a) :
   ((Instr.findKey kt (cH x) es).run P w=.ok none w∧∀ e∈es,e.key≠cH x)∨∃ j e,(Instr.findKey kt (cH x) es).run P w=.ok (some (j,e.val)) w∧es[j]? = some e∧e.key=cH x:=by
 have key:∀ (es:List MapEntry) (i:Nat),(∀ e∈es,∃ a,e.key=cH a) →
     ((Instr.findAsking kt (cH x) es i).run P w=.ok none w∧∀ e∈es,e.key≠cH x)∨∃ j e,(Instr.findAsking kt (cH x) es i).run P w=.ok (some (i+j,e.val)) w∧es[j]? = some e∧e.key=cH x:=by
   intro es
   induction es with
   | nil=>intro i _;exact .inl ⟨by simp [Instr.findAsking],fun e he=>by cases he⟩
   | cons e es ih =>
     intro i hall
     obtain ⟨a,ha⟩:=hall e List.mem_cons_self
     have hr:=heq w x a
     by_cases hxa:x=a
     · refine .inr ⟨0,e,?_,rfl,by rw [ha,hxa]⟩
       rw [decide_eq_true hxa] at hr
       simp [Instr.findAsking,ha,hr]
     · rw [decide_eq_false hxa] at hr
       rcases ih (i+1) (fun y hy=>hall y (List.mem_cons_of_mem _ hy)) with ⟨h1,h2⟩ | ⟨j,e',h1,h2,h3⟩
       · refine .inl ⟨by simp [Instr.findAsking,ha,hr,h1],fun y hy => ?_⟩
         rcases List.mem_cons.1 hy with rfl | hy
         · rw [ha];exact fun hh=>hxa (pQ _ _ hh).symm
         · exact h2 y hy
       · exact .inr ⟨j+1,e',by simp [Instr.findAsking,ha,hr,h1,Nat.add_assoc,Nat.add_comm 1 j],by simpa using h2,h3⟩
 rw [run_findKey_eq w hwide]
 rcases key es 0 hes with h | ⟨j,e,h1,h2,h3⟩
 · exact .inl h
 · exact .inr ⟨j,e,by simpa using h1,h2,h3⟩
theorem uK(w:World)(a:ByteArray × ByteArray):(Instr.keyThatStays (cH a) (cH a)).run P w=.ok (cH a) w:=by
 have:Instr.sameBits 10000 (cH a) (cH a)=true:=by simp [cH,Instr.sameBits,bytes_beq]
 simp [Instr.keyThatStays,this]
theorem wi(em:Bool)(m:Nat){e:TypeId}(he:P.underlying e=some .string)(v:ByteArray)(w:World):(Instr.checkKey em (m+1) e (.string v)).run P w=.ok () w:=by simp [Instr.checkKey,run_underlying he]
theorem sJ{kt e:TypeId}{i:TypeInfo}(hu:P.underlying kt=some (.array 2 e))(hi:P.info? e=some i)(hc:P.cellsOf e=1)(he:P.underlying e=some .string)(w:World)(em:Bool)(m:Nat)(a:ByteArray × ByteArray):(Instr.checkKey em (m+1+1) kt (cH a)).run P w=.ok () w:=by
 have h1:(part e #[Value.string a.1,Value.string a.2] 0).run P w=.ok (.string a.1) w:=ku he rfl w
 have h2:(part e #[Value.string a.1,Value.string a.2] 1).run P w=.ok (.string a.2) w:=ku he rfl w
 unfold cH Instr.checkKey
 simp only [Sem.run_bind,run_underlying hu,Result.andThen_ok]
 simp only [Std.Legacy.Range.forIn_eq_forIn_range',Std.Legacy.Range.size]
 simp [List.range',run_sizeOf w hi,hc,h1,h2,wi em m he]
theorem zA{kt e:TypeId}{i:TypeInfo}(hu:P.underlying kt=some (.array 2 e))(hi:P.info? e=some i)(hc:P.cellsOf e=1)(he:P.underlying e=some .string)(w:World)(m:Nat)(a b:ByteArray × ByteArray):(Op.equalIn (m+1+1) kt (cH a) (cH b)).run P w=.ok (decide (a=b)) w:=by
 have h1:∀ x y:ByteArray,(part e #[Value.string x,Value.string y] 0).run P w=.ok (.string x) w:=fun x y=>ku he rfl w
 have h2:∀ x y:ByteArray,(part e #[Value.string x,Value.string y] 1).run P w=.ok (.string y) w:=fun x y=>ku he rfl w
 unfold cH
 rw [run_equalIn_array w (m+1) _ _ hu hi,hc]
 simp only [List.range_succ,List.range_zero,List.nil_append,List.cons_append,Op.eqItems,Sem.run_bind,Nat.zero_mul,Nat.one_mul,h1,h2,Result.andThen_ok,lR m e _ _ w he]
 by_cases e1:a.1=b.1<;>by_cases e2:a.2=b.2<;>simp [e1,e2,h2,lR m e _ _ w he,Prod.ext_iff]
theorem zg{kt e:TypeId}{i:TypeInfo}(hu:P.underlying kt=some (.array 2 e))(hi:P.info? e=some i)(hc:P.cellsOf e=1)(he:P.underlying e=some .string):fh P kt cH where
 inj:=pQ
 check w em a:=sJ hu hi hc he w em 9998 a
 find:=xu (by rw [hu]) fun w a b=>zA hu hi hc he w 9998 a b
 stays:=uK
theorem pR{kt e:TypeId}(hu:P.underlying kt=some (.array 2 e))(hi:(P.info? e).isSome=true)(hc:P.cellsOf e=1)(he:P.underlying e=some .string):fh P kt cH :=
 let ⟨_,h⟩:=Option.isSome_iff_exists.1 hi
 zg hu h hc he
end
end Go.Sy

namespace Go.Sy
open Go.RowKit Go.Lp
abbrev eI(z:Int):Value:=.int .i64 z
def gR(s:ByteArray):Value:=.string s
def vBo(b:Bool):Value:=.bool b
def ft{α:Type}[DecidableEq α](l:List α):α→Option Bool:=fun a=>if a∈l then some true else none
theorem kA{α:Type}[DecidableEq α]:(fun _:α=>(none:Option Bool))=ft []:=by funext a;simp [ft]
theorem gD{α:Type}[DecidableEq α](l:List α)(a:α):ft (l++[a])=fJ (ft l) a true:=by
 funext b;unfold ft fJ
 by_cases h:b=a
 · subst h;simp
 · by_cases hb:b∈l<;>simp [h,hb]
theorem kz{α:Type}[DecidableEq α](l:List α)(a:α):(ft l a).getD false=decide (a∈l):=by
 unfold ft;by_cases h:a∈l<;>simp [h]
end Go.Sy

