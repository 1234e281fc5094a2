/- Parts of the proof, in build order. No condition. -/
import Derived.Test.YtfkcmbonmpcbfaaGreatRa05
import Derived.Test.YtfkcmbonmpcbfaaGreatRa08
import Derived.Test.YtfkcmbonmpcbfaaGreatRa04
import Derived.Sort.Walk0
import Derived.Test.YtfkcmbonmpcbfaaGreatRa07
import Derived.Test.YtfkcmbonmpcbfaaGreatRa06
import Derived.ChangeKeysEq
import Derived.Lib.Bytealg
import Derived.Test.YtfkcmbonmpcbfaaGreatProg
import Derived.Ground.NamesProg
import Derived.Shelf.Sort.Plain
import Derived.Ground.Names2Prog
import Derived.Shelf.Slices.CompactI
import Derived.Shelf.Slices.Clone
import Derived.Shelf.Slices.Reverse
import Derived.Shelf.Slices.In.SortNone
import Derived.Laws.CopyRow
import Derived.Shelf.Bits.Mul64
set_option linter.unusedSimpArgs false
set_option linter.unusedVariables false
set_option maxHeartbeats 1000000
set_option maxRecDepth 20000
namespace Go.Sy
open Go.RowKit
section
variable {P:Program} {f:FuncId} {fn:Func} {c:Code} {ps:List Per} {hp:List Res} {R:Value→List Per→List Res→Prop} {v0 v1 v2 v3 v4 v5 v6 v7:Value}
theorem EN1(hf:P.funcs[f]? = some fn)(hb:fn.body=some c)(h:awp P ⟨fn.ntmps,none,[]⟩ c (gk P fn R) ⟨[(0,true,v0)],ps,hp⟩)(hl:Nat.ble 1 fn.ntmps=true:=by kernel_rfl):Con P f [v0] ps hp R:=Con.enter hf hb (Nat.le_of_ble_eq_true hl) h
theorem EN2(hf:P.funcs[f]? = some fn)(hb:fn.body=some c)(h:awp P ⟨fn.ntmps,none,[]⟩ c (gk P fn R) ⟨[(0,true,v0),(1,true,v1)],ps,hp⟩)(hl:Nat.ble 2 fn.ntmps=true:=by kernel_rfl):Con P f [v0,v1] ps hp R:=Con.enter hf hb (Nat.le_of_ble_eq_true hl) h
theorem EN3(hf:P.funcs[f]? = some fn)(hb:fn.body=some c)(h:awp P ⟨fn.ntmps,none,[]⟩ c (gk P fn R) ⟨[(0,true,v0),(1,true,v1),(2,true,v2)],ps,hp⟩)(hl:Nat.ble 3 fn.ntmps=true:=by kernel_rfl):Con P f [v0,v1,v2] ps hp R:=Con.enter hf hb (Nat.le_of_ble_eq_true hl) h
theorem EN4(hf:P.funcs[f]? = some fn)(hb:fn.body=some c)(h:awp P ⟨fn.ntmps,none,[]⟩ c (gk P fn R) ⟨[(0,true,v0),(1,true,v1),(2,true,v2),(3,true,v3)],ps,hp⟩)(hl:Nat.ble 4 fn.ntmps=true:=by kernel_rfl):Con P f [v0,v1,v2,v3] ps hp R:=Con.enter hf hb (Nat.le_of_ble_eq_true hl) h
theorem EN5(hf:P.funcs[f]? = some fn)(hb:fn.body=some c)(h:awp P ⟨fn.ntmps,none,[]⟩ c (gk P fn R) ⟨[(0,true,v0),(1,true,v1),(2,true,v2),(3,true,v3),(4,true,v4)],ps,hp⟩)(hl:Nat.ble 5 fn.ntmps=true:=by kernel_rfl):Con P f [v0,v1,v2,v3,v4] ps hp R:=Con.enter hf hb (Nat.le_of_ble_eq_true hl) h
theorem EN6(hf:P.funcs[f]? = some fn)(hb:fn.body=some c)(h:awp P ⟨fn.ntmps,none,[]⟩ c (gk P fn R) ⟨[(0,true,v0),(1,true,v1),(2,true,v2),(3,true,v3),(4,true,v4),(5,true,v5)],ps,hp⟩)(hl:Nat.ble 6 fn.ntmps=true:=by kernel_rfl):Con P f [v0,v1,v2,v3,v4,v5] ps hp R:=Con.enter hf hb (Nat.le_of_ble_eq_true hl) h
theorem EN7(hf:P.funcs[f]? = some fn)(hb:fn.body=some c)(h:awp P ⟨fn.ntmps,none,[]⟩ c (gk P fn R) ⟨[(0,true,v0),(1,true,v1),(2,true,v2),(3,true,v3),(4,true,v4),(5,true,v5),(6,true,v6)],ps,hp⟩)(hl:Nat.ble 7 fn.ntmps=true:=by kernel_rfl):Con P f [v0,v1,v2,v3,v4,v5,v6] ps hp R:=Con.enter hf hb (Nat.le_of_ble_eq_true hl) h
theorem EN8(hf:P.funcs[f]? = some fn)(hb:fn.body=some c)(h:awp P ⟨fn.ntmps,none,[]⟩ c (gk P fn R) ⟨[(0,true,v0),(1,true,v1),(2,true,v2),(3,true,v3),(4,true,v4),(5,true,v5),(6,true,v6),(7,true,v7)],ps,hp⟩)(hl:Nat.ble 8 fn.ntmps=true:=by kernel_rfl):Con P f [v0,v1,v2,v3,v4,v5,v6,v7] ps hp R:=Con.enter hf hb (Nat.le_of_ble_eq_true hl) h
end
section
variable {P:Program} {n:Fr} {ops:Array Oper} {Q:Exit→Sta→Prop} {s:Sta} {K:Sta→Prop}
theorem DR{l:List Oper}{id:Nat}(V:List Nat)(m:Nat)(h:aB P n l.toArray V Q m (Array.replicate m false) s)(hl:l.length=m:=by rfl)(hm:P.follows .mixedOrders=true:=by kernel_rfl):awp P n (.region id l.toArray true) Q s:=by
 subst hl;exact yF V hm h
theorem DC{l:List Oper}{id:Nat}(V W Z:List Nat)(m:Nat)(h:aC P n l.toArray V W Z Q m (Array.replicate m false) s)(hl:l.length=m:=by rfl)(hm:P.follows .mixedOrders=true:=by kernel_rfl):awp P n (.region id l.toArray true) Q s:=by
 subst hl;exact vY V W Z hm h
section
variable {fn:Func} {R:Value→List Per→List Res→Prop}
theorem FZ1{t:Nat}{v:Value}(lh:List Nat)(hr:fn.results = #[.tmp t])(hl:look s.env t=some (true,v))(h:R v (fD s.ps []) (cO s.hp lh))(ok:okH s.hp lh=true:=by rfl):gk P fn R .ret s:=iX [] lh ok hr hl h (.inr rfl)
theorem FZ2{t u:Nat}{v v':Value}(lh:List Nat)(hr:fn.results = #[.tmp t,.tmp u])(hl:look s.env t=some (true,v))(hl':look s.env u=some (true,v'))(h:R (.tuple #[v,v']) (fD s.ps []) (cO s.hp lh))(ok:okH s.hp lh=true:=by rfl):gk P fn R .ret s:=aeq [] lh ok hr hl hl' h (.inr rfl)
theorem FZ0(lh:List Nat)(hr:fn.results = #[])(h:R (.tuple #[]) (fD s.ps []) (cO s.hp lh))(ok:okH s.hp lh=true:=by rfl):gk P fn R .normal s:=th [] lh ok hr h (.inl rfl)
end
variable {env:Env} {ps ps':List Per} {hp hp':List Res} {d:Nat} {op:Op} {ty:TypeId} {pos:String} {af:Array Edge} {gd:Option (Nat × Bool)} {rest:List Oper} {v:Value} {x:Operand} {o:Oper} {V W Z:List Nat} {k:Nat} {L L':Array Bool} {T:TypeId} {j b p u:Nat} {c:Bool} {U:TypeId} {ag:Bool} {m:Nat} {cs:List Value} {row:List D}
theorem CST(h:aC P n ops V W Z Q k L' ⟨env,ps',hp'⟩)(hL:L=L':=by (try simp only [nO,nK,nL]);rfl)(h1:ps=ps':=by (try simp only [nM,nN]);rfl)(h0:hp=hp':=by (try simp only [cO,nQ,nR,iU,place,Nat.reduceBEq,if_true,if_false,reduceIte,Nat.reduceAdd,nW]);rfl):aC P n ops V W Z Q k L ⟨env,ps,hp⟩:=ad5 hL h1 h0 h
theorem VO(i off:Nat)(hi:ops[i]? = some ⟨some d,.fieldAddr T x j,ty,pos,af,gd⟩)(h:okU ops env n.size ⟨some d,.fieldAddr T x j,ty,pos,af,gd⟩=true)(hx:ev env x=some (true,.pointer (some ⟨b,u,none⟩)))
   (hK:aB P n ops V Q k (L.setIfInBounds i true) ⟨(d,true,.pointer (some ⟨b,u+off,none⟩))::env,ps,hp⟩) (h0:nq P T j=some off:=by kernel_rfl) (hf:ei ops V L i=true:=by kernel_rfl):aB P n ops V Q (k+1) L ⟨env,ps,hp⟩:=bV i hi h (qFA hx h0) hK hf
theorem VN{a:Addr}(i:Nat)(hi:ops[i]? = some ⟨some d,.nilCheck x,ty,pos,af,gd⟩)(h:okU ops env n.size ⟨some d,.nilCheck x,ty,pos,af,gd⟩=true)(hx:ev env x=some (true,.pointer (some a)))
   (hK:aB P n ops V Q k (L.setIfInBounds i true) ⟨(d,true,.pointer (some a))::env,ps,hp⟩) (hf:ei ops V L i=true:=by kernel_rfl):aB P n ops V Q (k+1) L ⟨env,ps,hp⟩:=bV i hi h (cD hx) hK hf
theorem VM(i:Nat)(hi:ops[i]? = some ⟨some d,.move x,ty,pos,af,gd⟩)(h:mvU ops env n.size ⟨some d,.move x,ty,pos,af,gd⟩ x=some v)
   (hK:aB P n ops V Q k (L.setIfInBounds i true) ⟨(d,true,v)::env,ps,hp⟩) (hf:ei ops V L i=true:=by kernel_rfl):aB P n ops V Q (k+1) L ⟨env,ps,hp⟩:=bV i hi (rX h).1 (aS (rX h).2) hK hf
theorem VD(i w:Nat)(hk:tyk P U=some (ag,m))(q:Nat)(hi:ops[i]? = some ⟨some d,.load U x,ty,pos,af,gd⟩)(h:okU ops env n.size ⟨some d,.load U x,ty,pos,af,gd⟩=true)(hx:ev env x=some (true,.pointer (some ⟨b,p+w,none⟩)))(hq:ps[q]? = some (At b p row))(hv:rdD ag m row w=some v)
   (hK:aB P n ops V Q k (L.setIfInBounds i true) ⟨(d,true,v)::env,ps,hp⟩) (hf:ei ops V L i=true:=by kernel_rfl):aB P n ops V Q (k+1) L ⟨env,ps,hp⟩:=bV i hi h (bg (o:=w) hk hx (.of (aI q hq)) hv) hK hf
theorem VL(i w:Nat)(hk:tyk P U=some (ag,m))(hi:ops[i]? = some ⟨some d,.load U x,ty,pos,af,gd⟩)(h:okU ops env n.size ⟨some d,.load U x,ty,pos,af,gd⟩=true)(hx:ev env x=some (true,.pointer (some ⟨b,u,none⟩)))(hq:hp[w]? = some (Box b T cs))(hv:rdC ag m cs u=some v)
   (hK:aB P n ops V Q k (L.setIfInBounds i true) ⟨(d,true,v)::env,ps,hp⟩) (hf:ei ops V L i=true:=by kernel_rfl):aB P n ops V Q (k+1) L ⟨env,ps,hp⟩:=bV i hi h (bJ w hk hx hq hv) hK hf
theorem UO(off:Nat)(h:okU ops env n.size ⟨some d,.fieldAddr T x j,ty,pos,af,gd⟩=true)(hx:ev env x=some (true,.pointer (some ⟨b,u,none⟩)))(hK:aL P n ops Q rest ⟨(d,true,.pointer (some ⟨b,u+off,none⟩))::env,ps,hp⟩)(h0:nq P T j=some off:=by kernel_rfl) :
   aL P n ops Q (⟨some d,.fieldAddr T x j,ty,pos,af,gd⟩::rest) ⟨env,ps,hp⟩:=aU h (qFA hx h0) hK
theorem UN{a:Addr}(h:okU ops env n.size ⟨some d,.nilCheck x,ty,pos,af,gd⟩=true)(hx:ev env x=some (true,.pointer (some a)))(hK:aL P n ops Q rest ⟨(d,true,.pointer (some a))::env,ps,hp⟩) :
   aL P n ops Q (⟨some d,.nilCheck x,ty,pos,af,gd⟩::rest) ⟨env,ps,hp⟩:=aU h (cD hx) hK
theorem UL(w:Nat)(hk:tyk P U=some (ag,m))(h:okU ops env n.size ⟨some d,.load U x,ty,pos,af,gd⟩=true)(hx:ev env x=some (true,.pointer (some ⟨b,u,none⟩)))(hq:hp[w]? = some (Box b T cs))(hv:rdC ag m cs u=some v)
   (hK:aL P n ops Q rest ⟨(d,true,v)::env,ps,hp⟩):aL P n ops Q (⟨some d,.load U x,ty,pos,af,gd⟩::rest) ⟨env,ps,hp⟩:=aU h (bJ w hk hx hq hv) hK
theorem UD(w:Nat)(hk:tyk P U=some (ag,m))(q:Nat)(h:okU ops env n.size ⟨some d,.load U x,ty,pos,af,gd⟩=true)(hx:ev env x=some (true,.pointer (some ⟨b,p+w,none⟩)))(hq:ps[q]? = some (At b p row))(hv:rdD ag m row w=some v)
   (hK:aL P n ops Q rest ⟨(d,true,v)::env,ps,hp⟩):aL P n ops Q (⟨some d,.load U x,ty,pos,af,gd⟩::rest) ⟨env,ps,hp⟩:=aU h (bg (o:=w) hk hx (.of (aI q hq)) hv) hK
theorem GO(off:Nat)(hc:guardOf ops env ⟨some d,.fieldAddr T x j,ty,pos,af,gd⟩=some c)(hd:fits n.size (some d)=true)(hx:ev env x=some (true,.pointer (some ⟨b,u,none⟩)))(hK:aL P n ops Q rest ⟨(d,c,.pointer (some ⟨b,u+off,none⟩))::env,ps,hp⟩)(h0:nq P T j=some off:=by kernel_rfl) :
   aL P n ops Q (⟨some d,.fieldAddr T x j,ty,pos,af,gd⟩::rest) ⟨env,ps,hp⟩:=aG hc hd (fun _=>qFA hx h0) hK
theorem GL(w:Nat)(hk:tyk P U=some (ag,m))(hc:guardOf ops env ⟨some d,.load U x,ty,pos,af,gd⟩=some c)(hd:fits n.size (some d)=true)(hx:ev env x=some (c,.pointer (some ⟨b,u,none⟩)))(hq:hp[w]? = some (Box b T cs))(hv:rdC ag m cs u=some v)
   (hK:aL P n ops Q rest ⟨(d,c,v)::env,ps,hp⟩):aL P n ops Q (⟨some d,.load U x,ty,pos,af,gd⟩::rest) ⟨env,ps,hp⟩:=aG hc hd (fun hc=>bJ w hk (ae hx hc) hq hv) hK
theorem CF(i:Nat)(hi:ops[i]? = some ⟨some d,op,ty,pos,af,gd⟩)(hc:guardOf ops env ⟨some d,op,ty,pos,af,gd⟩=some true)(hd:fits n (some d)=true)(hq:Quiet P n ⟨some d,op,ty,pos,af,gd⟩ ⟨env,ps,[]⟩ v)
   (h:aC P n ops V W Z Q k (L.setIfInBounds i true) ⟨(d,true,v)::env,ps,hp⟩) (hf:fI ops [] L i=true:=by kernel_rfl):aC P n ops V W Z Q (k+1) L ⟨env,ps,hp⟩:=aen i hi hf true hc hd (fun _=>hq) h
theorem CQ(i:Nat)(hi:ops[i]? = some ⟨some d,op,ty,pos,af,gd⟩)(hc:guardOf ops env ⟨some d,op,ty,pos,af,gd⟩=some true)(hd:fits n (some d)=true)(hq:Quiet P n ⟨some d,op,ty,pos,af,gd⟩ ⟨env,ps,hp⟩ v)
   (h:aC P n ops V W Z Q k (L.setIfInBounds i true) ⟨(d,true,v)::env,ps,hp⟩) (hf:fI ops V L i=true:=by kernel_rfl):aC P n ops V W Z Q (k+1) L ⟨env,ps,hp⟩:=aeo i hi hf true hc hd (fun _=>hq) h
theorem VE(i:Nat)(hi:ops[i]? = some o)(hc:guardOf ops s.env o=some true)(h:Eff P n o s false (aB P n ops V Q k (L.setIfInBounds i true)))(hr:Region.ready .any ops L=[i]:=by kernel_rfl)(hq:V.contains i=true:=by rfl):aB P n ops V Q (k+1) L s:=fx (q:=false) i hi hr hq hc h
theorem VB{t:Nat}{T E:TypeId}{len:Nat}{l:List (Nat × Operand)}{xs:List Operand}{vs zs cs:List Value}{rows:List (List D)}(i:Nat)(hi:ops[i]? = some ⟨some t,.buildSlice T len l.toArray,ty,pos,af,gd⟩)(hel:elB P T E zs.length=true)(hxs:l.map (·.2)=xs)(hc:guardOf ops env ⟨some t,.buildSlice T len l.toArray,ty,pos,af,gd⟩=some true)(hx:evs env xs=some vs)
   (hb:bld (fun i=>some (i*zs.length,zs.length)) (lF len zs) ((l.map (·.1)).zip vs)=some cs) (hrc:RCs ps zs.length cs rows) (hrl:rows.length=len) (ht:fits n.size (some t)=true)
   (h:∀ ad,aB P n ops V Q k (L.setIfInBounds i true) ⟨(t,true,.slice ad len len)::env,Sh (.slice ad len len) (.sl rows)::ps,hp⟩) (hr:Region.ready .any ops L=[i]:=by kernel_rfl) (hz:fm P E=some zs:=by kernel_rfl) (h0:0<zs.length:=by decide) (hlen:0<len:=by decide) (hsm:len*zs.length≤16777216:=by decide) :
   aB P n ops V Q (k+1) L ⟨env,ps,hp⟩:=acf i hi hr hel hz h0 hlen hsm hxs hc hx hb hrc hrl ht h
theorem WL{q:Bool}{t:Nat}{T E:TypeId}{len:Nat}{l:List (Nat × Operand)}{xs:List Operand}{vs zs cs:List Value}{rows:List (List D)}(hel:elB P T E zs.length=true)(hxs:l.map (·.2)=xs)(hx:evs env xs=some vs)(hb:bld (fun i=>some (i*zs.length,zs.length)) (lF len zs) ((l.map (·.1)).zip vs)=some cs)(hr:RCs ps zs.length cs rows)(hrl:rows.length=len)(ht:fits n (some t)=true)
   (hK:∀ ad,K ⟨(t,true,.slice ad len len)::env,ps,hp++[aO (.slice ad len len) E zs.length rows]⟩) (hz:fm P E=some zs:=by kernel_rfl) (h0:0<zs.length:=by decide) (hlen:0<len:=by decide) (hsm:len*zs.length≤16777216:=by decide) :
   Eff P n ⟨some t,.buildSlice T len l.toArray,ty,pos,af,gd⟩ ⟨env,ps,hp⟩ q K:=ab4 hel hz h0 hlen hsm hxs hx hb hr hrl ht hK
theorem QC{f:FuncId}{l:List Operand}{ts:Array TypeId}{vs:List Value}(hx:evs s.env l=some vs)(hc:∀ w S fp,St w S fp s.ps s.hp→Calls P f vs.toArray w fun e w'=>e=.returned v∧Below w.heap.size w w')(hf:dV P f=true:=by kernel_rfl) :
   Quiet P n ⟨some d,.call ⟨.value (.func f),l.toArray,ts⟩,ty,pos,af,gd⟩ s v:=fe hf hx hc
theorem Q0{f:FuncId}{l:List Operand}{ts:Array TypeId}{vs:List Value}(hx:evs s.env l=some vs)(h:Con P f vs [] [] fun u _ _=>u=v)(hf:dV P f=true:=by kernel_rfl) :
   Quiet P n ⟨some d,.call ⟨.value (.func f),l.toArray,ts⟩,ty,pos,af,gd⟩ s v:=fe hf hx fun _ _ _ hst=>h.quiet0 hst
theorem Q1{f:FuncId}{l:List Operand}{ts:Array TypeId}{vs:List Value}{r:Per}(hx:evs s.env l=some vs)(h:Con P f vs [r] [] fun u _ _=>u=v)(q:Nat)(hq:s.ps[q]? = some r)(hf:dV P f=true:=by kernel_rfl) :
   Quiet P n ⟨some d,.call ⟨.value (.func f),l.toArray,ts⟩,ty,pos,af,gd⟩ s v:=fe hf hx fun _ _ _ hst=>h.quiet1 (aI q hq) hst
theorem XI{E:TypeId}{y:Operand}{sz e nn cc:Nat}{z:Int}{ad:Option Addr}{rows:List (List D)}(i:Nat)(hT:P.underlying T=some (.slice E))(hk:tyk P E=some (ag,sz))(q:Nat)(hi:ops[i]? = some ⟨some d,.indexAddr T x y,ty,pos,af,gd⟩)(hc:guardOf ops env ⟨some d,.indexAddr T x y,ty,pos,af,gd⟩=some true)(hd:fits n.size (some d)=true)
   (hx:ev env x=some (true,.slice ad nn cc)) (hq:ps[q]? = some (Sh (.slice ad nn cc) (.sl rows))) (hy:ev env y=some (true,.int .i64 z)) (hr:rows[e]? = some row) (hz:z=(e:Int)) (hl:row.length=sz)
   (h:∀ a:Nat × Nat,aB P n ops V Q k (L.setIfInBounds i true) ⟨(d,true,.pointer (some ⟨a.1,a.2,none⟩))::env,cnd true (At a.1 a.2 row)::ps,hp⟩) (hf:ei ops V L i=true:=by kernel_rfl):aB P n ops V Q (k+1) L ⟨env,ps,hp⟩ :=
 qU i hi hf true hc hd (fun _=>bI hT hk hx (.of (aI q hq)) hy hr hz hl) (fun h=>absurd h (by decide)) h
theorem UI{E:TypeId}{y:Operand}{sz e nn cc:Nat}{z:Int}{ad:Option Addr}{rows:List (List D)}(hT:P.underlying T=some (.slice E))(hk:tyk P E=some (ag,sz))(q:Nat)(hc:guardOf ops env ⟨some d,.indexAddr T x y,ty,pos,af,gd⟩=some true)(hd:fits n.size (some d)=true)
   (hx:ev env x=some (true,.slice ad nn cc)) (hq:ps[q]? = some (Sh (.slice ad nn cc) (.sl rows))) (hy:ev env y=some (true,.int .i64 z)) (hr:rows[e]? = some row) (hz:z=(e:Int)) (hl:row.length=sz)
   (h:∀ a:Nat × Nat,aL P n ops Q rest ⟨(d,true,.pointer (some ⟨a.1,a.2,none⟩))::env,cnd true (At a.1 a.2 row)::ps,hp⟩):aL P n ops Q (⟨some d,.indexAddr T x y,ty,pos,af,gd⟩::rest) ⟨env,ps,hp⟩ :=
 iJ true hc hd (fun _=>bI hT hk hx (.of (aI q hq)) hy hr hz hl) (fun h=>absurd h (by decide)) h
theorem VT(i w:Nat)(hk:tyk P U=some (ag,m))(q:Nat)(hi:ops[i]? = some ⟨some d,.load U x,ty,pos,af,gd⟩)(h:okU ops env n.size ⟨some d,.load U x,ty,pos,af,gd⟩=true)(hx:ev env x=some (true,.pointer (some ⟨b,p+w,none⟩)))(hq:ps[q]? = some (cnd c (At b p row)))(hc:c=true)(hv:rdD ag m row w=some v)
   (hK:aB P n ops V Q k (L.setIfInBounds i true) ⟨(d,true,v)::env,ps,hp⟩) (hf:ei ops V L i=true:=by kernel_rfl):aB P n ops V Q (k+1) L ⟨env,ps,hp⟩:=bV i hi h (gz (o:=w) hk hx (aI q hq) hc hv) hK hf
theorem US(w:Nat)(hk:tyk P U=some (ag,m))(q:Nat)(h:okU ops env n.size ⟨some d,.load U x,ty,pos,af,gd⟩=true)(hx:ev env x=some (true,.pointer (some ⟨b,p+w,none⟩)))(hq:ps[q]? = some (cnd c (At b p row)))(hc:c=true)(hv:rdD ag m row w=some v)
   (hK:aL P n ops Q rest ⟨(d,true,v)::env,ps,hp⟩):aL P n ops Q (⟨some d,.load U x,ty,pos,af,gd⟩::rest) ⟨env,ps,hp⟩:=aU h (gz (o:=w) hk hx (aI q hq) hc hv) hK
theorem BN(h:Q .normal s)(hr:Region.ready .any ops L=[]:=by kernel_rfl):aB P n ops V Q 0 L s:=ada hr h
theorem LT(hc:guardOf ops s.env o=some true)(h:Eff P n o s true (aL P n ops Q rest)):aL P n ops Q (o::rest) s:=aD hc h
theorem LF(hc:guardOf ops s.env o=some true)(h:Eff P n o s false (aL P n ops Q rest)):aL P n ops Q (o::rest) s:=aD hc h
theorem EC{t:Nat}{f:FuncId}{l:List Operand}{ts:Array TypeId}{vs:List Value}{q:Bool}{R:Value→List Per→List Res→Prop}(lp lh:List Nat)(hx:evs env l=some vs)(hc:Con P f vs (fD ps lp) (cO hp lh) R)(hK:∀ v ps' hp',R v ps' hp'→K ⟨(t,true,v)::env,ps'++ps,iU lh hp' 0 hp⟩)
   (hf:dV P f=true:=by kernel_rfl) (ht:fits n (some t)=true:=by rfl) (ok:okH hp lh=true:=by rfl) (hq:(!q || lh.isEmpty)=true:=by rfl):Eff P n ⟨some t,.call ⟨.value (.func f),l.toArray,ts⟩,ty,pos,af,gd⟩ ⟨env,ps,hp⟩ q K:=aaV lp lh hf hx ht ok hq hc hK
abbrev ZI:List Value:=[.string .empty,.bool false,.int .i64 0,.int .i64 0,.int .i64 0,.string .empty,.string .empty,.int .i64 0,.slice none 0 0,.slice none 0 0,.slice none 0 0,.slice none 0 0,.slice none 0 0,.slice none 0 0,.slice none 0 0,.slice none 0 0,.int .i64 0,.slice none 0 0,.slice none 0 0,.slice none 0 0,.slice none 0 0,.slice none 0 0,.slice none 0 0,.slice none 0 0,.slice none 0 0,.slice none 0 0]
end
end Go.Sy

namespace Go.Sy
open Go.RowKit Go.Lp
theorem adh{a b:ByteArray}(h:a.toList=b.toList):a=b:=by
 have key:∀ (x:ByteArray),x.toList=x.data.toList:=fun x=>by
   have loop:∀ (n i:Nat) (acc:List UInt8),x.size-i=n→ByteArray.toList.loop x i acc=acc.reverse++x.data.toList.drop i:=by
     intro n
     induction n with
     | zero =>
       intro i acc h
       unfold ByteArray.toList.loop
       have hle:x.data.size≤i:=by have:x.size=x.data.size:=rfl;omega
       rw [if_neg (by omega),List.drop_eq_nil_of_le (by simpa using hle),List.append_nil]
     | succ n ih =>
       intro i acc h
       unfold ByteArray.toList.loop
       have hlt:i<x.size:=by omega
       have hlt':i<x.data.toList.length:=by simpa using hlt
       rw [if_pos hlt,ih (i+1) _ (by omega),List.drop_eq_getElem_cons hlt']
       have:x.get! i=x.data.toList[i]:=by
         show x.data[i]! = _
         rw [getElem!_pos x.data i (by simpa using hlt)];simp
       rw [this];simp
   unfold ByteArray.toList
   rw [loop _ 0 [] rfl];simp
 rw [key,key] at h
 cases a;cases b
 simp only [ByteArray.mk.injEq]
 exact Array.toList_inj.1 h
theorem wa(a b:ByteArray):(a.toList == b.toList)=decide (a=b):=by
 rw [Bool.eq_iff_iff,beq_iff_eq,decide_eq_true_eq]
 exact ⟨adh,fun h=>h ▸ rfl⟩
section
variable {P:Program} {n:Fr} {d:Option Tmp} {ty:TypeId} {pos:String} {af:Array Edge} {gd:Option (Nat × Bool)} {s:Sta} {x y:Operand} {t t':TypeId} {a b:ByteArray}
theorem jh(hx:ev s.env x=some (true,.string a))(hy:ev s.env y=some (true,.string b)):Quiet P n ⟨d,.binOp .eql t x y t',ty,pos,af,gd⟩ s (.bool (decide (a=b))):=wa a b ▸ adI hx hy
theorem oY(hx:ev s.env x=some (true,.string a))(hy:ev s.env y=some (true,.string b)):Quiet P n ⟨d,.binOp .neq t x y t',ty,pos,af,gd⟩ s (.bool (!decide (a=b))):=wa a b ▸ adL hx hy
theorem adK(hx:ev s.env x=some (true,.string a))(hy:ev s.env y=some (true,.string b)):Quiet P n ⟨d,.binOp .lss t x y t',ty,pos,af,gd⟩ s (.bool (decide (a.toList<b.toList))) :=
 .run2 hx hy fun ρ w h1 h2=>by
   unfold execOp;dsimp only;rw [h1,h2]
   simp only [eqGuard_at_string,Sem.run_bind,Sem.run_pure,binOp_string_lss,Result.andThen_ok,Go.Proofs.bytesLess_eq]
theorem adJ(hx:ev s.env x=some (true,.string a))(hy:ev s.env y=some (true,.string b)):Quiet P n ⟨d,.binOp .gtr t x y t',ty,pos,af,gd⟩ s (.bool (!(decide (a.toList<b.toList) || decide (a=b)))) :=
 .run2 hx hy fun ρ w h1 h2=>by
   unfold execOp;dsimp only;rw [h1,h2]
   simp only [eqGuard_at_string,Sem.run_bind,Sem.run_pure,binOp_string_gtr,Result.andThen_ok,Go.Proofs.bytesLess_eq,wa]
end
section
variable {α β:Type}
def adX(T:TypeId)(sz:Nat)(row:β→List D)(m:α→Option (Sl β)):Res :=
 ⟨fun w S F=>∃ fp:α→bO,(∀ k s,m k=some s→(aO s.val T sz (s.l.map row)).holds w S (fp k))∧(∀ k,m k=none→∀ b,¬ fp k b)∧(∀ k k',k≠k'→∀ b,fp k b→¬ fp k' b)∧∀ b,F b↔∃ k,fp k b,
  fun ⟨fp,h1,h2,h3,h4⟩ k1 k2 k3=>⟨fp,fun k s hk=>(aO s.val T sz (s.l.map row)).mono (h1 k s hk) (fun b hb=>k1 b ((h4 b).2 ⟨k,hb⟩)) k2 k3,h2,h3,h4⟩⟩
variable {T:TypeId} {sz:Nat} {row:β→List D} {m:α→Option (Sl β)} {w:World} {S F:bO}
theorem aeg[DecidableEq α](k:α)(s:Sl β)(hm:m k=none)(h:(gl (adX T sz row m) (aO s.val T sz (s.l.map row))).holds w S F):(adX T sz row (ic m k s)).holds w S F:=by
 obtain ⟨G,H,⟨fp,h1,h2,h3,h4⟩,ho,hd,he⟩:=h
 refine ⟨fun k'=>if k'=k then H else fp k',fun k' s' hs => ?_,fun k' hk' b hb => ?_,fun k1 k2 hne b hb1 hb2 => ?_,fun b => ?_⟩
 · unfold ic at hs
   by_cases hk:k'=k
   · simp only [if_pos hk] at hs ⊢;obtain rfl:=Option.some.inj hs;exact ho
   · simp only [if_neg hk] at hs ⊢;exact h1 k' s' hs
 · unfold ic at hk'
   try dsimp only at hb
   by_cases hk:k'=k
   · simp only [if_pos hk] at hk';cases hk'
   · simp only [if_neg hk] at hk' hb;exact h2 k' hk' b hb
 · dsimp only at hb1 hb2
   by_cases e1:k1=k
   · simp only [if_pos e1] at hb1
     simp only [if_neg (show ¬ k2=k from fun e=>hne (e1.trans e.symm))] at hb2
     exact hd b ((h4 b).2 ⟨k2,hb2⟩) hb1
   · simp only [if_neg e1] at hb1
     by_cases e2:k2=k
     · simp only [if_pos e2] at hb2;exact hd b ((h4 b).2 ⟨k1,hb1⟩) hb2
     · simp only [if_neg e2] at hb2;exact h3 k1 k2 hne b hb1 hb2
 · rw [he b]
   constructor
   · rintro (hb | hb)
     · obtain ⟨k',hb⟩:=(h4 b).1 hb
       exact ⟨k',by simp only [if_neg (show ¬ k'=k from fun e=>h2 k (hm) b (e ▸ hb))];exact hb⟩
     · exact ⟨k,by simp only [if_pos rfl];exact hb⟩
   · rintro ⟨k',hb⟩
     try dsimp only at hb
     by_cases hk:k'=k
     · simp only [if_pos hk] at hb;exact .inr hb
     · simp only [if_neg hk] at hb;exact .inl ((h4 b).2 ⟨k',hb⟩)
def aej(row:β→List D)(m:α→Option (Sl β)):Per:=⟨fun w S=>∀ k s,m k=some s→(ShF row s).holds w S,fun h h1 h2 k s hk=>(ShF row s).mono (h k s hk) h1 h2⟩
theorem Ent.key{ps:List Per}{k:α}{s:Sl β}(h:Ent ps (aej row m))(hk:m k=some s):Ent ps (ShF row s):=fun w S hp=>h w S hp k s hk
variable {P:Program} {n:Fr} {env:Env} {ps:List Per} {hp:List Res} {c:Code} {Q:Exit→Sta→Prop}
end
end Go.Sy

namespace Go.Sy
open Go.RowKit Go.Lp Go.MapKept
section
variable {α β:Type} {κ:α→Value} {ν:β→Value} {m:α→Option β} {P:Program} {kt:TypeId} {n:Fr} {env:Env} {ps:List Per} {hp:List Res} {ty:TypeId} {pos:String} {af:Array Edge} {gd:Option (Nat × Bool)} {d:Option Tmp}
end
section
variable {α β:Type} {κ:α→Value} {ν:β→Value} {m:α→Option β} {P:Program} {kt:TypeId} {n:Fr} {env:Env} {ps:List Per} {hp:List Res} {ty:TypeId} {pos:String} {af:Array Edge} {gd:Option (Nat × Bool)} {K:Sta→Prop} {d:Option Tmp}
theorem Quiet.castV{s:Sta}{o:Oper}{v v':Value}(h:Quiet P n o s v)(e:v=v'):Quiet P n o s v':=e ▸ h
end
end Go.Sy

namespace Go.Sy
open Go.RowKit Go.Lp
section
variable {P:Program} {f:FuncId} {args:List Value} {ps:List Per} {X Y:Type} {I:X→Prop} {I':Y→Prop} {l:X→List Res} {l':Y→List Res}
end
def StE(ps:List Per)(hp:List Res)(ps':List Per)(hp':List Res):Prop:=∀ w S fp,St w S fp ps hp→∃ S' fp',St w S' fp' ps' hp'∧(∀ b,S b→S' b)∧(∀ b,S' b→S b∨tot fp hp.length b)∧∀ b,tot fp' hp'.length b→tot fp hp.length b
section
variable {ps ps1 ps2:List Per} {hp hp1 hp2:List Res}
variable {P:Program} {f:FuncId} {args:List Value} {R R':Value→List Per→List Res→Prop}
theorem Con.conv(h:Con P f args ps hp R)(hr:∀ v ps' hp',R v ps' hp'→∃ ps2 hp2,StE ps' hp' ps2 hp2∧R' v ps2 hp2):Con P f args ps hp R':=fun w S fp hst =>
 (h w S fp hst).mono fun e w' ⟨v,ps',hp',S',fp',he,hR,hst',hE,hg⟩=>by
   obtain ⟨ps2,hp2,hS,hR'⟩:=hr _ _ _ hR
   obtain ⟨S2,f2,a1,a2,a3,a4⟩:=hS w' S' fp' hst'
   refine ⟨v,ps2,hp2,S2,f2,he,hR',a1,⟨hE.os,hE.tape,hE.output,hE.size,hE.drawn,hE.block,fun b hb=>a2 b (hE.more b hb),fun b hb => ?_⟩,fun b hb=>hg b (a4 b hb)⟩
   rcases a3 b hb with h1 | h1
   · exact hE.new b h1
   · rcases hg b h1 with h2 | h2
     · exact .inr (.inl h2)
     · exact .inr (.inr h2)
end
section
variable {P:Program}
end
section
variable {P:Program} {n:Fr} {env:Env} {ps:List Per} {hp:List Res} {ty:TypeId} {pos:String} {af:Array Edge} {gd:Option (Nat × Bool)} {d:Option Tmp}
def acY(P:Program)(T:TypeId):Option (Nat × Nat):=match P.underlying T with
 | some (.array m e)=>(P.info? e).map fun i=>(i.size,m)
 | _=>none
theorem lY {T:TypeId} {l:List (Nat × Operand)} {xs:List Operand} {vs:List Value} {zs cells:List Value} {sz m:Nat} (hst:acY P T=some (sz,m)) (hz:fm P T=some zs) (hxs:l.map (·.2)=xs) (hx:evs env xs=some vs)
   (hb:bld (fun i=>some (i*sz,sz)) zs ((l.map (·.1)).zip vs)=some cells) :
   Quiet P n ⟨d,.build T l.toArray,ty,pos,af,gd⟩ ⟨env,ps,hp⟩ (.agg cells.toArray):=fun w S fp a hs he hn=>by
 have hm:=gV he xs vs hx
 have hf:=mj _ _ _ _ hb
 have hbuilt : P.built T ((l.map (·.1)).zip vs)=some cells.toArray:=by
   unfold acY at hst
   unfold fm at hz
   unfold Program.built
   cases hi:P.info? T with
   | none=>rw [hi] at hz;cases hz
   | some it =>
     rw [hi] at hz
     cases hzz:it.zero with
     | none=>rw [Option.bind_some,hzz] at hz;cases hz
     | some z =>
       rw [Option.bind_some,hzz] at hz
       simp only [Option.map_some,Option.some.injEq] at hz
       cases hu:P.underlying T with
       | none=>rw [hu] at hst;cases hst
       | some dd =>
         rw [hu] at hst
         cases dd with
         | array m' e =>
           simp only at hst
           cases hie:P.info? e with
           | none=>rw [hie] at hst;cases hst
           | some ie =>
             rw [hie] at hst
             simp only [Option.map_some,Option.some.injEq,Prod.mk.injEq] at hst
             simp only [hzz,hie]
             have e1:z.cells=zs.toArray:=by rw [← hz]
             rw [e1,hst.1]
             simpa using hf
         | _=>cases hst
 have:(execOp a.eval ⟨d,.build T l.toArray,ty,pos,af,gd⟩).run P w=.ok (.value (.agg cells.toArray)) w:=by
   have e:(execOp a.eval ⟨d,.build T l.toArray,ty,pos,af,gd⟩)=(Instr.build T (l.toArray.map fun (i,x)=>(i,a.eval x))).bind fun r=>Sem.pure (Next.value r):=rfl
   have e2:l.toArray.map (fun (i,x)=>(i,a.eval x))=((l.map (·.1)).zip vs).toArray:=by
     rw [← hm,← hxs]
     simp only [List.map_toArray,List.map_map]
     congr 1
     rw [List.zip_map']
     rfl
   rw [e,e2,Sem.run_bind',run_build w T _ cells.toArray (by simpa using hbuilt)];rfl
 rw [this];exact cx _ _
end
theorem StE.ents{ps ps':List Per}{hp:List Res}(h:∀ p∈ps',Ent ps p):StE ps hp ps' hp:=fun w S fp hst =>
 ⟨S,fp,⟨fun p hp=>h p hp w S hst.per,hst.res,hst.lt,hst.dj,hst.slt⟩,fun _ h=>h,fun _ h=>.inl h,fun _ h=>h⟩
end Go.Sy
namespace Go.Proofs.YtfkcmbonmpcbfaaGreat
open Go.RowKit Go.Lp Go.Sy
abbrev cX:Int→List D:=fun z=>[D.v (eI z)]
end Go.Proofs.YtfkcmbonmpcbfaaGreat

namespace Go.Sy
open Go.RowKit Go.Lp
section
variable {P:Program} {n:Fr} {s:Sta} {d:Option Tmp} {ty:TypeId} {pos:String} {af:Array Edge} {gd:Option (Nat × Bool)} {v:Value}
theorem wrap_u8(u:UInt8):IntKind.i64.wrap (u.toNat:Int)=u.toNat:=by have:=u.toNat_lt;rw [IntKind.wrap_i64];omega
end
end Go.Sy
namespace Go.Proofs.YtfkcmbonmpcbfaaGreat
open Go.RowKit Go.Lp Go.Sy
end Go.Proofs.YtfkcmbonmpcbfaaGreat

namespace Go.Sy
open Go.RowKit Go.Lp
theorem aR{P:Program}{n:Fr}{env:Env}{ps:List Per}{hp:List Res}{c:Code}{Q:Exit→Sta→Prop}(p:Per)(hp':Ent ps p)(h:awp P n c Q ⟨env,p::ps,hp⟩):awp P n c Q ⟨env,ps,hp⟩:=fun w S fp a hst he hn hd =>
 h w S fp a ⟨fun q hq=>(List.mem_cons.1 hq).elim (fun e=>e ▸ hp' w S hst.per) (fun h=>hst.per q h),hst.res,hst.lt,hst.dj,hst.slt⟩ he hn hd
theorem abu{w:World}{S F:bO}{v:Value}{E:TypeId}{sz:Nat}{rows:List (List D)}(h:(aO v E sz rows).holds w S F):∃ ad cap,v=.slice ad rows.length cap:=by
 rcases h with ⟨h1,h2,_⟩ | ⟨b,cap,h1,_⟩
 · subst h2;exact ⟨none,0,h1⟩
 · exact ⟨_,cap,h1⟩
theorem tY{P:Program}{n:Fr}{env:Env}{ps:List Per}{hp:List Res}{c:Code}{Q:Exit→Sta→Prop}(i:Nat){v:Value}{T:TypeId}{sz:Nat}{rows:List (List D)}(hi:hp[i]? = some (aO v T sz rows))(h:∀ ad cp,v=.slice ad rows.length cp→awp P n c Q ⟨env,ps,hp⟩):awp P n c Q ⟨env,ps,hp⟩:=fun w S fp a hst he hn hd=>by
 obtain ⟨ad,cp,e⟩:=abu (hst.res i _ hi)
 exact h ad cp e w S fp a hst he hn hd
end Go.Sy
namespace Go.Proofs.YtfkcmbonmpcbfaaGreat
open Go.RowKit Go.Lp Go.Sy
end Go.Proofs.YtfkcmbonmpcbfaaGreat

namespace Go.Proofs
open Go.Shelf
def Tryz.lays189_ren:Go.Shelf.Ren:=⟨fun | 189=>185 | 125=>261 | 257=>260 | 128=>316 | 129=>317 | 294=>307 | 295=>308 | 296=>309 | 297=>310 | 298=>311 | 299=>312 | 216=>313 | 300=>314 | 301=>315 | 328=>350 | 329=>351 | 330=>352 | 331=>353 | 332=>354 | 215=>302 | 343=>376 | n=>n,fun | 28=>26 | 3=>3 | 46=>305 | 0=>0 | 51=>369 | 53=>301 | 4=>4 | 183=>388 | 182=>387 | 131=>65 | 5=>5 | 9=>9 | 218=>417 | 222=>165 | 228=>443 | 229=>444 | n=>n,fun | n=>n⟩
theorem Tryz.lays189:Go.Proofs.Lays.n189 Tryz.prog Tryz.lays189_ren := {
 mixed:=by kernel_rfl
 f125:=Tryz.func261.trans (congrArg some (by kernel_rfl))
 f128:=Tryz.func316.trans (congrArg some (by kernel_rfl))
 f129:=Tryz.func317.trans (congrArg some (by kernel_rfl))
 f189:=Tryz.func185.trans (congrArg some (by kernel_rfl))
 f215:=Tryz.func302.trans (congrArg some (by kernel_rfl))
 f216:=Tryz.func313.trans (congrArg some (by kernel_rfl))
 f257:=Tryz.func260.trans (congrArg some (by kernel_rfl))
 f294:=Tryz.func307.trans (congrArg some (by kernel_rfl))
 f295:=Tryz.func308.trans (congrArg some (by kernel_rfl))
 f296:=Tryz.func309.trans (congrArg some (by kernel_rfl))
 f297:=Tryz.func310.trans (congrArg some (by kernel_rfl))
 f298:=Tryz.func311.trans (congrArg some (by kernel_rfl))
 f299:=Tryz.func312.trans (congrArg some (by kernel_rfl))
 f300:=Tryz.func314.trans (congrArg some (by kernel_rfl))
 f301:=Tryz.func315.trans (congrArg some (by kernel_rfl))
 f328:=Tryz.func350.trans (congrArg some (by kernel_rfl))
 f329:=Tryz.func351.trans (congrArg some (by kernel_rfl))
 f330:=Tryz.func352.trans (congrArg some (by kernel_rfl))
 f331:=Tryz.func353.trans (congrArg some (by kernel_rfl))
 f332:=Tryz.func354.trans (congrArg some (by kernel_rfl))
 f343:=Tryz.func376.trans (congrArg some (by kernel_rfl))
 t0:=Tryz.underlying0
 a0:=Tryz.isAgg0
 z0:=Tryz.sizeOf0
 v0:=Tryz.zeroValue0
 t3:=Tryz.underlying3
 a3:=Tryz.isAgg3
 z3:=Tryz.sizeOf3
 v3:=Tryz.zeroValue3
 t4:=Tryz.underlying4
 a4:=Tryz.isAgg4
 z4:=Tryz.sizeOf4
 v4:=Tryz.zeroValue4
 t5:=Tryz.underlying5
 a5:=Tryz.isAgg5
 z5:=Tryz.sizeOf5
 v5:=Tryz.zeroValue5
 t9:=Tryz.underlying9
 a9:=Tryz.isAgg9
 z9:=Tryz.sizeOf9
 v9:=Tryz.zeroValue9
 t28:=Tryz.underlying26
 a28:=Tryz.isAgg26
 z28:=Tryz.sizeOf26
 v28:=Tryz.zeroValue26
 t46:=Tryz.underlying305
 a46:=Tryz.isAgg305
 z46:=Tryz.sizeOf305
 v46:=Tryz.zeroValue305
 t51:=Tryz.underlying369
 a51:=Tryz.isAgg369
 z51:=Tryz.sizeOf369
 v51:=Tryz.zeroValue369
 t53:=Tryz.underlying301
 a53:=Tryz.isAgg301
 z53:=Tryz.sizeOf301
 v53:=Tryz.zeroValue301
 t131:=Tryz.underlying65
 a131:=Tryz.isAgg65
 z131:=Tryz.sizeOf65
 v131:=Tryz.zeroValue65
 t182:=Tryz.underlying387
 a182:=Tryz.isAgg387
 z182:=Tryz.sizeOf387
 v182:=Tryz.zeroValue387
 t183:=Tryz.underlying388
 a183:=Tryz.isAgg388
 z183:=Tryz.sizeOf388
 v183:=Tryz.zeroValue388
 t218:=Tryz.underlying417
 a218:=Tryz.isAgg417
 z218:=Tryz.sizeOf417
 v218:=Tryz.zeroValue417
 t222:=Tryz.underlying165
 a222:=Tryz.isAgg165
 z222:=Tryz.sizeOf165
 v222:=Tryz.zeroValue165
 t228:=Tryz.underlying443
 a228:=Tryz.isAgg443
 z228:=Tryz.sizeOf443
 v228:=Tryz.zeroValue443
 t229:=Tryz.underlying444
 a229:=Tryz.isAgg444
 z229:=Tryz.sizeOf444
 v229:=Tryz.zeroValue444 }
def Tryz.lays20_ren:Go.Shelf.Ren:=⟨fun | 20=>348 | n=>n,fun | 22=>26 | 3=>3 | 4=>4 | 0=>0 | n=>n,fun | n=>n⟩
theorem Tryz.lays20:Go.Proofs.Lays2.n20 Tryz.prog Tryz.lays20_ren := {
 mixed:=by kernel_rfl
 f20:=Tryz.func348.trans (congrArg some (by kernel_rfl))
 t0:=Tryz.underlying0
 a0:=Tryz.isAgg0
 z0:=Tryz.sizeOf0
 v0:=Tryz.zeroValue0
 t3:=Tryz.underlying3
 a3:=Tryz.isAgg3
 z3:=Tryz.sizeOf3
 v3:=Tryz.zeroValue3
 t4:=Tryz.underlying4
 a4:=Tryz.isAgg4
 z4:=Tryz.sizeOf4
 v4:=Tryz.zeroValue4
 t22:=Tryz.underlying26
 a22:=Tryz.isAgg26
 z22:=Tryz.sizeOf26
 v22:=Tryz.zeroValue26
 i3:=by kernel_rfl }
def Tryz.lays112_ren:Go.Shelf.Ren:=⟨fun | 112=>349 | n=>n,fun | 28=>26 | 3=>3 | 4=>4 | 0=>0 | n=>n,fun | n=>n⟩
theorem Tryz.lays112:Go.Proofs.Lays.n112 Tryz.prog Tryz.lays112_ren := {
 mixed:=by kernel_rfl
 f112:=Tryz.func349.trans (congrArg some (by kernel_rfl))
 t0:=Tryz.underlying0
 a0:=Tryz.isAgg0
 z0:=Tryz.sizeOf0
 v0:=Tryz.zeroValue0
 t3:=Tryz.underlying3
 a3:=Tryz.isAgg3
 z3:=Tryz.sizeOf3
 v3:=Tryz.zeroValue3
 t4:=Tryz.underlying4
 a4:=Tryz.isAgg4
 z4:=Tryz.sizeOf4
 v4:=Tryz.zeroValue4
 t28:=Tryz.underlying26
 a28:=Tryz.isAgg26
 z28:=Tryz.sizeOf26
 v28:=Tryz.zeroValue26 }
end Go.Proofs

namespace Go.Sy
open Go.RowKit Go.Lp
section
variable {P:Program} {n:Fr} {env:Env} {ps:List Per} {hp:List Res} {ty:TypeId} {pos:String} {af:Array Edge} {gd:Option (Nat × Bool)} {d:Option Tmp} {E T:TypeId} {sz:Nat} {x y:Operand} {c:Code} {Q:Exit→Sta→Prop}
theorem fR{B m cp:Nat}(k:Nat)(hel:elB P T E sz=true)(hx:ev env x=some (true,.slice (some ⟨B,0,none⟩) m cp)){z:Int}(hy:ev env y=some (true,.int .i64 z))(hz:z=(k:Int))(hk:k<m) :
   Quiet P n ⟨d,.indexAddr T x y,ty,pos,af,gd⟩ ⟨env,ps,hp⟩ (.pointer (some ⟨B,k*sz,none⟩)):=fun w S fp a hst he hn=>by
 subst hz
 obtain ⟨hT,it,hit,_,hsz,_⟩:=dT hel
 have h1:=he.val hx rfl
 have h2:=he.val hy rfl
 have:(execOp a.eval ⟨d,.indexAddr T x y,ty,pos,af,gd⟩).run P w=.ok (.value (.pointer (some ⟨B,k*sz,none⟩))) w:=by
   unfold execOp;dsimp only;rw [h1,h2]
   show ((Instr.indexAt T (.slice (some ⟨B,0,none⟩) m cp) (.int .i64 k)).bind fun r=>Sem.pure (Next.value r)).run P w=_
   have hE:P.elem T=E:=by unfold Program.elem;rw [hT]
   rw [Sem.run_bind',run_indexAt_slice _ _ _ _ _ _ _ (by rw [hE];exact hT),if_pos (by omega),hE,dG hit,hsz]
   simp only [Result.andThen,Int.toNat_natCast]
   unfold Addr.add
   split
   · rename_i h0;rw [h0];rfl
   · simp only [Nat.zero_add];rfl
 rw [this];exact cx _ _
theorem fG(i:Nat){v:Value}{rows:List (List D)}(hi:hp[i]? = some (aO v E sz rows))(h0:rows≠[])(h:∀ B cp,v=.slice (some ⟨B,0,none⟩) rows.length cp→awp P n c Q ⟨env,ps,hp⟩):awp P n c Q ⟨env,ps,hp⟩ :=
 fH (φ:=∃ B cp,v=.slice (some ⟨B,0,none⟩) rows.length cp) i hi (fun w S F hh=>by
   rcases hh with ⟨_,h1,_⟩ | ⟨B,cp,h1,_⟩
   · exact (h0 h1).elim
   · exact ⟨B,cp,h1⟩) (fun ⟨B,cp,e⟩=>h B cp e)
end
end Go.Sy
namespace Go.Proofs.YtfkcmbonmpcbfaaGreat
open Go.RowKit Go.Lp Go.Sy Go.Sort Go.Shelf
abbrev encI(z:Int):Value:=.int .i64 z
def fP(zs:List Int):List Int:=zs.mergeSort fun x y=>decide (x≤y)
end Go.Proofs.YtfkcmbonmpcbfaaGreat

namespace Go.Proofs.YtfkcmbonmpcbfaaGreat
open Go.RowKit Go.Lp Go.Sy
def gn(L:List (List Int))(a:dI):List (List Int):=L.set a.from_.toNat (L.getD a.from_.toNat []++[a.to_])
def ee(N:Nat)(l:List dI):List (List Int):=l.foldl gn (List.replicate N [])
theorem lL(L:List (List Int))(a:dI):(gn L a).length=L.length:=by simp [gn]
theorem nr(l:List dI):∀ L:List (List Int),(l.foldl gn L).length=L.length:=by
 induction l with
 | nil=>intro L;rfl
 | cons a l ih=>intro L;rw [List.foldl_cons,ih,lL]
theorem dD(N:Nat)(l:List dI):(ee N l).length=N:=by unfold ee;rw [nr];simp
theorem vr(N:Nat)(l:List dI){k:Nat}{a:dI}(h:l[k]? = some a):ee N (l.take (k+1))=gn (ee N (l.take k)) a:=by
 unfold ee;rw [List.take_add_one,h,List.foldl_append];rfl
theorem oH(l:List dI):∀ (L:List (List Int)) (m:Nat),(∀ r∈L,r.length≤m)→∀ r∈l.foldl gn L,r.length≤m+l.length:=by
 induction l with
 | nil=>intro L m h r hr;exact h r hr
 | cons a l ih =>
   intro L m h r hr
   rw [List.foldl_cons] at hr
   have:=ih (gn L a) (m+1) (fun r hr=>by
     unfold gn at hr
     rcases List.mem_or_eq_of_mem_set hr with h1 | rfl
     · exact Nat.le_succ_of_le (h r h1)
     · have:(L.getD a.from_.toNat []).length≤m:=by
         by_cases hlt:a.from_.toNat<L.length
         · rw [show L.getD a.from_.toNat []=L[a.from_.toNat] by simp [List.getD,hlt]];exact h _ (List.getElem_mem hlt)
         · rw [show L.getD a.from_.toNat []=[] by simp [List.getD,Nat.not_lt.1 hlt]];exact Nat.zero_le _
       rw [List.length_append,List.length_singleton];omega) r hr
   rw [List.length_cons];omega
theorem sd(N:Nat)(l:List dI){r:List Int}(h:r∈ee N l):r.length≤l.length:=by
 have:=oH l (List.replicate N []) 0 (fun r hr=>by rw [(List.mem_replicate.1 hr).2];exact Nat.le_refl _) r h
 omega
def dK(zs:List Int):List Int:=Lib.compact (fP zs)
def fh(N:Nat)(l:List dI):List (List Int):=(ee N l).map dK
def gJ(L:List (List Int))(k:Nat):List (List Int):=(L.take k).map dK++L.drop k
theorem lX(L:List (List Int))(k:Nat)(h:k≤L.length):(gJ L k).length=L.length:=by simp [gJ];omega
theorem xj{L:List (List Int)}{k:Nat}{x:List Int}(h:L[k]? = some x):(gJ L k)[k]? = some x:=by
 have hk:=(List.getElem?_eq_some_iff.1 h).1
 unfold gJ
 rw [List.getElem?_append_right (by simp;omega)]
 simp only [List.length_map,List.length_take,List.getElem?_drop]
 rw [show k+(k-min k L.length)=k by omega];exact h
theorem vt{L:List (List Int)}{k:Nat}{x:List Int}(h:L[k]? = some x):(gJ L k).set k (dK x)=gJ L (k+1):=by
 have hk:=(List.getElem?_eq_some_iff.1 h).1
 unfold gJ
 rw [List.set_append_right _ _ (by simp;omega),List.take_add_one,h,List.map_append,List.append_assoc]
 congr 1
 rw [List.length_map,List.length_take,show k-min k L.length=0 by omega,List.drop_eq_getElem_cons hk,List.set_cons_zero]
 rfl
theorem lD(vs:List Value)(k:Nat)(v:Value):dB (vs.set k v)=(dB vs).set k [.v v]:=by simp [dB,List.map_set]
theorem yG{P:Program}{n:Fr}{env:Env}{ps:List Per}{hp:List Res}{c:Code}{Q:Exit→Sta→Prop}{α:Type}{enc:α→Value}{vo:Value}{T E:TypeId}{l:List (List α)}(i:Nat)(hi:hp[i]? = some (kb vo T E enc l))(h:∀ ad cp,vo=.slice ad l.length cp→awp P n c Q ⟨env,ps,hp⟩):awp P n c Q ⟨env,ps,hp⟩ :=
 fH (φ:=∃ ad cp,vo=.slice ad l.length cp) i hi (fun w S F hh=>by
   obtain ⟨vs,hl,G,H,hG,hH,_,e⟩:=hh
   rcases hG with ⟨h1,h2,_⟩ | ⟨B,cp,h1,_⟩
   · refine ⟨none,0,?_⟩
     have:vs=[]:=by simpa [dB] using h2
     subst this
     rw [← hl];exact h1
   · exact ⟨_,cp,by rw [h1,lC,hl]⟩) (fun ⟨ad,cp,e⟩=>h ad cp e)
end Go.Proofs.YtfkcmbonmpcbfaaGreat

namespace Go.Sy
open Go.RowKit Go.Lp Go.Sort
section
variable {P:Program} {n:Fr} {env:Env} {ps:List Per} {hp:List Res} {s:Sta} {d:Option Tmp} {ty:TypeId} {pos:String} {af:Array Edge} {gd:Option (Nat × Bool)} {x y:Operand} {K:Sta→Prop}
theorem iH{T E:TypeId}{sz m c B o:Nat}{kk:IntKind}{z:Int}(k:Nat)(hel:elB P T E sz=true)(hx:ev s.env x=some (true,.slice (some ⟨B,o,none⟩) m c))
   (hy:ev s.env y=some (true,.int kk z)) (hz:z=(k:Int)) (hk:k≤m) (hm:m≤c) :
   Quiet P n ⟨d,.slice T x none (some y) none,ty,pos,af,gd⟩ s (.slice (some ⟨B,o,none⟩) k c):=fun w S fp a hst he hn=>by
 have h1:=he.val hx rfl
 subst hz
 have h2:=he.val hy rfl
 obtain ⟨hT,it,hi,_,hsz,_⟩:=dT hel
 have hE:P.elem T=E:=by unfold Program.elem;rw [hT]
 have hrun:∀ w1,(execOp a.eval ⟨d,.slice T x none (some y) none,ty,pos,af,gd⟩).run P w1=.ok (.value (sliced (some ⟨B,o,none⟩) 0 k c sz)) w1:=fun w1=>by
   unfold execOp;dsimp only;simp only [Option.map_some,Option.map_none];rw [h1,h2]
   show ((Instr.sliceAt T (.slice (some ⟨B,o,none⟩) m c) none (some (.int kk k)) none).bind fun r=>Sem.pure (Next.value r)).run P w1=_
   have hT':P.underlying T=some (.slice (P.elem T)):=by rw [hT,hE]
   rw [Sem.run_bind',run_sliceAt_slice w1 T _ _ _ _ hT',run_slice_h w1 T _ m c hT' kk k (by omega) (by omega),hE,dG hi,hsz]
   rfl
 have e:sliced (some ⟨B,o,none⟩) 0 k c sz=.slice (some ⟨B,o,none⟩) k c:=by
   unfold sliced
   simp only [Nat.sub_zero]
   congr 1
   split
   · rfl
   · simp [sD]
 rw [hrun,e];exact cx _ _
theorem nw{T E:TypeId}{sz m c B o:Nat}{kk:IntKind}{z:Int}(k m' o':Nat)(hel:elB P T E sz=true)(hx:ev s.env x=some (true,.slice (some ⟨B,o,none⟩) m c))
   (hy:ev s.env y=some (true,.int kk z)) (hz:z=(k:Int)) (hk:k<m) (hm:m≤c) (hm':m-k=m') (ho:o+k*sz=o') :
   Quiet P n ⟨d,.slice T x (some y) none none,ty,pos,af,gd⟩ s (.slice (some ⟨B,o',none⟩) m' (c-k)):=fun w S fp a hst he hn=>by
 have h1:=he.val hx rfl
 subst hz
 have h2:=he.val hy rfl
 obtain ⟨hT,it,hi,_,hsz,_⟩:=dT hel
 have hE:P.elem T=E:=by unfold Program.elem;rw [hT]
 have hrun:∀ w1,(execOp a.eval ⟨d,.slice T x (some y) none none,ty,pos,af,gd⟩).run P w1=.ok (.value (sliced (some ⟨B,o,none⟩) k m c sz)) w1:=fun w1=>by
   unfold execOp;dsimp only;simp only [Option.map_some,Option.map_none];rw [h1,h2]
   show ((Instr.sliceAt T (.slice (some ⟨B,o,none⟩) m c) (some (.int kk k)) none none).bind fun r=>Sem.pure (Next.value r)).run P w1=_
   have hT':P.underlying T=some (.slice (P.elem T)):=by rw [hT,hE]
   rw [Sem.run_bind',run_sliceAt_slice w1 T _ _ _ _ hT',run_slice_l w1 T _ m c hT' kk k (by omega) (by omega),hE,dG hi,hsz]
   rfl
 have e:sliced (some ⟨B,o,none⟩) k m c sz=.slice (some ⟨B,o',none⟩) m' (c-k):=by
   unfold sliced
   rw [← hm',← ho,if_neg (by omega)]
   simp [sD]
 rw [hrun,e];exact cx _ _
end
section
variable {α:Type} [Inhabited α] {enc:α→Value}
variable {P:Program} {n:Fr} {env:Env} {ps:List Per} {hp:List Res} {ty:TypeId} {pos:String} {af:Array Edge} {gd:Option (Nat × Bool)} {K:Sta→Prop}
theorem yf{d:Option Tmp}{x y:Operand}{T T2 E:TypeId}{sz sl sc dc:Nat}{da sa:Option Addr}{s:Sta}(hel:elB P T E sz=true)(hx:ev s.env x=some (true,.slice da 0 dc))(hy:ev s.env y=some (true,.slice sa sl sc)) :
   Quiet P n ⟨d,.call ⟨.builtin .copy,#[x,y],#[T,T2]⟩,ty,pos,af,gd⟩ s (.int .i64 0):=fun w S fp a hst he hn=>by
 have h1:=he.val hx rfl
 have h2:=he.val hy rfl
 obtain ⟨hT,it,hi,_,hsz,_⟩:=dT hel
 have:(execOp a.eval ⟨d,.call ⟨.builtin .copy,#[x,y],#[T,T2]⟩,ty,pos,af,gd⟩).run P w=.ok (.value (.int .i64 0)) w:=by
   show ((Builtin.copy_ #[T,T2] ty (#[x,y].map a.eval)).bind fun r=>Sem.pure (Next.value r)).run P w=_
   have hargs : #[x,y].map a.eval = #[.slice da 0 dc,.slice sa sl sc]:=by simp [h1,h2]
   rw [hargs,Sem.run_bind']
   have:(Builtin.copy_ #[T,T2] ty #[.slice da 0 dc,.slice sa sl sc]).run P w=.ok (goInt 0) w:=by
     cases da<;>cases sa<;>simp [Builtin.copy_,run_underlying hT,Builtin.lenOf,Builtin.firstCells,sizeOf,typeInfo,hi,storeCells,loadCells,loadCellsFrom]<;>rfl
   rw [this];rfl
 rw [this];exact cx _ _
theorem aaW{t:Nat}{x y:Operand}{T T2 E:TypeId}{B N o dl dc cp sl sc:Nat}{sa:Option Addr}{zs cs:List α}(i:Nat)(hel:elB P T E 1=true)(hone:∀ x:α,(enc x).oneCell'=true)
   (hx:ev env x=some (true,.slice (some ⟨B,o,none⟩) dl dc)) (hy:ev env y=some (true,.slice sa sl sc)) (ht:fits n (some t)=true)
   (hi:hp[i]? = some (aO (.slice (some ⟨B,0,none⟩) N cp) E 1 (cL enc zs))) (hN:zs.length=N) (hlen:cs.length=min sl dl) (hfit:o+cs.length≤zs.length)
   (hsrc:∀ w S fp sp,St w S fp ps hp→w.heap[B]? = some (.cells (zs.map enc++sp).toArray E (0,0))→∃ sb:Addr,sa=some sb∧∀ j c,cs[j]? = some c→w.cell? (sb.add j)=some (enc c))
   (zs':List α) (hz':zs.take o++cs++zs.drop (o+cs.length)=zs') (m:Int) (hm:m=cs.length)
   (hK:K ⟨(t,true,.int .i64 m)::env,ps,hp.set i (aO (.slice (some ⟨B,0,none⟩) N cp) E 1 (cL enc zs'))⟩) :
   Eff P n ⟨some t,.call ⟨.builtin .copy,#[x,y],#[T,T2]⟩,ty,pos,af,gd⟩ ⟨env,ps,hp⟩ false K:=.change i hi fun w S fp a hst he hn hR=>by
 subst hN
 have h1:=he.val hx rfl
 have h2:=he.val hy rfl
 obtain ⟨hT,it,hit,_,hsz,_⟩:=dT hel
 rcases ye hR with ⟨hv,_⟩ | ⟨b,cap,sp,hv,hb,hcap,hcm,hF,hH⟩
 · simp at hv
 · obtain ⟨rfl,rfl⟩:B=b∧cp=cap:=by simpa using hv
   obtain ⟨sb,rfl,hcell⟩:=hsrc w S fp sp hst hb
   have hlz:zs'.length=zs.length:=by rw [← hz'];simp;omega
   have hrun:(Builtin.copy_ #[T,T2] ty #[.slice (some ⟨B,o,none⟩) dl dc,.slice (some sb) sl sc]).run P w=.ok (goInt cs.length) (w.setRow B (zs'.map enc++sp).toArray):=by
     have:=run_copy_row (P:=P) w T T2 ty E B o dl dc sb sl sc _ E (cs.map enc) hT (by rw [hit];exact congrArg some hsz) hb (by simpa using hlen)
       (fun j v hj=>by
         rw [List.getElem?_map,Option.map_eq_some_iff] at hj
         obtain ⟨c,hc,rfl⟩:=hj
         exact hcell j c hc)
       (by simp;omega) (fun v hv=>by obtain ⟨c,_,rfl⟩:=List.mem_map.1 hv;exact hone c)
     rw [this,List.length_map]
     congr 3
     rw [← hz']
     simp only [List.map_append,List.map_take,List.map_drop]
     rw [List.take_append_of_le_length (by simp;omega),List.drop_append_of_le_length (by simp;omega)]
     simp
   have:(execOp a.eval ⟨some t,.call ⟨.builtin .copy,#[x,y],#[T,T2]⟩,ty,pos,af,gd⟩).run P w=.ok (.value (.int .i64 m)) (w.setRow B (zs'.map enc++sp).toArray):=by
     show ((Builtin.copy_ #[T,T2] ty (#[x,y].map a.eval)).bind fun r=>Sem.pure (Next.value r)).run P w=_
     have hargs : #[x,y].map a.eval = #[.slice (some ⟨B,o,none⟩) dl dc,.slice (some sb) sl sc]:=by simp [h1,h2]
     rw [hargs,Sem.run_bind',hrun,hm];rfl
   rw [this]
   have hbS:¬ S B:=(hst.lt i (List.getElem?_eq_some_iff.1 hi).1 B ((hF B).2 rfl)).2
   refine ⟨aO _ E 1 (cL enc zs'),_,hK,rfl,rfl,he.put (g:=true) (by rw [hn];simpa [fits] using ht) _,?_,rfl,rfl,⟨rfl,rfl⟩,by simp [World.setRow],fun b' hb' hne=>setRow_other _ _ _ _ (fun h=>hne ((hF b').2 h))⟩
   refine .inr ⟨B,cp,by rw [dF,hlz],⟨zs'.map enc,sp,setRow_heap _ _ _ _ _ _ hb,?_,by rw [Nat.mul_one,← hcap,List.length_append,List.length_map,hlz],by rw [dF,hlz];omega,hcm⟩,hF⟩
   refine ⟨by simp [cL],fun i r hi => ?_,fun u hu => ?_,fun i j r d h1 h2 => ?_⟩
   · simp only [cL,List.getElem?_map,Option.map_eq_some_iff] at hi
     obtain ⟨x,_,rfl⟩:=hi;rfl
   · obtain ⟨x,_,rfl⟩:=List.mem_map.1 hu;exact hone x
   · simp only [cL,List.getElem?_map,Option.map_eq_some_iff] at h1
     obtain ⟨x,hx,rfl⟩:=h1
     cases j with
     | zero =>
       simp only [List.getElem?_cons_zero,Option.some.injEq] at h2
       subst h2
       exact ⟨enc x,by simp [hx],.v _⟩
     | succ j=>simp at h2
theorem acs{t:Nat}{x y:Operand}{T T2 E:TypeId}{B N o dl dc cp sl sc:Nat}{sa:Option Addr}{zs xs:List α}(i:Nat)(hel:elB P T E 1=true)(hone:∀ x:α,(enc x).oneCell'=true)
   (hx:ev env x=some (true,.slice (some ⟨B,o,none⟩) dl dc)) (hy:ev env y=some (true,.slice sa sl sc)) (ht:fits n (some t)=true)
   (hi:hp[i]? = some (aO (.slice (some ⟨B,0,none⟩) N cp) E 1 (cL enc zs))) (hN:zs.length=N) (hs:Sh (.slice sa sl sc) (.sl (cL enc xs))∈ps) (h0:xs≠[]) (hle:xs.length≤dl) (hfit:o+xs.length≤zs.length)
   (zs':List α) (hz':zs.take o++xs++zs.drop (o+xs.length)=zs') (hsl:sl=xs.length)
   (hK:K ⟨(t,true,.int .i64 xs.length)::env,ps,hp.set i (aO (.slice (some ⟨B,0,none⟩) N cp) E 1 (cL enc zs'))⟩) :
   Eff P n ⟨some t,.call ⟨.builtin .copy,#[x,y],#[T,T2]⟩,ty,pos,af,gd⟩ ⟨env,ps,hp⟩ false K:=by
 refine aaW (cs:=xs) i hel hone hx hy ht hi hN (by rw [hsl];omega) hfit (fun w S fp sp hst _ => ?_) zs' hz' _ rfl hK
 have hrep:=hst.per _ hs
 generalize hrows:cL enc xs=rows at hrep
 cases hrep with
 | e a c hc=>simp [cL] at hrows;exact (h0 hrows).elim
 | sl b o c sz _ us hb hn' hc hrl hcell hd =>
     subst hrows
     have hg:∀ (j:Nat) c,xs[j]? = some c→(cL enc xs)[j]? = some [D.v (enc c)]:=fun j c hj=>by simp [cL,hj]
     have hsz:sz=1:=by
       obtain ⟨c0,hc0⟩:∃ c,xs[0]? = some c:=⟨_,List.getElem?_eq_getElem (List.length_pos_iff.2 h0)⟩
       have:=hrl 0 _ (hg 0 c0 hc0);simpa using this.symm
     subst hsz
     refine ⟨_,rfl,fun j c hj => ?_⟩
     have h1:=(hcell j 0 _ _ (hg j c hj) rfl).1
     rw [ny (hd j 0 _ _ (hg j c hj) rfl),Nat.mul_one,Nat.add_zero] at h1
     rw [sD];exact h1
theorem acr{t:Nat}{x y:Operand}{T T2 E:TypeId}{B N o dl dc cp sl sc:Nat}{zs:List α}(i:Nat)(hel:elB P T E 1=true)(hone:∀ x:α,(enc x).oneCell'=true)
   (hx:ev env x=some (true,.slice (some ⟨B,o,none⟩) dl dc)) (hy:ev env y=some (true,.slice (some ⟨B,0,none⟩) sl sc)) (ht:fits n (some t)=true)
   (hi:hp[i]? = some (aO (.slice (some ⟨B,0,none⟩) N cp) E 1 (cL enc zs))) (hN:zs.length=N) (k:Nat) (hk:k=min sl dl) (hfit:o+k≤zs.length)
   (zs':List α) (hz':zs.take o++zs.take k++zs.drop (o+k)=zs')
   (hK:K ⟨(t,true,.int .i64 k)::env,ps,hp.set i (aO (.slice (some ⟨B,0,none⟩) N cp) E 1 (cL enc zs'))⟩) :
   Eff P n ⟨some t,.call ⟨.builtin .copy,#[x,y],#[T,T2]⟩,ty,pos,af,gd⟩ ⟨env,ps,hp⟩ false K:=by
 have hl:(zs.take k).length=k:=by rw [List.length_take];omega
 refine aaW (cs:=zs.take k) i hel hone hx hy ht hi hN (by rw [hl,hk]) (by rw [hl];exact hfit) (fun w S fp sp hst hb=>⟨_,rfl,fun j c hj => ?_⟩) zs' (by rw [hl];exact hz') k (by rw [hl]) hK
 have hj':j<zs.length:=by
   have:=(List.getElem?_eq_some_iff.1 hj).1
   rw [hl] at this;omega
 rw [sD,Nat.zero_add,ej hb,List.getElem?_append_left (by simpa using hj'),List.getElem?_map]
 rw [List.getElem?_take] at hj
 split at hj
 · rw [hj];rfl
 · cases hj
end
end Go.Sy

namespace Go.Proofs
open Go.Shelf
def Tryz.lays212_ren:Go.Shelf.Ren:=⟨fun | 212=>210 | 263=>286 | 264=>287 | n=>n,fun | 46=>305 | 51=>369 | 146=>370 | 53=>301 | 148=>372 | n=>n,fun | n=>n⟩
theorem Tryz.lays212:Go.Proofs.Lays.n212 Tryz.prog Tryz.lays212_ren := {
 mixed:=by kernel_rfl
 f212:=Tryz.func210.trans (congrArg some (by kernel_rfl))
 f263:=Tryz.func286.trans (congrArg some (by kernel_rfl))
 f264:=Tryz.func287.trans (congrArg some (by kernel_rfl))
 t46:=Tryz.underlying305
 a46:=Tryz.isAgg305
 z46:=Tryz.sizeOf305
 v46:=Tryz.zeroValue305
 t51:=Tryz.underlying369
 a51:=Tryz.isAgg369
 z51:=Tryz.sizeOf369
 v51:=Tryz.zeroValue369
 t53:=Tryz.underlying301
 a53:=Tryz.isAgg301
 z53:=Tryz.sizeOf301
 v53:=Tryz.zeroValue301
 t146:=Tryz.underlying370
 a146:=Tryz.isAgg370
 z146:=Tryz.sizeOf370
 v146:=Tryz.zeroValue370
 t148:=Tryz.underlying372
 a148:=Tryz.isAgg372
 z148:=Tryz.sizeOf372
 v148:=Tryz.zeroValue372 }
end Go.Proofs


namespace Go.Proofs.YtfkcmbonmpcbfaaGreat
open Go.RowKit Go.Lp Go.Sy
theorem wrapN(N:Nat)(hN:N≤1000000):IntKind.i64.wrap (N:Int)=N:=by rw [IntKind.wrap_i64];omega
def part(N k:Nat)(v:Int):List Int:=List.replicate k v++List.replicate (N-k) 0
theorem vq{N k:Nat}(v:Int)(h:k≤N):(part N k v).length=N:=by simp [part];omega
theorem zU{N k j:Nat}(v:Int)(hj:j≤k)(h:k+j≤N):(part N k v).take k++(part N k v).take j++(part N k v).drop (k+j)=part N (k+j) v:=by
 unfold part
 rw [List.take_append_of_le_length (by simp),List.take_append_of_le_length (by simpa using hj),List.drop_append,List.drop_of_length_le (by simp)]
 simp only [List.take_replicate,List.drop_replicate,List.length_replicate,List.nil_append,Nat.min_self,Nat.min_eq_left hj]
 rw [List.replicate_append_replicate]
 congr 2;omega
end Go.Proofs.YtfkcmbonmpcbfaaGreat

