/- Parts of the proof, in build order. No condition. -/
import Derived.Test.YtgkbbdgklpabpaaGreatDoorSc04
import Derived.Sort.Grow
set_option linter.unusedSimpArgs false
set_option linter.unusedVariables false
set_option maxHeartbeats 20000000
set_option maxRecDepth 20000
namespace Go.Sy
open Go.RowKit
section
variable {P:Program} {n:Fr} {ops:Array Oper} {Q:Exit→Sta→Prop} {s:Sta} {K:Sta→Prop}
section
variable {env:Env} {ps:List Per} {hp:List Res} {d:Nat} {op:Op} {ty:TypeId} {pos:String} {af:Array Edge} {gd:Option (Nat × Bool)} {rest:List Oper} {v:Value} {x:Operand} {o:Oper}
def okU(ops:Array Oper)(env:Env)(n:Nat)(o:Oper):Bool:=match guardOf ops env o with
 | some true=>fits n o.dst
 | _=>false
theorem fi{n:Nat}(h:okU ops env n o=true):guardOf ops env o=some true∧fits n o.dst=true:=by
 unfold okU at h
 split at h
 · exact ⟨by assumption,h⟩
 · cases h
def mvU(ops:Array Oper)(env:Env)(n:Nat)(o:Oper)(x:Operand):Option Value:=match okU ops env n o,ev env x with
 | true,some (true,v)=>some v
 | _,_=>none
theorem pV{n:Nat}(h:mvU ops env n o x=some v):okU ops env n o=true∧ev env x=some (true,v):=by
 unfold mvU at h
 split at h
 · rename_i h1 h2
   obtain rfl:=Option.some.inj h
   exact ⟨h1,h2⟩
 · cases h
theorem aU(h:okU ops env n.size ⟨some d,op,ty,pos,af,gd⟩=true)(hq:Quiet P n ⟨some d,op,ty,pos,af,gd⟩ ⟨env,ps,hp⟩ v)
   (hK:aL P n ops Q rest ⟨(d,true,v)::env,ps,hp⟩):aL P n ops Q (⟨some d,op,ty,pos,af,gd⟩::rest) ⟨env,ps,hp⟩:=yc true (fi h).1 (fi h).2 (fun _=>hq) hK
theorem aM(h:mvU ops env n.size ⟨some d,.move x,ty,pos,af,gd⟩ x=some v)(hK:aL P n ops Q rest ⟨(d,true,v)::env,ps,hp⟩):aL P n ops Q (⟨some d,.move x,ty,pos,af,gd⟩::rest) ⟨env,ps,hp⟩ :=
 aU (pV h).1 (bo (pV h).2) hK
theorem aA(h:mvU ops env n.size ⟨some d,.assign x,ty,pos,af,gd⟩ x=some v)(hK:aL P n ops Q rest ⟨(d,true,v)::env,ps,hp⟩):aL P n ops Q (⟨some d,.assign x,ty,pos,af,gd⟩::rest) ⟨env,ps,hp⟩ :=
 aU (pV h).1 (dM (pV h).2) hK
theorem aG{c:Bool}(hc:guardOf ops env ⟨some d,op,ty,pos,af,gd⟩=some c)(hd:fits n (some d)=true)(hq:c=true→Quiet P n ⟨some d,op,ty,pos,af,gd⟩ ⟨env,ps,hp⟩ v)
   (h:aL P n ops Q rest ⟨(d,c,v)::env,ps,hp⟩):aL P n ops Q (⟨some d,op,ty,pos,af,gd⟩::rest) ⟨env,ps,hp⟩:=yc c hc hd hq h
variable {V:List Nat} {k:Nat} {L L':Array Bool}
theorem bU(i:Nat)(hi:ops[i]? = some ⟨some d,op,ty,pos,af,gd⟩)(hf:cC ops V L i=true)(h:okU ops env n.size ⟨some d,op,ty,pos,af,gd⟩=true)
   (hq:Quiet P n ⟨some d,op,ty,pos,af,gd⟩ ⟨env,ps,hp⟩ v) (hK:aB P n ops V Q k (L.setIfInBounds i true) ⟨(d,true,v)::env,ps,hp⟩):aB P n ops V Q (k+1) L ⟨env,ps,hp⟩:=vU i hi hf true (fi h).1 (fi h).2 (fun _=>hq) hK
theorem bG{c:Bool}(i:Nat)(hi:ops[i]? = some ⟨some d,op,ty,pos,af,gd⟩)(hf:cC ops V L i=true)(hc:guardOf ops env ⟨some d,op,ty,pos,af,gd⟩=some c)(hd:fits n (some d)=true)
   (hq:c=true→Quiet P n ⟨some d,op,ty,pos,af,gd⟩ ⟨env,ps,hp⟩ v) (h:aB P n ops V Q k (L.setIfInBounds i true) ⟨(d,c,v)::env,ps,hp⟩):aB P n ops V Q (k+1) L ⟨env,ps,hp⟩:=vU i hi hf c hc hd hq h
theorem bV(i:Nat)(hi:ops[i]? = some ⟨some d,op,ty,pos,af,gd⟩)(h:okU ops env n.size ⟨some d,op,ty,pos,af,gd⟩=true)
   (hq:Quiet P n ⟨some d,op,ty,pos,af,gd⟩ ⟨env,ps,hp⟩ v) (hK:aB P n ops V Q k (L.setIfInBounds i true) ⟨(d,true,v)::env,ps,hp⟩) (hf:cC ops V L i=true:=by kernel_rfl):aB P n ops V Q (k+1) L ⟨env,ps,hp⟩:=bU i hi hf h hq hK
theorem bW{c:Bool}(i:Nat)(hi:ops[i]? = some ⟨some d,op,ty,pos,af,gd⟩)(hc:guardOf ops env ⟨some d,op,ty,pos,af,gd⟩=some c)(hd:fits n (some d)=true)
   (hq:c=true→Quiet P n ⟨some d,op,ty,pos,af,gd⟩ ⟨env,ps,hp⟩ v) (h:aB P n ops V Q k (L.setIfInBounds i true) ⟨(d,c,v)::env,ps,hp⟩) (hf:cC ops V L i=true:=by kernel_rfl):aB P n ops V Q (k+1) L ⟨env,ps,hp⟩:=bG i hi hf hc hd hq h
theorem bh(hL:L=L')(h:aB P n ops V Q k L' ⟨env,ps,hp⟩):aB P n ops V Q k L ⟨env,ps,hp⟩:=hL ▸ h
end
theorem aSR{l:List Oper}{id:Nat}{y:Code}(h:aL P n l.toArray (thn (awp P n y Q) Q) l s):awp P n (.seq (.region id l.toArray false) y) Q s:=aq (az h)
theorem aNn(h:K s):aL P n ops (thn K Q) [] s:=dJ (an h)
theorem aNs{x y:Code}(h:awp P n x (thn (awp P n y Q) Q) s):aL P n ops (thn (awp P n (.seq x y) Q) Q) [] s:=dJ (an (aq h))
end
theorem nZ:(∀ (l:List Bool) (n:Nat) (a:Bool),l.toArray.setIfInBounds n a=(l.set n a).toArray)∧(∀ (a b:Bool) (l:List Bool) (n:Nat),(a::l).set (n+1) b=a::l.set n b)∧(∀ (a b:Bool) (l:List Bool),(a::l).set 0 b=b::l):=⟨fun _ _ _=>nO,fun _ _ _ _=>nK,fun _ _ _=>nL⟩
theorem nW:(type_of% @nA)∧(type_of% @nB)∧(type_of% @nC)∧(type_of% @nD)∧(type_of% @nE)∧(type_of% @nF)∧(type_of% @nG)∧(type_of% @nH)∧(type_of% @nI)∧(type_of% @nJ)∧(type_of% @nP)∧(type_of% @nK)∧(type_of% @nL)∧(type_of% @nM)∧(type_of% @nN) :=
 ⟨@nA,@nB,@nC,@nD,@nE,@nF,@nG,@nH,@nI,@nJ,@nP,@nK,@nL,@nM,@nN⟩
section
variable {P:Program} {n:Fr} {ops:Array Oper} {Q:Exit→Sta→Prop} {env:Env} {ps ps':List Per} {hp hp':List Res} {rest:List Oper} {V:List Nat} {k:Nat} {L L':Array Bool}
theorem aHN(h:aL P n ops Q rest ⟨env,ps,hp'⟩)(h0:hp=hp':=by (try simp only [nM,nN]);rfl):aL P n ops Q rest ⟨env,ps,hp⟩:=ig h0 h
theorem aHK(h:aL P n ops Q rest ⟨env,ps,hp'⟩)(h0:hp=hp':=by (try simp only [nK,nL]);rfl):aL P n ops Q rest ⟨env,ps,hp⟩:=ig h0 h
theorem aST(h:aL P n ops Q rest ⟨env,ps',hp'⟩)(h1:ps=ps':=by (try simp only [nM,nN]);rfl)(h0:hp=hp':=by (try simp only [fD,place,Nat.reduceBEq,if_true,if_false,reduceIte,Nat.reduceAdd,nW]);rfl):aL P n ops Q rest ⟨env,ps,hp⟩:=acj h1 h0 h
theorem bST(hL:L=L')(h:aB P n ops V Q k L' ⟨env,ps',hp'⟩)(h1:ps=ps':=by (try simp only [nM,nN]);rfl)(h0:hp=hp':=by (try simp only [fD,place,Nat.reduceBEq,if_true,if_false,reduceIte,Nat.reduceAdd,nW]);rfl):aB P n ops V Q k L ⟨env,ps,hp⟩:=ace hL h1 h0 h
theorem qFA{s:Sta}{d:Option Tmp}{ty:TypeId}{pos:String}{af:Array Edge}{gd:Option (Nat × Bool)}{x:Operand}{T:TypeId}{i b o off:Nat}(hx:ev s.env x=some (true,.pointer (some ⟨b,o,none⟩)))(hf:jG P T i=some off:=by kernel_rfl) :
   Quiet P n ⟨d,.fieldAddr T x i,ty,pos,af,gd⟩ s (.pointer (some ⟨b,o+off,none⟩)):=lX hf hx
end
end Go.Sy

namespace Go.Sy
open Go.RowKit Go.Lp
theorem oC{w:World}{S:ba}{fp:Nat→ba}{ps:List Per}{hp:List Res}{v:Value}{T:TypeId}{sz:Nat}{rows:List (List D)}(hst:St w S fp ps hp)(i:Nat)(hi:hp[i]? = some (aP v T sz rows)) :
   St w (fun b=>S b∨fp i b) (fun k=>if k=i then (fun _=>False) else fp k) (Sh v (.sl rows)::ps) (hp.set i emp):=by
 have hil:=(List.getElem?_eq_some_iff.1 hi).1
 have hr:=hst.res i _ hi
 have hst0:=hst.drop i
 have hS:∀ b,S b→(S b∨fp i b):=fun _ h=>.inl h
 refine ⟨fun p hp' => ?_,fun j R hj=>R.mono (hst0.res j R hj) (fun _ _=>rfl) (fun _ _=>rfl) hS,fun j hj b hb => ?_,hst0.dj,fun b hb=>hb.elim (hst.slt b) (fun h=>(hst.lt i hil b h).1)⟩
 · rcases List.mem_cons.1 hp' with rfl | h2
   · rcases hr with ⟨rfl,rfl,_⟩ | ⟨b,cap,rfl,⟨cs,sp,hb,hrows,hl,hle,hcap⟩,hF⟩
     · exact .e none 0 (by unfold maxLen;omega)
     · refine .sl b 0 cap sz rows (fun i j=>cs.getD (i*sz+j) undef) (.inr ((hF b).2 rfl)) hle hcap hrows.row (fun i j r d h1 h2 => ?_) (fun i j r d h1 h2 => ?_)
       · obtain ⟨u,hu,_⟩:=hrows.rep i j r d h1 h2
         have e:cs.getD (i*sz+j) undef=u:=by simp [List.getD,hu]
         rw [e]
         refine ⟨?_,hrows.one u (List.mem_of_getElem? hu)⟩
         rw [Nat.zero_add,dL hb,List.getElem?_append_left (List.getElem?_eq_some_iff.1 hu).1];exact hu
       · obtain ⟨u,hu,hr⟩:=hrows.rep i j r d h1 h2
         have e:cs.getD (i*sz+j) undef=u:=by simp [List.getD,hu]
         rw [e]
         exact hr.mono (fun _ _=>rfl) hS
   · exact p.mono (hst.per p h2) (fun _ _=>rfl) hS
 · have hj':j<hp.length:=by simpa using hj
   by_cases hji:j=i
   · rw [if_pos hji] at hb;exact hb.elim
   · rw [if_neg hji] at hb
     exact ⟨(hst.lt j hj' b hb).1,fun h=>h.elim (hst.lt j hj' b hb).2 (hst.dj j i hj' hil hji b hb)⟩
end Go.Sy

namespace Go.Sy
open Go.RowKit
section
variable {P:Program} {n:Fr} {s:Sta} {d:Option Tmp} {ty:TypeId} {pos:String} {af:Array Edge} {gd:Option (Nat × Bool)} {x y:Operand}
theorem xw{T tx E E2:TypeId}{sz sz2:Nat}{ad ay:Option Addr}{k c cy:Nat}(hel:elB P T E sz=true)(hel2:elB P tx E2 sz2=true)(hx:ev s.env x=some (true,.slice ad k c))(hy:ev s.env y=some (true,.slice ay 0 cy))(hk:k≤c) :
   Quiet P n ⟨d,.call ⟨.builtin .append,#[x,y],#[T,tx]⟩,ty,pos,af,gd⟩ s (.slice ad k c) :=
 .run2 hx hy fun ρ w h1 h2=>by
   obtain ⟨hT,it,hi,h3,h4,h5⟩:=di hel
   obtain ⟨hT2,it2,hi2,_⟩:=di hel2
   have hrun:(Builtin.append_ #[T,tx] ty #[.slice ad k c,.slice ay 0 cy]).run P w=.ok (.slice ad k c) w:=by
     simp [Builtin.append_,run_underlying hT,run_underlying hT2,sizeOf,typeInfo,hi,Builtin.lenOf,Builtin.firstCells,hk]
     cases ay<;>cases ad<;>simp [loadCells,loadCellsFrom,storeCells]
   have e:(execOp ρ ⟨d,.call ⟨.builtin .append,#[x,y],#[T,tx]⟩,ty,pos,af,gd⟩)=(Builtin.append_ #[T,tx] ty (#[x,y].map ρ)).bind fun r=>Sem.pure (Next.value r):=rfl
   rw [e,show #[x,y].map ρ = #[.slice ad k c,.slice ay 0 cy] by simp [h1,h2],Sem.run_bind',hrun];rfl
end
end Go.Sy

namespace Go.Sy
open Go.RowKit Go.Lp
theorem kJ(b o k:Nat):(Addr.mk b o none).add k=⟨b,o+k,none⟩:=by
 unfold Addr.add
 split
 · rename_i h;rw [h];rfl
 · rfl
section
variable {P:Program} {n:Fr} {s:Sta} {d:Option Tmp} {ty:TypeId} {pos:String} {af:Array Edge} {gd:Option (Nat × Bool)} {x y:Operand}
theorem xx{R:World→World→Prop}{T E:TypeId}{sz nn c:Nat}{ad:Option Addr}{rows:List (List D)}{kk:IntKind}{z:Int}(k:Nat)(hel:elB P T E sz=true)(hx:ev s.env x=some (true,.slice ad nn c))(hs:Sh (.slice ad nn c) (.sl rows)∈s.ps)
   (hy:ev s.env y=some (true,.int kk z)) (hz:z=(k:Int)) (hk:k≤rows.length) (hrl:∀ r∈rows,r.length=sz) :
   kG (β:=Option Addr × Nat) P R n ⟨d,.slice T x none (some y) none,ty,pos,af,gd⟩ s (fun p=>.slice p.1 k p.2) (fun p=>[Sh (.slice p.1 k p.2) (.sl (rows.take k))]):=fun w S fp a hst he hn=>by
 have h1:=he.val hx rfl
 subst hz
 have h2:=he.val hy rfl
 obtain ⟨hT,it,hi,_,hsz,_⟩:=di hel
 have hrep:=hst.per _ hs
 have hc:rows.length≤c∧c≤maxLen:=by
   cases hrep with
   | e a c hc=>exact ⟨Nat.zero_le _,hc⟩
   | sl b o _ sz' _ us hb hn' hc hrl hcell hd=>exact ⟨hn',hc⟩
 have hE:P.elem T=E:=by unfold Program.elem;rw [hT]
 have hrun:∀ w1,(execOp a.eval ⟨d,.slice T x none (some y) none,ty,pos,af,gd⟩).run P w1=.ok (.value (sliced ad 0 k c sz)) w1:=fun w1=>by
   unfold execOp;dsimp only;simp only [Option.map_some,Option.map_none];rw [h1,h2]
   show ((Instr.sliceAt T (.slice ad nn c) none (some (.int kk k)) none).bind fun r=>Sem.pure (Next.value r)).run P w1=_
   have hT':P.underlying T=some (.slice (P.elem T)):=by rw [hT,hE]
   rw [Sem.run_bind',run_sliceAt_slice w1 T _ _ _ _ hT',run_slice_h w1 T ad nn c hT' kk k (by omega) (by omega),hE,cF hi,hsz]
   rfl
 refine ⟨(if c=0 then ad else ad.map (·.add (0*sz)),c),fun w1 _=>by rw [hrun];exact bE _ _,fun p hp => ?_⟩
 simp only [List.mem_singleton] at hp
 subst hp
 show dT w S (.slice (if c=0 then ad else ad.map (·.add (0*sz))) k c) (.sl (rows.take k))
 cases hrep with
 | e a c hc' =>
   obtain rfl:k=0:=by simpa using hk
   exact .e _ _ hc'
 | sl b o _ sz' _ us hb hn' hc hrl' hcell hd =>
   have e:(if c=0 then (some ⟨b,o,none⟩:Option Addr) else (some ⟨b,o,none⟩:Option Addr).map (·.add (0*sz)))=some ⟨b,o,none⟩:=by
     split
     · rfl
     · simp [kJ]
   rw [e]
   have hlt:(rows.take k).length=k:=by rw [List.length_take];omega
   have hget:∀ (i:Nat) (r:List D),(rows.take k)[i]? = some r→rows[i]? = some r:=fun i r h=>by
     rw [List.getElem?_take] at h;split at h
     · exact h
     · cases h
   have:=dT.sl (w:=w) (S:=S) b o c sz' (rows.take k) us hb (by omega) hc (fun i r h=>hrl' i r (hget i r h)) (fun i j r d h1 h2=>hcell i j r d (hget i r h1) h2) (fun i j r d h1 h2=>hd i j r d (hget i r h1) h2)
   rwa [hlt] at this
theorem xy{R:World→World→Prop}{T E:TypeId}{sz nn c:Nat}{ad:Option Addr}{rows:List (List D)}{kk:IntKind}{z:Int}(k m:Nat)(hel:elB P T E sz=true)(hx:ev s.env x=some (true,.slice ad nn c))(hs:Sh (.slice ad nn c) (.sl rows)∈s.ps)
   (hy:ev s.env y=some (true,.int kk z)) (hz:z=(k:Int)) (hk:k≤rows.length) (hrl:∀ r∈rows,r.length=sz) (hm:rows.length-k=m) :
   kG (β:=Option Addr × Nat) P R n ⟨d,.slice T x (some y) none none,ty,pos,af,gd⟩ s (fun p=>.slice p.1 m p.2) (fun p=>[Sh (.slice p.1 m p.2) (.sl (rows.drop k))]):=fun w S fp a hst he hn=>by
 have h1:=he.val hx rfl
 subst hz
 have h2:=he.val hy rfl
 obtain ⟨hT,it,hi,_,hsz,_⟩:=di hel
 have hrep:=hst.per _ hs
 have hnn:nn=rows.length:=by cases hrep<;>rfl
 have hE:P.elem T=E:=by unfold Program.elem;rw [hT]
 have hrun:∀ w1,(execOp a.eval ⟨d,.slice T x (some y) none none,ty,pos,af,gd⟩).run P w1=.ok (.value (sliced ad k nn c sz)) w1:=fun w1=>by
   unfold execOp;dsimp only;simp only [Option.map_some,Option.map_none];rw [h1,h2]
   show ((Instr.sliceAt T (.slice ad nn c) (some (.int kk k)) none none).bind fun r=>Sem.pure (Next.value r)).run P w1=_
   have hT':P.underlying T=some (.slice (P.elem T)):=by rw [hT,hE]
   rw [Sem.run_bind',run_sliceAt_slice w1 T _ _ _ _ hT',run_slice_l w1 T ad nn c hT' kk k (by omega) (by omega),hE,cF hi,hsz]
   rfl
 subst hm
 refine ⟨(if c=k then ad else ad.map (·.add (k*sz)),c-k),fun w1 _=>by rw [hrun,hnn];exact bE _ _,fun p hp => ?_⟩
 simp only [List.mem_singleton] at hp
 subst hp
 show dT w S (.slice (if c=k then ad else ad.map (·.add (k*sz))) (rows.length-k) (c-k)) (.sl (rows.drop k))
 cases hrep with
 | e a c hc =>
   obtain rfl:k=0:=by simpa using hk
   exact .e _ _ (by omega)
 | sl b o _ sz' _ us hb hn' hc hrl' hcell hd =>
   by_cases hkr:k=rows.length
   · subst hkr
     rw [List.drop_length,Nat.sub_self];exact .e _ _ (by omega)
   · have hsz':sz'=sz:=by
       obtain ⟨r,hr⟩:∃ r,rows[0]? = some r:=⟨_,List.getElem?_eq_getElem (by omega)⟩
       rw [← hrl' 0 r hr];exact hrl r (List.mem_of_getElem? hr)
     subst hsz'
     rw [if_neg (by omega),Option.map_some,kJ,show rows.length-k=(rows.drop k).length by simp]
     refine .sl b (o+k*sz') (c-k) sz' (rows.drop k) (fun i j=>us (k+i) j) hb (by rw [List.length_drop];omega) (by omega) (fun i r h=>hrl' (k+i) r (by rwa [List.getElem?_drop] at h)) (fun i j r d h1 h2 => ?_) (fun i j r d h1 h2=>hd (k+i) j r d (by rwa [List.getElem?_drop] at h1) h2)
     rw [List.getElem?_drop] at h1
     have:=hcell (k+i) j r d h1 h2
     rwa [Nat.add_mul,← Nat.add_assoc] at this
end
section
variable {P:Program} {n:Fr} {env:Env} {ps:List Per} {hp:List Res} {ty:TypeId} {pos:String} {af:Array Edge} {gd:Option (Nat × Bool)} {K:Sta→Prop} {v:Value}
theorem ji{t:Nat}{x y:Operand}{T tx E:TypeId}{sz ky cy:Nat}{ay:Option Addr}{rows rows2:List (List D)}(i:Nat)(hel:elB P T E sz=true)(hel2:elB P tx E sz=true)
   (hx:ev env x=some (true,v)) (hy:ev env y=some (true,.slice ay ky cy)) (ht:fits n (some t)=true) (hi:hp[i]? = some (aP v E sz rows)) (hs:Sh (.slice ay ky cy) (.sl rows2)∈ps) (hrl:∀ r∈rows2,r.length=sz) (hle:rows.length+rows2.length≤1000000000)
   (m:Nat) (hm:rows.length+rows2.length=m) (hK:∀ ad c,K ⟨(t,true,.slice ad m c)::env,ps,hp.set i (aP (.slice ad m c) E sz (rows++rows2))⟩) :
   Eff P n ⟨some t,.call ⟨.builtin .append,#[x,y],#[T,tx]⟩,ty,pos,af,gd⟩ ⟨env,ps,hp⟩ false K:=by
 by_cases h0:rows2=[]
 · subst h0
   intro w S fp a hst he hn
   have hky:ky=0:=by
     have:=hst.per _ hs
     cases this<;>rfl
   subst hky
   obtain ⟨ad,cc,hv,hcc⟩:∃ ad cc,v=.slice ad rows.length cc∧rows.length≤cc:=by
     rcases hst.res i _ hi with ⟨rfl,rfl,_⟩ | ⟨b,cap,rfl,⟨cs,sp,_,_,_,hc,_⟩,_⟩
     · exact ⟨none,0,rfl,Nat.le_refl _⟩
     · exact ⟨_,cap,rfl,hc⟩
   subst hv
   have hK':=hK ad cc
   rw [List.append_nil] at hK'
   obtain rfl:rows.length=m:=by simpa using hm
   have hset:hp.set i (aP (.slice ad rows.length cc) E sz rows)=hp:=by
     obtain ⟨hil,e⟩:=List.getElem?_eq_some_iff.1 hi
     rw [← e];exact List.set_getElem_self hil
   rw [hset] at hK'
   exact (xw hel hel2 hx hy hcc).eff ht hK' w S fp a hst he hn
 · exact bH i hel hx hy ht hi (ab8 hel2 hs hrl h0) h0 hle m hm hK
end
variable {P:Program} {md:Region.Mode} {ops:Array Oper}
structure eZ (B:ba) (w w':World):Prop where
 size:w.heap.size≤w'.heap.size
 block:∀ k,B k→k<w.heap.size→w'.heap[k]? = w.heap[k]?
theorem eZ.of_below{B:ba}{w w':World}(h:Below w.heap.size w w'):eZ B w w':=⟨h.size,fun k _ hk=>h.block k hk⟩
theorem eZ.trans{B:ba}{a b c:World}(h:eZ B a b)(k:eZ B b c):eZ B a c:=⟨Nat.le_trans h.size k.size,fun i hi hl=>(k.block i hi (Nat.lt_of_lt_of_le hl h.size)).trans (h.block i hi hl)⟩
theorem eZ.mono{B B':ba}{w w':World}(h:eZ B w w')(hB:∀ k,B' k→B k):eZ B' w w':=⟨h.size,fun k hk=>h.block k (hB k hk)⟩
def wpC(P:Program)(md:Region.Mode)(ops:Array Oper)(G:Nat→World→World→Prop)(Q:Act→World→Prop):Nat→Array Bool→Act→World→Prop
 | 0,L,a,w=>∀ w1,Below w.heap.size w w1→Region.ready md ops L=[]∧Q a w1
 | k + 1,L,a,w=>∀ w1,Below w.heap.size w w1→(Region.ready md ops L=[]→Q a w1) ∧
     ∀ i∈Region.ready md ops L,opB P ops i (fun a' w'=>G i w1 w'∧wpC P md ops G Q k (L.setIfInBounds i true) a' w') a w1
variable {G:Nat→World→World→Prop} {Q:Act→World→Prop}
theorem aam{k:Nat}{L:Array Bool}{a:Act}{w w1:World}(h:wpC P md ops G Q k L a w)(hb:Below w.heap.size w w1):wpC P md ops G Q k L a w1:=by
 cases k with
 | zero=>exact fun w2 h2=>h w2 (dx hb h2)
 | succ k=>exact fun w2 h2=>h w2 (dx hb h2)
theorem kD{r:Option Nat}{Q':Exit→Act→World→Prop}(hQ:∀ a w,Q a w→Q' .normal a w):∀ (k:Nat) (L:Array Bool) (a:Act) (w:World),wpC P md ops G Q k L a w→wpAnyIn (fnc r) 0 P md ops Q' k L a w
 | 0,_,_,w,h=>⟨(h w (Below.refl _ _)).1,hQ _ _ (h w (Below.refl _ _)).2⟩
 | k+1,_,_,w,h=>⟨fun h0=>hQ _ _ ((h w (Below.refl _ _)).1 h0),fun i hi=>wpOpIn_mono (fun _ _ h=>kD hQ k _ _ _ h.2) (iR ((h w (Below.refl _ _)).2 i hi))⟩
def gI(P:Program)(R:World→World→Prop)(ops:Array Oper)(o:Oper)(v:Value)(a:Act)(w:World):Prop :=
 (Region.wanted o (yielded ops a.tmps)=true∧∀ w1,R w w1→l0 P v w1 ((execOp a.eval o).run P w1))∨(Region.wanted o (yielded ops a.tmps)=false∧v=undef)
section
variable {R:World→World→Prop} (h1:∀ a b:World,Below a.heap.size a b→R a b) (h2:∀ a b c:World,R a b→R b c→R a c) (hG:∀ (j:Nat) (a b:World),Below a.heap.size a b→G j a b)
include h2 in
theorem gI.of_same{o:Oper}{v:Value}{a a':Act}{w w':World}(hy:gI P R ops o v a w)(he:execOp a'.eval o=execOp a.eval o)
   (hw:Region.wanted o (yielded ops a'.tmps)=Region.wanted o (yielded ops a.tmps)) (hb:R w w'):gI P R ops o v a' w':=by
 unfold gI at *
 rw [he,hw]
 exact hy.imp (fun ⟨g1,g2⟩=>⟨g1,fun w1 h=>g2 w1 (h2 _ _ _ hb h)⟩) id
include h1 in
theorem gI.op{o:Oper}{i:Nat}{v:Value}{a:Act}{w:World}(hi:ops[i]? = some o)(hy:gI P R ops o v a w){K:Act→World→Prop}(h:∀ w',Below w.heap.size w w'→K (a.put o.dst v) w'):opB P ops i K a w:=by
 refine ⟨o,hi,?_⟩
 rcases hy with ⟨g1,g2⟩ | ⟨g1,rfl⟩
 · rw [if_pos g1]
   exact bO (fun u w' ⟨hu,hb⟩=>by subst hu;exact h w' hb) (g2 w (h1 _ _ (Below.refl _ _)))
 · rw [if_neg (by rw [g1];exact Bool.false_ne_true)]
   exact h w (Below.refl _ _)
include h1 h2 hG in
theorem ql (U:Nat→Bool) (hU:∀ (j:Nat) (a b:World),U j=false→G j a b→R a b)
   {i:Nat} {oi:Oper} {v:Value} (hi:ops[i]? = some oi) (hsel:∀ (j:Nat) (o:Oper) cs b,ops[j]? = some o→o.op≠.select cs b) (m:Nat) :
   ∀ (n:Nat) (L:Array Bool) (a:Act) (w:World),closed md ops L→(∀ c,U c=true→L.getD c true=false→ni md ops m c i=true) →
     (∀ j oj,ops[j]? = some oj→j≠i→L.getD j true=false→(∀ e∈oj.after,Region.binds md e=true→e.on≠i)→oi.apart ops oj=true) →
     i∈Region.ready md ops L→gI P R ops oi v a w →
     wpC P md ops G Q n (L.setIfInBounds i true) (a.put oi.dst v) w→wpC P md ops G Q (n+1) L a w:=by
 intro n
 induction n with
 | zero =>
   intro L a w hcl hV _ hr hy H w1 hb
   refine ⟨fun h=>(by rw [h] at hr;cases hr),fun j hj => ?_⟩
   by_cases hji:j=i
   · subst hji
     exact (hy.of_same h2 rfl rfl (h1 _ _ hb)).op h1 hi fun w' hb'=>⟨hG j _ _ hb',aam H (dx hb hb')⟩
   · have:=ready_mono hj hji
     rw [(H w1 hb).1] at this
     cases this
 | succ n ih =>
   intro L a w hcl hV hfree hr hy H w1 hb
   refine ⟨fun h=>(by rw [h] at hr;cases hr),fun j hj => ?_⟩
   by_cases hji:j=i
   · subst hji
     exact (hy.of_same h2 rfl rfl (h1 _ _ hb)).op h1 hi fun w' hb'=>⟨hG j _ _ hb',aam H (dx hb hb')⟩
   · obtain ⟨oj,hoj,hrun⟩:=(H w1 hb).2 j (ready_mono hj hji)
     obtain ⟨hjun,oj',hoj',hall⟩:=mem_ready.1 hj
     obtain rfl:oj=oj':=Option.some.inj (hoj.symm.trans hoj')
     have hnot:∀ e∈oj.after,Region.binds md e=true→e.on≠i:=fun e he hb heq=>by
       have h1:=hall e he hb
       have h0:=(mem_ready.1 hr).1
       rw [heq] at h1
       rw [i4 h1] at h0;cases h0
     have hVj:U j=false:=by
       cases hVj:U j with
       | false=>rfl
       | true =>
         have h1:=hV j hVj hjun
         have hcl':=gP hcl hj
         have hjs:(L.setIfInBounds j true).getD j true=true:=by
           rcases Nat.lt_or_ge j L.size with h' | h'
           · simp [h']
           · simp
         have h2:=i4 (ux hcl' m j h1 hjs)
         rw [getD_set_ne true hji,(mem_ready.1 hr).1] at h2
         cases h2
     obtain ⟨p1,p2,p3⟩:=Oper.apart_spec (hfree j oj hoj hji hjun hnot)
     rw [execOp_put oj (fun cs b=>hsel j oj cs b hoj) a oi.dst v p1,wanted_put oj a oi.dst v p1] at hrun
     have hfree':∀ k ok,ops[k]? = some ok→k≠i→(L.setIfInBounds j true).getD k true=false →
         (∀ e∈ok.after,Region.binds md e=true→e.on≠i)→oi.apart ops ok=true:=fun k ok hk hki hun hno=>by
       refine hfree k ok hk hki ?_ hno
       by_cases hjk:j=k
       · subst hjk;exact hjun
       · rw [getD_set_ne true hjk] at hun;exact hun
     have hV':∀ c,U c=true→(L.setIfInBounds j true).getD c true=false→ni md ops m c i=true:=fun c hc hun=>by
       refine hV c hc ?_
       by_cases hjc:j=c
       · subst hjc;exact hjun
       · rw [getD_set_ne true hjc] at hun;exact hun
     have step:∀ u w',R w1 w'→wpC P md ops G Q n ((L.setIfInBounds i true).setIfInBounds j true) ((a.put oi.dst v).put oj.dst u) w'→wpC P md ops G Q (n+1) (L.setIfInBounds j true) (a.put oj.dst u) w':=fun u w' hb' h=>by
       refine ih (L.setIfInBounds j true) (a.put oj.dst u) w' (gP hcl hj) hV' hfree' (ready_mono hr (Ne.symm hji)) ?_ ?_
       · exact hy.of_same h2 (execOp_put oi (fun cs b=>hsel i oi cs b hi) a oj.dst u p3) (wanted_put oi a oj.dst u p3) (h2 _ _ _ (h1 _ _ hb) hb')
       · rw [Array.setIfInBounds_comm _ _ hji,Act.put_comm a u v (fun d hd hd'=>p2 d hd' hd)]
         exact h
     refine ⟨oj,hoj,?_⟩
     split
     · rename_i hw
       rw [if_pos hw] at hrun
       exact bO (fun u w' h=>⟨h.1,step u w' (hU j _ _ hVj h.1) h.2⟩) hrun
     · rename_i hw
       rw [if_neg hw] at hrun
       exact ⟨hrun.1,step undef w1 (hU j _ _ hVj hrun.1) hrun.2⟩
end
theorem kE{G':Nat→World→World→Prop}{Q Q':Act→World→Prop}(hg:∀ j a b,G j a b→G' j a b)(hq:∀ a w,Q a w→Q' a w):∀ (k:Nat) (L:Array Bool) (a:Act) (w:World),wpC P .any ops G Q k L a w→wpC P .any ops G' Q' k L a w
 | 0,_,_,_,h=>fun w1 hb=>⟨(h w1 hb).1,hq _ _ (h w1 hb).2⟩
 | k+1,_,_,_,h=>fun w1 hb=>⟨fun h0=>hq _ _ ((h w1 hb).1 h0),fun i hi=>sH (fun a w h=>⟨hg _ _ _ h.1,kE hg hq k _ _ _ h.2⟩) ((h w1 hb).2 i hi)⟩
def GC(V W Z:List Nat)(S:ba)(j:Nat)(a b:World):Prop:=(V.contains j=false→Below a.heap.size a b)∧(W.contains j=false→eZ (fun k=>k∈Z) a b)∧eZ S a b
theorem GC.of_below{V W Z:List Nat}{S:ba}(j:Nat)(a b:World)(h:Below a.heap.size a b):GC V W Z S j a b:=⟨fun _=>h,fun _=>.of_below h,.of_below h⟩
section
variable {n:Fr} {Q:Exit→Sta→Prop} {s:Sta} {o:Oper}
def aC(P:Program)(n:Fr)(ops:Array Oper)(V W Z:List Nat)(Q:Exit→Sta→Prop)(k:Nat)(L:Array Bool)(s:Sta):Prop :=
 ∀ (w:World) (S:ba) (fp:Nat→ba) (a:Act),St w S fp s.ps s.hp→cG a s.env→a.tmps.size=n.size→a.defers=n.dfr→wpC P .any ops (GC V W Z S) (eA Q n w S (tot fp s.hp.length) .normal) k L a w
theorem kI{V W Z:List Nat}{L:Array Bool}(hr:Region.ready .any ops L=[])(h:Q .normal s):aC P n ops V W Z Q 0 L s:=fun w S fp a hst he hn hd w1 hb =>
 ⟨hr,(fO (hst.below hb) he hn hd h).trans (Evo.of_below _ _ hb) (fun _ h=>.inl h)⟩
theorem tp{l:List Oper}{id:Nat}(V W Z:List Nat)(hm:P.follows .mixedOrders=true)(h:aC P n l.toArray V W Z Q l.length (Array.replicate l.length false) s):awp P n (.region id l.toArray true) Q s:=fun w S fp a hst he hn hd=>by
 refine wpIn_region_any hm ?_
 have hb:Below w.heap.size w w.drew:=(Below.refl _ _).drew
 have h1:=h w.drew S fp a (hst.below hb) he hn hd
 have h2:=kD (r:=n.ro) (Q':=eA Q n w S (tot fp s.hp.length)) (fun a' w' hp=>eA.trans (Evo.of_below _ _ hb) (fun _ h=>.inl h) hp) _ _ _ _ h1
 simpa using h2
theorem aat{V W Z:List Nat}{k:Nat}{L:Array Bool}{X:Type}(F:X→Sta)(h1:aC P n ops V W Z (fun e s=>e=.normal∧∃ le lp lh x,okH s.hp lh=true∧ki s le lp lh=F x) k L s)(h2:∀ x,Q .normal (F x)):aC P n ops V W Z Q k L s:=fun w S fp a hst he hn hd =>
 kE (fun _ _ _ h=>h) (fun a' w' ⟨s',S',fp',⟨_,le,lp,lh,x,hok,hs⟩,g1,g2,g3,g4,g5,g6⟩=>by
   obtain ⟨k1,k2⟩:=g1.bT lp lh hok
   have e:=h2 x
   rw [← hs] at e
   exact ⟨ki s' le lp lh,S',_,e,k1,g2.sub (eO _ _),g3,g4,g5,fun b hb=>g6 b (k2 b hb)⟩) _ _ _ _ (h1 w S fp a hst he hn hd)
theorem mK{c:Code}{K:Sta→Prop}{X:Type}(F:X→Sta)(h1:awp P n c (thn (fun s=>∃ le lp lh x,okH s.hp lh=true∧ki s le lp lh=F x) Q) s)(h2:∀ x,K (F x)):awp P n c (thn K Q) s:=fun w S fp a hst he hn hd =>
 ei (fun e a' w' hp=>by
   cases e with
   | normal =>
     obtain ⟨s',S',fp',⟨le,lp,lh,x,hok,hs⟩,g1,g2,g3,g4,g5,g6⟩:=hp
     obtain ⟨k1,k2⟩:=g1.bT lp lh hok
     have e:=h2 x
     rw [← hs] at e
     exact ⟨ki s' le lp lh,S',_,e,k1,g2.sub (eO _ _),g3,g4,g5,fun b hb=>g6 b (k2 b hb)⟩
   | _=>exact hp) (h1 w S fp a hst he hn hd)
def c7(ops:Array Oper)(U:List Nat)(L:Array Bool)(i:Nat):Bool :=
 Region.noSelect ops && mx .any ops L && Region.free .any ops L i && (Region.ready .any ops L).contains i &&
   U.all fun c=>L.getD c true || ni .any ops 60 c i
theorem jS{V W Z U:List Nat}{k:Nat}{L:Array Bool}(i:Nat)(hi:ops[i]? = some o)(hf:c7 ops U L i=true)(c:Bool)(hc:guardOf ops s.env o=some c)(hd:fits n.size o.dst=true)
   (h:∀ (w:World) (S:ba) (fp:Nat→ba) (a:Act),St w S fp s.ps s.hp→cG a s.env→a.tmps.size=n.size→∃ (R:World→World→Prop) (v:Value) (ps:List Per),
     (∀ a b:World,Below a.heap.size a b→R a b)∧(∀ a b c:World,R a b→R b c→R a c)∧(∀ (j:Nat) (a b:World),U.contains j=false→GC V W Z S j a b→R a b) ∧
     (c=true→(∀ w1,R w w1→l0 P v w1 ((execOp a.eval o).run P w1))∧∀ p∈ps,p.holds w S) ∧
     aC P n ops V W Z Q k (L.setIfInBounds i true) ⟨setEnv s.env o.dst c v,ps.map (cnd c)++s.ps,s.hp⟩):aC P n ops V W Z Q (k+1) L s:=fun w S fp a hst he hn hdf=>by
 simp only [c7,Bool.and_eq_true] at hf
 obtain ⟨⟨⟨⟨f1,f3⟩,f4⟩,f5⟩,f6⟩:=hf
 have hV:∀ c,(fun i=>U.contains i) c=true→L.getD c true=false→ni .any ops 60 c i=true:=fun c hVc hL=>by
   have:=List.all_eq_true.1 f6 c (by simpa using hVc)
   simpa [hL] using this
 have hw:=dD (ops:=ops) hc he
 obtain ⟨R,v,ps,r1,r2,r3,r4,r5⟩:=h w S fp a hst he hn
 cases c with
 | true =>
   obtain ⟨hx,hps⟩:=r4 rfl
   refine ql r1 r2 GC.of_below (fun i=>U.contains i) r3 hi (Region.noSelect_spec f1) 60 k L a w (iW f3) hV (Region.free_spec hi f4) (by simpa using f5) (v:=v) (.inl ⟨hw,hx⟩) ?_
   refine r5 w S fp (a.put o.dst v) ⟨fun p hp => ?_,hst.res,hst.lt,hst.dj,hst.slt⟩ (he.set (c:=true) (by rw [hn];exact hd) v) (by rw [ep];exact hn) (by rw [put_defers];exact hdf)
   rcases List.mem_append.1 hp with h1 | h1
   · obtain ⟨p0,h2,rfl⟩:=List.mem_map.1 h1
     exact fun _=>hps p0 h2
   · exact hst.per p h1
 | false =>
   refine ql r1 r2 GC.of_below (fun i=>U.contains i) r3 hi (Region.noSelect_spec f1) 60 k L a w (iW f3) hV (Region.free_spec hi f4) (by simpa using f5) (v:=undef) (.inr ⟨hw,rfl⟩) ?_
   exact r5 w S fp (a.put o.dst undef) ⟨fun p hp=>(List.mem_append.1 hp).elim (fun h1=>by obtain ⟨p0,h2,rfl⟩:=List.mem_map.1 h1;exact fun h=>by cases h) (hst.per p),hst.res,hst.lt,hst.dj,hst.slt⟩ (he.set (c:=false) (by rw [hn];exact hd) v) (by rw [ep];exact hn) (by rw [put_defers];exact hdf)
def qo(P:Program)(Z:List Nat)(n:Fr)(o:Oper)(s:Sta)(b1 b2:Bool)(K:Sta→Prop):Prop :=
 ∀ (w:World) (S:ba) (fp:Nat→ba) (a:Act),St w S fp s.ps s.hp→cG a s.env→a.tmps.size=n.size →
   fB P (fun u w'=>∃ s' S' fp',K s'∧St w' S' fp' s'.ps s'.hp∧cG (a.put o.dst u) s'.env∧Evo w S (tot fp s.hp.length) w' S'∧(∀ b,tot fp' s'.hp.length b→tot fp s.hp.length b∨w.heap.size≤b) ∧
     (b1=true→Below w.heap.size w w')∧(b2=true→eZ (fun k=>k∈Z) w w')) ((execOp a.eval o).run P w)
theorem Eff.x{Z:List Nat}{K:Sta→Prop}{b1 b2:Bool}(h:Eff P n o s true K):qo P Z n o s b1 b2 K:=fun w S fp a hst he hn =>
 bO (fun u w' ⟨s',S',fp',g1,g2,g3,g4,g5,g6⟩=>⟨s',S',fp',g1,g2,g3,g4,g5,fun _=>g6 rfl,fun _=>eZ.of_below (g6 rfl)⟩) (h w S fp a hst he hn)
theorem Eff.wild{Z:List Nat}{K:Sta→Prop}{q:Bool}(h:Eff P n o s q K):qo P Z n o s false false K:=fun w S fp a hst he hn =>
 bO (fun u w' ⟨s',S',fp',g1,g2,g3,g4,g5,g6⟩=>⟨s',S',fp',g1,g2,g3,g4,g5,fun h=>(by cases h),fun h=>(by cases h)⟩) (h w S fp a hst he hn)
def vS(P:Program)(n:Fr)(ops:Array Oper)(V W Z:List Nat)(Q:Exit→Sta→Prop)(k:Nat)(L:Array Bool)(s:Sta)(j:Nat):Prop :=
 ∃ o,ops[j]? = some o∧guardOf ops s.env o=some true∧qo P Z n o s (!V.contains j) (!W.contains j) (aC P n ops V W Z Q k (L.setIfInBounds j true))
theorem ed{V W Z:List Nat}{k:Nat}{L:Array Bool}(i:Nat)(js:List Nat)(hr:Region.ready .any ops L=i::js)(h:∀ j∈i::js,vS P n ops V W Z Q k L s j):aC P n ops V W Z Q (k+1) L s:=fun w S fp a hst he hn hdf w1 hb=>by
 refine ⟨fun h0=>(by rw [hr] at h0;cases h0),fun j hj => ?_⟩
 rw [hr] at hj
 obtain ⟨o,hi,hc,hE⟩:=h j hj
 refine ⟨o,hi,?_⟩
 rw [if_pos (dD (ops:=ops) hc he)]
 have hst1:=hst.below hb
 refine bO (fun u w' ⟨s',S',fp',hK,hst',he',hE,hg,hq1,hq2⟩=>⟨⟨fun hVj=>hq1 (by rw [hVj];rfl),fun hWj=>hq2 (by rw [hWj];rfl),⟨hE.size,fun b hS hlt=>hE.block b hlt fun ⟨r,hr,hrb⟩=>(hst1.lt r hr b hrb).2 hS⟩⟩,?_⟩) (hE w1 S fp a hst1 he hn)
 refine kE (fun j a b h=>⟨h.1,h.2.1,h.2.2.mono hE.more⟩) (fun a2 w2 hp=>(hp.trans hE hg).trans (Evo.of_below _ _ hb) (fun _ h=>.inl h)) _ _ _ _ (hK w' S' fp' _ hst' he' (by rw [ep];exact hn) (by rw [put_defers];exact hdf))
theorem cZ{V W Z:List Nat}{k:Nat}{L:Array Bool}{i:Nat}{js:List Nat}(h1:vS P n ops V W Z Q k L s i)(h:∀ j∈js,vS P n ops V W Z Q k L s j):∀ j∈i::js,vS P n ops V W Z Q k L s j:=fun j hj=>by
 rcases List.mem_cons.1 hj with rfl | hj
 · exact h1
 · exact h j hj
theorem dK{V W Z:List Nat}{k:Nat}{L:Array Bool} : ∀ j∈([]:List Nat),vS P n ops V W Z Q k L s j:=fun j hj=>by cases hj
def zOk(lh:List Nat)(hp:List Res)(Z:List Nat):Prop:=∀ b∈Z,∃ (k:Nat) (T:TypeId) (cs:List Value),k ∉ lh∧hp[k]? = some (Box b T cs)
theorem abi{lh:List Nat}{hp:List Res} : zOk lh hp []:=fun b h=>by cases h
theorem vQ{lh:List Nat}{hp:List Res}{b:Nat}{Z:List Nat}{T:TypeId}{cs:List Value}(k:Nat)(hk:lh.contains k=false)(h:hp[k]? = some (Box b T cs))(hz:zOk lh hp Z):zOk lh hp (b::Z):=fun c hc=>by
 rcases List.mem_cons.1 hc with rfl | hc
 · exact ⟨k,T,cs,by simpa using hk,h⟩
 · exact hz c hc
def fr(lh:List Nat)(hp:List Res)(K:Sta→Prop):Sta→Prop:=fun s'=>K ⟨s'.env,s'.ps,fD lh s'.hp 0 hp⟩
theorem vr{lh:List Nat}{hp hp':List Res}{K:Sta→Prop}{env:Env}{ps:List Per}(h:K ⟨env,ps,fD lh hp' 0 hp⟩):fr lh hp K ⟨env,ps,hp'⟩:=h
theorem Eff.framed{env:Env}{ps:List Per}{hp:List Res}{q b1:Bool}{Z:List Nat}{K:Sta→Prop}(lh:List Nat)(ok:okH hp lh=true)(hb1:(!b1 || q)=true)(hZ:zOk lh hp Z)(h:Eff P n o ⟨env,ps,bT hp lh⟩ q (fr lh hp K)) :
   qo P Z n o ⟨env,ps,hp⟩ b1 true K:=fun w S fp a hst he hn=>by
 have ok':=ok
 simp only [okH,Bool.and_eq_true,decide_eq_true_eq] at ok'
 obtain ⟨k1,k2⟩:=hst.bT [] lh ok
 have k3:St w S (fun k=>fp (lh.getD k 0)) ps (bT hp lh):=⟨hst.per,k1.res,k1.lt,k1.dj,hst.slt⟩
 refine bO (fun u w' ⟨s',S',fp',g1,g2,g3,g4,g5,g6⟩ => ?_) (h w S _ a k3 he hn)
 obtain ⟨m1,m2⟩:=hst.back [] lh ok g2 g4 g5
 refine ⟨_,S',_,g1,⟨fun p hp=>m1.per p (List.mem_append.2 (.inl hp)),m1.res,m1.lt,m1.dj,m1.slt⟩,g3,g4.wider k2,m2,fun h=>g6 (by rw [h] at hb1;simpa using hb1),fun _=>⟨g4.size,fun b hb hlt=>g4.block b hlt (fun ⟨k,hk,hbk⟩ => ?_)⟩⟩
 obtain ⟨j,T,cs,hj,hbox⟩:=hZ b hb
 have hk':k<lh.length:=by simpa [bT] using hk
 have hjl:=(List.getElem?_eq_some_iff.1 hbox).1
 have hfj:fp j b:=((hst.res j _ hbox).2 b).2 rfl
 have hin:lh.getD k 0∈lh:=by simp [List.getD,hk']
 have hlt':lh.getD k 0<hp.length:=by simpa using List.all_eq_true.1 ok'.1 _ hin
 exact hst.dj j (lh.getD k 0) hjl hlt' (fun e=>hj (e ▸ hin)) b hfj hbk
end
section
variable {n:Fr} {env:Env} {ps:List Per} {hp:List Res} {Q:Exit→Sta→Prop} {d:Nat} {op:Op} {ty:TypeId} {pos:String} {af:Array Edge} {gd:Option (Nat × Bool)} {V W Z:List Nat} {k:Nat} {L L':Array Bool}
theorem fb{t:Option Tmp}(j:Nat)(hi:ops[j]? = some ⟨t,op,ty,pos,af,gd⟩)(hc:guardOf ops env ⟨t,op,ty,pos,af,gd⟩=some true)(h:qo P Z n ⟨t,op,ty,pos,af,gd⟩ ⟨env,ps,hp⟩ (!V.contains j) (!W.contains j) (aC P n ops V W Z Q k (L.setIfInBounds j true))):vS P n ops V W Z Q k L ⟨env,ps,hp⟩ j:=⟨_,hi,hc,h⟩
theorem xZ{v:Value}(i:Nat)(hi:ops[i]? = some ⟨some d,op,ty,pos,af,gd⟩)(hf:c7 ops [] L i=true)(c:Bool)(hc:guardOf ops env ⟨some d,op,ty,pos,af,gd⟩=some c)(hd:fits n (some d)=true)
   (hq:c=true→Quiet P n ⟨some d,op,ty,pos,af,gd⟩ ⟨env,ps,[]⟩ v) (h:aC P n ops V W Z Q k (L.setIfInBounds i true) ⟨(d,c,v)::env,ps,hp⟩):aC P n ops V W Z Q (k+1) L ⟨env,ps,hp⟩ :=
 jS (U:=[]) i hi hf c hc hd fun w S fp a hst he hn=>⟨eZ S,v,[],fun _ _=>eZ.of_below,fun _ _ _=>eZ.trans,fun _ _ _ _ h=>h.2.2,
   fun hc=>⟨fun w1 hw1=>hq hc w1 S (fun _ _=>False) a ⟨fun p hp=>p.mono (hst.per p hp) (fun b hb=>hw1.block b hb (hst.slt b hb)) (fun _ h=>h),fun i R h=>(by simp at h),fun i h=>(by simp at h),fun i j h=>(by simp at h),fun b hb=>Nat.lt_of_lt_of_le (hst.slt b hb) hw1.size⟩ he hn,fun _ h=>(by cases h)⟩,h⟩
theorem acZ{β:Type}{v:β→Value}{p1:β→Per}(i:Nat)(hi:ops[i]? = some ⟨some d,op,ty,pos,af,gd⟩)(hf:c7 ops [] L i=true)(c:Bool)(hc:guardOf ops env ⟨some d,op,ty,pos,af,gd⟩=some c)(hd:fits n (some d)=true)
   (hq:c=true→kG P (fun _ _=>True) n ⟨some d,op,ty,pos,af,gd⟩ ⟨env,ps,hp⟩ v (fun x=>[p1 x])) (hin:c=false→Nonempty β) (h:∀ x,aC P n ops V W Z Q k (L.setIfInBounds i true) ⟨(d,c,v x)::env,cnd c (p1 x)::ps,hp⟩):aC P n ops V W Z Q (k+1) L ⟨env,ps,hp⟩ :=
 jS (U:=[]) i hi hf c hc hd fun w S fp a hst he hn=>by
   cases c with
   | true =>
     obtain ⟨x,hx,hp⟩:=hq rfl w S fp a hst he hn
     exact ⟨fun _ _=>True,v x,[p1 x],fun _ _ _=>trivial,fun _ _ _ _ _=>trivial,fun _ _ _ _ _=>trivial,fun _=>⟨hx,hp⟩,h x⟩
   | false =>
     obtain ⟨x⟩:=hin rfl
     exact ⟨fun _ _=>True,v x,[p1 x],fun _ _ _=>trivial,fun _ _ _ _ _=>trivial,fun _ _ _ _ _=>trivial,fun h=>(by cases h),h x⟩
theorem acg{ps':List Per}(hp0:∀ w S,(∀ p∈ps',p.holds w S)→∀ p∈ps,p.holds w S)(h:aC P n ops V W Z Q k L ⟨env,ps,hp⟩):aC P n ops V W Z Q k L ⟨env,ps',hp⟩:=fun w S fp a hst he hn hd =>
 h w S fp a ⟨hp0 w S hst.per,hst.res,hst.lt,hst.dj,hst.slt⟩ he hn hd
theorem acf{β:Type}{v:β→Value}{p1:β→Per}(i:Nat)(hi:ops[i]? = some ⟨some d,op,ty,pos,af,gd⟩)(hf:c7 ops [] L i=true)(hc:guardOf ops env ⟨some d,op,ty,pos,af,gd⟩=some true)(hd:fits n (some d)=true)
   (hq:kG P (fun _ _=>True) n ⟨some d,op,ty,pos,af,gd⟩ ⟨env,ps,hp⟩ v (fun x=>[p1 x])) (h:∀ x,aC P n ops V W Z Q k (L.setIfInBounds i true) ⟨(d,true,v x)::env,p1 x::ps,hp⟩):aC P n ops V W Z Q (k+1) L ⟨env,ps,hp⟩ :=
 acZ i hi hf true hc hd (fun _=>hq) (fun h=>by cases h) fun x=>acg (fun w S hall p hp=>by
   rcases List.mem_cons.1 hp with rfl | h2
   · exact hall _ (List.mem_cons_self) rfl
   · exact hall _ (List.mem_cons_of_mem _ h2)) (h x)
theorem jr{x:Operand}{U T:TypeId}{ag:Bool}{kk b o:Nat}{cs:List Value}{v:Value}(i r:Nat)(hi:ops[i]? = some ⟨some d,.load U x,ty,pos,af,gd⟩)(hf:c7 ops W L i=true)(c:Bool)(hc:guardOf ops env ⟨some d,.load U x,ty,pos,af,gd⟩=some c)(hd:fits n (some d)=true)
   (hb:Z.contains b=true) (hk:tyk P U=some (ag,kk)) (hx:c=true→ev env x=some (true,.pointer (some ⟨b,o,none⟩))) (hr:hp[r]? = some (Box b T cs)) (hv:rdC ag kk cs o=some v)
   (h:aC P n ops V W Z Q k (L.setIfInBounds i true) ⟨(d,c,v)::env,ps,hp⟩):aC P n ops V W Z Q (k+1) L ⟨env,ps,hp⟩:=by
 refine jS (U:=W) i hi hf c hc hd fun w S fp a hst he hn=>⟨eZ (fun k=>k∈Z),v,[],fun _ _=>eZ.of_below,fun _ _ _=>eZ.trans,fun _ _ _ hj h=>h.2.1 hj,fun hc=>⟨fun w1 hw1 => ?_,fun _ h=>(by cases h)⟩,h⟩
 have h1:=he.val (hx hc) rfl
 have hb0:=(hst.res r _ hr).1
 have hb1:w1.heap[b]? = some (.cells cs.toArray T (0,0)):=(hw1.block b (by simpa using hb) (jH hb0)).trans hb0
 have:(execOp a.eval ⟨some d,.load U x,ty,pos,af,gd⟩).run P w1=.ok (.value v) w1:=by
   unfold execOp;dsimp only;rw [h1]
   have:=mC (w:=w1) hk hv (b:=b) (p:=0) (fun j u hu=>by rw [Nat.zero_add,dL hb1];exact hu)
   rw [Nat.zero_add] at this
   show ((loadVar U ⟨b,o,none⟩).bind fun r=>Sem.pure (Next.value r)).run P w1=_
   rw [Sem.run_bind',this];rfl
 rw [this];exact bE _ _
theorem ach{v:Value}(i:Nat)(hi:ops[i]? = some ⟨some d,op,ty,pos,af,gd⟩)(hf:c7 ops V L i=true)(c:Bool)(hc:guardOf ops env ⟨some d,op,ty,pos,af,gd⟩=some c)(hd:fits n (some d)=true)
   (hq:c=true→Quiet P n ⟨some d,op,ty,pos,af,gd⟩ ⟨env,ps,hp⟩ v) (h:aC P n ops V W Z Q k (L.setIfInBounds i true) ⟨(d,c,v)::env,ps,hp⟩):aC P n ops V W Z Q (k+1) L ⟨env,ps,hp⟩ :=
 jS (U:=V) i hi hf c hc hd fun w S fp a hst he hn=>⟨fun w w1=>Below w.heap.size w w1,v,[],fun _ _ h=>h,fun _ _ _=>dx,fun _ _ _ hj h=>h.1 hj,
   fun hc=>⟨fun w1 hw1=>hq hc w1 S fp a (hst.below hw1) he hn,fun _ h=>(by cases h)⟩,h⟩
theorem dr{x:Operand}{kk:IntKind}{z z':Int}(h:ev env x=some (true,.int kk z))(e:z=z'):ev env x=some (true,.int kk z'):=e ▸ h
theorem aci{ps':List Per}{hp':List Res}(hL:L=L')(h1:ps=ps')(h0:hp=hp')(h:aC P n ops V W Z Q k L' ⟨env,ps',hp'⟩):aC P n ops V W Z Q k L ⟨env,ps,hp⟩:=hL ▸ h1 ▸ h0 ▸ h
end
end Go.Sy

namespace Go.Sy
open Go.RowKit Go.Lp Go.Sort
section
variable {α:Type} [Inhabited α]
def bF(enc:α→Value)(l:List α):List (List D):=l.map fun x=>[.v (enc x)]
omit [Inhabited α] in
theorem cE(enc:α→Value)(l:List α):(bF enc l).length=l.length:=by simp [bF]
theorem pg(enc:α→Value)(l:List α):∀ (cs sp:List Value),cs.length=l.length→putCells enc 0 l.toArray (cs++sp).toArray=(l.map enc++sp).toArray:=by
 intro cs sp h
 apply Array.ext_getElem?
 intro k
 unfold putCells
 rw [Array.getElem?_mapIdx]
 simp only [List.getElem?_toArray,List.size_toArray,Nat.zero_le,true_and,Nat.zero_add,Nat.sub_zero]
 by_cases hk:k<l.length
 · rw [List.getElem?_append_left (by omega),List.getElem?_append_left (by simpa using hk),List.getElem?_map,List.getElem?_eq_getElem (by omega),List.getElem?_eq_getElem hk,Option.map_some,Option.map_some,if_pos hk]
   congr 2
   simp [hk]
 · rw [List.getElem?_append_right (by omega),List.getElem?_append_right (by simpa using hk)]
   rw [h,List.length_map]
   cases sp[k-l.length]? with
   | none=>rfl
   | some x=>simp [hk]
theorem vF{enc:α→Value}{w:World}{S F:ba}{v:Value}{T:TypeId}{zs:List α}(h:(aP v T 1 (bF enc zs)).holds w S F) :
   (v=.slice none 0 0∧zs=[])∨∃ b cap sp,v=.slice (some ⟨b,0,none⟩) zs.length cap∧w.heap[b]? = some (.cells (zs.map enc++sp).toArray T (0,0))∧zs.length+sp.length=cap∧cap≤maxLen∧(∀ k,F k↔k=b)∧Holds enc w b 0 zs.toArray:=by
 rcases h with ⟨h1,h2,_⟩ | ⟨b,cap,hv,⟨cs,sp,hb,hr,hl,hle,hc⟩,hF⟩
 · left;exact ⟨h1,by unfold bF at h2;simpa using h2⟩
 · right
   have hlen:=hr.len
   rw [cE,Nat.mul_one] at hlen
   have hcs:cs=zs.map enc:=by
     apply List.ext_getElem?
     intro k
     by_cases hk:k<zs.length
     · obtain ⟨u,hu,hrep⟩:=hr.rep k 0 [.v (enc zs[k])] (.v (enc zs[k])) (by simp [bF,hk]) rfl
       rw [Nat.mul_one,Nat.add_zero] at hu
       cases hrep
       rw [hu,List.getElem?_map,List.getElem?_eq_getElem hk];rfl
     · rw [List.getElem?_eq_none (by omega),List.getElem?_eq_none (by simpa using hk)]
   subst hcs
   refine ⟨b,cap,sp,by rw [hv,cE],hb,by simpa using hl,hc,hF,fun j hj => ?_⟩
   have hj':j<zs.length:=by simpa using hj
   refine ⟨?_,?_⟩
   · rw [Nat.zero_add,dL hb,List.getElem?_append_left (by simpa using hj'),List.getElem?_map,List.getElem?_eq_getElem hj',Option.map_some]
     congr 2
     simp [hj']
   · unfold World.frozen?
     rw [hb]
     simp
theorem jB {P:Program} {f:FuncId} {enc:α→Value} (henc:∀ x,(enc x).oneCell'=true) {T:TypeId} {v:Value} {zs zs1 rest:List α} (hlen:zs1.length+rest.length=zs.length)
   {R:Value→List Per→List Res→Prop} (hnil:v=.slice none 0 0→zs=[]→∀ w,Calls P f #[v] w fun e w'=>∃ r,e=.returned r∧w'=w∧R r [] [aP v T 1 (bF enc [])])
   (h:∀ (b cap:Nat) (w:World),v=.slice (some ⟨b,0,none⟩) zs.length cap→b<w.heap.size→zs.length≤cap→cap≤maxLen→Holds enc w b 0 zs.toArray →
     Calls P f #[.slice (some ⟨b,0,none⟩) zs.length cap] w fun e w'=>(∃ r,e=.returned r∧R r [] [aP (.slice (some ⟨b,0,none⟩) zs1.length cap) T 1 (bF enc zs1)])∧∃ n os,w'=grow (putRow enc (Sort.ahead w n) b 0 (zs1++rest).toArray) os) :
   Con P f [v] [] [aP v T 1 (bF enc zs)] R:=fun w S fp hst=>by
 have hr:=hst.res 0 _ rfl
 rcases vF hr with ⟨h1,h2⟩ | ⟨b,cap,sp,hv,hb,hl,hc,hF,hH⟩
 · refine (hnil h1 h2 w).mono fun e w' ⟨r,he,hw,hR⟩ => ?_
   subst hw
   subst h2
   exact ⟨r,_,_,S,fp,he,hR,⟨(fun p hp=>by cases hp),hst.res,hst.lt,hst.dj,hst.slt⟩,Evo.refl _ _ _,fun b hb=>.inl hb⟩
 · have hbl:=jH hb
   have hcall:=h b cap w hv hbl (by omega) hc hH
   rw [← hv] at hcall
   refine hcall.mono fun e w' ⟨⟨r,he,hR⟩,n,os,hw⟩ => ?_
   have hb':w'.heap[b]? = some (.cells (zs1.map enc++(rest.map enc++sp)).toArray T (0,0)):=by
     rw [hw]
     show ((w.heap.modify b (onCells (putCells enc 0 (zs1++rest).toArray)))++os)[b]? = _
     rw [Array.getElem?_append_left (by simpa using hbl),Array.getElem?_modify,if_pos rfl,hb,Option.map_some]
     show some (Obj.cells (putCells enc 0 (zs1++rest).toArray (zs.map enc++sp).toArray) T (0,0))=_
     rw [pg enc (zs1++rest) (zs.map enc) sp (by simp;omega),List.map_append,List.append_assoc]
   have hoth:∀ k,k<w.heap.size→k≠b→w'.heap[k]? = w.heap[k]? := fun k hk hne=>by
     rw [hw]
     show ((w.heap.modify b (onCells (putCells enc 0 (zs1++rest).toArray)))++os)[k]? = _
     rw [Array.getElem?_append_left (by simpa using hk),Array.getElem?_modify,if_neg (Ne.symm hne)]
   have hsz:w.heap.size≤w'.heap.size:=by
     rw [hw]
     show _≤((w.heap.modify b (onCells (putCells enc 0 (zs1++rest).toArray)))++os).size
     simp
   have hfb:fp 0 b:=(hF b).2 rfl
   have hnS:¬ S b:=(hst.lt 0 (by simp) b hfb).2
   refine ⟨r,_,_,S,fp,he,hR,⟨(fun p hp=>by cases hp),fun i R' hi => ?_,fun i hi k hk => ?_,hst.dj,fun k hk=>Nat.lt_of_lt_of_le (hst.slt k hk) hsz⟩,⟨by rw [hw];rfl,by rw [hw];rfl,by rw [hw];rfl,hsz,by rw [hw];exact Nat.le_add_right _ _,fun k hk hx=>hoth k hk fun e=>hx ⟨0,by simp,e ▸ hfb⟩,fun _ h=>h,fun _ h=>.inl h⟩,fun k hk=>.inl hk⟩
   · cases i with
     | succ i=>simp at hi
     | zero =>
       simp only [List.getElem?_cons_zero,Option.some.injEq] at hi
       subst hi
       refine .inr ⟨b,cap,by rw [cE],⟨zs1.map enc,rest.map enc++sp,hb',⟨by simp [bF],fun i r hi => ?_,fun u hu => ?_,fun i j r d h1 h2 => ?_⟩,by simp;omega,by rw [cE];omega,hc⟩,hF⟩
       · simp only [bF,List.getElem?_map,Option.map_eq_some_iff] at hi
         obtain ⟨x,_,rfl⟩:=hi;rfl
       · obtain ⟨x,_,rfl⟩:=List.mem_map.1 hu;exact henc x
       · simp only [bF,List.getElem?_map,Option.map_eq_some_iff] at h1
         obtain ⟨x,hx,rfl⟩:=h1
         cases j with
         | zero =>
           simp only [List.getElem?_cons_zero,Option.some.injEq] at h2
           subst h2
           exact ⟨enc x,by simp [hx],.v _⟩
         | succ j=>simp at h2
   · exact ⟨Nat.lt_of_lt_of_le (hst.lt i hi k hk).1 hsz,(hst.lt i hi k hk).2⟩
end
end Go.Sy

namespace Go.Sy
open Go.RowKit Go.Lp
theorem St.split{w:World}{S:ba}{fp:Nat→ba}{ps:List Per}{hp:List Res}(h:St w S fp ps hp){i:Nat}{R R':Res}(hi:hp[i]? = some (fa R R')) :
   ∃ fp',St w S fp' ps (hp.set i R++[R'])∧∀ b,tot fp' (hp.set i R++[R']).length b→tot fp hp.length b:=by
 obtain ⟨G,H,h1,h2,h3,h4⟩:=h.res i _ hi
 have hil:=(List.getElem?_eq_some_iff.1 hi).1
 have hG:∀ b,G b→fp i b:=fun b hb=>(h4 b).2 (.inl hb)
 have hH:∀ b,H b→fp i b:=fun b hb=>(h4 b).2 (.inr hb)
 have hlen:(hp.set i R++[R']).length=hp.length+1:=by simp
 refine ⟨fun k=>if k=i then G else if k=hp.length then H else fp k,⟨h.per,fun k T hk => ?_,fun k hk b hb => ?_,fun k l hk hl hkl b hb hb' => ?_,h.slt⟩,fun b ⟨k,hk,hb⟩ => ?_⟩
 · by_cases hkl:k=hp.length
   · subst hkl
     rw [List.getElem?_append_right (by simp)] at hk
     simp at hk
     subst hk
     rw [if_neg (by omega),if_pos rfl];exact h2
   · have hkl':k<hp.length:=by have:=(List.getElem?_eq_some_iff.1 hk).1;rw [hlen] at this;omega
     rw [List.getElem?_append_left (by simpa using hkl')] at hk
     by_cases hki:k=i
     · subst hki
       rw [List.getElem?_set_self hil] at hk
       simp only [Option.some.injEq] at hk
       subst hk
       rw [if_pos rfl];exact h1
     · rw [List.getElem?_set_ne (Ne.symm hki)] at hk
       rw [if_neg hki,if_neg hkl];exact h.res k T hk
 · rw [hlen] at hk
   try dsimp only at hb
   split at hb
   · exact h.lt i hil b (hG b hb)
   · split at hb
     · exact h.lt i hil b (hH b hb)
     · exact h.lt k (by omega) b hb
 · rw [hlen] at hk hl
   try dsimp only at hb hb'
   split at hb
   · subst k
     rw [if_neg (Ne.symm hkl)] at hb'
     split at hb'
     · exact h3 b hb hb'
     · exact h.dj i l hil (by omega) hkl b (hG b hb) hb'
   · rename_i hki
     split at hb
     · subst k
       split at hb'
       · exact h3 b hb' hb
       · rw [if_neg (Ne.symm hkl)] at hb'
         exact h.dj i l hil (by omega) (by omega) b (hH b hb) hb'
     · rename_i hkn
       split at hb'
       · exact h.dj k i (by omega) hil hki b hb (hG b hb')
       · split at hb'
         · exact h.dj k i (by omega) hil hki b hb (hH b hb')
         · exact h.dj k l (by omega) (by omega) hkl b hb hb'
 · rw [hlen] at hk
   try dsimp only at hb
   split at hb
   · exact ⟨i,hil,hG b hb⟩
   · split at hb
     · exact ⟨i,hil,hH b hb⟩
     · exact ⟨k,by omega,hb⟩
section
variable {P:Program} {n:Fr} {env:Env} {ps:List Per} {hp:List Res} {c:Code} {Q:Exit→Sta→Prop}
theorem pA(i:Nat){R R':Res}(hi:hp[i]? = some (fa R R'))(h:awp P n c Q ⟨env,ps,hp.set i R++[R']⟩):awp P n c Q ⟨env,ps,hp⟩:=qt (fun _ _ _ hst=>hst.split hi) h
end
section
variable {P:Program} {n:Fr} {env:Env} {ps:List Per} {hp:List Res} {c:Code} {Q:Exit→Sta→Prop}
theorem jU(i:Nat){R:Res}(R':Res)(hi:hp[i]? = some R)(hc:∀ w S F,R.holds w S F→R'.holds w S F)(h:awp P n c Q ⟨env,ps,hp.set i R'⟩):awp P n c Q ⟨env,ps,hp⟩:=fun w S fp a hst he hn hd=>by
 have hil:=(List.getElem?_eq_some_iff.1 hi).1
 have:=h w S fp a (hst.change hil (Nat.le_refl _) (fun _ _ _=>rfl) R' (hc _ _ _ (hst.res i R hi))) he hn hd
 rwa [show ({ env:=env,ps:=ps,hp:=hp.set i R' } : Sta).hp.length=hp.length by simp] at this
theorem pz{β:Type}(i:Nat){R:Res}(R':β→Res)(hi:hp[i]? = some R)(hc:∀ w S F,R.holds w S F→∃ x,(R' x).holds w S F)(h:∀ x,awp P n c Q ⟨env,ps,hp.set i (R' x)⟩):awp P n c Q ⟨env,ps,hp⟩:=fun w S fp a hst he hn hd=>by
 have hil:=(List.getElem?_eq_some_iff.1 hi).1
 obtain ⟨x,hx⟩:=hc _ _ _ (hst.res i R hi)
 have:=h x w S fp a (hst.change hil (Nat.le_refl _) (fun _ _ _=>rfl) (R' x) hx) he hn hd
 rwa [show ({ env:=env,ps:=ps,hp:=hp.set i (R' x) } : Sta).hp.length=hp.length by simp] at this
end
end Go.Sy

