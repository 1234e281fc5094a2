/- Parts of the proof, in build order. No condition. -/
import Derived.Test.YtfkcmbonmpcbfaaGreatTb18
import Derived.Test.YtfkcmbonmpcbfaaGreatTb06
import Derived.Test.YtfkcmbonmpcbfaaGreatTb02
import Derived.Test.YtfkcmbonmpcbfaaGreatTb11
import Derived.Test.YtfkcmbonmpcbfaaGreatTb13
import Derived.Test.YtfkcmbonmpcbfaaGreatTb08
import Derived.Test.YtfkcmbonmpcbfaaGreatTb04
import Derived.Test.YtfkcmbonmpcbfaaGreatTb05
import Derived.Test.YtfkcmbonmpcbfaaGreatTb10
import Derived.Test.YtfkcmbonmpcbfaaGreatTb09
import Derived.Lib.FrozenHead
import Derived.Lib.MakeNoZero
import Derived.Lib.Overlaps
import Derived.Test.YtfkcmbonmpcbfaaGreatTb12
import Derived.Test.YtfkcmbonmpcbfaaGreatTb15
set_option linter.unusedSimpArgs false
set_option linter.unusedVariables false
set_option maxHeartbeats 1000000
set_option maxRecDepth 20000
namespace Go.Sy
open Go.RowKit Go.Lp
def cO(l:List (List Value)):List (List D):=l.map (·.map D.v)
theorem db{sz:Nat} : ∀ (l:List (List Value)),(∀ r∈l,r.length=sz)→l.flatten.length=l.length*sz
 | [],_=>by simp
 | r::l,h=>by
   rw [List.flatten_cons,List.length_append,db l (fun x hx=>h x (List.mem_cons_of_mem _ hx)),h r List.mem_cons_self,List.length_cons,Nat.add_mul];omega
theorem i6{sz:Nat} : ∀ (l:List (List Value)),(∀ r∈l,r.length=sz)→∀ i j,j<sz→l.flatten[i*sz+j]? = (l[i]?).bind (·[j]?)
 | [],_,i,j,_=>by simp
 | r::l,h,0,j,hj=>by
   have:=h r List.mem_cons_self
   rw [List.flatten_cons,Nat.zero_mul,Nat.zero_add,List.getElem?_append_left (by omega)];rfl
 | r::l,h,i+1,j,hj=>by
   have hr:=h r List.mem_cons_self
   have e:(i+1)*sz+j=r.length+(i*sz+j):=by rw [hr,Nat.add_mul];omega
   rw [List.flatten_cons,e,List.getElem?_append_right (by omega),Nat.add_sub_cancel_left,i6 l (fun x hx=>h x (List.mem_cons_of_mem _ hx)) i j hj];rfl
theorem tL{w:World}{S:aT}{sz:Nat}{cs:List Value}{l:List (List Value)}(h:cZ w S sz cs (cO l)):cs=l.flatten∧∀ r∈l,r.length=sz:=by
 have hr:∀ r∈l,r.length=sz:=fun r hr=>by
   obtain ⟨i,hi⟩:=List.mem_iff_getElem?.1 hr
   have:=h.row i (r.map D.v) (by simp [cO,hi])
   simpa using this
 refine ⟨?_,hr⟩
 have hlen:=h.len
 have hfl:=db l hr
 apply List.ext_getElem?
 intro q
 by_cases hq:q<cs.length
 · have hz:0<sz:=by
     rcases Nat.eq_zero_or_pos sz with h0 | h0
     · subst h0;simp at hlen;rw [hlen] at hq;simp at hq
     · exact h0
   have hjs:=Nat.mod_lt q hz
   have hqe:q=q / sz*sz+q % sz:=by rw [Nat.mul_comm];exact (Nat.div_add_mod q sz).symm
   have hil:q / sz<l.length:=by
     rw [Nat.div_lt_iff_lt_mul hz]
     have:(cO l).length=l.length:=by simp [cO]
     rw [hlen,this] at hq;exact hq
   have hi:l[q / sz]? = some l[q / sz]:=List.getElem?_eq_getElem hil
   have hj:l[q / sz][q % sz]? = some (l[q / sz][q % sz]'(by rw [hr _ (List.getElem_mem hil)];exact hjs)):=List.getElem?_eq_getElem _
   obtain ⟨u,hu,hrep⟩:=h.rep (q / sz) (q % sz) (l[q / sz].map D.v) (.v _) (by simp [cO,hi]) (by rw [List.getElem?_map,hj];rfl)
   rw [← hqe] at hu
   rw [hu,hqe,i6 l hr _ _ hjs,hi]
   show some u=l[q / sz][q % sz]?
   rw [hj,iG hrep]
 · rw [List.getElem?_eq_none (by omega),List.getElem?_eq_none (by rw [hfl];rw [hlen] at hq;simpa [cO] using hq)]
theorem yD{w:World}{S:aT}{sz:Nat}{l:List (List Value)}(hr:∀ r∈l,r.length=sz)(h1:∀ v∈l.flatten,v.oneCell'=true):cZ w S sz l.flatten (cO l) where
 len:=by rw [db l hr];simp [cO]
 row i r h:=by
   unfold cO at h
   rw [List.getElem?_map,Option.map_eq_some_iff] at h
   obtain ⟨x,hx,rfl⟩:=h
   rw [List.length_map];exact hr x (List.mem_of_getElem? hx)
 one:=h1
 rep i j r d h hd:=by
   unfold cO at h
   rw [List.getElem?_map,Option.map_eq_some_iff] at h
   obtain ⟨x,hx,rfl⟩:=h
   rw [List.getElem?_map,Option.map_eq_some_iff] at hd
   obtain ⟨u,hu,rfl⟩:=hd
   have hj:j<sz:=by rw [← hr x (List.mem_of_getElem? hx)];exact (List.getElem?_eq_some_iff.1 hu).1
   exact ⟨u,by rw [i6 l hr i j hj,hx];exact hu,.v u⟩
theorem kC{sz:Nat}{l:List (List Value)}(h:∀ r∈l,r.length=sz)(sp:List Value){k:Nat}(hk:k≤l.length):(l.flatten++sp).take (k*sz)=(l.take k).flatten∧(l.flatten++sp).drop (k*sz)=(l.drop k).flatten++sp:=by
 have e:l.flatten=(l.take k).flatten++(l.drop k).flatten:=by rw [← List.flatten_append,List.take_append_drop]
 have hl:(l.take k).flatten.length=k*sz:=by rw [db _ fun r hr=>h r (List.mem_of_mem_take hr),List.length_take,Nat.min_eq_left hk]
 rw [e,List.append_assoc]
 exact ⟨by rw [← hl,List.take_left'] ; rfl,by rw [← hl,List.drop_left'];rfl⟩
theorem mj{cs seg:List Value}{o k:Nat}(ho:o≤cs.length)(hk:o+seg.length=k):(splice cs o seg).take k=cs.take o++seg:=by
 unfold splice
 rw [← List.append_assoc,List.take_append_of_le_length (by simp;omega),List.take_of_length_le (by simp;omega)]
theorem vV{cs seg:List Value}{o k:Nat}(ho:o≤cs.length)(hk:k≤o):(splice cs o seg).take k=cs.take k:=by
 unfold splice
 rw [List.take_append_of_le_length (by simp;omega),List.take_take,Nat.min_eq_left hk]
theorem tW{cs seg:List Value}{o:Nat}(ho:o≤cs.length):(splice cs o seg).drop o=seg++cs.drop (o+seg.length):=by
 unfold splice
 rw [List.drop_left' (by simp;omega)]
theorem cD{cs seg:List Value}{o:Nat}(h:o+seg.length≤cs.length):(splice cs o seg).length=cs.length:=by
 unfold splice;simp;omega
section
variable {P:Program} {n:Fr} {env:Env} {ps:List Per} {hp:List Res} {c:Code} {Q:Exit→Sta→Prop} {E:TypeId} {sz B m cp:Nat} {l:List (List Value)} {cs:List Value}
theorem iU(i:Nat)(hi:hp[i]? = some (aD (.slice (some ⟨B,0,none⟩) m cp) E sz (cO l)))
   (h:∀ sp,(∀ r∈l,r.length=sz)→(l.flatten++sp).length=cp*sz→l.length≤cp→cp≤maxLen→(∀ v∈l.flatten,v.oneCell'=true)→awp P n c Q ⟨env,ps,hp.set i (Box B E (l.flatten++sp))⟩):awp P n c Q ⟨env,ps,hp⟩:=by
 refine lq (β := {sp:List Value // (∀ r∈l,r.length=sz)∧(l.flatten++sp).length=cp*sz∧l.length≤cp∧cp≤maxLen∧∀ v∈l.flatten,v.oneCell'=true}) i (fun x=>Box B E (l.flatten++x.1)) hi (fun w S F hh => ?_) fun x=>h x.1 x.2.1 x.2.2.1 x.2.2.2.1 x.2.2.2.2.1 x.2.2.2.2.2
 rcases hh with ⟨h,_⟩ | ⟨b,cap,hv,⟨cs,sp,hb,hrows,hcap,hrc,hcm⟩,hF⟩
 · cases h
 · simp only [Value.slice.injEq,Option.some.injEq,Addr.mk.injEq] at hv
   obtain ⟨⟨rfl,_⟩,_,rfl⟩:=hv
   obtain ⟨rfl,hr⟩:=tL hrows
   exact ⟨⟨sp,hr,hcap,by simpa [cO] using hrc,hcm,hrows.one⟩,hb,hF⟩
theorem iT(i m' cp':Nat)(l:List (List Value))(hi:hp[i]? = some (Box B E cs))(hm:l.length=m')(hr:∀ r∈l,r.length=sz)(ht:cs.take (m'*sz)=l.flatten)(hl:cs.length=cp'*sz)(hmc:m'≤cp')(hcm:cp'≤maxLen)(h1:∀ v∈l.flatten,v.oneCell'=true)
   (h:awp P n c Q ⟨env,ps,hp.set i (aD (.slice (some ⟨B,0,none⟩) m' cp') E sz (cO l))⟩):awp P n c Q ⟨env,ps,hp⟩ :=
 fH i (aD (.slice (some ⟨B,0,none⟩) m' cp') E sz (cO l)) hi (fun w S F ⟨hb,hF⟩=>.inr ⟨B,cp',by simp [cO,hm],⟨cs.take (m'*sz),cs.drop (m'*sz),by rw [List.take_append_drop];exact hb,by rw [ht];exact yD hr h1,by rw [List.take_append_drop];exact hl,by simpa [cO,hm] using hmc,hcm⟩,hF⟩) h
end
section
variable {P:Program} {n:Fr} {env:Env} {ps:List Per} {hp:List Res} {d:Option Tmp} {ty:TypeId} {pos:String} {af:Array Edge} {gd:Option (Nat × Bool)} {K:Sta→Prop}
theorem wj{w:World}{S:aT}{fp:Nat→aT}(hst:St w S fp ps hp){j:Nat}{C:Nat}{E2:TypeId}{cs2:List Value}(hj:hp[j]? = some (Box C E2 cs2))(p q:Nat):∀ k v,((cs2.drop p).take q)[k]? = some v→w.cell? ((Addr.mk C p none).add k)=some v:=fun k v hv=>by
 have hb:=(hst.res j _ hj).1
 rw [addr_add,c9 hb]
 rw [List.getElem?_take] at hv
 split at hv
 · rw [List.getElem?_drop] at hv;exact hv
 · cases hv
theorem jx{t:Nat}{x y:Operand}{T T2 E E1 E2:TypeId}{sz B o dl dc C p sl sc:Nat}{cs cs2:List Value}(i j q:Nat)(hel:elB P T E sz=true)(hx:ev env x=some (true,.slice (some ⟨B,o,none⟩) dl dc))(hy:ev env y=some (true,.slice (some ⟨C,p,none⟩) sl sc))(ht:fits n.size (some t)=true)
   (hi:hp[i]? = some (Box B E1 cs)) (hj:hp[j]? = some (Box C E2 cs2)) (hq:Nat.min sl dl=q) (hd:o+q*sz≤cs.length) (hs:p+q*sz≤cs2.length) (h1:∀ v∈(cs2.drop p).take (q*sz),v.oneCell'=true)
   (hK:K ⟨(t,true,.int .i64 q)::env,ps,hp.set i (Box B E1 (splice cs o ((cs2.drop p).take (q*sz))))⟩) :
   Eff P n ⟨some t,.call ⟨.builtin .copy,#[x,y],#[T,T2]⟩,ty,pos,af,gd⟩ ⟨env,ps,hp⟩ false K:=.change i hi fun w S fp a hst he hn ⟨hb,hF⟩=>by
 have e1:=he.val hx rfl
 have e2:=he.val hy rfl
 obtain ⟨hT,it,hit,_,hsz,_⟩:=bP hel
 have hlen:((cs2.drop p).take (q*sz)).length=q*sz:=by simp;omega
 have hr:=pz (P:=P) w T T2 ty E sz B o dl dc ⟨C,p,none⟩ sl sc cs.toArray E1 ((cs2.drop p).take (q*sz)) hT (by rw [hit];simp [hsz]) hb (by rw [hlen,hq]) (wj hst hj p _) (by rw [hlen];simpa using hd) h1
 have hexec:execOp a.eval ⟨some t,.call ⟨.builtin .copy,#[x,y],#[T,T2]⟩,ty,pos,af,gd⟩=(Builtin.copy_ #[T,T2] ty (#[x,y].map a.eval)).bind fun r=>Sem.pure (Next.value r):=rfl
 rw [hexec,show #[x,y].map a.eval = #[a.eval x,a.eval y] by simp,e1,e2,Sem.run_bind',hr,hq]
 exact ⟨_,_,hK,rfl,rfl,he.put (g:=true) (by rw [hn];simpa [fits] using ht) _,⟨setRow_heap _ _ _ _ _ _ hb,hF⟩,rfl,rfl,⟨rfl,rfl⟩,by simp [World.setRow],fun b' hb' hne=>setRow_other _ _ _ _ (fun h=>hne ((hF b').2 h))⟩
theorem sU{t:Nat}{x y:Operand}{T T2 E E' E1 E2:TypeId}{sz B k dc C p q sc:Nat}{cs cs2:List Value}(i j:Nat)(hel:elB P T E sz=true)(hT2:P.underlying T2=some (.slice E'))(hx:ev env x=some (true,.slice (some ⟨B,0,none⟩) k dc))(hy:ev env y=some (true,.slice (some ⟨C,p,none⟩) q sc))(ht:fits n.size (some t)=true)
   (hi:hp[i]? = some (Box B E1 cs)) (hj:hp[j]? = some (Box C E2 cs2)) (hroom:k+q≤dc) (hd:k*sz+q*sz≤cs.length) (hs:p+q*sz≤cs2.length) (h1:∀ v∈(cs2.drop p).take (q*sz),v.oneCell'=true)
   (hK:K ⟨(t,true,.slice (some ⟨B,0,none⟩) (k+q) dc)::env,ps,hp.set i (Box B E1 (splice cs (k*sz) ((cs2.drop p).take (q*sz))))⟩) :
   Eff P n ⟨some t,.call ⟨.builtin .append,#[x,y],#[T,T2]⟩,ty,pos,af,gd⟩ ⟨env,ps,hp⟩ false K:=.change i hi fun w S fp a hst he hn ⟨hb,hF⟩=>by
 have e1:=he.val hx rfl
 have e2:=he.val hy rfl
 obtain ⟨hT,it,hit,_,hsz,_⟩:=bP hel
 have hlen:((cs2.drop p).take (q*sz)).length=q*sz:=by simp;omega
 have hsrc:=Src.row (P:=P) w T2 E' hT2 it.size C p q sc ((cs2.drop p).take (q*sz)) (by rw [hlen,hsz]) (fun k v hv=>by have:=wj hst hj p _ k v hv;rwa [addr_add] at this) h1
 have hr:=lY (P:=P) w T T2 ty E it hT hit B 0 k dc _ q _ hsrc hroom cs.toArray E1 hb (by rw [hlen,hsz];simpa using hd)
 have hexec:execOp a.eval ⟨some t,.call ⟨.builtin .append,#[x,y],#[T,T2]⟩,ty,pos,af,gd⟩=(Builtin.append_ #[T,T2] ty (#[x,y].map a.eval)).bind fun r=>Sem.pure (Next.value r):=rfl
 rw [hexec,show #[x,y].map a.eval = #[a.eval x,a.eval y] by simp,e1,e2,Sem.run_bind',hr]
 rw [Nat.zero_add,hsz]
 exact ⟨_,_,hK,rfl,rfl,he.put (g:=true) (by rw [hn];simpa [fits] using ht) _,⟨setRow_heap _ _ _ _ _ _ hb,hF⟩,rfl,rfl,⟨rfl,rfl⟩,by simp [World.setRow],fun b' hb' hne=>setRow_other _ _ _ _ (fun h=>hne ((hF b').2 h))⟩
theorem xV{t:Nat}{x y:Operand}{T T2 E E1:TypeId}{sz B k dc q:Nat}{cs zs:List Value}{z0:Int}(i:Nat)(hel:elB P T E sz=true)(hz:dL P E=some zs)(hz1:zs.all (·.oneCell')=true)(hzl:zs.length=sz)(hby:(P.info? E).any (fun j=>j.bytes≤4096)=true)(hT2:P.underlying T2=some (.int .i64))
   (hx:ev env x=some (true,.slice (some ⟨B,0,none⟩) k dc)) (hy:ev env y=some (true,.int .i64 z0)) (hq:z0=(q:Int)) (ht:fits n.size (some t)=true)
   (hi:hp[i]? = some (Box B E1 cs)) (h0:0<q) (hs0:0<sz) (hg:dc<k+q) (hn1:k+q≤1000000) (hd:k*sz≤cs.length)
   (hK:∀ G C (zz:List Value),k+q≤C→C≤maxLen→(cs.take (k*sz)++zz).length=C*sz→(∀ v∈zz,v.oneCell'=true)→K ⟨(t,true,.slice (some ⟨G,0,none⟩) (k+q) C)::env,ps,hp++[Box G E (cs.take (k*sz)++zz)]⟩) {b0:Bool} :
   Eff P n ⟨some t,.call ⟨.builtin .append,#[x,y],#[T,T2]⟩,ty,pos,af,gd⟩ ⟨env,ps,hp⟩ b0 K:=.push fun w S fp a hst he hn=>by
 subst hq
 have e1:=he.val hx rfl
 have e2:=he.val hy rfl
 obtain ⟨hT,it,hit,_,hsz,_⟩:=bP hel
 have hb:=(hst.res i _ hi).1
 obtain ⟨z,hzz,hzc⟩:∃ z,it.zero=some z∧z.cells.toList=zs:=by
   unfold dL at hz;rw [hit,Option.bind_some,Option.map_eq_some_iff] at hz;exact hz
 have hzsz:z.cells.size=sz:=by rw [← hzl,← hzc];simp
 have hby':it.bytes≤4096:=by rw [hit] at hby;simpa using hby
 have hold:=gu (P:=P) w.drew B 0 sz k dc cs E1 (0,0) hb (by omega)
 have hr:=Lib.run_append_grow_zeros w T T2 ty E it z .i64 .i64 hT hT2 hit hzz (some ⟨B,0,none⟩) k dc _ (by rw [hsz];exact hold) q h0 (by omega) hg (by omega)
   (by have h2:q*it.bytes≤1000000*4096:=Nat.mul_le_mul (by omega) hby'
       omega)
   (by have h1:=Go.Lp.nextslicecap_le (k+q) dc
       have h2:Builtin.nextslicecap (k+q) dc*it.bytes≤5000000*4096:=Nat.mul_le_mul (by omega) hby'
       omega)
 have hC:=grownCap_ge w (k+q) dc E
 have hCm:=grownCap_le_maxLen w (k+q) dc E (by unfold maxLen;omega)
 have hzc1:∀ (r:Nat) (v:Value),v∈(Builtin.zeroCells z.cells r).toList→v.oneCell'=true:=fun r v hv=>by
   have hv2:v∈(List.range (r*z.cells.size)).map fun i=>z.cells[i % z.cells.size]! := by simpa [Builtin.zeroCells] using hv
   obtain ⟨j,hj,rfl⟩:=List.mem_map.1 hv2
   have h0:0<z.cells.size:=by omega
   have hlt:=Nat.mod_lt j h0
   rw [getElem!_pos z.cells _ hlt]
   exact List.all_eq_true.1 hz1 _ (by rw [← hzc];exact Array.getElem_mem_toList hlt)
 have hexec:execOp a.eval ⟨some t,.call ⟨.builtin .append,#[x,y],#[T,T2]⟩,ty,pos,af,gd⟩=(Builtin.append_ #[T,T2] ty (#[x,y].map a.eval)).bind fun r=>Sem.pure (Next.value r):=rfl
 rw [hexec,show #[x,y].map a.eval = #[a.eval x,a.eval y] by simp,e1,e2,Sem.run_bind',hr]
 refine ⟨Box w.heap.size E (cs.take (k*sz)++((Builtin.zeroCells z.cells q).toList++(Builtin.zeroCells z.cells (grownCap w (k+q) dc E-(k+q))).toList)),(fun b=>b=w.heap.size),_,hK w.heap.size _ _ hC hCm ?_ ?_,rfl,rfl,he.put (g:=true) (by rw [hn];simpa [fits] using ht) _,?_,⟨?_,fun _=>Iff.rfl⟩,fun b hb' => ?_⟩
 · simp only [List.length_append,List.length_take,Array.length_toList,Builtin.zeroCells,Array.size_map,Array.size_range,hzsz]
   rw [Nat.min_eq_left hd,← Nat.add_mul,← Nat.add_mul];congr 1;omega
 · intro v hv
   rcases List.mem_append.1 hv with h | h
   · exact hzc1 _ v h
   · exact hzc1 _ v h
 · exact ⟨rfl,rfl,rfl,by rw [World.size_alloc];exact Nat.le_succ _,Nat.le_succ _,fun b hb=>by
     show (w.heap.push _)[b]? = _
     rw [Array.getElem?_push,if_neg (by omega)]⟩
 · show (w.drew.heap.push _)[w.drew.heap.size]? = _
   rw [Array.getElem?_push_size]
   simp [List.append_assoc]
 · subst hb';exact ⟨Nat.le_refl _,by rw [World.size_alloc];show w.heap.size<w.heap.size+1;omega⟩
theorem yz{T E:TypeId}{x y1 y2 y3:Operand}{s:Sta}{sz nn c:Nat}{ad:Option Addr}{k1 k2 k3:IntKind}{z1 z2 z3:Int}(lo h mx:Nat)(hel:elB P T E sz=true)(hx:ev s.env x=some (true,.slice ad nn c))
   (hy1:ev s.env y1=some (true,.int k1 z1)) (hy2:ev s.env y2=some (true,.int k2 z2)) (hy3:ev s.env y3=some (true,.int k3 z3)) (e1:z1=(lo:Int)) (e2:z2=(h:Int)) (e3:z3=(mx:Int)) (hl:lo≤h) (hh:h≤mx) (hk:mx≤c) :
   Quiet P n ⟨d,.slice T x (some y1) (some y2) (some y3),ty,pos,af,gd⟩ s (sliced ad lo h mx sz):=fun w S fp a hst he hn=>by
 have h1:=he.val hx rfl
 subst e1;subst e2;subst e3
 have h2:=he.val hy1 rfl
 have h3:=he.val hy2 rfl
 have h4:=he.val hy3 rfl
 obtain ⟨hT,it,hi,_,hsz,_⟩:=bP hel
 have hE:P.elem T=E:=by unfold Program.elem;rw [hT]
 have hrun:∀ w1,(execOp a.eval ⟨d,.slice T x (some y1) (some y2) (some y3),ty,pos,af,gd⟩).run P w1=.ok (.value (sliced ad lo h mx sz)) w1:=fun w1=>by
   unfold execOp;dsimp only;simp only [Option.map_some];rw [h1,h2,h3,h4]
   show ((Instr.sliceAt T (.slice ad nn c) (some (.int k1 lo)) (some (.int k2 h)) (some (.int k3 mx))).bind fun r=>Sem.pure (Next.value r)).run P w1=_
   have hT':P.underlying T=some (.slice (P.elem T)):=by rw [hT,hE]
   rw [Sem.run_bind',run_sliceAt_slice w1 T _ _ _ _ hT',run_slice_lhm w1 T ad nn c hT' k1 k2 k3 _ _ _ (by omega) (by omega) (by omega) (by omega),hE,bQ hi,hsz]
   rfl
 rw [hrun];exact bu _ _
theorem eZ{T E:TypeId}{x y:Operand}{s:Sta}{sz m c B o:Nat}{kk:IntKind}{z:Int}(k m' o':Nat)(hel:elB P T E sz=true)(hx:ev s.env x=some (true,.slice (some ⟨B,o,none⟩) m c))
   (hy:ev s.env y=some (true,.int kk z)) (hz:z=(k:Int)) (hk:k≤m) (hm:m≤c) (hm':m-k=m') (ho:(if c=k then o else o+k*sz)=o') :
   Quiet P n ⟨d,.slice T x (some y) none none,ty,pos,af,gd⟩ s (.slice (some ⟨B,o',none⟩) m' (c-k)):=fun w S fp a hst he hn=>by
 have h1:=he.val hx rfl
 subst hz
 have h2:=he.val hy rfl
 obtain ⟨hT,it,hi,_,hsz,_⟩:=bP hel
 have hE:P.elem T=E:=by unfold Program.elem;rw [hT]
 have hrun:∀ w1,(execOp a.eval ⟨d,.slice T x (some y) none none,ty,pos,af,gd⟩).run P w1=.ok (.value (sliced (some ⟨B,o,none⟩) k m c sz)) w1:=fun w1=>by
   unfold execOp;dsimp only;simp only [Option.map_some,Option.map_none];rw [h1,h2]
   show ((Instr.sliceAt T (.slice (some ⟨B,o,none⟩) m c) (some (.int kk k)) none none).bind fun r=>Sem.pure (Next.value r)).run P w1=_
   have hT':P.underlying T=some (.slice (P.elem T)):=by rw [hT,hE]
   rw [Sem.run_bind',run_sliceAt_slice w1 T _ _ _ _ hT',run_slice_l w1 T _ m c hT' kk k (by omega) (by omega),hE,bQ hi,hsz]
   rfl
 have e:sliced (some ⟨B,o,none⟩) k m c sz=.slice (some ⟨B,o',none⟩) m' (c-k):=by
   unfold sliced
   subst hm'
   subst ho
   by_cases hc:c=k
   · rw [if_pos hc,if_pos hc]
   · rw [if_neg hc,if_neg hc];simp [addr_add]
 rw [hrun,e];exact bu _ _
theorem vK{s:Sta}{T E:TypeId}{x y z:Operand}{sz m c B o:Nat}{kk k2:IntKind}{zl zh:Int}(l h:Nat)(hel:elB P T E sz=true)(hx:ev s.env x=some (true,.slice (some ⟨B,o,none⟩) m c))
   (hy:ev s.env y=some (true,.int kk zl)) (hz:ev s.env z=some (true,.int k2 zh)) (hl:zl=(l:Int)) (hh:zh=(h:Int)) (hlh:l<h) (hm:h≤c) :
   Quiet P n ⟨d,.slice T x (some y) (some z) none,ty,pos,af,gd⟩ s (.slice (some ⟨B,o+l*sz,none⟩) (h-l) (c-l)):=fun w S fp a hst he hn=>by
 have h1:=he.val hx rfl
 subst hl hh
 have h2:=he.val hy rfl
 have h3:=he.val hz rfl
 obtain ⟨hT,it,hi,_,hsz,_⟩:=bP hel
 have hE:P.elem T=E:=by unfold Program.elem;rw [hT]
 have hrun:∀ w1,(execOp a.eval ⟨d,.slice T x (some y) (some z) none,ty,pos,af,gd⟩).run P w1=.ok (.value (sliced (some ⟨B,o,none⟩) l h c sz)) w1:=fun w1=>by
   unfold execOp;dsimp only;simp only [Option.map_some,Option.map_none];rw [h1,h2,h3]
   show ((Instr.sliceAt T (.slice (some ⟨B,o,none⟩) m c) (some (.int kk l)) (some (.int k2 h)) none).bind fun r=>Sem.pure (Next.value r)).run P w1=_
   have hT':P.underlying T=some (.slice (P.elem T)):=by rw [hT,hE]
   rw [Sem.run_bind',run_sliceAt_slice w1 T _ _ _ _ hT',run_slice_lh w1 T _ m c hT' kk k2 l h (by omega) (by omega) (by omega),hE,bQ hi,hsz]
   rfl
 have e:sliced (some ⟨B,o,none⟩) l h c sz=.slice (some ⟨B,o+l*sz,none⟩) (h-l) (c-l):=by
   unfold sliced
   rw [if_neg (by omega)]
   simp [addr_add]
 rw [hrun,e];exact bu _ _
theorem yA{T E:TypeId}{x y:Operand}{s:Sta}{sz m c B o:Nat}{kk:IntKind}{z:Int}(k:Nat)(hel:elB P T E sz=true)(hx:ev s.env x=some (true,.slice (some ⟨B,o,none⟩) m c))
   (hy:ev s.env y=some (true,.int kk z)) (hz:z=(k:Int)) (hk:k≤c) :
   Quiet P n ⟨d,.slice T x none (some y) none,ty,pos,af,gd⟩ s (.slice (some ⟨B,o,none⟩) k c):=fun w S fp a hst he hn=>by
 have h1:=he.val hx rfl
 subst hz
 have h2:=he.val hy rfl
 obtain ⟨hT,it,hi,_,hsz,_⟩:=bP hel
 have hE:P.elem T=E:=by unfold Program.elem;rw [hT]
 have hrun:∀ w1,(execOp a.eval ⟨d,.slice T x none (some y) none,ty,pos,af,gd⟩).run P w1=.ok (.value (sliced (some ⟨B,o,none⟩) 0 k c sz)) w1:=fun w1=>by
   unfold execOp;dsimp only;simp only [Option.map_some,Option.map_none];rw [h1,h2]
   show ((Instr.sliceAt T (.slice (some ⟨B,o,none⟩) m c) none (some (.int kk k)) none).bind fun r=>Sem.pure (Next.value r)).run P w1=_
   have hT':P.underlying T=some (.slice (P.elem T)):=by rw [hT,hE]
   rw [Sem.run_bind',run_sliceAt_slice w1 T _ _ _ _ hT',run_slice_h w1 T _ m c hT' kk k (by omega) (by omega),hE,bQ hi,hsz]
   rfl
 have e:sliced (some ⟨B,o,none⟩) 0 k c sz=.slice (some ⟨B,o,none⟩) k c:=by
   unfold sliced
   simp only [Nat.sub_zero]
   congr 1
   split
   · rfl
   · simp [addr_add]
 rw [hrun,e];exact bu _ _
end
section
variable {P:Program} {n:Fr} {env:Env} {ps:List Per} {hp:List Res} {d:Option Tmp} {ty:TypeId} {pos:String} {af:Array Edge} {gd:Option (Nat × Bool)} {K:Sta→Prop}
theorem nU{x:Operand}{T E:TypeId}{sz k B m cp c' o m':Nat}{rows:List (List D)}{zs:List Value}(i:Nat)(hel:elB P T E sz=true)(hz:dL P E=some zs)(h1:zs.all (·.oneCell')=true)(hzl:zs.length=sz)(ho:o=k*sz)(hm':m'=m-k)
   (hx:ev env x=some (true,.slice (some ⟨B,o,none⟩) m' c')) (hi:hp[i]? = some (aD (.slice (some ⟨B,0,none⟩) m cp) E sz rows)) (hm:rows.length=m) (hk:k<m)
   (hK:K ⟨env,ps,hp.set i (aD (.slice (some ⟨B,0,none⟩) k cp) E sz (rows.take k))⟩):Eff P n ⟨none,.call ⟨.builtin .clear,#[x],#[T]⟩,ty,pos,af,gd⟩ ⟨env,ps,hp⟩ false K:=.change i hi fun w S fp a hst he hn hR=>by
 subst ho;subst hm'
 have e1:=he.val hx rfl
 obtain ⟨hT,it,hit,_⟩:=bP hel
 obtain ⟨z,hzr,hzc⟩:=tM hz w
 have hbS:=fun b hb=>(hst.lt i (List.getElem?_eq_some_iff.1 hi).1 b hb).2
 rcases hR with ⟨h,_⟩ | ⟨b,cap,hv,⟨cs,sp,hb,hrows,hcap,hrc,hcm⟩,hF⟩
 · cases h
 · simp only [Value.slice.injEq,Option.some.injEq,Addr.mk.injEq] at hv
   obtain ⟨⟨rfl,_⟩,hmr,rfl⟩:=hv
   have hzsz:z.cells.size=sz:=by rw [← hzl,← hzc];simp
   have hvl:(Builtin.zeroCells z.cells (m-k)).toList.length=(m-k)*sz:=by simp [Builtin.zeroCells,hzsz]
   have hv1:∀ v∈(Builtin.zeroCells z.cells (m-k)).toList,v.oneCell'=true:=fun v hv=>by
     have hv2:v∈(List.range ((m-k)*z.cells.size)).map fun i=>z.cells[i % z.cells.size]! := by simpa [Builtin.zeroCells] using hv
     obtain ⟨j,hj,rfl⟩:=List.mem_map.1 hv2
     have hj2:=List.mem_range.1 hj
     have h0:0<z.cells.size:=by
       rcases Nat.eq_zero_or_pos z.cells.size with h | h
       · rw [h] at hj2;simp at hj2
       · exact h
     have hlt:=Nat.mod_lt j h0
     rw [getElem!_pos z.cells _ hlt]
     exact List.all_eq_true.1 h1 _ (by rw [← hzc];exact Array.getElem_mem_toList hlt)
   have hlen:=hrows.len
   have hle:k*sz+(m-k)*sz≤cs.length:=by
     rw [hlen,hm,← Nat.add_mul];exact Nat.mul_le_mul_right _ (by omega)
   have hrun:(execOp a.eval ⟨none,.call ⟨.builtin .clear,#[x],#[T]⟩,ty,pos,af,gd⟩).run P w=.ok (.value (.tuple #[])) (w.setRow B (wrC (cs++sp) (k*sz) (Builtin.zeroCells z.cells (m-k)).toList).toArray):=by
     have hexec:execOp a.eval ⟨none,.call ⟨.builtin .clear,#[x],#[T]⟩,ty,pos,af,gd⟩=(Builtin.clear_ #[T] ty (#[x].map a.eval)).bind fun r=>Sem.pure (Next.value r):=rfl
     rw [hexec,show #[x].map a.eval = #[a.eval x] by simp,e1,Sem.run_bind']
     have hst2:=fq (P:=P) B E (k*sz) (Builtin.zeroCells z.cells (m-k)).toList 0 (cs++sp) w hb hv1 (by rw [hvl,List.length_append];omega)
     obtain ⟨q,hq⟩:∃ q,m-k=q+1:=⟨m-k-1,by omega⟩
     have:(Builtin.clear_ #[T] ty #[.slice (some ⟨B,k*sz,none⟩) (m-k) c']).run P w=.ok (.tuple #[]) (w.setRow B (wrC (cs++sp) (k*sz) (Builtin.zeroCells z.cells (m-k)).toList).toArray):=by
       rw [hq] at hst2 ⊢
       simp [Builtin.clear_,run_underlying hT,hzr,hst2]
     rw [this];rfl
   rw [hrun]
   refine ⟨aD (.slice (some ⟨B,0,none⟩) k cp) E sz (rows.take k),_,hK,rfl,rfl,he,?_,rfl,rfl,⟨rfl,rfl⟩,by simp [World.setRow],fun b' hb' hne=>setRow_other _ _ _ _ (fun h=>hne ((hF b').2 h))⟩
   refine .inr ⟨B,cp,by rw [List.length_take,Nat.min_eq_left (by omega)],⟨cs.take (k*sz),(wrC (cs++sp) (k*sz) (Builtin.zeroCells z.cells (m-k)).toList).drop (k*sz),?_,?_,?_,by rw [List.length_take];omega,hcm⟩,hF⟩
   · have:cs.take (k*sz)++(wrC (cs++sp) (k*sz) (Builtin.zeroCells z.cells (m-k)).toList).drop (k*sz)=wrC (cs++sp) (k*sz) (Builtin.zeroCells z.cells (m-k)).toList:=by
       have e:cs.take (k*sz)=(wrC (cs++sp) (k*sz) (Builtin.zeroCells z.cells (m-k)).toList).take (k*sz):=by
         unfold wrC
         rw [List.take_append_of_le_length (l₂:=sp) (by omega),List.take_append_of_le_length (by rw [List.length_take];omega),List.take_take,Nat.min_self]
       rw [e,List.take_append_drop]
     rw [this];exact setRow_heap _ _ _ _ _ _ hb
   · exact (mi hrows (by omega)).mono (fun b' hb'=>setRow_other _ _ _ _ (fun h=>hbS B ((hF B).2 rfl) (h ▸ hb'))) (fun _ h=>h)
   · have hle2:k*sz+(Builtin.zeroCells z.cells (m-k)).toList.length≤(cs++sp).length:=by rw [hvl,List.length_append];omega
     rw [List.length_append,List.length_drop,rO hle2,List.length_take,← hcap,List.length_append];omega
theorem gU{α β:Type}[DecidableEq α]{κ:α→Value}{ν:β→Value}{m:α→Option β}{kt:TypeId}{T E:TypeId}{x y z:Operand}{b:Nat}{k:α}{v:β}(i:Nat)(hT:P.underlying T=some (.map kt E))(KO:ef P kt κ)(hx:ev env x=some (true,.map (some b)))(hy:ev env y=some (true,κ k))(hz:ev env z=some (true,ν v))(hi:hp[i]? = some (cN b κ ν m))
   (hK:K ⟨env,ps,hp.set i (cN b κ ν (aZ m k v))⟩):Eff P n ⟨none,.insert T x y z,ty,pos,af,gd⟩ ⟨env,ps,hp⟩ false K:=cP (ty:=ty) (pos:=pos) (af:=af) (gd:=gd) i hT KO hx hy hz hi hK
end
end Go.Sy

namespace Go.Proofs.YtfkcmbonmpcbfaaGreat
open Go.RowKit Go.Lp Go.Sy Go.Lv
open Go.Proofs.Tryz
attribute [local irreducible] aL aB awp aC fwp Quiet
theorem xT{sz:Nat}{l:List (List Value)}(h:∀ r∈l,r.length=sz)(sp:List Value){i:Nat}(hi:i<l.length){r:List Value}(hr:l[l.length-1]? = some r) :
   (splice (l.flatten++sp) (i*sz) ((l.drop (i+1)).flatten)).take (l.length*sz)=(l.take i++l.drop (i+1)++[r]).flatten:=by
 obtain ⟨c1,c2⟩:=kC h sp (k:=i) (by omega)
 obtain ⟨c3,c4⟩:=kC h sp (k:=l.length-1) (by omega)
 have hl1:(l.take i).flatten.length=i*sz:=by rw [db _ fun r hr=>h r (List.mem_of_mem_take hr),List.length_take,Nat.min_eq_left (by omega)]
 have hl2:(l.drop (i+1)).flatten.length=(l.length-(i+1))*sz:=by rw [db _ fun r hr=>h r (List.mem_of_mem_drop hr),List.length_drop]
 have hrl:=h r (List.mem_of_getElem? hr)
 have e1:i*sz+(l.length-(i+1))*sz=(l.length-1)*sz:=by rw [← Nat.add_mul];congr 1;omega
 have e2:(l.length-1)*sz+sz=l.length*sz:=by rw [← Nat.succ_mul];congr 1;omega
 unfold splice
 rw [hl2,e1,c1,c4,← List.append_assoc]
 have hd:l.drop (l.length-1)=[r]:=by
   rw [List.drop_eq_getElem_cons (by omega),List.drop_of_length_le (by omega)]
   rw [(List.getElem?_eq_some_iff.1 hr).2]
 rw [hd,List.flatten_append,List.flatten_append,← List.append_assoc]
 rw [List.take_left' (by simp only [List.length_append,hl1,hl2,List.flatten_cons,List.flatten_nil,List.append_nil,hrl];omega)]
theorem qY(B m cp i:Nat)(L:List (List Value))(hm:L.length=m)(hi:i<m)(hm2:m≤4096)(z:Int)(hz:z=(i:Int)+1) :
   Con Tryz.prog 299 [.slice (some ⟨B,0,none⟩) m cp,.int .i64 i,.int .i64 z] [] [aD (.slice (some ⟨B,0,none⟩) m cp) 135 6 (cO L)] fun r ps hp=>ps=[]∧r=.slice (some ⟨B,0,none⟩) (m-1) cp∧hp=[aD r 135 6 (cO (L.take i++L.drop (i+1)))]:=by
 subst hz
 obtain ⟨r0,hr0⟩:∃ r0,L[L.length-1]? = some r0:=⟨_,List.getElem?_eq_getElem (by omega)⟩
 refine EN3 Tryz.func299 rfl (iU 0 rfl (fun sp hr hlen hmc hcm hon => ?_))
 rw [hm] at hmc
 refine aSR (aA rfl (aNn (aSR (aM rfl (aM rfl (aM rfl (aM rfl (aU rfl (aY Tryz.underlying115 rfl) (aU rfl (yz i (i+1) m el115 rfl rfl rfl rfl rfl (by omega) rfl (by omega) (by omega) hmc) (aNs (aSR (aM rfl (aM rfl (aU rfl (bw rfl rfl) (aNn ?_)))))))))))))))
 refine ah _ rfl (fun h1 => ?_) (fun h1 => ?_)
 ·skip
  exfalso;simp at h1;omega
 ·skip
  have hfl:=db L hr
  have hcut:=kC hr sp (k:=i+1) (by omega)
  have hseg:(L.drop (i+1)).flatten.length=(m-(i+1))*6:=by rw [db _ fun r h=>hr r (List.mem_of_mem_drop h),List.length_drop,hm]
  have hsg:∀ o',(if cp=i+1 then 0 else 0+(i+1)*6)=o'→(((L.flatten++sp).drop o').take ((m-(i+1))*6))=(L.drop (i+1)).flatten:=fun o' ho=>by
    subst ho
    by_cases hc:cp=i+1
    · have:m-(i+1)=0:=by omega
      rw [this] at hseg ⊢
      rw [Nat.zero_mul] at hseg ⊢
      rw [List.take_zero,List.length_eq_zero_iff.1 hseg]
    · rw [if_neg hc,Nat.zero_add,hcut.2,← hseg,List.take_left'];rfl
  have hone:∀ v∈(L.drop (i+1)).flatten,v.oneCell'=true:=fun v hv=>hon v (by rw [← List.take_append_drop (i+1) L,List.flatten_append];exact List.mem_append_right _ hv)
  obtain ⟨o',ho'⟩:∃ o',(if cp=i+1 then 0 else 0+(i+1)*6)=o':=⟨_,rfl⟩
  refine ai (an (aSR (aM rfl (aU rfl (aY Tryz.underlying115 rfl) (aA rfl (aNs (DR [6] 8 (VM 0 rfl rfl (VM 1 rfl rfl (bV 2 rfl rfl (fA i el115 rfl rfl rfl (by omega) hmc) (VM 3 rfl rfl (VM 4 rfl rfl (bV 5 rfl rfl (eZ (i+1) (m-(i+1)) o' el115 rfl rfl (by omega) (by omega) hmc rfl ho') ?_)))))))))))))
  refine VE 6 rfl rfl (sU 0 0 el115 Tryz.underlying115 rfl rfl rfl rfl rfl (by omega) (by rw [hlen];omega) (by subst ho';rw [hlen];split<;>omega) (by rw [hsg o' ho'];exact hone) ?_)
  rw [hsg o' ho']
  refine bST rfl ?_
  refine bV 7 rfl rfl (bB rfl) (BN (an (aq ?_)))
  refine iT 0 m cp (L.take i++L.drop (i+1)++[r0]) rfl (by simp;omega) (fun r h => ?_) (by rw [← hm];exact xT hr sp (by omega) hr0) (by rw [cD (by rw [hseg,hlen];omega),hlen]) hmc hcm (fun v hv => ?_) ?_
  · rcases List.mem_append.1 h with h | h
    · rcases List.mem_append.1 h with h | h
      · exact hr r (List.mem_of_mem_take h)
      · exact hr r (List.mem_of_mem_drop h)
    · rw [List.mem_singleton.1 h];exact hr r0 (List.mem_of_getElem? hr0)
  · obtain ⟨r,hrm,hvr⟩:=List.mem_flatten.1 hv
    refine hon v (List.mem_flatten.2 ⟨r,?_,hvr⟩)
    rcases List.mem_append.1 hrm with h | h
    · rcases List.mem_append.1 h with h | h
      · exact List.mem_of_mem_take h
      · exact List.mem_of_mem_drop h
    · rw [List.mem_singleton.1 h];exact List.mem_of_getElem? hr0
  refine ae (aM rfl (aM rfl (aU rfl (aY Tryz.underlying115 rfl) (aM rfl (aU rfl (vK (m-1) m el115 rfl rfl rfl (by omega) rfl (by omega) hmc) ?_)))))
  refine aI rfl (nU (k:=m-1) 0 el115 (zs:=[.int .i64 0,.int .i64 0,.int .i64 0,.int .i64 0,.int .i64 0,.slice none 0 0]) (by kernel_rfl) rfl rfl (by rw [Nat.zero_add]) rfl rfl rfl (by unfold cO;rw [List.length_map,List.length_append,List.length_append,List.length_take,List.length_drop,List.length_singleton];omega) (by omega) ?_)
  show aL _ _ _ _ _ ⟨_,_,[_]⟩
  refine aNn (aSR (aM rfl (aA rfl (aNn (aj (FZ1 [0] Tryz.results299 rfl ?_))))))
  refine ⟨rfl,by congr 1;omega,?_⟩
  have e:(cO (L.take i++L.drop (i+1)++[r0])).take (m-1)=cO (L.take i++L.drop (i+1)):=by
    unfold cO
    rw [List.map_append,List.take_left' (by simp;omega)]
  show [aD _ _ _ ((cO _).take (m-1))]=[aD _ _ _ _]
  rw [e,show i+(m-(i+1))=m-1 by omega]
def rE(M:Mem)(vs:List Value):List (List Value):=List.zipWith (fun x v=>rD x.1 v) M vs
theorem kN(M:Mem)(vs:List Value):cT M vs=cO (rE M vs):=by
 unfold cT cO rE
 rw [List.map_zipWith];rfl
theorem oz{M:Mem}{vs:List Value}(h:vs.length=M.length):(rE M vs).length=M.length:=by simp [rE,h]
theorem wZ{α β γ:Type}(f:α→β→γ)(l:List α)(m:List β)(h:m.length=l.length)(k:Nat):List.zipWith f (l.take k++l.drop (k+1)) (m.take k++m.drop (k+1))=(List.zipWith f l m).take k++(List.zipWith f l m).drop (k+1):=by
 rw [List.zipWith_append (by simp [h]),List.take_zipWith,List.drop_zipWith]
theorem qu{w:World}{S:aT} : ∀ (L:List Res) (k:Nat) (F:aT),(bT (L.set k emp)).holds w S F→(bT (L.take k++L.drop (k+1))).holds w S F
 | [],k,F,h=>by simpa using h
 | A::L,0,F,h=>sW h
 | A::L,k+1,F,h=>et h fun F h=>qu L k F h
theorem sK(p:Nat)(M:Mem)(vs:List Value)(hvs:OkV M vs)(v:Value)(t:Int)(hM:dI M)(hl:M.length≤4096) :
   Con Tryz.prog 243 [.pointer (some ⟨p,0,none⟩),.int .i64 t] [] (opn p v M vs) fun r ps hp=>∃ (M':Mem) (v':Value) (vs':List Value) (L:List Res),vs'.length=M'.length∧hp=opn p v' M' vs'++L∧(ps=[]∧L=[]∧M'=(eS M t).1∧r=.int .i64 (eS M t).2):=by
 refine EN2 Tryz.func243 rfl (aSR (aA rfl (aNn (aSR (aM rfl (aM rfl (LF rfl (EC [] [0,1] rfl (iz p M vs hvs v t hM hl) ?_))))))))
 rintro _ _ _ ⟨rfl,rfl,k,hk,rfl⟩
 refine aST ?_
 have hhit:=hM.hit hk
 refine aM rfl (aU rfl (aK rfl rfl) (aU rfl (aK rfl rfl) (aA rfl (aA rfl (aNs (aSR (aM rfl (aU rfl (bY rfl) (aNn ?_)))))))))
 refine ah _ rfl (fun h1 => ?_) (fun h1 => ?_)
 ·skip
  refine aSR (aA rfl (aNn (aj (aN (FZ1 [0,1,2] Tryz.results243 rfl ?_)))))
  refine ⟨M,v,vs,[],hvs.len,rfl,rfl,rfl,?_⟩
  have hn:M.any (fun x=>decide (x.1.at_=t))=false:=by rw [← hhit];simpa using h1
  unfold eS;rw [if_neg (by rw [hn];decide)];exact ⟨rfl,rfl⟩
 ·skip
  have hh:j0 M t k=true:=by simpa using h1
  obtain ⟨x,hx,hxt⟩:∃ x,M[k]? = some x∧x.1.at_=t:=by unfold j0 at hh;split at hh;rename_i x hx;exact ⟨x,hx,by simpa using hh⟩;cases hh
  have hkl:=(List.getElem?_eq_some_iff.1 hx).1
  obtain ⟨u,hu⟩:∃ u,vs[k]? = some u:=⟨_,List.getElem?_eq_getElem (by have:=hvs.len;omega)⟩
  refine ai (an (aq ?_))
  refine eu 1 rfl (fun h0=>by have h1:=congrArg List.length h0;rw [eO hvs.len,List.length_nil] at h1;omega) (fun B cp hv hcp => ?_)
  subst hv
  rw [eO hvs.len]
  rw [kN]
  refine ae (aM rfl (aM rfl (UN rfl rfl (UO 0 rfl rfl (UL 0 tk115 rfl rfl rfl rfl (aM rfl (aM rfl (aU rfl (aO rfl rfl (by omega)) (LF rfl (EC [] [1] rfl (qY B M.length cp k (rE M vs) (oz hvs.len) hkl hl _ rfl) ?_))))))))))
  rintro _ _ _ ⟨rfl,rfl,rfl⟩
  refine aST ?_
  refine UN rfl rfl (UO 0 rfl rfl (aI rfl (aW 0 tk115 rfl rfl rfl rfl (aHK ?_))))
  refine aNn (aSR (aA rfl (aNn (jr (StE.ofStars 2 k rfl (iW hx hu)) (fH 3 (bT ((eG M vs).take k++(eG M vs).drop (k+1))) rfl (fun w S F h=>qu _ _ _ h) (aj (FZ1 [0,1,3] Tryz.results243 rfl ?_)))))))
  refine ⟨M.take k++M.drop (k+1),.slice (some ⟨B,0,none⟩) (M.length-1) cp,vs.take k++vs.drop (k+1),[],by have:=hvs.len;simp;omega,?_,rfl,rfl,?_⟩
  · unfold opn
    rw [kN,show eG (M.take k++M.drop (k+1)) (vs.take k++vs.drop (k+1))=_ from wZ _ _ _ hvs.len k,show rE (M.take k++M.drop (k+1)) (vs.take k++vs.drop (k+1))=_ from wZ _ _ _ hvs.len k]
    rfl
  · have hn:M.any (fun x=>decide (x.1.at_=t))=true:=by rw [← hhit];exact hh
    unfold eS;rw [if_pos hn,← hxt,aaY hM hx];exact ⟨rfl,rfl⟩
end Go.Proofs.YtfkcmbonmpcbfaaGreat

namespace Go.Sy
open Go.RowKit Go.Lp
section
variable {P:Program} {n:Fr} {s:Sta} {d:Option Tmp} {ty:TypeId} {pos:String} {af:Array Edge} {gd:Option (Nat × Bool)}
end
end Go.Sy
namespace Go.Proofs.YtfkcmbonmpcbfaaGreat
open Go.RowKit Go.Lp Go.Sy
end Go.Proofs.YtfkcmbonmpcbfaaGreat

namespace Go.Sy
open Go.RowKit Go.Lp Go.Proofs.YtfkcmbonmpcbfaaGreat
end Go.Sy
namespace Go.Proofs.YtfkcmbonmpcbfaaGreat
open Go.RowKit Go.Lp Go.Sy
end Go.Proofs.YtfkcmbonmpcbfaaGreat

namespace Go.Sy
open Go.RowKit Go.Lp Go.Proofs.YtfkcmbonmpcbfaaGreat
end Go.Sy
namespace Go.Proofs.YtfkcmbonmpcbfaaGreat
open Go.RowKit Go.Lp Go.Sy Go.Lv
open Go.Proofs.Tryz
attribute [local irreducible] aL aB awp aC fwp Quiet
end Go.Proofs.YtfkcmbonmpcbfaaGreat

namespace Go.Sy
open Go.RowKit Go.Lp Go.Lv
section
variable {P:Program} {n:Fr} {env:Env} {ps:List Per} {hp:List Res} {d:Option Tmp} {ty:TypeId} {pos:String} {af:Array Edge} {gd:Option (Nat × Bool)} {K:Sta→Prop}
end
section
variable {P:Program} {n:Fr} {s:Sta} {d:Option Tmp} {ty:TypeId} {pos:String} {af:Array Edge} {gd:Option (Nat × Bool)}
theorem acE{x:Operand}{T E:TypeId}{ad:Option Addr}{k c:Nat}(hT:P.underlying T=some (.slice E))(hx:ev s.env x=some (true,.slice ad k c)) :
   Quiet P n ⟨d,.call ⟨.builtin .cap,#[x],#[T]⟩,ty,pos,af,gd⟩ s (.int .i64 c):=.run1 hx fun ρ w h1=>by
 have hT':P.underlying T=some (.slice (P.elem T)):=by rw [hT];unfold Program.elem;rw [hT]
 have:(Builtin.cap_ #[T] ty #[.slice ad k c]).run P w=.ok (.int .i64 c) w:=run_cap_slice _ _ _ _ _ _ hT'
 have e:(execOp ρ ⟨d,.call ⟨.builtin .cap,#[x],#[T]⟩,ty,pos,af,gd⟩)=(Builtin.cap_ #[T] ty (#[x].map ρ)).bind fun r=>Sem.pure (Next.value r):=rfl
 rw [e,show #[x].map ρ = #[.slice ad k c] by simp [h1],Sem.run_bind',this];rfl
end
end Go.Sy

namespace Go.Sy
open Go.RowKit
section
variable {P:Program} {n:Fr} {env:Env} {ps:List Per} {hp:List Res} {d:Option Tmp} {ty:TypeId} {pos:String} {af:Array Edge} {gd:Option (Nat × Bool)} {K:Sta→Prop}
theorem yB{s:Sta}{T E:TypeId}{x y:Operand}{sz m c:Nat}{ad:Option Addr}{kk:IntKind}{z:Int}(k:Nat)(hel:elB P T E sz=true)(hx:ev s.env x=some (true,.slice ad m c))
   (hy:ev s.env y=some (true,.int kk z)) (hz:z=(k:Int)) (hk:k≤m) (hm:m≤c) :
   Quiet P n ⟨d,.slice T x (some y) none none,ty,pos,af,gd⟩ s (sliced ad k m c sz):=fun w S fp a hst he hn=>by
 have h1:=he.val hx rfl
 subst hz
 have h2:=he.val hy rfl
 obtain ⟨hT,it,hi,_,hsz,_⟩:=bP hel
 have hE:P.elem T=E:=by unfold Program.elem;rw [hT]
 have hrun:∀ w1,(execOp a.eval ⟨d,.slice T x (some y) none none,ty,pos,af,gd⟩).run P w1=.ok (.value (sliced ad k m c sz)) w1:=fun w1=>by
   unfold execOp;dsimp only;simp only [Option.map_some,Option.map_none];rw [h1,h2]
   show ((Instr.sliceAt T (.slice ad m c) (some (.int kk k)) none none).bind fun r=>Sem.pure (Next.value r)).run P w1=_
   have hT':P.underlying T=some (.slice (P.elem T)):=by rw [hT,hE]
   rw [Sem.run_bind',run_sliceAt_slice w1 T _ _ _ _ hT',run_slice_l w1 T _ m c hT' kk k (by omega) (by omega),hE,bQ hi,hsz]
   rfl
 rw [hrun];exact bu _ _
theorem xf{c:Code}{Q:Exit→Sta→Prop}{v:Value}{E:TypeId}{sz:Nat}{rows:List (List D)}(i:Nat)(hi:hp[i]? = some (aD v E sz rows))(h:∀ ad cp,v=.slice ad rows.length cp→rows.length≤cp→awp P n c Q ⟨env,ps,hp⟩):awp P n c Q ⟨env,ps,hp⟩ :=
 gg (φ:=∃ ad cp,v=.slice ad rows.length cp∧rows.length≤cp) (fun w S fp hst=>by
   rcases hst.res i _ hi with ⟨h1,h2,_⟩ | ⟨B,cp,h1,⟨⟨_,_,_,_,_,hle,_⟩,_⟩⟩
   · exact ⟨none,0,by rw [h1,h2];rfl,by rw [h2];exact Nat.le_refl _⟩
   · exact ⟨_,cp,h1,hle⟩) fun ⟨ad,cp,h1,h2⟩=>h ad cp h1 h2
theorem vJ {f:FuncId} {fn:Func} {x y:Operand} {ts:Array TypeId} {T tR E E1 E2:TypeId} {sz V B o la ca lb cb:Nat} {cs1 cs2:List Value} (i j:Nat) (hf:P.funcs[f]? = some fn) (h1:(fn.name == "runtime.NumGoroutine")=false) (h2:fn.body.isNone=true) (h3:Extern.findNext fn=none) (h4:Extern.find fn=some (Extern.SlicesOverlaps.overlaps #[T,T] #[tR]))
   (hel:elB P T E sz=true) (hx:ev env x=some (true,.slice (some ⟨V,0,none⟩) la ca)) (hy:ev env y=some (true,.slice (some ⟨B,o,none⟩) lb cb)) (hi:hp[i]? = some (Box V E1 cs1)) (hj:hp[j]? = some (Box B E2 cs2)) (hij:i≠j) (h0:cs2≠[]) :
   Quiet P n ⟨d,.call ⟨.value (.func f),#[x,y],ts⟩,ty,pos,af,gd⟩ ⟨env,ps,hp⟩ (.bool false):=fun w S fp a hst he hn=>by
 have e1:=he.val hx rfl
 have e2:=he.val hy rfl
 obtain ⟨hT,it,hit,_,hsz,_⟩:=bP hel
 obtain ⟨hV,hFV⟩:=hst.res i _ hi
 obtain ⟨hB,hFB⟩:=hst.res j _ hj
 have hne:V≠B:=fun h=>by
   subst h
   exact hst.dj i j (List.getElem?_eq_some_iff.1 hi).1 (List.getElem?_eq_some_iff.1 hj).1 hij V ((hFV V).2 rfl) ((hFB V).2 rfl)
 have hsh:∀ b (T:TypeId) (l:List Value),w.heap[b]? = some (.cells l.toArray T (0,0))→w.shape? b=some (T,l.length):=fun b T l h=>by unfold World.shape?;rw [h];simp
 have hfro:∀ o,w.frozen? ⟨V,o,none⟩=false:=fun o=>by unfold World.frozen?;rw [hV];simp
 have hrun:=Lib.run_overlaps_apart (P:=P) w T tR E hT sz (fun w=>by rw [← hsz];exact bQ hit) ⟨V,0,none⟩ ⟨B,o,none⟩ la ca lb cb hne _ _ _ _ (hsh V _ _ hV) (hsh B _ _ hB) (fun h=>h0 (List.length_eq_zero_iff.1 h)) (hfro 0) (hfro _)
 have:(execOp a.eval ⟨d,.call ⟨.value (.func f),#[x,y],ts⟩,ty,pos,af,gd⟩).run P w=.ok (.value (.bool false)) w:=by
   unfold execOp
   show ((resolve a.eval ⟨.value (.func f),#[x,y],ts⟩ ty).bind fun x=>invoke x.target x.args).run P w=_
   have:resolve a.eval ⟨.value (.func f),#[x,y],ts⟩ ty=Sem.pure { target:=.fn (.func f) #[],args := #[.slice (some ⟨V,0,none⟩) la ca,.slice (some ⟨B,o,none⟩) lb cb] } := by
     have hg:a.eval (.func f)=.func (.func f) #[] #[]:=rfl
     unfold resolve
     dsimp only
     rw [hg]
     show Deferred.ofValue _ _=_
     unfold Deferred.ofValue
     dsimp only
     rw [show #[x,y].map a.eval = #[a.eval x,a.eval y] by simp,e1,e2,Array.empty_append]
     rfl
   rw [this]
   show (callFunc f (#[.slice (some ⟨V,0,none⟩) la ca,.slice (some ⟨B,o,none⟩) lb cb] ++ #[])).run P w=_
   rw [Array.append_empty,run_callFunc_extern hf h1 h2 h3 h4,hrun];rfl
 rw [this];exact bu _ _
end
end Go.Sy
namespace Go.Proofs.YtfkcmbonmpcbfaaGreat
open Go.RowKit Go.Lp Go.Sy Go.Lv
open Go.Proofs.Tryz
attribute [local irreducible] aL aB awp aC fwp Quiet
theorem qf{sz:Nat}{l:List (List Value)}(h:∀ r∈l,r.length=sz){row:List Value}(hrow:row.length=sz){cs:List Value}{i:Nat}(hi:i<l.length)(hc:(l.length+1)*sz≤cs.length)(ht:cs.take (i*sz)=(l.take i).flatten) :
   (splice (splice cs ((i+1)*sz) (l.drop i).flatten) (i*sz) row).take ((l.length+1)*sz)=(l.take i++row::l.drop i).flatten ∧
   (splice (splice cs (i*sz) row) ((i+1)*sz) (l.drop i).flatten).take ((l.length+1)*sz)=(l.take i++row::l.drop i).flatten:=by
 have hl2:(l.drop i).flatten.length=(l.length-i)*sz:=by rw [db _ fun r hr=>h r (List.mem_of_mem_drop hr),List.length_drop]
 have e1:(i+1)*sz=i*sz+sz:=Nat.succ_mul _ _
 have e2:(i+1)*sz+(l.length-i)*sz=(l.length+1)*sz:=by rw [← Nat.add_mul];congr 1;omega
 have e3:(i+1)*sz≤(l.length+1)*sz:=Nat.mul_le_mul_right _ (by omega)
 have hL:(l.take i).flatten.length=i*sz:=by rw [← ht,List.length_take];omega
 have hfin:(l.take i++row::l.drop i).flatten=(l.take i).flatten++row++(l.drop i).flatten:=by simp
 have hs1:=cD (cs:=cs) (seg:=(l.drop i).flatten) (o:=(i+1)*sz) (by omega)
 have hs2:=cD (cs:=cs) (seg:=row) (o:=i*sz) (by omega)
 refine ⟨?_,?_⟩
 · have e4:(splice (splice cs ((i+1)*sz) (l.drop i).flatten) (i*sz) row).take ((l.length+1)*sz)=(splice cs ((i+1)*sz) (l.drop i).flatten).take (i*sz)++(row++((splice cs ((i+1)*sz) (l.drop i).flatten).drop (i*sz+sz)).take ((l.length-i)*sz)):=by
     have:splice (splice cs ((i+1)*sz) (l.drop i).flatten) (i*sz) row=((splice cs ((i+1)*sz) (l.drop i).flatten).take (i*sz)++row)++(splice cs ((i+1)*sz) (l.drop i).flatten).drop (i*sz+sz):=by unfold splice;rw [hrow,List.append_assoc]
     rw [this,List.take_append,List.take_of_length_le (by simp;omega),List.append_assoc]
     congr 3
     simp;omega
   rw [e4,vV (by omega) (by omega),ht,← e1,tW (by omega),← hl2,List.take_left',hfin,List.append_assoc];rfl
 · rw [mj (by omega) (by omega),e1,mj (by omega) (by rw [hrow]),ht,hfin]
theorem qZ(v:Value)(L:List (List Value))(lv:Option Addr)(i:Nat)(row:List Value)(hi:i≤L.length)(hm2:L.length≤4096)(hrow:row.length=6) :
   Con Tryz.prog 192 [v,.int .i64 i,.slice lv 1 1] [] [aD v 135 6 (cO L),aD (.slice lv 1 1) 135 6 (cO [row])] fun r ps hp=>ps=[]∧∃ ad c,r=.slice ad (L.length+1) c∧hp=[aD r 135 6 (cO (L.take i++row::L.drop i))]:=by
 have hl:(cO L).length=L.length:=by unfold cO;rw [List.length_map]
 refine EN3 Tryz.func192 rfl (xf 0 rfl (fun ad cp hv hcp => ?_))
 subst hv
 refine aSR (aA rfl (aNn (aSR (aM rfl (aM rfl ?_)))))
 refine aU rfl (yB i el115 rfl rfl rfl (by rw [hl];exact hi) hcp) ?_
 refine aNn (aSR (aM rfl (aU rfl (aY Tryz.underlying115 rfl) (aA rfl (aNs (aSR (aM rfl (aU rfl (bw rfl rfl) (aNn ?_)))))))))
 refine ah _ rfl (fun h1 => ?_) (fun h1 => ?_)
 ·skip
  exfalso;first | (simp at h1;done) | (simp at h4;done)
 ·skip
  refine ai (an (aSR (aM rfl (aU rfl (aY Tryz.underlying115 rfl) (aA rfl (aNs (aSR (aM rfl (aM rfl (aU rfl (bw rfl rfl) (aNn ?_)))))))))))
  refine ah _ rfl (fun h2 => ?_) (fun h2 => ?_)
  ·skip
   refine aSR (aM rfl (aM rfl ?_))
   refine aI rfl (cJ 0 el115 rfl rfl (by kernel_rfl) rfl (dY 1 el115 rfl (by simp [cO])) (by simp [cO]) (by simp [cO];omega) _ rfl (fun ad2 c2 => ?_))
   refine aA rfl (aNn (aj (aN (FZ1 [0] Tryz.results192 rfl ?_))))
   have e:i=L.length:=by simp [hl] at h2;omega
   subst e
   refine ⟨rfl,ad2,c2,by congr 1;simp [cO],?_⟩
   show [aD _ _ _ (cO L++cO [row])]=_
   rw [show L.take L.length++row::L.drop L.length=L++[row] by simp]
   simp [cO]
  ·skip
   have hil:i<L.length:=by simp at h2;omega
   refine eu 0 rfl (fun h0=>by have h1:=congrArg List.length h0;rw [hl,List.length_nil] at h1;omega) (fun B cp' hv hcp2 => ?_)
   cases hv
   refine iU 0 rfl (fun sp hr hlen hmc hcm hon => ?_)
   refine eu 1 rfl (by simp [cO]) (fun V cp2 hv hcp4 => ?_)
   cases hv
   refine iU 1 rfl (fun sp2 hr2 hlen2 hmc2 hcm2 hon2 => ?_)
   have hV:[row].flatten++sp2=row:=by
     have:sp2=[]:=List.length_eq_zero_iff.1 (by simp at hlen2;omega)
     rw [this];simp
   rw [hV]
   have hv2:(row.drop 0).take (1*6)=row:=by rw [List.drop_zero,List.take_of_length_le (by omega)]
   have hv1:∀ v∈(row.drop 0).take (1*6),v.oneCell'=true:=by rw [hv2];exact fun v hv=>hon2 v (by simpa using hv)
   have hLt:(L.take i).flatten.length=i*6:=by rw [db _ fun r h=>hr r (List.mem_of_mem_take h),List.length_take,Nat.min_eq_left hi]
   have hcut:=kC hr sp (k:=i) (by omega)
   have hseg:(L.drop i).flatten.length=(L.length-i)*6:=by rw [db _ fun r h=>hr r (List.mem_of_mem_drop h),List.length_drop]
   have hone:∀ v∈(L.drop i).flatten,v.oneCell'=true:=fun v hv=>hon v (by rw [← List.take_append_drop i L,List.flatten_append];exact List.mem_append_right _ hv)
   have hsrc:((L.flatten++sp).drop (i*6)).take ((L.length-i)*6)=(L.drop i).flatten:=by rw [hcut.2,← hseg,List.take_left'];rfl
   have hr1:∀ r∈L.take i++row::L.drop i,r.length=6:=fun r h=>by
     rcases List.mem_append.1 h with h | h
     · exact hr r (List.mem_of_mem_take h)
     · rcases List.mem_cons.1 h with rfl | h
       · exact hrow
       · exact hr r (List.mem_of_mem_drop h)
   have ho1:∀ v∈(L.take i++row::L.drop i).flatten,v.oneCell'=true:=fun v hv=>by
     obtain ⟨r,hrm,hvr⟩:=List.mem_flatten.1 hv
     rcases List.mem_append.1 hrm with h | h
     · exact hon v (List.mem_flatten.2 ⟨r,List.mem_of_mem_take h,hvr⟩)
     · rcases List.mem_cons.1 h with rfl | h
       · exact hon2 v (by simpa using hvr)
       · exact hone v (List.mem_flatten.2 ⟨r,h,hvr⟩)
   have hl1:(L.take i++row::L.drop i).length=L.length+1:=by simp;omega
   refine ai (an (aq (aSR (aM rfl (aM rfl (aU rfl (aO rfl rfl (by omega)) (aM rfl (aU rfl (acE Tryz.underlying115 rfl) (aU rfl (dy rfl rfl) (aNn ?_))))))))))
   refine ah _ rfl (fun h3 => ?_) (fun h3 => ?_)
   ·skip
    have hcp3:cp<L.length+1:=by simp [hl] at h3;omega
    refine aSR (aM rfl (aM rfl ?_))
    refine aU rfl (fA i el115 rfl rfl rfl (by rw [hl];omega) (by rw [hl];exact hmc)) ?_
    refine aM rfl (aM rfl (aU rfl (aO rfl rfl (by omega)) (aM rfl (aU rfl (bN rfl rfl (by omega)) ?_))))
    refine LF rfl (xV (q:=L.length+1-i) 0 el115 (zs:=[.int .i64 0,.int .i64 0,.int .i64 0,.int .i64 0,.int .i64 0,.slice none 0 0]) (by kernel_rfl) rfl rfl rfl (by kernel_rfl) rfl rfl (by simp [cO];omega) rfl rfl (by omega) (by omega) (by omega) (by omega) (by rw [hlen];omega) (fun G C zz hC hCm hzz hz1 => ?_))
    rw [show i+(L.length+1-i)=L.length+1 by omega]
    refine aA rfl (aNn (aSR (aM rfl (aM rfl ?_))))
    refine aU rfl (eZ i (L.length+1-i) (i*6) el115 rfl rfl rfl (by omega) (by omega) (by omega) (by rw [if_neg (by omega),Nat.zero_add])) ?_
    refine aM rfl ?_
    refine LF rfl (jx 2 1 1 el115 rfl rfl rfl rfl rfl (Nat.min_eq_left (by omega)) (by rw [hzz];omega) (by omega) hv1 ?_)
    rw [hv2]
    refine aNs (DR [8] 9 (VM 0 rfl rfl (VM 1 rfl rfl (VM 2 rfl rfl (bV 3 rfl rfl (aO rfl rfl (by omega)) ?_)))))
    refine bV 4 rfl rfl (eZ (i+1) (L.length-i) ((i+1)*6) el115 rfl rfl rfl (by omega) (by omega) (by omega) (by rw [if_neg (by omega),Nat.zero_add])) ?_
    refine VM 5 rfl rfl (VM 6 rfl rfl ?_)
    refine bV 7 rfl rfl (eZ i (L.length-i) (i*6) el115 rfl rfl rfl (by rw [hl];omega) (by rw [hl];omega) (by rw [hl]) (by rw [if_neg (by omega),Nat.zero_add])) ?_
    refine VE 8 rfl rfl (jx 2 0 (L.length-i) el115 rfl rfl rfl rfl rfl (Nat.min_self _) (by rw [cD (by rw [hrow,hzz];omega),hzz];omega) (by rw [hlen];omega) (by rw [hsrc];exact hone) ?_)
    rw [hsrc]
    refine bST rfl ?_
    refine BN (an (aq ?_))
    refine iT 2 (L.length+1) C (L.take i++row::L.drop i) rfl hl1 hr1 (qf hr hrow hil (by rw [hzz];omega) (by rw [List.take_left' (by rw [hcut.1,hLt]),hcut.1])).2 (by rw [cD (by rw [hseg,cD (by rw [hrow,hzz];omega),hzz];omega),cD (by rw [hrow,hzz];omega),hzz]) (by omega) hCm ho1 ?_
    refine ae (aM rfl (aA rfl (aNn (aj (aN (FZ1 [2] Tryz.results192 rfl ?_))))))
    exact ⟨rfl,_,_,rfl,rfl⟩
   ·skip
    have hcp3:L.length+1≤cp:=by simp [hl] at h3;omega
    refine ai (an (aSR (aM rfl (aM rfl (aM rfl (aU rfl (aO rfl rfl (by omega)) ?_))))))
    refine aU rfl (yA (L.length+1) el115 rfl rfl (by rw [hl];rfl) (by omega)) ?_
    refine aA rfl (aNs (aSR (aM rfl (aM rfl (aM rfl (aM rfl (aU rfl (aO rfl rfl (by omega)) ?_)))))))
    refine aU rfl (eZ (i+1) (L.length-i) ((i+1)*6) el115 rfl rfl rfl (by omega) (by omega) (by omega) (by rw [if_neg (by omega),Nat.zero_add])) ?_
    refine aU rfl (vJ (tR:=4) 1 0 Tryz.func264 (by kernel_rfl) (by kernel_rfl) (by kernel_rfl) (by kernel_rfl) el115 rfl rfl rfl rfl (by decide) (fun h0=>by have h1:=congrArg List.length h0;rw [hlen,List.length_nil] at h1;omega)) ?_
    refine aU rfl (bY rfl) (aNn ?_)
    refine ah _ rfl (fun h4 => ?_) (fun h4 => ?_)
    ·skip
     refine aq (DR [8] 9 (VM 0 rfl rfl (VM 1 rfl rfl (VM 2 rfl rfl (bV 3 rfl rfl (aO rfl rfl (by omega)) ?_)))))
     refine bV 4 rfl rfl (eZ (i+1) (L.length-i) ((i+1)*6) el115 rfl rfl rfl (by omega) (by omega) (by omega) (by rw [if_neg (by omega),Nat.zero_add])) ?_
     refine VM 5 rfl rfl (VM 6 rfl rfl ?_)
     refine bV 7 rfl rfl (eZ i (L.length+1-i) (i*6) el115 rfl rfl rfl (by omega) (by omega) (by omega) (by rw [if_neg (by omega),Nat.zero_add])) ?_
     refine VE 8 rfl rfl (jx 0 0 (L.length-i) el115 rfl rfl rfl rfl rfl (Nat.min_eq_right (by omega)) (by rw [hlen];omega) (by rw [hlen];omega) (by rw [hsrc];exact hone) ?_)
     rw [hsrc]
     refine bST rfl ?_
     refine BN (an (aSR (aM rfl (aM rfl ?_))))
     refine aU rfl (eZ i (L.length+1-i) (i*6) el115 rfl rfl rfl (by omega) (by omega) (by omega) (by rw [if_neg (by omega),Nat.zero_add])) ?_
     refine aM rfl ?_
     refine LF rfl (jx 0 1 1 el115 rfl rfl rfl rfl rfl (Nat.min_eq_left (by omega)) (by rw [cD (by rw [hseg,hlen];omega),hlen];omega) (by omega) hv1 ?_)
     rw [hv2]
     refine aNs ?_
     refine iT 0 (L.length+1) cp (L.take i++row::L.drop i) rfl hl1 hr1 (qf hr hrow hil (by rw [hlen];omega) hcut.1).1 (by rw [cD (by rw [hrow,cD (by rw [hseg,hlen];omega),hlen];omega),cD (by rw [hseg,hlen];omega),hlen]) hcp3 hcm ho1 ?_
     refine ae (aM rfl (aA rfl (aNn (aj (aN (FZ1 [0] Tryz.results192 rfl ?_))))))
     exact ⟨rfl,_,_,rfl,rfl⟩
    ·skip
     exfalso;first | (simp at h1;done) | (simp at h4;done)
end Go.Proofs.YtfkcmbonmpcbfaaGreat

namespace Go.Proofs.YtfkcmbonmpcbfaaGreat
open Go.RowKit Go.Lp Go.Sy Go.Lv
def fS(n:Int):Int:=if n < -1152921504606846976∨1152921504606846976<n then n else n-n % 256
def upF(n:Int):Int:=if fS n≠n then fS n+256 else n
def upB(n:Int):Bool:=decide (upF n=n)
def fV(n lo hi:Int):Bool:=decide (lo≤n) && decide (n≤hi)
theorem ko{n lo hi:Int} : fV n lo hi=true↔lo≤n∧n≤hi:=by unfold fV;simp
def gm(k:Int):Bool:=(decide (k=0) || decide (k=1)) || decide (k=2)
def dg(k:Int):Int:=if (decide (k=1) || decide (k=2))=true then 4 else 8
def instrB(c n:Int):Bool:=fV n 0 (c-8) && decide (n.tmod 8=0)
def lN(s:ByteArray):Bool:=decide ((s.size:Int)≤64)
def kJ(s:ByteArray):Bool:=decide (s=⟨#[]⟩) || dV s
def lO(im:ak):Bool:=((((((((upB im.code && (upB im.data && upB im.zero)) && decide (0≤im.code)) && decide (im.code≤im.data)) && decide (im.data≤im.zero)) && decide (im.zero≤1048576)) && decide ((im.bytes.size:Int)=im.data)) && fV im.block im.tls.size 1048576) && dV im.name)
structure eK (im:ak):Prop where
 up:upB im.code=true∧upB im.data=true∧upB im.zero=true
 c0:0≤im.code
 cd:im.code≤im.data
 dz:im.data≤im.zero
 zm:im.zero≤1048576
 by_:(im.bytes.size:Int)=im.data
 bl:(im.tls.size:Int)≤im.block∧im.block≤1048576
 nm:dV im.name=true
theorem eQ{im:ak} : lO im=true↔eK im:=by
 unfold lO
 simp only [Bool.and_eq_true,decide_eq_true_eq,ko]
 constructor
 · rintro ⟨⟨⟨⟨⟨⟨⟨⟨h1,h2,h3⟩,h4⟩,h5⟩,h6⟩,h7⟩,h8⟩,h9⟩,h10⟩
   exact ⟨⟨h1,h2,h3⟩,h4,h5,h6,h7,h8,h9,h10⟩
 · rintro ⟨⟨h1,h2,h3⟩,h4,h5,h6,h7,h8,h9,h10⟩
   exact ⟨⟨⟨⟨⟨⟨⟨⟨h1,h2,h3⟩,h4⟩,h5⟩,h6⟩,h7⟩,h8⟩,h9⟩,h10⟩
end Go.Proofs.YtfkcmbonmpcbfaaGreat

