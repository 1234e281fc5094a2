/- Parts of the proof, in build order. No condition. -/
import Derived.Test.YtgkbbdgklpabpaaGreatDoorSc02
import Derived.OwnWalk
import Derived.Laws.MakeOwn
set_option linter.unusedSimpArgs false
set_option linter.unusedVariables false
set_option maxHeartbeats 20000000
set_option maxRecDepth 20000
namespace Go.Sy
open Go.RowKit
section
variable {P:Program} {n:Fr} {ops:Array Oper} {Q:Exit→Sta→Prop} {s:Sta} {K:Sta→Prop}
section
variable {env:Env} {ps:List Per} {hp:List Res} {d:Nat} {op:Op} {ty:TypeId} {pos:String} {af:Array Edge} {gd:Option (Nat × Bool)} {rest:List Oper} {v:Value}
theorem yc(c:Bool)(hc:guardOf ops env ⟨some d,op,ty,pos,af,gd⟩=some c)(hd:fits n (some d)=true)(hq:c=true→Quiet P n ⟨some d,op,ty,pos,af,gd⟩ ⟨env,ps,hp⟩ v)
   (h:aL P n ops Q rest ⟨(d,c,v)::env,ps,hp⟩):aL P n ops Q (⟨some d,op,ty,pos,af,gd⟩::rest) ⟨env,ps,hp⟩:=mG c hc hd hq h
theorem bI{β:Type}{v:β→Value}{p1:β→Per}(c:Bool)(hc:guardOf ops env ⟨some d,op,ty,pos,af,gd⟩=some c)(hd:fits n (some d)=true)(hq:c=true→jq P n ⟨some d,op,ty,pos,af,gd⟩ ⟨env,ps,hp⟩ v (fun x=>[p1 x]))(hin:c=false→Nonempty β)
   (h:∀ x,aL P n ops Q rest ⟨(d,c,v x)::env,cnd c (p1 x)::ps,hp⟩):aL P n ops Q (⟨some d,op,ty,pos,af,gd⟩::rest) ⟨env,ps,hp⟩:=pq c hc hd hq hin h
variable {V:List Nat} {k:Nat} {L:Array Bool}
theorem vU(i:Nat)(hi:ops[i]? = some ⟨some d,op,ty,pos,af,gd⟩)(hf:cC ops V L i=true)(c:Bool)(hc:guardOf ops env ⟨some d,op,ty,pos,af,gd⟩=some c)(hd:fits n (some d)=true)
   (hq:c=true→Quiet P n ⟨some d,op,ty,pos,af,gd⟩ ⟨env,ps,hp⟩ v) (h:aB P n ops V Q k (L.setIfInBounds i true) ⟨(d,c,v)::env,ps,hp⟩):aB P n ops V Q (k+1) L ⟨env,ps,hp⟩:=xX i hi hf c hc hd hq h
theorem dz{β:Type}{v:β→Value}{p1:β→Per}(i:Nat)(hi:ops[i]? = some ⟨some d,op,ty,pos,af,gd⟩)(hf:cC ops V L i=true)(c:Bool)(hc:guardOf ops env ⟨some d,op,ty,pos,af,gd⟩=some c)(hd:fits n (some d)=true)
   (hq:c=true→jq P n ⟨some d,op,ty,pos,af,gd⟩ ⟨env,ps,hp⟩ v (fun x=>[p1 x])) (hin:c=false→Nonempty β)
   (h:∀ x,aB P n ops V Q k (L.setIfInBounds i true) ⟨(d,c,v x)::env,cnd c (p1 x)::ps,hp⟩):aB P n ops V Q (k+1) L ⟨env,ps,hp⟩:=pn i hi hf c hc hd hq hin h
theorem ao{x:Operand}{l:List Operand}{v:Value}{vs:List Value}(h:ev env x=some (true,v))(h':evs env l=some vs):evs env (x::l)=some (v::vs):=by unfold evs;rw [h,h']
end
theorem jX{c:Code}{ad:Option Addr}{m cp:Nat}{rows:List (List D)}(i:Nat)(hs:s.ps[i]? = some (Sh (.slice ad m cp) (.sl rows)))(h:rows.length≤9223372036854775807→awp P n c Q s):awp P n c Q s :=
 gp (fun w S fp hst=>by
   have h:=hst.per _ (List.mem_of_getElem? hs)
   cases h with
   | e a c hc=>simp
   | sl b o c sz rows us hb hn hc _ _ _=>unfold maxLen at hc;omega) h
theorem an(h:K s):thn K Q .normal s:=h
theorem bb{id:Nat}(h:Q (.exit id) s):thn K Q (.exit id) s:=h
theorem aj(h:Q .ret s):thn K Q .ret s:=h
theorem ca{id:Nat}(h:Q .normal s):blk id Q .normal s:=h
theorem aK{id:Nat}(h:Q .ret s):blk id Q .ret s:=h
theorem bg{id:Nat}(h:Q .normal s):blk id Q (.exit id) s:=by unfold blk;dsimp only;rw [if_pos rfl];exact h
theorem rI{id id':Nat}(hne:(id' == id)=false)(h:Q (.exit id') s):blk id Q (.exit id') s:=by unfold blk;dsimp only;rw [if_neg (by simpa using hne)];exact h
theorem gL{a b:Bool}(h:(a && b)=true):a=true:=(Bool.and_eq_true _ _ ▸ h).1
theorem gt{a b:Bool}(ha:a=true)(h:b=true):(a && (b == true))=true:=by rw [ha,h];rfl
theorem gf{a b:Bool}(ha:a=true)(h:b=false):(a && (b == false))=true:=by rw [ha,h];rfl
theorem gT{a b:Bool}(h:(a && (b == true))=true):b=true:=by cases a<;>cases b<;>simp_all
theorem ax{l:List Per}{p:Per}(i:Nat)(h:l[i]? = some p):p∈l:=List.mem_of_getElem? h
theorem bB{fn:Func}{t:Nat}{v:Value}{R:Value→List Per→List Res→Prop}{e:Exit}(lp lh:List Nat)(ok:okH s.hp lh=true)(hr:fn.results = #[.tmp t])(hl:look s.env t=some (true,v))(h:R v (el s.ps lp) (bT s.hp lh))(he:e=.normal∨e=.ret):fy P fn R e s :=
 ⟨he,v,lp,lh,ok,fun a w S fp hst henv=>by have:=henv t true v hl;simp only [cond_true] at this;rw [results_tmp hr,this],h⟩
theorem ac6{fn:Func}{t u:Nat}{v v':Value}{R:Value→List Per→List Res→Prop}{e:Exit}(lp lh:List Nat)(ok:okH s.hp lh=true)(hr:fn.results = #[.tmp t,.tmp u])(hl:look s.env t=some (true,v))(hl':look s.env u=some (true,v'))(h:R (.tuple #[v,v']) (el s.ps lp) (bT s.hp lh))(he:e=.normal∨e=.ret):fy P fn R e s :=
 ⟨he,.tuple #[v,v'],lp,lh,ok,fun a w S fp hst henv=>by have h1:=henv t true v hl;have h2:=henv u true v' hl';simp only [cond_true] at h1 h2;rw [results_tmp2 hr,h1,h2],h⟩
theorem y9{fn:Func}{R:Value→List Per→List Res→Prop}{e:Exit}(lp lh:List Nat)(ok:okH s.hp lh=true)(hr:fn.results = #[])(h:R (.tuple #[]) (el s.ps lp) (bT s.hp lh))(he:e=.normal∨e=.ret):fy P fn R e s :=
 ⟨he,.tuple #[],lp,lh,ok,fun a w S fp hst henv=>by simp [results,hr],h⟩
end
end Go.Sy

namespace Go.Sy
open Go.RowKit Go.Lp
section
variable {P:Program} {n:Fr} {s:Sta} {d:Option Tmp} {ty:TypeId} {pos:String} {af:Array Edge} {gd:Option (Nat × Bool)} {v:Value} {K:Sta→Prop} {q:Bool}
variable {w:World} {S:ba} {fp:Nat→ba} {ps:List Per} {hp:List Res}

theorem nS(w:World)(o:Obj):(w.alloc o).heap[w.heap.size]? = some o:=by
 show (w.heap.push o)[w.heap.size]? = _
 simp
theorem fl(w:World)(o:Obj):Below w.heap.size w (w.alloc o):=(Below.refl _ _).alloc (Nat.le_refl _) _
theorem St.push(h:St w S fp ps hp){w':World}(hb:Below w.heap.size w w')(R:Res)(F:ba)(hR:R.holds w' S F)(hF:∀ b,F b→w.heap.size≤b∧b<w'.heap.size):St w' S (fun i=>if i=hp.length then F else fp i) ps (hp++[R]):=by
 have h':=h.below hb
 refine ⟨h'.per,fun i R' hi => ?_,fun i hi b hb' => ?_,fun i j hi hj hne b hbi hbj => ?_,h'.slt⟩
 · by_cases hil:i=hp.length
   · subst hil
     simp only [List.getElem?_concat_length,Option.some.injEq] at hi
     subst hi
     simpa using hR
   · have:i<hp.length:=by have:=(List.getElem?_eq_some_iff.1 hi).1;simp at this;omega
     rw [List.getElem?_append_left this] at hi
     simpa [hil] using h'.res i R' hi
 · by_cases hil:i=hp.length
   · subst hil
     simp only [if_true] at hb'
     exact ⟨(hF b hb').2,fun hS=>by have:=h.slt b hS;have:=(hF b hb').1;omega⟩
   · rw [if_neg hil] at hb'
     exact h'.lt i (by simp at hi;omega) b hb'
 · simp only [List.length_append,List.length_cons,List.length_nil] at hi hj
   by_cases hil:i=hp.length
   · rw [if_pos hil] at hbi
     rw [if_neg (by omega)] at hbj
     have:=(h.lt j (by omega) b hbj).1
     have:=(hF b hbi).1
     omega
   · rw [if_neg hil] at hbi
     by_cases hjl:j=hp.length
     · rw [if_pos hjl] at hbj
       have:=(h.lt i (by omega) b hbi).1
       have:=(hF b hbj).1
       omega
     · rw [if_neg hjl] at hbj
       exact h.dj i j (by omega) (by omega) hne b hbi hbj
theorem oI{F:ba}{m:Nat}{b:Nat}(h:tot (fun i=>if i=m then F else fp i) (m+1) b):tot fp m b∨F b:=by
 obtain ⟨i,hi,hb⟩:=h
 by_cases hil:i=m
 · rw [if_pos hil] at hb;exact .inr hb
 · rw [if_neg hil] at hb;exact .inl ⟨i,by omega,hb⟩
theorem Eff.push{o:Oper} (h:∀ w S fp a,St w S fp s.ps s.hp→cG a s.env→a.tmps.size=n.size →
     fB P (fun u w'=>∃ R F s',K s'∧s'.ps=s.ps∧s'.hp=s.hp++[R]∧cG (a.put o.dst u) s'.env∧Below w.heap.size w w'∧R.holds w' S F∧∀ b,F b→w.heap.size≤b∧b<w'.heap.size) ((execOp a.eval o).run P w)):Eff P n o s q K:=fun w S fp a hst he hn=>by
 refine bO (fun u w' hh => ?_) (h w S fp a hst he hn)
 obtain ⟨R,F,s',hK,hps,hhp,he',hb,hR,hF⟩:=hh
 refine ⟨s',S,_,hK,by rw [hps,hhp];exact hst.push hb R F hR hF,he',Evo.of_below _ _ hb,fun b hb' => ?_,fun _=>hb⟩
 rw [hhp,List.length_append,List.length_cons,List.length_nil] at hb'
 exact (oI hb').imp id (fun h=>(hF b h).1)
def ec(P:Program)(T:TypeId):Option (List Value):=(P.info? T).bind fun i=>i.zero.map fun z=>z.cells.toList
theorem zV{T:TypeId}{zs:List Value}(h:ec P T=some zs)(w:World):∃ z,(zeroValue T).run P w=.ok z w∧z.cells.toList=zs:=by
 unfold ec at h
 cases hi:P.info? T with
 | none=>rw [hi] at h;cases h
 | some i =>
   rw [hi] at h
   cases hz:i.zero with
   | none=>rw [Option.bind_some,hz] at h;cases h
   | some z =>
     rw [Option.bind_some,hz] at h
     simp only [Option.map_some,Option.some.injEq] at h
     exact ⟨z,by simp [zeroValue,typeInfo,hi,hz],h⟩
theorem vi(w:World)(S:ba)(T:TypeId)(cs:List Value):(Box w.heap.size T cs).holds (w.alloc (.cells cs.toArray T)) S (fun b=>b=w.heap.size):=⟨nS _ _,fun _=>Iff.rfl⟩
theorem aaG{t:Nat}{T:TypeId}{zs:List Value}(hz:ec P T=some zs)(ht:fits n (some t)=true)(hK:∀ b,K ⟨(t,true,.pointer (some ⟨b,0,none⟩))::s.env,s.ps,s.hp++[Box b T zs]⟩) :
   Eff P n ⟨some t,.alloc T,ty,pos,af,gd⟩ s q K:=.push fun w S fp a hst he hn=>by
 obtain ⟨z,h1,h2⟩:=zV hz w
 have:(execOp a.eval ⟨some t,.alloc T,ty,pos,af,gd⟩).run P w=.ok (.value (.pointer (some ⟨w.heap.size,0,none⟩))) (w.alloc (.cells zs.toArray T)):=by
   show ((Instr.alloc T true (.tuple #[])).bind fun r=>Sem.pure (Next.value r)).run P w=_
   rw [Sem.run_bind']
   have:(Instr.alloc T true (.tuple #[])).run P w=.ok (.pointer (some ⟨w.heap.size,0,none⟩)) (w.alloc (.cells zs.toArray T)):=by
     have e:z.cells=zs.toArray:=by rw [← h2]
     simp [Instr.alloc,Sem.run_bind,h1,Result.andThen,newVar,newRow,newObj,Sem.run,e]
   rw [this];rfl
 rw [this]
 refine ⟨Box w.heap.size T zs,fun b=>b=w.heap.size,_,hK w.heap.size,rfl,rfl,?_,fl _ _,vi _ _ _ _,fun b hb => ?_⟩
 · exact he.put (g:=true) (by rw [hn];simpa [fits] using ht) _
 · subst hb;simp
def cpL:List Value→Option (List Value)
 | []=>some []
 | c::cs=>match cpL cs with
   | some l=>some (c::l)
   | none=>none
theorem yT:∀ (cs l:List Value),cpL cs=some l→l=cs
 | [],l,h=>by simp only [cpL,Option.some.injEq] at h;exact h.symm
 | c :: cs,l,h=>by
   unfold cpL at h
   split at h
   · rename_i l' hl
     simp only [Option.some.injEq] at h
     rw [← h,yT cs l' hl]
   · cases h
theorem aco{t:Nat}{T:TypeId}{x:Operand}{vx:Value}{cs:List Value}(hx:ev s.env x=some (true,vx))(hc0:cpL vx.cells.toList=some cs)(ht:fits n (some t)=true)(hK:∀ b,K ⟨(t,true,.pointer (some ⟨b,0,none⟩))::s.env,s.ps,s.hp++[Box b T cs]⟩) :
   Eff P n ⟨some t,.box T x,ty,pos,af,gd⟩ s q K:=.push fun w S fp a hst he hn=>by
 have hc:=(yT _ _ hc0).symm
 have h1:=he.val hx rfl
 have:(execOp a.eval ⟨some t,.box T x,ty,pos,af,gd⟩).run P w=.ok (.value (.pointer (some ⟨w.heap.size,0,none⟩))) (w.alloc (.cells cs.toArray T)):=by
   have e:vx.cells=cs.toArray:=by rw [← hc]
   show ((Instr.box T (a.eval x)).bind fun r=>Sem.pure (Next.value r)).run P w=_
   rw [h1,Sem.run_bind']
   have:(Instr.box T vx).run P w=.ok (.pointer (some ⟨w.heap.size,0,none⟩)) (w.alloc (.cells cs.toArray T)):=by
     simp [Instr.box,Sem.run_bind,Result.andThen,newVar,newRow,newObj,Sem.run,e]
   rw [this];rfl
 rw [this]
 refine ⟨Box w.heap.size T cs,fun b=>b=w.heap.size,_,hK w.heap.size,rfl,rfl,?_,fl _ _,vi _ _ _ _,fun b hb => ?_⟩
 · exact he.put (g:=true) (by rw [hn];simpa [fits] using ht) _
 · subst hb;simp

theorem St.change(h:St w S fp ps hp){w':World}{i:Nat}(hi:i<hp.length)(hs:w.heap.size≤w'.heap.size)(hw:∀ b,b<w.heap.size→¬ fp i b→w'.heap[b]? = w.heap[b]?)(R:Res)(hR:R.holds w' S (fp i)):St w' S fp ps (hp.set i R):=by
 have hS:∀ b,S b→w'.heap[b]? = w.heap[b]? := fun b hb=>hw b (h.slt b hb) (fun hf=>(h.lt i hi b hf).2 hb)
 refine ⟨fun p hp'=>p.mono (h.per p hp') hS (fun _ h=>h),fun j R' hj => ?_,fun j hj b hb => ?_,fun j k hj hk=>h.dj j k (by simpa using hj) (by simpa using hk),fun b hb=>Nat.lt_of_lt_of_le (h.slt b hb) hs⟩
 · by_cases hij:i=j
   · subst hij
     rw [List.getElem?_set_self hi] at hj
     simp only [Option.some.injEq] at hj
     subst hj;exact hR
   · rw [List.getElem?_set_ne hij] at hj
     have hjl:=(List.getElem?_eq_some_iff.1 hj).1
     exact R'.mono (h.res j R' hj) (fun b hb=>hw b (h.lt j hjl b hb).1 (fun hf=>h.dj i j hi hjl hij b hf hb)) hS (fun _ h=>h)
 · have hj':j<hp.length:=by simpa using hj
   exact ⟨Nat.lt_of_lt_of_le (h.lt j hj' b hb).1 hs,(h.lt j hj' b hb).2⟩
theorem Eff.change{o:Oper}(i:Nat){R0:Res}(hi:s.hp[i]? = some R0) (h:∀ w S fp a,St w S fp s.ps s.hp→cG a s.env→a.tmps.size=n.size→R0.holds w S (fp i) →
     fB P (fun u w'=>∃ R s',K s'∧s'.ps=s.ps∧s'.hp=s.hp.set i R∧cG (a.put o.dst u) s'.env∧R.holds w' S (fp i)∧w'.os=w.os∧w'.tape=w.tape∧(w'.output=w.output∧w'.drawn=w.drawn)∧w.heap.size≤w'.heap.size ∧
       ∀ b,b<w.heap.size→¬ fp i b→w'.heap[b]? = w.heap[b]?) ((execOp a.eval o).run P w)):Eff P n o s false K:=fun w S fp a hst he hn=>by
 have hil:=(List.getElem?_eq_some_iff.1 hi).1
 refine bO (fun u w' hh => ?_) (h w S fp a hst he hn (hst.res i R0 hi))
 obtain ⟨R,s',hK,hps,hhp,he',hR,h1,h2,h3,h4,h5⟩:=hh
 refine ⟨s',S,fp,hK,by rw [hps,hhp];exact hst.change hil h4 h5 R hR,he',⟨h1,h2,h3.1,h4,Nat.le_of_eq h3.2.symm,fun b hb hx=>h5 b hb (fun hf=>hx ⟨i,hil,hf⟩),fun _ h=>h,fun _ h=>.inl h⟩,fun b hb => ?_,fun h=>by cases h⟩
 obtain ⟨j,hj,hb⟩:=hb
 exact .inl ⟨j,by rw [hhp] at hj;simpa using hj,hb⟩
def wrC(cs:List Value)(o:Nat)(vs:List Value):List Value:=cs.take o++(vs++cs.drop (o+vs.length))
theorem fV (b:Nat) (T:TypeId) (o:Nat):∀ (vs:List Value) (i:Nat) (cs:List Value) (w:World),w.heap[b]? = some (.cells cs.toArray T (0,0))→(∀ v∈vs,v.oneCell'=true)→o+i+vs.length≤cs.length →
   (storeCells ⟨b,o,none⟩ vs i).run P w=.ok () (w.setRow b (wrC cs (o+i) vs).toArray)
 | [],i,cs,w,hb,_,_=>by
   have:wrC cs (o+i) []=cs:=by unfold wrC;simp
   rw [this]
   show Result.ok () w=_
   congr 1
   unfold World.setRow
   cases w with | mk heap tape drawn os output =>
   simp only [World.mk.injEq,and_true]
   apply Array.ext_getElem?
   intro k
   rw [Array.getElem?_modify]
   split
   · rename_i hk;subst hk
     simp only at hb
     rw [hb];rfl
   · rfl
 | v :: vs,i,cs,w,hb,h1,hl=>by
   have hlt:o+i<cs.length:=by simp at hl;omega
   have hadd:(Addr.mk b o none).add i=⟨b,o+i,none⟩:=by
     unfold Addr.add;split
     · rename_i h;rw [h];rfl
     · rfl
   have hc:w.cell? ⟨b,o+i,none⟩=some cs[o+i]:=by rw [dL hb];simp [hlt]
   have hf:w.frozen? ⟨b,o+i,none⟩=false:=by unfold World.frozen?;simp [hb]
   unfold storeCells
   show ((store ((Addr.mk b o none).add i) v).bind fun _=>storeCells ⟨b,o,none⟩ vs (i+1)).run P w=_
   rw [Sem.run_bind',hadd,run_store P w _ v _ (h1 v (by simp)),hc]
   simp only [hf,Bool.false_eq_true,if_false,Result.andThen]
   have hb':(w.setCell ⟨b,o+i,none⟩ v).heap[b]? = some (.cells (cs.set (o+i) v).toArray T (0,0)):=by
     unfold World.setCell
     simp only [Array.getElem?_modify,hb]
     simp
   rw [fV b T o vs (i+1) (cs.set (o+i) v) _ hb' (fun u hu=>h1 u (by simp [hu])) (by simp at hl ⊢;omega)]
   congr 1
   have e:wrC (cs.set (o+i) v) (o+(i+1)) vs=wrC cs (o+i) (v::vs):=by
     unfold wrC
     apply List.ext_getElem?
     intro k
     simp only [List.getElem?_append,List.length_take,List.length_set,List.getElem?_take,List.getElem?_drop,List.getElem?_set,List.length_cons,List.getElem?_cons]
     rw [Nat.min_eq_left (by simp at hl;omega),Nat.min_eq_left (by omega)]
     by_cases h1:k<o+i
     · simp [show k<o+(i+1) by omega,h1,show ¬ o+i=k by omega]
     · by_cases h2:k=o+i
       · subst h2;simp [hlt]
       · have h3:¬ k<o+(i+1):=by omega
         have h4:k-(o+i)=(k-(o+(i+1)))+1:=by omega
         simp only [h1,h3,if_false]
         by_cases h5:k-(o+(i+1))<vs.length
         · rw [if_pos h5,if_pos (by omega),if_neg (by omega)]
           congr 1<;>omega
         · rw [if_neg h5,if_neg (by omega),if_neg (by omega)]
           congr 1<;>omega
   rw [e]
   unfold World.setRow World.setCell
   simp only [World.mk.injEq,and_true]
   apply Array.ext_getElem?
   intro k
   simp only [Array.getElem?_modify]
   split
   · rename_i hk;subst hk
     rw [hb];rfl
   · rfl
theorem setRow_other(w:World)(g:Nat)(cs:Array Value)(k:Nat)(hk:k≠g):(w.setRow g cs).heap[k]? = w.heap[k]? := sA w g cs k hk
def wrL:Nat→List Value→Nat→List Value→Option (List Value)
 | 0,cs,0,[]=>some cs
 | k + 1,_::cs,0,v::vs=>match v.oneCell' with
   | true=>match wrL k cs 0 vs with
     | some l=>some (v::l)
     | none=>none
   | false=>none
 | k,c::cs,o+1,vs=>match wrL k cs o vs with
   | some l=>some (c::l)
   | none=>none
 | _,_,_,_=>none
theorem ru:∀ (cs:List Value) (k o:Nat) (vs cs':List Value),wrL k cs o vs=some cs'→vs.length=k∧(∀ v∈vs,v.oneCell'=true)∧o+vs.length≤cs.length∧cs'=wrC cs o vs
 | cs,0,0,[],cs',h=>by
   have:some cs=some cs':=by cases cs<;>exact h
   simp only [Option.some.injEq] at this
   subst this
   exact ⟨rfl,by simp,by simp,by simp [wrC]⟩
 | [],0,0,_::_,_,h=>by cases h
 | _::_,0,0,_::_,_,h=>by cases h
 | _ :: cs,k+1,0,v::vs,cs',h=>by
   unfold wrL at h
   split at h
   · rename_i hv
     split at h
     · rename_i l hl
       simp only [Option.some.injEq] at h
       subst h
       obtain ⟨h1,h2,h3,rfl⟩:=ru cs k 0 vs l hl
       refine ⟨by simp [h1],fun u hu => ?_,by simp at h3 ⊢;omega,by simp [wrC]⟩
       rcases List.mem_cons.1 hu with rfl | hu
       · exact hv
       · exact h2 u hu
     · cases h
   · cases h
 | [],k+1,0,_::_,_,h=>by cases h
 | [],k+1,0,[],_,h=>by cases h
 | _::_,k+1,0,[],_,h=>by cases h
 | [],0,o+1,_,_,h=>by cases h
 | [],k+1,o+1,_,_,h=>by cases h
 | c :: cs,k,o+1,vs,cs',h=>by
   have h':(match wrL k cs o vs with | some l=>some (c::l) | none=>none)=some cs':=by cases k<;>exact h
   split at h'
   · rename_i l hl
     simp only [Option.some.injEq] at h'
     subst h'
     obtain ⟨h1,h2,h3,rfl⟩:=ru cs k o vs l hl
     exact ⟨h1,h2,by simp;omega,by simp [wrC,show o+1+vs.length=(o+vs.length)+1 by omega]⟩
   · cases h'
theorem aaL{x y:Operand}{U T:TypeId}{ag:Bool}{k b o:Nat}{cs cs':List Value}{vy:Value}(i:Nat)(hk:tyk P U=some (ag,k))(hx:ev s.env x=some (true,.pointer (some ⟨b,o,none⟩)))(hy:ev s.env y=some (true,vy))(hi:s.hp[i]? = some (Box b T cs))
   (hw:wrL k cs o vy.cells.toList=some cs') (hK:K ⟨s.env,s.ps,s.hp.set i (Box b T cs')⟩) :
   Eff P n ⟨none,.store U x y,ty,pos,af,gd⟩ s false K:=.change i hi fun w S fp a hst he hn hR=>by
 have e1:=he.val hx rfl
 have e2:=he.val hy rfl
 obtain ⟨_,j,_,hj,_,hjk⟩:=gE hk
 obtain ⟨hb,hF⟩:=hR
 obtain ⟨hl,h1',hle,rfl⟩:=ru _ _ _ _ _ hw
 generalize hv:vy.cells.toList=vs at hl h1' hle hK
 have:(execOp a.eval ⟨none,.store U x y,ty,pos,af,gd⟩).run P w=.ok .skip (w.setRow b (wrC cs o vs).toArray):=by
   show ((Instr.storeAt U (a.eval x) (a.eval y)).bind fun _=>Sem.pure Next.skip).run P w=_
   rw [e1,e2,Sem.run_bind']
   have:(Instr.storeAt U (.pointer (some ⟨b,o,none⟩)) vy).run P w=.ok () (w.setRow b (wrC cs o vs).toArray):=by
     show (storeVar U ⟨b,o,none⟩ vy).run P w=_
     unfold storeVar
     simp only [Sem.run_bind,cF hj,Result.andThen]
     have hsz:vy.cells.size=j.size:=by rw [hjk,← hl,← hv];simp
     rw [if_neg (by simpa using hsz)]
     rw [hv]
     exact fV b T o vs 0 cs w hb h1' (by omega)
   rw [this];rfl
 rw [this]
 refine ⟨Box b T (wrC cs o vs),_,hK,rfl,rfl,he,⟨setRow_heap _ _ _ _ _ _ hb,hF⟩,rfl,rfl,⟨rfl,rfl⟩,by simp [World.setRow],fun b' hb' hne=>setRow_other _ _ _ _ (fun h=>hne ((hF b').2 h))⟩
end
def place:List Nat→Nat→Option Nat
 | [],_=>none
 | k::l,i=>if k == i then some 0 else (place l i).map (· + 1)
theorem fU:∀ (l:List Nat) (i k:Nat),place l i=some k→k<l.length∧l.getD k 0=i
 | [],_,_,h=>by cases h
 | a :: l,i,k,h=>by
   unfold place at h
   split at h
   · rename_i hai
     obtain rfl:a=i:=by simpa using hai
     simp only [Option.some.injEq] at h
     subst h
     exact ⟨by simp,rfl⟩
   · cases hp:place l i with
     | none=>rw [hp] at h;cases h
     | some m =>
       rw [hp] at h
       simp only [Option.map_some,Option.some.injEq] at h
       subst h
       obtain ⟨h1,h2⟩:=fU l i m hp
       exact ⟨by simp;omega,by simpa [List.getD] using h2⟩
theorem ou:∀ (l:List Nat) (i:Nat),place l i=none→i ∉ l
 | [],_,_=>by simp
 | a :: l,i,h=>by
   unfold place at h
   split at h
   · cases h
   · rename_i hai
     have hne:¬ a=i:=by simpa using hai
     cases hp:place l i with
     | none=>simp [ou l i hp];exact fun h=>hne h.symm
     | some m=>rw [hp] at h;cases h
def fD(lh:List Nat)(new:List Res):Nat→List Res→List Res
 | i,r::hp=>(match place lh i with
   | some k=>new.getD k emp
   | none=>r)::fD lh new (i+1) hp
 | _,[]=>new.drop lh.length
theorem iJ(lh:List Nat)(new:List Res):∀ (hp:List Res) (i j:Nat),(fD lh new i hp)[j]? = if j<hp.length then (match place lh (i+j) with
   | some k=>some (new.getD k emp)
   | none=>hp[j]?) else new[j-hp.length+lh.length]?
 | [],i,j=>by simp [fD,List.getElem?_drop,Nat.add_comm]
 | r::hp,i,0=>by
   simp only [fD,List.getElem?_cons_zero,List.length_cons,Nat.zero_lt_succ,if_true,Nat.add_zero]
   cases place lh i<;>rfl
 | r::hp,i,j+1=>by
   simp only [fD,List.getElem?_cons_succ,iJ lh new hp (i+1) j,List.length_cons,Nat.add_lt_add_iff_right]
   rw [show i+1+j=i+(j+1) by omega,show j+1-(hp.length+1)=j-hp.length by omega]
theorem sN(lh:List Nat)(new:List Res):∀ (hp:List Res) (i:Nat),(fD lh new i hp).length=hp.length+(new.length-lh.length)
 | [],i=>by simp [fD]
 | r::hp,i=>by simp [fD,sN lh new hp (i+1)];omega
def fpB(lh:List Nat)(m k:Nat)(fp fp':Nat→ba):Nat→ba:=fun i =>
 if i<m then (match place lh i with
   | some j=>if j<k then fp' j else fun _=>False
   | none=>fp i) else fp' (i-m+lh.length)
section
variable {w w':World} {S S':ba} {fp fp':Nat→ba} {ps ps':List Per} {hp new:List Res}
theorem St.back(h:St w S fp ps hp)(lp lh:List Nat)(ok:okH hp lh=true)(h':St w' S' fp' ps' new)(hE:Evo w S (tot (fun k=>fp (lh.getD k 0)) (Sy.bT hp lh).length) w' S')
   (hg:∀ b,tot fp' new.length b→tot (fun k=>fp (lh.getD k 0)) (Sy.bT hp lh).length b∨w.heap.size≤b) :
   St w' S' (fpB lh hp.length new.length fp fp') (ps'++ps) (fD lh new 0 hp)∧(∀ b,tot (fpB lh hp.length new.length fp fp') (fD lh new 0 hp).length b→tot fp hp.length b∨w.heap.size≤b):=by
 have ok':=ok
 simp only [okH,Bool.and_eq_true,decide_eq_true_eq] at ok
 have hlt:∀ k,k<lh.length→lh.getD k 0<hp.length:=fun k hk=>by simpa [List.getD,hk] using List.all_eq_true.1 ok.1 _ (List.getElem_mem hk)
 have hkl:(Sy.bT hp lh).length=lh.length:=by simp [Sy.bT]
 rw [hkl] at hE hg
 -- a block that a resource that stays behind owns
 have out:∀ i,i<hp.length→place lh i=none→∀ b,fp i b→¬ tot (fun k=>fp (lh.getD k 0)) lh.length b:=fun i hi hpl b hb ⟨k,hk,hbk⟩=>by
   have hne:i≠lh.getD k 0:=fun e=>by
     refine ou lh i hpl ?_
     rw [e]
     simp [List.getD,hk]
   exact h.dj i _ hi (hlt k hk) hne b hb hbk
 have hS:∀ b,S b→w'.heap[b]? = w.heap[b]? := fun b hb=>hE.block b (h.slt b hb) (fun ⟨k,hk,hbk⟩=>(h.lt _ (hlt k hk) b hbk).2 hb)
 have fpcase:∀ i,i<(fD lh new 0 hp).length→∀ b,fpB lh hp.length new.length fp fp' i b →
     (∃ j,j<new.length∧fp' j b∧((i<hp.length∧place lh i=some j)∨(hp.length≤i∧j=i-hp.length+lh.length)))∨(i<hp.length∧place lh i=none∧fp i b):=fun i hi b hb=>by
   unfold fpB at hb
   rw [sN] at hi
   by_cases him:i<hp.length
   · rw [if_pos him] at hb
     cases hpl:place lh i with
     | some j =>
       rw [hpl] at hb
       dsimp only at hb
       by_cases hjk:j<new.length
       · rw [if_pos hjk] at hb;exact .inl ⟨j,hjk,hb,.inl ⟨him,rfl⟩⟩
       · rw [if_neg hjk] at hb;exact hb.elim
     | none =>
       rw [hpl] at hb
       exact .inr ⟨him,rfl,hb⟩
   · rw [if_neg him] at hb
     exact .inl ⟨i-hp.length+lh.length,by omega,hb,.inr ⟨by omega,rfl⟩⟩
 refine ⟨⟨fun p hp' => ?_,fun i R hR => ?_,fun i hi b hb => ?_,fun i j hi hj hne b hbi hbj => ?_,h'.slt⟩,fun b ⟨i,hi,hb⟩ => ?_⟩
 · rcases List.mem_append.1 hp' with h1 | h1
   · exact h'.per p h1
   · exact p.mono (h.per p h1) hS hE.more
 · rw [iJ] at hR
   unfold fpB
   split at hR
   · rename_i him
     rw [if_pos him]
     rw [Nat.zero_add] at hR
     cases hpl:place lh i with
     | some j =>
       rw [hpl] at hR
       simp only [Option.some.injEq] at hR
       subst hR
       dsimp only
       by_cases hjk:j<new.length
       · rw [if_pos hjk]
         refine h'.res j _ ?_
         simp [List.getD,hjk]
       · rw [if_neg hjk]
         have:new.getD j emp=emp:=by simp [List.getD,Nat.not_lt.1 hjk]
         rw [this]
         exact fun b hb=>hb
     | none =>
       rw [hpl] at hR
       dsimp only at hR ⊢
       exact R.mono (h.res i R hR) (fun b hb=>hE.block b (h.lt i him b hb).1 (out i him hpl b hb)) hS hE.more
   · rename_i him
     rw [if_neg him]
     exact h'.res _ R hR
 · rcases fpcase i hi b hb with ⟨j,hj,hbj,_⟩ | ⟨him,hpl,hb'⟩
   · exact h'.lt j hj b hbj
   · refine ⟨Nat.lt_of_lt_of_le (h.lt i him b hb').1 hE.size,fun hS' => ?_⟩
     rcases hE.new b hS' with h1 | h1 | h1
     · exact (h.lt i him b hb').2 h1
     · exact out i him hpl b hb' h1
     · have:=(h.lt i him b hb').1;omega
 · have key:∀ i j,i<(fD lh new 0 hp).length→j<(fD lh new 0 hp).length→i≠j→∀ b,(∃ k,k<new.length∧fp' k b∧((i<hp.length∧place lh i=some k)∨(hp.length≤i∧k=i-hp.length+lh.length)))→(j<hp.length∧place lh j=none∧fp j b)→False:=fun i j hi hj hne b ⟨k,hk,hb,_⟩ ⟨hjm,hpl,hbj⟩=>by
     rcases hg b ⟨k,hk,hb⟩ with h1 | h1
     · exact out j hjm hpl b hbj h1
     · have:=(h.lt j hjm b hbj).1;omega
   rcases fpcase i hi b hbi with h1 | h1
   · rcases fpcase j hj b hbj with h2 | h2
     · obtain ⟨k,hk,hb1,hk'⟩:=h1
       obtain ⟨m,hm,hb2,hm'⟩:=h2
       have hkm:k≠m:=fun e=>by
         subst e
         rcases hk' with ⟨a1,a2⟩ | ⟨a1,a2⟩
         · rcases hm' with ⟨c1,c2⟩ | ⟨c1,c2⟩
           · have:=(fU _ _ _ a2).2;have:=(fU _ _ _ c2).2;omega
           · have:=(fU _ _ _ a2).1;omega
         · rcases hm' with ⟨c1,c2⟩ | ⟨c1,c2⟩
           · have:=(fU _ _ _ c2).1;omega
           · omega
       exact h'.dj k m hk hm hkm b hb1 hb2
     · exact key i j hi hj hne b h1 h2
   · rcases fpcase j hj b hbj with h2 | h2
     · exact key j i hj hi (Ne.symm hne) b h2 h1
     · exact h.dj i j h1.1 h2.1 hne b h1.2.2 h2.2.2
 · rcases fpcase i hi b hb with ⟨j,hj,hbj,_⟩ | ⟨him,hpl,hb'⟩
   · rcases hg b ⟨j,hj,hbj⟩ with ⟨k,hk,hbk⟩ | h1
     · exact .inl ⟨_,hlt k hk,hbk⟩
     · exact .inr h1
   · exact .inl ⟨i,him,hb'⟩
end
section
variable {P:Program} {n:Fr} {env:Env} {ps:List Per} {hp:List Res} {ty:TypeId} {pos:String} {af:Array Edge} {gd:Option (Nat × Bool)} {K:Sta→Prop}
theorem mE(fp:Nat→ba)(b:Nat):¬ tot fp 0 b:=fun ⟨_,hi,_⟩=>by omega
theorem gh{t:Nat}{f:FuncId}{g:Operand}{caps:List Value}{l:List Operand}{ts:Array TypeId}{vs:List Value}{q:Bool}{R:Value→List Per→List Res→Prop}(lp lh:List Nat)(hf:aX P f=true)(hgv:ev env g=some (true,.func (.func f) #[] caps.toArray))(hx:evs env l=some vs)(ht:fits n (some t)=true)(ok:okH hp lh=true)
   (hq:(!q || lh.isEmpty)=true) (hc:Con P f (vs++caps) (el ps lp) (bT hp lh) R) (hK:∀ v ps' hp',R v ps' hp'→K ⟨(t,true,v)::env,ps'++ps,fD lh hp' 0 hp⟩) :
   Eff P n ⟨some t,.call ⟨.value g,l.toArray,ts⟩,ty,pos,af,gd⟩ ⟨env,ps,hp⟩ q K:=fun w S fp a hst he hn=>by
 rw [ld hf (he.val hgv rfl) (eM he l vs hx)]
 obtain ⟨k1,k2⟩:=hst.bT lp lh ok
 have hcc:=hc w S _ k1
 rw [show (vs++caps).toArray=vs.toArray++caps.toArray by simp] at hcc
 refine hcc.mono fun e w' ⟨v,ps',hp',S',fp',he',hR,hst',hE,hg⟩=>⟨v,he',?_⟩
 obtain ⟨m1,m2⟩:=hst.back lp lh ok hst' hE hg
 refine ⟨_,S',_,hK v ps' hp' hR,m1,?_,hE.wider k2,m2,fun hq' => ?_⟩
 · exact he.put (g:=true) (by rw [hn];simpa [fits] using ht) v
 · rw [hq'] at hq
   have:lh=[]:=by simpa using hq
   subst this
   exact hE.toX (fun b hb=>mE _ b hb)
theorem fe{t:Nat}{f:FuncId}{l:List Operand}{ts:Array TypeId}{vs:List Value}{q:Bool}{R:Value→List Per→List Res→Prop}(lp lh:List Nat)(hf:aX P f=true)(hx:evs env l=some vs)(ht:fits n (some t)=true)(ok:okH hp lh=true)
   (hq:(!q || lh.isEmpty)=true) (hc:Con P f vs (el ps lp) (bT hp lh) R) (hK:∀ v ps' hp',R v ps' hp'→K ⟨(t,true,v)::env,ps'++ps,fD lh hp' 0 hp⟩) :
   Eff P n ⟨some t,.call ⟨.value (.func f),l.toArray,ts⟩,ty,pos,af,gd⟩ ⟨env,ps,hp⟩ q K :=
 gh (caps:=[]) lp lh hf rfl hx ht ok hq (by rw [List.append_nil];exact hc) hK
end
section
variable {w w':World} {S S':ba} {fp:Nat→ba} {ps:List Per} {hp:List Res}
theorem St.change2(h:St w S fp ps hp){i:Nat}(hi:i<hp.length)(hs:w.heap.size≤w'.heap.size)(hw:∀ b,b<w.heap.size→¬ fp i b→w'.heap[b]? = w.heap[b]?)(R:Res)(F:ba)(hR:R.holds w' S F)
   (hF:∀ b,F b→(fp i b∨w.heap.size≤b)∧b<w'.heap.size):St w' S (fun k=>if k=i then F else fp k) ps (hp.set i R):=by
 have hS:∀ b,S b→w'.heap[b]? = w.heap[b]? := fun b hb=>hw b (h.slt b hb) (fun hf=>(h.lt i hi b hf).2 hb)
 refine ⟨fun p hp'=>p.mono (h.per p hp') hS (fun _ h=>h),fun j R' hj => ?_,fun j hj b hb => ?_,fun j k hj hk hne b hbj hbk => ?_,fun b hb=>Nat.lt_of_lt_of_le (h.slt b hb) hs⟩
 · by_cases hij:i=j
   · subst hij
     rw [List.getElem?_set_self hi] at hj
     simp only [Option.some.injEq] at hj
     subst hj;rw [if_pos rfl];exact hR
   · rw [List.getElem?_set_ne hij] at hj
     have hjl:=(List.getElem?_eq_some_iff.1 hj).1
     rw [if_neg (Ne.symm hij)]
     exact R'.mono (h.res j R' hj) (fun b hb=>hw b (h.lt j hjl b hb).1 (fun hf=>h.dj i j hi hjl hij b hf hb)) hS (fun _ h=>h)
 · have hj':j<hp.length:=by simpa using hj
   by_cases hij:j=i
   · rw [if_pos hij] at hb
     refine ⟨(hF b hb).2,fun hS' => ?_⟩
     rcases (hF b hb).1 with h1 | h1
     · exact (h.lt i hi b h1).2 hS'
     · have:=h.slt b hS';omega
   · rw [if_neg hij] at hb
     exact ⟨Nat.lt_of_lt_of_le (h.lt j hj' b hb).1 hs,(h.lt j hj' b hb).2⟩
 · have hj':j<hp.length:=by simpa using hj
   have hk':k<hp.length:=by simpa using hk
   have key:∀ m,m<hp.length→m≠i→fp m b→F b→False:=fun m hm hmi hbm hbF=>by
     rcases (hF b hbF).1 with h1 | h1
     · exact h.dj m i hm hi hmi b hbm h1
     · have:=(h.lt m hm b hbm).1;omega
   by_cases hji:j=i
   · rw [if_pos hji] at hbj
     rw [if_neg (by omega)] at hbk
     exact key k hk' (by omega) hbk hbj
   · rw [if_neg hji] at hbj
     by_cases hki:k=i
     · rw [if_pos hki] at hbk;exact key j hj' hji hbj hbk
     · rw [if_neg hki] at hbk;exact h.dj j k hj' hk' hne b hbj hbk
theorem St.drop(h:St w S fp ps hp)(i:Nat):St w S (fun k=>if k=i then (fun _=>False) else fp k) ps (hp.set i emp):=by
 by_cases hi:i<hp.length
 · exact h.change2 hi (Nat.le_refl _) (fun _ _ _=>rfl) emp _ (fun b hb=>hb) (fun b hb=>hb.elim)
 · rw [List.set_eq_of_length_le (Nat.not_lt.1 hi)]
   refine ⟨h.per,fun j R hj => ?_,fun j hj b hb => ?_,fun j k hj hk hne b hbj hbk => ?_,h.slt⟩
   · rw [if_neg (by have:=(List.getElem?_eq_some_iff.1 hj).1;omega)];exact h.res j R hj
   · rw [if_neg (by omega)] at hb;exact h.lt j hj b hb
   · rw [if_neg (by omega)] at hbj hbk;exact h.dj j k hj hk hne b hbj hbk
end
def aP(v:Value)(E:TypeId)(sz:Nat)(rows:List (List D)):Res :=
 ⟨fun w S F=>(v=.slice none 0 0∧rows=[]∧∀ b,¬ F b)∨∃ b cap,v=.slice (some ⟨b,0,none⟩) rows.length cap∧(Own b E sz cap rows).holds w S F,
  fun h h1 h2 h3=>h.imp id fun ⟨b,cap,hv,ho⟩=>⟨b,cap,hv,(Own b E sz cap rows).mono ho h1 h2 h3⟩⟩
inductive RC (ps:List Per):List Value→List D→Prop where
 | nil:RC ps [] []
 | v {u:Value} {us:List Value} {ds:List D} : u.oneCell'=true→RC ps us ds→RC ps (u::us) (.v u::ds)
 | s {u:Value} {d:D} {us:List Value} {ds:List D} : u.oneCell'=true→Sh u d∈ps→RC ps us ds→RC ps (u::us) (d::ds)
theorem RC.get{ps:List Per}{us:List Value}{ds:List D}(h:RC ps us ds):us.length=ds.length∧(∀ u∈us,u.oneCell'=true)∧∀ (j:Nat) (d:D),ds[j]? = some d→∃ u,us[j]? = some u∧(d=.v u∨Sh u d∈ps):=by
 induction h with
 | nil=>exact ⟨rfl,by simp,fun j d h=>by simp at h⟩
 | v ho _ ih =>
   obtain ⟨h1,h2,h3⟩:=ih
   refine ⟨by simp [h1],fun u hu => ?_,fun j d hj => ?_⟩
   · rcases List.mem_cons.1 hu with rfl | hu
     · exact ho
     · exact h2 u hu
   · cases j with
     | zero=>simp only [List.getElem?_cons_zero,Option.some.injEq] at hj;exact ⟨_,rfl,.inl hj.symm⟩
     | succ j=>exact h3 j d hj
 | s ho hs _ ih =>
   obtain ⟨h1,h2,h3⟩:=ih
   refine ⟨by simp [h1],fun u hu => ?_,fun j d hj => ?_⟩
   · rcases List.mem_cons.1 hu with rfl | hu
     · exact ho
     · exact h2 u hu
   · cases j with
     | zero=>simp only [List.getElem?_cons_zero,Option.some.injEq] at hj;subst hj;exact ⟨_,rfl,.inr hs⟩
     | succ j=>exact h3 j d hj
inductive RCs (ps:List Per) (sz:Nat):List Value→List (List D)→Prop where
 | nil:RCs ps sz [] []
 | cons {us vs:List Value} {r:List D} {rows:List (List D)} : us.length=sz→RC ps us r→RCs ps sz vs rows→RCs ps sz (us++vs) (r::rows)
theorem RCs.rows{ps:List Per}{sz:Nat}{cs:List Value}{rows:List (List D)}(h:RCs ps sz cs rows){w:World}{S:ba}(hp:∀ p∈ps,p.holds w S):dF w S sz cs rows:=by
 induction h with
 | nil=>exact ⟨by simp,by simp,by simp,by simp⟩
 | @cons us vs r rows hl hr _ ih =>
   obtain ⟨h1,h2,h3⟩:=hr.get
   refine ⟨by simp [ih.len,hl,Nat.add_mul,Nat.add_comm],fun i r' hi => ?_,fun v hv => ?_,fun i j r' d hi hj => ?_⟩
   · cases i with
     | zero=>simp only [List.getElem?_cons_zero,Option.some.injEq] at hi;subst hi;omega
     | succ i=>exact ih.row i r' hi
   · rcases List.mem_append.1 hv with h | h
     · exact h2 v h
     · exact ih.one v h
   · cases i with
     | zero =>
       simp only [List.getElem?_cons_zero,Option.some.injEq] at hi;subst hi
       obtain ⟨u,hu,hd⟩:=h3 j d hj
       refine ⟨u,?_,?_⟩
       · rw [Nat.zero_mul,Nat.zero_add,List.getElem?_append_left (List.getElem?_eq_some_iff.1 hu).1];exact hu
       · rcases hd with rfl | hd
         · exact .v u
         · exact hp _ hd
     | succ i =>
       obtain ⟨u,hu,hr⟩:=ih.rep i j r' d hi hj
       refine ⟨u,?_,hr⟩
       rw [List.getElem?_append_right (by rw [Nat.add_mul];omega),hl,show (i+1)*sz+j-sz=i*sz+j by rw [Nat.add_mul];omega];exact hu
theorem dF.append{w:World}{S:ba}{sz:Nat}{cs cs':List Value}{rows rows':List (List D)}(h:dF w S sz cs rows)(h':dF w S sz cs' rows'):dF w S sz (cs++cs') (rows++rows'):=by
 refine ⟨by simp [h.len,h'.len,Nat.add_mul],fun i r hi => ?_,fun v hv => ?_,fun i j r d hi hj => ?_⟩
 · rw [List.getElem?_append] at hi
   split at hi
   · exact h.row i r hi
   · exact h'.row _ r hi
 · rcases List.mem_append.1 hv with h1 | h1
   · exact h.one v h1
   · exact h'.one v h1
 · rw [List.getElem?_append] at hi
   split at hi
   · obtain ⟨u,hu,hr⟩:=h.rep i j r d hi hj
     exact ⟨u,by rw [List.getElem?_append_left (List.getElem?_eq_some_iff.1 hu).1];exact hu,hr⟩
   · rename_i hge
     obtain ⟨u,hu,hr⟩:=h'.rep _ j r d hi hj
     refine ⟨u,?_,hr⟩
     have e:i*sz=cs.length+(i-rows.length)*sz:=by
       rw [h.len,← Nat.add_mul];congr 1;omega
     rw [e,Nat.add_assoc,List.getElem?_append_right (by omega),Nat.add_sub_cancel_left];exact hu

section
variable {P:Program} {n:Fr} {env:Env} {ps:List Per} {hp:List Res} {ty:TypeId} {pos:String} {af:Array Edge} {gd:Option (Nat × Bool)} {K:Sta→Prop} {d:Option Tmp} {v:Value} {q:Bool}
theorem dQ{x:Operand}{T T' E:TypeId}{sz:Nat}{rows:List (List D)}(i:Nat)(hT:P.underlying T=some (.slice E))(hx:ev env x=some (true,v))(hi:hp[i]? = some (aP v T' sz rows)) :
   Quiet P n ⟨d,.call ⟨.builtin .len,#[x],#[T]⟩,ty,pos,af,gd⟩ ⟨env,ps,hp⟩ (.int .i64 rows.length):=fun w S fp a hst he hn=>by
 have hr:=hst.res i _ hi
 have hl:∃ ad c,v=.slice ad rows.length c:=by
   rcases hr with ⟨rfl,rfl,_⟩ | ⟨b,c,rfl,_⟩
   · exact ⟨none,0,rfl⟩
   · exact ⟨_,_,rfl⟩
 obtain ⟨ad,c,rfl⟩:=hl
 exact bk (P:=P) (n:=n) (s:=⟨env,ps,hp⟩) hT hx w S fp a hst he hn
theorem cV{c:Code}{Q:Exit→Sta→Prop}(T:TypeId)(sz:Nat)(h:awp P n c Q ⟨env,ps,hp++[aP (.slice none 0 0) T sz []]⟩):awp P n c Q ⟨env,ps,hp⟩:=fun w S fp a hst he hn hd=>by
 have h1:=hst.push (Below.refl _ _) (aP (.slice none 0 0) T sz []) (fun _=>False) (.inl ⟨rfl,rfl,fun b h=>h⟩) (fun b h=>h.elim)
 refine ei (fun e a' w' hp'=>eA.trans (Evo.refl _ _ _) (fun b hb => ?_) hp') (h w S _ a h1 he hn hd)
 have hb':tot (fun i=>if i=hp.length then (fun _=>False) else fp i) (hp.length+1) b:=by simpa using hb
 exact (oI hb').elim .inl (fun h=>h.elim)
theorem iT {c:Code} {Q:Exit→Sta→Prop} {T:TypeId} {sz:Nat} {rows:List (List D)} (i:Nat) (hi:hp[i]? = some (aP v T sz rows)) (h:awp P n c Q ⟨env,Sh v (.sl rows)::ps,hp.set i emp⟩):awp P n c Q ⟨env,ps,hp⟩:=fun w S fp a hst he hn hd=>by
 have hil:=(List.getElem?_eq_some_iff.1 hi).1
 have hr:=hst.res i _ hi
 have hst0:=hst.drop i
 have hS:∀ b,S b→(S b∨fp i b):=fun _ h=>.inl h
 have h1 : St w (fun b=>S b∨fp i b) (fun k=>if k=i then (fun _=>False) else fp k) (Sh v (.sl rows)::ps) (hp.set i emp):=by
   refine ⟨fun p hp' => ?_,fun j R hj=>R.mono (hst0.res j R hj) (fun _ _=>rfl) (fun _ _=>rfl) hS,fun j hj b hb => ?_,hst0.dj,fun b hb=>hb.elim (hst.slt b) (fun h=>(hst.lt i hil b h).1)⟩
   · rcases List.mem_cons.1 hp' with rfl | h2
     · rcases hr with ⟨rfl,rfl,_⟩ | ⟨b,cap,rfl,⟨cs,sp,hb,hrows,hl,hle,hcap⟩,hF⟩
       · exact .e none 0 (by unfold maxLen;omega)
       · refine .sl b 0 cap sz rows (fun i j=>cs.getD (i*sz+j) undef) (.inr ((hF b).2 rfl)) hle hcap hrows.row (fun i j r d h1 h2 => ?_) (fun i j r d h1 h2 => ?_)
         · obtain ⟨u,hu,_⟩:=hrows.rep i j r d h1 h2
           have e:cs.getD (i*sz+j) undef=u:=by simp [List.getD,hu]
           rw [e]
           refine ⟨?_,hrows.one u (List.mem_of_getElem? hu)⟩
           rw [Nat.zero_add,dL hb,List.getElem?_append_left (List.getElem?_eq_some_iff.1 hu).1];exact hu
         · obtain ⟨u,hu,hr⟩:=hrows.rep i j r d h1 h2
           have e:cs.getD (i*sz+j) undef=u:=by simp [List.getD,hu]
           rw [e]
           exact hr.mono (fun _ _=>rfl) hS
     · exact p.mono (hst.per p h2) (fun _ _=>rfl) hS
   · have hj':j<hp.length:=by simpa using hj
     by_cases hji:j=i
     · rw [if_pos hji] at hb;exact hb.elim
     · rw [if_neg hji] at hb
       exact ⟨(hst.lt j hj' b hb).1,fun h=>h.elim (hst.lt j hj' b hb).2 (hst.dj j i hj' hil hji b hb)⟩
 refine ei (fun e a' w' hp'=>eA.trans (X:=tot fp hp.length) ⟨rfl,rfl,rfl,Nat.le_refl _,Nat.le_refl _,fun _ _ _=>rfl,hS,fun b hb=>hb.elim .inl (fun h=>.inr (.inl ⟨i,hil,h⟩))⟩ (fun b hb => ?_) hp') (h w _ _ a h1 he hn hd)
 obtain ⟨k,hk,hbk⟩:=hb
 have hk':k<hp.length:=by simpa using hk
 by_cases hki:k=i
 · simp only [hki,if_true] at hbk
 · simp only [if_neg hki] at hbk
   exact .inl ⟨k,hk',hbk⟩
structure kF (P:Program) (s:Sta) (tx:TypeId) (sz:Nat) (x:Value) (rows:List (List D)):Prop where
 src:∀ w S fp,St w S fp s.ps s.hp→∃ news,dF w S sz news rows∧Src P sz tx x rows.length news w
theorem dF.src{w:World}{S:ba}{tx e':TypeId}{sz V o vc:Nat}{cs:List Value}{rows:List (List D)}(h:dF w S sz cs rows)(hk:P.underlying tx=some (.slice e'))(hV:∀ j u,cs[j]? = some u→w.cell? ⟨V,o+j,none⟩=some u) :
   Src P sz tx (.slice (some ⟨V,o,none⟩) rows.length vc) rows.length cs w:=Src.row w tx e' hk sz V o rows.length vc cs h.len hV h.one
theorem aa4{T E':TypeId}{tx:TypeId}{sz:Nat}{x:Value}{rows:List (List D)}(j:Nat)(hk:P.underlying tx=some (.slice E'))(hj:hp[j]? = some (aP x T sz rows))(hne:rows≠[]):kF P ⟨env,ps,hp⟩ tx sz x rows:=⟨fun w S fp hst=>by
 rcases hst.res j _ hj with ⟨_,rfl,_⟩ | ⟨b,cap,rfl,⟨cs,sp,hb,hr,_⟩,_⟩
 · exact absurd rfl hne
 · exact ⟨cs,hr,hr.src hk fun j u hu=>by rw [Nat.zero_add,dL hb,List.getElem?_append_left (List.getElem?_eq_some_iff.1 hu).1];exact hu⟩⟩
theorem ab1{E':TypeId}{tx:TypeId}{sz:Nat}{x:Value}{rows:List (List D)}(hk:P.underlying tx=some (.slice E'))(hs:Sh x (.sl rows)∈ps)(hrl:∀ r∈rows,r.length=sz)(hne:rows≠[]):kF P ⟨env,ps,hp⟩ tx sz x rows:=⟨fun w S fp hst=>by
 have hh:=hst.per _ hs
 cases hh with
 | e a c hc=>exact absurd rfl hne
 | sl b o c sz' _ us hb hn hc hr hcell hd =>
   have hsz:sz'=sz:=by
     cases rows with
     | nil=>exact absurd rfl hne
     | cons r rs=>rw [← hr 0 r rfl];exact hrl r (by simp)
   subst hsz
   have hR:dF w S sz' ((List.range (rows.length*sz')).map fun k=>us (k / sz') (k % sz')) rows:=by
     refine ⟨by simp,hr,fun v hv => ?_,fun i j r d h1 h2 => ?_⟩
     · obtain ⟨k,hk,rfl⟩:=List.mem_map.1 hv
       have hk':=List.mem_range.1 hk
       have h0:0<sz':=by
         rcases Nat.eq_zero_or_pos sz' with h | h
         · rw [h] at hk';simp at hk'
         · exact h
       have hi:k / sz'<rows.length:=(Nat.div_lt_iff_lt_mul h0).2 hk'
       have hrl':=hr (k / sz') rows[k / sz'] (by simp [hi])
       have hj:k % sz'<rows[k / sz'].length:=by rw [hrl'];exact Nat.mod_lt _ h0
       exact (hcell (k / sz') (k % sz') rows[k / sz'] rows[k / sz'][k % sz'] (by simp [hi]) (by simp [hj])).2
     · have hj:j<sz':=by rw [← hr i r h1];exact (List.getElem?_eq_some_iff.1 h2).1
       have hi:=(List.getElem?_eq_some_iff.1 h1).1
       have hlt:i*sz'+j<rows.length*sz':=by
         have:=Nat.mul_le_mul_right sz' (show i+1≤rows.length by omega)
         rw [Nat.add_mul] at this;omega
       refine ⟨us i j,?_,hd i j r d h1 h2⟩
       rw [List.getElem?_map,List.getElem?_range hlt]
       simp only [Option.map_some]
       rw [Nat.mul_comm,Nat.mul_add_div (by omega),Nat.div_eq_of_lt hj,Nat.mul_add_mod,Nat.mod_eq_of_lt hj,Nat.add_zero]
   refine ⟨_,hR,hR.src hk fun k u hu => ?_⟩
   have hk':=(List.getElem?_eq_some_iff.1 hu).1
   simp only [List.length_map,List.length_range] at hk'
   rw [List.getElem?_map,List.getElem?_range hk'] at hu
   simp only [Option.map_some,Option.some.injEq] at hu
   have h0:0<sz':=by
     rcases Nat.eq_zero_or_pos sz' with h | h
     · rw [h] at hk';simp at hk'
     · exact h
   have hi:k / sz'<rows.length:=(Nat.div_lt_iff_lt_mul h0).2 hk'
   have hrl':=hr (k / sz') rows[k / sz'] (by simp [hi])
   have hj:k % sz'<rows[k / sz'].length:=by rw [hrl'];exact Nat.mod_lt _ h0
   have:=(hcell (k / sz') (k % sz') rows[k / sz'] rows[k / sz'][k % sz'] (by simp [hi]) (by simp [hj])).1
   rw [Nat.add_assoc,Nat.mul_comm,Nat.div_add_mod] at this
   rw [this,hu]⟩
theorem yW{t:Nat}{x y:Operand}{T tx E:TypeId}{it:TypeInfo}{sz:Nat}{vy:Value}{rows rows2:List (List D)}(i:Nat)(hT:P.underlying T=some (.slice E))(hin:P.info? E=some it)(hiz:(it.zero.map fun z=>z.cells.size)=some it.size)(hsz:it.size=sz)(hby:it.bytes≤4096)
   (hx:ev env x=some (true,v)) (hy:ev env y=some (true,vy)) (ht:fits n (some t)=true) (hi:hp[i]? = some (aP v E sz rows)) (hs:kF P ⟨env,ps,hp⟩ tx sz vy rows2) (h0:rows2≠[]) (hle:rows.length+rows2.length≤1000000000)
   (m:Nat) (hm:rows.length+rows2.length=m) (hK:∀ ad c,K ⟨(t,true,.slice ad m c)::env,ps,hp.set i (aP (.slice ad m c) E sz (rows++rows2))⟩) :
   Eff P n ⟨some t,.call ⟨.builtin .append,#[x,y],#[T,tx]⟩,ty,pos,af,gd⟩ ⟨env,ps,hp⟩ false K:=fun w S fp a hst he hn=>by
 subst hm
 have e1:=he.val hx rfl
 have e2:=he.val hy rfl
 have hil:=(List.getElem?_eq_some_iff.1 hi).1
 obtain ⟨news,hnews,hsrc⟩:=hs.src w S fp hst
 obtain ⟨z,hz,hzs⟩:∃ z,it.zero=some z∧z.cells.size=it.size:=by
   cases hz:it.zero with
   | none=>rw [hz] at hiz;cases hiz
   | some z=>rw [hz] at hiz;exact ⟨z,rfl,by simpa using hiz⟩
 have hk0:0<rows2.length:=by cases rows2 with
   | nil=>exact absurd rfl h0
   | cons=>simp
 subst hsz
 have hexec:execOp a.eval ⟨some t,.call ⟨.builtin .append,#[x,y],#[T,tx]⟩,ty,pos,af,gd⟩=(Builtin.append_ #[T,tx] ty (#[x,y].map a.eval)).bind fun r=>Sem.pure (Next.value r):=rfl
 have hargs : #[x,y].map a.eval = #[v,vy]:=by simp [e1,e2]
 rw [hexec,hargs,Sem.run_bind']
 have fin:∀ (b C:Nat) (w1:World) (cur:List Value),(Builtin.append_ #[T,tx] ty #[v,vy]).run P w=.ok (.slice (some ⟨b,0,none⟩) (rows.length+rows2.length) C) w1→w.heap.size≤w1.heap.size →
     (∀ b',b'<w.heap.size→¬ fp i b'→w1.heap[b']? = w.heap[b']?)→w1.os=w.os→w1.tape=w.tape→w1.output=w.output→w1.heap[b]? = some (.cells cur.toArray E (0,0))→(fp i b∨w.heap.size≤b) →
     (∃ cs,dF w S it.size cs rows∧cur.take ((rows.length+rows2.length)*it.size)=cs++news)→cur.length=C*it.size→rows.length+rows2.length≤C→C≤maxLen →
     fB P (fun u w'=>∃ s' S' fp',K s'∧St w' S' fp' s'.ps s'.hp∧cG (a.put (some t) u) s'.env∧Evo w S (tot fp hp.length) w' S'∧(∀ b,tot fp' s'.hp.length b→tot fp hp.length b∨w.heap.size≤b)∧(false=true→Below w.heap.size w w'))
       (((Builtin.append_ #[T,tx] ty #[v,vy]).run P w).andThen fun r w'=>(Sem.pure (Next.value r)).run P w'):=by
   intro b C w1 cur hrun hsz1 hw1 o1 o2 o3 hb hbF ⟨cs,hcs,htake⟩ hlen hC hCm
   rw [hrun]
   have hlt:b<w1.heap.size:=(Array.getElem?_eq_some_iff.1 hb).1
   have hR:(aP (.slice (some ⟨b,0,none⟩) (rows.length+rows2.length) C) E it.size (rows++rows2)).holds w1 S (fun k=>k=b):=by
     refine .inr ⟨b,C,by simp,⟨cs++news,cur.drop ((rows.length+rows2.length)*it.size),?_,?_,?_,by simpa using hC,hCm⟩,fun _=>Iff.rfl⟩
     · rw [← htake,List.take_append_drop];exact hb
     · refine (hcs.append hnews).mono (fun b' hb'=>hw1 b' (hst.slt b' hb') (fun hf=>(hst.lt i hil b' hf).2 hb')) (fun _ h=>h)
     · rw [← htake,List.take_append_drop];exact hlen
   have hst':=hst.change2 hil hsz1 hw1 _ (fun k=>k=b) hR (fun k hk=>by subst hk;exact ⟨hbF,hlt⟩)
   refine ⟨_,S,_,hK _ _,hst',he.put (g:=true) (by rw [hn];simpa [fits] using ht) _,⟨o1,o2,o3,hsz1,p7 _ _ _ _ hrun,fun b' hb' hx'=>hw1 b' hb' (fun hf=>hx' ⟨i,hil,hf⟩),fun _ h=>h,fun _ h=>.inl h⟩,fun b' ⟨k,hk,hbk⟩ => ?_,fun h=>by cases h⟩
   have hk':k<hp.length:=by simpa using hk
   dsimp only at hbk
   by_cases hki:k=i
   · rw [if_pos hki] at hbk
     subst hbk
     exact hbF.imp (fun h=>⟨i,hil,h⟩) id
   · rw [if_neg hki] at hbk;exact .inl ⟨k,hk',hbk⟩
 rcases hst.res i _ hi with ⟨hv,hr0,_⟩ | ⟨B,c,hv,⟨cs,sp,hB,hrows,hl,hc,hcm⟩,hF⟩
 · subst hv;subst hr0
   obtain ⟨C,w1,h1,h2,hrun,⟨cur1,g1,g2,g3⟩,g4,g5⟩:=lH (P:=P) w T tx ty E it z hT hin hz hzs none 0 0 rows2.length [] (by simp [Builtin.firstCells]) (by simp) vy news hsrc (by omega) (by simpa using hle) hby
   have hrun':(Builtin.append_ #[T,tx] ty #[.slice none 0 0,vy]).run P w=.ok (.slice (some ⟨w.heap.size,0,none⟩) (([]:List (List D)).length+rows2.length) C) w1:=by rw [hrun];rfl
   exact fin w.heap.size C w1 cur1 hrun' g5.size (fun b' hb' _=>g5.block b' hb') g5.os g5.tape g5.output g1 (.inr (Nat.le_refl _)) ⟨[],⟨by simp,by simp,by simp,by simp⟩,by simpa using g3⟩ g2 (by simpa using h1) h2
 · subst hv
   by_cases hroom:rows.length+rows2.length≤c
   · have hfit:0+rows.length*it.size+news.length≤(cs++sp).toArray.size:=by
       have h1:=hsrc.newsLen
       have:=Nat.mul_le_mul_right it.size hroom
       rw [Nat.add_mul] at this
       simp only [List.size_toArray,hl];omega
     have hrun:=rE (P:=P) w T tx ty E it hT hin B 0 rows.length c vy rows2.length news hsrc hroom (cs++sp).toArray E hB hfit
     have hlen:(splice (cs++sp) (0+rows.length*it.size) news).length=c*it.size:=by
       unfold splice
       have h1:=hsrc.newsLen
       have:=Nat.mul_le_mul_right it.size hroom
       rw [Nat.add_mul] at this
       simp only [List.length_append,List.length_take,List.length_drop] at hl ⊢
       omega
     refine fin B c _ _ hrun (by simp [World.setRow]) (fun b' hb' hne=>setRow_other _ _ _ _ (fun h=>hne ((hF b').2 h))) rfl rfl rfl (setRow_heap _ _ _ _ _ _ hB) (.inl ((hF B).2 rfl)) ⟨cs,hrows,?_⟩ hlen hroom hcm
     have hcl:=hrows.len
     unfold splice
     rw [Nat.zero_add,Nat.add_mul,← hcl,List.take_append_of_le_length (Nat.le_refl _),List.take_length,← hsrc.newsLen,← List.append_assoc,← List.length_append,List.take_append_of_le_length (Nat.le_refl _),List.take_length]
   · have hfc:=jM (P:=P) w.drew B 0 it.size rows.length c (cs++sp) E (0,0) hB (by rw [hl,Nat.zero_add];exact Nat.mul_le_mul_right _ hc)
     obtain ⟨C,w1,h1,h2,hrun,⟨cur1,g1,g2,g3⟩,g4,g5⟩:=lH (P:=P) w T tx ty E it z hT hin hz hzs (some ⟨B,0,none⟩) rows.length c rows2.length cs (by
       rw [hfc]
       congr 2
       rw [List.drop_zero,← hrows.len,List.take_append_of_le_length (Nat.le_refl _),List.take_length]) hrows.len vy news hsrc (by omega) hle hby
     exact fin w.heap.size C w1 cur1 hrun g5.size (fun b' hb' _=>g5.block b' hb') g5.os g5.tape g5.output g1 (.inr (Nat.le_refl _)) ⟨cs,hrows,g3⟩ g2 h1 h2
end
end Go.Sy

