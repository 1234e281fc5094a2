/- Parts of the proof, in build order. No condition. -/
import Derived.Test.YtebnelfdimiifaaGreatDoorSa06
import Derived.MapKept
import Derived.Test.YtebnelfdimiifaaGreatDoorSa04
import Derived.Laws.StructEq
import Derived.Laws.Small
import Derived.ChangeKeysEq
import Derived.DeepKeys3
import Derived.Test.YtebnelfdimiifaaGreatDoorSa05
import Derived.Sort.Walk0
import Derived.Maps.Range
set_option linter.unusedSimpArgs false
set_option linter.unusedVariables false
set_option maxHeartbeats 1000000
set_option maxRecDepth 20000
namespace Go.Lp
open Go.RowKit Go.Proofs.YtebnelfdimiifaaGreatDoor
def ofBytes(l:List UInt8):ByteArray:=⟨l.toArray⟩
end Go.Lp

namespace Go.Sy
open Go.RowKit Go.Lp Go.MapKept
structure iw {α:Type} (P:Program) (kt:TypeId) (κ:α→Value):Prop where
 inj:∀ a b,κ a=κ b→a=b
 check:∀ (w:World) (em:Bool) (a:α),(Instr.checkKey em 10000 kt (κ a)).run P w=.ok () w
 find:∀ (w:World) (x:α) (es:List MapEntry),(∀ e∈es,∃ a,e.key=κ a) →
   ((Instr.findKey kt (κ x) es).run P w=.ok none w∧∀ e∈es,e.key≠κ x)∨∃ j e,(Instr.findKey kt (κ x) es).run P w=.ok (some (j,e.val)) w∧es[j]? = some e∧e.key=κ x
 stays:∀ (w:World) (a:α),(Instr.keyThatStays (κ a) (κ a)).run P w=.ok (κ a) w
theorem ph{α:Type}{P:Program}{kt:TypeId}{d:TypeDesc}{κ:α→Value}(hd:P.underlying kt=some d)(hk:∀ a,IsKey d (κ a))(inj:∀ a b,κ a=κ b→a=b):iw P kt κ where
 inj:=inj
 check w em a:=run_checkKey hd (hk a) em 9999
 find w x es hes:=by
   rcases findNow_spec (hk x) es 0 (fun e he=>by obtain ⟨a,ha⟩:=hes e he;rw [ha];exact hk a) with ⟨h1,h2⟩ | ⟨j,e,h1,h2,h3⟩
   · exact .inl ⟨run_findKey hd h1,h2⟩
   · exact .inr ⟨j,e,by rw [Nat.zero_add] at h1;exact run_findKey hd h1,h2,h3⟩
 stays w a:=run_keyThatStays (hk a)
theorem af2{P:Program}{kt:TypeId}(hd:P.underlying kt=some .string):iw P kt (fun s:ByteArray=>Value.string s):=ph hd (fun _=>trivial) (fun _ _ h=>by injection h)
theorem af1{P:Program}{kt:TypeId}(hd:P.underlying kt=some (.int .i64)):iw P kt (fun z:Int=>Value.int .i64 z):=ph hd (fun _=>rfl) (fun _ _ h=>by injection h)
section
variable {α β:Type}
structure vi (κ:α→Value) (ν:β→Value) (m:α→Option β) (es:List MapEntry):Prop where
 of:∀ e∈es,∃ a v,e.key=κ a∧e.val=ν v∧m a=some v
 mem:∀ a v,m a=some v→∃ e∈es,e.key=κ a∧e.val=ν v
 apart:es.Pairwise fun e e'=>e.key≠e'.key
def fy(b:Nat)(κ:α→Value)(ν:β→Value)(m:α→Option β):Res :=
 ⟨fun w _ F=>(∃ es clock,w.heap[b]? = some (.map es clock)∧vi κ ν m es.toList∧Stamped es clock)∧∀ k,F k↔k=b,fun ⟨⟨es,clock,h,he⟩,hF⟩ h1 _ _=>⟨⟨es,clock,(h1 b ((hF b).2 rfl)).trans h,he⟩,hF⟩⟩
def iq[DecidableEq α](m:α→Option β)(k:α)(v:β):α→Option β:=fun a=>if a=k then some v else m a
variable {κ:α→Value} {ν:β→Value} {m:α→Option β} {P:Program} {kt:TypeId}
theorem vi.put[DecidableEq α](K:iw P kt κ){es:Array MapEntry}(h:vi κ ν m es.toList)(k:α)(v:β){clock:Nat}(h0:∀ e∈es.toList,e.key≠κ k):vi κ ν (iq m k v) (es.push { key:=κ k,val:=ν v,born:=clock }).toList where
 of e he:=by
   rw [Array.toList_push,List.mem_append,List.mem_singleton] at he
   rcases he with he | rfl
   · obtain ⟨a,u,h1,h2,h3⟩:=h.of e he
     refine ⟨a,u,h1,h2,?_⟩
     have:a≠k:=fun e'=>h0 e he (by rw [h1,e'])
     simp [iq,this,h3]
   · exact ⟨k,v,rfl,rfl,by simp [iq]⟩
 mem a u ha:=by
   unfold iq at ha
   split at ha
   · rename_i hak
     simp only [Option.some.injEq] at ha
     subst hak ha
     exact ⟨_,by rw [Array.toList_push];exact List.mem_append_right _ (List.mem_singleton.2 rfl),rfl,rfl⟩
   · obtain ⟨e,he,h1,h2⟩:=h.mem a u ha
     exact ⟨e,by rw [Array.toList_push];exact List.mem_append_left _ he,h1,h2⟩
 apart:=by
   rw [Array.toList_push,List.pairwise_append]
   exact ⟨h.apart,List.pairwise_singleton _ _,fun e he e' he'=>by rw [List.mem_singleton.1 he'];exact h0 e he⟩
theorem vi.turn[DecidableEq α](K:iw P kt κ){es:Array MapEntry}(h:vi κ ν m es.toList)(k:α)(v:β){j:Nat}{e0:MapEntry}(hj:es.toList[j]? = some e0)(h0:e0.key=κ k) :
   vi κ ν (iq m k v) (es.modify j fun e => { e with key:=κ k,val:=ν v }).toList:=by
 have hjl:j<es.toList.length:=(List.getElem?_eq_some_iff.1 hj).1
 have hg:∀ i,(es.modify j fun e => { e with key:=κ k,val:=ν v }).toList[i]? = if i=j then some { e0 with key:=κ k,val:=ν v } else es.toList[i]? := fun i=>by
   rw [Array.getElem?_toList,Array.getElem?_modify]
   by_cases hij:i=j
   · subst hij
     rw [if_pos rfl,if_pos rfl,← Array.getElem?_toList,hj];rfl
   · rw [if_neg hij,if_neg (Ne.symm hij),Array.getElem?_toList]
 have hpw:=List.pairwise_iff_getElem.1 h.apart
 have hne:∀ i e,es.toList[i]? = some e→i≠j→e.key≠κ k:=fun i e hi hij hk=>by
   obtain ⟨hil,rfl⟩:=List.getElem?_eq_some_iff.1 hi
   obtain ⟨_,rfl⟩:=List.getElem?_eq_some_iff.1 hj
   rcases Nat.lt_or_gt_of_ne hij with hlt | hlt
   · exact hpw i j hil hjl hlt (by rw [hk,h0])
   · exact hpw j i hjl hil hlt (by rw [hk,h0])
 refine ⟨fun e he => ?_,fun a u ha => ?_,?_⟩
 · obtain ⟨i,hi⟩:=List.mem_iff_getElem?.1 he
   rw [hg] at hi
   split at hi
   · simp only [Option.some.injEq] at hi
     subst hi
     exact ⟨k,v,rfl,rfl,by simp [iq]⟩
   · rename_i hij
     obtain ⟨a,u,h1,h2,h3⟩:=h.of e (List.mem_of_getElem? hi)
     refine ⟨a,u,h1,h2,?_⟩
     have:a≠k:=fun e'=>hne i e hi hij (by rw [h1,e'])
     simp [iq,this,h3]
 · unfold iq at ha
   split at ha
   · rename_i hak
     simp only [Option.some.injEq] at ha
     subst hak ha
     exact ⟨_,List.mem_of_getElem? (by rw [hg,if_pos rfl]),rfl,rfl⟩
   · rename_i hak
     obtain ⟨e,he,h1,h2⟩:=h.mem a u ha
     obtain ⟨i,hi⟩:=List.mem_iff_getElem?.1 he
     have hij:i≠j:=fun hij=>by
       rw [hij,hj] at hi
       simp only [Option.some.injEq] at hi
       subst hi
       exact hak (K.inj _ _ (by rw [← h1,h0]))
     exact ⟨e,List.mem_of_getElem? (i:=i) (by rw [hg,if_neg hij,hi]),h1,h2⟩
 · rw [List.pairwise_iff_getElem]
   intro i i' hi hi' hlt
   have l1:=List.getElem?_eq_getElem hi
   have l2:=List.getElem?_eq_getElem hi'
   rw [hg] at l1 l2
   split at l1
   · rename_i hij
     rw [if_neg (by omega)] at l2
     simp only [Option.some.injEq] at l1
     rw [← l1]
     exact fun e=>hne i' _ l2 (by omega) e.symm
   · rename_i hij
     split at l2
     · simp only [Option.some.injEq] at l2
       rw [← l2]
       exact hne i _ l1 hij
     · obtain ⟨q1,e1⟩:=List.getElem?_eq_some_iff.1 l1
       obtain ⟨q2,e2⟩:=List.getElem?_eq_some_iff.1 l2
       rw [← e1,← e2]
       exact hpw i i' q1 q2 hlt
variable {n:Fr} {env:Env} {ps:List Per} {hp:List Res} {ty:TypeId} {pos:String} {af:Array Edge} {gd:Option (Nat × Bool)} {K:Sta→Prop} {d:Option Tmp} {q:Bool}
theorem gi{t:Nat}{T:TypeId}(κ:α→Value)(ν:β→Value)(ht:fits n (some t)=true)(hK:∀ b,K ⟨(t,true,.map (some b))::env,ps,hp++[fy b κ ν fun _=>none]⟩) :
   Eff P n ⟨some t,.makeMap T none,ty,pos,af,gd⟩ ⟨env,ps,hp⟩ q K:=.push fun w S fp a hst he hn=>by
 have:(execOp a.eval ⟨some t,.makeMap T none,ty,pos,af,gd⟩).run P w=.ok (.value (.map (some w.heap.size))) (w.alloc (.map #[] 0)):=by
   show ((Instr.makeMap T none).bind fun r=>Sem.pure (Next.value r)).run P w=_
   rw [Sem.run_bind']
   have:(Instr.makeMap T none).run P w=.ok (.map (some w.heap.size)) (w.alloc (.map #[] 0)):=by
     simp [Instr.makeMap,Sem.run_bind,Result.andThen,newObj,Sem.run]
   rw [this];rfl
 rw [this]
 refine ⟨fy w.heap.size κ ν fun _=>none,fun b=>b=w.heap.size,_,hK w.heap.size,rfl,rfl,he.put (g:=true) (by rw [hn];simpa [fits] using ht) _,gE _ _,⟨⟨#[],0,rr _ _,⟨fun e he=>(by simp at he),fun a v h=>(by cases h),List.Pairwise.nil⟩,stamped_empty 0⟩,fun _=>Iff.rfl⟩,fun b hb => ?_⟩
 subst hb
 exact ⟨Nat.le_refl _,by rw [World.size_alloc];omega⟩
theorem fe[DecidableEq α]{T E:TypeId}{x y z:Operand}{b:Nat}{k:α}{v:β}(i:Nat)(hT:P.underlying T=some (.map kt E))(KO:iw P kt κ)(hx:ev env x=some (true,.map (some b)))(hy:ev env y=some (true,κ k))(hz:ev env z=some (true,ν v))(hi:hp[i]? = some (fy b κ ν m))
   (hK:K ⟨env,ps,hp.set i (fy b κ ν (iq m k v))⟩):Eff P n ⟨none,.mapUpdate T x y z,ty,pos,af,gd⟩ ⟨env,ps,hp⟩ false K:=.change i hi fun w S fp a hst he hn ⟨⟨es,clock,hb,hes,hsm⟩,hF⟩=>by
 have h1:=he.val hx rfl
 have h2:=he.val hy rfl
 have h3:=he.val hz rfl
 have key:∃ es' clock',(Instr.mapUpdate T (.map (some b)) (κ k) (ν v)).run P w=.ok () (w.putObj b (.map es' clock'))∧vi κ ν (iq m k v) es'.toList∧Stamped es' clock':=by
   rcases KO.find w k es.toList (fun e he=>let ⟨a,_,h,_⟩:=hes.of e he; ⟨a,h⟩) with ⟨f1,f2⟩ | ⟨j,e0,f1,f2,f3⟩
   · refine ⟨es.push { key:=κ k,val:=ν v,born:=clock },clock+1,?_,hes.put KO k v f2,stamped_push hsm f2⟩
     simp only [Instr.mapUpdate,Sem.run_bind,run_underlying hT,Result.andThen,Go.MapKept.run_getObj_map hb,KO.check,f1,Go.MapKept.run_setObj_map _ hb]
     rfl
   · refine ⟨es.modify j fun e => { e with key:=κ k,val:=ν v },clock,?_,hes.turn KO k v f2 f3,stamped_modify hsm j _ (fun _ _=>rfl) (fun e he h=>by rw [← Array.getElem?_toList,f2] at h;obtain rfl:=Option.some.inj h;exact f3.symm)⟩
     have f2':es[j]? = some e0:=by rw [← Array.getElem?_toList];exact f2
     simp only [Instr.mapUpdate,Sem.run_bind,run_underlying hT,Result.andThen,Go.MapKept.run_getObj_map hb,KO.check,f1,f2',Option.map_some,Option.getD_some,f3,KO.stays,Go.MapKept.run_setObj_map _ hb]
     rfl
 obtain ⟨es',clock',hrun,hes'⟩:=key
 have:(execOp a.eval ⟨none,.mapUpdate T x y z,ty,pos,af,gd⟩).run P w=.ok .skip (w.putObj b (.map es' clock')):=by
   unfold execOp;dsimp only;rw [h1,h2,h3]
   show ((Instr.mapUpdate T (.map (some b)) (κ k) (ν v)).bind fun _=>Sem.pure Next.skip).run P w=_
   rw [Sem.run_bind',hrun];rfl
 rw [this]
 have hbl:=(Array.getElem?_eq_some_iff.1 hb).1
 exact ⟨fy b κ ν (iq m k v),_,hK,rfl,rfl,he,⟨⟨es',clock',World.putObj_heap_same hbl,hes'⟩,hF⟩,rfl,rfl,⟨rfl,rfl⟩,by rw [World.putObj_size];exact Nat.le_refl _,fun b' _ hb'=>World.putObj_heap_other (fun e=>hb' ((hF b').2 e))⟩
theorem xj{T E:TypeId}{x y:Operand}{b:Nat}{k:α}{v0:β}(i:Nat)(ok:Bool)(hT:P.underlying T=some (.map kt E))(KO:iw P kt κ)(hz:(P.info? E).bind (·.zero)=some (ν v0))(hx:ev env x=some (true,.map (some b)))(hy:ev env y=some (true,κ k))(hi:hp[i]? = some (fy b κ ν m)) :
   Quiet P n ⟨d,.lookup T x y ok,ty,pos,af,gd⟩ ⟨env,ps,hp⟩ (bif ok then .tuple #[ν ((m k).getD v0),.bool (m k).isSome] else ν ((m k).getD v0)):=fun w S fp a hst he hn=>by
 have h1:=he.val hx rfl
 have h2:=he.val hy rfl
 obtain ⟨⟨es,clock,hb,hes,_⟩,hF⟩:=hst.res i _ hi
 have hzr:(zeroValue E).run P w=.ok (ν v0) w:=by
   cases hE:P.info? E with
   | none=>rw [hE] at hz;cases hz
   | some it =>
     rw [hE,Option.bind_some] at hz
     simp [zeroValue,typeInfo,hE,hz]
 have hrun:(Instr.lookup T (.map (some b)) (κ k) ok).run P w=.ok (bif ok then .tuple #[ν ((m k).getD v0),.bool (m k).isSome] else ν ((m k).getD v0)) w:=by
   rcases KO.find w k es.toList (fun e he=>let ⟨a,_,h,_⟩:=hes.of e he; ⟨a,h⟩) with ⟨f1,f2⟩ | ⟨j,e0,f1,f2,f3⟩
   · have hm:m k=none:=by
       cases hmk:m k with
       | none=>rfl
       | some u=>obtain ⟨e,he,g1,_⟩:=hes.mem k u hmk;exact (f2 e he g1).elim
     rw [hm]
     simp only [Instr.lookup,Sem.run_bind,run_underlying hT,Result.andThen,Go.MapKept.run_getObj_map hb,KO.check,f1,hzr,Sem.run_pure]
     cases ok<;>rfl
   · obtain ⟨a,u,g1,g2,g3⟩:=hes.of e0 (List.mem_of_getElem? f2)
     obtain rfl:a=k:=KO.inj _ _ (by rw [← g1,f3])
     rw [g3]
     simp only [Instr.lookup,Sem.run_bind,run_underlying hT,Result.andThen,Go.MapKept.run_getObj_map hb,KO.check,f1,Sem.run_pure,g2]
     cases ok<;>rfl
 have:(execOp a.eval ⟨d,.lookup T x y ok,ty,pos,af,gd⟩).run P w=.ok (.value (bif ok then .tuple #[ν ((m k).getD v0),.bool (m k).isSome] else ν ((m k).getD v0))) w:=by
   unfold execOp;dsimp only;rw [h1,h2]
   show ((Instr.lookup T (.map (some b)) (κ k) ok).bind fun r=>Sem.pure (Next.value r)).run P w=_
   rw [Sem.run_bind',hrun];rfl
 rw [this];exact cg _ _
theorem mz{T E:TypeId}{x y:Operand}{b:Nat}{k:α}{v0:β}(i:Nat)(hT:P.underlying T=some (.map kt E))(KO:iw P kt κ)(hz:(P.info? E).bind (·.zero)=some (ν v0))(hx:ev env x=some (true,.map (some b)))(hy:ev env y=some (true,κ k))(hi:hp[i]? = some (fy b κ ν m)) :
   Quiet P n ⟨d,.lookup T x y false,ty,pos,af,gd⟩ ⟨env,ps,hp⟩ (ν ((m k).getD v0)):=xj i false hT KO hz hx hy hi
theorem xi{T E:TypeId}{x y:Operand}{b:Nat}{k:α}{v0:β}(i:Nat)(hT:P.underlying T=some (.map kt E))(KO:iw P kt κ)(hz:(P.info? E).bind (·.zero)=some (ν v0))(hx:ev env x=some (true,.map (some b)))(hy:ev env y=some (true,κ k))(hi:hp[i]? = some (fy b κ ν m)) :
   Quiet P n ⟨d,.lookup T x y true,ty,pos,af,gd⟩ ⟨env,ps,hp⟩ (.tuple #[ν ((m k).getD v0),.bool (m k).isSome]):=xj i true hT KO hz hx hy hi
end
end Go.Sy

namespace Go.Sy
open Go.RowKit
section
variable {P:Program} {n:Fr} {s:Sta} {d:Option Tmp} {ty:TypeId} {pos:String} {af:Array Edge} {gd:Option (Nat × Bool)} {x y:Operand} {t t':TypeId}
theorem ze{b1 b2:Bool}(hT:P.underlying t=some .bool)(hx:ev s.env x=some (true,.bool b1))(hy:ev s.env y=some (true,.bool b2)):Quiet P n ⟨d,.binOp .eql t x y t',ty,pos,af,gd⟩ s (.bool (b1 == b2)) :=
 .run2 hx hy fun ρ w h1 h2=>by
   unfold execOp;dsimp only;rw [h1,h2]
   simp only [eqGuard_at_bool,binOp,Sem.run_bind,Sem.run_pure,run_equal_bool w t b1 b2 hT,Result.andThen_ok]
theorem tH{k yk:IntKind}{a b:Int}(hx:ev s.env x=some (true,.int k a))(hy:ev s.env y=some (true,.int yk b))(hb:0≤b):Quiet P n ⟨d,.binOp .shl t x y t',ty,pos,af,gd⟩ s (.int k (k.wrap (a*2 ^ min b.toNat k.bits))) :=
 .run2 hx hy fun ρ w h1 h2=>by
   have e:Op.shift .shl k a yk b=pure (.int k (k.wrap (a*2 ^ min b.toNat k.bits))):=by unfold Op.shift;rw [if_neg (by omega)]
   unfold execOp;dsimp only;rw [h1,h2]
   have e2:(do eqGuard BinOp.shl t x y (Value.int k a) (Value.int yk b);binOp BinOp.shl t (Value.int k a) (Value.int yk b))=Op.shift .shl k a yk b:=by cases k<;>cases yk<;>rfl
   rw [e2,e];rfl
theorem xk{k yk:IntKind}{a b:Int}(hx:ev s.env x=some (true,.int k a))(hy:ev s.env y=some (true,.int yk b))(hb:0≤b):Quiet P n ⟨d,.binOp .shr t x y t',ty,pos,af,gd⟩ s (.int k (a.fdiv (2 ^ min b.toNat k.bits))) :=
 .run2 hx hy fun ρ w h1 h2=>by
   have e:Op.shift .shr k a yk b=pure (.int k (a.fdiv (2 ^ min b.toNat k.bits))):=by unfold Op.shift;rw [if_neg (by omega)]
   unfold execOp;dsimp only;rw [h1,h2]
   have e2:(do eqGuard BinOp.shr t x y (Value.int k a) (Value.int yk b);binOp BinOp.shr t (Value.int k a) (Value.int yk b))=Op.shift .shr k a yk b:=by cases k<;>cases yk<;>rfl
   rw [e2,e];rfl
theorem tG{k:IntKind}{a b:Int}(hx:ev s.env x=some (true,.int k a))(hy:ev s.env y=some (true,.int k b)):Quiet P n ⟨d,.binOp .or t x y t',ty,pos,af,gd⟩ s (.int k (k.wrap (BitVec.ofInt k.bits a ||| BitVec.ofInt k.bits b).toNat)) :=
 .run2 hx hy fun ρ w h1 h2=>by
   unfold execOp;dsimp only;rw [h1,h2];cases k<;>rfl
theorem uQ{k:IntKind}{a b:Int}(hx:ev s.env x=some (true,.int k a))(hy:ev s.env y=some (true,.int k b)):Quiet P n ⟨d,.binOp .and t x y t',ty,pos,af,gd⟩ s (.int k (k.wrap (BitVec.ofInt k.bits a &&& BitVec.ofInt k.bits b).toNat)) :=
 .run2 hx hy fun ρ w h1 h2=>by
   unfold execOp;dsimp only;rw [h1,h2];cases k<;>rfl
end
end Go.Sy

namespace Go.Sy
open Go.RowKit Go.Lp Go.MapKept
section
variable {P:Program}
def dM(k:ByteArray × ByteArray):Value:=.agg #[.string k.1,.string k.2]
theorem tp(a b:ByteArray × ByteArray)(h:dM a=dM b):a=b:=by
 unfold dM at h
 injection h with h
 simp at h
 exact Prod.ext h.1 h.2
theorem pg(d:Nat)(t:TypeId)(a b:ByteArray)(w:World)(h:P.underlying t=some .string):(Op.equalIn (d+1) t (.string a) (.string b)).run P w=.ok (decide (a=b)) w:=by
 have:(a == b)=decide (a=b):=by rw [Bool.eq_iff_iff,bytes_beq,decide_eq_true_eq]
 simp [Op.equalIn,run_underlying h,this]
theorem nu{e:TypeId}(he:P.underlying e=some .string){xs:Array Value}{off:Nat}{v:Value}(hx:xs[off]? = some v)(w:World):(part e xs off).run P w=.ok v w :=
 run_part_plain w (by unfold Program.plainKey;rw [he]) hx
theorem abQ{kt:TypeId}(hwide:(match P.underlying kt with | some (.array _ _) | some (.struct _)=>true | _=>false)=true)(heq:∀ (w:World) (a b:ByteArray × ByteArray),(Op.equal kt (dM a) (dM b)).run P w=.ok (decide (a=b)) w)(w:World)(x:ByteArray × ByteArray)(es:List MapEntry)(hes:∀ e∈es,∃ a,e.key=dM a) :
   ((Instr.findKey kt (dM x) es).run P w=.ok none w∧∀ e∈es,e.key≠dM x)∨∃ j e,(Instr.findKey kt (dM x) es).run P w=.ok (some (j,e.val)) w∧es[j]? = some e∧e.key=dM x:=by
 have key:∀ (es:List MapEntry) (i:Nat),(∀ e∈es,∃ a,e.key=dM a) →
     ((Instr.findAsking kt (dM x) es i).run P w=.ok none w∧∀ e∈es,e.key≠dM x)∨∃ j e,(Instr.findAsking kt (dM x) es i).run P w=.ok (some (i+j,e.val)) w∧es[j]? = some e∧e.key=dM x:=by
   intro es
   induction es with
   | nil=>intro i _;exact .inl ⟨by simp [Instr.findAsking],fun e he=>by cases he⟩
   | cons e es ih =>
     intro i hall
     obtain ⟨a,ha⟩:=hall e List.mem_cons_self
     have hr:=heq w x a
     by_cases hxa:x=a
     · refine .inr ⟨0,e,?_,rfl,by rw [ha,hxa]⟩
       rw [decide_eq_true hxa] at hr
       simp [Instr.findAsking,ha,hr]
     · rw [decide_eq_false hxa] at hr
       rcases ih (i+1) (fun y hy=>hall y (List.mem_cons_of_mem _ hy)) with ⟨h1,h2⟩ | ⟨j,e',h1,h2,h3⟩
       · refine .inl ⟨by simp [Instr.findAsking,ha,hr,h1],fun y hy => ?_⟩
         rcases List.mem_cons.1 hy with rfl | hy
         · rw [ha];exact fun hh=>hxa (tp _ _ hh).symm
         · exact h2 y hy
       · exact .inr ⟨j+1,e',by simp [Instr.findAsking,ha,hr,h1,Nat.add_assoc,Nat.add_comm 1 j],by simpa using h2,h3⟩
 rw [run_findKey_eq w hwide]
 rcases key es 0 hes with h | ⟨j,e,h1,h2,h3⟩
 · exact .inl h
 · exact .inr ⟨j,e,by simpa using h1,h2,h3⟩
theorem yZ(w:World)(a:ByteArray × ByteArray):(Instr.keyThatStays (dM a) (dM a)).run P w=.ok (dM a) w:=by
 have:Instr.sameBits 10000 (dM a) (dM a)=true:=by simp [dM,Instr.sameBits,bytes_beq]
 simp [Instr.keyThatStays,this]
theorem aaM(em:Bool)(m:Nat){e:TypeId}(he:P.underlying e=some .string)(v:ByteArray)(w:World):(Instr.checkKey em (m+1) e (.string v)).run P w=.ok () w:=by simp [Instr.checkKey,run_underlying he]
theorem wY{kt e:TypeId}{i:TypeInfo}(hu:P.underlying kt=some (.array 2 e))(hi:P.info? e=some i)(hc:P.cellsOf e=1)(he:P.underlying e=some .string)(w:World)(em:Bool)(m:Nat)(a:ByteArray × ByteArray):(Instr.checkKey em (m+1+1) kt (dM a)).run P w=.ok () w:=by
 have h1:(part e #[Value.string a.1,Value.string a.2] 0).run P w=.ok (.string a.1) w:=nu he rfl w
 have h2:(part e #[Value.string a.1,Value.string a.2] 1).run P w=.ok (.string a.2) w:=nu he rfl w
 unfold dM Instr.checkKey
 simp only [Sem.run_bind,run_underlying hu,Result.andThen_ok]
 simp only [Std.Legacy.Range.forIn_eq_forIn_range',Std.Legacy.Range.size]
 simp [List.range',run_sizeOf w hi,hc,h1,h2,aaM em m he]
theorem adK{kt e:TypeId}{i:TypeInfo}(hu:P.underlying kt=some (.array 2 e))(hi:P.info? e=some i)(hc:P.cellsOf e=1)(he:P.underlying e=some .string)(w:World)(m:Nat)(a b:ByteArray × ByteArray):(Op.equalIn (m+1+1) kt (dM a) (dM b)).run P w=.ok (decide (a=b)) w:=by
 have h1:∀ x y:ByteArray,(part e #[Value.string x,Value.string y] 0).run P w=.ok (.string x) w:=fun x y=>nu he rfl w
 have h2:∀ x y:ByteArray,(part e #[Value.string x,Value.string y] 1).run P w=.ok (.string y) w:=fun x y=>nu he rfl w
 unfold dM
 rw [run_equalIn_array w (m+1) _ _ hu hi,hc]
 simp only [List.range_succ,List.range_zero,List.nil_append,List.cons_append,Op.eqItems,Sem.run_bind,Nat.zero_mul,Nat.one_mul,h1,h2,Result.andThen_ok,pg m e _ _ w he]
 by_cases e1:a.1=b.1<;>by_cases e2:a.2=b.2<;>simp [e1,e2,h2,pg m e _ _ w he,Prod.ext_iff]
theorem adf{kt e:TypeId}{i:TypeInfo}(hu:P.underlying kt=some (.array 2 e))(hi:P.info? e=some i)(hc:P.cellsOf e=1)(he:P.underlying e=some .string):iw P kt dM where
 inj:=tp
 check w em a:=wY hu hi hc he w em 9998 a
 find:=abQ (by rw [hu]) fun w a b=>adK hu hi hc he w 9998 a b
 stays:=yZ
theorem abx{kt e:TypeId}(hu:P.underlying kt=some (.array 2 e))(hi:(P.info? e).isSome=true)(hc:P.cellsOf e=1)(he:P.underlying e=some .string):iw P kt dM :=
 let ⟨_,h⟩:=Option.isSome_iff_exists.1 hi
 adf hu h hc he
end
end Go.Sy

namespace Go.Sy
open Go.RowKit Go.Lp
abbrev eI(z:Int):Value:=.int .i64 z
def jr(s:ByteArray):Value:=.string s
def vBo(b:Bool):Value:=.bool b
def fw{α:Type}[DecidableEq α](l:List α):α→Option Bool:=fun a=>if a∈l then some true else none
theorem rT{α:Type}[DecidableEq α]:(fun _:α=>(none:Option Bool))=fw []:=by funext a;simp [fw]
theorem ig{α:Type}[DecidableEq α](l:List α)(a:α):fw (l++[a])=iq (fw l) a true:=by
 funext b;unfold fw iq
 by_cases h:b=a
 · subst h;simp
 · by_cases hb:b∈l<;>simp [h,hb]
theorem xw{α:Type}[DecidableEq α](l:List α)(a:α):(fw l a).getD false=decide (a∈l):=by
 unfold fw;by_cases h:a∈l<;>simp [h]
end Go.Sy

namespace Go.Proofs.YtebnelfdimiifaaGreatDoor
open Go.RowKit Go.Lp Go.Sy
end Go.Proofs.YtebnelfdimiifaaGreatDoor

namespace Go.Sy
open Go.RowKit Go.Lp
theorem eG{P:Program}{n:Fr}{ops:Array Oper}{env:Env}{ps:List Per}{hp:List Res}{Q:Exit→Sta→Prop}{rest:List Oper}{v:Value}{T:TypeId}{sz:Nat}{rows:List (List D)}(i:Nat)(hi:hp[i]? = some (aN v T sz rows))(h:aL P n ops Q rest ⟨env,Sh v (.sl rows)::ps,hp.set i emp⟩):aL P n ops Q rest ⟨env,ps,hp⟩:=fun w S fp a hst he hn hd=>by
 have hil:=(List.getElem?_eq_some_iff.1 hi).1
 have h1:=nU hst i hi
 have htot:∀ b,tot (fun k=>if k=i then (fun _=>False) else fp k) (hp.set i emp).length b→tot fp hp.length b:=fun b ⟨j,hj,hb⟩=>by
   dsimp only at hb
   by_cases hji:j=i
   · rw [if_pos hji] at hb;exact hb.elim
   · rw [if_neg hji] at hb;exact ⟨j,by simpa using hj,hb⟩
 have hE:Evo w S (tot fp hp.length) w (fun b=>S b∨fp i b):=⟨rfl,rfl,rfl,Nat.le_refl _,Nat.le_refl _,fun _ _ _=>rfl,fun _ h=>.inl h,fun b hb=>hb.elim .inl fun h=>.inr (.inl ⟨i,hil,h⟩)⟩
 exact fR (fun e a2 w2 hp=>hp.trans hE (fun b hb=>.inl (htot b hb))) _ _ _ (h w _ _ a h1 he hn hd)
section
variable {P:Program} {n:Fr} {ops:Array Oper} {env:Env} {ps:List Per} {hp:List Res} {Q:Exit→Sta→Prop} {rest:List Oper} {ty:TypeId} {pos:String} {af:Array Edge} {gd:Option (Nat × Bool)}
theorem acn{V:List Nat}{k:Nat}{L:Array Bool}{ps':List Per}(hf:∀ p∈ps',Ent ps p)(h:aB P n ops V Q k L ⟨env,ps',hp⟩):aB P n ops V Q k L ⟨env,ps,hp⟩:=fun w S fp a hst he hn hd =>
 h w S fp a ⟨fun q hq=>hf q hq w S hst.per,hst.res,hst.lt,hst.dj,hst.slt⟩ he hn hd
theorem ack{V:List Nat}{k:Nat}{L:Array Bool}{R:Res}(h:aB P n ops V Q k L ⟨env,ps,hp⟩):aB P n ops V Q k L ⟨env,ps,hp++[R]⟩:=fun w S fp a hst he hn hd=>by
 have hst':St w S fp ps hp:=⟨hst.per,fun i R' hR=>hst.res i R' (by rw [List.getElem?_append_left (List.getElem?_eq_some_iff.1 hR).1];exact hR),fun i hi=>hst.lt i (by simp;omega),fun i j hi hj=>hst.dj i j (by simp;omega) (by simp;omega),hst.slt⟩
 have hE:Evo w S (tot fp (hp++[R]).length) w S:=Evo.refl _ _ _
 exact jQ (fun a2 w2 hp2=>hp2.trans hE (fun b ⟨j,hj,hb⟩=>.inl ⟨j,by have hj2:j<hp.length:=hj;simp;omega,hb⟩)) _ _ _ _ (h w S fp a hst' he hn hd)
theorem aaF{V:List Nat}{k:Nat}{L:Array Bool}{v:Value}{T:TypeId}{sz:Nat}{rows:List (List D)}(i:Nat)(hi:hp[i]? = some (aN v T sz rows))(h:aB P n ops V Q k L ⟨env,Sh v (.sl rows)::ps,hp.set i emp⟩):aB P n ops V Q k L ⟨env,ps,hp⟩:=fun w S fp a hst he hn hd=>by
 have hil:=(List.getElem?_eq_some_iff.1 hi).1
 have h1:=nU hst i hi
 have htot:∀ b,tot (fun k=>if k=i then (fun _=>False) else fp k) (hp.set i emp).length b→tot fp hp.length b:=fun b ⟨j,hj,hb⟩=>by
   dsimp only at hb
   by_cases hji:j=i
   · rw [if_pos hji] at hb;exact hb.elim
   · rw [if_neg hji] at hb;exact ⟨j,by simpa using hj,hb⟩
 have hE:Evo w S (tot fp hp.length) w (fun b=>S b∨fp i b):=⟨rfl,rfl,rfl,Nat.le_refl _,Nat.le_refl _,fun _ _ _=>rfl,fun _ h=>.inl h,fun b hb=>hb.elim .inl fun h=>.inr (.inl ⟨i,hil,h⟩)⟩
 exact jQ (fun a2 w2 hp=>hp.trans hE (fun b hb=>.inl (htot b hb))) _ _ _ _ (h w _ _ a h1 he hn hd)
theorem zG{V:List Nat}{k:Nat}{L:Array Bool}{t:Nat}{T E:TypeId}{len:Nat}{l:List (Nat × Operand)}{xs:List Operand}{vs zs cs:List Value}{rows:List (List D)}(i:Nat)(hi:ops[i]? = some ⟨some t,.buildSlice T len l.toArray,ty,pos,af,gd⟩)(hr:Region.ready .any ops L=[i])(hel:elB P T E zs.length=true)(hz:fc P E=some zs)(h0:0<zs.length)
   (hlen:0<len) (hsm:len*zs.length≤16777216) (hxs:l.map (·.2)=xs) (hc:guardOf ops env ⟨some t,.buildSlice T len l.toArray,ty,pos,af,gd⟩=some true) (hx:evs env xs=some vs) (hb:bld (fun i=>some (i*zs.length,zs.length)) (k7 len zs) ((l.map (·.1)).zip vs)=some cs) (hrc:RCs ps zs.length cs rows) (hrl:rows.length=len) (ht:fits n.size (some t)=true)
   (h:∀ ad,aB P n ops V Q k (L.setIfInBounds i true) ⟨(t,true,.slice ad len len)::env,Sh (.slice ad len len) (.sl rows)::ps,hp⟩):aB P n ops V Q (k+1) L ⟨env,ps,hp⟩:=by
 refine eQ (q:=true) i hi hr rfl hc (aaA hel hz h0 hlen hsm hxs hx hb hrc hrl ht fun ad => ?_)
 refine aaF hp.length (by rw [List.getElem?_append_right (Nat.le_refl _),Nat.sub_self];rfl) ?_
 rw [List.set_append_right _ _ (Nat.le_refl _),Nat.sub_self]
 exact ack (h ad)
end
end Go.Sy

namespace Go.Sy
open Go.RowKit
section
variable {P:Program} {f:FuncId} {fn:Func} {c:Code} {ps:List Per} {hp:List Res} {R:Value→List Per→List Res→Prop} {v0 v1 v2 v3 v4 v5 v6 v7:Value}
theorem EN1(hf:P.funcs[f]? = some fn)(hb:fn.body=some c)(h:awp P ⟨fn.ntmps,none,[]⟩ c (gl P fn R) ⟨[(0,true,v0)],ps,hp⟩)(hl:Nat.ble 1 fn.ntmps=true:=by kernel_rfl):Con P f [v0] ps hp R:=Con.enter hf hb (Nat.le_of_ble_eq_true hl) h
theorem EN2(hf:P.funcs[f]? = some fn)(hb:fn.body=some c)(h:awp P ⟨fn.ntmps,none,[]⟩ c (gl P fn R) ⟨[(0,true,v0),(1,true,v1)],ps,hp⟩)(hl:Nat.ble 2 fn.ntmps=true:=by kernel_rfl):Con P f [v0,v1] ps hp R:=Con.enter hf hb (Nat.le_of_ble_eq_true hl) h
theorem EN3(hf:P.funcs[f]? = some fn)(hb:fn.body=some c)(h:awp P ⟨fn.ntmps,none,[]⟩ c (gl P fn R) ⟨[(0,true,v0),(1,true,v1),(2,true,v2)],ps,hp⟩)(hl:Nat.ble 3 fn.ntmps=true:=by kernel_rfl):Con P f [v0,v1,v2] ps hp R:=Con.enter hf hb (Nat.le_of_ble_eq_true hl) h
theorem EN4(hf:P.funcs[f]? = some fn)(hb:fn.body=some c)(h:awp P ⟨fn.ntmps,none,[]⟩ c (gl P fn R) ⟨[(0,true,v0),(1,true,v1),(2,true,v2),(3,true,v3)],ps,hp⟩)(hl:Nat.ble 4 fn.ntmps=true:=by kernel_rfl):Con P f [v0,v1,v2,v3] ps hp R:=Con.enter hf hb (Nat.le_of_ble_eq_true hl) h
theorem EN5(hf:P.funcs[f]? = some fn)(hb:fn.body=some c)(h:awp P ⟨fn.ntmps,none,[]⟩ c (gl P fn R) ⟨[(0,true,v0),(1,true,v1),(2,true,v2),(3,true,v3),(4,true,v4)],ps,hp⟩)(hl:Nat.ble 5 fn.ntmps=true:=by kernel_rfl):Con P f [v0,v1,v2,v3,v4] ps hp R:=Con.enter hf hb (Nat.le_of_ble_eq_true hl) h
theorem EN6(hf:P.funcs[f]? = some fn)(hb:fn.body=some c)(h:awp P ⟨fn.ntmps,none,[]⟩ c (gl P fn R) ⟨[(0,true,v0),(1,true,v1),(2,true,v2),(3,true,v3),(4,true,v4),(5,true,v5)],ps,hp⟩)(hl:Nat.ble 6 fn.ntmps=true:=by kernel_rfl):Con P f [v0,v1,v2,v3,v4,v5] ps hp R:=Con.enter hf hb (Nat.le_of_ble_eq_true hl) h
theorem EN7(hf:P.funcs[f]? = some fn)(hb:fn.body=some c)(h:awp P ⟨fn.ntmps,none,[]⟩ c (gl P fn R) ⟨[(0,true,v0),(1,true,v1),(2,true,v2),(3,true,v3),(4,true,v4),(5,true,v5),(6,true,v6)],ps,hp⟩)(hl:Nat.ble 7 fn.ntmps=true:=by kernel_rfl):Con P f [v0,v1,v2,v3,v4,v5,v6] ps hp R:=Con.enter hf hb (Nat.le_of_ble_eq_true hl) h
theorem EN8(hf:P.funcs[f]? = some fn)(hb:fn.body=some c)(h:awp P ⟨fn.ntmps,none,[]⟩ c (gl P fn R) ⟨[(0,true,v0),(1,true,v1),(2,true,v2),(3,true,v3),(4,true,v4),(5,true,v5),(6,true,v6),(7,true,v7)],ps,hp⟩)(hl:Nat.ble 8 fn.ntmps=true:=by kernel_rfl):Con P f [v0,v1,v2,v3,v4,v5,v6,v7] ps hp R:=Con.enter hf hb (Nat.le_of_ble_eq_true hl) h
end
section
variable {P:Program} {n:Fr} {ops:Array Oper} {Q:Exit→Sta→Prop} {s:Sta} {K:Sta→Prop}
theorem DR{l:List Oper}{id:Nat}(V:List Nat)(m:Nat)(h:aB P n l.toArray V Q m (Array.replicate m false) s)(hl:l.length=m:=by rfl)(hm:P.follows .mixedOrders=true:=by kernel_rfl):awp P n (.region id l.toArray true) Q s:=by
 subst hl;exact sV V hm h
theorem DC{l:List Oper}{id:Nat}(V W Z:List Nat)(m:Nat)(h:aC P n l.toArray V W Z Q m (Array.replicate m false) s)(hl:l.length=m:=by rfl)(hm:P.follows .mixedOrders=true:=by kernel_rfl):awp P n (.region id l.toArray true) Q s:=by
 subst hl;exact xM V W Z hm h
section
variable {fn:Func} {R:Value→List Per→List Res→Prop}
theorem FZ1{t:Nat}{v:Value}(lh:List Nat)(hr:fn.results = #[.tmp t])(hl:look s.env t=some (true,v))(h:R v (fG s.ps []) (cI s.hp lh))(ok:okH s.hp lh=true:=by rfl):gl P fn R .ret s:=nf [] lh ok hr hl h (.inr rfl)
theorem FZ2{t u:Nat}{v v':Value}(lh:List Nat)(hr:fn.results = #[.tmp t,.tmp u])(hl:look s.env t=some (true,v))(hl':look s.env u=some (true,v'))(h:R (.tuple #[v,v']) (fG s.ps []) (cI s.hp lh))(ok:okH s.hp lh=true:=by rfl):gl P fn R .ret s:=ahd [] lh ok hr hl hl' h (.inr rfl)
theorem FZ0(lh:List Nat)(hr:fn.results = #[])(h:R (.tuple #[]) (fG s.ps []) (cI s.hp lh))(ok:okH s.hp lh=true:=by rfl):gl P fn R .normal s:=rk [] lh ok hr h (.inl rfl)
end
variable {env:Env} {ps ps':List Per} {hp hp':List Res} {d:Nat} {op:Op} {ty:TypeId} {pos:String} {af:Array Edge} {gd:Option (Nat × Bool)} {rest:List Oper} {v:Value} {x:Operand} {o:Oper} {V W Z:List Nat} {k:Nat} {L L':Array Bool} {T:TypeId} {j b p u:Nat} {c:Bool} {U:TypeId} {ag:Bool} {m:Nat} {cs:List Value} {row:List D}
theorem CST(h:aC P n ops V W Z Q k L' ⟨env,ps',hp'⟩)(hL:L=L':=by (try simp only [nO,nK,nL]);rfl)(h1:ps=ps':=by (try simp only [nM,nN]);rfl)(h0:hp=hp':=by (try simp only [cI,nQ,nR,iW,place,Nat.reduceBEq,if_true,if_false,reduceIte,Nat.reduceAdd,nW]);rfl):aC P n ops V W Z Q k L ⟨env,ps,hp⟩:=agL hL h1 h0 h
theorem VO(i off:Nat)(hi:ops[i]? = some ⟨some d,.fieldAddr T x j,ty,pos,af,gd⟩)(h:okU ops env n.size ⟨some d,.fieldAddr T x j,ty,pos,af,gd⟩=true)(hx:ev env x=some (true,.pointer (some ⟨b,u,none⟩)))
   (hK:aB P n ops V Q k (L.setIfInBounds i true) ⟨(d,true,.pointer (some ⟨b,u+off,none⟩))::env,ps,hp⟩) (h0:oH P T j=some off:=by kernel_rfl) (hf:eb ops V L i=true:=by kernel_rfl):aB P n ops V Q (k+1) L ⟨env,ps,hp⟩:=bV i hi h (qFA hx h0) hK hf
theorem VN{a:Addr}(i:Nat)(hi:ops[i]? = some ⟨some d,.nilCheck x,ty,pos,af,gd⟩)(h:okU ops env n.size ⟨some d,.nilCheck x,ty,pos,af,gd⟩=true)(hx:ev env x=some (true,.pointer (some a)))
   (hK:aB P n ops V Q k (L.setIfInBounds i true) ⟨(d,true,.pointer (some a))::env,ps,hp⟩) (hf:eb ops V L i=true:=by kernel_rfl):aB P n ops V Q (k+1) L ⟨env,ps,hp⟩:=bV i hi h (dC hx) hK hf
theorem VM(i:Nat)(hi:ops[i]? = some ⟨some d,.move x,ty,pos,af,gd⟩)(h:mvU ops env n.size ⟨some d,.move x,ty,pos,af,gd⟩ x=some v)
   (hK:aB P n ops V Q k (L.setIfInBounds i true) ⟨(d,true,v)::env,ps,hp⟩) (hf:eb ops V L i=true:=by kernel_rfl):aB P n ops V Q (k+1) L ⟨env,ps,hp⟩:=bV i hi (tw h).1 (aT (tw h).2) hK hf
theorem VD(i w:Nat)(hk:tyk P U=some (ag,m))(q:Nat)(hi:ops[i]? = some ⟨some d,.load U x,ty,pos,af,gd⟩)(h:okU ops env n.size ⟨some d,.load U x,ty,pos,af,gd⟩=true)(hx:ev env x=some (true,.pointer (some ⟨b,p+w,none⟩)))(hq:ps[q]? = some (At b p row))(hv:rdD ag m row w=some v)
   (hK:aB P n ops V Q k (L.setIfInBounds i true) ⟨(d,true,v)::env,ps,hp⟩) (hf:eb ops V L i=true:=by kernel_rfl):aB P n ops V Q (k+1) L ⟨env,ps,hp⟩:=bV i hi h (bk (o:=w) hk hx (.of (aH q hq)) hv) hK hf
theorem VL(i w:Nat)(hk:tyk P U=some (ag,m))(hi:ops[i]? = some ⟨some d,.load U x,ty,pos,af,gd⟩)(h:okU ops env n.size ⟨some d,.load U x,ty,pos,af,gd⟩=true)(hx:ev env x=some (true,.pointer (some ⟨b,u,none⟩)))(hq:hp[w]? = some (Box b T cs))(hv:rdC ag m cs u=some v)
   (hK:aB P n ops V Q k (L.setIfInBounds i true) ⟨(d,true,v)::env,ps,hp⟩) (hf:eb ops V L i=true:=by kernel_rfl):aB P n ops V Q (k+1) L ⟨env,ps,hp⟩:=bV i hi h (bj w hk hx hq hv) hK hf
theorem UO(off:Nat)(h:okU ops env n.size ⟨some d,.fieldAddr T x j,ty,pos,af,gd⟩=true)(hx:ev env x=some (true,.pointer (some ⟨b,u,none⟩)))(hK:aL P n ops Q rest ⟨(d,true,.pointer (some ⟨b,u+off,none⟩))::env,ps,hp⟩)(h0:oH P T j=some off:=by kernel_rfl) :
   aL P n ops Q (⟨some d,.fieldAddr T x j,ty,pos,af,gd⟩::rest) ⟨env,ps,hp⟩:=aU h (qFA hx h0) hK
theorem UN{a:Addr}(h:okU ops env n.size ⟨some d,.nilCheck x,ty,pos,af,gd⟩=true)(hx:ev env x=some (true,.pointer (some a)))(hK:aL P n ops Q rest ⟨(d,true,.pointer (some a))::env,ps,hp⟩) :
   aL P n ops Q (⟨some d,.nilCheck x,ty,pos,af,gd⟩::rest) ⟨env,ps,hp⟩:=aU h (dC hx) hK
theorem UL(w:Nat)(hk:tyk P U=some (ag,m))(h:okU ops env n.size ⟨some d,.load U x,ty,pos,af,gd⟩=true)(hx:ev env x=some (true,.pointer (some ⟨b,u,none⟩)))(hq:hp[w]? = some (Box b T cs))(hv:rdC ag m cs u=some v)
   (hK:aL P n ops Q rest ⟨(d,true,v)::env,ps,hp⟩):aL P n ops Q (⟨some d,.load U x,ty,pos,af,gd⟩::rest) ⟨env,ps,hp⟩:=aU h (bj w hk hx hq hv) hK
theorem UD(w:Nat)(hk:tyk P U=some (ag,m))(q:Nat)(h:okU ops env n.size ⟨some d,.load U x,ty,pos,af,gd⟩=true)(hx:ev env x=some (true,.pointer (some ⟨b,p+w,none⟩)))(hq:ps[q]? = some (At b p row))(hv:rdD ag m row w=some v)
   (hK:aL P n ops Q rest ⟨(d,true,v)::env,ps,hp⟩):aL P n ops Q (⟨some d,.load U x,ty,pos,af,gd⟩::rest) ⟨env,ps,hp⟩:=aU h (bk (o:=w) hk hx (.of (aH q hq)) hv) hK
theorem GO(off:Nat)(hc:guardOf ops env ⟨some d,.fieldAddr T x j,ty,pos,af,gd⟩=some c)(hd:fits n.size (some d)=true)(hx:ev env x=some (true,.pointer (some ⟨b,u,none⟩)))(hK:aL P n ops Q rest ⟨(d,c,.pointer (some ⟨b,u+off,none⟩))::env,ps,hp⟩)(h0:oH P T j=some off:=by kernel_rfl) :
   aL P n ops Q (⟨some d,.fieldAddr T x j,ty,pos,af,gd⟩::rest) ⟨env,ps,hp⟩:=aG hc hd (fun _=>qFA hx h0) hK
theorem GL(w:Nat)(hk:tyk P U=some (ag,m))(hc:guardOf ops env ⟨some d,.load U x,ty,pos,af,gd⟩=some c)(hd:fits n.size (some d)=true)(hx:ev env x=some (c,.pointer (some ⟨b,u,none⟩)))(hq:hp[w]? = some (Box b T cs))(hv:rdC ag m cs u=some v)
   (hK:aL P n ops Q rest ⟨(d,c,v)::env,ps,hp⟩):aL P n ops Q (⟨some d,.load U x,ty,pos,af,gd⟩::rest) ⟨env,ps,hp⟩:=aG hc hd (fun hc=>bj w hk (ae hx hc) hq hv) hK
theorem CF(i:Nat)(hi:ops[i]? = some ⟨some d,op,ty,pos,af,gd⟩)(hc:guardOf ops env ⟨some d,op,ty,pos,af,gd⟩=some true)(hd:fits n (some d)=true)(hq:Quiet P n ⟨some d,op,ty,pos,af,gd⟩ ⟨env,ps,[]⟩ v)
   (h:aC P n ops V W Z Q k (L.setIfInBounds i true) ⟨(d,true,v)::env,ps,hp⟩) (hf:fL ops [] L i=true:=by kernel_rfl):aC P n ops V W Z Q (k+1) L ⟨env,ps,hp⟩:=aha i hi hf true hc hd (fun _=>hq) h
theorem CQ(i:Nat)(hi:ops[i]? = some ⟨some d,op,ty,pos,af,gd⟩)(hc:guardOf ops env ⟨some d,op,ty,pos,af,gd⟩=some true)(hd:fits n (some d)=true)(hq:Quiet P n ⟨some d,op,ty,pos,af,gd⟩ ⟨env,ps,hp⟩ v)
   (h:aC P n ops V W Z Q k (L.setIfInBounds i true) ⟨(d,true,v)::env,ps,hp⟩) (hf:fL ops V L i=true:=by kernel_rfl):aC P n ops V W Z Q (k+1) L ⟨env,ps,hp⟩:=ahb i hi hf true hc hd (fun _=>hq) h
theorem VE(i:Nat)(hi:ops[i]? = some o)(hc:guardOf ops s.env o=some true)(h:Eff P n o s false (aB P n ops V Q k (L.setIfInBounds i true)))(hr:Region.ready .any ops L=[i]:=by kernel_rfl)(hq:V.contains i=true:=by rfl):aB P n ops V Q (k+1) L s:=eQ (q:=false) i hi hr hq hc h
theorem VB{t:Nat}{T E:TypeId}{len:Nat}{l:List (Nat × Operand)}{xs:List Operand}{vs zs cs:List Value}{rows:List (List D)}(i:Nat)(hi:ops[i]? = some ⟨some t,.buildSlice T len l.toArray,ty,pos,af,gd⟩)(hel:elB P T E zs.length=true)(hxs:l.map (·.2)=xs)(hc:guardOf ops env ⟨some t,.buildSlice T len l.toArray,ty,pos,af,gd⟩=some true)(hx:evs env xs=some vs)
   (hb:bld (fun i=>some (i*zs.length,zs.length)) (k7 len zs) ((l.map (·.1)).zip vs)=some cs) (hrc:RCs ps zs.length cs rows) (hrl:rows.length=len) (ht:fits n.size (some t)=true)
   (h:∀ ad,aB P n ops V Q k (L.setIfInBounds i true) ⟨(t,true,.slice ad len len)::env,Sh (.slice ad len len) (.sl rows)::ps,hp⟩) (hr:Region.ready .any ops L=[i]:=by kernel_rfl) (hz:fc P E=some zs:=by kernel_rfl) (h0:0<zs.length:=by decide) (hlen:0<len:=by decide) (hsm:len*zs.length≤16777216:=by decide) :
   aB P n ops V Q (k+1) L ⟨env,ps,hp⟩:=zG i hi hr hel hz h0 hlen hsm hxs hc hx hb hrc hrl ht h
theorem WL{q:Bool}{t:Nat}{T E:TypeId}{len:Nat}{l:List (Nat × Operand)}{xs:List Operand}{vs zs cs:List Value}{rows:List (List D)}(hel:elB P T E zs.length=true)(hxs:l.map (·.2)=xs)(hx:evs env xs=some vs)(hb:bld (fun i=>some (i*zs.length,zs.length)) (k7 len zs) ((l.map (·.1)).zip vs)=some cs)(hr:RCs ps zs.length cs rows)(hrl:rows.length=len)(ht:fits n (some t)=true)
   (hK:∀ ad,K ⟨(t,true,.slice ad len len)::env,ps,hp++[aN (.slice ad len len) E zs.length rows]⟩) (hz:fc P E=some zs:=by kernel_rfl) (h0:0<zs.length:=by decide) (hlen:0<len:=by decide) (hsm:len*zs.length≤16777216:=by decide) :
   Eff P n ⟨some t,.buildSlice T len l.toArray,ty,pos,af,gd⟩ ⟨env,ps,hp⟩ q K:=aaA hel hz h0 hlen hsm hxs hx hb hr hrl ht hK
theorem QC{f:FuncId}{l:List Operand}{ts:Array TypeId}{vs:List Value}(hx:evs s.env l=some vs)(hc:∀ w S fp,St w S fp s.ps s.hp→Calls P f vs.toArray w fun e w'=>e=.returned v∧Below w.heap.size w w')(hf:dP P f=true:=by kernel_rfl) :
   Quiet P n ⟨some d,.call ⟨.value (.func f),l.toArray,ts⟩,ty,pos,af,gd⟩ s v:=fb hf hx hc
theorem Q0{f:FuncId}{l:List Operand}{ts:Array TypeId}{vs:List Value}(hx:evs s.env l=some vs)(h:Con P f vs [] [] fun u _ _=>u=v)(hf:dP P f=true:=by kernel_rfl) :
   Quiet P n ⟨some d,.call ⟨.value (.func f),l.toArray,ts⟩,ty,pos,af,gd⟩ s v:=fb hf hx fun _ _ _ hst=>h.quiet0 hst
theorem Q1{f:FuncId}{l:List Operand}{ts:Array TypeId}{vs:List Value}{r:Per}(hx:evs s.env l=some vs)(h:Con P f vs [r] [] fun u _ _=>u=v)(q:Nat)(hq:s.ps[q]? = some r)(hf:dP P f=true:=by kernel_rfl) :
   Quiet P n ⟨some d,.call ⟨.value (.func f),l.toArray,ts⟩,ty,pos,af,gd⟩ s v:=fb hf hx fun _ _ _ hst=>h.quiet1 (aH q hq) hst
theorem XI{E:TypeId}{y:Operand}{sz e nn cc:Nat}{z:Int}{ad:Option Addr}{rows:List (List D)}(i:Nat)(hT:P.underlying T=some (.slice E))(hk:tyk P E=some (ag,sz))(q:Nat)(hi:ops[i]? = some ⟨some d,.indexAddr T x y,ty,pos,af,gd⟩)(hc:guardOf ops env ⟨some d,.indexAddr T x y,ty,pos,af,gd⟩=some true)(hd:fits n.size (some d)=true)
   (hx:ev env x=some (true,.slice ad nn cc)) (hq:ps[q]? = some (Sh (.slice ad nn cc) (.sl rows))) (hy:ev env y=some (true,.int .i64 z)) (hr:rows[e]? = some row) (hz:z=(e:Int)) (hl:row.length=sz)
   (h:∀ a:Nat × Nat,aB P n ops V Q k (L.setIfInBounds i true) ⟨(d,true,.pointer (some ⟨a.1,a.2,none⟩))::env,cnd true (At a.1 a.2 row)::ps,hp⟩) (hf:eb ops V L i=true:=by kernel_rfl):aB P n ops V Q (k+1) L ⟨env,ps,hp⟩ :=
 sd i hi hf true hc hd (fun _=>bI hT hk hx (.of (aH q hq)) hy hr hz hl) (fun h=>absurd h (by decide)) h
theorem UI{E:TypeId}{y:Operand}{sz e nn cc:Nat}{z:Int}{ad:Option Addr}{rows:List (List D)}(hT:P.underlying T=some (.slice E))(hk:tyk P E=some (ag,sz))(q:Nat)(hc:guardOf ops env ⟨some d,.indexAddr T x y,ty,pos,af,gd⟩=some true)(hd:fits n.size (some d)=true)
   (hx:ev env x=some (true,.slice ad nn cc)) (hq:ps[q]? = some (Sh (.slice ad nn cc) (.sl rows))) (hy:ev env y=some (true,.int .i64 z)) (hr:rows[e]? = some row) (hz:z=(e:Int)) (hl:row.length=sz)
   (h:∀ a:Nat × Nat,aL P n ops Q rest ⟨(d,true,.pointer (some ⟨a.1,a.2,none⟩))::env,cnd true (At a.1 a.2 row)::ps,hp⟩):aL P n ops Q (⟨some d,.indexAddr T x y,ty,pos,af,gd⟩::rest) ⟨env,ps,hp⟩ :=
 jo true hc hd (fun _=>bI hT hk hx (.of (aH q hq)) hy hr hz hl) (fun h=>absurd h (by decide)) h
theorem VT(i w:Nat)(hk:tyk P U=some (ag,m))(q:Nat)(hi:ops[i]? = some ⟨some d,.load U x,ty,pos,af,gd⟩)(h:okU ops env n.size ⟨some d,.load U x,ty,pos,af,gd⟩=true)(hx:ev env x=some (true,.pointer (some ⟨b,p+w,none⟩)))(hq:ps[q]? = some (cnd c (At b p row)))(hc:c=true)(hv:rdD ag m row w=some v)
   (hK:aB P n ops V Q k (L.setIfInBounds i true) ⟨(d,true,v)::env,ps,hp⟩) (hf:eb ops V L i=true:=by kernel_rfl):aB P n ops V Q (k+1) L ⟨env,ps,hp⟩:=bV i hi h (gz (o:=w) hk hx (aH q hq) hc hv) hK hf
theorem US(w:Nat)(hk:tyk P U=some (ag,m))(q:Nat)(h:okU ops env n.size ⟨some d,.load U x,ty,pos,af,gd⟩=true)(hx:ev env x=some (true,.pointer (some ⟨b,p+w,none⟩)))(hq:ps[q]? = some (cnd c (At b p row)))(hc:c=true)(hv:rdD ag m row w=some v)
   (hK:aL P n ops Q rest ⟨(d,true,v)::env,ps,hp⟩):aL P n ops Q (⟨some d,.load U x,ty,pos,af,gd⟩::rest) ⟨env,ps,hp⟩:=aU h (gz (o:=w) hk hx (aH q hq) hc hv) hK
theorem BN(h:Q .normal s)(hr:Region.ready .any ops L=[]:=by kernel_rfl):aB P n ops V Q 0 L s:=acm hr h
theorem LT(hc:guardOf ops s.env o=some true)(h:Eff P n o s true (aL P n ops Q rest)):aL P n ops Q (o::rest) s:=aW hc h
theorem LF(hc:guardOf ops s.env o=some true)(h:Eff P n o s false (aL P n ops Q rest)):aL P n ops Q (o::rest) s:=aW hc h
theorem EC{t:Nat}{f:FuncId}{l:List Operand}{ts:Array TypeId}{vs:List Value}{q:Bool}{R:Value→List Per→List Res→Prop}(lp lh:List Nat)(hx:evs env l=some vs)(hc:Con P f vs (fG ps lp) (cI hp lh) R)(hK:∀ v ps' hp',R v ps' hp'→K ⟨(t,true,v)::env,ps'++ps,iW lh hp' 0 hp⟩)
   (hf:dP P f=true:=by kernel_rfl) (ht:fits n (some t)=true:=by rfl) (ok:okH hp lh=true:=by rfl) (hq:(!q || lh.isEmpty)=true:=by rfl):Eff P n ⟨some t,.call ⟨.value (.func f),l.toArray,ts⟩,ty,pos,af,gd⟩ ⟨env,ps,hp⟩ q K:=yE lp lh hf hx ht ok hq hc hK
abbrev ZI:List Value:=[.string .empty,.bool false,.int .i64 0,.int .i64 0,.int .i64 0,.string .empty,.string .empty,.int .i64 0,.slice none 0 0,.slice none 0 0,.slice none 0 0,.slice none 0 0,.slice none 0 0,.slice none 0 0,.slice none 0 0,.slice none 0 0,.int .i64 0,.slice none 0 0,.slice none 0 0,.slice none 0 0,.slice none 0 0,.slice none 0 0,.slice none 0 0,.slice none 0 0,.slice none 0 0,.slice none 0 0]
end
end Go.Sy

namespace Go.Sy
open Go.RowKit Go.Lp
theorem afN{a b:ByteArray}(h:a.toList=b.toList):a=b:=by
 have key:∀ (x:ByteArray),x.toList=x.data.toList:=fun x=>by
   have loop:∀ (n i:Nat) (acc:List UInt8),x.size-i=n→ByteArray.toList.loop x i acc=acc.reverse++x.data.toList.drop i:=by
     intro n
     induction n with
     | zero =>
       intro i acc h
       unfold ByteArray.toList.loop
       have hle:x.data.size≤i:=by have:x.size=x.data.size:=rfl;omega
       rw [if_neg (by omega),List.drop_eq_nil_of_le (by simpa using hle),List.append_nil]
     | succ n ih =>
       intro i acc h
       unfold ByteArray.toList.loop
       have hlt:i<x.size:=by omega
       have hlt':i<x.data.toList.length:=by simpa using hlt
       rw [if_pos hlt,ih (i+1) _ (by omega),List.drop_eq_getElem_cons hlt']
       have:x.get! i=x.data.toList[i]:=by
         show x.data[i]! = _
         rw [getElem!_pos x.data i (by simpa using hlt)];simp
       rw [this];simp
   unfold ByteArray.toList
   rw [loop _ 0 [] rfl];simp
 rw [key,key] at h
 cases a;cases b
 simp only [ByteArray.mk.injEq]
 exact Array.toList_inj.1 h
theorem xO(a b:ByteArray):(a.toList == b.toList)=decide (a=b):=by
 rw [Bool.eq_iff_iff,beq_iff_eq,decide_eq_true_eq]
 exact ⟨afN,fun h=>h ▸ rfl⟩
section
variable {P:Program} {n:Fr} {d:Option Tmp} {ty:TypeId} {pos:String} {af:Array Edge} {gd:Option (Nat × Bool)} {s:Sta} {x y:Operand} {t t':TypeId} {a b:ByteArray}
theorem jm(hx:ev s.env x=some (true,.string a))(hy:ev s.env y=some (true,.string b)):Quiet P n ⟨d,.binOp .eql t x y t',ty,pos,af,gd⟩ s (.bool (decide (a=b))):=xO a b ▸ agi hx hy
theorem uU(hx:ev s.env x=some (true,.string a))(hy:ev s.env y=some (true,.string b)):Quiet P n ⟨d,.binOp .neq t x y t',ty,pos,af,gd⟩ s (.bool (!decide (a=b))):=xO a b ▸ agl hx hy
theorem agk(hx:ev s.env x=some (true,.string a))(hy:ev s.env y=some (true,.string b)):Quiet P n ⟨d,.binOp .lss t x y t',ty,pos,af,gd⟩ s (.bool (decide (a.toList<b.toList))) :=
 .run2 hx hy fun ρ w h1 h2=>by
   unfold execOp;dsimp only;rw [h1,h2]
   simp only [eqGuard_at_string,Sem.run_bind,Sem.run_pure,binOp_string_lss,Result.andThen_ok,Go.Proofs.bytesLess_eq]
theorem agj(hx:ev s.env x=some (true,.string a))(hy:ev s.env y=some (true,.string b)):Quiet P n ⟨d,.binOp .gtr t x y t',ty,pos,af,gd⟩ s (.bool (!(decide (a.toList<b.toList) || decide (a=b)))) :=
 .run2 hx hy fun ρ w h1 h2=>by
   unfold execOp;dsimp only;rw [h1,h2]
   simp only [eqGuard_at_string,Sem.run_bind,Sem.run_pure,binOp_string_gtr,Result.andThen_ok,Go.Proofs.bytesLess_eq,xO]
end
end Go.Sy

namespace Go.Sy
open Go.RowKit Go.Lp Go.MapKept
open Go.ChangeMaps (setBlock)
section
variable {α β:Type} {κ:α→Value} {ν:β→Value} {m:α→Option β} {P:Program} {kt:TypeId}
variable {n:Fr} {env:Env} {ps:List Per} {hp:List Res} {ty:TypeId} {pos:String} {af:Array Edge} {gd:Option (Nat × Bool)} {K:Sta→Prop} {d:Option Tmp}
variable {c:Code} {Q:Exit→Sta→Prop}
end
end Go.Sy

namespace Go.Sy
open Go.RowKit Go.Lp
section
variable {α β:Type}
def agG(T:TypeId)(sz:Nat)(row:β→List D)(m:α→Option (Sl β)):Res :=
 ⟨fun w S F=>∃ fp:α→bH,(∀ k s,m k=some s→(aN s.val T sz (s.l.map row)).holds w S (fp k))∧(∀ k,m k=none→∀ b,¬ fp k b)∧(∀ k k',k≠k'→∀ b,fp k b→¬ fp k' b)∧∀ b,F b↔∃ k,fp k b,
  fun ⟨fp,h1,h2,h3,h4⟩ k1 k2 k3=>⟨fp,fun k s hk=>(aN s.val T sz (s.l.map row)).mono (h1 k s hk) (fun b hb=>k1 b ((h4 b).2 ⟨k,hb⟩)) k2 k3,h2,h3,h4⟩⟩
variable {T:TypeId} {sz:Nat} {row:β→List D} {m:α→Option (Sl β)} {w:World} {S F:bH}
theorem ag1[DecidableEq α](k:α)(s:Sl β)(hm:m k=none)(h:(gm (agG T sz row m) (aN s.val T sz (s.l.map row))).holds w S F):(agG T sz row (iq m k s)).holds w S F:=by
 obtain ⟨G,H,⟨fp,h1,h2,h3,h4⟩,ho,hd,he⟩:=h
 refine ⟨fun k'=>if k'=k then H else fp k',fun k' s' hs => ?_,fun k' hk' b hb => ?_,fun k1 k2 hne b hb1 hb2 => ?_,fun b => ?_⟩
 · unfold iq at hs
   by_cases hk:k'=k
   · simp only [if_pos hk] at hs ⊢;obtain rfl:=Option.some.inj hs;exact ho
   · simp only [if_neg hk] at hs ⊢;exact h1 k' s' hs
 · unfold iq at hk'
   try dsimp only at hb
   by_cases hk:k'=k
   · simp only [if_pos hk] at hk';cases hk'
   · simp only [if_neg hk] at hk' hb;exact h2 k' hk' b hb
 · dsimp only at hb1 hb2
   by_cases e1:k1=k
   · simp only [if_pos e1] at hb1
     simp only [if_neg (show ¬ k2=k from fun e=>hne (e1.trans e.symm))] at hb2
     exact hd b ((h4 b).2 ⟨k2,hb2⟩) hb1
   · simp only [if_neg e1] at hb1
     by_cases e2:k2=k
     · simp only [if_pos e2] at hb2;exact hd b ((h4 b).2 ⟨k1,hb1⟩) hb2
     · simp only [if_neg e2] at hb2;exact h3 k1 k2 hne b hb1 hb2
 · rw [he b]
   constructor
   · rintro (hb | hb)
     · obtain ⟨k',hb⟩:=(h4 b).1 hb
       exact ⟨k',by simp only [if_neg (show ¬ k'=k from fun e=>h2 k (hm) b (e ▸ hb))];exact hb⟩
     · exact ⟨k,by simp only [if_pos rfl];exact hb⟩
   · rintro ⟨k',hb⟩
     try dsimp only at hb
     by_cases hk:k'=k
     · simp only [if_pos hk] at hb;exact .inr hb
     · simp only [if_neg hk] at hb;exact .inl ((h4 b).2 ⟨k',hb⟩)
def ag8(row:β→List D)(m:α→Option (Sl β)):Per:=⟨fun w S=>∀ k s,m k=some s→(ShF row s).holds w S,fun h h1 h2 k s hk=>(ShF row s).mono (h k s hk) h1 h2⟩
theorem Ent.key{ps:List Per}{k:α}{s:Sl β}(h:Ent ps (ag8 row m))(hk:m k=some s):Ent ps (ShF row s):=fun w S hp=>h w S hp k s hk
variable {P:Program} {n:Fr} {env:Env} {ps:List Per} {hp:List Res} {c:Code} {Q:Exit→Sta→Prop}
end
end Go.Sy

namespace Go.Sy
open Go.RowKit Go.Lp Go.MapKept
section
variable {α β:Type} {κ:α→Value} {ν:β→Value} {m:α→Option β} {P:Program} {kt:TypeId} {n:Fr} {env:Env} {ps:List Per} {hp:List Res} {ty:TypeId} {pos:String} {af:Array Edge} {gd:Option (Nat × Bool)} {d:Option Tmp}
end
section
variable {α β:Type} {κ:α→Value} {ν:β→Value} {m:α→Option β} {P:Program} {kt:TypeId} {n:Fr} {env:Env} {ps:List Per} {hp:List Res} {ty:TypeId} {pos:String} {af:Array Edge} {gd:Option (Nat × Bool)} {K:Sta→Prop} {d:Option Tmp}
theorem Quiet.castV{s:Sta}{o:Oper}{v v':Value}(h:Quiet P n o s v)(e:v=v'):Quiet P n o s v':=e ▸ h
end
end Go.Sy

namespace Go.Sy
open Go.RowKit Go.Lp
section
variable {P:Program} {f:FuncId} {args:List Value} {ps:List Per} {X Y:Type} {I:X→Prop} {I':Y→Prop} {l:X→List Res} {l':Y→List Res}
end
def StE(ps:List Per)(hp:List Res)(ps':List Per)(hp':List Res):Prop:=∀ w S fp,St w S fp ps hp→∃ S' fp',St w S' fp' ps' hp'∧(∀ b,S b→S' b)∧(∀ b,S' b→S b∨tot fp hp.length b)∧∀ b,tot fp' hp'.length b→tot fp hp.length b
section
variable {ps ps1 ps2:List Per} {hp hp1 hp2:List Res}
variable {P:Program} {f:FuncId} {args:List Value} {R R':Value→List Per→List Res→Prop}
theorem Con.conv(h:Con P f args ps hp R)(hr:∀ v ps' hp',R v ps' hp'→∃ ps2 hp2,StE ps' hp' ps2 hp2∧R' v ps2 hp2):Con P f args ps hp R':=fun w S fp hst =>
 (h w S fp hst).mono fun e w' ⟨v,ps',hp',S',fp',he,hR,hst',hE,hg⟩=>by
   obtain ⟨ps2,hp2,hS,hR'⟩:=hr _ _ _ hR
   obtain ⟨S2,f2,a1,a2,a3,a4⟩:=hS w' S' fp' hst'
   refine ⟨v,ps2,hp2,S2,f2,he,hR',a1,⟨hE.os,hE.tape,hE.output,hE.size,hE.drawn,hE.block,fun b hb=>a2 b (hE.more b hb),fun b hb => ?_⟩,fun b hb=>hg b (a4 b hb)⟩
   rcases a3 b hb with h1 | h1
   · exact hE.new b h1
   · rcases hg b h1 with h2 | h2
     · exact .inr (.inl h2)
     · exact .inr (.inr h2)
end
section
variable {P:Program}
end
section
variable {P:Program} {n:Fr} {env:Env} {ps:List Per} {hp:List Res} {ty:TypeId} {pos:String} {af:Array Edge} {gd:Option (Nat × Bool)} {d:Option Tmp}
def afw(P:Program)(T:TypeId):Option (Nat × Nat):=match P.underlying T with
 | some (.array m e)=>(P.info? e).map fun i=>(i.size,m)
 | _=>none
theorem my {T:TypeId} {l:List (Nat × Operand)} {xs:List Operand} {vs:List Value} {zs cells:List Value} {sz m:Nat} (hst:afw P T=some (sz,m)) (hz:fc P T=some zs) (hxs:l.map (·.2)=xs) (hx:evs env xs=some vs)
   (hb:bld (fun i=>some (i*sz,sz)) zs ((l.map (·.1)).zip vs)=some cells) :
   Quiet P n ⟨d,.build T l.toArray,ty,pos,af,gd⟩ ⟨env,ps,hp⟩ (.agg cells.toArray):=fun w S fp a hs he hn=>by
 have hm:=gV he xs vs hx
 have hf:=mQ _ _ _ _ hb
 have hbuilt : P.built T ((l.map (·.1)).zip vs)=some cells.toArray:=by
   unfold afw at hst
   unfold fc at hz
   unfold Program.built
   cases hi:P.info? T with
   | none=>rw [hi] at hz;cases hz
   | some it =>
     rw [hi] at hz
     cases hzz:it.zero with
     | none=>rw [Option.bind_some,hzz] at hz;cases hz
     | some z =>
       rw [Option.bind_some,hzz] at hz
       simp only [Option.map_some,Option.some.injEq] at hz
       cases hu:P.underlying T with
       | none=>rw [hu] at hst;cases hst
       | some dd =>
         rw [hu] at hst
         cases dd with
         | array m' e =>
           simp only at hst
           cases hie:P.info? e with
           | none=>rw [hie] at hst;cases hst
           | some ie =>
             rw [hie] at hst
             simp only [Option.map_some,Option.some.injEq,Prod.mk.injEq] at hst
             simp only [hzz,hie]
             have e1:z.cells=zs.toArray:=by rw [← hz]
             rw [e1,hst.1]
             simpa using hf
         | _=>cases hst
 have:(execOp a.eval ⟨d,.build T l.toArray,ty,pos,af,gd⟩).run P w=.ok (.value (.agg cells.toArray)) w:=by
   have e:(execOp a.eval ⟨d,.build T l.toArray,ty,pos,af,gd⟩)=(Instr.build T (l.toArray.map fun (i,x)=>(i,a.eval x))).bind fun r=>Sem.pure (Next.value r):=rfl
   have e2:l.toArray.map (fun (i,x)=>(i,a.eval x))=((l.map (·.1)).zip vs).toArray:=by
     rw [← hm,← hxs]
     simp only [List.map_toArray,List.map_map]
     congr 1
     rw [List.zip_map']
     rfl
   rw [e,e2,Sem.run_bind',run_build w T _ cells.toArray (by simpa using hbuilt)];rfl
 rw [this];exact cg _ _
end
theorem StE.ents{ps ps':List Per}{hp:List Res}(h:∀ p∈ps',Ent ps p):StE ps hp ps' hp:=fun w S fp hst =>
 ⟨S,fp,⟨fun p hp=>h p hp w S hst.per,hst.res,hst.lt,hst.dj,hst.slt⟩,fun _ h=>h,fun _ h=>.inl h,fun _ h=>h⟩
end Go.Sy
namespace Go.Proofs.YtebnelfdimiifaaGreatDoor
open Go.RowKit Go.Lp Go.Sy
abbrev cO:Int→List D:=fun z=>[D.v (eI z)]
end Go.Proofs.YtebnelfdimiifaaGreatDoor

