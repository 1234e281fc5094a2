/- Parts of the proof, in build order. No condition. -/
import Derived.Test.YtgkbbdgklpabpaaGreatDoorSc03
import Derived.Great.BuildSlice
import Derived.Laws.Cover3
import Derived.Lib.Bytealg
import Derived.Laws.Externs
import Derived.Laws.Concat
import Derived.Laws.Slices
import Derived.Laws.BytesString
set_option linter.unusedSimpArgs false
set_option linter.unusedVariables false
set_option maxHeartbeats 20000000
set_option maxRecDepth 20000
namespace Go.Sy
open Go.RowKit Go.Lp
def bld(place:Nat→Option (Nat × Nat)):List Value→List (Nat × Value)→Option (List Value)
 | cells,[]=>some cells
 | cells,(i,v)::rest=>match place i with
   | some (off,size)=>match wrL size cells off v.cells.toList with
     | some cells'=>bld place cells' rest
     | none=>none
   | none=>none
theorem sw(off:Nat):∀ (vs:List Value) (k:Nat) (cs:List Value),off+k+vs.length≤cs.length →
   (vs.zipIdx k).foldl (fun (cs:Array Value) (x:Value × Nat)=>cs.setIfInBounds (off+x.2) x.1) cs.toArray=(wrC cs (off+k) vs).toArray
 | [],k,cs,_=>by simp [wrC]
 | v :: vs,k,cs,h=>by
   have hlt:off+k<cs.length:=by simp at h;omega
   rw [List.zipIdx_cons,List.foldl_cons]
   have e:(cs.toArray.setIfInBounds (off+k) v)=(cs.set (off+k) v).toArray:=by simp
   rw [e,sw off vs (k+1) (cs.set (off+k) v) (by simp at h ⊢;omega)]
   congr 1
   unfold wrC
   apply List.ext_getElem?
   intro j
   simp only [List.getElem?_append,List.length_take,List.length_set,List.getElem?_take,List.getElem?_drop,List.getElem?_set,List.length_cons,List.getElem?_cons]
   rw [Nat.min_eq_left (by simp at h;omega),Nat.min_eq_left (by omega)]
   by_cases h1:j<off+k
   · simp [show j<off+(k+1) by omega,h1,show ¬ off+k=j by omega]
   · by_cases h2:j=off+k
     · subst h2;simp [hlt]
     · have h3:¬ j<off+(k+1):=by omega
       simp only [h1,h3,if_false]
       by_cases h5:j-(off+(k+1))<vs.length
       · rw [if_pos h5,if_pos (by omega),if_neg (by omega)]
         congr 1<;>omega
       · rw [if_neg h5,if_neg (by omega),if_neg (by omega)]
         congr 1<;>omega
theorem jY(place:Nat→Option (Nat × Nat)):∀ (parts:List (Nat × Value)) (cells cells':List Value),bld place cells parts=some cells'→Instr.fill place cells.toArray parts=some cells'.toArray
 | [],cells,cells',h=>by simp only [bld,Option.some.injEq] at h;subst h;rfl
 | (i, v)::rest,cells,cells',h=>by
   unfold bld at h
   split at h
   · rename_i off size hp
     split at h
     · rename_i c1 hc1
       obtain ⟨h1,_,h3,rfl⟩:=ru _ _ _ _ _ hc1
       have ih:=jY place rest _ cells' h
       have hsz:v.cells.size=size:=by rw [← h1];simp
       have hf:v.cells.zipIdx.foldl (fun cs (x:Value × Nat)=>cs.setIfInBounds (off+x.2) x.1) cells.toArray=(wrC cells off v.cells.toList).toArray:=by
         rw [← Array.foldl_toList,Array.toList_zipIdx]
         exact sw off v.cells.toList 0 cells (by omega)
       have hle:¬ off+v.cells.size>cells.toArray.size:=by simp at h3 ⊢;omega
       simp only [Instr.fill,hp]
       rw [if_neg (by simp [hsz];simpa [hsz] using hle)]
       have:(v.cells.zipIdx.foldl (fun cs (c,j)=>cs.setIfInBounds (off+j) c) cells.toArray)=(wrC cells off v.cells.toList).toArray:=hf
       rw [this]
       exact ih
     · cases h
   · cases h
def placesOf(P:Program)(T:TypeId):Option (List (Nat × Nat)) :=
 match P.underlying T with
 | some (.struct fields)=>fields.toList.mapM (fun f=>(P.info? f.type).map fun i=>(f.offset,i.size))
 | some (.array n e)=>(P.info? e).map fun i=>(List.range n).map fun k=>(k*i.size,i.size)
 | _=>none
def vJ(P:Program)(T:TypeId):Bool:=match P.underlying T with
 | some (.struct _)=>true
 | _=>false
section
variable {P:Program} {n:Fr} {env:Env} {ps:List Per} {hp:List Res} {ty:TypeId} {pos:String} {af:Array Edge} {gd:Option (Nat × Bool)} {K:Sta→Prop} {d:Option Tmp} {v:Value} {q:Bool}
theorem bP {T:TypeId} {l:List (Nat × Operand)} {xs:List Operand} {vs:List Value} {zs cells:List Value} {pl:List (Nat × Nat)} (hst:vJ P T=true) (hz:ec P T=some zs) (hpl:placesOf P T=some pl) (hxs:l.map (·.2)=xs) (hx:evs env xs=some vs)
   (hb:bld (pl[·]?) zs ((l.map (·.1)).zip vs)=some cells) :
   Quiet P n ⟨d,.build T l.toArray,ty,pos,af,gd⟩ ⟨env,ps,hp⟩ (.agg cells.toArray):=fun w S fp a hs he hn=>by
 have hm:=eM he xs vs hx
 have hf:=jY _ _ _ _ hb
 have hbuilt:P.built T ((l.map (·.1)).zip vs)=some cells.toArray:=by
   unfold vJ at hst
   unfold placesOf at hpl
   unfold ec at hz
   unfold Program.built
   cases hi:P.info? T with
   | none=>rw [hi] at hz;cases hz
   | some it =>
     rw [hi] at hz
     cases hzz:it.zero with
     | none=>rw [Option.bind_some,hzz] at hz;cases hz
     | some z =>
       rw [Option.bind_some,hzz] at hz
       simp only [Option.map_some,Option.some.injEq] at hz
       cases hu:P.underlying T with
       | none=>rw [hu] at hst;cases hst
       | some dd =>
         rw [hu] at hst hpl
         cases dd with
         | struct fields =>
           simp only at hpl
           simp only [hzz,hpl]
           have e:z.cells=zs.toArray:=by rw [← hz]
           rw [e]
           simpa using hf
         | _=>cases hst
 have:(execOp a.eval ⟨d,.build T l.toArray,ty,pos,af,gd⟩).run P w=.ok (.value (.agg cells.toArray)) w:=by
   have e:(execOp a.eval ⟨d,.build T l.toArray,ty,pos,af,gd⟩)=(Instr.build T (l.toArray.map fun (i,x)=>(i,a.eval x))).bind fun r=>Sem.pure (Next.value r):=rfl
   have e2:l.toArray.map (fun (i,x)=>(i,a.eval x))=((l.map (·.1)).zip vs).toArray:=by
     rw [← hm,← hxs]
     simp only [List.map_toArray,List.map_map]
     congr 1
     rw [List.zip_map']
     rfl
   rw [e,e2,Sem.run_bind',run_build w T _ cells.toArray (by simpa using hbuilt)];rfl
 rw [this];exact bE _ _
def iL:Nat→List Value→List Value
 | 0,_=>[]
 | n+1,zs=>zs++iL n zs
theorem sV(n:Nat)(zs:List Value):(iL n zs).length=n*zs.length:=by
 induction n with
 | zero=>simp [iL]
 | succ n ih=>simp [iL,ih,Nat.add_mul];omega
theorem ow(zs:List Value)(h0:0<zs.length):∀ (n j:Nat),j<n*zs.length→(iL n zs)[j]? = zs[j % zs.length]?
 | 0,j,h=>by omega
 | n + 1,j,h=>by
   unfold iL
   rw [List.getElem?_append]
   split
   · rename_i hj;rw [Nat.mod_eq_of_lt hj]
   · rename_i hj
     have e:j % zs.length=(j-zs.length) % zs.length:=Nat.mod_eq_sub_mod (by omega)
     rw [ow zs h0 n (j-zs.length) (by rw [Nat.add_mul] at h;omega),e]
theorem vv(z:Array Value)(n:Nat)(h0:0<z.size):(madeCells z (n*z.size))=(iL n z.toList).toArray:=by
 apply Array.ext'
 rw [List.toList_toArray]
 apply List.ext_getElem?
 intro j
 by_cases hj:j<n*z.size
 · rw [ow z.toList (by simpa using h0) n j (by simpa using hj)]
   have hm:j % z.size<z.size:=Nat.mod_lt _ h0
   simp only [madeCells,Array.toList_map,Array.toList_range,List.getElem?_map,List.getElem?_range hj,Option.map_some,Array.length_toList,Array.getElem?_toList]
   simp [hm]
 · rw [List.getElem?_eq_none (by simp [madeCells];omega),List.getElem?_eq_none (by rw [sV];simpa using hj)]
theorem xA{w:World}{S:ba}{zs:List Value}(h1:∀ v∈zs,v.oneCell'=true)(n:Nat):dF w S zs.length (iL n zs) (List.replicate n (zs.map .v)):=by
 refine ⟨by simp [sV],fun i r h => ?_,fun v hv => ?_,fun i j r dd h1' h2 => ?_⟩
 · rw [List.getElem?_replicate] at h
   split at h
   · simp only [Option.some.injEq] at h;rw [← h];simp
   · cases h
 · induction n with
   | zero=>simp [iL] at hv
   | succ n ih =>
     unfold iL at hv
     rcases List.mem_append.1 hv with h | h
     · exact h1 v h
     · exact ih h
 · rw [List.getElem?_replicate] at h1'
   split at h1'
   · rename_i hi
     simp only [Option.some.injEq] at h1'
     rw [← h1',List.getElem?_map] at h2
     cases hj:zs[j]? with
     | none=>rw [hj] at h2;cases h2
     | some u =>
       rw [hj] at h2
       simp only [Option.map_some,Option.some.injEq] at h2
       have hjl:=(List.getElem?_eq_some_iff.1 hj).1
       refine ⟨u,?_,by rw [← h2];exact .v u⟩
       have hlt:i*zs.length+j<n*zs.length:=by
         have:=Nat.mul_le_mul_right zs.length (show i+1≤n by omega)
         rw [Nat.add_mul] at this;omega
       rw [ow zs (by omega) n _ hlt,Nat.mul_comm,Nat.mul_add_mod,Nat.mod_eq_of_lt hjl];exact hj
   · cases h1'
theorem rf{w:World}{S:ba}{E:TypeId}{sz m:Nat}{cs:List Value}{rows:List (List D)}(h:dF w S sz cs rows)(hst:∀ b,S b→b<w.heap.size)(hm:rows.length=m)(hle:m≤maxLen) :
   (aP (.slice (some ⟨w.heap.size,0,none⟩) m m) E sz rows).holds (w.alloc (.cells cs.toArray E)) S (fun b=>b=w.heap.size):=by
 refine .inr ⟨w.heap.size,m,by rw [hm],⟨cs,[],by rw [List.append_nil];exact nS _ _,h.mono (fun b hb=>(fl w _).block b (hst b hb)) (fun _ h=>h),by rw [List.append_nil,h.len,hm],by omega,hle⟩,fun _=>Iff.rfl⟩
theorem abC{t:Nat}{T E:TypeId}{it:TypeInfo}{x y:Operand}{m:Nat}{zs:List Value}(hT:P.underlying T=some (.slice E))(hi:P.info? E=some it)(hz:ec P E=some zs)(h1:zs.all (·.oneCell')=true)(hsz:it.size=zs.length)(h0:0<zs.length)(hby:it.bytes≤4096)
   (hx:ev env x=some (true,.int .i64 m)) (hy:ev env y=some (true,.int .i64 m)) (hm:m≤1000000000) (ht:fits n (some t)=true)
   (hK:∀ ad,K ⟨(t,true,.slice ad m m)::env,ps,hp++[aP (.slice ad m m) E zs.length (List.replicate m (zs.map .v))]⟩) :
   Eff P n ⟨some t,.makeSlice T x y,ty,pos,af,gd⟩ ⟨env,ps,hp⟩ q K:=.push fun w S fp a hst he hn=>by
 have e1:=he.val hx rfl
 have e2:=he.val hy rfl
 obtain ⟨z,hzz,hzc⟩:∃ z,it.zero=some z∧z.cells.toList=zs:=by
   unfold ec at hz
   rw [hi] at hz
   cases hzz:it.zero with
   | none=>rw [Option.bind_some,hzz] at hz;cases hz
   | some z=>rw [Option.bind_some,hzz] at hz;simp only [Option.map_some,Option.some.injEq] at hz;exact ⟨z,rfl,hz⟩
 have hzl:z.cells.size=zs.length:=by rw [← hzc];simp
 have hb:(it.bytes:Int)*(m:Int)≤281474976710656:=by
   have h1:it.bytes*m≤4096*1000000000:=Nat.mul_le_mul hby hm
   have:((it.bytes*m:Nat):Int)≤((4096*1000000000:Nat):Int):=by exact_mod_cast h1
   rw [← Int.natCast_mul];omega
 have hrun:=run_make (P:=P) w T E it z hT hi hzz .i64 .i64 m m (by omega) (by omega) hb (by omega)
 rw [Int.toNat_natCast,hsz,← hzl,vv _ _ (by omega),hzc] at hrun
 have:(execOp a.eval ⟨some t,.makeSlice T x y,ty,pos,af,gd⟩).run P w=.ok (.value (.slice (some ⟨w.heap.size,0,none⟩) m m)) (w.alloc (.cells (iL m zs).toArray E)):=by
   show ((Instr.makeSlice T (a.eval x) (a.eval y)).bind fun r=>Sem.pure (Next.value r)).run P w=_
   rw [e1,e2,Sem.run_bind',hrun];rfl
 rw [this]
 refine ⟨_,fun b=>b=w.heap.size,_,hK (some ⟨w.heap.size,0,none⟩),rfl,rfl,he.put (g:=true) (by rw [hn];simpa [fits] using ht) _,fl _ _,rf (xA (fun v hv=>List.all_eq_true.1 h1 v hv) m) hst.slt (by simp) (by unfold maxLen;omega),fun b hb => ?_⟩
 subst hb;simp
theorem qW{t:Nat}{T E:TypeId}{it:TypeInfo}{len:Nat}{l:List (Nat × Operand)}{xs:List Operand}{vs zs cs:List Value}{rows:List (List D)}(hT:P.underlying T=some (.slice E))(hi:P.info? E=some it)(hz:ec P E=some zs)(hsz:it.size=zs.length)(h0:0<zs.length)
   (hlen:0<len) (hsm:len*zs.length≤16777216) (hxs:l.map (·.2)=xs) (hx:evs env xs=some vs) (hb:bld (fun i=>some (i*zs.length,zs.length)) (iL len zs) ((l.map (·.1)).zip vs)=some cs) (hr:RCs ps zs.length cs rows) (hrl:rows.length=len) (ht:fits n (some t)=true)
   (hK:∀ ad,K ⟨(t,true,.slice ad len len)::env,ps,hp++[aP (.slice ad len len) E zs.length rows]⟩) :
   Eff P n ⟨some t,.buildSlice T len l.toArray,ty,pos,af,gd⟩ ⟨env,ps,hp⟩ q K:=.push fun w S fp a hst he hn=>by
 have hm:=eM he xs vs hx
 obtain ⟨z,hzz,hzc⟩:∃ z,it.zero=some z∧z.cells.toList=zs:=by
   unfold ec at hz
   rw [hi] at hz
   cases hzz:it.zero with
   | none=>rw [Option.bind_some,hzz] at hz;cases hz
   | some z=>rw [Option.bind_some,hzz] at hz;simp only [Option.map_some,Option.some.injEq] at hz;exact ⟨z,rfl,hz⟩
 have hzl:z.cells.size=zs.length:=by rw [← hzc];simp
 have hf:=jY _ _ _ _ hb
 have hme:=vv z.cells len (by omega)
 rw [hzc] at hme
 unfold madeCells at hme
 have hrun:=run_buildSlice (P:=P) w T E len ((l.map (·.1)).zip vs).toArray cs.toArray it z hT hi hzz (by rw [hsz];omega) (by rw [hsz];have:=Nat.mul_pos hlen h0;omega) (by rw [hsz,← hzl,hme,hzl];simpa using hf)
 have e2:l.toArray.map (fun (i,x)=>(i,a.eval x))=((l.map (·.1)).zip vs).toArray:=by
   rw [← hm,← hxs]
   simp only [List.map_toArray,List.map_map]
   congr 1
   rw [List.zip_map']
   rfl
 have:(execOp a.eval ⟨some t,.buildSlice T len l.toArray,ty,pos,af,gd⟩).run P w=.ok (.value (.slice (some ⟨w.heap.size,0,none⟩) len len)) (w.alloc (.cells cs.toArray E)):=by
   show ((Instr.buildSlice T len (l.toArray.map fun (i,x)=>(i,a.eval x))).bind fun r=>Sem.pure (Next.value r)).run P w=_
   rw [e2,Sem.run_bind',hrun];rfl
 rw [this]
 refine ⟨_,fun b=>b=w.heap.size,_,hK (some ⟨w.heap.size,0,none⟩),rfl,rfl,he.put (g:=true) (by rw [hn];simpa [fits] using ht) _,fl _ _,rf (hr.rows hst.per) hst.slt hrl (by unfold maxLen;have:=Nat.le_mul_of_pos_right len h0;omega),fun b hb => ?_⟩
 subst hb;simp
end
def elB(P:Program)(T E:TypeId)(sz:Nat):Bool :=
 match P.underlying T with
 | some (.slice e)=>e == E && match P.info? E with
   | some it=>it.zero.map (·.cells.size) == some it.size && it.size == sz && decide (it.bytes≤4096)
   | none=>false
 | _=>false
theorem di{P:Program}{T E:TypeId}{sz:Nat}(h:elB P T E sz=true):P.underlying T=some (.slice E)∧∃ it,P.info? E=some it∧(it.zero.map fun z=>z.cells.size)=some it.size∧it.size=sz∧it.bytes≤4096:=by
 unfold elB at h
 split at h
 · rename_i e hu
   simp only [Bool.and_eq_true,beq_iff_eq] at h
   obtain ⟨rfl,h⟩:=h
   split at h
   · rename_i it hi
     simp only [Bool.and_eq_true,beq_iff_eq,decide_eq_true_eq] at h
     exact ⟨hu,it,hi,h.1.1,h.1.2,h.2⟩
   · cases h
 · cases h
theorem RCs.more{ps:List Per}{sz:Nat}{cs us:List Value}{r:List D}{rows:List (List D)}(h1:tkL sz cs=some us)(hr:RC ps us r)(h2:RCs ps sz (cs.drop sz) rows):RCs ps sz cs (r::rows):=by
 obtain ⟨hl,rfl⟩:=uX _ _ _ h1
 have:=RCs.cons (by simp;omega) hr h2
 rwa [List.take_append_drop] at this
section
variable {P:Program} {n:Fr} {env:Env} {ps:List Per} {hp:List Res} {ty:TypeId} {pos:String} {af:Array Edge} {gd:Option (Nat × Bool)} {K:Sta→Prop} {d:Option Tmp} {v:Value} {q:Bool}
theorem bH{t:Nat}{x y:Operand}{T tx E:TypeId}{sz:Nat}{vy:Value}{rows rows2:List (List D)}(i:Nat)(hel:elB P T E sz=true)
   (hx:ev env x=some (true,v)) (hy:ev env y=some (true,vy)) (ht:fits n (some t)=true) (hi:hp[i]? = some (aP v E sz rows)) (hs:kF P ⟨env,ps,hp⟩ tx sz vy rows2) (h0:rows2≠[]) (hle:rows.length+rows2.length≤1000000000)
   (m:Nat) (hm:rows.length+rows2.length=m) (hK:∀ ad c,K ⟨(t,true,.slice ad m c)::env,ps,hp.set i (aP (.slice ad m c) E sz (rows++rows2))⟩) :
   Eff P n ⟨some t,.call ⟨.builtin .append,#[x,y],#[T,tx]⟩,ty,pos,af,gd⟩ ⟨env,ps,hp⟩ false K:=by
 obtain ⟨h1,it,h2,h3,h4,h5⟩:=di hel
 exact yW i h1 h2 h3 h4 h5 hx hy ht hi hs h0 hle m hm hK
theorem cP{T:TypeId}{tx E:TypeId}{sz:Nat}{x:Value}{rows:List (List D)}(j:Nat)(hel:elB P tx E sz=true)(hj:hp[j]? = some (aP x T sz rows))(hne:rows≠[]):kF P ⟨env,ps,hp⟩ tx sz x rows:=aa4 j (di hel).1 hj hne
theorem ab8{tx E:TypeId}{sz:Nat}{x:Value}{rows:List (List D)}(hel:elB P tx E sz=true)(hs:Sh x (.sl rows)∈ps)(hrl:∀ r∈rows,r.length=sz)(hne:rows≠[]):kF P ⟨env,ps,hp⟩ tx sz x rows:=ab1 (di hel).1 hs hrl hne
theorem fF{t:Nat}{T E:TypeId}{x y:Operand}{m:Nat}{zs:List Value}(hel:elB P T E zs.length=true)(hz:ec P E=some zs)(h1:zs.all (·.oneCell')=true)(h0:0<zs.length)
   (hx:ev env x=some (true,.int .i64 m)) (hy:ev env y=some (true,.int .i64 m)) (hm:m≤1000000000) (ht:fits n (some t)=true)
   (hK:∀ ad,K ⟨(t,true,.slice ad m m)::env,ps,hp++[aP (.slice ad m m) E zs.length (List.replicate m (zs.map .v))]⟩) :
   Eff P n ⟨some t,.makeSlice T x y,ty,pos,af,gd⟩ ⟨env,ps,hp⟩ q K:=by
 obtain ⟨h1',it,h2,h3,h4,h5⟩:=di hel
 exact abC h1' h2 hz h1 h4 h0 h5 hx hy hm ht hK
theorem aal{t:Nat}{T E:TypeId}{len:Nat}{l:List (Nat × Operand)}{xs:List Operand}{vs zs cs:List Value}{rows:List (List D)}(hel:elB P T E zs.length=true)(hz:ec P E=some zs)(h0:0<zs.length)
   (hlen:0<len) (hsm:len*zs.length≤16777216) (hxs:l.map (·.2)=xs) (hx:evs env xs=some vs) (hb:bld (fun i=>some (i*zs.length,zs.length)) (iL len zs) ((l.map (·.1)).zip vs)=some cs) (hr:RCs ps zs.length cs rows) (hrl:rows.length=len) (ht:fits n (some t)=true)
   (hK:∀ ad,K ⟨(t,true,.slice ad len len)::env,ps,hp++[aP (.slice ad len len) E zs.length rows]⟩) :
   Eff P n ⟨some t,.buildSlice T len l.toArray,ty,pos,af,gd⟩ ⟨env,ps,hp⟩ q K:=by
 obtain ⟨h1',it,h2,h3,h4,h5⟩:=di hel
 exact qW h1' h2 hz h4 h0 hlen hsm hxs hx hb hr hrl ht hK
end
end Go.Sy

namespace Go.Sy
open Go.RowKit
section
variable {P:Program} {n:Fr} {s:Sta} {d:Option Tmp} {ty:TypeId} {pos:String} {af:Array Edge} {gd:Option (Nat × Bool)} {x:Operand} {T t':TypeId}
theorem rk{E:TypeId}{ad:Option Addr}{k c:Nat}(hT:P.underlying T=some (.slice E))(hx:ev s.env x=some (true,.slice ad k c)):Quiet P n ⟨d,.binOp .eql T x (.const (.slice none 0 0)) t',ty,pos,af,gd⟩ s (.bool ad.isNone) :=
 .run2 (vy:=.slice none 0 0) hx rfl fun ρ w h1 h2=>by
   unfold execOp;dsimp only;rw [h1,h2]
   simp only [eqGuard_at_slice,binOp,Sem.run_bind,Sem.run_pure,run_equal_slice_nil w T E ad k c hT,Result.andThen_ok]
end
section
variable {P:Program} {n:Fr} {env:Env} {ps:List Per} {hp:List Res} {ty:TypeId} {pos:String} {af:Array Edge} {gd:Option (Nat × Bool)} {q:Bool} {K:Sta→Prop}
theorem uZ{t:Nat}{T E:TypeId}{sz:Nat}(hel:elB P T E sz=true)(ht:fits n (some t)=true)
   (hK:∀ ad,K ⟨(t,true,.slice ad 0 0)::env,ps,hp++[aP (.slice ad 0 0) E sz []]⟩) :
   Eff P n ⟨some t,.buildSlice T 0 #[],ty,pos,af,gd⟩ ⟨env,ps,hp⟩ q K:=.push fun w S fp a hst he hn=>by
 obtain ⟨hT,it,hi,h3,h4,h5⟩:=di hel
 have:(execOp a.eval ⟨some t,.buildSlice T 0 #[],ty,pos,af,gd⟩).run P w=.ok (.value (.slice (some ⟨w.heap.size,0,none⟩) 0 0)) (w.alloc (.cells #[] E)):=by
   show ((Instr.buildSlice T 0 ((#[]:Array (Nat × Operand)).map fun (i,x)=>(i,a.eval x))).bind fun r=>Sem.pure (Next.value r)).run P w=_
   have hrun:(Instr.buildSlice T 0 #[]).run P w=.ok (.slice (some ⟨w.heap.size,0,none⟩) 0 0) (w.alloc (.cells #[] E)):=by
     simp [Instr.buildSlice,run_underlying hT,sizeOf,typeInfo,hi,newRow,Instr.fill,show Array.range 0 = #[] by decide]
   rw [Array.map_empty,Sem.run_bind',hrun];rfl
 rw [this]
 refine ⟨_,fun b=>b=w.heap.size,_,hK (some ⟨w.heap.size,0,none⟩),rfl,rfl,he.put (g:=true) (by rw [hn];simpa [fits] using ht) _,fl _ _,rf (cs:=[]) (RCs.rows .nil hst.per) hst.slt rfl (by unfold maxLen;omega),fun b hb => ?_⟩
 subst hb;simp
end
theorem yg{P:Program}{n:Fr}{env:Env}{ps:List Per}{hp:List Res}{c:Code}{Q:Exit→Sta→Prop}(p:Per)(hf:∀ w S,(∀ q∈ps,q.holds w S)→p.holds w S)(h:awp P n c Q ⟨env,p::ps,hp⟩):awp P n c Q ⟨env,ps,hp⟩:=fun w S fp a hst he hn hd =>
 h w S fp a ⟨fun q hq=>by
   rcases List.mem_cons.1 hq with rfl | hq
   · exact hf w S hst.per
   · exact hst.per q hq,hst.res,hst.lt,hst.dj,hst.slt⟩ he hn hd
end Go.Sy

namespace Go.Sy
open Go.RowKit Go.Lp
def pB:Value→Nat
 | .slice (some a) _ _=>a.block
 | _=>0
theorem abh{cs vs:List Value}{o:Nat}(h:o+vs.length≤cs.length)(k:Nat):(wrC cs o vs)[k]? = if k<o then cs[k]? else if k<o+vs.length then vs[k-o]? else cs[k]? := by
 unfold wrC
 simp only [List.getElem?_append,List.length_take,List.getElem?_take,List.getElem?_drop]
 rw [Nat.min_eq_left (by omega)]
 by_cases h1:k<o
 · simp [h1]
 · by_cases h2:k<o+vs.length
   · rw [if_neg h1,if_pos (by omega),if_neg h1,if_pos h2]
   · rw [if_neg h1,if_neg (by omega),if_neg h1,if_neg h2];congr 1;omega
theorem vP{cs vs:List Value}{o:Nat}(h:o+vs.length≤cs.length):(wrC cs o vs).length=cs.length:=by
 unfold wrC;simp;omega
theorem u5{cs sp vs:List Value}{o:Nat}(h:o+vs.length≤cs.length):wrC (cs++sp) o vs=wrC cs o vs++sp:=by
 unfold wrC
 rw [List.take_append_of_le_length (by omega),List.drop_append_of_le_length (by omega)]
 simp
def jP(row:List D)(j:Nat)(ds:List D):List D:=row.take j++(ds++row.drop (j+ds.length))
theorem z7{row ds:List D}{j:Nat}(h:j+ds.length≤row.length):(jP row j ds).length=row.length:=by
 unfold jP;simp;omega
theorem z6{row ds:List D}{j:Nat}(h:j+ds.length≤row.length)(k:Nat):(jP row j ds)[k]? = if k<j then row[k]? else if k<j+ds.length then ds[k-j]? else row[k]? := by
 unfold jP
 simp only [List.getElem?_append,List.length_take,List.getElem?_take,List.getElem?_drop]
 rw [Nat.min_eq_left (by omega)]
 by_cases h1:k<j
 · simp [h1]
 · by_cases h2:k<j+ds.length
   · rw [if_neg h1,if_pos (by omega),if_neg h1,if_pos h2]
   · rw [if_neg h1,if_neg (by omega),if_neg h1,if_neg h2];congr 1;omega
theorem dF.set{w:World}{S:ba}{sz:Nat}{cs:List Value}{rows:List (List D)}(h:dF w S sz cs rows){r j:Nat}{row ds:List D}{vs:List Value}(hr:rows[r]? = some row)(hl:vs.length=ds.length)(hj:j+ds.length≤sz)
   (h1:∀ v∈vs,v.oneCell'=true) (hd:∀ (k:Nat) (d:D),ds[k]? = some d→∃ u,vs[k]? = some u∧dT w S u d):dF w S sz (wrC cs (r*sz+j) vs) (rows.set r (jP row j ds)):=by
 have hrl:=(List.getElem?_eq_some_iff.1 hr).1
 have hrow:=h.row r row hr
 have hle:r*sz+j+vs.length≤cs.length:=by
   have:=Nat.mul_le_mul_right sz (show r+1≤rows.length by omega)
   rw [Nat.add_mul] at this
   have:=h.len;omega
 refine ⟨by rw [vP hle,h.len];simp,fun i r' hi => ?_,fun v hv => ?_,fun i k r' d hi hk => ?_⟩
 · by_cases hir:r=i
   · subst hir
     rw [List.getElem?_set_self hrl] at hi
     simp only [Option.some.injEq] at hi
     rw [← hi,z7 (by omega)];exact hrow
   · rw [List.getElem?_set_ne hir] at hi;exact h.row i r' hi
 · unfold wrC at hv
   rcases List.mem_append.1 hv with hv | hv
   · exact h.one v (List.mem_of_mem_take hv)
   · rcases List.mem_append.1 hv with hv | hv
     · exact h1 v hv
     · exact h.one v (List.mem_of_mem_drop hv)
 · rw [abh hle]
   by_cases hir:r=i
   · subst hir
     rw [List.getElem?_set_self hrl] at hi
     simp only [Option.some.injEq] at hi
     subst hi
     rw [z6 (by omega)] at hk
     by_cases c1:k<j
     · rw [if_pos c1] at hk
       rw [if_pos (by omega)]
       exact h.rep r k row d hr hk
     · rw [if_neg c1] at hk
       rw [if_neg (by omega)]
       by_cases c2:k<j+ds.length
       · rw [if_pos c2] at hk
         rw [if_pos (by omega),show r*sz+k-(r*sz+j)=k-j by omega]
         exact hd _ d hk
       · rw [if_neg c2] at hk
         rw [if_neg (by omega)]
         exact h.rep r k row d hr hk
   · rw [List.getElem?_set_ne hir] at hi
     have hks:k<sz:=by rw [← h.row i r' hi];exact (List.getElem?_eq_some_iff.1 hk).1
     have hno:i*sz+k<r*sz+j∨r*sz+j+vs.length≤i*sz+k:=by
       rcases Nat.lt_or_gt_of_ne hir with hlt | hlt
       · have:=Nat.mul_le_mul_right sz (show r+1≤i by omega)
         rw [Nat.add_mul] at this;omega
       · have:=Nat.mul_le_mul_right sz (show i+1≤r by omega)
         rw [Nat.add_mul] at this;omega
     obtain ⟨u,hu,hr'⟩:=h.rep i k r' d hi hk
     refine ⟨u,?_,hr'⟩
     rcases hno with hno | hno
     · rw [if_pos hno];exact hu
     · rw [if_neg (by omega),if_neg (by omega)];exact hu
section
variable {P:Program} {n:Fr} {env:Env} {ps:List Per} {hp:List Res} {ty:TypeId} {pos:String} {af:Array Edge} {gd:Option (Nat × Bool)} {K:Sta→Prop} {d:Option Tmp} {v:Value} {E T U:TypeId} {sz:Nat} {rows:List (List D)} {x y:Operand}
theorem bK(i k:Nat)(hel:elB P T E sz=true)(hx:ev env x=some (true,v))(hi:hp[i]? = some (aP v E sz rows)){z:Int}(hy:ev env y=some (true,.int .i64 z))(hz:z=(k:Int))(hk:k<rows.length) :
   Quiet P n ⟨d,.indexAddr T x y,ty,pos,af,gd⟩ ⟨env,ps,hp⟩ (.pointer (some ⟨pB v,k*sz,none⟩)):=fun w S fp a hst he hn=>by
 subst hz
 obtain ⟨hT,it,hit,_,hsz,_⟩:=di hel
 have h1:=he.val hx rfl
 have h2:=he.val hy rfl
 rcases hst.res i _ hi with ⟨_,rfl,_⟩ | ⟨B,c,rfl,_⟩
 · simp at hk
 · have:(execOp a.eval ⟨d,.indexAddr T x y,ty,pos,af,gd⟩).run P w=.ok (.value (.pointer (some ⟨B,k*sz,none⟩))) w:=by
     unfold execOp;dsimp only;rw [h1,h2]
     show ((Instr.indexAt T (.slice (some ⟨B,0,none⟩) rows.length c) (.int .i64 k)).bind fun r=>Sem.pure (Next.value r)).run P w=_
     have hE:P.elem T=E:=by unfold Program.elem;rw [hT]
     rw [Sem.run_bind',run_indexAt_slice _ _ _ _ _ _ _ (by rw [hE];exact hT),if_pos (by omega),hE,cF hit,hsz]
     simp only [Result.andThen,Int.toNat_natCast]
     unfold Addr.add
     split
     · rename_i h0;rw [h0];rfl
     · simp only [Nat.zero_add];rfl
   rw [this];exact bE _ _
theorem zw{w:World}{S F:ba}(h:(aP v E sz rows).holds w S F){r:Nat}{row:List D}(hr:rows[r]? = some row){j:Nat}{dd:D}(hj:row[j]? = some dd):∃ u,w.cell? ⟨pB v,r*sz+j,none⟩=some u∧dT w S u dd∧u.oneCell'=true:=by
 rcases h with ⟨_,rfl,_⟩ | ⟨b,cap,rfl,⟨cs,sp,h1,h2,_⟩,_⟩
 · simp at hr
 · obtain ⟨u,hu,hrep⟩:=h2.rep r j row dd hr hj
   refine ⟨u,?_,hrep,h2.one u (List.mem_of_getElem? hu)⟩
   show w.cell? ⟨b,r*sz+j,none⟩=_
   rw [dL h1,List.getElem?_append_left (List.getElem?_eq_some_iff.1 hu).1];exact hu
theorem bl{ag:Bool}{kk o:Nat}{row:List D}{u:Value}(i r j:Nat)(hk:tyk P U=some (ag,kk))(hx:ev env x=some (true,.pointer (some ⟨pB v,o,none⟩)))(hi:hp[i]? = some (aP v E sz rows))(hr:rows[r]? = some row)(ho:o=r*sz+j)(hv:rdD ag kk row j=some u) :
   Quiet P n ⟨d,.load U x,ty,pos,af,gd⟩ ⟨env,ps,hp⟩ u:=fun w S fp a hst he hn=>by
 subst ho
 have h1:=he.val hx rfl
 have hres:=hst.res i _ hi
 have hat:(At (pB v) (r*sz) row).holds w (fun _=>True):=⟨trivial,fun j dd hj=>by
   obtain ⟨u,hu,hrep,h1⟩:=zw hres hr hj
   exact ⟨u,hu,h1,hrep.mono (fun _ _=>rfl) (fun _ _=>trivial)⟩⟩
 have:(execOp a.eval ⟨d,.load U x,ty,pos,af,gd⟩).run P w=.ok (.value u) w:=by
   unfold execOp;dsimp only;rw [h1]
   have:=mD (P:=P) hk hv hat
   show ((loadVar U ⟨pB v,r*sz+j,none⟩).bind fun r=>Sem.pure (Next.value r)).run P w=_
   rw [Sem.run_bind',this];rfl
 rw [this];exact bE _ _
theorem cY{ag:Bool}{kk o:Nat}{row ds:List D}{vy:Value}(i r j:Nat)(hk:tyk P U=some (ag,kk))(hx:ev env x=some (true,.pointer (some ⟨pB v,o,none⟩)))(hy:ev env y=some (true,vy))(hi:hp[i]? = some (aP v E sz rows))(hr:rows[r]? = some row)(ho:o=r*sz+j)
   (hc:RC ps vy.cells.toList ds) (hl:ds.length=kk) (hj:j+kk≤sz) (hK:K ⟨env,ps,hp.set i (aP v E sz (rows.set r (jP row j ds)))⟩) :
   Eff P n ⟨none,.store U x y,ty,pos,af,gd⟩ ⟨env,ps,hp⟩ false K:=.change i hi fun w S fp a hst he hn hR=>by
 subst ho
 have e1:=he.val hx rfl
 have e2:=he.val hy rfl
 obtain ⟨_,it,_,hit,_,hjk⟩:=gE hk
 obtain ⟨hvl,hv1,hvd⟩:=hc.get
 generalize hv:vy.cells.toList=vs at hvl hv1 hvd
 rcases hR with ⟨_,rfl,_⟩ | ⟨b,cap,rfl,⟨cs,sp,hb,hrows,hcap,hrc,hcm⟩,hF⟩
 · simp at hr
 · have hrl:=(List.getElem?_eq_some_iff.1 hr).1
   have hle:r*sz+j+vs.length≤cs.length:=by
     have:=Nat.mul_le_mul_right sz (show r+1≤rows.length by omega)
     rw [Nat.add_mul] at this
     have:=hrows.len;omega
   have:(execOp a.eval ⟨none,.store U x y,ty,pos,af,gd⟩).run P w=.ok .skip (w.setRow b (wrC (cs++sp) (r*sz+j) vs).toArray):=by
     show ((Instr.storeAt U (a.eval x) (a.eval y)).bind fun _=>Sem.pure Next.skip).run P w=_
     rw [e1,e2,Sem.run_bind']
     have:(Instr.storeAt U (.pointer (some ⟨b,r*sz+j,none⟩)) vy).run P w=.ok () (w.setRow b (wrC (cs++sp) (r*sz+j) vs).toArray):=by
       show (storeVar U ⟨b,r*sz+j,none⟩ vy).run P w=_
       unfold storeVar
       simp only [Sem.run_bind,cF hit,Result.andThen]
       have hsz:vy.cells.size=it.size:=by rw [hjk,← hl,← hvl,← hv];simp
       rw [if_neg (by simpa using hsz),hv]
       exact fV b E (r*sz+j) vs 0 (cs++sp) w hb hv1 (by simp;omega)
     show (Result.andThen ((Instr.storeAt U (.pointer (some ⟨b,r*sz+j,none⟩)) vy).run P w) _)=_
     rw [this];rfl
   rw [this]
   have hbS:¬ S b:=(hst.lt i (List.getElem?_eq_some_iff.1 hi).1 b ((hF b).2 rfl)).2
   refine ⟨aP _ E sz (rows.set r (jP row j ds)),_,hK,rfl,rfl,he,?_,rfl,rfl,⟨rfl,rfl⟩,by simp [World.setRow],fun b' hb' hne=>setRow_other _ _ _ _ (fun h=>hne ((hF b').2 h))⟩
   refine .inr ⟨b,cap,by simp,⟨wrC cs (r*sz+j) vs,sp,?_,?_,?_,by simpa using hrc,hcm⟩,hF⟩
   · rw [← u5 hle];exact setRow_heap _ _ _ _ _ _ hb
   · refine (hrows.set hr hvl (by omega) hv1 (fun k dd hk => ?_)).mono (fun b' hb'=>setRow_other _ _ _ _ (fun h=>hbS (h ▸ hb'))) (fun _ h=>h)
     obtain ⟨u,hu,hd⟩:=hvd k dd hk
     refine ⟨u,hu,?_⟩
     rcases hd with rfl | hd
     · exact .v u
     · exact hst.per _ hd
   · rw [List.length_append,vP hle,← List.length_append];exact hcap
end
def fa(R R':Res):Res :=
 ⟨fun w S F=>∃ G H:ba,R.holds w S G∧R'.holds w S H∧(∀ b,G b→¬ H b)∧∀ b,F b↔G b∨H b,
  fun ⟨G,H,h1,h2,h3,h4⟩ k1 k2 k3=>⟨G,H,R.mono h1 (fun b hb=>k1 b ((h4 b).2 (.inl hb))) k2 k3,R'.mono h2 (fun b hb=>k1 b ((h4 b).2 (.inr hb))) k2 k3,h3,h4⟩⟩
section
variable {w:World} {S:ba} {fp:Nat→ba} {ps:List Per} {hp:List Res}
theorem St.star(h:St w S fp ps hp){i j:Nat}{R R':Res}(hi:hp[i]? = some R)(hj:hp[j]? = some R')(hne:i≠j) :
   St w S (fun k=>if k=i then (fun b=>fp i b∨fp j b) else if k=j then (fun _=>False) else fp k) ps ((hp.set i (fa R R')).set j emp):=by
 have hil:=(List.getElem?_eq_some_iff.1 hi).1
 have hjl:=(List.getElem?_eq_some_iff.1 hj).1
 refine ⟨h.per,fun k T hk => ?_,fun k hk b hb => ?_,fun k l hk hl hkl b hb hb' => ?_,h.slt⟩
 · by_cases hkj:k=j
   · subst hkj
     rw [List.getElem?_set_self (by simpa using hjl)] at hk
     simp only [Option.some.injEq] at hk
     subst hk
     rw [if_neg (Ne.symm hne),if_pos rfl]
     exact fun b hb=>hb
   · rw [List.getElem?_set_ne (Ne.symm hkj)] at hk
     by_cases hki:k=i
     · subst hki
       rw [List.getElem?_set_self hil] at hk
       simp only [Option.some.injEq] at hk
       subst hk
       rw [if_pos rfl]
       exact ⟨fp k,fp j,h.res k R hi,h.res j R' hj,h.dj k j hil hjl hne,fun b=>Iff.rfl⟩
     · rw [List.getElem?_set_ne (Ne.symm hki)] at hk
       rw [if_neg hki,if_neg hkj]
       exact h.res k T hk
 · have hk':k<hp.length:=by simpa using hk
   by_cases hki:k=i
   · rw [if_pos hki] at hb
     rcases hb with hb | hb
     · exact h.lt i hil b hb
     · exact h.lt j hjl b hb
   · rw [if_neg hki] at hb
     by_cases hkj:k=j
     · rw [if_pos hkj] at hb;exact hb.elim
     · rw [if_neg hkj] at hb;exact h.lt k hk' b hb
 · have hk':k<hp.length:=by simpa using hk
   have hl':l<hp.length:=by simpa using hl
   by_cases hki:k=i
   · rw [if_pos hki] at hb
     rw [if_neg (by omega)] at hb'
     by_cases hlj:l=j
     · rw [if_pos hlj] at hb';exact hb'
     · rw [if_neg hlj] at hb'
       rcases hb with hb | hb
       · exact h.dj i l hil hl' (by omega) b hb hb'
       · exact h.dj j l hjl hl' (by omega) b hb hb'
   · rw [if_neg hki] at hb
     by_cases hkj:k=j
     · rw [if_pos hkj] at hb;exact hb
     · rw [if_neg hkj] at hb
       by_cases hli:l=i
       · rw [if_pos hli] at hb'
         rcases hb' with hb' | hb'
         · exact h.dj k i hk' hil hki b hb hb'
         · exact h.dj k j hk' hjl hkj b hb hb'
       · rw [if_neg hli] at hb'
         by_cases hlj:l=j
         · rw [if_pos hlj] at hb';exact hb'
         · rw [if_neg hlj] at hb';exact h.dj k l hk' hl' hkl b hb hb'
end
section
variable {P:Program} {n:Fr} {env:Env} {ps:List Per} {hp:List Res} {c:Code} {Q:Exit→Sta→Prop}
theorem qt{hp':List Res}{ps':List Per}(h0:∀ w S fp,St w S fp ps hp→∃ fp',St w S fp' ps' hp'∧∀ b,tot fp' hp'.length b→tot fp hp.length b)(h:awp P n c Q ⟨env,ps',hp'⟩):awp P n c Q ⟨env,ps,hp⟩:=fun w S fp a hst he hn hd=>by
 obtain ⟨fp',h1,h2⟩:=h0 w S fp hst
 exact ei (fun e a' w' hp'=>eA.trans (Evo.refl _ _ _) (fun b hb=>.inl (h2 b hb)) hp') (h w S fp' a h1 he hn hd)
theorem rH(i j:Nat){R R':Res}(hi:hp[i]? = some R)(hj:hp[j]? = some R')(hne:(i == j)=false)(h:awp P n c Q ⟨env,ps,(hp.set i (fa R R')).set j emp⟩):awp P n c Q ⟨env,ps,hp⟩:=by
 have hil:=(List.getElem?_eq_some_iff.1 hi).1
 have hjl:=(List.getElem?_eq_some_iff.1 hj).1
 refine qt (fun w S fp hst=>⟨_,hst.star hi hj (by simpa using hne),fun b ⟨k,hk,hb⟩ => ?_⟩) h
 have hk':k<hp.length:=by simpa using hk
 dsimp only at hb
 split at hb
 · exact hb.elim (fun h=>⟨i,hil,h⟩) (fun h=>⟨j,hjl,h⟩)
 · split at hb
   · exact hb.elim
   · exact ⟨k,hk',hb⟩
theorem iA(R:Res)(hR:∀ w S,R.holds w S (fun _=>False))(h:awp P n c Q ⟨env,ps,hp++[R]⟩):awp P n c Q ⟨env,ps,hp⟩:=qt (fun w S fp hst=>⟨_,hst.push (Below.refl _ _) R (fun _=>False) (hR w S) (fun b h=>h.elim),fun b hb=>by
 have hb':tot (fun i=>if i=hp.length then (fun _=>False) else fp i) (hp.length+1) b:=by simpa using hb
 exact (oI hb').elim id (fun h=>h.elim)⟩) h
theorem cB(i:Nat){R:Res}{φ:Prop}(hi:hp[i]? = some R)(h0:∀ w S F,R.holds w S F→φ)(h:φ→awp P n c Q ⟨env,ps,hp⟩):awp P n c Q ⟨env,ps,hp⟩:=gp (fun w S fp hst=>h0 w S _ (hst.res i R hi)) h
end
section
variable {P:Program} {n:Fr} {s:Sta} {d:Option Tmp} {ty:TypeId} {pos:String} {af:Array Edge} {gd:Option (Nat × Bool)} {v:Value}
theorem iK{x y:Operand}{T E:TypeId}{ag:Bool}{sz b o m:Nat}{kk:IntKind}{z:Int}(k:Nat)(hT:P.underlying T=some (.array m E))(hk:tyk P E=some (ag,sz))(hx:ev s.env x=some (true,.pointer (some ⟨b,o,none⟩)))
   (hy:ev s.env y=some (true,.int kk z)) (hz:z=(k:Int)) (hlt:k<m):Quiet P n ⟨d,.indexAddr T x y,ty,pos,af,gd⟩ s (.pointer (some ⟨b,o+k*sz,none⟩)) :=
 .run2 hx hy fun ρ w h1 h2=>by
   subst hz
   obtain ⟨de,ie,_,hie,_,hsz⟩:=gE hk
   unfold execOp;dsimp only;rw [h1,h2]
   show ((Instr.indexAt T (.pointer (some ⟨b,o,none⟩)) (.int kk k)).bind fun r=>Sem.pure (Next.value r)).run P w=_
   have hL:P.arrayLen T=m:=by unfold Program.arrayLen;rw [hT]
   have hE:P.elem T=E:=by unfold Program.elem;rw [hT]
   have hadd:(Addr.mk b o none).add (k*sz)=⟨b,o+k*sz,none⟩:=by
     unfold Addr.add;split
     · rename_i h;rw [h];rfl
     · rfl
   rw [Sem.run_bind',run_indexAt_array _ _ _ _ _ (by rw [hL,hE];exact hT),hL,if_pos (by omega),hE,cF hie,hsz]
   simp only [Result.andThen,Int.toNat_natCast,hadd];rfl
theorem et{x y:Operand}{T:TypeId}{kk:IntKind}{z:Int}{b:ByteArray}{u:UInt8}(k:Nat)(hT:P.underlying T=some .string)(hx:ev s.env x=some (true,.string b))(hy:ev s.env y=some (true,.int kk z))(hz:z=(k:Int))(hu:b.data.toList[k]? = some u) :
   Quiet P n ⟨d,.index T x y,ty,pos,af,gd⟩ s (.int .u8 u.toNat):=.run2 hx hy fun ρ w h1 h2=>by
 subst hz
 obtain ⟨hlt,hu⟩:=List.getElem?_eq_some_iff.1 hu
 have hlt':k<b.size:=by simpa using hlt
 unfold execOp;dsimp only;rw [h1,h2]
 show ((Instr.index T (.string b) (.int kk k)).bind fun r=>Sem.pure (Next.value r)).run P w=_
 rw [Sem.run_bind',run_index_string _ _ _ _ _ hT,dif_pos (by omega)]
 have:b[(k:Int).toNat]'(by simpa using hlt')=u:=by rw [← hu];rfl
 rw [this];rfl
theorem ey{x:Operand}{S D:TypeId}{k kd:IntKind}{z:Int}(hS:(P.underlying S).isSome=true)(hD:P.underlying D=some (.int kd))(hx:ev s.env x=some (true,.int k z)):Quiet P n ⟨d,.convert S D x,ty,pos,af,gd⟩ s (.int kd (kd.wrap z)) :=
 .run1 hx fun ρ w h=>by
   unfold execOp;dsimp only;rw [h]
   show ((convert S D (.int k z)).bind fun r=>Sem.pure (Next.value r)).run P w=_
   have hk:P.intKind D=kd:=by unfold Program.intKind;rw [hD]
   rw [Sem.run_bind',run_convert_int w S D k z hS (by rw [hk];exact hD),hk];rfl
theorem zF{x y:Operand}{t t':TypeId}{a b:ByteArray}(hx:ev s.env x=some (true,.string a))(hy:ev s.env y=some (true,.string b))(h:a.size+b.size≤9223372036854775807):Quiet P n ⟨d,.binOp .add t x y t',ty,pos,af,gd⟩ s (.string (a++b)) :=
 .run2 hx hy fun ρ w h1 h2=>by
   unfold execOp;dsimp only;rw [h1,h2]
   show ((do eqGuard .add t x y (.string a) (.string b);binOp .add t (.string a) (.string b)) |>.bind fun r=>Sem.pure (Next.value r)).run P w=_
   have:(do eqGuard BinOp.add t x y (.string a) (.string b);binOp .add t (.string a) (.string b):Sem Value)=Op.stringOp .add a b:=by rw [binOp_string_add];rfl
   rw [this,Sem.run_bind',run_string_add_sum w a b h];rfl
theorem zG{x y:Operand}{t t':TypeId}{a b:ByteArray}(hx:ev s.env x=some (true,.string a))(hy:ev s.env y=some (true,.string b)):Quiet P n ⟨d,.binOp .eql t x y t',ty,pos,af,gd⟩ s (.bool (a.toList == b.toList)) :=
 .run2 hx hy fun ρ w h1 h2=>by
   unfold execOp;dsimp only;rw [h1,h2]
   simp only [eqGuard_at_string,Sem.run_bind,Sem.run_pure,binOp_string_eql,Result.andThen_ok]
theorem zK{x y:Operand}{t t':TypeId}{a b:ByteArray}(hx:ev s.env x=some (true,.string a))(hy:ev s.env y=some (true,.string b)):Quiet P n ⟨d,.binOp .neq t x y t',ty,pos,af,gd⟩ s (.bool (!(a.toList == b.toList))) :=
 .run2 hx hy fun ρ w h1 h2=>by
   unfold execOp;dsimp only;rw [h1,h2]
   simp only [eqGuard_at_string,Sem.run_bind,Sem.run_pure,binOp_string_neq,Result.andThen_ok]
theorem acz {f:FuncId} {fn:Func} {en:Array Value→Sem Value} {l:List Operand} {ts:Array TypeId} {vs:List Value} (hf:P.funcs[f]? = some fn) (h1:(fn.name == "runtime.NumGoroutine")=false) (h2:fn.body.isNone=true) (h3:Extern.findNext fn=none) (h4:Extern.find fn=some en)
   (hx:evs s.env l=some vs) (hr:∀ w,(en vs.toArray).run P w=.ok v w):Quiet P n ⟨d,.call ⟨.value (.func f),l.toArray,ts⟩,ty,pos,af,gd⟩ s v:=fun w S fp a hst he hn=>by
 have hv:=eM he l vs hx
 have:(execOp a.eval ⟨d,.call ⟨.value (.func f),l.toArray,ts⟩,ty,pos,af,gd⟩).run P w=.ok (.value v) w:=by
   unfold execOp
   show ((resolve a.eval ⟨.value (.func f),l.toArray,ts⟩ ty).bind fun x=>invoke x.target x.args).run P w=_
   have:resolve a.eval ⟨.value (.func f),l.toArray,ts⟩ ty=Sem.pure { target:=.fn (.func f) #[],args:=vs.toArray } := by
     have hg:a.eval (.func f)=.func (.func f) #[] #[]:=rfl
     unfold resolve
     dsimp only
     rw [hg]
     show Deferred.ofValue _ _=_
     unfold Deferred.ofValue
     dsimp only
     rw [List.map_toArray,hv,Array.empty_append]
     rfl
   rw [this]
   show (callFunc f (vs.toArray ++ #[])).run P w=_
   rw [Array.append_empty,run_callFunc_extern hf h1 h2 h3 h4,hr w];rfl
 rw [this];exact bE _ _
end
section
variable {P:Program} {ops:Array Oper} {md:Region.Mode} {V:Nat→Bool} {Q:Act→World→Prop}
def gH(P:Program)(ops:Array Oper)(o:Oper)(v:Value)(a:Act):Prop :=
 (Region.wanted o (yielded ops a.tmps)=true∧∀ w1,l0 P v w1 ((execOp a.eval o).run P w1))∨(Region.wanted o (yielded ops a.tmps)=false∧v=undef)
theorem gH.of_same{o:Oper}{v:Value}{a a':Act}(hy:gH P ops o v a)(he:execOp a'.eval o=execOp a.eval o)
   (hw:Region.wanted o (yielded ops a'.tmps)=Region.wanted o (yielded ops a.tmps)):gH P ops o v a':=by
 unfold gH at *
 rw [he,hw];exact hy
theorem gH.op{o:Oper}{i:Nat}{v:Value}{a:Act}{w:World}(hi:ops[i]? = some o)(hy:gH P ops o v a){K:Act→World→Prop}(h:∀ w',Below w.heap.size w w'→K (a.put o.dst v) w'):opB P ops i K a w:=by
 refine ⟨o,hi,?_⟩
 rcases hy with ⟨h1,h2⟩ | ⟨h1,rfl⟩
 · rw [if_pos h1]
   exact bO (fun u w' ⟨hu,hb⟩=>by subst hu;exact h w' hb) (h2 w)
 · rw [if_neg (by rw [h1];exact Bool.false_ne_true)]
   exact h w (Below.refl _ _)
theorem u4{i:Nat}{oi:Oper}{v:Value}(hi:ops[i]? = some oi)(hsel:∀ (j:Nat) (o:Oper) cs b,ops[j]? = some o→o.op≠.select cs b) :
   ∀ (n:Nat) (L:Array Bool) (a:Act) (w:World),
     (∀ j oj,ops[j]? = some oj→j≠i→L.getD j true=false→(∀ e∈oj.after,Region.binds md e=true→e.on≠i)→oi.apart ops oj=true) →
     i∈Region.ready md ops L→gH P ops oi v a →
     wpB P md ops V Q n (L.setIfInBounds i true) (a.put oi.dst v) w→wpB P md ops V Q (n+1) L a w:=by
 intro n
 induction n with
 | zero =>
   intro L a w _ hr hy H w1 hb
   refine ⟨fun h=>(by rw [h] at hr;cases hr),fun j hj => ?_⟩
   by_cases hji:j=i
   · subst hji
     exact hy.op hi fun w' hb'=>⟨fun _=>hb',rr H (dx hb hb')⟩
   · have:=ready_mono hj hji
     rw [(H w1 hb).1] at this
     cases this
 | succ n ih =>
   intro L a w hfree hr hy H w1 hb
   refine ⟨fun h=>(by rw [h] at hr;cases hr),fun j hj => ?_⟩
   by_cases hji:j=i
   · subst hji
     exact hy.op hi fun w' hb'=>⟨fun _=>hb',rr H (dx hb hb')⟩
   · obtain ⟨oj,hoj,hrun⟩:=(H w1 hb).2 j (ready_mono hj hji)
     obtain ⟨hjun,oj',hoj',hall⟩:=mem_ready.1 hj
     obtain rfl:oj=oj':=Option.some.inj (hoj.symm.trans hoj')
     have hnot:∀ e∈oj.after,Region.binds md e=true→e.on≠i:=fun e he hb heq=>by
       have h1:=hall e he hb
       have h0:=(mem_ready.1 hr).1
       rw [heq] at h1
       rw [i4 h1] at h0;cases h0
     obtain ⟨p1,p2,p3⟩:=Oper.apart_spec (hfree j oj hoj hji hjun hnot)
     rw [execOp_put oj (fun cs b=>hsel j oj cs b hoj) a oi.dst v p1,wanted_put oj a oi.dst v p1] at hrun
     have hfree':∀ k ok,ops[k]? = some ok→k≠i→(L.setIfInBounds j true).getD k true=false →
         (∀ e∈ok.after,Region.binds md e=true→e.on≠i)→oi.apart ops ok=true:=fun k ok hk hki hun hno=>by
       refine hfree k ok hk hki ?_ hno
       by_cases hjk:j=k
       · subst hjk;exact hjun
       · rw [getD_set_ne true hjk] at hun;exact hun
     have step:∀ u w',wpB P md ops V Q n ((L.setIfInBounds i true).setIfInBounds j true) ((a.put oi.dst v).put oj.dst u) w'→wpB P md ops V Q (n+1) (L.setIfInBounds j true) (a.put oj.dst u) w':=fun u w' h=>by
       refine ih (L.setIfInBounds j true) (a.put oj.dst u) w' hfree' (ready_mono hr (Ne.symm hji)) ?_ ?_
       · exact hy.of_same (execOp_put oi (fun cs b=>hsel i oi cs b hi) a oj.dst u p3) (wanted_put oi a oj.dst u p3)
       · rw [Array.setIfInBounds_comm _ _ hji,Act.put_comm a u v (fun d hd hd'=>p2 d hd' hd)]
         exact h
     refine ⟨oj,hoj,?_⟩
     split
     · rename_i hw
       rw [if_pos hw] at hrun
       exact bO (fun u w' h=>⟨h.1,step u w' h.2⟩) hrun
     · rename_i hw
       rw [if_neg hw] at hrun
       exact ⟨hrun.1,step undef w1 hrun.2⟩
end
section
variable {P:Program} {n:Fr} {ops:Array Oper} {Q:Exit→Sta→Prop} {env:Env} {ps:List Per} {hp:List Res} {d:Nat} {op:Op} {ty:TypeId} {pos:String} {af:Array Edge} {gd:Option (Nat × Bool)} {v:Value} {V:List Nat} {k:Nat} {L:Array Bool}
def iV(ops:Array Oper)(V:List Nat)(L:Array Bool)(i:Nat):Bool :=
 Region.noSelect ops && Region.free .any ops L i && (Region.ready .any ops L).contains i
theorem acd(i:Nat)(hi:ops[i]? = some ⟨some d,op,ty,pos,af,gd⟩)(hf:iV ops V L i=true)(c:Bool)(hc:guardOf ops env ⟨some d,op,ty,pos,af,gd⟩=some c)(hd:fits n (some d)=true)
   (hq:c=true→Quiet P n ⟨some d,op,ty,pos,af,gd⟩ ⟨env,[],[]⟩ v) (h:aB P n ops V Q k (L.setIfInBounds i true) ⟨(d,c,v)::env,ps,hp⟩):aB P n ops V Q (k+1) L ⟨env,ps,hp⟩:=fun w S fp a hst he hn hdf=>by
 simp only [iV,Bool.and_eq_true] at hf
 obtain ⟨⟨f1,f4⟩,f5⟩:=hf
 have hw:=dD (ops:=ops) hc he
 have htriv:∀ w,St w (fun _=>False) (fun _ _=>False) [] []:=fun w=>⟨fun p h=>(by cases h),fun i R h=>(by simp at h),fun i h=>(by simp at h),fun i j h=>(by simp at h),fun b h=>h.elim⟩
 refine u4 hi (Region.noSelect_spec f1) k L a w (Region.free_spec hi f4) (by simpa using f5) (v:=bif c then v else undef) ?_ ?_
 · cases c with
   | true=>exact .inl ⟨hw,fun w1=>hq rfl w1 _ _ a (htriv w1) he hn⟩
   | false=>exact .inr ⟨hw,rfl⟩
 · exact h w S fp (a.put (some d) (bif c then v else undef)) hst (he.set (dst:=some d) (by rw [hn];exact hd) c v) (by rw [ep];exact hn) (by rw [put_defers];exact hdf)
end
section
variable {P:Program} {n:Fr} {ops:Array Oper} {Q:Exit→Sta→Prop} {s:Sta} {o:Oper} {K:Sta→Prop}
theorem Quiet.eff{v:Value}{q:Bool}(h:Quiet P n o s v)(hd:fits n.size o.dst=true)(hK:K ⟨setEnv s.env o.dst true v,s.ps,s.hp⟩):Eff P n o s q K:=fun w S fp a hst he hn=>by
 refine bO (fun u w' ⟨hu,hb⟩ => ?_) (h w S fp a hst he hn)
 subst hu
 exact ⟨_,S,fp,hK,hst.below hb,he.set (c:=true) (by rw [hn];exact hd) u,Evo.of_below _ _ hb,fun b hb=>.inl hb,fun _=>hb⟩
end
section
variable {P:Program} {n:Fr} {ops:Array Oper} {Q:Exit→Sta→Prop} {env:Env} {ps:List Per} {hp hp':List Res} {rest:List Oper}
theorem ig(h0:hp=hp')(h:aL P n ops Q rest ⟨env,ps,hp'⟩):aL P n ops Q rest ⟨env,ps,hp⟩:=h0 ▸ h
theorem acj{ps':List Per}(h1:ps=ps')(h0:hp=hp')(h:aL P n ops Q rest ⟨env,ps',hp'⟩):aL P n ops Q rest ⟨env,ps,hp⟩:=h1 ▸ h0 ▸ h
theorem ace{V:List Nat}{k:Nat}{L L':Array Bool}{ps':List Per}(hL:L=L')(h1:ps=ps')(h0:hp=hp')(h:aB P n ops V Q k L' ⟨env,ps',hp'⟩):aB P n ops V Q k L ⟨env,ps,hp⟩:=hL ▸ h1 ▸ h0 ▸ h
theorem acb{V:List Nat}{k:Nat}{L L':Array Bool}(hL:L=L')(h0:hp=hp')(h:aB P n ops V Q k L' ⟨env,ps,hp'⟩):aB P n ops V Q k L ⟨env,ps,hp⟩:=hL ▸ h0 ▸ h
end
section
variable {P:Program} {n:Fr} {env:Env} {ps:List Per} {hp:List Res} {ty:TypeId} {pos:String} {af:Array Edge} {gd:Option (Nat × Bool)} {K:Sta→Prop} {q:Bool}
theorem aW{t:Nat}{T:TypeId}{zs:List Value}(hz:ec P T=some zs)(ht:fits n (some t)=true)(hK:∀ b,K ⟨(t,true,.pointer (some ⟨b,0,none⟩))::env,ps,hp++[Box b T zs]⟩) :
   Eff P n ⟨some t,.alloc T,ty,pos,af,gd⟩ ⟨env,ps,hp⟩ q K:=aaG hz ht hK
theorem aS{t:Nat}{T:TypeId}{x:Operand}{vx:Value}{cs:List Value}(hx:ev env x=some (true,vx))(hc0:cpL vx.cells.toList=some cs)(ht:fits n (some t)=true)(hK:∀ b,K ⟨(t,true,.pointer (some ⟨b,0,none⟩))::env,ps,hp++[Box b T cs]⟩) :
   Eff P n ⟨some t,.box T x,ty,pos,af,gd⟩ ⟨env,ps,hp⟩ q K:=aco hx hc0 ht hK
theorem bX{x y:Operand}{U T:TypeId}{ag:Bool}{k b o:Nat}{cs cs':List Value}{vy:Value}(i:Nat)(hk:tyk P U=some (ag,k))(hx:ev env x=some (true,.pointer (some ⟨b,o,none⟩)))(hy:ev env y=some (true,vy))(hi:hp[i]? = some (Box b T cs))
   (hw:wrL k cs o vy.cells.toList=some cs') (hK:K ⟨env,ps,hp.set i (Box b T cs')⟩) :
   Eff P n ⟨none,.store U x y,ty,pos,af,gd⟩ ⟨env,ps,hp⟩ false K:=aaL i hk hx hy hi hw hK
end
section
variable {P:Program} {Q:Exit→Sta→Prop} {s:Sta}
def RV(P:Program)(s:Sta)(r:ResultVar)(v:Value):Prop:=∀ a w S fp,St w S fp s.ps s.hp→cG a s.env →
 match r with
 | .tmp t=>a.tmps.getD t undef=v
 | .cell b t=>∃ ad,a.tmps.getD b undef=.pointer (some ad)∧(loadVar t ad).run P w=.ok v w
theorem jN{t:Nat}{v:Value}(hl:look s.env t=some (true,v)):RV P s (.tmp t) v:=fun a w S fp hst henv=>henv t true v hl
theorem ef{t:Nat}{T U:TypeId}{ag:Bool}{k b o:Nat}{cs:List Value}{v:Value}(i:Nat)(hk:tyk P U=some (ag,k))(hl:look s.env t=some (true,.pointer (some ⟨b,o,none⟩)))(hi:s.hp[i]? = some (Box b T cs))(hv:rdC ag k cs o=some v):RV P s (.cell t U) v:=fun a w S fp hst henv=>by
 have hb:=(hst.res i _ hi).1
 have hr:=mC (w:=w) hk hv (b:=b) (p:=0) (fun j u hu=>by rw [Nat.zero_add,dL hb];exact hu)
 rw [Nat.zero_add] at hr
 exact ⟨_,henv t true _ hl,hr⟩
theorem gK(ad:Addr)(w:World):(asAddr (.pointer (some ad))).run P w=.ok ad w:=rfl
theorem sr{fn:Func}{r:ResultVar}{v:Value}{R:Value→List Per→List Res→Prop}{e:Exit}(lp lh:List Nat)(ok:okH s.hp lh=true)(hr:fn.results = #[r])(h1:RV P s r v)(h:R v (el s.ps lp) (bT s.hp lh))(he:e=.normal∨e=.ret):fy P fn R e s :=
 ⟨he,v,lp,lh,ok,fun a w S fp hst henv=>by
   have h1:=h1 a w S fp hst henv
   cases r with
   | tmp t=>dsimp only at h1;rw [results_tmp hr,h1]
   | cell b t=>obtain ⟨ad,g1,g2⟩:=h1;simp only [results,hr];simp at g1;simp [g1,g2,gK],h⟩
theorem lS{fn:Func}{r r':ResultVar}{v v':Value}{R:Value→List Per→List Res→Prop}{e:Exit}(lp lh:List Nat)(ok:okH s.hp lh=true)(hr:fn.results = #[r,r'])(h1:RV P s r v)(h2:RV P s r' v')(h:R (.tuple #[v,v']) (el s.ps lp) (bT s.hp lh))(he:e=.normal∨e=.ret):fy P fn R e s :=
 ⟨he,.tuple #[v,v'],lp,lh,ok,fun a w S fp hst henv=>by
   have h1:=h1 a w S fp hst henv
   have h2:=h2 a w S fp hst henv
   cases r with
   | tmp t =>
     cases r' with
     | tmp u=>dsimp only at h1 h2;rw [results_tmp2 hr,h1,h2]
     | cell b t=>obtain ⟨ad,g1,g2⟩:=h2;simp only [results,hr];simp at g1 h1;simp [g1,g2,h1,gK]
   | cell b t =>
     obtain ⟨ad,g1,g2⟩:=h1
     cases r' with
     | tmp u=>simp only [results,hr];simp at g1 h2;simp [g1,g2,h2,gK]
     | cell b' t'=>obtain ⟨ad',g1',g2'⟩:=h2;simp only [results,hr];simp at g1 g1';simp [g1,g2,g1',g2',gK],h⟩
end
section
variable {P:Program} {n:Fr} {env:Env} {ps:List Per} {hp:List Res} {ty:TypeId} {pos:String} {af:Array Edge} {gd:Option (Nat × Bool)} {K:Sta→Prop} {q:Bool}
theorem aaI{t:Nat}{T E:TypeId}{x:Operand}{v:Value}{rows:List (List D)}(i:Nat)(hT:P.underlying T=some (.slice E))(hE:P.underlying E=some (.int .u8))(hx:ev env x=some (true,v))(ht:fits n (some t)=true)(hi:hp[i]? = some (aP v E 1 rows))(hne:rows≠[])
   (hK:K ⟨(t,true,v)::env,Sh v (.sl rows)::ps,hp.set i emp⟩):Eff P n ⟨some t,.convert T T x,ty,pos,af,gd⟩ ⟨env,ps,hp⟩ false K:=fun w S fp a hst he hn=>by
 have e1:=he.val hx rfl
 have hil:=(List.getElem?_eq_some_iff.1 hi).1
 rcases hst.res i _ hi with ⟨_,h0,_⟩ | ⟨b,cap,rfl,⟨cs,sp,hb,hrows,hl,hle,hcap⟩,hF⟩
 · exact absurd h0 hne
 · have hbl:=jH hb
   let N:=(cs++sp).length
   have hfr:(w.freeze ⟨b,N,none⟩ 1).heap[b]? = some (.cells (cs++sp).toArray E (N,N+1)):=by
     unfold World.freeze
     rw [if_neg (by decide)]
     simp only [Array.getElem?_modify,hb,if_true,Option.map_some]
     simp
   have hof:∀ k,k≠b→(w.freeze ⟨b,N,none⟩ 1).heap[k]? = w.heap[k]? := fun k hk=>by
     unfold World.freeze
     rw [if_neg (by decide)]
     simp only [Array.getElem?_modify,if_neg (Ne.symm hk)]
   have hsz:(w.freeze ⟨b,N,none⟩ 1).heap.size=w.heap.size:=by unfold World.freeze;rw [if_neg (by decide)];simp
   have hsh:w.shape? b=some (E,N):=by unfold World.shape?;rw [hb];simp [N]
   have hrun:(convert T T (.slice (some ⟨b,0,none⟩) rows.length cap)).run P w=.ok (.slice (some ⟨b,0,none⟩) rows.length cap) (w.freeze ⟨b,N,none⟩ 1):=by
     simp [convert,run_underlying hT,run_underlying hE,markStringish,hsh]
   have hexec:(execOp a.eval ⟨some t,.convert T T x,ty,pos,af,gd⟩).run P w=.ok (.value (.slice (some ⟨b,0,none⟩) rows.length cap)) (w.freeze ⟨b,N,none⟩ 1):=by
     unfold execOp;dsimp only;rw [e1]
     show ((convert T T (.slice (some ⟨b,0,none⟩) rows.length cap)).bind fun r=>Sem.pure (Next.value r)).run P w=_
     rw [Sem.run_bind',hrun];rfl
   rw [hexec]
   have hcell:∀ j,(w.freeze ⟨b,N,none⟩ 1).cell? ⟨b,j,none⟩=(cs++sp)[j]? := fun j=>by
     unfold World.cell?;simp only [hfr];simp
   have hst0:=hst.drop i
   have hSb:∀ k,S k→k≠b:=fun k hk e=>(hst.lt i hil b ((hF b).2 rfl)).2 (e ▸ hk)
   have hS:∀ k,S k→(S k∨k=b):=fun _ h=>.inl h
   refine ⟨_,(fun k=>S k∨k=b),(fun k=>if k=i then (fun _=>False) else fp k),hK,⟨fun p hp' => ?_,fun j R hj => ?_,fun j hj k hk => ?_,hst0.dj,fun k hk => ?_⟩,he.put (g:=true) (by rw [hn];simpa [fits] using ht) _,⟨rfl,rfl,rfl,by rw [hsz];exact Nat.le_refl _,Nat.le_of_eq (by unfold World.freeze;(repeat' split)<;>rfl),fun k hk hx'=>hof k (fun e=>hx' ⟨i,hil,(hF k).2 e⟩),hS,fun k hk=>hk.elim .inl (fun e=>.inr (.inl ⟨i,hil,(hF k).2 e⟩))⟩,fun k ⟨j,hj,hk⟩ => ?_,fun h=>by cases h⟩
   · rcases List.mem_cons.1 hp' with rfl | h2
     · refine .sl b 0 cap 1 rows (fun i j=>cs.getD (i*1+j) undef) (.inr rfl) hle hcap hrows.row (fun ii j r d h1 h2 => ?_) (fun ii j r d h1 h2 => ?_)
       · obtain ⟨u,hu,_⟩:=hrows.rep ii j r d h1 h2
         have e:cs.getD (ii*1+j) undef=u:=by rw [List.getD,hu];rfl
         rw [e]
         refine ⟨?_,hrows.one u (List.mem_of_getElem? hu)⟩
         rw [Nat.zero_add,hcell,List.getElem?_append_left (List.getElem?_eq_some_iff.1 hu).1];exact hu
       · obtain ⟨u,hu,hr⟩:=hrows.rep ii j r d h1 h2
         have e:cs.getD (ii*1+j) undef=u:=by rw [List.getD,hu];rfl
         rw [e]
         exact hr.mono (fun k hk=>hof k (hSb k hk)) hS
     · exact p.mono (hst.per p h2) (fun k hk=>hof k (hSb k hk)) hS
   · have hj':j<hp.length:=by have:=(List.getElem?_eq_some_iff.1 hj).1;simpa using this
     refine R.mono (hst0.res j R hj) (fun k hk=>hof k (fun e => ?_)) (fun k hk=>hof k (hSb k hk)) hS
     by_cases hji:j=i
     · rw [if_pos hji] at hk;exact hk
     · rw [if_neg hji] at hk;exact hst.dj j i hj' hil hji k hk ((hF k).2 e)
   · have hj':j<hp.length:=by simpa using hj
     by_cases hji:j=i
     · rw [if_pos hji] at hk;exact hk.elim
     · rw [if_neg hji] at hk
       refine ⟨by rw [hsz];exact (hst.lt j hj' k hk).1,fun h=>h.elim (hst.lt j hj' k hk).2 (fun e=>hst.dj j i hj' hil hji k hk ((hF k).2 e))⟩
   · rw [hsz];exact hk.elim (hst.slt k) (fun e=>e ▸ hbl)
   · have hj':j<hp.length:=by simpa using hj
     by_cases hji:j=i
     · simp only [hji,if_true] at hk
     · simp only [if_neg hji] at hk
       exact .inl ⟨j,hj',hk⟩
end
end Go.Sy

