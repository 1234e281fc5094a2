/- Parts of the proof, in build order. No condition. -/
import Derived.Test.YtfkcmbonmpcbfaaGreatTb03
import Derived.Great.BuildSlice
import Derived.Test.YtfkcmbonmpcbfaaGreatChecked
import Derived.Deep.Slices
import Derived.Laws.Cover3
set_option linter.unusedSimpArgs false
set_option linter.unusedVariables false
set_option maxHeartbeats 1000000
set_option maxRecDepth 20000
namespace Go.Sy
open Go.RowKit Go.Lp
def bld(place:Nat→Option (Nat × Nat)):List Value→List (Nat × Value)→Option (List Value)
 | cells,[]=>some cells
 | cells,(i,v)::rest=>match place i with
   | some (off,size)=>match wrL size cells off v.cells.toList with
     | some cells'=>bld place cells' rest
     | none=>none
   | none=>none
theorem s9(off:Nat):∀ (vs:List Value) (k:Nat) (cs:List Value),off+k+vs.length≤cs.length →
   (vs.zipIdx k).foldl (fun (cs:Array Value) (x:Value × Nat)=>cs.setIfInBounds (off+x.2) x.1) cs.toArray=(wrC cs (off+k) vs).toArray
 | [],k,cs,_=>by simp [wrC]
 | v :: vs,k,cs,h=>by
   have hlt:off+k<cs.length:=by simp at h;omega
   rw [List.zipIdx_cons,List.foldl_cons]
   have e:(cs.toArray.setIfInBounds (off+k) v)=(cs.set (off+k) v).toArray:=by simp
   rw [e,s9 off vs (k+1) (cs.set (off+k) v) (by simp at h ⊢;omega)]
   congr 1
   unfold wrC
   apply List.ext_getElem?
   intro j
   simp only [List.getElem?_append,List.length_take,List.length_set,List.getElem?_take,List.getElem?_drop,List.getElem?_set,List.length_cons,List.getElem?_cons]
   rw [Nat.min_eq_left (by simp at h;omega),Nat.min_eq_left (by omega)]
   by_cases h1:j<off+k
   · simp [show j<off+(k+1) by omega,h1,show ¬ off+k=j by omega]
   · by_cases h2:j=off+k
     · subst h2;simp [hlt]
     · have h3:¬ j<off+(k+1):=by omega
       simp only [h1,h3,if_false]
       by_cases h5:j-(off+(k+1))<vs.length
       · rw [if_pos h5,if_pos (by omega),if_neg (by omega)]
         congr 1<;>omega
       · rw [if_neg h5,if_neg (by omega),if_neg (by omega)]
         congr 1<;>omega
theorem kq(place:Nat→Option (Nat × Nat)):∀ (parts:List (Nat × Value)) (cells cells':List Value),bld place cells parts=some cells'→Instr.fill place cells.toArray parts=some cells'.toArray
 | [],cells,cells',h=>by simp only [bld,Option.some.injEq] at h;subst h;rfl
 | (i, v)::rest,cells,cells',h=>by
   unfold bld at h
   split at h
   · rename_i off size hp
     split at h
     · rename_i c1 hc1
       obtain ⟨h1,_,h3,rfl⟩:=rP _ _ _ _ _ hc1
       have ih:=kq place rest _ cells' h
       have hsz:v.cells.size=size:=by rw [← h1];simp
       have hf:v.cells.zipIdx.foldl (fun cs (x:Value × Nat)=>cs.setIfInBounds (off+x.2) x.1) cells.toArray=(wrC cells off v.cells.toList).toArray:=by
         rw [← Array.foldl_toList,Array.toList_zipIdx]
         exact s9 off v.cells.toList 0 cells (by omega)
       have hle:¬ off+v.cells.size>cells.toArray.size:=by simp at h3 ⊢;omega
       simp only [Instr.fill,hp]
       rw [if_neg (by simp [hsz];simpa [hsz] using hle)]
       have:(v.cells.zipIdx.foldl (fun cs (c,j)=>cs.setIfInBounds (off+j) c) cells.toArray)=(wrC cells off v.cells.toList).toArray:=hf
       rw [this]
       exact ih
     · cases h
   · cases h
def placesOf(P:Program)(T:TypeId):Option (List (Nat × Nat)) :=
 match P.underlying T with
 | some (.struct fields)=>fields.toList.mapM (fun f=>(P.info? f.type).map fun i=>(f.offset,i.size))
 | some (.array n e)=>(P.info? e).map fun i=>(List.range n).map fun k=>(k*i.size,i.size)
 | _=>none
def wR(P:Program)(T:TypeId):Bool:=match P.underlying T with
 | some (.struct _)=>true
 | _=>false
section
variable {P:Program} {n:Fr} {env:Env} {ps:List Per} {hp:List Res} {ty:TypeId} {pos:String} {af:Array Edge} {gd:Option (Nat × Bool)} {K:Sta→Prop} {d:Option Tmp} {v:Value} {q:Bool}
theorem gr {T:TypeId} {l:List (Nat × Operand)} {xs:List Operand} {vs:List Value} {zs cells:List Value} {pl:List (Nat × Nat)} (hst:wR P T=true) (hz:dL P T=some zs) (hpl:placesOf P T=some pl) (hxs:l.map (·.2)=xs) (hx:evs env xs=some vs)
   (hb:bld (pl[·]?) zs ((l.map (·.1)).zip vs)=some cells) :
   Quiet P n ⟨d,.build T l.toArray,ty,pos,af,gd⟩ ⟨env,ps,hp⟩ (.agg cells.toArray):=fun w S fp a hs he hn=>by
 have hm:=fF he xs vs hx
 have hf:=kq _ _ _ _ hb
 have hbuilt:P.built T ((l.map (·.1)).zip vs)=some cells.toArray:=by
   unfold wR at hst
   unfold placesOf at hpl
   unfold dL at hz
   unfold Program.built
   cases hi:P.info? T with
   | none=>rw [hi] at hz;cases hz
   | some it =>
     rw [hi] at hz
     cases hzz:it.zero with
     | none=>rw [Option.bind_some,hzz] at hz;cases hz
     | some z =>
       rw [Option.bind_some,hzz] at hz
       simp only [Option.map_some,Option.some.injEq] at hz
       cases hu:P.underlying T with
       | none=>rw [hu] at hst;cases hst
       | some dd =>
         rw [hu] at hst hpl
         cases dd with
         | struct fields =>
           simp only at hpl
           simp only [hzz,hpl]
           have e:z.cells=zs.toArray:=by rw [← hz]
           rw [e]
           simpa using hf
         | _=>cases hst
 have:(execOp a.eval ⟨d,.build T l.toArray,ty,pos,af,gd⟩).run P w=.ok (.value (.agg cells.toArray)) w:=by
   have e:(execOp a.eval ⟨d,.build T l.toArray,ty,pos,af,gd⟩)=(Instr.build T (l.toArray.map fun (i,x)=>(i,a.eval x))).bind fun r=>Sem.pure (Next.value r):=rfl
   have e2:l.toArray.map (fun (i,x)=>(i,a.eval x))=((l.map (·.1)).zip vs).toArray:=by
     rw [← hm,← hxs]
     simp only [List.map_toArray,List.map_map]
     congr 1
     rw [List.zip_map']
     rfl
   rw [e,e2,Sem.run_bind',run_build w T _ cells.toArray (by simpa using hbuilt)];rfl
 rw [this];exact bu _ _
def jL:Nat→List Value→List Value
 | 0,_=>[]
 | n+1,zs=>zs++jL n zs
theorem tG(n:Nat)(zs:List Value):(jL n zs).length=n*zs.length:=by
 induction n with
 | zero=>simp [jL]
 | succ n ih=>simp [jL,ih,Nat.add_mul];omega
theorem oD(zs:List Value)(h0:0<zs.length):∀ (n j:Nat),j<n*zs.length→(jL n zs)[j]? = zs[j % zs.length]?
 | 0,j,h=>by omega
 | n + 1,j,h=>by
   unfold jL
   rw [List.getElem?_append]
   split
   · rename_i hj;rw [Nat.mod_eq_of_lt hj]
   · rename_i hj
     have e:j % zs.length=(j-zs.length) % zs.length:=Nat.mod_eq_sub_mod (by omega)
     rw [oD zs h0 n (j-zs.length) (by rw [Nat.add_mul] at h;omega),e]
theorem wC(z:Array Value)(n:Nat)(h0:0<z.size):(madeCells z (n*z.size))=(jL n z.toList).toArray:=by
 apply Array.ext'
 rw [List.toList_toArray]
 apply List.ext_getElem?
 intro j
 by_cases hj:j<n*z.size
 · rw [oD z.toList (by simpa using h0) n j (by simpa using hj)]
   have hm:j % z.size<z.size:=Nat.mod_lt _ h0
   simp only [madeCells,Array.toList_map,Array.toList_range,List.getElem?_map,List.getElem?_range hj,Option.map_some,Array.length_toList,Array.getElem?_toList]
   simp [hm]
 · rw [List.getElem?_eq_none (by simp [madeCells];omega),List.getElem?_eq_none (by rw [tG];simpa using hj)]
theorem yE{w:World}{S:aT}{zs:List Value}(h1:∀ v∈zs,v.oneCell'=true)(n:Nat):cZ w S zs.length (jL n zs) (List.replicate n (zs.map .v)):=by
 refine ⟨by simp [tG],fun i r h => ?_,fun v hv => ?_,fun i j r dd h1' h2 => ?_⟩
 · rw [List.getElem?_replicate] at h
   split at h
   · simp only [Option.some.injEq] at h;rw [← h];simp
   · cases h
 · induction n with
   | zero=>simp [jL] at hv
   | succ n ih =>
     unfold jL at hv
     rcases List.mem_append.1 hv with h | h
     · exact h1 v h
     · exact ih h
 · rw [List.getElem?_replicate] at h1'
   split at h1'
   · rename_i hi
     simp only [Option.some.injEq] at h1'
     rw [← h1',List.getElem?_map] at h2
     cases hj:zs[j]? with
     | none=>rw [hj] at h2;cases h2
     | some u =>
       rw [hj] at h2
       simp only [Option.map_some,Option.some.injEq] at h2
       have hjl:=(List.getElem?_eq_some_iff.1 hj).1
       refine ⟨u,?_,by rw [← h2];exact .v u⟩
       have hlt:i*zs.length+j<n*zs.length:=by
         have:=Nat.mul_le_mul_right zs.length (show i+1≤n by omega)
         rw [Nat.add_mul] at this;omega
       rw [oD zs (by omega) n _ hlt,Nat.mul_comm,Nat.mul_add_mod,Nat.mod_eq_of_lt hjl];exact hj
   · cases h1'
theorem rA{w:World}{S:aT}{E:TypeId}{sz m:Nat}{cs:List Value}{rows:List (List D)}(h:cZ w S sz cs rows)(hst:∀ b,S b→b<w.heap.size)(hm:rows.length=m)(hle:m≤maxLen) :
   (aD (.slice (some ⟨w.heap.size,0,none⟩) m m) E sz rows).holds (w.alloc (.cells cs.toArray E)) S (fun b=>b=w.heap.size):=by
 refine .inr ⟨w.heap.size,m,by rw [hm],⟨cs,[],by rw [List.append_nil];exact gX _ _,h.mono (fun b hb=>(ec w _).block b (hst b hb)) (fun _ h=>h),by rw [List.append_nil,h.len,hm],by omega,hle⟩,fun _=>Iff.rfl⟩
theorem acr{t:Nat}{T E:TypeId}{it:TypeInfo}{x y:Operand}{m:Nat}{zs:List Value}(hT:P.underlying T=some (.slice E))(hi:P.info? E=some it)(hz:dL P E=some zs)(h1:zs.all (·.oneCell')=true)(hsz:it.size=zs.length)(h0:0<zs.length)(hby:it.bytes≤4096)
   (hx:ev env x=some (true,.int .i64 m)) (hy:ev env y=some (true,.int .i64 m)) (hm:m≤1000000000) (ht:fits n (some t)=true)
   (hK:∀ ad,K ⟨(t,true,.slice ad m m)::env,ps,hp++[aD (.slice ad m m) E zs.length (List.replicate m (zs.map .v))]⟩) :
   Eff P n ⟨some t,.makeSlice T x y,ty,pos,af,gd⟩ ⟨env,ps,hp⟩ q K:=.push fun w S fp a hst he hn=>by
 have e1:=he.val hx rfl
 have e2:=he.val hy rfl
 obtain ⟨z,hzz,hzc⟩:∃ z,it.zero=some z∧z.cells.toList=zs:=by
   unfold dL at hz
   rw [hi] at hz
   cases hzz:it.zero with
   | none=>rw [Option.bind_some,hzz] at hz;cases hz
   | some z=>rw [Option.bind_some,hzz] at hz;simp only [Option.map_some,Option.some.injEq] at hz;exact ⟨z,rfl,hz⟩
 have hzl:z.cells.size=zs.length:=by rw [← hzc];simp
 have hb:(it.bytes:Int)*(m:Int)≤281474976710656:=by
   have h1:it.bytes*m≤4096*1000000000:=Nat.mul_le_mul hby hm
   have:((it.bytes*m:Nat):Int)≤((4096*1000000000:Nat):Int):=by exact_mod_cast h1
   rw [← Int.natCast_mul];omega
 have hrun:=run_make (P:=P) w T E it z hT hi hzz .i64 .i64 m m (by omega) (by omega) hb (by omega)
 rw [Int.toNat_natCast,hsz,← hzl,wC _ _ (by omega),hzc] at hrun
 have:(execOp a.eval ⟨some t,.makeSlice T x y,ty,pos,af,gd⟩).run P w=.ok (.value (.slice (some ⟨w.heap.size,0,none⟩) m m)) (w.alloc (.cells (jL m zs).toArray E)):=by
   show ((Instr.makeSlice T (a.eval x) (a.eval y)).bind fun r=>Sem.pure (Next.value r)).run P w=_
   rw [e1,e2,Sem.run_bind',hrun];rfl
 rw [this]
 refine ⟨_,fun b=>b=w.heap.size,_,hK (some ⟨w.heap.size,0,none⟩),rfl,rfl,he.put (g:=true) (by rw [hn];simpa [fits] using ht) _,ec _ _,rA (yE (fun v hv=>List.all_eq_true.1 h1 v hv) m) hst.slt (by simp) (by unfold maxLen;omega),fun b hb => ?_⟩
 subst hb;simp
theorem rh{t:Nat}{T E:TypeId}{it:TypeInfo}{len:Nat}{l:List (Nat × Operand)}{xs:List Operand}{vs zs cs:List Value}{rows:List (List D)}(hT:P.underlying T=some (.slice E))(hi:P.info? E=some it)(hz:dL P E=some zs)(hsz:it.size=zs.length)(h0:0<zs.length)
   (hlen:0<len) (hsm:len*zs.length≤16777216) (hxs:l.map (·.2)=xs) (hx:evs env xs=some vs) (hb:bld (fun i=>some (i*zs.length,zs.length)) (jL len zs) ((l.map (·.1)).zip vs)=some cs) (hr:RCs ps zs.length cs rows) (hrl:rows.length=len) (ht:fits n (some t)=true)
   (hK:∀ ad,K ⟨(t,true,.slice ad len len)::env,ps,hp++[aD (.slice ad len len) E zs.length rows]⟩) :
   Eff P n ⟨some t,.buildSlice T len l.toArray,ty,pos,af,gd⟩ ⟨env,ps,hp⟩ q K:=.push fun w S fp a hst he hn=>by
 have hm:=fF he xs vs hx
 obtain ⟨z,hzz,hzc⟩:∃ z,it.zero=some z∧z.cells.toList=zs:=by
   unfold dL at hz
   rw [hi] at hz
   cases hzz:it.zero with
   | none=>rw [Option.bind_some,hzz] at hz;cases hz
   | some z=>rw [Option.bind_some,hzz] at hz;simp only [Option.map_some,Option.some.injEq] at hz;exact ⟨z,rfl,hz⟩
 have hzl:z.cells.size=zs.length:=by rw [← hzc];simp
 have hf:=kq _ _ _ _ hb
 have hme:=wC z.cells len (by omega)
 rw [hzc] at hme
 unfold madeCells at hme
 have hrun:=run_buildSlice (P:=P) w T E len ((l.map (·.1)).zip vs).toArray cs.toArray it z hT hi hzz (by rw [hsz];omega) (by rw [hsz];have:=Nat.mul_pos hlen h0;omega) (by rw [hsz,← hzl,hme,hzl];simpa using hf)
 have e2:l.toArray.map (fun (i,x)=>(i,a.eval x))=((l.map (·.1)).zip vs).toArray:=by
   rw [← hm,← hxs]
   simp only [List.map_toArray,List.map_map]
   congr 1
   rw [List.zip_map']
   rfl
 have:(execOp a.eval ⟨some t,.buildSlice T len l.toArray,ty,pos,af,gd⟩).run P w=.ok (.value (.slice (some ⟨w.heap.size,0,none⟩) len len)) (w.alloc (.cells cs.toArray E)):=by
   show ((Instr.buildSlice T len (l.toArray.map fun (i,x)=>(i,a.eval x))).bind fun r=>Sem.pure (Next.value r)).run P w=_
   rw [e2,Sem.run_bind',hrun];rfl
 rw [this]
 refine ⟨_,fun b=>b=w.heap.size,_,hK (some ⟨w.heap.size,0,none⟩),rfl,rfl,he.put (g:=true) (by rw [hn];simpa [fits] using ht) _,ec _ _,rA (hr.rows hst.per) hst.slt hrl (by unfold maxLen;have:=Nat.le_mul_of_pos_right len h0;omega),fun b hb => ?_⟩
 subst hb;simp
end
def elB(P:Program)(T E:TypeId)(sz:Nat):Bool :=
 match P.underlying T with
 | some (.slice e)=>e == E && match P.info? E with
   | some it=>it.zero.map (·.cells.size) == some it.size && it.size == sz && decide (it.bytes≤4096)
   | none=>false
 | _=>false
theorem bP{P:Program}{T E:TypeId}{sz:Nat}(h:elB P T E sz=true):P.underlying T=some (.slice E)∧∃ it,P.info? E=some it∧(it.zero.map fun z=>z.cells.size)=some it.size∧it.size=sz∧it.bytes≤4096:=by
 unfold elB at h
 split at h
 · rename_i e hu
   simp only [Bool.and_eq_true,beq_iff_eq] at h
   obtain ⟨rfl,h⟩:=h
   split at h
   · rename_i it hi
     simp only [Bool.and_eq_true,beq_iff_eq,decide_eq_true_eq] at h
     exact ⟨hu,it,hi,h.1.1,h.1.2,h.2⟩
   · cases h
 · cases h
theorem RCs.more{ps:List Per}{sz:Nat}{cs us:List Value}{r:List D}{rows:List (List D)}(h1:tkL sz cs=some us)(hr:RC ps us r)(h2:RCs ps sz (cs.drop sz) rows):RCs ps sz cs (r::rows):=by
 obtain ⟨hl,rfl⟩:=vY _ _ _ h1
 have:=RCs.cons (by simp;omega) hr h2
 rwa [List.take_append_drop] at this
section
variable {P:Program} {n:Fr} {env:Env} {ps:List Per} {hp:List Res} {ty:TypeId} {pos:String} {af:Array Edge} {gd:Option (Nat × Bool)} {K:Sta→Prop} {d:Option Tmp} {v:Value} {q:Bool}
theorem kP{x:Operand}{t t':TypeId}{a:Addr}(hT:(match P.underlying t with | some (.pointer _)=>true | _=>false)=true)(hx:ev env x=some (true,.pointer (some a))):Quiet P n ⟨d,.binOp .eql t x (.const (.pointer none)) t',ty,pos,af,gd⟩ ⟨env,ps,hp⟩ (.bool false):=.run2 hx (y:=.const (.pointer none)) (vy:=.pointer none) rfl fun ρ w h1 h2=>by
 have hu:∃ e,P.underlying t=some (.pointer e):=by
   cases h:P.underlying t with
   | none=>rw [h] at hT;cases hT
   | some dd=>rw [h] at hT;cases dd<;>first | exact ⟨_,rfl⟩ | cases hT
 obtain ⟨e,hu⟩:=hu
 unfold execOp;dsimp only;rw [h1,h2]
 have e1:(do eqGuard BinOp.eql t x (.const (.pointer none)) (Value.pointer (some a)) (Value.pointer none);binOp BinOp.eql t (Value.pointer (some a)) (Value.pointer none))=binOp BinOp.eql t (Value.pointer (some a)) (Value.pointer none):=rfl
 have e2:(binOp BinOp.eql t (Value.pointer (some a)) (Value.pointer none)).run P w=.ok (.bool false) w:=by
   have:=run_eql_pointer_nil (P:=P) (w:=w) t (some a) (by rw [hu];unfold Program.pointee;rw [hu])
   exact this
 show ((do eqGuard BinOp.eql t x (.const (.pointer none)) (Value.pointer (some a)) (Value.pointer none);binOp BinOp.eql t (Value.pointer (some a)) (Value.pointer none)).bind fun r=>Sem.pure (Next.value r)).run P w=_
 rw [e1,Sem.run_bind',e2];rfl
theorem cJ{t:Nat}{x y:Operand}{T tx E:TypeId}{sz:Nat}{vy:Value}{rows rows2:List (List D)}(i:Nat)(hel:elB P T E sz=true)
   (hx:ev env x=some (true,v)) (hy:ev env y=some (true,vy)) (ht:fits n (some t)=true) (hi:hp[i]? = some (aD v E sz rows)) (hs:kX P ⟨env,ps,hp⟩ tx sz vy rows2) (h0:rows2≠[]) (hle:rows.length+rows2.length≤1000000000)
   (m:Nat) (hm:rows.length+rows2.length=m) (hK:∀ ad c,K ⟨(t,true,.slice ad m c)::env,ps,hp.set i (aD (.slice ad m c) E sz (rows++rows2))⟩) :
   Eff P n ⟨some t,.call ⟨.builtin .append,#[x,y],#[T,tx]⟩,ty,pos,af,gd⟩ ⟨env,ps,hp⟩ false K:=by
 obtain ⟨h1,it,h2,h3,h4,h5⟩:=bP hel
 exact zP i h1 h2 h3 h4 h5 hx hy ht hi hs h0 hle m hm hK
theorem dY{T:TypeId}{tx E:TypeId}{sz:Nat}{x:Value}{rows:List (List D)}(j:Nat)(hel:elB P tx E sz=true)(hj:hp[j]? = some (aD x T sz rows))(hne:rows≠[]):kX P ⟨env,ps,hp⟩ tx sz x rows:=abO j (bP hel).1 hj hne
theorem ac3{tx E:TypeId}{sz:Nat}{x:Value}{rows:List (List D)}(hel:elB P tx E sz=true)(hs:Sh x (.sl rows)∈ps)(hrl:∀ r∈rows,r.length=sz)(hne:rows≠[]):kX P ⟨env,ps,hp⟩ tx sz x rows:=ac1 (bP hel).1 hs hrl hne
theorem fR{t:Nat}{T E:TypeId}{x y:Operand}{m:Nat}{zs:List Value}(hel:elB P T E zs.length=true)(hz:dL P E=some zs)(h1:zs.all (·.oneCell')=true)(h0:0<zs.length)
   (hx:ev env x=some (true,.int .i64 m)) (hy:ev env y=some (true,.int .i64 m)) (hm:m≤1000000000) (ht:fits n (some t)=true)
   (hK:∀ ad,K ⟨(t,true,.slice ad m m)::env,ps,hp++[aD (.slice ad m m) E zs.length (List.replicate m (zs.map .v))]⟩) :
   Eff P n ⟨some t,.makeSlice T x y,ty,pos,af,gd⟩ ⟨env,ps,hp⟩ q K:=by
 obtain ⟨h1',it,h2,h3,h4,h5⟩:=bP hel
 exact acr h1' h2 hz h1 h4 h0 h5 hx hy hm ht hK
theorem aca{t:Nat}{T E:TypeId}{len:Nat}{l:List (Nat × Operand)}{xs:List Operand}{vs zs cs:List Value}{rows:List (List D)}(hel:elB P T E zs.length=true)(hz:dL P E=some zs)(h0:0<zs.length)
   (hlen:0<len) (hsm:len*zs.length≤16777216) (hxs:l.map (·.2)=xs) (hx:evs env xs=some vs) (hb:bld (fun i=>some (i*zs.length,zs.length)) (jL len zs) ((l.map (·.1)).zip vs)=some cs) (hr:RCs ps zs.length cs rows) (hrl:rows.length=len) (ht:fits n (some t)=true)
   (hK:∀ ad,K ⟨(t,true,.slice ad len len)::env,ps,hp++[aD (.slice ad len len) E zs.length rows]⟩) :
   Eff P n ⟨some t,.buildSlice T len l.toArray,ty,pos,af,gd⟩ ⟨env,ps,hp⟩ q K:=by
 obtain ⟨h1',it,h2,h3,h4,h5⟩:=bP hel
 exact rh h1' h2 hz h4 h0 hlen hsm hxs hx hb hr hrl ht hK
end
end Go.Sy

namespace Go.Proofs.YtfkcmbonmpcbfaaGreat
open Go.RowKit Go.Lp Go.Sy
def I64(n:Int):Prop := -9223372036854775808≤n∧n≤9223372036854775807
theorem tk3:tyk Tryz.prog 3=some (false,1):=by kernel_rfl
theorem tk4:tyk Tryz.prog 4=some (false,1):=by kernel_rfl
theorem tk5:tyk Tryz.prog 5=some (false,1):=by kernel_rfl
theorem tk9:tyk Tryz.prog 9=some (false,1):=by kernel_rfl
theorem tk23:tyk Tryz.prog 23=some (false,1):=by kernel_rfl
theorem tk24:tyk Tryz.prog 24=some (false,1):=by kernel_rfl
theorem tk25:tyk Tryz.prog 25=some (false,1):=by kernel_rfl
theorem tk26:tyk Tryz.prog 26=some (false,1):=by kernel_rfl
theorem tk27:tyk Tryz.prog 27=some (false,1):=by kernel_rfl
theorem tk28:tyk Tryz.prog 28=some (false,1):=by kernel_rfl
theorem tk29:tyk Tryz.prog 29=some (false,1):=by kernel_rfl
theorem tk30:tyk Tryz.prog 30=some (false,1):=by kernel_rfl
theorem tk31:tyk Tryz.prog 31=some (false,1):=by kernel_rfl
theorem tk32:tyk Tryz.prog 32=some (false,1):=by kernel_rfl
theorem tk33:tyk Tryz.prog 33=some (false,1):=by kernel_rfl
theorem tk34:tyk Tryz.prog 34=some (false,1):=by kernel_rfl
theorem tk35:tyk Tryz.prog 35=some (false,1):=by kernel_rfl
theorem tk37:tyk Tryz.prog 37=some (true,6):=by kernel_rfl
theorem tk38:tyk Tryz.prog 38=some (false,1):=by kernel_rfl
theorem tk40:tyk Tryz.prog 40=some (true,26):=by kernel_rfl
theorem tk46:tyk Tryz.prog 46=some (false,1):=by kernel_rfl
theorem tk68:tyk Tryz.prog 68=some (true,5):=by kernel_rfl
theorem tk89:tyk Tryz.prog 89=some (false,1):=by kernel_rfl
theorem tk115:tyk Tryz.prog 115=some (false,1):=by kernel_rfl
theorem tk118:tyk Tryz.prog 118=some (false,1):=by kernel_rfl
theorem tk119:tyk Tryz.prog 119=some (false,1):=by kernel_rfl
theorem tk120:tyk Tryz.prog 120=some (false,1):=by kernel_rfl
theorem tk132:tyk Tryz.prog 132=some (true,2):=by kernel_rfl
theorem tk133:tyk Tryz.prog 133=some (true,2):=by kernel_rfl
theorem tk135:tyk Tryz.prog 135=some (true,6):=by kernel_rfl
theorem tk153:tyk Tryz.prog 153=some (true,7):=by kernel_rfl
theorem tk155:tyk Tryz.prog 155=some (true,5):=by kernel_rfl
theorem tk157:tyk Tryz.prog 157=some (true,4):=by kernel_rfl
theorem tk159:tyk Tryz.prog 159=some (true,6):=by kernel_rfl
theorem tk165:tyk Tryz.prog 165=some (false,1):=by kernel_rfl
theorem tk195:tyk Tryz.prog 195=some (true,2):=by kernel_rfl
theorem tk202:tyk Tryz.prog 202=some (false,1):=by kernel_rfl
theorem tk204:tyk Tryz.prog 204=some (true,5):=by kernel_rfl
theorem tk209:tyk Tryz.prog 209=some (true,3):=by kernel_rfl
theorem tk218:tyk Tryz.prog 218=some (true,4):=by kernel_rfl
theorem tk220:tyk Tryz.prog 220=some (true,4):=by kernel_rfl
theorem tk222:tyk Tryz.prog 222=some (true,2):=by kernel_rfl
theorem tk240:tyk Tryz.prog 240=some (false,1):=by kernel_rfl
theorem tk241:tyk Tryz.prog 241=some (true,2):=by kernel_rfl
theorem tk244:tyk Tryz.prog 244=some (false,1):=by kernel_rfl
theorem tk262:tyk Tryz.prog 262=some (true,6):=by kernel_rfl
theorem tk268:tyk Tryz.prog 268=some (true,6):=by kernel_rfl
theorem tk274:tyk Tryz.prog 274=some (true,4):=by kernel_rfl
theorem tk340:tyk Tryz.prog 340=some (false,1):=by kernel_rfl
theorem tk356:tyk Tryz.prog 356=some (true,2):=by kernel_rfl
theorem tk381:tyk Tryz.prog 381=some (false,1):=by kernel_rfl
theorem tk406:tyk Tryz.prog 406=some (true,6):=by kernel_rfl
theorem tk409:tyk Tryz.prog 409=some (false,1):=by kernel_rfl
theorem tk432:tyk Tryz.prog 432=some (false,1):=by kernel_rfl
theorem tk434:tyk Tryz.prog 434=some (true,2):=by kernel_rfl
theorem el23:elB Tryz.prog 23 153 7=true:=by kernel_rfl
theorem el24:elB Tryz.prog 24 159 6=true:=by kernel_rfl
theorem el25:elB Tryz.prog 25 155 5=true:=by kernel_rfl
theorem el26:elB Tryz.prog 26 3 1=true:=by kernel_rfl
theorem el29:elB Tryz.prog 29 195 2=true:=by kernel_rfl
theorem el30:elB Tryz.prog 30 218 4=true:=by kernel_rfl
theorem el31:elB Tryz.prog 31 220 4=true:=by kernel_rfl
theorem el32:elB Tryz.prog 32 222 2=true:=by kernel_rfl
theorem el33:elB Tryz.prog 33 262 6=true:=by kernel_rfl
theorem el34:elB Tryz.prog 34 268 6=true:=by kernel_rfl
theorem el35:elB Tryz.prog 35 274 4=true:=by kernel_rfl
theorem el38:elB Tryz.prog 38 204 5=true:=by kernel_rfl
theorem el49:elB Tryz.prog 49 40 26=true:=by kernel_rfl
theorem el71:elB Tryz.prog 71 68 5=true:=by kernel_rfl
theorem el89:elB Tryz.prog 89 5 1=true:=by kernel_rfl
theorem el115:elB Tryz.prog 115 135 6=true:=by kernel_rfl
theorem el202:elB Tryz.prog 202 209 3=true:=by kernel_rfl
theorem el340:elB Tryz.prog 340 133 2=true:=by kernel_rfl
theorem el354:elB Tryz.prog 354 356 2=true:=by kernel_rfl
theorem el381:elB Tryz.prog 381 26 1=true:=by kernel_rfl
theorem el436:elB Tryz.prog 436 434 2=true:=by kernel_rfl
end Go.Proofs.YtfkcmbonmpcbfaaGreat

namespace Go.Sy
open Go.RowKit Go.Deep
section
variable (P:Program)
def sO:Nat→List Field→Nat→Bool
 | off,[],tot=>off == tot
 | off,f::fs,tot=>f.offset == off && decide (off+P.cellsOf f.type≤tot) && sO (off+P.cellsOf f.type) fs tot
def rdT:Nat→TypeId→Bool
 | 0,_=>false
 | k+1,t=>match P.underlying t with
   | some .bool=>true
   | some (.int _)=>true
   | some .string=>true
   | some (.slice e)=>decide (0<P.cellsOf e) && rdT k e
   | some (.struct fs)=>sO P 0 fs.toList (P.cellsOf t) && fs.toList.all (fun f=>rdT k f.type)
   | _=>false
def okF(ok:TypeId→List D→Prop):List Field→List D→Prop
 | [],ds=>ds=[]
 | f::fs,ds=>∃ d1 d2,ds=d1++d2∧ok f.type d1∧okF ok fs d2
def okD:Nat→TypeId→List D→Prop
 | 0,_,_=>False
 | k+1,t,ds=>match P.underlying t with
   | some .bool=>∃ b,ds=[.v (.bool b)]
   | some (.int i)=>∃ n,ds=[.v (.int i n)]∧(Lit.int i n).wf=true
   | some .string=>∃ s,ds=[.v (.string s)]∧s.size≤maxLen
   | some (.slice e)=>∃ rows,ds=[.sl rows]∧rows.length≤maxLen∧∀ r∈rows,okD k e r
   | some (.struct fs)=>okF (okD k) fs.toList ds
   | _=>False
end
variable {P:Program} {H:Type} {enc:TypeId × Value→H} {w:World} {base:Nat} {spare:Nat→Bool} {held:Bool}
def Rds(w:World)(cs:List Value)(off:Nat)(ds:List D):Prop:=∀ (j:Nat) (d:D),ds[j]? = some d→∃ u,cs[off+j]? = some u∧u.oneCell'=true∧ea w (fun b=>b<w.heap.size) u d
section
theorem jC{u:Value}{d:D}(h1:u.oneCell'=true)(h:ea w (fun b=>b<w.heap.size) u d):Rds w [u] 0 [d]:=fun j e hj=>by
 cases j with
 | zero=>simp at hj;subst hj;exact ⟨u,rfl,h1,h⟩
 | succ j=>simp at hj
theorem oM{k fuel:Nat}{cs:List Value}{tot:Nat}(hcs:cs.length=tot)
   (ih:∀ (t:TypeId) (cs:List Value) (x:DataW H × List MemPlace),rdT P k t=true→DataW.trod enc P w base spare held fuel t cs=some x→∃ ds,ds.length=cs.length∧okD P k t ds∧Rds w cs 0 ds) :
   ∀ (fs:List Field) (off:Nat),sO P off fs tot=true→fs.all (fun f=>rdT P k f.type)=true →
     (∀ f∈fs,∃ y,DataW.trod enc P w base spare held fuel f.type ((cs.drop f.offset).take (P.cellsOf f.type))=some y)→∃ ds,off+ds.length=tot∧okF (okD P k) fs ds∧Rds w cs off ds
 | [],off,hc,_,_=>⟨[],by simpa [sO] using hc,rfl,fun j d hj=>by cases hj⟩
 | f :: fs,off,hc,hr,ht=>by
   simp only [sO,Bool.and_eq_true,beq_iff_eq,decide_eq_true_eq] at hc
   obtain ⟨⟨hc1,hc2⟩,hc3⟩:=hc
   simp only [List.all_cons,Bool.and_eq_true] at hr
   obtain ⟨y,hy⟩:=ht f (List.mem_cons_self ..)
   obtain ⟨d1,l1,o1,r1⟩:=ih _ _ _ hr.1 hy
   obtain ⟨d2,l2,o2,r2⟩:=oM hcs ih fs _ hc3 hr.2 (fun g hg=>ht g (List.mem_cons_of_mem _ hg))
   rw [List.length_take,List.length_drop,hc1,hcs] at l1
   have l1:d1.length=P.cellsOf f.type:=by omega
   refine ⟨d1++d2,by rw [List.length_append];omega,⟨d1,d2,rfl,o1,o2⟩,fun j d hj => ?_⟩
   by_cases hjl:j<d1.length
   · rw [List.getElem?_append_left hjl] at hj
     obtain ⟨u,hu,h1,h2⟩:=r1 j d hj
     rw [Nat.zero_add,List.getElem?_take,if_pos (by omega),List.getElem?_drop,hc1] at hu
     exact ⟨u,hu,h1,h2⟩
   · rw [List.getElem?_append_right (by omega)] at hj
     obtain ⟨u,hu,h1,h2⟩:=r2 _ d hj
     rw [show off+P.cellsOf f.type+(j-d1.length)=off+j by omega] at hu
     exact ⟨u,hu,h1,h2⟩
theorem yQ{a:Addr}{u:Value}(h:w.cell? a=some u):a=⟨a.block,a.off,none⟩∧a.block<w.heap.size:=by
 obtain ⟨b,o,sp⟩:=a
 unfold World.cell? at h
 split at h
 · rename_i hb
   refine ⟨?_,(Array.getElem?_eq_some_iff.1 hb).1⟩
   cases sp with
   | none=>rfl
   | some z=>simp at h
 · cases h
theorem oT : ∀ (k fuel:Nat) (t:TypeId) (cs:List Value) (x:DataW H × List MemPlace),rdT P k t=true→DataW.trod enc P w base spare held fuel t cs=some x→∃ ds,ds.length=cs.length∧okD P k t ds∧Rds w cs 0 ds
 | 0,_,_,_,_,h,_=>by cases h
 | k + 1,fuel,t,cs,x,hr,h=>by
   unfold rdT at hr
   unfold okD
   split at hr
   · rename_i hu
     obtain ⟨b,rfl,_⟩:=DataW.trod_bool hu h
     exact ⟨[.v (.bool b)],rfl,⟨b,rfl⟩,jC rfl (.v _)⟩
   · rename_i i hu
     obtain ⟨n,rfl,_,hw⟩:=DataW.trod_int hu h
     exact ⟨[.v (.int i n)],rfl,⟨n,rfl,hw⟩,jC rfl (.v _)⟩
   · rename_i hu
     obtain ⟨s,rfl,_,hs⟩:=DataW.trod_string hu h
     exact ⟨[.v (.string s)],rfl,⟨s,rfl,hs⟩,jC rfl (.v _)⟩
   · rename_i e hu
     rw [Bool.and_eq_true,decide_eq_true_eq] at hr
     obtain ⟨hp,hr⟩:=hr
     rcases open_slice hu h with ⟨rfl,_⟩ | ⟨a,len,cap,m,n,_,_,rfl,_,hl,hm,hmm,_,hx⟩
     · exact ⟨[.sl []],rfl,⟨[],rfl,by simp,fun r hr=>by cases hr⟩,jC rfl (.e none 0 (by simp))⟩
     · have hlm:len≤m:=by rw [hmm];split<;>omega
       by_cases hl0:len=0
       · subst hl0
         exact ⟨[.sl []],rfl,⟨[],rfl,by simp,fun r hr=>by cases hr⟩,jC rfl (.e (some a) cap hm)⟩
       · have each:∀ i,∃ r:List D,i<len→r.length=P.cellsOf e∧okD P k e r∧∀ (j:Nat) (d:D),r[j]? = some d→∃ u,w.cell? ((a.add (i*P.cellsOf e)).add j)=some u∧u.oneCell'=true∧ea w (fun b=>b<w.heap.size) u d:=fun i=>by
           by_cases hi:i<len
           · obtain ⟨cs',h1,h2⟩:=hx i (by omega)
             obtain ⟨ds,l1,o1,r1⟩:=oT k _ _ _ _ hr h2
             obtain ⟨_,hcl,hc⟩:=World.cells?_some h1
             refine ⟨ds,fun _=>⟨by omega,o1,fun j d hj => ?_⟩⟩
             obtain ⟨u,hu,q1,q2⟩:=r1 j d hj
             have:=(List.getElem?_eq_some_iff.1 hj).1
             rw [hc j (by omega)]
             exact ⟨u,by rw [← hu,Nat.zero_add],q1,q2⟩
           · exact ⟨[],fun h=>absurd h hi⟩
         obtain ⟨R,hR⟩:=Classical.skolem.1 each
         have ha:a=⟨a.block,a.off,none⟩∧a.block<w.heap.size:=by
           obtain ⟨e1,_,e3⟩:=hR 0 (by omega)
           obtain ⟨d,hd⟩:∃ d,(R 0)[0]? = some d:=⟨(R 0)[0]'(by omega),by simp⟩
           obtain ⟨u,hu,_⟩:=e3 0 d hd
           have:(a.add (0*P.cellsOf e)).add 0=a:=by simp [Addr.add]
           rw [this] at hu
           exact yQ hu
         obtain ⟨ha,hb⟩:=ha
         have hadd:∀ i j,(a.add (i*P.cellsOf e)).add j=⟨a.block,a.off+i*P.cellsOf e+j,none⟩:=fun i j=>by
           rw [ha];unfold Addr.add
           by_cases h1:i*P.cellsOf e=0<;>by_cases h2:j=0<;>simp [h1,h2]
         have hrow:∀ (i:Nat) (r:List D),((List.range len).map R)[i]? = some r→i<len∧r=R i:=fun i r hi=>by
           have:=(List.getElem?_eq_some_iff.1 hi).1
           simp at this
           rw [List.getElem?_map,List.getElem?_range this] at hi
           exact ⟨this,by simpa using hi.symm⟩
         refine ⟨[.sl ((List.range len).map R)],rfl,⟨_,rfl,by simp;omega,fun r hr => ?_⟩,jC rfl ?_⟩
         · obtain ⟨i,hi,rfl⟩:=List.mem_map.1 hr
           exact (hR i (List.mem_range.1 hi)).2.1
         · have:=ea.sl (w:=w) (S:=fun b=>b<w.heap.size) a.block a.off cap (P.cellsOf e) ((List.range len).map R) (fun i j=>(w.cell? ⟨a.block,a.off+i*P.cellsOf e+j,none⟩).getD (.bool false)) hb (by simpa using hl) hm
             (fun i r hi=>by obtain ⟨h1,rfl⟩:=hrow i r hi;exact (hR i h1).1)
             (fun i j r d hi hj=>by
               obtain ⟨h1,rfl⟩:=hrow i r hi
               obtain ⟨u,hu,q1,q2⟩:=(hR i h1).2.2 j d hj
               rw [hadd] at hu
               rw [hu];exact ⟨rfl,q1⟩)
             (fun i j r d hi hj=>by
               obtain ⟨h1,rfl⟩:=hrow i r hi
               obtain ⟨u,hu,q1,q2⟩:=(hR i h1).2.2 j d hj
               rw [hadd] at hu
               rw [hu];exact q2)
           rw [← ha] at this
           simpa using this
   · rename_i fs hu
     rw [Bool.and_eq_true] at hr
     obtain ⟨xs,n,_,_,hcl,hxl,hf⟩:=DataW.trod_struct hu h
     obtain ⟨ds,l1,o1,r1⟩:=oM (tot:=P.cellsOf t) hcl (fun t cs x h1 h2=>oT k n t cs x h1 h2) fs.toList 0 hr.1 hr.2 (fun f hff=>by
       obtain ⟨i,hi,rfl⟩:=List.getElem_of_mem hff
       rw [hf i _ (by simp at hi ⊢)]
       simp at hi
       exact ⟨xs[i]'(by omega),by simp [hxl,hi]⟩)
     exact ⟨ds,by omega,o1,r1⟩
   · cases hr
theorem abv{k:Nat}{t:TypeId}{ds:List D}{i:IntKind}(hu:P.underlying t=some (.int i))(h:okD P (k+1) t ds):∃ n,ds=[.v (.int i n)]∧(Lit.int i n).wf=true:=by unfold okD at h;rw [hu] at h;exact h
theorem aaq{k:Nat}{t:TypeId}{ds:List D}(hu:P.underlying t=some .bool)(h:okD P (k+1) t ds):∃ b,ds=[.v (.bool b)]:=by unfold okD at h;rw [hu] at h;exact h
theorem vp{k:Nat}{t:TypeId}{ds:List D}(hu:P.underlying t=some .string)(h:okD P (k+1) t ds):∃ s,ds=[.v (.string s)]∧s.size≤maxLen:=by unfold okD at h;rw [hu] at h;exact h
theorem yq{k:Nat}{t e:TypeId}{ds:List D}(hu:P.underlying t=some (.slice e))(h:okD P (k+1) t ds):∃ rows,ds=[.sl rows]∧rows.length≤maxLen∧∀ r∈rows,okD P k e r:=by unfold okD at h;rw [hu] at h;exact h
theorem vq{k:Nat}{t:TypeId}{ds:List D}{fs:Array Field}(hu:P.underlying t=some (.struct fs))(h:okD P (k+1) t ds):okF (okD P k) fs.toList ds:=by unfold okD at h;rw [hu] at h;exact h
theorem adL{n:Int}(h:(Lit.int .i64 n).wf=true) : -9223372036854775808≤n∧n≤9223372036854775807:=by
 simp only [Lit.wf,Bool.and_eq_true,decide_eq_true_eq] at h
 have e1:IntKind.i64.min = -9223372036854775808:=by decide +kernel
 have e2:IntKind.i64.max=9223372036854775807:=by decide +kernel
 rw [e1,e2] at h
 exact h
theorem adx{ps:List Per}(h:∀ p∈ps,p.holds w fun b=>b<w.heap.size):St w (fun b=>b<w.heap.size) (fun _ _=>False) ps [] :=
 ⟨h,fun i R hR=>by simp at hR,fun i hi=>by simp at hi,fun i j hi=>by simp at hi,fun _ h=>h⟩
end
end Go.Sy

namespace Go.Sy
open Go.RowKit
section
variable {P:Program} {n:Fr} {s:Sta} {d:Option Tmp} {ty:TypeId} {pos:String} {af:Array Edge} {gd:Option (Nat × Bool)} {x:Operand} {T t':TypeId}
theorem vM{E:TypeId}{ad:Option Addr}{k c:Nat}(hT:P.underlying T=some (.slice E))(hx:ev s.env x=some (true,.slice ad k c)):Quiet P n ⟨d,.binOp .eql T x (.const (.slice none 0 0)) t',ty,pos,af,gd⟩ s (.bool ad.isNone) :=
 .run2 (vy:=.slice none 0 0) hx rfl fun ρ w h1 h2=>by
   unfold execOp;dsimp only;rw [h1,h2]
   simp only [eqGuard_at_slice,binOp,Sem.run_bind,Sem.run_pure,run_equal_slice_nil w T E ad k c hT,Result.andThen_ok]
end
section
variable {P:Program} {n:Fr} {env:Env} {ps:List Per} {hp:List Res} {ty:TypeId} {pos:String} {af:Array Edge} {gd:Option (Nat × Bool)} {q:Bool} {K:Sta→Prop}
theorem vZ{t:Nat}{T E:TypeId}{sz:Nat}(hel:elB P T E sz=true)(ht:fits n (some t)=true)
   (hK:∀ ad,K ⟨(t,true,.slice ad 0 0)::env,ps,hp++[aD (.slice ad 0 0) E sz []]⟩) :
   Eff P n ⟨some t,.buildSlice T 0 #[],ty,pos,af,gd⟩ ⟨env,ps,hp⟩ q K:=.push fun w S fp a hst he hn=>by
 obtain ⟨hT,it,hi,h3,h4,h5⟩:=bP hel
 have:(execOp a.eval ⟨some t,.buildSlice T 0 #[],ty,pos,af,gd⟩).run P w=.ok (.value (.slice (some ⟨w.heap.size,0,none⟩) 0 0)) (w.alloc (.cells #[] E)):=by
   show ((Instr.buildSlice T 0 ((#[]:Array (Nat × Operand)).map fun (i,x)=>(i,a.eval x))).bind fun r=>Sem.pure (Next.value r)).run P w=_
   have hrun:(Instr.buildSlice T 0 #[]).run P w=.ok (.slice (some ⟨w.heap.size,0,none⟩) 0 0) (w.alloc (.cells #[] E)):=by
     simp [Instr.buildSlice,run_underlying hT,sizeOf,typeInfo,hi,newRow,Instr.fill,show Array.range 0 = #[] by decide]
   rw [Array.map_empty,Sem.run_bind',hrun];rfl
 rw [this]
 refine ⟨_,fun b=>b=w.heap.size,_,hK (some ⟨w.heap.size,0,none⟩),rfl,rfl,he.put (g:=true) (by rw [hn];simpa [fits] using ht) _,ec _ _,rA (cs:=[]) (RCs.rows .nil hst.per) hst.slt rfl (by unfold maxLen;omega),fun b hb => ?_⟩
 subst hb;simp
end
theorem zg{P:Program}{n:Fr}{env:Env}{ps:List Per}{hp:List Res}{c:Code}{Q:Exit→Sta→Prop}(p:Per)(hf:∀ w S,(∀ q∈ps,q.holds w S)→p.holds w S)(h:awp P n c Q ⟨env,p::ps,hp⟩):awp P n c Q ⟨env,ps,hp⟩:=fun w S fp a hst he hn hd =>
 h w S fp a ⟨fun q hq=>by
   rcases List.mem_cons.1 hq with rfl | hq
   · exact hf w S hst.per
   · exact hst.per q hq,hst.res,hst.lt,hst.dj,hst.slt⟩ he hn hd
end Go.Sy

namespace Go.Sy
open Go.RowKit Go.Lp
def pJ:Value→Nat
 | .slice (some a) _ _=>a.block
 | _=>0
theorem abV{cs vs:List Value}{o:Nat}(h:o+vs.length≤cs.length)(k:Nat):(wrC cs o vs)[k]? = if k<o then cs[k]? else if k<o+vs.length then vs[k-o]? else cs[k]? := by
 unfold wrC
 simp only [List.getElem?_append,List.length_take,List.getElem?_take,List.getElem?_drop]
 rw [Nat.min_eq_left (by omega)]
 by_cases h1:k<o
 · simp [h1]
 · by_cases h2:k<o+vs.length
   · rw [if_neg h1,if_pos (by omega),if_neg h1,if_pos h2]
   · rw [if_neg h1,if_neg (by omega),if_neg h1,if_neg h2];congr 1;omega
theorem rO{cs vs:List Value}{o:Nat}(h:o+vs.length≤cs.length):(wrC cs o vs).length=cs.length:=by
 unfold wrC;simp;omega
theorem wb{cs sp vs:List Value}{o:Nat}(h:o+vs.length≤cs.length):wrC (cs++sp) o vs=wrC cs o vs++sp:=by
 unfold wrC
 rw [List.take_append_of_le_length (by omega),List.drop_append_of_le_length (by omega)]
 simp
def ka(row:List D)(j:Nat)(ds:List D):List D:=row.take j++(ds++row.drop (j+ds.length))
theorem aaL{row ds:List D}{j:Nat}(h:j+ds.length≤row.length):(ka row j ds).length=row.length:=by
 unfold ka;simp;omega
theorem aaK{row ds:List D}{j:Nat}(h:j+ds.length≤row.length)(k:Nat):(ka row j ds)[k]? = if k<j then row[k]? else if k<j+ds.length then ds[k-j]? else row[k]? := by
 unfold ka
 simp only [List.getElem?_append,List.length_take,List.getElem?_take,List.getElem?_drop]
 rw [Nat.min_eq_left (by omega)]
 by_cases h1:k<j
 · simp [h1]
 · by_cases h2:k<j+ds.length
   · rw [if_neg h1,if_pos (by omega),if_neg h1,if_pos h2]
   · rw [if_neg h1,if_neg (by omega),if_neg h1,if_neg h2];congr 1;omega
theorem cZ.set{w:World}{S:aT}{sz:Nat}{cs:List Value}{rows:List (List D)}(h:cZ w S sz cs rows){r j:Nat}{row ds:List D}{vs:List Value}(hr:rows[r]? = some row)(hl:vs.length=ds.length)(hj:j+ds.length≤sz)
   (h1:∀ v∈vs,v.oneCell'=true) (hd:∀ (k:Nat) (d:D),ds[k]? = some d→∃ u,vs[k]? = some u∧ea w S u d):cZ w S sz (wrC cs (r*sz+j) vs) (rows.set r (ka row j ds)):=by
 have hrl:=(List.getElem?_eq_some_iff.1 hr).1
 have hrow:=h.row r row hr
 have hle:r*sz+j+vs.length≤cs.length:=by
   have:=Nat.mul_le_mul_right sz (show r+1≤rows.length by omega)
   rw [Nat.add_mul] at this
   have:=h.len;omega
 refine ⟨by rw [rO hle,h.len];simp,fun i r' hi => ?_,fun v hv => ?_,fun i k r' d hi hk => ?_⟩
 · by_cases hir:r=i
   · subst hir
     rw [List.getElem?_set_self hrl] at hi
     simp only [Option.some.injEq] at hi
     rw [← hi,aaL (by omega)];exact hrow
   · rw [List.getElem?_set_ne hir] at hi;exact h.row i r' hi
 · unfold wrC at hv
   rcases List.mem_append.1 hv with hv | hv
   · exact h.one v (List.mem_of_mem_take hv)
   · rcases List.mem_append.1 hv with hv | hv
     · exact h1 v hv
     · exact h.one v (List.mem_of_mem_drop hv)
 · rw [abV hle]
   by_cases hir:r=i
   · subst hir
     rw [List.getElem?_set_self hrl] at hi
     simp only [Option.some.injEq] at hi
     subst hi
     rw [aaK (by omega)] at hk
     by_cases c1:k<j
     · rw [if_pos c1] at hk
       rw [if_pos (by omega)]
       exact h.rep r k row d hr hk
     · rw [if_neg c1] at hk
       rw [if_neg (by omega)]
       by_cases c2:k<j+ds.length
       · rw [if_pos c2] at hk
         rw [if_pos (by omega),show r*sz+k-(r*sz+j)=k-j by omega]
         exact hd _ d hk
       · rw [if_neg c2] at hk
         rw [if_neg (by omega)]
         exact h.rep r k row d hr hk
   · rw [List.getElem?_set_ne hir] at hi
     have hks:k<sz:=by rw [← h.row i r' hi];exact (List.getElem?_eq_some_iff.1 hk).1
     have hno:i*sz+k<r*sz+j∨r*sz+j+vs.length≤i*sz+k:=by
       rcases Nat.lt_or_gt_of_ne hir with hlt | hlt
       · have:=Nat.mul_le_mul_right sz (show r+1≤i by omega)
         rw [Nat.add_mul] at this;omega
       · have:=Nat.mul_le_mul_right sz (show i+1≤r by omega)
         rw [Nat.add_mul] at this;omega
     obtain ⟨u,hu,hr'⟩:=h.rep i k r' d hi hk
     refine ⟨u,?_,hr'⟩
     rcases hno with hno | hno
     · rw [if_pos hno];exact hu
     · rw [if_neg (by omega),if_neg (by omega)];exact hu
section
variable {P:Program} {n:Fr} {env:Env} {ps:List Per} {hp:List Res} {ty:TypeId} {pos:String} {af:Array Edge} {gd:Option (Nat × Bool)} {K:Sta→Prop} {d:Option Tmp} {v:Value} {E T U:TypeId} {sz:Nat} {rows:List (List D)} {x y:Operand}
theorem bE(i k:Nat)(hel:elB P T E sz=true)(hx:ev env x=some (true,v))(hi:hp[i]? = some (aD v E sz rows)){z:Int}(hy:ev env y=some (true,.int .i64 z))(hz:z=(k:Int))(hk:k<rows.length) :
   Quiet P n ⟨d,.indexAddr T x y,ty,pos,af,gd⟩ ⟨env,ps,hp⟩ (.pointer (some ⟨pJ v,k*sz,none⟩)):=fun w S fp a hst he hn=>by
 subst hz
 obtain ⟨hT,it,hit,_,hsz,_⟩:=bP hel
 have h1:=he.val hx rfl
 have h2:=he.val hy rfl
 rcases hst.res i _ hi with ⟨_,rfl,_⟩ | ⟨B,c,rfl,_⟩
 · simp at hk
 · have:(execOp a.eval ⟨d,.indexAddr T x y,ty,pos,af,gd⟩).run P w=.ok (.value (.pointer (some ⟨B,k*sz,none⟩))) w:=by
     unfold execOp;dsimp only;rw [h1,h2]
     show ((Instr.indexAt T (.slice (some ⟨B,0,none⟩) rows.length c) (.int .i64 k)).bind fun r=>Sem.pure (Next.value r)).run P w=_
     have hE:P.elem T=E:=by unfold Program.elem;rw [hT]
     rw [Sem.run_bind',run_indexAt_slice _ _ _ _ _ _ _ (by rw [hE];exact hT),if_pos (by omega),hE,bQ hit,hsz]
     simp only [Result.andThen,Int.toNat_natCast]
     unfold Addr.add
     split
     · rename_i h0;rw [h0];rfl
     · simp only [Nat.zero_add];rfl
   rw [this];exact bu _ _
theorem aar{w:World}{S F:aT}(h:(aD v E sz rows).holds w S F){r:Nat}{row:List D}(hr:rows[r]? = some row){j:Nat}{dd:D}(hj:row[j]? = some dd):∃ u,w.cell? ⟨pJ v,r*sz+j,none⟩=some u∧ea w S u dd∧u.oneCell'=true:=by
 rcases h with ⟨_,rfl,_⟩ | ⟨b,cap,rfl,⟨cs,sp,h1,h2,_⟩,_⟩
 · simp at hr
 · obtain ⟨u,hu,hrep⟩:=h2.rep r j row dd hr hj
   refine ⟨u,?_,hrep,h2.one u (List.mem_of_getElem? hu)⟩
   show w.cell? ⟨b,r*sz+j,none⟩=_
   rw [c9 h1,List.getElem?_append_left (List.getElem?_eq_some_iff.1 hu).1];exact hu
theorem bb{ag:Bool}{kk o:Nat}{row:List D}{u:Value}(i r j:Nat)(hk:tyk P U=some (ag,kk))(hx:ev env x=some (true,.pointer (some ⟨pJ v,o,none⟩)))(hi:hp[i]? = some (aD v E sz rows))(hr:rows[r]? = some row)(ho:o=r*sz+j)(hv:rdD ag kk row j=some u) :
   Quiet P n ⟨d,.load U x,ty,pos,af,gd⟩ ⟨env,ps,hp⟩ u:=fun w S fp a hst he hn=>by
 subst ho
 have h1:=he.val hx rfl
 have hres:=hst.res i _ hi
 have hat:(At (pJ v) (r*sz) row).holds w (fun _=>True):=⟨trivial,fun j dd hj=>by
   obtain ⟨u,hu,hrep,h1⟩:=aar hres hr hj
   exact ⟨u,hu,h1,hrep.mono (fun _ _=>rfl) (fun _ _=>trivial)⟩⟩
 have:(execOp a.eval ⟨d,.load U x,ty,pos,af,gd⟩).run P w=.ok (.value u) w:=by
   unfold execOp;dsimp only;rw [h1]
   have:=rI (P:=P) hk hv hat
   show ((loadVar U ⟨pJ v,r*sz+j,none⟩).bind fun r=>Sem.pure (Next.value r)).run P w=_
   rw [Sem.run_bind',this];rfl
 rw [this];exact bu _ _
theorem dm{ag:Bool}{kk o:Nat}{row ds:List D}{vy:Value}(i r j:Nat)(hk:tyk P U=some (ag,kk))(hx:ev env x=some (true,.pointer (some ⟨pJ v,o,none⟩)))(hy:ev env y=some (true,vy))(hi:hp[i]? = some (aD v E sz rows))(hr:rows[r]? = some row)(ho:o=r*sz+j)
   (hc:RC ps vy.cells.toList ds) (hl:ds.length=kk) (hj:j+kk≤sz) (hK:K ⟨env,ps,hp.set i (aD v E sz (rows.set r (ka row j ds)))⟩) :
   Eff P n ⟨none,.store U x y,ty,pos,af,gd⟩ ⟨env,ps,hp⟩ false K:=.change i hi fun w S fp a hst he hn hR=>by
 subst ho
 have e1:=he.val hx rfl
 have e2:=he.val hy rfl
 obtain ⟨_,it,_,hit,_,hjk⟩:=ib hk
 obtain ⟨hvl,hv1,hvd⟩:=hc.get
 generalize hv:vy.cells.toList=vs at hvl hv1 hvd
 rcases hR with ⟨_,rfl,_⟩ | ⟨b,cap,rfl,⟨cs,sp,hb,hrows,hcap,hrc,hcm⟩,hF⟩
 · simp at hr
 · have hrl:=(List.getElem?_eq_some_iff.1 hr).1
   have hle:r*sz+j+vs.length≤cs.length:=by
     have:=Nat.mul_le_mul_right sz (show r+1≤rows.length by omega)
     rw [Nat.add_mul] at this
     have:=hrows.len;omega
   have:(execOp a.eval ⟨none,.store U x y,ty,pos,af,gd⟩).run P w=.ok .skip (w.setRow b (wrC (cs++sp) (r*sz+j) vs).toArray):=by
     show ((Instr.storeAt U (a.eval x) (a.eval y)).bind fun _=>Sem.pure Next.skip).run P w=_
     rw [e1,e2,Sem.run_bind']
     have:(Instr.storeAt U (.pointer (some ⟨b,r*sz+j,none⟩)) vy).run P w=.ok () (w.setRow b (wrC (cs++sp) (r*sz+j) vs).toArray):=by
       show (storeVar U ⟨b,r*sz+j,none⟩ vy).run P w=_
       unfold storeVar
       simp only [Sem.run_bind,bQ hit,Result.andThen]
       have hsz:vy.cells.size=it.size:=by rw [hjk,← hl,← hvl,← hv];simp
       rw [if_neg (by simpa using hsz),hv]
       exact fq b E (r*sz+j) vs 0 (cs++sp) w hb hv1 (by simp;omega)
     show (Result.andThen ((Instr.storeAt U (.pointer (some ⟨b,r*sz+j,none⟩)) vy).run P w) _)=_
     rw [this];rfl
   rw [this]
   have hbS:¬ S b:=(hst.lt i (List.getElem?_eq_some_iff.1 hi).1 b ((hF b).2 rfl)).2
   refine ⟨aD _ E sz (rows.set r (ka row j ds)),_,hK,rfl,rfl,he,?_,rfl,rfl,⟨rfl,rfl⟩,by simp [World.setRow],fun b' hb' hne=>setRow_other _ _ _ _ (fun h=>hne ((hF b').2 h))⟩
   refine .inr ⟨b,cap,by simp,⟨wrC cs (r*sz+j) vs,sp,?_,?_,?_,by simpa using hrc,hcm⟩,hF⟩
   · rw [← wb hle];exact setRow_heap _ _ _ _ _ _ hb
   · refine (hrows.set hr hvl (by omega) hv1 (fun k dd hk => ?_)).mono (fun b' hb'=>setRow_other _ _ _ _ (fun h=>hbS (h ▸ hb'))) (fun _ h=>h)
     obtain ⟨u,hu,hd⟩:=hvd k dd hk
     refine ⟨u,hu,?_⟩
     rcases hd with rfl | hd
     · exact .v u
     · exact hst.per _ hd
   · rw [List.length_append,rO hle,← List.length_append];exact hcap
end
def dM(R R':Res):Res :=
 ⟨fun w S F=>∃ G H:aT,R.holds w S G∧R'.holds w S H∧(∀ b,G b→¬ H b)∧∀ b,F b↔G b∨H b,
  fun ⟨G,H,h1,h2,h3,h4⟩ k1 k2 k3=>⟨G,H,R.mono h1 (fun b hb=>k1 b ((h4 b).2 (.inl hb))) k2 k3,R'.mono h2 (fun b hb=>k1 b ((h4 b).2 (.inr hb))) k2 k3,h3,h4⟩⟩
section
variable {w:World} {S:aT} {fp:Nat→aT} {ps:List Per} {hp:List Res}
theorem St.star(h:St w S fp ps hp){i j:Nat}{R R':Res}(hi:hp[i]? = some R)(hj:hp[j]? = some R')(hne:i≠j) :
   St w S (fun k=>if k=i then (fun b=>fp i b∨fp j b) else if k=j then (fun _=>False) else fp k) ps ((hp.set i (dM R R')).set j emp):=by
 have hil:=(List.getElem?_eq_some_iff.1 hi).1
 have hjl:=(List.getElem?_eq_some_iff.1 hj).1
 refine ⟨h.per,fun k T hk => ?_,fun k hk b hb => ?_,fun k l hk hl hkl b hb hb' => ?_,h.slt⟩
 · by_cases hkj:k=j
   · subst hkj
     rw [List.getElem?_set_self (by simpa using hjl)] at hk
     simp only [Option.some.injEq] at hk
     subst hk
     rw [if_neg (Ne.symm hne),if_pos rfl]
     exact fun b hb=>hb
   · rw [List.getElem?_set_ne (Ne.symm hkj)] at hk
     by_cases hki:k=i
     · subst hki
       rw [List.getElem?_set_self hil] at hk
       simp only [Option.some.injEq] at hk
       subst hk
       rw [if_pos rfl]
       exact ⟨fp k,fp j,h.res k R hi,h.res j R' hj,h.dj k j hil hjl hne,fun b=>Iff.rfl⟩
     · rw [List.getElem?_set_ne (Ne.symm hki)] at hk
       rw [if_neg hki,if_neg hkj]
       exact h.res k T hk
 · have hk':k<hp.length:=by simpa using hk
   by_cases hki:k=i
   · rw [if_pos hki] at hb
     rcases hb with hb | hb
     · exact h.lt i hil b hb
     · exact h.lt j hjl b hb
   · rw [if_neg hki] at hb
     by_cases hkj:k=j
     · rw [if_pos hkj] at hb;exact hb.elim
     · rw [if_neg hkj] at hb;exact h.lt k hk' b hb
 · have hk':k<hp.length:=by simpa using hk
   have hl':l<hp.length:=by simpa using hl
   by_cases hki:k=i
   · rw [if_pos hki] at hb
     rw [if_neg (by omega)] at hb'
     by_cases hlj:l=j
     · rw [if_pos hlj] at hb';exact hb'
     · rw [if_neg hlj] at hb'
       rcases hb with hb | hb
       · exact h.dj i l hil hl' (by omega) b hb hb'
       · exact h.dj j l hjl hl' (by omega) b hb hb'
   · rw [if_neg hki] at hb
     by_cases hkj:k=j
     · rw [if_pos hkj] at hb;exact hb
     · rw [if_neg hkj] at hb
       by_cases hli:l=i
       · rw [if_pos hli] at hb'
         rcases hb' with hb' | hb'
         · exact h.dj k i hk' hil hki b hb hb'
         · exact h.dj k j hk' hjl hkj b hb hb'
       · rw [if_neg hli] at hb'
         by_cases hlj:l=j
         · rw [if_pos hlj] at hb';exact hb'
         · rw [if_neg hlj] at hb';exact h.dj k l hk' hl' hkl b hb hb'
end
section
variable {P:Program} {n:Fr} {env:Env} {ps:List Per} {hp:List Res} {c:Code} {Q:Exit→Sta→Prop}
theorem qL{hp':List Res}{ps':List Per}(h0:∀ w S fp,St w S fp ps hp→∃ fp',St w S fp' ps' hp'∧∀ b,tot fp' hp'.length b→tot fp hp.length b)(h:awp P n c Q ⟨env,ps',hp'⟩):awp P n c Q ⟨env,ps,hp⟩:=fun w S fp a hst he hn hd=>by
 obtain ⟨fp',h1,h2⟩:=h0 w S fp hst
 exact ck (fun e a' w' hp'=>eh.trans (Evo.refl _ _ _) (fun b hb=>.inl (h2 b hb)) hp') (h w S fp' a h1 he hn hd)
theorem rY(i j:Nat){R R':Res}(hi:hp[i]? = some R)(hj:hp[j]? = some R')(hne:(i == j)=false)(h:awp P n c Q ⟨env,ps,(hp.set i (dM R R')).set j emp⟩):awp P n c Q ⟨env,ps,hp⟩:=by
 have hil:=(List.getElem?_eq_some_iff.1 hi).1
 have hjl:=(List.getElem?_eq_some_iff.1 hj).1
 refine qL (fun w S fp hst=>⟨_,hst.star hi hj (by simpa using hne),fun b ⟨k,hk,hb⟩ => ?_⟩) h
 have hk':k<hp.length:=by simpa using hk
 dsimp only at hb
 split at hb
 · exact hb.elim (fun h=>⟨i,hil,h⟩) (fun h=>⟨j,hjl,h⟩)
 · split at hb
   · exact hb.elim
   · exact ⟨k,hk',hb⟩
theorem iV(R:Res)(hR:∀ w S,R.holds w S (fun _=>False))(h:awp P n c Q ⟨env,ps,hp++[R]⟩):awp P n c Q ⟨env,ps,hp⟩:=qL (fun w S fp hst=>⟨_,hst.push (Below.refl _ _) R (fun _=>False) (hR w S) (fun b h=>h.elim),fun b hb=>by
 have hb':tot (fun i=>if i=hp.length then (fun _=>False) else fp i) (hp.length+1) b:=by simpa using hb
 exact (oS hb').elim id (fun h=>h.elim)⟩) h
theorem eV(i:Nat){R:Res}{φ:Prop}(hi:hp[i]? = some R)(h0:∀ w S F,R.holds w S F→φ)(h:φ→awp P n c Q ⟨env,ps,hp⟩):awp P n c Q ⟨env,ps,hp⟩:=gg (fun w S fp hst=>h0 w S _ (hst.res i R hi)) h
end
end Go.Sy

