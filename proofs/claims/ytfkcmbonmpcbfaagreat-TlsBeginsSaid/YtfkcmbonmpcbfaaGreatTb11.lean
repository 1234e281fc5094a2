/- Parts of the proof, in build order. No condition. -/
import Derived.Test.YtfkcmbonmpcbfaaGreatTb06
import Derived.Test.YtfkcmbonmpcbfaaGreatTb05
import Derived.Laws.CopyRow
import Derived.Test.YtfkcmbonmpcbfaaGreatProg
import Derived.Ground.NamesProg
import Derived.Shelf.Bits.Mul64
import Derived.Test.YtfkcmbonmpcbfaaGreatTb10
import Derived.Test.YtfkcmbonmpcbfaaGreatTb07
set_option linter.unusedSimpArgs false
set_option linter.unusedVariables false
set_option maxHeartbeats 1000000
set_option maxRecDepth 20000
namespace Go.Sy
open Go.RowKit Go.Lp Go.Sort
section
variable {P:Program} {n:Fr} {env:Env} {ps:List Per} {hp:List Res} {s:Sta} {d:Option Tmp} {ty:TypeId} {pos:String} {af:Array Edge} {gd:Option (Nat × Bool)} {x y:Operand} {K:Sta→Prop}
theorem fA{T E:TypeId}{sz m c B o:Nat}{kk:IntKind}{z:Int}(k:Nat)(hel:elB P T E sz=true)(hx:ev s.env x=some (true,.slice (some ⟨B,o,none⟩) m c))
   (hy:ev s.env y=some (true,.int kk z)) (hz:z=(k:Int)) (hk:k≤m) (hm:m≤c) :
   Quiet P n ⟨d,.slice T x none (some y) none,ty,pos,af,gd⟩ s (.slice (some ⟨B,o,none⟩) k c):=fun w S fp a hst he hn=>by
 have h1:=he.val hx rfl
 subst hz
 have h2:=he.val hy rfl
 obtain ⟨hT,it,hi,_,hsz,_⟩:=bP hel
 have hE:P.elem T=E:=by unfold Program.elem;rw [hT]
 have hrun:∀ w1,(execOp a.eval ⟨d,.slice T x none (some y) none,ty,pos,af,gd⟩).run P w1=.ok (.value (sliced (some ⟨B,o,none⟩) 0 k c sz)) w1:=fun w1=>by
   unfold execOp;dsimp only;simp only [Option.map_some,Option.map_none];rw [h1,h2]
   show ((Instr.sliceAt T (.slice (some ⟨B,o,none⟩) m c) none (some (.int kk k)) none).bind fun r=>Sem.pure (Next.value r)).run P w1=_
   have hT':P.underlying T=some (.slice (P.elem T)):=by rw [hT,hE]
   rw [Sem.run_bind',run_sliceAt_slice w1 T _ _ _ _ hT',run_slice_h w1 T _ m c hT' kk k (by omega) (by omega),hE,bQ hi,hsz]
   rfl
 have e:sliced (some ⟨B,o,none⟩) 0 k c sz=.slice (some ⟨B,o,none⟩) k c:=by
   unfold sliced
   simp only [Nat.sub_zero]
   congr 1
   split
   · rfl
   · simp [mR]
 rw [hrun,e];exact bu _ _
theorem jE{T E:TypeId}{sz m c B o:Nat}{kk:IntKind}{z:Int}(k m' o':Nat)(hel:elB P T E sz=true)(hx:ev s.env x=some (true,.slice (some ⟨B,o,none⟩) m c))
   (hy:ev s.env y=some (true,.int kk z)) (hz:z=(k:Int)) (hk:k<m) (hm:m≤c) (hm':m-k=m') (ho:o+k*sz=o') :
   Quiet P n ⟨d,.slice T x (some y) none none,ty,pos,af,gd⟩ s (.slice (some ⟨B,o',none⟩) m' (c-k)):=fun w S fp a hst he hn=>by
 have h1:=he.val hx rfl
 subst hz
 have h2:=he.val hy rfl
 obtain ⟨hT,it,hi,_,hsz,_⟩:=bP hel
 have hE:P.elem T=E:=by unfold Program.elem;rw [hT]
 have hrun:∀ w1,(execOp a.eval ⟨d,.slice T x (some y) none none,ty,pos,af,gd⟩).run P w1=.ok (.value (sliced (some ⟨B,o,none⟩) k m c sz)) w1:=fun w1=>by
   unfold execOp;dsimp only;simp only [Option.map_some,Option.map_none];rw [h1,h2]
   show ((Instr.sliceAt T (.slice (some ⟨B,o,none⟩) m c) (some (.int kk k)) none none).bind fun r=>Sem.pure (Next.value r)).run P w1=_
   have hT':P.underlying T=some (.slice (P.elem T)):=by rw [hT,hE]
   rw [Sem.run_bind',run_sliceAt_slice w1 T _ _ _ _ hT',run_slice_l w1 T _ m c hT' kk k (by omega) (by omega),hE,bQ hi,hsz]
   rfl
 have e:sliced (some ⟨B,o,none⟩) k m c sz=.slice (some ⟨B,o',none⟩) m' (c-k):=by
   unfold sliced
   rw [← hm',← ho,if_neg (by omega)]
   simp [mR]
 rw [hrun,e];exact bu _ _
end
section
variable {α:Type} [Inhabited α] {enc:α→Value}
variable {P:Program} {n:Fr} {env:Env} {ps:List Per} {hp:List Res} {ty:TypeId} {pos:String} {af:Array Edge} {gd:Option (Nat × Bool)} {K:Sta→Prop}
theorem abx{d:Option Tmp}{x y:Operand}{T T2 E:TypeId}{sz sl sc dc:Nat}{da sa:Option Addr}{s:Sta}(hel:elB P T E sz=true)(hx:ev s.env x=some (true,.slice da 0 dc))(hy:ev s.env y=some (true,.slice sa sl sc)) :
   Quiet P n ⟨d,.call ⟨.builtin .copy,#[x,y],#[T,T2]⟩,ty,pos,af,gd⟩ s (.int .i64 0):=fun w S fp a hst he hn=>by
 have h1:=he.val hx rfl
 have h2:=he.val hy rfl
 obtain ⟨hT,it,hi,_,hsz,_⟩:=bP hel
 have:(execOp a.eval ⟨d,.call ⟨.builtin .copy,#[x,y],#[T,T2]⟩,ty,pos,af,gd⟩).run P w=.ok (.value (.int .i64 0)) w:=by
   show ((Builtin.copy_ #[T,T2] ty (#[x,y].map a.eval)).bind fun r=>Sem.pure (Next.value r)).run P w=_
   have hargs : #[x,y].map a.eval = #[.slice da 0 dc,.slice sa sl sc]:=by simp [h1,h2]
   rw [hargs,Sem.run_bind']
   have:(Builtin.copy_ #[T,T2] ty #[.slice da 0 dc,.slice sa sl sc]).run P w=.ok (goInt 0) w:=by
     cases da<;>cases sa<;>simp [Builtin.copy_,run_underlying hT,Builtin.lenOf,Builtin.firstCells,sizeOf,typeInfo,hi,storeCells,loadCells,loadCellsFrom]<;>rfl
   rw [this];rfl
 rw [this];exact bu _ _
theorem zS{t:Nat}{x y:Operand}{T T2 E:TypeId}{B N o dl dc cp sl sc:Nat}{sa:Option Addr}{zs cs:List α}(i:Nat)(hel:elB P T E 1=true)(hone:∀ x:α,(enc x).oneCell'=true)
   (hx:ev env x=some (true,.slice (some ⟨B,o,none⟩) dl dc)) (hy:ev env y=some (true,.slice sa sl sc)) (ht:fits n (some t)=true)
   (hi:hp[i]? = some (aD (.slice (some ⟨B,0,none⟩) N cp) E 1 (bI enc zs))) (hN:zs.length=N) (hlen:cs.length=min sl dl) (hfit:o+cs.length≤zs.length)
   (hsrc:∀ w S fp sp,St w S fp ps hp→w.heap[B]? = some (.cells (zs.map enc++sp).toArray E (0,0))→∃ sb:Addr,sa=some sb∧∀ j c,cs[j]? = some c→w.cell? (sb.add j)=some (enc c))
   (zs':List α) (hz':zs.take o++cs++zs.drop (o+cs.length)=zs') (m:Int) (hm:m=cs.length)
   (hK:K ⟨(t,true,.int .i64 m)::env,ps,hp.set i (aD (.slice (some ⟨B,0,none⟩) N cp) E 1 (bI enc zs'))⟩) :
   Eff P n ⟨some t,.call ⟨.builtin .copy,#[x,y],#[T,T2]⟩,ty,pos,af,gd⟩ ⟨env,ps,hp⟩ false K:=.change i hi fun w S fp a hst he hn hR=>by
 subst hN
 have h1:=he.val hx rfl
 have h2:=he.val hy rfl
 obtain ⟨hT,it,hit,_,hsz,_⟩:=bP hel
 rcases wK hR with ⟨hv,_⟩ | ⟨b,cap,sp,hv,hb,hcap,hcm,hF,hH⟩
 · simp at hv
 · obtain ⟨rfl,rfl⟩:B=b∧cp=cap:=by simpa using hv
   obtain ⟨sb,rfl,hcell⟩:=hsrc w S fp sp hst hb
   have hlz:zs'.length=zs.length:=by rw [← hz'];simp;omega
   have hrun:(Builtin.copy_ #[T,T2] ty #[.slice (some ⟨B,o,none⟩) dl dc,.slice (some sb) sl sc]).run P w=.ok (goInt cs.length) (w.setRow B (zs'.map enc++sp).toArray):=by
     have:=run_copy_row (P:=P) w T T2 ty E B o dl dc sb sl sc _ E (cs.map enc) hT (by rw [hit];exact congrArg some hsz) hb (by simpa using hlen)
       (fun j v hj=>by
         rw [List.getElem?_map,Option.map_eq_some_iff] at hj
         obtain ⟨c,hc,rfl⟩:=hj
         exact hcell j c hc)
       (by simp;omega) (fun v hv=>by obtain ⟨c,_,rfl⟩:=List.mem_map.1 hv;exact hone c)
     rw [this,List.length_map]
     congr 3
     rw [← hz']
     simp only [List.map_append,List.map_take,List.map_drop]
     rw [List.take_append_of_le_length (by simp;omega),List.drop_append_of_le_length (by simp;omega)]
     simp
   have:(execOp a.eval ⟨some t,.call ⟨.builtin .copy,#[x,y],#[T,T2]⟩,ty,pos,af,gd⟩).run P w=.ok (.value (.int .i64 m)) (w.setRow B (zs'.map enc++sp).toArray):=by
     show ((Builtin.copy_ #[T,T2] ty (#[x,y].map a.eval)).bind fun r=>Sem.pure (Next.value r)).run P w=_
     have hargs : #[x,y].map a.eval = #[.slice (some ⟨B,o,none⟩) dl dc,.slice (some sb) sl sc]:=by simp [h1,h2]
     rw [hargs,Sem.run_bind',hrun,hm];rfl
   rw [this]
   have hbS:¬ S B:=(hst.lt i (List.getElem?_eq_some_iff.1 hi).1 B ((hF B).2 rfl)).2
   refine ⟨aD _ E 1 (bI enc zs'),_,hK,rfl,rfl,he.put (g:=true) (by rw [hn];simpa [fits] using ht) _,?_,rfl,rfl,⟨rfl,rfl⟩,by simp [World.setRow],fun b' hb' hne=>setRow_other _ _ _ _ (fun h=>hne ((hF b').2 h))⟩
   refine .inr ⟨B,cp,by rw [cI,hlz],⟨zs'.map enc,sp,setRow_heap _ _ _ _ _ _ hb,?_,by rw [Nat.mul_one,← hcap,List.length_append,List.length_map,hlz],by rw [cI,hlz];omega,hcm⟩,hF⟩
   refine ⟨by simp [bI],fun i r hi => ?_,fun u hu => ?_,fun i j r d h1 h2 => ?_⟩
   · simp only [bI,List.getElem?_map,Option.map_eq_some_iff] at hi
     obtain ⟨x,_,rfl⟩:=hi;rfl
   · obtain ⟨x,_,rfl⟩:=List.mem_map.1 hu;exact hone x
   · simp only [bI,List.getElem?_map,Option.map_eq_some_iff] at h1
     obtain ⟨x,hx,rfl⟩:=h1
     cases j with
     | zero =>
       simp only [List.getElem?_cons_zero,Option.some.injEq] at h2
       subst h2
       exact ⟨enc x,by simp [hx],.v _⟩
     | succ j=>simp at h2
theorem abl{t:Nat}{x y:Operand}{T T2 E:TypeId}{B N o dl dc cp sl sc:Nat}{sa:Option Addr}{zs xs:List α}(i:Nat)(hel:elB P T E 1=true)(hone:∀ x:α,(enc x).oneCell'=true)
   (hx:ev env x=some (true,.slice (some ⟨B,o,none⟩) dl dc)) (hy:ev env y=some (true,.slice sa sl sc)) (ht:fits n (some t)=true)
   (hi:hp[i]? = some (aD (.slice (some ⟨B,0,none⟩) N cp) E 1 (bI enc zs))) (hN:zs.length=N) (hs:Sh (.slice sa sl sc) (.sl (bI enc xs))∈ps) (h0:xs≠[]) (hle:xs.length≤dl) (hfit:o+xs.length≤zs.length)
   (zs':List α) (hz':zs.take o++xs++zs.drop (o+xs.length)=zs') (hsl:sl=xs.length)
   (hK:K ⟨(t,true,.int .i64 xs.length)::env,ps,hp.set i (aD (.slice (some ⟨B,0,none⟩) N cp) E 1 (bI enc zs'))⟩) :
   Eff P n ⟨some t,.call ⟨.builtin .copy,#[x,y],#[T,T2]⟩,ty,pos,af,gd⟩ ⟨env,ps,hp⟩ false K:=by
 refine zS (cs:=xs) i hel hone hx hy ht hi hN (by rw [hsl];omega) hfit (fun w S fp sp hst _ => ?_) zs' hz' _ rfl hK
 have hrep:=hst.per _ hs
 generalize hrows:bI enc xs=rows at hrep
 cases hrep with
 | e a c hc=>simp [bI] at hrows;exact (h0 hrows).elim
 | sl b o c sz _ us hb hn' hc hrl hcell hd =>
     subst hrows
     have hg:∀ (j:Nat) c,xs[j]? = some c→(bI enc xs)[j]? = some [D.v (enc c)]:=fun j c hj=>by simp [bI,hj]
     have hsz:sz=1:=by
       obtain ⟨c0,hc0⟩:∃ c,xs[0]? = some c:=⟨_,List.getElem?_eq_getElem (List.length_pos_iff.2 h0)⟩
       have:=hrl 0 _ (hg 0 c0 hc0);simpa using this.symm
     subst hsz
     refine ⟨_,rfl,fun j c hj => ?_⟩
     have h1:=(hcell j 0 _ _ (hg j c hj) rfl).1
     rw [iG (hd j 0 _ _ (hg j c hj) rfl),Nat.mul_one,Nat.add_zero] at h1
     rw [mR];exact h1
theorem abk{t:Nat}{x y:Operand}{T T2 E:TypeId}{B N o dl dc cp sl sc:Nat}{zs:List α}(i:Nat)(hel:elB P T E 1=true)(hone:∀ x:α,(enc x).oneCell'=true)
   (hx:ev env x=some (true,.slice (some ⟨B,o,none⟩) dl dc)) (hy:ev env y=some (true,.slice (some ⟨B,0,none⟩) sl sc)) (ht:fits n (some t)=true)
   (hi:hp[i]? = some (aD (.slice (some ⟨B,0,none⟩) N cp) E 1 (bI enc zs))) (hN:zs.length=N) (k:Nat) (hk:k=min sl dl) (hfit:o+k≤zs.length)
   (zs':List α) (hz':zs.take o++zs.take k++zs.drop (o+k)=zs')
   (hK:K ⟨(t,true,.int .i64 k)::env,ps,hp.set i (aD (.slice (some ⟨B,0,none⟩) N cp) E 1 (bI enc zs'))⟩) :
   Eff P n ⟨some t,.call ⟨.builtin .copy,#[x,y],#[T,T2]⟩,ty,pos,af,gd⟩ ⟨env,ps,hp⟩ false K:=by
 have hl:(zs.take k).length=k:=by rw [List.length_take];omega
 refine zS (cs:=zs.take k) i hel hone hx hy ht hi hN (by rw [hl,hk]) (by rw [hl];exact hfit) (fun w S fp sp hst hb=>⟨_,rfl,fun j c hj => ?_⟩) zs' (by rw [hl];exact hz') k (by rw [hl]) hK
 have hj':j<zs.length:=by
   have:=(List.getElem?_eq_some_iff.1 hj).1
   rw [hl] at this;omega
 rw [mR,Nat.zero_add,c9 hb,List.getElem?_append_left (by simpa using hj'),List.getElem?_map]
 rw [List.getElem?_take] at hj
 split at hj
 · rw [hj];rfl
 · cases hj
end
end Go.Sy

namespace Go.Proofs
open Go.Shelf
def Tryz.lays212_ren:Go.Shelf.Ren:=⟨fun | 212=>210 | 263=>286 | 264=>287 | n=>n,fun | 46=>305 | 51=>369 | 146=>370 | 53=>301 | 148=>372 | n=>n,fun | n=>n⟩
theorem Tryz.lays212:Go.Proofs.Lays.n212 Tryz.prog Tryz.lays212_ren := {
 mixed:=by kernel_rfl
 f212:=Tryz.func210.trans (congrArg some (by kernel_rfl))
 f263:=Tryz.func286.trans (congrArg some (by kernel_rfl))
 f264:=Tryz.func287.trans (congrArg some (by kernel_rfl))
 t46:=Tryz.underlying305
 a46:=Tryz.isAgg305
 z46:=Tryz.sizeOf305
 v46:=Tryz.zeroValue305
 t51:=Tryz.underlying369
 a51:=Tryz.isAgg369
 z51:=Tryz.sizeOf369
 v51:=Tryz.zeroValue369
 t53:=Tryz.underlying301
 a53:=Tryz.isAgg301
 z53:=Tryz.sizeOf301
 v53:=Tryz.zeroValue301
 t146:=Tryz.underlying370
 a146:=Tryz.isAgg370
 z146:=Tryz.sizeOf370
 v146:=Tryz.zeroValue370
 t148:=Tryz.underlying372
 a148:=Tryz.isAgg372
 z148:=Tryz.sizeOf372
 v148:=Tryz.zeroValue372 }
end Go.Proofs


namespace Go.Proofs.YtfkcmbonmpcbfaaGreat
open Go.RowKit Go.Lp Go.Sy
theorem wrapN(N:Nat)(hN:N≤1000000):IntKind.i64.wrap (N:Int)=N:=by rw [IntKind.wrap_i64];omega
def part(N k:Nat)(v:Int):List Int:=List.replicate k v++List.replicate (N-k) 0
theorem tq{N k:Nat}(v:Int)(h:k≤N):(part N k v).length=N:=by simp [part];omega
theorem yv{N k j:Nat}(v:Int)(hj:j≤k)(h:k+j≤N):(part N k v).take k++(part N k v).take j++(part N k v).drop (k+j)=part N (k+j) v:=by
 unfold part
 rw [List.take_append_of_le_length (by simp),List.take_append_of_le_length (by simpa using hj),List.drop_append,List.drop_of_length_le (by simp)]
 simp only [List.take_replicate,List.drop_replicate,List.length_replicate,List.nil_append,Nat.min_self,Nat.min_eq_left hj]
 rw [List.replicate_append_replicate]
 congr 2;omega
end Go.Proofs.YtfkcmbonmpcbfaaGreat

namespace Go.Sy
open Go.RowKit Go.Lp
section
variable {α:Type} {enc:α→Value}
def om(v:Value)(x:List α):Sl α:=match v with
 | .slice ad _ cap=>⟨ad,cap,x⟩
 | _=>⟨none,0,x⟩
theorem acB(v:Value)(x:List α):(om v x).l=x:=by unfold om;split<;>rfl
theorem wD:∀ (vs:List Value) (l:List (List α)),vs.length=l.length→(List.zipWith om vs l).map (·.l)=l
 | [],[],_=>rfl
 | [],_::_,h=>by cases h
 | _::_,[],h=>by cases h
 | v::vs,x::l,h=>by rw [List.zipWith_cons_cons,List.map_cons,acB,wD vs l (by simpa using h)]
theorem qj:∀ (vs:List Value) (l:List (List α)),vs.length=l.length→(∀ (k:Nat) (v:Value) (x:List α),vs[k]? = some v→l[k]? = some x→(om v x).val=v)→(List.zipWith om vs l).map Sl.val=vs
 | [],[],_,_=>rfl
 | [],_::_,h,_=>by cases h
 | _::_,[],h,_=>by cases h
 | v::vs,x::l,h,hk=>by
   rw [List.zipWith_cons_cons,List.map_cons,hk 0 v x rfl rfl,qj vs l (by simpa using h) (fun k v x h1 h2=>hk (k+1) v x (by simpa using h1) (by simpa using h2))]
variable {P:Program} {n:Fr} {env:Env} {ps:List Per} {hp:List Res} {c:Code} {Q:Exit→Sta→Prop} {vo:Value} {T E:TypeId} {l:List (List α)}

theorem eM{w:World}{S F:aT}{v:Value}{sz:Nat}{rows:List (List D)}(h:(aD v E sz rows).holds w S F):∃ ad cap,v=.slice ad rows.length cap:=by
 rcases h with ⟨h1,h2,_⟩ | ⟨b,cap,h1,_⟩
 · subst h2;exact ⟨none,0,h1⟩
 · exact ⟨_,cap,h1⟩
theorem gh(i:Nat)(hi:hp[i]? = some (iO vo T E enc l))
   (h:∀ s:Sl (Sl α),vo=s.val→s.l.map (·.l)=l→awp P n c Q ⟨env,b6 (ShF fun x=>[.v (enc x)]) s.l::ShF (fun t:Sl α=>[.v t.val]) s::ps,hp.set i emp⟩):awp P n c Q ⟨env,ps,hp⟩:=by
 have hil:=(List.getElem?_eq_some_iff.1 hi).1
 refine lq (β := {s:Sl (Sl α) // vo=s.val∧s.l.map (·.l)=l}) i (fun p=>dM (aD vo T 1 (cF (p.1.l.map Sl.val))) (bT (inner E enc (p.1.l.map Sl.val) l))) hi (fun w S F hh => ?_) fun ⟨s,h1,h2⟩ => ?_
 · obtain ⟨vs,hl,hs⟩:=hh
   obtain ⟨G,H,hG,hH,hd,he⟩:=hs
   have hval:∀ (k:Nat) (v:Value) (x:List α),vs[k]? = some v→l[k]? = some x→(om v x).val=v:=fun k v x hv hx=>by
     obtain ⟨G2,_,ho⟩:=lP _ _ hH k _ (lF (enc:=enc) (E:=E) hv hx)
     obtain ⟨ad,cap,rfl⟩:=eM ho
     rw [cI];rfl
   obtain ⟨ad,cap,hvo⟩:=eM hG
   have hzl:(List.zipWith om vs l).length=vs.length:=by simp [hl]
   refine ⟨⟨⟨ad,cap,List.zipWith om vs l⟩,?_,wD vs l hl⟩,?_⟩
   · rw [hvo]
     show _=Value.slice ad (List.zipWith om vs l).length cap
     rw [hzl,jI]
   · show (dM (aD vo T 1 (cF ((List.zipWith om vs l).map Sl.val))) (bT (inner E enc ((List.zipWith om vs l).map Sl.val) l))).holds w S F
     rw [qj vs l hl hval]
     exact ⟨G,H,hG,hH,hd,he⟩
 · dsimp only
   have hsh:=jV (P:=P) (n:=n) (env:=env) (ps:=ps) (hp:=hp.set i (dM (aD vo T 1 (cF (s.l.map Sl.val))) (bT (inner E enc (s.l.map Sl.val) l)))) (c:=c) (Q:=Q) i
     (b7 (ShF (fun t:Sl α=>[.v t.val]) s) (b6 (ShF fun x=>[.v (enc x)]) s.l)) (by rw [List.getElem?_set_self hil]) (fun w S F hh => ?_) ?_
   · exact hsh
   · obtain ⟨G,H,hG,hH,_,e⟩:=hh
     have hS:∀ b,(S b∨G b)→(S b∨F b):=fun b h=>h.imp id fun g=>(e b).2 (.inl g)
     refine ⟨?_,fun t ht => ?_⟩
     · have:=(kL hG).mono (fun _ _=>rfl) hS
       rw [h1] at this
       show ea w _ _ (.sl (s.l.map fun t:Sl α=>[.v t.val]))
       have e2:cF (s.l.map Sl.val)=s.l.map fun t:Sl α=>[D.v t.val]:=by simp [cF]
       rw [e2] at this
       exact this
     · obtain ⟨k,hk⟩:=List.mem_iff_getElem?.1 ht
       have hlk:l[k]? = some t.l:=by rw [← h2,List.getElem?_map,hk];rfl
       obtain ⟨G2,hs,ho⟩:=lP _ _ hH k _ (lF (enc:=enc) (E:=E) (v:=t.val) (by rw [List.getElem?_map,hk];rfl) hlk)
       exact (kL ho).mono (fun _ _=>rfl) fun b h=>h.imp id fun g=>(e b).2 (.inr (hs b g))
   · rw [List.set_set]
     refine qL (ps':=b6 (ShF fun x=>[.v (enc x)]) s.l::ShF (fun t:Sl α=>[.v t.val]) s::ps) (hp':=hp.set i emp) (fun w S fp hst=>⟨fp,⟨fun q hq => ?_,hst.res,hst.lt,hst.dj,hst.slt⟩,fun _ h=>h⟩) (h s h1 h2)
     have h0:=hst.per _ List.mem_cons_self
     rcases List.mem_cons.1 hq with rfl | hq
     · exact h0.2
     · rcases List.mem_cons.1 hq with rfl | hq
       · exact h0.1
       · exact hst.per _ (List.mem_cons_of_mem _ hq)
end
theorem pH{P:Program}{n:Fr}{env:Env}{ps:List Per}{hp:List Res}{c:Code}{Q:Exit→Sta→Prop}{v:Value}{E:TypeId}{sz:Nat}{rows:List (List D)}(i:Nat)(hi:hp[i]? = some (aD v E sz rows))(h:∀ ad cp,v=.slice ad rows.length cp→awp P n c Q ⟨env,ps,hp⟩):awp P n c Q ⟨env,ps,hp⟩ :=
 eV (φ:=∃ ad cp,v=.slice ad rows.length cp) i hi (fun w S F hh=>eM hh) (fun ⟨ad,cp,e⟩=>h ad cp e)
theorem Con.ofOwn{P:Program}{f:FuncId}{args:List Value}{ps:List Per}{v:Value}{E:TypeId}{sz:Nat}{rows:List (List D)}{R:Value→List Per→List Res→Prop}(h:Con P f args (Sh v (.sl rows)::ps) [] R):Con P f args ps [aD v E sz rows] R:=fun w S fp hst=>by
 have h1:=oJ hst 0 rfl
 have h2:St w (fun b=>S b∨fp 0 b) (fun _ _=>False) (Sh v (.sl rows)::ps) []:=⟨h1.per,fun i R hi=>by simp at hi,fun i hi=>by simp at hi,fun i j hi=>by simp at hi,h1.slt⟩
 have hE:Evo w S (tot fp 1) w (fun b=>S b∨fp 0 b):=⟨rfl,rfl,rfl,Nat.le_refl _,Nat.le_refl _,fun _ _ _=>rfl,fun _ h=>.inl h,fun b hb=>hb.elim .inl fun h=>.inr (.inl ⟨0,Nat.zero_lt_one,h⟩)⟩
 have h0:∀ b,¬ tot (fun _ _=>False) ([]:List Res).length b:=fun b ⟨j,hj,_⟩=>by simp at hj
 exact (h w _ _ h2).mono fun e w' ⟨u,ps',hp',S',fp',he,hR,hst',hE',hb⟩=>⟨u,ps',hp',S',fp',he,hR,hst',hE.trans hE' (fun b hb=>(h0 b hb).elim),fun b hb'=>(hb b hb').elim (fun h=>(h0 b h).elim) .inr⟩
end Go.Sy
namespace Go.Proofs.YtfkcmbonmpcbfaaGreat
open Go.RowKit Go.Lp Go.Sy Go.Lv
def gz(N:Nat)(a:ct):Prop:=(0≤a.from_∧a.from_<N)∧0≤a.to_∧a.to_<N
theorem vk(l:List ct):∀ (L:List (List Int)) (u:Int) (x:Int),(∀ a∈l,0≤a.from_∧a.from_<L.length)→(0≤u∧u<L.length)→(x∈elt (l.foldl fh L) u↔x∈elt L u∨∃ a∈l,a.from_=u∧a.to_=x):=by
 induction l with
 | nil=>intro L u x _ _;simp
 | cons a l ih =>
   intro L u x ha hu
   have hae:=ha a List.mem_cons_self
   rw [List.foldl_cons,ih (fh L a) u x (fun b hb=>by rw [jU];exact ha b (List.mem_cons_of_mem _ hb)) (by rw [jU];exact hu)]
   have e:elt (fh L a) u=if a.from_=u then elt L u++[a.to_] else elt L u:=by
     unfold fh elt
     rw [List.getD_eq_getElem?_getD,List.getD_eq_getElem?_getD,List.getD_eq_getElem?_getD,List.getElem?_set]
     by_cases h:a.from_=u
     · subst h;rw [if_pos rfl,if_pos (by omega),if_pos rfl];rfl
     · rw [if_neg (by omega),if_neg h]
   rw [e]
   split
   · rename_i h
     rw [List.mem_append,List.mem_singleton]
     simp only [List.mem_cons,exists_eq_or_imp]
     constructor
     · rintro ((h1 | h1) | h1)
       · exact .inl h1
       · exact .inr (.inl ⟨h,h1.symm⟩)
       · exact .inr (.inr h1)
     · rintro (h1 | ⟨_,h1⟩ | h1)
       · exact .inl (.inl h1)
       · exact .inl (.inr h1.symm)
       · exact .inr h1
   · rename_i h
     simp only [List.mem_cons,exists_eq_or_imp]
     constructor
     · rintro (h1 | h1)
       · exact .inl h1
       · exact .inr (.inr h1)
     · rintro (h1 | ⟨h1,_⟩ | h1)
       · exact .inl h1
       · exact (h h1).elim
       · exact .inr h1
theorem gR(d:Array Int)(hs:∀ i j,i<j→j<d.size→d[i]! ≤ d[j]!):∀ m,m≤d.size→(Lib.compactUpTo d m).Pairwise (· < ·)∧(∀ x∈Lib.compactUpTo d m,(∃ j,j<m∧d[j]! = x))∧(∀ j,j<m→d[j]! ∈ Lib.compactUpTo d m)
 | 0,_=>⟨by simp [Lib.compactUpTo],by simp [Lib.compactUpTo],by simp⟩
 | m + 1,hm=>by
   obtain ⟨h1,h2,h3⟩:=gR d hs m (by omega)
   rw [Lib.compactUpTo_succ]
   have hk:Lib.keeps d m=true∨(0<m∧d[m]! = d[m-1]! ∧ Lib.keeps d m=false):=by
     rcases Nat.eq_zero_or_pos m with h0 | h0
     · exact .inl (Lib.keeps_lt_one d m (by omega))
     · by_cases he:d[m]! = d[m-1]!
       · exact .inr ⟨h0,he,Lib.keeps_neg h0 he⟩
       · exact .inl (Lib.keeps_pos he)
   by_cases hkm:Lib.keeps d m=true
   · rw [if_pos hkm]
     refine ⟨?_,fun x hx => ?_,fun j hj => ?_⟩
     · refine List.pairwise_append.2 ⟨h1,List.pairwise_singleton _ _,fun x hx y hy => ?_⟩
       rw [List.mem_singleton.1 hy]
       obtain ⟨j,hj,rfl⟩:=h2 x hx
       have hle:=hs j m hj (by omega)
       rcases Nat.eq_zero_or_pos m with h0 | h0
       · omega
       · have hne:d[m]! ≠ d[m-1]! := fun he=>by rw [Lib.keeps_neg h0 he] at hkm;cases hkm
         have hle2:=hs (m-1) m (by omega) (by omega)
         by_cases hjm:j=m-1
         · subst hjm;omega
         · have:=hs j (m-1) (by omega) (by omega);omega
     · rcases List.mem_append.1 hx with h | h
       · obtain ⟨j,hj,he⟩:=h2 x h;exact ⟨j,by omega,he⟩
       · exact ⟨m,by omega,(List.mem_singleton.1 h).symm⟩
     · by_cases hjm:j=m
       · subst hjm;simp
       · exact List.mem_append_left _ (h3 j (by omega))
   · obtain ⟨h0,he,_⟩:=hk.resolve_left hkm
     rw [if_neg hkm,List.append_nil]
     refine ⟨h1,fun x hx => ?_,fun j hj => ?_⟩
     · obtain ⟨j,hj,he⟩:=h2 x hx;exact ⟨j,by omega,he⟩
     · by_cases hjm:j=m
       · subst hjm;rw [he];exact h3 (j-1) (by omega)
       · exact h3 j (by omega)
theorem oV(zs:List Int):(cE zs).Pairwise (· < ·)∧∀ x,x∈cE zs↔x∈zs:=by
 have hp:(ed zs).Pairwise (fun x y=>(decide (x≤y))=true):=List.pairwise_mergeSort (fun a b c h1 h2=>by simp at *;omega) (fun a b=>by simp;omega) zs
 have hg:∀ j (hj:j<(ed zs).length),(ed zs).toArray[j]! = (ed zs)[j]:=fun j hj=>by simp [hj]
 have hs:∀ i j,i<j→j<(ed zs).toArray.size→(ed zs).toArray[i]! ≤ (ed zs).toArray[j]! := fun i j hij hj=>by
   have hj':j<(ed zs).length:=by simpa using hj
   rw [hg i (by omega),hg j hj']
   simpa using List.pairwise_iff_getElem.1 hp i j (by omega) hj' hij
 obtain ⟨h1,h2,h3⟩:=gR (ed zs).toArray hs (ed zs).length (by simp)
 refine ⟨h1,fun x=>⟨fun hx => ?_,fun hx => ?_⟩⟩
 · obtain ⟨j,hj,rfl⟩:=h2 x hx
   rw [hg j hj]
   exact List.mem_mergeSort.1 (List.getElem_mem hj)
 · have hm:x∈ed zs:=List.mem_mergeSort.2 hx
   obtain ⟨j,hj,he⟩:=List.getElem_of_mem hm
   rw [← he,← hg j hj];exact h3 j hj
theorem qi{zs:List Int}{x:Int} : x∈cE zs↔x∈zs:=(oV zs).2 x
theorem zT{α:Type}[Inhabited α](l:List α)(u:Int):elt l u=elt l (u.toNat:Int):=rfl
theorem ia{N:Nat}{l:List ct}(h:∀ a∈l,gz N a){u x:Int}(hu:0≤u∧u<N):x∈elt (cC N l) u↔∃ a∈l,a.from_=u∧a.to_=x:=by
 have e:elt (cC N l) u=cE (elt (dh N l) u):=by
   unfold cC elt
   rw [List.getD_eq_getElem?_getD,List.getD_eq_getElem?_getD,List.getElem?_map]
   have hlt:u.toNat<(dh N l).length:=by rw [cG];omega
   rw [List.getElem?_eq_getElem hlt];rfl
 rw [e,qi]
 unfold dh
 rw [vk l (List.replicate N []) u x (fun a ha=>by simpa using (h a ha).1) (by simpa using hu)]
 have:elt (List.replicate N ([]:List Int)) u=[]:=by
   unfold elt;rw [List.getD_eq_getElem?_getD,List.getElem?_replicate];split<;>rfl
 rw [this];simp
theorem mh{N:Nat}{l:List ct}(h:∀ a∈l,gz N a):jN N (cC N l):=fun u x hx=>by
 rw [zT] at hx
 by_cases hu:u.toNat<N
 · obtain ⟨a,ha,_,rfl⟩:=(ia h (by omega)).1 hx;exact (h a ha).2
 · unfold elt at hx
   rw [List.getD_eq_getElem?_getD,List.getElem?_eq_none (by unfold cC;rw [List.length_map,cG];omega)] at hx
   cases hx
theorem tZ(zs:List Int):(cE zs).length≤zs.length:=by
 unfold cE Lib.compact Lib.compactUpTo
 rw [List.length_map]
 refine Nat.le_trans (List.length_filter_le _ _) ?_
 simp [ed]
theorem gW{l:List Int}{k:Nat}{v:Int}(h:l[k]? = some v):(bI encI l)[k]? = some [.v (encI v)]:=by simp [bI,h]
theorem kA{l:List Int}(h:0<l.length):bI encI l≠[]:=fun h0=>by
 have:=congrArg List.length h0
 rw [cI,List.length_nil] at this;omega
theorem sY(l:List Int)(i:Nat)(v:Int):bI encI (l.set i v)=(bI encI l).set i [.v (encI v)]:=by simp [bI,List.map_set]
theorem jy(l:List Int)(v:Int):bI encI (l++[v])=bI encI l++[[.v (encI v)]]:=by simp [bI]
end Go.Proofs.YtfkcmbonmpcbfaaGreat

namespace Go.Lv
open Go.Sy
inductive Rc (nx:List (List Int)):Int→Int→Prop
 | refl (v:Int):Rc nx v v
 | step {u w v:Int} (h:w∈elt nx u) (k:Rc nx w v):Rc nx u v
theorem Rc.trans{nx:List (List Int)}{a b c:Int}(h:Rc nx a b)(k:Rc nx b c):Rc nx a c:=by
 induction h with
 | refl=>exact k
 | step h _ ih=>exact .step h (ih k)
theorem Rc.one{nx:List (List Int)}{a b:Int}(h:b∈elt nx a):Rc nx a b:=.step h (.refl _)
abbrev nodes(s:TS):List Int:=s.calls.map (·.1)
def iP(s:TS)(c u:Int):Prop:=c∈nodes s∧elt s.idx c≤elt s.idx u∧∀ c'∈nodes s,elt s.idx c'≤elt s.idx u→elt s.idx c'≤elt s.idx c
structure TJ (nx:List (List Int)) (s:TS):Prop where
 asc:s.stk.Pairwise fun a b=>elt s.idx a<elt s.idx b
 rc:∀ u∈s.stk,∀ c,iP s c u→Rc nx c u
 ch:∀ c∈nodes s,∀ c'∈nodes s,elt s.idx c≤elt s.idx c'→Rc nx c c'
 lr:∀ v∈s.stk,elt s.low v≤elt s.idx v∧∃ x∈s.stk,Rc nx v x∧elt s.idx x=elt s.low v
 rt:∀ u∈s.stk,u ∉ nodes s→elt s.low u<elt s.idx u
 ex:∀ u∈s.stk,∀ c,iP s c u→∀ (j:Nat) (w:Int),(elt nx u)[j]? = some w→(∀ i,(u,i)∈s.calls→(j:Int)<i)→elt s.idx w≠0∧(elt s.part w=0→elt s.low c≤elt s.idx w)
 cl:∀ v,0≤v→elt s.part v≠0→∀ w∈elt nx v,elt s.part w≠0∧elt s.part w≤elt s.part v
 sc:∀ u v,0≤u→0≤v→elt s.part u≠0→elt s.part u=elt s.part v→Rc nx u v
theorem mE{f:Int→Int} : ∀ {l:List Int},(l.Pairwise fun a b=>f a<f b)→∀ {x y:Int},x∈l→y∈l→f x=f y→x=y
 | [],_,_,_,h,_,_=>by cases h
 | a :: l,h,x,y,hx,hy,e=>by
   rw [List.pairwise_cons] at h
   rcases List.mem_cons.1 hx with rfl | hx
   · rcases List.mem_cons.1 hy with rfl | hy
     · rfl
     · have:=h.1 y hy;omega
   · rcases List.mem_cons.1 hy with e2 | hy
     · have:=h.1 x hx;rw [e2] at e;omega
     · exact mE h.2 hx hy e
theorem abn{l:List Int}{v:Int}(h:(l.length:Int)≤v):elt l v=0:=by
 unfold elt;rw [List.getD_eq_getElem?_getD,List.getElem?_eq_none (by omega)];rfl
section
variable {N:Nat} {nx:List (List Int)} {r:Int} {s:TS}
theorem TJ.nil(hp:∀ v,0≤v→elt s.part v=0)(hc:s.calls=[])(hs:s.stk=[]):TJ nx s:=by
 refine ⟨by rw [hs];exact .nil,fun u hu => ?_,fun c h => ?_,fun u hu => ?_,fun u hu => ?_,fun u hu => ?_,fun v h0 hv=>absurd (hp v h0) hv,fun u v h0 _ hu=>absurd (hp u h0) hu⟩
 · rw [hs] at hu;cases hu
 · simp only [nodes,hc,List.map_nil] at h;cases h
 · rw [hs] at hu;cases hu
 · rw [hs] at hu;cases hu
 · rw [hs] at hu;cases hu
theorem TI.sub'(h:TI N nx r s){c:Int}(hc:c∈nodes s):c∈s.stk:=h.sub.subset hc
theorem TI.inr(h:TI N nx r s){c:Int}(hc:c∈s.stk):0≤c∧c<N:=((h.stk c).1 hc).1
theorem TI.once(h:TI N nx r s){v i i':Int}(h1:(v,i)∈s.calls)(h2:(v,i')∈s.calls):i=i':=by
 have hn:(s.calls.map (·.1)).Nodup:=h.sub.nodup h.nd
 have key:∀ l:List (Int × Int),(l.map (·.1)).Nodup→(v,i)∈l→(v,i')∈l→i=i':=fun l=>by
   induction l with
   | nil=>intro _ h;cases h
   | cons a l ih =>
     intro hn h1 h2
     rw [List.map_cons,List.nodup_cons] at hn
     rcases List.mem_cons.1 h1 with rfl | h1
     · rcases List.mem_cons.1 h2 with h3 | h2
       · exact (Prod.mk.inj h3).2.symm
       · exact absurd (List.mem_map_of_mem (f:=(·.1)) h2) hn.1
     · rcases List.mem_cons.1 h2 with h3 | h2
       · refine absurd (List.mem_map_of_mem (f:=(·.1)) h1) ?_
         rw [← h3] at hn;exact hn.1
       · exact ih hn.2 h1 h2
 exact key _ hn h1 h2
theorem iP.self(h:TI N nx r s)(j:TJ nx s){c v:Int}(hv:v∈nodes s)(ho:iP s c v):c=v :=
 mE (f:=elt s.idx) j.asc (h.sub' ho.1) (h.sub' hv) (by have:=ho.2.2 v hv (Int.le_refl _);have:=ho.2.1;omega)
theorem TJ.lower(h:TI N nx r s)(j:TJ nx s){u x:Int}(hu:u∈s.stk)(hx:x∈s.stk)(hr:Rc nx u x){z:Int}(hz:elt s.idx x=z):TJ nx { s with low:=s.low.set u.toNat (min (elt s.low u) z) } := by
 have hur:=h.inr hu
 have hll:=h.ll
 have eL:∀ y,0≤y→elt (s.low.set u.toNat (min (elt s.low u) z)) y=if u=y then min (elt s.low u) z else elt s.low y:=fun y hy=>du hur.1 (by omega) hy
 have hle:∀ y,0≤y→elt (s.low.set u.toNat (min (elt s.low u) z)) y≤elt s.low y:=fun y hy=>by
   rw [eL y hy];split
   · rename_i e;subst e;omega
   · omega
 refine ⟨j.asc,j.rc,j.ch,fun v hv => ?_,fun v hv hn => ?_,fun v hv c ho k w hw he => ?_,j.cl,j.sc⟩
 · have h1:=j.lr v hv
   have h0:=(h.inr hv).1
   refine ⟨Int.le_trans (hle v h0) h1.1,?_⟩
   show ∃ y∈s.stk,Rc nx v y∧elt s.idx y=elt (s.low.set _ _) v
   rw [eL v h0]
   split
   · rename_i e;subst e
     by_cases hm:elt s.low u≤z
     · rw [Int.min_eq_left hm];exact h1.2
     · rw [Int.min_eq_right (by omega)];exact ⟨x,hx,hr,hz⟩
   · exact h1.2
 · exact Int.lt_of_le_of_lt (hle v (h.inr hv).1) (j.rt v hv hn)
 · have h1:=j.ex v hv c ho k w hw he
   exact ⟨h1.1,fun hp=>Int.le_trans (hle c (h.inr (h.sub' ho.1)).1) (h1.2 hp)⟩
theorem TJ.adv(h:TI N nx r s)(j:TJ nx s){cs ds:List (Int × Int)}{v i w:Int}(hc:s.calls=cs++(v,i)::ds)(hi:0≤i)(ha:(elt nx v)[i.toNat]? = some w)(hw:elt s.idx w≠0)(hl:elt s.part w=0→elt s.low v≤elt s.idx w) :
   TJ nx { s with calls:=cs++(v,i+1)::ds } := by
 have hn:nodes { s with calls:=cs++(v,i+1)::ds } = nodes s:=by simp [nodes,hc]
 have hO:∀ c u,iP { s with calls:=cs++(v,i+1)::ds } c u→iP s c u:=fun c u ho=>by unfold iP at ho ⊢;rw [hn] at ho;exact ho
 have hvn:v∈nodes s:=by simp [nodes,hc]
 refine ⟨j.asc,fun u hu c ho=>j.rc u hu c (hO c u ho),fun c hc1 c' hc2=>j.ch c (hn ▸ hc1) c' (hn ▸ hc2),j.lr,fun u hu hnn=>j.rt u hu (hn ▸ hnn),fun u hu c ho k y hy he => ?_,j.cl,j.sc⟩
 have ho2:=hO c u ho
 clear ho
 rename iP s c u=>ho
 by_cases huv:u=v
 · subst huv
   have hk:(k:Int)<i+1:=he (i+1) (by simp)
   by_cases hki:(k:Int)<i
   · exact j.ex u hu c ho k y hy fun i' h'=>by rw [h.once h' (by rw [hc];simp:(u,i)∈s.calls)];exact hki
   · have e:k=i.toNat:=by omega
     rw [e,ha] at hy
     obtain rfl:=Option.some.inj hy
     rw [ho.self h j hvn]
     exact ⟨hw,hl⟩
 · refine j.ex u hu c ho k y hy fun i' h'=>he i' ?_
   rw [hc] at h'
   rcases List.mem_append.1 h' with h1 | h1
   · exact List.mem_append_left _ h1
   · rcases List.mem_cons.1 h1 with h2 | h2
     · exact absurd (Prod.mk.inj h2).1 huv
     · exact List.mem_append_right _ (List.mem_cons_of_mem _ h2)
theorem TJ.enter(h:TI N nx r s)(j:TJ nx s)(hnr:∀ v w,w∈elt nx v→0≤w∧w<N){w:Int}(hw:0≤w∧w<N)(h0:elt s.idx w=0)(hv:s.stk=[]∨∃ v∈nodes s,(∀ c∈nodes s,elt s.idx c≤elt s.idx v)∧w∈elt nx v):TJ nx (cq s w):=by
 have hli:=h.li
 have hll:=h.ll
 have hc0:=h.cnt0
 have eI:∀ v,0≤v→elt (cq s w).idx v=if w=v then s.cnt+1 else elt s.idx v:=fun v hv=>du hw.1 (by omega) hv
 have eL:∀ v,0≤v→elt (cq s w).low v=if w=v then s.cnt+1 else elt s.low v:=fun v hv=>du hw.1 (by omega) hv
 have hws:w ∉ s.stk:=fun hm=>((h.stk w).1 hm).2.1 h0
 have hst:∀ x∈s.stk,w≠x∧elt s.idx x≤s.cnt:=fun x hx=>⟨fun e=>hws (e ▸ hx),(h.ile x (h.inr hx).1 (h.inr hx).2).2⟩
 have eIo:∀ x∈s.stk,elt (cq s w).idx x=elt s.idx x:=fun x hx=>by rw [eI x (h.inr hx).1,if_neg (hst x hx).1]
 have eLo:∀ x∈s.stk,elt (cq s w).low x=elt s.low x:=fun x hx=>by rw [eL x (h.inr hx).1,if_neg (hst x hx).1]
 have eIw:elt (cq s w).idx w=s.cnt+1:=by rw [eI w hw.1,if_pos rfl]
 have eLw:elt (cq s w).low w=s.cnt+1:=by rw [eL w hw.1,if_pos rfl]
 have hn:nodes (cq s w)=nodes s++[w]:=by simp [nodes,cq]
 have hO:∀ u∈s.stk,∀ c,iP (cq s w) c u→iP s c u:=fun u hu c ⟨h1,h2,h3⟩=>by
   rw [hn] at h1 h3
   rw [eIo u hu] at h2 h3
   rcases List.mem_append.1 h1 with h1 | h1
   · have hcs:=h.sub' h1
     rw [eIo c hcs] at h2 h3
     exact ⟨h1,h2,fun c' hc' hle=>by have:=h3 c' (List.mem_append_left _ hc') (by rw [eIo c' (h.sub' hc')];exact hle);rw [eIo c' (h.sub' hc')] at this;exact this⟩
   · rw [List.mem_singleton.1 h1,eIw] at h2
     have:=(hst u hu).2
     omega
 have hOw:∀ c,iP (cq s w) c w→c=w:=fun c ⟨h1,_,h3⟩=>by
   rw [hn] at h1 h3
   rcases List.mem_append.1 h1 with h1 | h1
   · have:=h3 w (by simp) (Int.le_refl _)
     rw [eIw,eIo c (h.sub' h1)] at this
     have:=(hst c (h.sub' h1)).2
     omega
   · exact List.mem_singleton.1 h1
 have hmem:∀ u,u∈(cq s w).stk→u∈s.stk∨u=w:=fun u hu=>(List.mem_append.1 hu).imp id List.mem_singleton.1
 refine ⟨?_,fun u hu c ho => ?_,fun c hc c' hc' hle => ?_,fun u hu => ?_,fun u hu hnn => ?_,fun u hu c ho k y hy he => ?_,j.cl,j.sc⟩
 · show (s.stk++[w]).Pairwise _
   rw [List.pairwise_append]
   refine ⟨j.asc.imp_of_mem fun ha hb hab=>by rw [eIo _ ha,eIo _ hb];exact hab,List.pairwise_singleton _ _,fun a ha b hb => ?_⟩
   rw [List.mem_singleton.1 hb,eIw,eIo a ha]
   have:=(hst a ha).2;omega
 · rcases hmem u hu with hu | rfl
   · exact j.rc u hu c (hO u hu c ho)
   · rw [hOw c ho];exact .refl _
 · rw [hn] at hc hc'
   rcases List.mem_append.1 hc with h1 | h1
   · have hcs:=h.sub' h1
     rcases List.mem_append.1 hc' with h2 | h2
     · rw [eIo c hcs,eIo c' (h.sub' h2)] at hle
       exact j.ch c h1 c' h2 hle
     · rw [List.mem_singleton.1 h2]
       rcases hv with hv | ⟨v,hv1,hv2,hv3⟩
       · rw [hv] at hcs;cases hcs
       · exact (j.ch c h1 v hv1 (hv2 c h1)).trans (.one hv3)
   · rw [List.mem_singleton.1 h1] at hle ⊢
     rcases List.mem_append.1 hc' with h2 | h2
     · rw [eIw,eIo c' (h.sub' h2)] at hle
       have:=(hst c' (h.sub' h2)).2
       omega
     · rw [List.mem_singleton.1 h2];exact .refl _
 · rcases hmem u hu with hu | rfl
   · obtain ⟨h1,x,h2,h3,h4⟩:=j.lr u hu
     rw [eIo u hu,eLo u hu]
     exact ⟨h1,x,List.mem_append_left _ h2,h3,by rw [eIo x h2];exact h4⟩
   · rw [eIw,eLw]
     exact ⟨Int.le_refl _,u,List.mem_append_right _ (by simp),.refl _,eIw⟩
 · rw [hn] at hnn
   rcases hmem u hu with hu | rfl
   · rw [eIo u hu,eLo u hu]
     exact j.rt u hu fun hm=>hnn (List.mem_append_left _ hm)
   · exact absurd (List.mem_append_right _ (by simp)) hnn
 · have hy0:=(hnr u y (List.mem_of_getElem? hy)).1
   rcases hmem u hu with hu | rfl
   · have ho:=hO u hu c ho
     have h1:=j.ex u hu c ho k y hy fun i hi=>he i (List.mem_append_left _ hi)
     have hcs:=h.sub' ho.1
     refine ⟨?_,fun hp => ?_⟩
     · rw [eI y hy0];split
       · omega
       · exact h1.1
     · rw [eLo c hcs,eI y hy0]
       split
       · have:=(j.lr c hcs).1;have:=(hst c hcs).2;omega
       · exact h1.2 hp
   · have:=he 0 (List.mem_append_right _ (by simp))
     omega
theorem TJ.pop(h:TI N nx r s)(j:TJ nx s){cs:List (Int × Int)}{v i:Int}(hc:s.calls=cs++[(v,i)])(hi:(elt nx v).length≤i)(hlt:elt s.low v<elt s.idx v)(hup:∀ c∈cs.map (·.1),(∀ c'∈cs.map (·.1),elt s.idx c'≤elt s.idx c)→elt s.low c≤elt s.low v):TJ nx { s with calls:=cs } := by
 have hn:nodes s=cs.map (·.1)++[v]:=by simp [nodes,hc]
 have hvn:v∈nodes s:=by rw [hn];simp
 have hasc:(nodes s).Pairwise fun a b=>elt s.idx a<elt s.idx b:=j.asc.sublist h.sub
 have hmax:∀ c∈cs.map (·.1),elt s.idx c<elt s.idx v:=fun c hc=>by
   rw [hn,List.pairwise_append] at hasc
   exact hasc.2.2 c hc v (by simp)
 have hin:∀ c∈cs.map (·.1),c∈nodes s:=fun c hc=>by rw [hn];exact List.mem_append_left _ hc
 have hO:∀ u c,iP { s with calls:=cs } c u→(elt s.idx u<elt s.idx v∧iP s c u)∨(iP s v u∧Rc nx c v∧elt s.low c≤elt s.low v):=fun u c ⟨h1,h2,h3⟩=>by
   by_cases hlt:elt s.idx u<elt s.idx v
   · refine .inl ⟨hlt,hin c h1,h2,fun c' hc' hle => ?_⟩
     rw [hn] at hc'
     rcases List.mem_append.1 hc' with h4 | h4
     · exact h3 c' h4 hle
     · have h5:c'=v:=List.mem_singleton.1 h4
       rw [h5] at hle;omega
   · have hvu:elt s.idx v≤elt s.idx u:=by omega
     refine .inr ⟨⟨hvn,hvu,fun c' hc' _ => ?_⟩,j.ch c (hin c h1) v hvn (by have:=hmax c h1;omega),hup c h1 fun c' hc'=>h3 c' hc' (by have:=hmax c' hc';show elt s.idx c'≤elt s.idx u;omega)⟩
     rw [hn] at hc'
     rcases List.mem_append.1 hc' with h4 | h4
     · have:=hmax c' h4;omega
     · rw [List.mem_singleton.1 h4];exact Int.le_refl _
 refine ⟨j.asc,fun u hu c ho => ?_,fun c hc1 c' hc2=>j.ch c (hin c hc1) c' (hin c' hc2),j.lr,fun u hu hnn => ?_,fun u hu c ho k w hw he => ?_,j.cl,j.sc⟩
 · rcases hO u c ho with ⟨_,h1⟩ | ⟨h1,h2,_⟩
   · exact j.rc u hu c h1
   · exact h2.trans (j.rc u hu v h1)
 · by_cases e:u=v
   · subst e;exact hlt
   · refine j.rt u hu fun hm => ?_
     rw [hn] at hm
     rcases List.mem_append.1 hm with h4 | h4
     · exact hnn h4
     · exact e (List.mem_singleton.1 h4)
 · have he2:∀ i',(u,i')∈s.calls→(k:Int)<i':=fun i' h'=>by
     rw [hc] at h'
     rcases List.mem_append.1 h' with h4 | h4
     · exact he i' h4
     · have h5:=Prod.mk.inj (List.mem_singleton.1 h4)
       have hk:=(List.getElem?_eq_some_iff.1 hw).1
       rw [h5.1] at hk
       rw [h5.2];omega
   rcases hO u c ho with ⟨_,h1⟩ | ⟨h1,_,h3⟩
   · exact j.ex u hu c h1 k w hw he2
   · have h4:=j.ex u hu v h1 k w hw he2
     exact ⟨h4.1,fun hp=>Int.le_trans h3 (h4.2 hp)⟩
theorem TJ.close(h:TI N nx r s)(j:TJ nx s)(hnr:∀ v w,w∈elt nx v→0≤w∧w<N){cs:List (Int × Int)}{v i:Int}(hc:s.calls=cs++[(v,i)])(hi:(elt nx v).length≤i)(heq:elt s.low v=elt s.idx v){A B p:List Int}(hs:s.stk=A++v::B)(hp:∀ x,x∈p↔x∈v::B) :
   TJ nx { s with calls:=cs,stk:=A,part:=b9 s.part ((s.np:Int)+1) p,np:=s.np+1 } := by
 have hn:nodes s=cs.map (·.1)++[v]:=by simp [nodes,hc]
 have hvn:v∈nodes s:=by rw [hn];simp
 have hasc:(nodes s).Pairwise fun a b=>elt s.idx a<elt s.idx b:=j.asc.sublist h.sub
 have hmax:∀ c∈cs.map (·.1),elt s.idx c<elt s.idx v:=fun c hc=>by
   rw [hn,List.pairwise_append] at hasc
   exact hasc.2.2 c hc v (by simp)
 have hmax2:∀ c∈nodes s,elt s.idx c≤elt s.idx v:=fun c hc=>by
   rw [hn] at hc
   rcases List.mem_append.1 hc with h4 | h4
   · have:=hmax c h4;omega
   · rw [List.mem_singleton.1 h4];exact Int.le_refl _
 have hin:∀ c∈cs.map (·.1),c∈nodes s:=fun c hc=>by rw [hn];exact List.mem_append_left _ hc
 have hA:∀ x∈A,x∈s.stk:=fun x hx=>by rw [hs];exact List.mem_append_left _ hx
 have hB:∀ x∈v::B,x∈s.stk:=fun x hx=>by rw [hs];exact List.mem_append_right _ hx
 have hpw:=j.asc
 rw [hs,List.pairwise_append,List.pairwise_cons] at hpw
 have hAv:∀ x∈A,elt s.idx x<elt s.idx v:=fun x hx=>hpw.2.2 x hx v (by simp)
 have hBv:∀ x∈v::B,elt s.idx v≤elt s.idx x:=fun x hx=>by
   rcases List.mem_cons.1 hx with rfl | hx
   · exact Int.le_refl _
   · have:=hpw.2.1.1 x hx;omega
 have hsp:∀ x∈s.stk,elt s.idx v≤elt s.idx x→x∈v::B:=fun x hx hle=>by
   rw [hs] at hx
   rcases List.mem_append.1 hx with h1 | h1
   · have:=hAv x h1;omega
   · exact h1
 have hlp:=h.lp
 have hpr:∀ w∈p,0≤w∧w<s.part.length:=fun w hw=>by rw [hlp];exact h.inr (hB w ((hp w).1 hw))
 have eP:∀ x,0≤x→elt (b9 s.part ((s.np:Int)+1) p) x=if x∈p then (s.np:Int)+1 else elt s.part x:=iA p s.part hpr
 have hp0:∀ x∈p,elt s.part x=0:=fun x hx=>((h.stk x).1 (hB x ((hp x).1 hx))).2.2
 have hOB:∀ u∈v::B,iP s v u:=fun u hu=>⟨hvn,hBv u hu,fun c hc _=>hmax2 c hc⟩
 have hO:∀ u∈A,∀ c,iP { s with calls:=cs,stk:=A,part:=b9 s.part ((s.np:Int)+1) p,np:=s.np+1 } c u→iP s c u:=fun u hu c ⟨h1,h2,h3⟩=>⟨hin c h1,h2,fun c' hc' hle=>by
   rw [hn] at hc'
   rcases List.mem_append.1 hc' with h4 | h4
   · exact h3 c' h4 hle
   · rw [List.mem_singleton.1 h4] at hle
     have:=hAv u hu;omega⟩
 -- where the arcs of the part lead
 have hout:∀ u∈v::B,∀ w∈elt nx u,w∈v::B∨elt s.part w≠0:=fun u hu w hw=>by
   obtain ⟨k,hk⟩:=List.mem_iff_getElem?.1 hw
   have h1:=j.ex u (hB u hu) v (hOB u hu) k w hk fun i' h'=>by
     have hun:u∈nodes s:=List.mem_map_of_mem (f:=(·.1)) h'
     have huv:u=v:=mE (f:=elt s.idx) j.asc (h.sub' hun) (h.sub' hvn) (by have:=hmax2 u hun;have:=hBv u hu;omega)
     subst huv
     rw [h.once h' (by rw [hc];simp:(u,i)∈s.calls)]
     have:=(List.getElem?_eq_some_iff.1 hk).1
     omega
   by_cases hpz:elt s.part w=0
   · refine .inl (hsp w ((h.stk w).2 ⟨hnr u w hw,h1.1,hpz⟩) ?_)
     have:=h1.2 hpz;omega
   · exact .inr hpz
 have hgo:∀ a b,Rc nx a b→(a∈v::B∨(0≤a∧elt s.part a≠0))→(b∈v::B∨elt s.part b≠0):=fun a b hab=>by
   induction hab with
   | refl a=>exact fun h1=>h1.imp id (·.2)
   | step hw _ ih =>
     rintro (h1 | ⟨h1,h2⟩)
     · rcases hout _ h1 _ hw with h3 | h3
       · exact ih (.inl h3)
       · exact ih (.inr ⟨(hnr _ _ hw).1,h3⟩)
     · exact ih (.inr ⟨(hnr _ _ hw).1,(j.cl _ h1 h2 _ hw).1⟩)
 have hback:∀ (m:Nat) (u:Int),u∈v::B→(elt s.idx u).toNat≤m→Rc nx u v:=fun m=>by
   induction m with
   | zero =>
     intro u hu hm
     have h1:=h.ile u (h.inr (hB u hu)).1 (h.inr (hB u hu)).2
     have h2:=((h.stk u).1 (hB u hu)).2.1
     omega
   | succ m ih =>
     intro u hu hm
     by_cases huv:u=v
     · subst huv;exact .refl _
     · have hun:u ∉ nodes s:=fun hun=>huv (mE (f:=elt s.idx) j.asc (h.sub' hun) (h.sub' hvn) (by have:=hmax2 u hun;have:=hBv u hu;omega))
       have h1:=j.rt u (hB u hu) hun
       obtain ⟨_,x,hx,hux,hxi⟩:=j.lr u (hB u hu)
       have hxB:x∈v::B:=(hgo u x hux (.inl hu)).resolve_right fun hne=>hne ((h.stk x).1 hx).2.2
       have h2:=h.ile x (h.inr hx).1 (h.inr hx).2
       exact hux.trans (ih x hxB (by omega))
 have hnp:∀ x,0≤x→elt s.part x≤s.np∧0≤elt s.part x:=fun x hx=>by
   by_cases hxN:x<N
   · have:=h.pr x hx hxN;exact ⟨this.2.1,this.1⟩
   · rw [abn (by omega)];omega
 refine ⟨hpw.1,fun u hu c ho=>j.rc u (hA u hu) c (hO u hu c ho),fun c hc1 c' hc2=>j.ch c (hin c hc1) c' (hin c' hc2),fun u hu => ?_,fun u hu hnn => ?_,fun u hu c ho k w hw he => ?_,fun u h0 hu w hw => ?_,fun u y h0 hy0 hu huy => ?_⟩
 · obtain ⟨h1,x,hx,hux,hxi⟩:=j.lr u (hA u hu)
   refine ⟨h1,x,?_,hux,hxi⟩
   rw [hs] at hx
   rcases List.mem_append.1 hx with h2 | h2
   · exact h2
   · have:=hBv x h2;have:=hAv u hu;omega
 · refine j.rt u (hA u hu) fun hm => ?_
   rw [hn] at hm
   rcases List.mem_append.1 hm with h4 | h4
   · exact hnn h4
   · rw [List.mem_singleton.1 h4] at hu
     have:=hAv v hu;omega
 · have h1:=j.ex u (hA u hu) c (hO u hu c ho) k w hw fun i' h'=>by
     rw [hc] at h'
     rcases List.mem_append.1 h' with h4 | h4
     · exact he i' h4
     · have h5:=(Prod.mk.inj (List.mem_singleton.1 h4)).1
       rw [h5] at hu
       have:=hAv v hu;omega
   refine ⟨h1.1,fun hz=>h1.2 ?_⟩
   have hw0:=(hnr u w (List.mem_of_getElem? hw)).1
   have hz':elt (b9 s.part ((s.np:Int)+1) p) w=0:=hz
   rw [eP w hw0] at hz'
   split at hz'
   · omega
   · exact hz'
 · have hu':elt (b9 s.part ((s.np:Int)+1) p) u≠0:=hu
   have hw0:=(hnr u w hw).1
   show elt (b9 s.part ((s.np:Int)+1) p) w≠0∧elt (b9 s.part ((s.np:Int)+1) p) w≤elt (b9 s.part ((s.np:Int)+1) p) u
   rw [eP w hw0,eP u h0]
   rw [eP u h0] at hu'
   by_cases hup:u∈p
   · rw [if_pos hup]
     by_cases hwp:w∈p
     · rw [if_pos hwp];omega
     · rw [if_neg hwp]
       have h1:=(hout u ((hp u).1 hup) w hw).resolve_left fun hB'=>hwp ((hp w).2 hB')
       have:=hnp w hw0
       exact ⟨h1,by omega⟩
   · rw [if_neg hup] at hu' ⊢
     have h1:=j.cl u h0 hu' w hw
     have hwp:w ∉ p:=fun hwp=>h1.1 (hp0 w hwp)
     rw [if_neg hwp];exact h1
 · have hu':elt (b9 s.part ((s.np:Int)+1) p) u≠0:=hu
   have huy':elt (b9 s.part ((s.np:Int)+1) p) u=elt (b9 s.part ((s.np:Int)+1) p) y:=huy
   rw [eP u h0] at hu' huy'
   rw [eP y hy0] at huy'
   have hnu:=hnp u h0
   have hny:=hnp y hy0
   by_cases hup:u∈p
   · rw [if_pos hup] at huy'
     by_cases hyp:y∈p
     · have h1:=hback _ u ((hp u).1 hup) (Nat.le_refl _)
       exact h1.trans (j.rc y (hB y ((hp y).1 hyp)) v (hOB y ((hp y).1 hyp)))
     · rw [if_neg hyp] at huy';omega
   · rw [if_neg hup] at huy' hu'
     by_cases hyp:y∈p
     · rw [if_pos hyp] at huy';omega
     · rw [if_neg hyp] at huy';exact j.sc u y h0 hy0 hu' huy'
end
end Go.Lv

