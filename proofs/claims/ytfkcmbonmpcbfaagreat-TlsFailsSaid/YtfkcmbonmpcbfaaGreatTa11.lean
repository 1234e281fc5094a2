/- Parts of the proof, in build order. No condition. -/
import Derived.Test.YtfkcmbonmpcbfaaGreatTa10
import Derived.Test.YtfkcmbonmpcbfaaGreatTa06
import Derived.Test.YtfkcmbonmpcbfaaGreatTa05
import Derived.Laws.CopyRow
import Derived.Test.YtfkcmbonmpcbfaaGreatProg
import Derived.Ground.NamesProg
import Derived.Shelf.Bits.Mul64
import Derived.Test.YtfkcmbonmpcbfaaGreatTa07
import Derived.Test.YtfkcmbonmpcbfaaGreatTa04
import Derived.Test.YtfkcmbonmpcbfaaGreatTa09
import Derived.Shelf.Slices.Clone
import Derived.Shelf.Slices.Reverse
import Derived.Shelf.Slices.In.SortNone
set_option linter.unusedSimpArgs false
set_option linter.unusedVariables false
set_option maxHeartbeats 1000000
set_option maxRecDepth 20000
namespace Go.Proofs.YtfkcmbonmpcbfaaGreat
open Go.RowKit Go.Lp Go.Sy
def fu(L:List (List Int))(a:cK):List (List Int):=L.set a.from_.toNat (L.getD a.from_.toNat []++[a.to_])
def df(N:Nat)(l:List cK):List (List Int):=l.foldl fu (List.replicate N [])
theorem jL(L:List (List Int))(a:cK):(fu L a).length=L.length:=by simp [fu]
theorem lG(l:List cK):∀ L:List (List Int),(l.foldl fu L).length=L.length:=by
 induction l with
 | nil=>intro L;rfl
 | cons a l ih=>intro L;rw [List.foldl_cons,ih,jL]
theorem cH(N:Nat)(l:List cK):(df N l).length=N:=by unfold df;rw [lG];simp
theorem tO(N:Nat)(l:List cK){k:Nat}{a:cK}(h:l[k]? = some a):df N (l.take (k+1))=fu (df N (l.take k)) a:=by
 unfold df;rw [List.take_add_one,h,List.foldl_append];rfl
theorem mJ(l:List cK):∀ (L:List (List Int)) (m:Nat),(∀ r∈L,r.length≤m)→∀ r∈l.foldl fu L,r.length≤m+l.length:=by
 induction l with
 | nil=>intro L m h r hr;exact h r hr
 | cons a l ih =>
   intro L m h r hr
   rw [List.foldl_cons] at hr
   have:=ih (fu L a) (m+1) (fun r hr=>by
     unfold fu at hr
     rcases List.mem_or_eq_of_mem_set hr with h1 | rfl
     · exact Nat.le_succ_of_le (h r h1)
     · have:(L.getD a.from_.toNat []).length≤m:=by
         by_cases hlt:a.from_.toNat<L.length
         · rw [show L.getD a.from_.toNat []=L[a.from_.toNat] by simp [List.getD,hlt]];exact h _ (List.getElem_mem hlt)
         · rw [show L.getD a.from_.toNat []=[] by simp [List.getD,Nat.not_lt.1 hlt]];exact Nat.zero_le _
       rw [List.length_append,List.length_singleton];omega) r hr
   rw [List.length_cons];omega
theorem qE(N:Nat)(l:List cK){r:List Int}(h:r∈df N l):r.length≤l.length:=by
 have:=mJ l (List.replicate N []) 0 (fun r hr=>by rw [(List.mem_replicate.1 hr).2];exact Nat.le_refl _) r h
 omega
def cM(zs:List Int):List Int:=Lib.compact (eA zs)
def eb(N:Nat)(l:List cK):List (List Int):=(df N l).map cM
def fI(L:List (List Int))(k:Nat):List (List Int):=(L.take k).map cM++L.drop k
theorem jY(L:List (List Int))(k:Nat)(h:k≤L.length):(fI L k).length=L.length:=by simp [fI];omega
theorem vR{L:List (List Int)}{k:Nat}{x:List Int}(h:L[k]? = some x):(fI L k)[k]? = some x:=by
 have hk:=(List.getElem?_eq_some_iff.1 h).1
 unfold fI
 rw [List.getElem?_append_right (by simp;omega)]
 simp only [List.length_map,List.length_take,List.getElem?_drop]
 rw [show k+(k-min k L.length)=k by omega];exact h
theorem tP{L:List (List Int)}{k:Nat}{x:List Int}(h:L[k]? = some x):(fI L k).set k (cM x)=fI L (k+1):=by
 have hk:=(List.getElem?_eq_some_iff.1 h).1
 unfold fI
 rw [List.set_append_right _ _ (by simp;omega),List.take_add_one,h,List.map_append,List.append_assoc]
 congr 1
 rw [List.length_map,List.length_take,show k-min k L.length=0 by omega,List.drop_eq_getElem_cons hk,List.set_cons_zero]
 rfl
theorem jD(vs:List Value)(k:Nat)(v:Value):cG (vs.set k v)=(cG vs).set k [.v v]:=by simp [cG,List.map_set]
theorem xE{P:Program}{n:Fr}{env:Env}{ps:List Per}{hp:List Res}{c:Code}{Q:Exit→Sta→Prop}{α:Type}{enc:α→Value}{vo:Value}{T E:TypeId}{l:List (List α)}(i:Nat)(hi:hp[i]? = some (iM vo T E enc l))(h:∀ ad cp,vo=.slice ad l.length cp→awp P n c Q ⟨env,ps,hp⟩):awp P n c Q ⟨env,ps,hp⟩ :=
 fg (φ:=∃ ad cp,vo=.slice ad l.length cp) i hi (fun w S F hh=>by
   obtain ⟨vs,hl,G,H,hG,hH,_,e⟩:=hh
   rcases hG with ⟨h1,h2,_⟩ | ⟨B,cp,h1,_⟩
   · refine ⟨none,0,?_⟩
     have:vs=[]:=by simpa [cG] using h2
     subst this
     rw [← hl];exact h1
   · exact ⟨_,cp,by rw [h1,jC,hl]⟩) (fun ⟨ad,cp,e⟩=>h ad cp e)
end Go.Proofs.YtfkcmbonmpcbfaaGreat

namespace Go.Sy
open Go.RowKit Go.Lp Go.Sort
section
variable {P:Program} {n:Fr} {env:Env} {ps:List Per} {hp:List Res} {s:Sta} {d:Option Tmp} {ty:TypeId} {pos:String} {af:Array Edge} {gd:Option (Nat × Bool)} {x y:Operand} {K:Sta→Prop}
theorem fJ{T E:TypeId}{sz m c B o:Nat}{kk:IntKind}{z:Int}(k:Nat)(hel:elB P T E sz=true)(hx:ev s.env x=some (true,.slice (some ⟨B,o,none⟩) m c))
   (hy:ev s.env y=some (true,.int kk z)) (hz:z=(k:Int)) (hk:k≤m) (hm:m≤c) :
   Quiet P n ⟨d,.slice T x none (some y) none,ty,pos,af,gd⟩ s (.slice (some ⟨B,o,none⟩) k c):=fun w S fp a hst he hn=>by
 have h1:=he.val hx rfl
 subst hz
 have h2:=he.val hy rfl
 obtain ⟨hT,it,hi,_,hsz,_⟩:=bY hel
 have hE:P.elem T=E:=by unfold Program.elem;rw [hT]
 have hrun:∀ w1,(execOp a.eval ⟨d,.slice T x none (some y) none,ty,pos,af,gd⟩).run P w1=.ok (.value (sliced (some ⟨B,o,none⟩) 0 k c sz)) w1:=fun w1=>by
   unfold execOp;dsimp only;simp only [Option.map_some,Option.map_none];rw [h1,h2]
   show ((Instr.sliceAt T (.slice (some ⟨B,o,none⟩) m c) none (some (.int kk k)) none).bind fun r=>Sem.pure (Next.value r)).run P w1=_
   have hT':P.underlying T=some (.slice (P.elem T)):=by rw [hT,hE]
   rw [Sem.run_bind',run_sliceAt_slice w1 T _ _ _ _ hT',run_slice_h w1 T _ m c hT' kk k (by omega) (by omega),hE,bZ hi,hsz]
   rfl
 have e:sliced (some ⟨B,o,none⟩) 0 k c sz=.slice (some ⟨B,o,none⟩) k c:=by
   unfold sliced
   simp only [Nat.sub_zero]
   congr 1
   split
   · rfl
   · simp [nh]
 rw [hrun,e];exact bB _ _
theorem jx{T E:TypeId}{sz m c B o:Nat}{kk:IntKind}{z:Int}(k m' o':Nat)(hel:elB P T E sz=true)(hx:ev s.env x=some (true,.slice (some ⟨B,o,none⟩) m c))
   (hy:ev s.env y=some (true,.int kk z)) (hz:z=(k:Int)) (hk:k<m) (hm:m≤c) (hm':m-k=m') (ho:o+k*sz=o') :
   Quiet P n ⟨d,.slice T x (some y) none none,ty,pos,af,gd⟩ s (.slice (some ⟨B,o',none⟩) m' (c-k)):=fun w S fp a hst he hn=>by
 have h1:=he.val hx rfl
 subst hz
 have h2:=he.val hy rfl
 obtain ⟨hT,it,hi,_,hsz,_⟩:=bY hel
 have hE:P.elem T=E:=by unfold Program.elem;rw [hT]
 have hrun:∀ w1,(execOp a.eval ⟨d,.slice T x (some y) none none,ty,pos,af,gd⟩).run P w1=.ok (.value (sliced (some ⟨B,o,none⟩) k m c sz)) w1:=fun w1=>by
   unfold execOp;dsimp only;simp only [Option.map_some,Option.map_none];rw [h1,h2]
   show ((Instr.sliceAt T (.slice (some ⟨B,o,none⟩) m c) (some (.int kk k)) none none).bind fun r=>Sem.pure (Next.value r)).run P w1=_
   have hT':P.underlying T=some (.slice (P.elem T)):=by rw [hT,hE]
   rw [Sem.run_bind',run_sliceAt_slice w1 T _ _ _ _ hT',run_slice_l w1 T _ m c hT' kk k (by omega) (by omega),hE,bZ hi,hsz]
   rfl
 have e:sliced (some ⟨B,o,none⟩) k m c sz=.slice (some ⟨B,o',none⟩) m' (c-k):=by
   unfold sliced
   rw [← hm',← ho,if_neg (by omega)]
   simp [nh]
 rw [hrun,e];exact bB _ _
end
section
variable {α:Type} [Inhabited α] {enc:α→Value}
variable {P:Program} {n:Fr} {env:Env} {ps:List Per} {hp:List Res} {ty:TypeId} {pos:String} {af:Array Edge} {gd:Option (Nat × Bool)} {K:Sta→Prop}
theorem ab1{d:Option Tmp}{x y:Operand}{T T2 E:TypeId}{sz sl sc dc:Nat}{da sa:Option Addr}{s:Sta}(hel:elB P T E sz=true)(hx:ev s.env x=some (true,.slice da 0 dc))(hy:ev s.env y=some (true,.slice sa sl sc)) :
   Quiet P n ⟨d,.call ⟨.builtin .copy,#[x,y],#[T,T2]⟩,ty,pos,af,gd⟩ s (.int .i64 0):=fun w S fp a hst he hn=>by
 have h1:=he.val hx rfl
 have h2:=he.val hy rfl
 obtain ⟨hT,it,hi,_,hsz,_⟩:=bY hel
 have:(execOp a.eval ⟨d,.call ⟨.builtin .copy,#[x,y],#[T,T2]⟩,ty,pos,af,gd⟩).run P w=.ok (.value (.int .i64 0)) w:=by
   show ((Builtin.copy_ #[T,T2] ty (#[x,y].map a.eval)).bind fun r=>Sem.pure (Next.value r)).run P w=_
   have hargs : #[x,y].map a.eval = #[.slice da 0 dc,.slice sa sl sc]:=by simp [h1,h2]
   rw [hargs,Sem.run_bind']
   have:(Builtin.copy_ #[T,T2] ty #[.slice da 0 dc,.slice sa sl sc]).run P w=.ok (goInt 0) w:=by
     cases da<;>cases sa<;>simp [Builtin.copy_,run_underlying hT,Builtin.lenOf,Builtin.firstCells,sizeOf,typeInfo,hi,storeCells,loadCells,loadCellsFrom]<;>rfl
   rw [this];rfl
 rw [this];exact bB _ _
theorem aai{t:Nat}{x y:Operand}{T T2 E:TypeId}{B N o dl dc cp sl sc:Nat}{sa:Option Addr}{zs cs:List α}(i:Nat)(hel:elB P T E 1=true)(hone:∀ x:α,(enc x).oneCell'=true)
   (hx:ev env x=some (true,.slice (some ⟨B,o,none⟩) dl dc)) (hy:ev env y=some (true,.slice sa sl sc)) (ht:fits n (some t)=true)
   (hi:hp[i]? = some (az (.slice (some ⟨B,0,none⟩) N cp) E 1 (bO enc zs))) (hN:zs.length=N) (hlen:cs.length=min sl dl) (hfit:o+cs.length≤zs.length)
   (hsrc:∀ w S fp sp,St w S fp ps hp→w.heap[B]? = some (.cells (zs.map enc++sp).toArray E (0,0))→∃ sb:Addr,sa=some sb∧∀ j c,cs[j]? = some c→w.cell? (sb.add j)=some (enc c))
   (zs':List α) (hz':zs.take o++cs++zs.drop (o+cs.length)=zs') (m:Int) (hm:m=cs.length)
   (hK:K ⟨(t,true,.int .i64 m)::env,ps,hp.set i (az (.slice (some ⟨B,0,none⟩) N cp) E 1 (bO enc zs'))⟩) :
   Eff P n ⟨some t,.call ⟨.builtin .copy,#[x,y],#[T,T2]⟩,ty,pos,af,gd⟩ ⟨env,ps,hp⟩ false K:=.change i hi fun w S fp a hst he hn hR=>by
 subst hN
 have h1:=he.val hx rfl
 have h2:=he.val hy rfl
 obtain ⟨hT,it,hit,_,hsz,_⟩:=bY hel
 rcases xa hR with ⟨hv,_⟩ | ⟨b,cap,sp,hv,hb,hcap,hcm,hF,hH⟩
 · simp at hv
 · obtain ⟨rfl,rfl⟩:B=b∧cp=cap:=by simpa using hv
   obtain ⟨sb,rfl,hcell⟩:=hsrc w S fp sp hst hb
   have hlz:zs'.length=zs.length:=by rw [← hz'];simp;omega
   have hrun:(Builtin.copy_ #[T,T2] ty #[.slice (some ⟨B,o,none⟩) dl dc,.slice (some sb) sl sc]).run P w=.ok (goInt cs.length) (w.setRow B (zs'.map enc++sp).toArray):=by
     have:=run_copy_row (P:=P) w T T2 ty E B o dl dc sb sl sc _ E (cs.map enc) hT (by rw [hit];exact congrArg some hsz) hb (by simpa using hlen)
       (fun j v hj=>by
         rw [List.getElem?_map,Option.map_eq_some_iff] at hj
         obtain ⟨c,hc,rfl⟩:=hj
         exact hcell j c hc)
       (by simp;omega) (fun v hv=>by obtain ⟨c,_,rfl⟩:=List.mem_map.1 hv;exact hone c)
     rw [this,List.length_map]
     congr 3
     rw [← hz']
     simp only [List.map_append,List.map_take,List.map_drop]
     rw [List.take_append_of_le_length (by simp;omega),List.drop_append_of_le_length (by simp;omega)]
     simp
   have:(execOp a.eval ⟨some t,.call ⟨.builtin .copy,#[x,y],#[T,T2]⟩,ty,pos,af,gd⟩).run P w=.ok (.value (.int .i64 m)) (w.setRow B (zs'.map enc++sp).toArray):=by
     show ((Builtin.copy_ #[T,T2] ty (#[x,y].map a.eval)).bind fun r=>Sem.pure (Next.value r)).run P w=_
     have hargs : #[x,y].map a.eval = #[.slice (some ⟨B,o,none⟩) dl dc,.slice (some sb) sl sc]:=by simp [h1,h2]
     rw [hargs,Sem.run_bind',hrun,hm];rfl
   rw [this]
   have hbS:¬ S B:=(hst.lt i (List.getElem?_eq_some_iff.1 hi).1 B ((hF B).2 rfl)).2
   refine ⟨az _ E 1 (bO enc zs'),_,hK,rfl,rfl,he.put (g:=true) (by rw [hn];simpa [fits] using ht) _,?_,rfl,rfl,⟨rfl,rfl⟩,by simp [World.setRow],fun b' hb' hne=>setRow_other _ _ _ _ (fun h=>hne ((hF b').2 h))⟩
   refine .inr ⟨B,cp,by rw [cI,hlz],⟨zs'.map enc,sp,setRow_heap _ _ _ _ _ _ hb,?_,by rw [Nat.mul_one,← hcap,List.length_append,List.length_map,hlz],by rw [cI,hlz];omega,hcm⟩,hF⟩
   refine ⟨by simp [bO],fun i r hi => ?_,fun u hu => ?_,fun i j r d h1 h2 => ?_⟩
   · simp only [bO,List.getElem?_map,Option.map_eq_some_iff] at hi
     obtain ⟨x,_,rfl⟩:=hi;rfl
   · obtain ⟨x,_,rfl⟩:=List.mem_map.1 hu;exact hone x
   · simp only [bO,List.getElem?_map,Option.map_eq_some_iff] at h1
     obtain ⟨x,hx,rfl⟩:=h1
     cases j with
     | zero =>
       simp only [List.getElem?_cons_zero,Option.some.injEq] at h2
       subst h2
       exact ⟨enc x,by simp [hx],.v _⟩
     | succ j=>simp at h2
theorem abP{t:Nat}{x y:Operand}{T T2 E:TypeId}{B N o dl dc cp sl sc:Nat}{sa:Option Addr}{zs xs:List α}(i:Nat)(hel:elB P T E 1=true)(hone:∀ x:α,(enc x).oneCell'=true)
   (hx:ev env x=some (true,.slice (some ⟨B,o,none⟩) dl dc)) (hy:ev env y=some (true,.slice sa sl sc)) (ht:fits n (some t)=true)
   (hi:hp[i]? = some (az (.slice (some ⟨B,0,none⟩) N cp) E 1 (bO enc zs))) (hN:zs.length=N) (hs:Sh (.slice sa sl sc) (.sl (bO enc xs))∈ps) (h0:xs≠[]) (hle:xs.length≤dl) (hfit:o+xs.length≤zs.length)
   (zs':List α) (hz':zs.take o++xs++zs.drop (o+xs.length)=zs') (hsl:sl=xs.length)
   (hK:K ⟨(t,true,.int .i64 xs.length)::env,ps,hp.set i (az (.slice (some ⟨B,0,none⟩) N cp) E 1 (bO enc zs'))⟩) :
   Eff P n ⟨some t,.call ⟨.builtin .copy,#[x,y],#[T,T2]⟩,ty,pos,af,gd⟩ ⟨env,ps,hp⟩ false K:=by
 refine aai (cs:=xs) i hel hone hx hy ht hi hN (by rw [hsl];omega) hfit (fun w S fp sp hst _ => ?_) zs' hz' _ rfl hK
 have hrep:=hst.per _ hs
 generalize hrows:bO enc xs=rows at hrep
 cases hrep with
 | e a c hc=>simp [bO] at hrows;exact (h0 hrows).elim
 | sl b o c sz _ us hb hn' hc hrl hcell hd =>
     subst hrows
     have hg:∀ (j:Nat) c,xs[j]? = some c→(bO enc xs)[j]? = some [D.v (enc c)]:=fun j c hj=>by simp [bO,hj]
     have hsz:sz=1:=by
       obtain ⟨c0,hc0⟩:∃ c,xs[0]? = some c:=⟨_,List.getElem?_eq_getElem (List.length_pos_iff.2 h0)⟩
       have:=hrl 0 _ (hg 0 c0 hc0);simpa using this.symm
     subst hsz
     refine ⟨_,rfl,fun j c hj => ?_⟩
     have h1:=(hcell j 0 _ _ (hg j c hj) rfl).1
     rw [jb (hd j 0 _ _ (hg j c hj) rfl),Nat.mul_one,Nat.add_zero] at h1
     rw [nh];exact h1
theorem abO{t:Nat}{x y:Operand}{T T2 E:TypeId}{B N o dl dc cp sl sc:Nat}{zs:List α}(i:Nat)(hel:elB P T E 1=true)(hone:∀ x:α,(enc x).oneCell'=true)
   (hx:ev env x=some (true,.slice (some ⟨B,o,none⟩) dl dc)) (hy:ev env y=some (true,.slice (some ⟨B,0,none⟩) sl sc)) (ht:fits n (some t)=true)
   (hi:hp[i]? = some (az (.slice (some ⟨B,0,none⟩) N cp) E 1 (bO enc zs))) (hN:zs.length=N) (k:Nat) (hk:k=min sl dl) (hfit:o+k≤zs.length)
   (zs':List α) (hz':zs.take o++zs.take k++zs.drop (o+k)=zs')
   (hK:K ⟨(t,true,.int .i64 k)::env,ps,hp.set i (az (.slice (some ⟨B,0,none⟩) N cp) E 1 (bO enc zs'))⟩) :
   Eff P n ⟨some t,.call ⟨.builtin .copy,#[x,y],#[T,T2]⟩,ty,pos,af,gd⟩ ⟨env,ps,hp⟩ false K:=by
 have hl:(zs.take k).length=k:=by rw [List.length_take];omega
 refine aai (cs:=zs.take k) i hel hone hx hy ht hi hN (by rw [hl,hk]) (by rw [hl];exact hfit) (fun w S fp sp hst hb=>⟨_,rfl,fun j c hj => ?_⟩) zs' (by rw [hl];exact hz') k (by rw [hl]) hK
 have hj':j<zs.length:=by
   have:=(List.getElem?_eq_some_iff.1 hj).1
   rw [hl] at this;omega
 rw [nh,Nat.zero_add,dh hb,List.getElem?_append_left (by simpa using hj'),List.getElem?_map]
 rw [List.getElem?_take] at hj
 split at hj
 · rw [hj];rfl
 · cases hj
end
end Go.Sy

namespace Go.Proofs
open Go.Shelf
def Tryz.lays212_ren:Go.Shelf.Ren:=⟨fun | 212=>210 | 263=>286 | 264=>287 | n=>n,fun | 46=>305 | 51=>369 | 146=>370 | 53=>301 | 148=>372 | n=>n,fun | n=>n⟩
theorem Tryz.lays212:Go.Proofs.Lays.n212 Tryz.prog Tryz.lays212_ren := {
 mixed:=by kernel_rfl
 f212:=Tryz.func210.trans (congrArg some (by kernel_rfl))
 f263:=Tryz.func286.trans (congrArg some (by kernel_rfl))
 f264:=Tryz.func287.trans (congrArg some (by kernel_rfl))
 t46:=Tryz.underlying305
 a46:=Tryz.isAgg305
 z46:=Tryz.sizeOf305
 v46:=Tryz.zeroValue305
 t51:=Tryz.underlying369
 a51:=Tryz.isAgg369
 z51:=Tryz.sizeOf369
 v51:=Tryz.zeroValue369
 t53:=Tryz.underlying301
 a53:=Tryz.isAgg301
 z53:=Tryz.sizeOf301
 v53:=Tryz.zeroValue301
 t146:=Tryz.underlying370
 a146:=Tryz.isAgg370
 z146:=Tryz.sizeOf370
 v146:=Tryz.zeroValue370
 t148:=Tryz.underlying372
 a148:=Tryz.isAgg372
 z148:=Tryz.sizeOf372
 v148:=Tryz.zeroValue372 }
end Go.Proofs


namespace Go.Proofs.YtfkcmbonmpcbfaaGreat
open Go.RowKit Go.Lp Go.Sy
theorem wrapN(N:Nat)(hN:N≤1000000):IntKind.i64.wrap (N:Int)=N:=by rw [IntKind.wrap_i64];omega
def part(N k:Nat)(v:Int):List Int:=List.replicate k v++List.replicate (N-k) 0
theorem tN{N k:Nat}(v:Int)(h:k≤N):(part N k v).length=N:=by simp [part];omega
theorem yW{N k j:Nat}(v:Int)(hj:j≤k)(h:k+j≤N):(part N k v).take k++(part N k v).take j++(part N k v).drop (k+j)=part N (k+j) v:=by
 unfold part
 rw [List.take_append_of_le_length (by simp),List.take_append_of_le_length (by simpa using hj),List.drop_append,List.drop_of_length_le (by simp)]
 simp only [List.take_replicate,List.drop_replicate,List.length_replicate,List.nil_append,Nat.min_self,Nat.min_eq_left hj]
 rw [List.replicate_append_replicate]
 congr 2;omega
end Go.Proofs.YtfkcmbonmpcbfaaGreat

namespace Go.Sy
open Go.RowKit Go.Lp
section
variable {α:Type} {enc:α→Value}
def oJ(v:Value)(x:List α):Sl α:=match v with
 | .slice ad _ cap=>⟨ad,cap,x⟩
 | _=>⟨none,0,x⟩
theorem ac8(v:Value)(x:List α):(oJ v x).l=x:=by unfold oJ;split<;>rfl
theorem wX:∀ (vs:List Value) (l:List (List α)),vs.length=l.length→(List.zipWith oJ vs l).map (·.l)=l
 | [],[],_=>rfl
 | [],_::_,h=>by cases h
 | _::_,[],h=>by cases h
 | v::vs,x::l,h=>by rw [List.zipWith_cons_cons,List.map_cons,ac8,wX vs l (by simpa using h)]
theorem qz:∀ (vs:List Value) (l:List (List α)),vs.length=l.length→(∀ (k:Nat) (v:Value) (x:List α),vs[k]? = some v→l[k]? = some x→(oJ v x).val=v)→(List.zipWith oJ vs l).map Sl.val=vs
 | [],[],_,_=>rfl
 | [],_::_,h,_=>by cases h
 | _::_,[],h,_=>by cases h
 | v::vs,x::l,h,hk=>by
   rw [List.zipWith_cons_cons,List.map_cons,hk 0 v x rfl rfl,qz vs l (by simpa using h) (fun k v x h1 h2=>hk (k+1) v x (by simpa using h1) (by simpa using h2))]
variable {P:Program} {n:Fr} {env:Env} {ps:List Per} {hp:List Res} {c:Code} {Q:Exit→Sta→Prop} {vo:Value} {T E:TypeId} {l:List (List α)}

theorem e7{w:World}{S F:aW}{v:Value}{sz:Nat}{rows:List (List D)}(h:(az v E sz rows).holds w S F):∃ ad cap,v=.slice ad rows.length cap:=by
 rcases h with ⟨h1,h2,_⟩ | ⟨b,cap,h1,_⟩
 · subst h2;exact ⟨none,0,h1⟩
 · exact ⟨_,cap,h1⟩
theorem gm(i:Nat)(hi:hp[i]? = some (iM vo T E enc l))
   (h:∀ s:Sl (Sl α),vo=s.val→s.l.map (·.l)=l→awp P n c Q ⟨env,bN (ShF fun x=>[.v (enc x)]) s.l::ShF (fun t:Sl α=>[.v t.val]) s::ps,hp.set i emp⟩):awp P n c Q ⟨env,ps,hp⟩:=by
 have hil:=(List.getElem?_eq_some_iff.1 hi).1
 refine lk (β := {s:Sl (Sl α) // vo=s.val∧s.l.map (·.l)=l}) i (fun p=>dN (az vo T 1 (cG (p.1.l.map Sl.val))) (bR (inner E enc (p.1.l.map Sl.val) l))) hi (fun w S F hh => ?_) fun ⟨s,h1,h2⟩ => ?_
 · obtain ⟨vs,hl,hs⟩:=hh
   obtain ⟨G,H,hG,hH,hd,he⟩:=hs
   have hval:∀ (k:Nat) (v:Value) (x:List α),vs[k]? = some v→l[k]? = some x→(oJ v x).val=v:=fun k v x hv hx=>by
     obtain ⟨G2,_,ho⟩:=lW _ _ hH k _ (lH (enc:=enc) (E:=E) hv hx)
     obtain ⟨ad,cap,rfl⟩:=e7 ho
     rw [cI];rfl
   obtain ⟨ad,cap,hvo⟩:=e7 hG
   have hzl:(List.zipWith oJ vs l).length=vs.length:=by simp [hl]
   refine ⟨⟨⟨ad,cap,List.zipWith oJ vs l⟩,?_,wX vs l hl⟩,?_⟩
   · rw [hvo]
     show _=Value.slice ad (List.zipWith oJ vs l).length cap
     rw [hzl,jC]
   · show (dN (az vo T 1 (cG ((List.zipWith oJ vs l).map Sl.val))) (bR (inner E enc ((List.zipWith oJ vs l).map Sl.val) l))).holds w S F
     rw [qz vs l hl hval]
     exact ⟨G,H,hG,hH,hd,he⟩
 · dsimp only
   have hsh:=jM (P:=P) (n:=n) (env:=env) (ps:=ps) (hp:=hp.set i (dN (az vo T 1 (cG (s.l.map Sl.val))) (bR (inner E enc (s.l.map Sl.val) l)))) (c:=c) (Q:=Q) i
     (cg (ShF (fun t:Sl α=>[.v t.val]) s) (bN (ShF fun x=>[.v (enc x)]) s.l)) (by rw [List.getElem?_set_self hil]) (fun w S F hh => ?_) ?_
   · exact hsh
   · obtain ⟨G,H,hG,hH,_,e⟩:=hh
     have hS:∀ b,(S b∨G b)→(S b∨F b):=fun b h=>h.imp id fun g=>(e b).2 (.inl g)
     refine ⟨?_,fun t ht => ?_⟩
     · have:=(kK hG).mono (fun _ _=>rfl) hS
       rw [h1] at this
       show er w _ _ (.sl (s.l.map fun t:Sl α=>[.v t.val]))
       have e2:cG (s.l.map Sl.val)=s.l.map fun t:Sl α=>[D.v t.val]:=by simp [cG]
       rw [e2] at this
       exact this
     · obtain ⟨k,hk⟩:=List.mem_iff_getElem?.1 ht
       have hlk:l[k]? = some t.l:=by rw [← h2,List.getElem?_map,hk];rfl
       obtain ⟨G2,hs,ho⟩:=lW _ _ hH k _ (lH (enc:=enc) (E:=E) (v:=t.val) (by rw [List.getElem?_map,hk];rfl) hlk)
       exact (kK ho).mono (fun _ _=>rfl) fun b h=>h.imp id fun g=>(e b).2 (.inr (hs b g))
   · rw [List.set_set]
     refine qX (ps':=bN (ShF fun x=>[.v (enc x)]) s.l::ShF (fun t:Sl α=>[.v t.val]) s::ps) (hp':=hp.set i emp) (fun w S fp hst=>⟨fp,⟨fun q hq => ?_,hst.res,hst.lt,hst.dj,hst.slt⟩,fun _ h=>h⟩) (h s h1 h2)
     have h0:=hst.per _ List.mem_cons_self
     rcases List.mem_cons.1 hq with rfl | hq
     · exact h0.2
     · rcases List.mem_cons.1 hq with rfl | hq
       · exact h0.1
       · exact hst.per _ (List.mem_cons_of_mem _ hq)
end
theorem pZ{P:Program}{n:Fr}{env:Env}{ps:List Per}{hp:List Res}{c:Code}{Q:Exit→Sta→Prop}{v:Value}{E:TypeId}{sz:Nat}{rows:List (List D)}(i:Nat)(hi:hp[i]? = some (az v E sz rows))(h:∀ ad cp,v=.slice ad rows.length cp→awp P n c Q ⟨env,ps,hp⟩):awp P n c Q ⟨env,ps,hp⟩ :=
 fg (φ:=∃ ad cp,v=.slice ad rows.length cp) i hi (fun w S F hh=>e7 hh) (fun ⟨ad,cp,e⟩=>h ad cp e)
theorem Con.ofOwn{P:Program}{f:FuncId}{args:List Value}{ps:List Per}{v:Value}{E:TypeId}{sz:Nat}{rows:List (List D)}{R:Value→List Per→List Res→Prop}(h:Con P f args (Sh v (.sl rows)::ps) [] R):Con P f args ps [az v E sz rows] R:=fun w S fp hst=>by
 have h1:=pe hst 0 rfl
 have h2:St w (fun b=>S b∨fp 0 b) (fun _ _=>False) (Sh v (.sl rows)::ps) []:=⟨h1.per,fun i R hi=>by simp at hi,fun i hi=>by simp at hi,fun i j hi=>by simp at hi,h1.slt⟩
 have hE:Evo w S (tot fp 1) w (fun b=>S b∨fp 0 b):=⟨rfl,rfl,rfl,Nat.le_refl _,Nat.le_refl _,fun _ _ _=>rfl,fun _ h=>.inl h,fun b hb=>hb.elim .inl fun h=>.inr (.inl ⟨0,Nat.zero_lt_one,h⟩)⟩
 have h0:∀ b,¬ tot (fun _ _=>False) ([]:List Res).length b:=fun b ⟨j,hj,_⟩=>by simp at hj
 exact (h w _ _ h2).mono fun e w' ⟨u,ps',hp',S',fp',he,hR,hst',hE',hb⟩=>⟨u,ps',hp',S',fp',he,hR,hst',hE.trans hE' (fun b hb=>(h0 b hb).elim),fun b hb'=>(hb b hb').elim (fun h=>(h0 b h).elim) .inr⟩
end Go.Sy
namespace Go.Proofs.YtfkcmbonmpcbfaaGreat
open Go.RowKit Go.Lp Go.Sy Go.Lv
def iS(N:Nat)(a:cK):Prop:=(0≤a.from_∧a.from_<N)∧0≤a.to_∧a.to_<N
theorem vH(l:List cK):∀ (L:List (List Int)) (u:Int) (x:Int),(∀ a∈l,0≤a.from_∧a.from_<L.length)→(0≤u∧u<L.length)→(x∈elt (l.foldl fu L) u↔x∈elt L u∨∃ a∈l,a.from_=u∧a.to_=x):=by
 induction l with
 | nil=>intro L u x _ _;simp
 | cons a l ih =>
   intro L u x ha hu
   have hae:=ha a List.mem_cons_self
   rw [List.foldl_cons,ih (fu L a) u x (fun b hb=>by rw [jL];exact ha b (List.mem_cons_of_mem _ hb)) (by rw [jL];exact hu)]
   have e:elt (fu L a) u=if a.from_=u then elt L u++[a.to_] else elt L u:=by
     unfold fu elt
     rw [List.getD_eq_getElem?_getD,List.getD_eq_getElem?_getD,List.getD_eq_getElem?_getD,List.getElem?_set]
     by_cases h:a.from_=u
     · subst h;rw [if_pos rfl,if_pos (by omega),if_pos rfl];rfl
     · rw [if_neg (by omega),if_neg h]
   rw [e]
   split
   · rename_i h
     rw [List.mem_append,List.mem_singleton]
     simp only [List.mem_cons,exists_eq_or_imp]
     constructor
     · rintro ((h1 | h1) | h1)
       · exact .inl h1
       · exact .inr (.inl ⟨h,h1.symm⟩)
       · exact .inr (.inr h1)
     · rintro (h1 | ⟨_,h1⟩ | h1)
       · exact .inl (.inl h1)
       · exact .inl (.inr h1.symm)
       · exact .inr h1
   · rename_i h
     simp only [List.mem_cons,exists_eq_or_imp]
     constructor
     · rintro (h1 | h1)
       · exact .inl h1
       · exact .inr (.inr h1)
     · rintro (h1 | ⟨h1,_⟩ | h1)
       · exact .inl h1
       · exact (h h1).elim
       · exact .inr h1
theorem gX(d:Array Int)(hs:∀ i j,i<j→j<d.size→d[i]! ≤ d[j]!):∀ m,m≤d.size→(Lib.compactUpTo d m).Pairwise (· < ·)∧(∀ x∈Lib.compactUpTo d m,(∃ j,j<m∧d[j]! = x))∧(∀ j,j<m→d[j]! ∈ Lib.compactUpTo d m)
 | 0,_=>⟨by simp [Lib.compactUpTo],by simp [Lib.compactUpTo],by simp⟩
 | m + 1,hm=>by
   obtain ⟨h1,h2,h3⟩:=gX d hs m (by omega)
   rw [Lib.compactUpTo_succ]
   have hk:Lib.keeps d m=true∨(0<m∧d[m]! = d[m-1]! ∧ Lib.keeps d m=false):=by
     rcases Nat.eq_zero_or_pos m with h0 | h0
     · exact .inl (Lib.keeps_lt_one d m (by omega))
     · by_cases he:d[m]! = d[m-1]!
       · exact .inr ⟨h0,he,Lib.keeps_neg h0 he⟩
       · exact .inl (Lib.keeps_pos he)
   by_cases hkm:Lib.keeps d m=true
   · rw [if_pos hkm]
     refine ⟨?_,fun x hx => ?_,fun j hj => ?_⟩
     · refine List.pairwise_append.2 ⟨h1,List.pairwise_singleton _ _,fun x hx y hy => ?_⟩
       rw [List.mem_singleton.1 hy]
       obtain ⟨j,hj,rfl⟩:=h2 x hx
       have hle:=hs j m hj (by omega)
       rcases Nat.eq_zero_or_pos m with h0 | h0
       · omega
       · have hne:d[m]! ≠ d[m-1]! := fun he=>by rw [Lib.keeps_neg h0 he] at hkm;cases hkm
         have hle2:=hs (m-1) m (by omega) (by omega)
         by_cases hjm:j=m-1
         · subst hjm;omega
         · have:=hs j (m-1) (by omega) (by omega);omega
     · rcases List.mem_append.1 hx with h | h
       · obtain ⟨j,hj,he⟩:=h2 x h;exact ⟨j,by omega,he⟩
       · exact ⟨m,by omega,(List.mem_singleton.1 h).symm⟩
     · by_cases hjm:j=m
       · subst hjm;simp
       · exact List.mem_append_left _ (h3 j (by omega))
   · obtain ⟨h0,he,_⟩:=hk.resolve_left hkm
     rw [if_neg hkm,List.append_nil]
     refine ⟨h1,fun x hx => ?_,fun j hj => ?_⟩
     · obtain ⟨j,hj,he⟩:=h2 x hx;exact ⟨j,by omega,he⟩
     · by_cases hjm:j=m
       · subst hjm;rw [he];exact h3 (j-1) (by omega)
       · exact h3 j (by omega)
theorem px(zs:List Int):(cM zs).Pairwise (· < ·)∧∀ x,x∈cM zs↔x∈zs:=by
 have hp:(eA zs).Pairwise (fun x y=>(decide (x≤y))=true):=List.pairwise_mergeSort (fun a b c h1 h2=>by simp at *;omega) (fun a b=>by simp;omega) zs
 have hg:∀ j (hj:j<(eA zs).length),(eA zs).toArray[j]! = (eA zs)[j]:=fun j hj=>by simp [hj]
 have hs:∀ i j,i<j→j<(eA zs).toArray.size→(eA zs).toArray[i]! ≤ (eA zs).toArray[j]! := fun i j hij hj=>by
   have hj':j<(eA zs).length:=by simpa using hj
   rw [hg i (by omega),hg j hj']
   simpa using List.pairwise_iff_getElem.1 hp i j (by omega) hj' hij
 obtain ⟨h1,h2,h3⟩:=gX (eA zs).toArray hs (eA zs).length (by simp)
 refine ⟨h1,fun x=>⟨fun hx => ?_,fun hx => ?_⟩⟩
 · obtain ⟨j,hj,rfl⟩:=h2 x hx
   rw [hg j hj]
   exact List.mem_mergeSort.1 (List.getElem_mem hj)
 · have hm:x∈eA zs:=List.mem_mergeSort.2 hx
   obtain ⟨j,hj,he⟩:=List.getElem_of_mem hm
   rw [← he,← hg j hj];exact h3 j hj
theorem yO{zs:List Int}{x:Int} : x∈cM zs↔x∈zs:=(px zs).2 x
theorem aaj{α:Type}[Inhabited α](l:List α)(u:Int):elt l u=elt l (u.toNat:Int):=rfl
theorem yN{N:Nat}{l:List cK}(h:∀ a∈l,iS N a){u x:Int}(hu:0≤u∧u<N):x∈elt (eb N l) u↔∃ a∈l,a.from_=u∧a.to_=x:=by
 have e:elt (eb N l) u=cM (elt (df N l) u):=by
   unfold eb elt
   rw [List.getD_eq_getElem?_getD,List.getD_eq_getElem?_getD,List.getElem?_map]
   have hlt:u.toNat<(df N l).length:=by rw [cH];omega
   rw [List.getElem?_eq_getElem hlt];rfl
 rw [e,yO]
 unfold df
 rw [vH l (List.replicate N []) u x (fun a ha=>by simpa using (h a ha).1) (by simpa using hu)]
 have:elt (List.replicate N ([]:List Int)) u=[]:=by
   unfold elt;rw [List.getD_eq_getElem?_getD,List.getElem?_replicate];split<;>rfl
 rw [this];simp
theorem tL{N:Nat}{l:List cK}(h:∀ a∈l,iS N a):nc N (eb N l):=fun u x hx=>by
 rw [aaj] at hx
 by_cases hu:u.toNat<N
 · obtain ⟨a,ha,_,rfl⟩:=(yN h (by omega)).1 hx;exact (h a ha).2
 · unfold elt at hx
   rw [List.getD_eq_getElem?_getD,List.getElem?_eq_none (by unfold eb;rw [List.length_map,cH];omega)] at hx
   cases hx
theorem uo(zs:List Int):(cM zs).length≤zs.length:=by
 unfold cM Lib.compact Lib.compactUpTo
 rw [List.length_map]
 refine Nat.le_trans (List.length_filter_le _ _) ?_
 simp [eA]
theorem ia{l:List Int}{k:Nat}{v:Int}(h:l[k]? = some v):(bO encI l)[k]? = some [.v (encI v)]:=by simp [bO,h]
theorem kA{l:List Int}(h:0<l.length):bO encI l≠[]:=fun h0=>by
 have:=congrArg List.length h0
 rw [cI,List.length_nil] at this;omega
theorem tm(l:List Int)(i:Nat)(v:Int):bO encI (l.set i v)=(bO encI l).set i [.v (encI v)]:=by simp [bO,List.map_set]
theorem jq(l:List Int)(v:Int):bO encI (l++[v])=bO encI l++[[.v (encI v)]]:=by simp [bO]
def mL(vs:List aN)(s:ByteArray):Option Nat:=vs.findIdx? fun d=>decide (d.name=s)
abbrev jg(vs:List aN):ByteArray→Option Int:=fun s=>(mL vs s).map fun i:Nat=>(i:Int)
theorem qJ(l:List aN)(d:aN)(s:ByteArray):mL (l++[d]) s=(mL l s).or (if d.name=s then some l.length else none):=by
 unfold mL
 rw [List.findIdx?_append]
 congr 1
 by_cases h:d.name=s<;>simp [h,List.findIdx?_cons]
theorem qK(l:List aN)(s:ByteArray):(mL l s).isSome=true↔s∈l.map (·.name):=by
 unfold mL
 rw [List.findIdx?_isSome,List.any_eq_true,List.mem_map]
 simp
theorem ack{l:List aN}{s:ByteArray}{i:Nat}(h:mL l s=some i):i<l.length:=(List.findIdx?_eq_some_iff_getElem.1 h).1
theorem zy(l:List aN)(s:ByteArray):(jg l s).isSome=true↔s∈l.map (·.name):=by
 rw [← qK];simp [jg]
theorem kC{γ:Type}[DecidableEq γ]:∀ l:List γ,∃ ks:List γ,ks.Nodup∧(∀ a,a∈l↔a∈ks)∧(ks.length=l.length→l.Nodup)
 | []=>⟨[],List.nodup_nil,fun _=>Iff.rfl,fun _=>List.nodup_nil⟩
 | a :: l=>by
   obtain ⟨ks,h1,h2,h3⟩:=kC l
   have hle:ks.length≤l.length:=dI ks l h1 fun x hx=>(h2 x).2 hx
   by_cases ha:a∈ks
   · refine ⟨ks,h1,fun x => ?_,fun h => ?_⟩
     · rw [List.mem_cons,h2]
       exact ⟨fun h=>h.elim (fun e=>e ▸ ha) id,.inr⟩
     · rw [List.length_cons] at h;omega
   · refine ⟨a::ks,List.nodup_cons.2 ⟨ha,h1⟩,fun x => ?_,fun h => ?_⟩
     · rw [List.mem_cons,List.mem_cons,h2]
     · rw [List.length_cons,List.length_cons] at h
       exact List.nodup_cons.2 ⟨fun k=>ha ((h2 a).1 k),h3 (by omega)⟩
theorem qL(l:List aN):qy (jg l)=l.length↔(l.map (·.name)).Nodup:=by
 obtain ⟨ks,h1,h2,h3⟩:=kC (l.map (·.name))
 rw [tF h1 fun a=>(zy l a).trans (h2 a)]
 constructor
 · intro h;exact h3 (by rw [List.length_map];exact h)
 · intro h
   have:=dI _ _ h fun x hx=>(h2 x).1 hx
   have h4:=dI _ _ h1 fun x hx=>(h2 x).2 hx
   rw [List.length_map] at this h4;omega
def ee(s:ByteArray):Bool:=(c7 s).all (fun u=>decide (33≤u.toNat) && decide (u.toNat≤126)) && (decide (1≤s.size) && decide (s.size≤64))
structure VOk (l:List aN):Prop where
 len:l.length≤4096
 nd:(l.map (·.name)).Nodup
 nm:∀ d∈l,ee d.name=true
structure gF (l:List aN):Prop where
 len:l.length≤1
 nm:∀ d∈l,ee d.name=true
 par:∀ d∈l,d.parents.l=[]
theorem gF.nd{l:List aN}(h:gF l):(l.map (·.name)).Nodup:=by
 have:=h.len
 match l with
 | []=>exact List.nodup_nil
 | [a]=>simp
 | a::b::l=>simp at this
structure VI (l:List aN) (k:Nat) (gs:List cK):Prop where
 le:k≤l.length
 ok:∀ a∈gs,iS l.length a
 ln:gs.length≤l.length*k
 nm:∀ d∈l.take k,ee d.name=true
 si:gF l→gs=[]
structure VJ (l:List aN) (k:Nat) (d:aN) (m:Nat) (gs:List cK):Prop where
 le:k<l.length
 ml:m≤d.parents.l.length
 ok:∀ a∈gs,iS l.length a
 ln:gs.length≤l.length*k+m
 nm:∀ d∈l.take k,ee d.name=true
 si:gF l→gs=[]
 nd:(d.parents.l.take m).Nodup
 kn:∀ x∈d.parents.l.take m,x∈l.map (·.name)
section
variable {l:List aN} {k m:Nat} {d:aN} {gs:List cK} {p:ByteArray}
theorem VI.start(l:List aN):VI l 0 []:=⟨Nat.zero_le _,fun a h=>(by cases h),Nat.zero_le _,fun d h=>(by cases h),fun _=>rfl⟩
theorem VI.into(h:VI l k gs)(hd:l[k]? = some d):VJ l k d 0 gs:=⟨(List.getElem?_eq_some_iff.1 hd).1,Nat.zero_le _,h.ok,h.ln,h.nm,h.si,List.nodup_nil,fun x hx=>(by cases hx)⟩
theorem VJ.short(h:VJ l k d m gs):m≤l.length:=by
 have:=dI _ _ h.nd h.kn
 rw [List.length_take,List.length_map] at this
 have:=h.ml;omega
theorem VJ.step(h:VJ l k d m gs)(hd:l[k]? = some d)(hp:d.parents.l[m]? = some p){i:Nat}(hi:mL l p=some i)(hs:p ∉ d.parents.l.take m):VJ l k d (m+1) (gs++[⟨k,i⟩]):=by
 have hm:=(List.getElem?_eq_some_iff.1 hp).1
 have hlt:=ack hi
 have hle:=h.le
 refine ⟨h.le,hm,fun a ha => ?_,?_,h.nm,fun hv => ?_,?_,fun x hx => ?_⟩
 · rcases List.mem_append.1 ha with h1 | h1
   · exact h.ok a h1
   · rw [List.mem_singleton.1 h1];exact ⟨⟨Int.natCast_nonneg _,Int.ofNat_lt.2 hle⟩,Int.natCast_nonneg _,Int.ofNat_lt.2 hlt⟩
 · rw [List.length_append,List.length_singleton];have:=h.ln;omega
 · have:=hv.par d (List.mem_of_getElem? hd)
   rw [this] at hp;cases hp
 · rw [List.take_add_one,hp,Option.toList_some,List.nodup_append]
   exact ⟨h.nd,by simp,fun x hx y hy e=>hs (by rw [List.mem_singleton.1 hy] at e;exact e ▸ hx)⟩
 · rw [List.take_add_one,hp,Option.toList_some] at hx
   rcases List.mem_append.1 hx with h1 | h1
   · exact h.kn x h1
   · rw [List.mem_singleton.1 h1,← qK,hi];rfl
theorem VJ.done(h:VJ l k d m gs)(hd:l[k]? = some d)(hn:ee d.name=true):VI l (k+1) gs:=by
 have:=h.short
 refine ⟨h.le,h.ok,?_,fun x hx => ?_,h.si⟩
 · rw [Nat.mul_add,Nat.mul_one];have:=h.ln;omega
 · rw [List.take_add_one,hd,Option.toList_some] at hx
   rcases List.mem_append.1 hx with h1 | h1
   · exact h.nm x h1
   · rw [List.mem_singleton.1 h1];exact hn
end
end Go.Proofs.YtfkcmbonmpcbfaaGreat

namespace Go.Proofs.YtfkcmbonmpcbfaaGreat
open Go.RowKit Go.Lp Go.Sy
open Go.Proofs.Tryz
attribute [local irreducible] aL aB awp aC fwp Quiet
theorem uM(l:Sl Int)(hl:l.l.length≤1000000):Con Tryz.prog 347 [l.val] [ShF b9 l] [] fun r ps hp=>ps=[]∧∃ (ad:Option Addr) (c:Nat),r=.slice ad l.l.length c∧hp=[az (.slice ad l.l.length c) 3 1 (l.l.map b9)]:=by
 refine EN1 Tryz.func347 rfl ?_
 refine gl (φ:=l.ad=none→l.l=[]) (fun w S fp hst => ?_) (fun hnil => ?_)
 · intro hn
   have hrep:er w S (.slice l.ad l.l.length l.cap) (.sl (l.l.map b9)):=hst.per _ (aF 0 rfl)
   rw [hn] at hrep
   generalize hrw:l.l.map b9=rows at hrep
   generalize l.l.length=m at hrep
   cases hrep with
   | e=>exact List.map_eq_nil_iff.1 hrw
 refine aSR (aA rfl (aNs (aSR (aM rfl (aU rfl (iH Tryz.underlying26 rfl) (aNn ?_))))))
 refine ah _ rfl (fun h1 => ?_) (fun h1 => ?_)
 ·skip
  have hl0:l.l=[]:=hnil (by simpa using h1)
  refine aq (dO 3 1 ?_)
  show awp _ _ _ _ ⟨_,_,[_]⟩
  refine ae (aA rfl (aNn (aj (aK (FZ1 [0] Tryz.results347 rfl ?_)))))
  exact ⟨rfl,none,0,by rw [hl0];rfl,by rw [hl0];rfl⟩
 ·skip
  refine ai (ak (aSR (LT rfl (j6 el26 rfl (fun v3_0=>(aHN ?_))))))
  refine aM rfl ?_
  refine aJ rfl (qN 0 el26 el26 rfl rfl rfl rfl (aF 0 rfl) ((fun r hr=>by obtain ⟨z,_,rfl⟩:=List.mem_map.1 hr;rfl)) (by show ([]:List (List D)).length+(l.l.map b9).length≤_;rw [List.length_map];exact Nat.le_trans (show 0+l.l.length≤1000000 by omega) (by decide)) (l.l.length) (by simp;try omega) (fun v3_2 c3_2 => ?_))
  refine aHK ?_
  refine aA rfl (aNn (aj (FZ1 [0] Tryz.results347 rfl ?_)))
  exact ⟨rfl,v3_2,c3_2,rfl,rfl⟩
end Go.Proofs.YtfkcmbonmpcbfaaGreat

namespace Go.Proofs.YtfkcmbonmpcbfaaGreat
open Go.RowKit Go.Lp Go.Sy Go.Sort Go.Shelf
open Go.Proofs.Tryz
theorem jm{v:Value}{T:TypeId}(zs:List Int)(hz:zs.length<4611686018427387904):Con Tryz.prog 185 [v] [] [az v T 1 (bO encI zs)] fun _ ps' hp'=>ps'=[]∧hp'=[az v T 1 (bO encI (eA zs))]:=by
 have hlen:(eA zs).length=zs.length:=List.length_mergeSort _
 refine jR (zs1:=eA zs) (rest:=[]) (fun _=>rfl) (by simp [hlen]) (fun hv hz w => ?_) (fun b cap w hv hb hc hm hH => ?_)
 · subst hv;subst hz
   refine (Any.slices_Sort_int_none Tryz.lays189 none 0 w).mono fun e w' ⟨he,hw⟩=>⟨_,he,hw,rfl,?_⟩
   rw [show eA []=[] by simp [eA]]
 · refine (Any.slices_Sort_int Tryz.lays189 b 0 cap zs w hH hb hz).mono fun e w' ⟨he,n,os,hw⟩=>⟨⟨_,he,rfl,by rw [hlen,hv]⟩,n,os,by rw [List.append_nil];exact hw⟩
theorem ku{v:Value}{T:TypeId}(zs:List Int):Con Tryz.prog 348 [v] [] [az v T 1 (bO encI zs)] fun r ps' hp'=>ps'=[]∧∃ ad c,r=.slice ad (Lib.compact zs).length c∧hp'=[az r T 1 (bO encI (Lib.compact zs))]:=by
 have hle:(Lib.compact zs).length≤zs.length:=by
   unfold Lib.compact Lib.compactUpTo
   rw [List.length_map]
   exact Nat.le_trans (List.length_filter_le _ _) (by simp)
 refine jR (zs1:=Lib.compact zs) (rest:=List.replicate (zs.length-(Lib.compact zs).length) 0) (fun _=>rfl) (by simp;omega) (fun hv hz w => ?_) (fun b cap w hv hb hc hm hH => ?_)
 · subst hv;subst hz
   refine (Any.slices_Compact_int_empty Tryz.lays20 none 0 w).mono fun e w' ⟨he,hw⟩=>⟨_,he,hw,rfl,none,0,rfl,rfl⟩
 · refine (Any.slices_Compact_int Tryz.lays20 b 0 cap zs w hH (by unfold maxLen at hm;omega) hc).mono fun e w' ⟨he,n,hw⟩=>⟨⟨_,he,rfl,_,_,rfl,rfl⟩,n,#[],?_⟩
   rw [Sort.grow_empty];exact hw
theorem rn{v:Value}{T:TypeId}(zs:List Int):Con Tryz.prog 349 [v] [] [az v T 1 (bO encI zs)] fun _ ps' hp'=>ps'=[]∧hp'=[az v T 1 (bO encI zs.reverse)]:=by
 refine jR (zs1:=zs.reverse) (rest:=[]) (fun _=>rfl) (by simp) (fun hv hz w => ?_) (fun b cap w hv hb hc hm hH => ?_)
 · subst hv;subst hz
   exact (Any.slices_Reverse_int_empty Tryz.lays112 none 0 w).mono fun e w' ⟨he,hw⟩=>⟨_,he,hw,rfl,rfl⟩
 · refine (Any.slices_Reverse_int Tryz.lays112 b 0 cap zs w hH (by unfold maxLen at hm;omega)).mono fun e w' ⟨he,n,hw⟩=>⟨⟨_,he,rfl,by rw [List.length_reverse,hv]⟩,n,#[],?_⟩
   rw [Sort.grow_empty,List.append_nil];exact hw
theorem n0{ad:Option Addr}{c:Nat}(zs:List Int)(hz:zs.length≤1000000):Con Tryz.prog 347 [.slice ad zs.length c] [Sh (.slice ad zs.length c) (.sl (bO encI zs))] [] fun r ps' hp'=>ps'=[]∧hp'=[az r 3 1 (bO encI zs)] :=
 (uM ⟨ad,c,zs⟩ hz).post fun _ _ _ ⟨h1,_,_,h2,h3⟩=>⟨h1,by rw [h2];exact h3⟩
end Go.Proofs.YtfkcmbonmpcbfaaGreat

namespace Go.Proofs.YtfkcmbonmpcbfaaGreat
open Go.RowKit Go.Lp Go.Sy
open Go.Proofs.Tryz
attribute [local irreducible] aL aB awp aC fwp Quiet
set_option maxHeartbeats 1000000 in
theorem sU(N:Nat)(hN:N≤1000000)(l:Sl cK)(hl:l.l.length≤100000000)(hr:∀ a∈l.l,0≤a.from_∧a.from_<N) :
   Con Tryz.prog 339 [.int .i64 N,l.val] [ShF cK.row l] [] fun r ps hp=>ps=[]∧hp=[iM r 26 3 encI (eb N l.l)]:=by
 refine EN2 Tryz.func339 rfl (aSR (aA rfl (aNn (aSR (aM rfl (LT rfl (fL (m:=N) (zs:=[.slice none 0 0]) el381 (by kernel_rfl) rfl (by decide) (cY rfl (rfl)) (cY rfl (rfl)) (by omega) rfl (fun v1_1=>(aHN ?_)))))))))
 refine aA rfl (aNs (aq (ma (α:=Int) (E:=3) (enc:=encI) 0 N rfl (ct (.of (aF 0 rfl)) (fun hlen=>(ae (aM rfl (aU rfl (aY Tryz.underlying354 rfl) (aM rfl (aNn (ao (aP [5,11,12,13] [0] [0] (fun (k:Nat) s=>k≤l.l.length∧∃ vo,s=⟨[(5,true,vo),(11,true,l.val),(12,true,.int .i64 l.l.length),(13,true,.int .i64 k)],[ShF cK.row l],[iM vo 26 3 encI (df N (l.l.take k))]⟩) (fun k=>l.l.length-k) rfl (⟨0,Nat.zero_le _,_,rfl⟩) ?_))))))))))))
 rintro k s ⟨hk,vo,rfl⟩
 refine aSR (aU rfl (bd rfl rfl) (aNs ?_))
 refine ah _ rfl (fun h1 => ?_) (fun h1 => ?_)
 ·skip
  have hk':k<l.l.length:=by simpa using h1
  obtain ⟨a,ha⟩:∃ a,l.l[k]? = some a:=⟨l.l[k]'hk',by simp⟩
  have har:=hr a (List.mem_of_getElem? ha)
  refine ai (ak (aq (ao (aSR (UI Tryz.underlying354 tk356 0 rfl rfl rfl rfl rfl (aH ha) rfl rfl (fun ⟨b4_0,o4_0⟩=>(US 0 tk356 0 rfl rfl rfl rfl rfl (LT rfl (bg (zs:=[.int .i64 0,.int .i64 0]) (by kernel_rfl) rfl (fun b4_2=>(aHN ?_)))))))))))
  refine aJ rfl (aV 1 tk356 rfl rfl rfl rfl (aHK ?_))
  refine aNn ?_
  have hkk:a.from_.toNat<(df N (l.l.take k)).length:=by rw [cH];omega
  obtain ⟨xr,hxr⟩:∃ xr,(df N (l.l.take k))[a.from_.toNat]? = some xr:=⟨(df N (l.l.take k))[a.from_.toNat]'hkk,by simp⟩
  have hxl:xr.length≤100000000:=by have:=qE N _ (List.mem_of_getElem? hxr);rw [List.length_take] at this;omega
  refine iu 0 a.from_.toNat rfl hxr (fun vs v hvl hv => ?_)
  rw [cH] at hvl
  have hne:cG vs≠[]:=fun h0=>by
    have:=congrArg List.length h0
    simp [cG,hvl] at this;omega
  refine eM 0 rfl hne (fun B cp hvo => ?_)
  have hvr:(cG vs).length=N:=by simp [cG,hvl]
  rw [hvr] at hvo
  subst hvo
  have hrow:(cG vs)[a.from_.toNat]? = some [.v v]:=by simp [cG,hv]
  show awp _ _ _ _ ⟨_,_,[_,_,_,_]⟩
  refine DC [11,13] [13] [b4_2] 14 (CF 0 rfl rfl rfl (ax rfl) (CF 1 rfl rfl rfl (qFA (off:=0) rfl) ?_))
  refine cq 2 1 rfl (by kernel_rfl) true rfl rfl (by simp) tk3 (fun _=>rfl) rfl rfl ?_
  refine CF 3 rfl rfl rfl (ax rfl) (CF 4 rfl rfl rfl (qFA (off:=0) rfl) ?_)
  refine cq 5 1 rfl (by kernel_rfl) true rfl rfl (by simp) tk3 (fun _=>rfl) rfl rfl ?_
  refine CF 6 rfl rfl rfl (ez a.from_.toNat el381 rfl rfl (by omega) (by omega)) (CQ 7 rfl rfl rfl (ba (v:=.slice (some ⟨B,0,none⟩) N cp) (u:=v) 0 a.from_.toNat 0 tk26 rfl rfl hrow rfl rfl) (CF 8 rfl rfl rfl (qFA (off:=1) rfl) ?_))
  refine cq 9 1 rfl (by kernel_rfl) true rfl rfl (by simp) tk3 (fun _=>rfl) rfl rfl ?_
  refine bP 10 [] (by kernel_rfl) (bo ?_ bD)
  refine cj 10 rfl rfl (Eff.x (id (WL (zs:=[.int .i64 0]) el26 rfl rfl rfl (.more rfl (.v rfl .nil) .nil) rfl rfl (fun v5_10=>(CST ?_)))))
  refine bP 11 [] (by kernel_rfl) (bo ?_ bD)
  refine cj 11 rfl rfl (Eff.framed (q:=false) [2,4] rfl rfl (eK 1 rfl rfl iK) ?_)
  refine id (cB 0 el26 rfl rfl rfl rfl (dK 1 el26 rfl (by simp)) (by first | assumption | simp) (by simp [cI];omega) _ rfl (fun v5_11 c5_11 => ?_))
  refine fA (CST ?_)
  refine CF 12 rfl rfl rfl (ez a.from_.toNat el381 rfl rfl (by omega) (by omega)) ?_
  refine bP 13 [] (by kernel_rfl) (bo ?_ bD)
  refine cj 13 rfl rfl (Eff.wild (q:=false) (cA 0 a.from_.toNat 0 tk26 rfl rfl rfl hrow rfl (.v rfl .nil) rfl (by decide) (CST ?_)))
  refine ec (by kernel_rfl) (bb (ak ?_))
  refine l9 (hp':=[az (.slice (some ⟨B,0,none⟩) N cp) 26 1 (cG (vs.set a.from_.toNat (.slice v5_11 (xr.length+1) c5_11))),_,az (.slice v5_11 (xr.length+1) c5_11) 3 1 (bO encI (xr++[a.to_])),bR ((inner 3 encI vs (df N (l.l.take k))).set a.from_.toNat emp),_]) (by rw [jD,cI];simp [bO,jc];exact ⟨rfl,rfl⟩) ?_
  refine fN 0 2 3 a.from_.toNat rfl rfl rfl rfl rfl rfl (by rw [hvl,cH]) hkk ?_
  show awp _ _ _ _ ⟨_,_,[_,_,_,_,_]⟩
  refine ae (aU rfl (aO rfl rfl (by omega)) (aM rfl (aNn ?_)))
  refine ⟨[5,11,12,13],[0],[0],rfl,?_⟩
  refine ⟨k+1,⟨by omega,.slice (some ⟨B,0,none⟩) N cp,?_⟩,by omega⟩
  rw [tO _ _ ha,show fu (df N (l.l.take k)) a=(df N (l.l.take k)).set a.from_.toNat (xr++[a.to_]) by unfold fu;rw [List.getD_eq_getElem?_getD,hxr];rfl]
  rfl
 ·skip
  have hkl:k=l.l.length:=by simp at h1;omega
  rw [hkl,List.take_length]
  refine aQ (aR (aR (aX (ak (aq (aq (xE 0 rfl (fun ad cp hvo => ?_))))))))
  rw [cH] at hvo
  subst hvo
  refine ae (aM rfl (aU rfl (aY Tryz.underlying381 rfl) (aM rfl (aNn (ao ?_)))))
  refine aP [5,32,33] [] [0] (fun (j:Nat) s=>j≤N∧s=⟨[(5,true,.slice ad N cp),(32,true,.int .i64 N),(33,true,.int .i64 j)],[],[iM (.slice ad N cp) 26 3 encI (fI (df N l.l) j)]⟩) (fun j=>N-j) rfl (⟨0,Nat.zero_le _,by rw [show fI (df N l.l) 0=df N l.l by simp [fI]];rfl⟩) ?_
  rintro j s ⟨hj,rfl⟩
  refine aSR (aU rfl (bd rfl rfl) (aNs ?_))
  refine ah _ rfl (fun h2 => ?_) (fun h2 => ?_)
  ·skip
   have hj':j<N:=by simpa using h2
   have hjj:j<(df N l.l).length:=by rw [cH];omega
   obtain ⟨xr,hxr⟩:∃ xr,(df N l.l)[j]? = some xr:=⟨(df N l.l)[j]'hjj,by simp⟩
   have hxl:xr.length≤100000000:=by have:=qE N _ (List.mem_of_getElem? hxr);omega
   refine ai (ak (aq (ao (aSR (aM rfl (aA rfl (aNs (iu 0 j rfl (vR hxr) (fun vs v hvl hv => ?_)))))))))
   rw [jY _ _ (by rw [cH];omega),cH] at hvl
   have hne:cG vs≠[]:=fun h0=>by
     have:=congrArg List.length h0
     simp [cG,hvl] at this;omega
   refine eM 0 rfl hne (fun B cp2 hvo => ?_)
   obtain ⟨rfl,rfl⟩:ad=some ⟨B,0,none⟩∧cp=cp2:=by simp at hvo;exact ⟨hvo.1,hvo.2.2⟩
   have hrow:(cG vs)[j]? = some [.v v]:=by simp [cG,hv]
   show awp _ _ _ _ ⟨_,_,[_,_,_]⟩
   refine ae (aM rfl (aM rfl (aU rfl (ez j el381 rfl rfl (by omega) (by omega)) (aU rfl (ba (v:=.slice (some ⟨B,0,none⟩) N cp) (u:=v) 0 j 0 tk26 rfl rfl hrow rfl rfl) (LF rfl (EC [] [1] rfl (jm _ (by omega)) ?_))))))
   rintro _ _ _ ⟨rfl,rfl⟩
   refine aST ?_
   refine aNn (ae (aM rfl (aM rfl (aM rfl (aM rfl (aU rfl (ez j el381 rfl rfl (by omega) (by omega)) (aU rfl (ba (v:=.slice (some ⟨B,0,none⟩) N cp) (u:=v) 0 j 0 tk26 rfl rfl hrow rfl rfl) (LF rfl (EC [] [1] rfl (ku _) ?_)))))))))
   rintro r11 _ _ ⟨rfl,ad2,c2,rfl,rfl⟩
   refine aST ?_
   refine aU rfl (ez j el381 rfl rfl (by omega) (by omega)) (LF rfl (cA 0 j 0 tk26 rfl rfl rfl hrow rfl (.v rfl .nil) rfl (by decide) (bE (bb (ak ?_)))))
   refine l9 (hp':=[az (.slice (some ⟨B,0,none⟩) N cp) 26 1 (cG (vs.set j (.slice ad2 (Lib.compact (eA xr)).length c2))),az (.slice ad2 (Lib.compact (eA xr)).length c2) 3 1 (bO encI (cM xr)),bR ((inner 3 encI vs (fI (df N l.l) j)).set j emp)]) (by rw [jD];simp [jc];rfl) ?_
   refine fN 0 1 2 j rfl rfl rfl rfl rfl rfl (by rw [hvl,jY _ _ (by rw [cH];omega),cH]) (by rw [jY _ _ (by rw [cH];omega)];exact hjj) ?_
   show awp _ _ _ _ ⟨_,_,[_,_,_]⟩
   refine ae (aU rfl (aO rfl rfl (by omega)) (aM rfl (aNn ?_)))
   refine ⟨[5,32,33],[],[0],rfl,?_⟩
   refine ⟨j+1,⟨by omega,?_⟩,by omega⟩
   rw [← tP hxr];rfl
  ·skip
   have hjl:j=N:=by simp at h2;omega
   subst hjl
   have e:fI (df j l.l) j=eb j l.l:=by have:=cH j l.l;unfold fI eb;rw [List.take_of_length_le (by omega),List.drop_of_length_le (by omega),List.append_nil]
   rw [e]
   refine aQ (aR (aR (aX (ak (aSR (aM rfl (aA rfl (aNn (aj (FZ1 [0] Tryz.results339 rfl ?_))))))))))
   exact ⟨rfl,rfl⟩
theorem adO(N:Nat)(hN:N≤1000000)(w:World):Calls Tryz.prog 210 #[.int .u64 (IntKind.u64.wrap 1),.int .u64 (IntKind.u64.wrap (N:Int))] w fun e w'=>e=.returned (.tuple #[.int .u64 0,.int .u64 N])∧Go.Sy.Below w.heap.size w w':=by
 have h:=Any.bits_Mul Tryz.lays212 1 N (by omega) (by omega) w
 have e1:IntKind.u64.wrap 1=1:=by decide
 have e2:IntKind.u64.wrap (N:Int)=N:=by rw [IntKind.wrap_u64];omega
 rw [e1,e2]
 refine h.mono fun e w' ⟨h1,h2⟩=>⟨?_,by rw [h2];exact Go.Sy.Below.refl _ _⟩
 rw [h1]
 have e3:1*N / 18446744073709551616=0:=by omega
 have e4:1*N % 18446744073709551616=N:=by omega
 rw [e3,e4];rfl
theorem sX{ad:Option Addr}{c:Nat}(v:Int):Con Tryz.prog 346 [.slice ad 1 c,.int .i64 ((0:Nat):Int)] [Sh (.slice ad 1 c) (.sl (bO encI [v]))] [] fun r ps hp=>ps=[]∧hp=[az r 3 1 (bO encI [])]:=by
 refine EN2 Tryz.func346 rfl (aSR (aA rfl (aNs (aSR (aM rfl (aU rfl (bd rfl rfl) (aNn ?_)))))))
 refine ah _ rfl (fun h1 => ?_) (fun h1 => ?_)
 ·skip
  exact absurd h1 (by simp)
 ·skip
  refine ai (ak (aSR (aM rfl (aU rfl (aY Tryz.underlying26 rfl) (aU rfl (gi (by kernel_rfl) Tryz.underlying305 rfl) (aM rfl (aU rfl (gi (by kernel_rfl) Tryz.underlying305 rfl) (aU rfl (QC rfl (fun w S fp hst=>adO 0 (by omega) w)) ?_))))))))
  refine aM rfl (aU rfl (aI rfl rfl) (aU rfl (aI rfl rfl) (aA rfl (aA rfl (aNs (aSR (aM rfl (aU rfl (db rfl rfl) (aM rfl (aG rfl rfl (fun hc=>ax rfl) (aG rfl rfl (fun hc=>db (aa rfl hc) rfl) (aU rfl (cC rfl rfl (fun h=>gf rfl h)) (aNn ?_)))))))))))))
  refine ah _ rfl (fun h2 => ?_) (fun h2 => ?_)
  ·skip
   exact absurd h2 (by decide)
  ·skip
   refine ai (ak (aSR (aM rfl (aU rfl (gi (by kernel_rfl) Tryz.underlying3 rfl) (LT rfl (fL (m:=0) (zs:=[.int .i64 0]) el26 (by kernel_rfl) rfl (by decide) (cY rfl (rfl)) (cY rfl (rfl)) (by omega) rfl (fun v6_2=>(aHN ?_))))))))
   refine aA rfl (aNn (aSR (aM rfl (aM rfl (aU rfl (ab1 el26 rfl rfl) (aA rfl (aNs (ao (aP [7,8] [] [0] (fun (k:Nat) s=>s=⟨[(7,true,.slice v6_2 0 0),(8,true,.int .i64 0)],[],[az (.slice v6_2 0 0) 3 1 (bO encI [])]⟩) (fun k=>k) rfl (⟨0,rfl⟩) ?_)))))))))
   rintro k s rfl
   refine aq (aSR (aM rfl (aM rfl (aU rfl (dA 0 Tryz.underlying26 rfl rfl) (aU rfl (bd rfl rfl) (aNn ?_))))))
   refine ah _ rfl (fun h3 => ?_) (fun h3 => ?_)
   ·skip
    exact absurd h3 (by decide)
   ·skip
    refine aQ (aR (aR (aX (ak (aSR (aM rfl (aA rfl (aNn (aj (FZ1 [0] Tryz.results346 rfl ?_))))))))))
    exact ⟨rfl,rfl⟩
theorem sY{ad:Option Addr}{c:Nat}(v:Int)(N:Nat)(hN:N≤1000000)(h0:0<N):Con Tryz.prog 346 [.slice ad 1 c,.int .i64 N] [Sh (.slice ad 1 c) (.sl (bO encI [v]))] [] fun r ps hp=>ps=[]∧hp=[az r 3 1 (bO encI (List.replicate N v))]:=by
 refine EN2 Tryz.func346 rfl (aSR (aA rfl (aNs (aSR (aM rfl (aU rfl (bd rfl rfl) (aNn ?_)))))))
 refine ah _ rfl (fun h1 => ?_) (fun h1 => ?_)
 ·skip
  exact absurd h1 (by simp)
 ·skip
  refine ai (ak (aSR (aM rfl (aU rfl (aY Tryz.underlying26 rfl) (aU rfl (gi (by kernel_rfl) Tryz.underlying305 rfl) (aM rfl (aU rfl (gi (by kernel_rfl) Tryz.underlying305 rfl) (aU rfl (QC rfl (fun w S fp hst=>adO N hN w)) ?_))))))))
  refine aM rfl (aU rfl (aI rfl rfl) (aU rfl (aI rfl rfl) (aA rfl (aA rfl (aNs (aSR (aM rfl (aU rfl (db rfl rfl) (aM rfl (aG rfl rfl (fun hc=>ax rfl) (aG rfl rfl (fun hc=>db (aa rfl hc) rfl) (aU rfl (cC rfl rfl (fun h=>gf rfl h)) (aNn ?_)))))))))))))
  refine ah _ rfl (fun h2 => ?_) (fun h2 => ?_)
  ·skip
   exact absurd h2 (by simp;omega)
  ·skip
   refine ai (ak (aq ?_))
   have hw:=wrapN N hN
   refine ae (aM rfl (aU rfl (gi (by kernel_rfl) Tryz.underlying3 rfl) (LT rfl (fL (m:=N) (zs:=[.int .i64 0]) el26 (by kernel_rfl) rfl (by decide) (cY rfl (hw)) (cY rfl (hw)) (by omega) rfl (fun v6_2=>(aHN ?_))))))
   refine aA rfl (aNs ?_)
   refine l9 (hp':=[az (.slice v6_2 N N) 3 1 (bO encI (List.replicate N 0))]) (by simp [bO]) ?_
   refine eM 0 rfl (by simp [bO];omega) (fun B cp hvo => ?_)
   obtain ⟨rfl,rfl⟩:v6_2=some ⟨B,0,none⟩∧N=cp:=by simp at hvo;exact ⟨hvo.1,hvo.2.2⟩
   refine ae (aM rfl (aM rfl ?_))
   refine LF rfl (abP (zs:=List.replicate N 0) (xs:=[v]) 0 el26 (fun _=>rfl) rfl rfl rfl rfl (by simp) (aF 0 rfl) (by simp) (by simp;omega) (by simp;omega) (part N 1 v) (by simp [part]) rfl ?_)
   refine aA rfl (aNs (ao (aP [7,8] [] [0] (fun (k:Nat) s=>(1≤k∧k≤N)∧s=⟨[(7,true,.slice (some ⟨B,0,none⟩) N N),(8,true,.int .i64 k)],[],[az (.slice (some ⟨B,0,none⟩) N N) 3 1 (bO encI (part N k v))]⟩) (fun k=>N-k) rfl (⟨1,⟨by omega,by omega⟩,rfl⟩) ?_)))
   rintro k s ⟨⟨hk1,hk2⟩,rfl⟩
   refine aq (aSR (aM rfl (aM rfl (aU rfl (aY Tryz.underlying26 rfl) (aU rfl (bd rfl rfl) (aNn ?_))))))
   refine ah _ rfl (fun h3 => ?_) (fun h3 => ?_)
   ·skip
    have hkN:k<N:=by simp at h3;omega
    obtain ⟨j,hj⟩:∃ j,j=min k (N-k):=⟨_,rfl⟩
    refine ai (ak (ao (DR [7] 10 (zH 0 rfl (by kernel_rfl) true rfl rfl (fun _=>ax rfl) (VM 1 rfl rfl (VM 2 rfl rfl (bV 3 rfl rfl (jx k (N-k) k el26 rfl rfl rfl hkN (Nat.le_refl _) rfl (by omega)) (VM 4 rfl rfl (VM 5 rfl rfl (bV 6 rfl rfl (fJ k el26 rfl rfl rfl (by omega) (Nat.le_refl _)) ?_))))))))))
    refine VE 7 rfl rfl (abO (zs:=part N k v) 0 el26 (fun _=>rfl) rfl rfl rfl rfl (tN v hk2) j hj (by rw [tN v hk2];omega) (part N (k+j) v) (yW v (by omega) (by omega)) ?_)
    refine bST rfl ?_
    refine bV 8 rfl rfl (aO rfl rfl (by omega)) (bV 9 rfl rfl (bz rfl) (BN (bb (ak ?_))))
    refine ⟨[7,8],[],[0],rfl,?_⟩
    refine ⟨k+j,⟨⟨by omega,by omega⟩,?_⟩,by omega⟩
    rw [Int.natCast_add];rfl
   ·skip
    have hkN:k=N:=by simp at h3;omega
    subst hkN
    rw [show part k k v=List.replicate k v by simp [part]]
    refine aQ (aR (aR (aX (ak (aSR (aM rfl (aA rfl (aNn (aj (FZ1 [0] Tryz.results346 rfl ?_))))))))))
    exact ⟨rfl,rfl⟩
end Go.Proofs.YtfkcmbonmpcbfaaGreat

