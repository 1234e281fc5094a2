/- Parts of the proof, in build order. No condition. -/
import Derived.Test.YtgkbbdgklpabpaaGreatDoorSn19
import Derived.Test.YtgkbbdgklpabpaaGreatDoorSn06
import Derived.Test.YtgkbbdgklpabpaaGreatDoorSn14
import Derived.Test.YtgkbbdgklpabpaaGreatDoorRows
import Derived.Test.YtgkbbdgklpabpaaGreatDoorSn07
import Derived.Test.YtgkbbdgklpabpaaGreatDoorSn05
import Derived.Test.YtgkbbdgklpabpaaGreatDoorSn09
import Derived.Test.YtgkbbdgklpabpaaGreatDoorSn12
import Derived.Lib.Hide
set_option linter.unusedSimpArgs false
set_option linter.unusedVariables false
set_option maxHeartbeats 1000000
set_option maxRecDepth 20000
namespace Go.Sy
open Go.RowKit Go.Lp
def ki(w:World)(S:aZ)(us:List Value)(ds:List D):Prop:=us.length=ds.length∧∀ (j:Nat) (d:D),ds[j]? = some d→∃ u,us[j]? = some u∧dJ w S u d
theorem ki.nil{w:World}{S:aZ}{us:List Value}(h:ki w S us []):us=[]:=List.eq_nil_of_length_eq_zero h.1
theorem ki.cons{w:World}{S:aZ}{us:List Value}{d:D}{ds:List D}(h:ki w S us (d::ds)):∃ u us',us=u::us'∧dJ w S u d∧ki w S us' ds:=by
 cases us with
 | nil=>have:=h.1;simp at this
 | cons u us =>
   obtain ⟨u',h1,h2⟩:=h.2 0 d rfl
   simp only [List.getElem?_cons_zero,Option.some.injEq] at h1
   subst h1
   exact ⟨u,us,rfl,h2,by simpa using h.1,fun j e hj=>by have:=h.2 (j+1) e (by simpa using hj);simpa using this⟩
theorem abe{w:World}{cs:List Value}{ds:List D}(hl:ds.length=cs.length)(h:Rds w cs 0 ds):ki w (fun b=>b<w.heap.size) cs ds:=⟨hl.symm,fun j d hj=>by
 obtain ⟨u,h1,_,h2⟩:=h j d hj
 rw [Nat.zero_add] at h1
 exact ⟨u,h1,h2⟩⟩
section
variable {P:Program} {k:Nat} {t e:TypeId} {w:World} {S:aZ} {us:List Value} {ds:List D}
end
mutual
/-- ten times the size of data: each value counts one, and each letter -/
def zD:D→Nat
 | .v (.string s)=>10*(s.size+1)
 | .v _=>10
 | .sl rows=>zR rows+10
def zR:List (List D)→Nat
 | []=>0
 | r::rows=>zL r+zR rows
def zL:List D→Nat
 | []=>0
 | d::ds=>zD d+zL ds
end
theorem uA:∀ a b:List D,zL (a++b)=zL a+zL b
 | [],b=>by simp [zL]
 | d::a,b=>by simp only [List.cons_append,zL,uA a b];omega
theorem uB:∀ rows:List (List D),zR rows=(rows.map zL).sum
 | []=>rfl
 | r::rows=>by simp only [zR,List.map_cons,List.sum_cons,uB rows]
theorem qS{α:Type}{f g:α→Nat} : ∀ (l:List α),(∀ x∈l,f x≤g x)→(l.map f).sum≤(l.map g).sum
 | [],_=>Nat.le_refl _
 | x::l,h=>by
   simp only [List.map_cons,List.sum_cons]
   have h1:=h x List.mem_cons_self
   have h2:=qS l fun y hy=>h y (List.mem_cons_of_mem _ hy)
   omega
theorem yq{α:Type}[Inhabited α]{row:α→List D}{ok:α→Per}{C:α→Prop}(zf:α→Nat){w:World}{S:aZ}{v:Value}{rows:List (List D)}(h:dJ w S v (.sl rows))
   (hf:∀ r∈rows,∀ us:List Value,ki w S us r→∃ y:α,row y=us.map D.v∧(ok y).holds w S∧C y∧zf y≤zL r):∃ s:Sl α,v=s.val∧(ShF row s).holds w S∧(bu ok s.l).holds w S∧(∀ y∈s.l,C y)∧(s.l.map zf).sum≤zR rows:=by
 cases h with
 | e a c hc=>exact ⟨⟨a,c,[]⟩,rfl,.e a c hc,fun y hy=>(by cases hy),fun y hy=>(by cases hy),Nat.zero_le _⟩
 | sl b o c sz _ us hb hn hc hrl hcell hd =>
   have each:∀ i:Nat,∃ y:α,i<rows.length→row y=((List.range sz).map fun j=>us i j).map D.v∧(ok y).holds w S∧C y∧zf y≤zL (rows.getD i []):=fun i=>by
     by_cases hi:i<rows.length
     · obtain ⟨r,hr⟩:∃ r,rows[i]? = some r:=⟨_,List.getElem?_eq_getElem hi⟩
       obtain ⟨y,h1,h2,h4,h3⟩:=hf r (List.mem_of_getElem? hr) ((List.range sz).map fun j=>us i j) ⟨by simp [hrl i r hr],fun j d hj=>by
         have hjl:=(List.getElem?_eq_some_iff.1 hj).1
         rw [hrl i r hr] at hjl
         exact ⟨us i j,by rw [List.getElem?_map,List.getElem?_range hjl];rfl,hd i j r d hr hj⟩⟩
       exact ⟨y,fun _=>⟨h1,h2,h4,by rw [List.getD_eq_getElem?_getD,hr];exact h3⟩⟩
     · exact ⟨default,fun h=>absurd h hi⟩
   obtain ⟨Y,hY⟩:=Classical.skolem.1 each
   have hget:∀ (i:Nat) (r:List D),(((List.range rows.length).map Y).map row)[i]? = some r→i<rows.length∧r=((List.range sz).map fun j=>us i j).map D.v:=fun i r hi=>by
     rw [List.getElem?_map,List.getElem?_map] at hi
     by_cases hil:i<rows.length
     · rw [List.getElem?_range hil] at hi
       simp only [Option.map_some,Option.some.injEq] at hi
       exact ⟨hil,by rw [← hi];exact (hY i hil).1⟩
     · rw [List.getElem?_eq_none (by simpa using hil)] at hi;cases hi
   have hcl:∀ (i j:Nat) (r:List D) (d:D),(((List.range rows.length).map Y).map row)[i]? = some r→r[j]? = some d→∃ r0 d0,rows[i]? = some r0∧r0[j]? = some d0∧d=.v (us i j):=fun i j r d hi hj=>by
     obtain ⟨hil,rfl⟩:=hget i r hi
     obtain ⟨r0,hr0⟩:∃ r,rows[i]? = some r:=⟨_,List.getElem?_eq_getElem hil⟩
     have hjl:=(List.getElem?_eq_some_iff.1 hj).1
     rw [List.length_map,List.length_map,List.length_range] at hjl
     rw [List.getElem?_map,List.getElem?_map,List.getElem?_range hjl] at hj
     simp only [Option.map_some,Option.some.injEq] at hj
     exact ⟨r0,_,hr0,List.getElem?_eq_getElem (by rw [hrl i r0 hr0];exact hjl),hj.symm⟩
   refine ⟨⟨some ⟨b,o,none⟩,c,(List.range rows.length).map Y⟩,by simp [Sl.val],?_,fun y hy => ?_,fun y hy => ?_,?_⟩
   · have h:=dJ.sl (w:=w) (S:=S) b o c sz (((List.range rows.length).map Y).map row) us hb (by simpa using hn) hc (fun i r hi=>by obtain ⟨_,rfl⟩:=hget i r hi;simp)
       (fun i j r d hi hj=>by obtain ⟨r0,d0,h1,h2,_⟩:=hcl i j r d hi hj;exact hcell i j r0 d0 h1 h2) (fun i j r d hi hj=>by obtain ⟨_,_,_,_,rfl⟩:=hcl i j r d hi hj;exact .v _)
     rw [List.length_map,List.length_map,List.length_range] at h
     show dJ w S (.slice (some ⟨b,o,none⟩) ((List.range rows.length).map Y).length c) (.sl (((List.range rows.length).map Y).map row))
     rw [List.length_map,List.length_range];exact h
   · obtain ⟨i,hi,rfl⟩:=List.mem_map.1 hy
     exact (hY i (List.mem_range.1 hi)).2.1
   · obtain ⟨i,hi,rfl⟩:=List.mem_map.1 hy
     exact (hY i (List.mem_range.1 hi)).2.2.1
   · rw [uB,List.map_map]
     have e:rows.map zL=(List.range rows.length).map fun i=>zL (rows.getD i []):=by
       apply List.ext_getElem?
       intro i
       rw [List.getElem?_map,List.getElem?_map]
       by_cases hi:i<rows.length
       · rw [List.getElem?_range hi,List.getElem?_eq_getElem hi]
         simp [List.getD_eq_getElem?_getD,hi]
       · rw [List.getElem?_eq_none (by omega),List.getElem?_eq_none (by simpa using hi)];rfl
     rw [e]
     exact qS _ fun i hi=>(hY i (List.mem_range.1 hi)).2.2.2
theorem ki.app{w:World}{S:aZ}{us:List Value}{a b:List D}(h:ki w S us (a++b)):∃ u1 u2,us=u1++u2∧ki w S u1 a∧ki w S u2 b:=by
 induction a generalizing us with
 | nil=>exact ⟨[],us,rfl,⟨rfl,fun j d hj=>by cases hj⟩,h⟩
 | cons d a ih =>
   obtain ⟨u,us',rfl,hu,hr⟩:=h.cons
   obtain ⟨u1,u2,rfl,h1,h2⟩:=ih hr
   exact ⟨u::u1,u2,rfl,⟨by have:=h1.1;simp [this],fun j e hj=>by
     cases j with
     | zero=>simp at hj;subst hj;exact ⟨u,rfl,hu⟩
     | succ j=>exact h1.2 j e (by simpa using hj)⟩,h2⟩
end Go.Sy

namespace Go.Sy
open Go.RowKit Go.Lp Go.Lv
section
variable {P:Program} {k:Nat} {t e:TypeId}
abbrev RdW:Type:=World→aZ→(List Value→Nat→Prop)→Prop
def Rd(P:Program)(k:Nat)(t:TypeId)(W:RdW):Prop:=∀ (w:World) (S:aZ) (ds:List D) (us:List Value) (R:List Value→Nat→Prop),okD P k t ds→ki w S us ds→W w S R→R us (zL ds)
def RdF(P:Program)(k:Nat)(fs:List Field)(W:RdW):Prop:=∀ (w:World) (S:aZ) (ds:List D) (us:List Value) (R:List Value→Nat→Prop),okF (okD P k) fs ds→ki w S us ds→W w S R→R us (zL ds)
theorem rdn:RdF P k [] fun _ _ R=>R [] 0:=fun _ _ ds us R h hr hR=>by
 obtain rfl:ds=[]:=h
 rw [hr.nil];exact hR
theorem rdc{f:Field}{fs:List Field}{W1 W2:RdW}(h1:Rd P k f.type W1)(h2:RdF P k fs W2):RdF P k (f::fs) fun w S R=>W1 w S fun u1 n1=>W2 w S fun u2 n2=>R (u1++u2) (n1+n2):=fun w S ds us R h hr hR=>by
 obtain ⟨d1,d2,rfl,o1,o2⟩:=h
 obtain ⟨u1,u2,rfl,r1,r2⟩:=hr.app
 rw [uA]
 exact h2 w S d2 u2 _ o2 r2 (h1 w S d1 u1 _ o1 r1 hR)
theorem rds{fs:Array Field}{W W':RdW}(hu:P.underlying t=some (.struct fs))(h:RdF P k fs.toList W)(hW:∀ w S R,W' w S R→W w S R):Rd P (k+1) t W':=fun w S ds us R ho hr hR=>h w S ds us R (ua hu ho) hr (hW w S R hR)
theorem Rd.mono{W W':RdW}(h:Rd P k t W)(hW:∀ w S R,W' w S R→W w S R):Rd P k t W':=fun w S ds us R h1 h2 hR=>h w S ds us R h1 h2 (hW w S R hR)
end
end Go.Sy

namespace Go.Proofs.YtgkbbdgklpabpaaGreatDoor
open Go.RowKit Go.Lp Go.Sy Go.Deep
theorem abM{α:Type}{f:α→Nat} : ∀ l:List α,(l.map fun x=>10*f x).sum=10*(l.map f).sum
 | []=>rfl
 | x::l=>by simp only [List.map_cons,List.sum_cons,abM l];omega
section
variable {P:Program} {H:Type} {enc:TypeId × Value→H} {w:World} {base:Nat} {spare:Nat→Bool} {held:Bool}
theorem lq{d:DataW H} : ∀ {l:List (DataW H)},d∈l→Rows.uptoBulk d≤Rows.uptoBulkAll l
 | x::r,h=>by
   simp only [Rows.uptoBulkAll]
   rcases List.mem_cons.1 h with rfl | h
   · omega
   · have:=lq h;omega
theorem lx:∀ l:List (DataW H),Rows.uptoBulkAll l=(l.map Rows.uptoBulk).sum
 | []=>rfl
 | x::l=>by simp only [Rows.uptoBulkAll,List.map_cons,List.sum_cons,lx l]
theorem lH{k fuel:Nat}{cs:List Value}{tot:Nat}(hcs:cs.length=tot)
   (ih:∀ (t:TypeId) (cs:List Value) (x:DataW H × List MemPlace),rdT P k t=true→DataW.trod enc P w base spare held fuel t cs=some x→∃ ds,ds.length=cs.length∧okD P k t ds∧Rds w cs 0 ds∧zL ds≤10*Rows.uptoBulk x.1) :
   ∀ (fs:List Field) (off:Nat) (xs:List (DataW H × List MemPlace)),gk P off fs tot=true→fs.all (fun f=>rdT P k f.type)=true→xs.length=fs.length →
     (∀ (i:Nat) (f:Field),fs[i]? = some f→DataW.trod enc P w base spare held fuel f.type ((cs.drop f.offset).take (P.cellsOf f.type))=xs[i]?)→∃ ds,off+ds.length=tot∧okF (okD P k) fs ds∧Rds w cs off ds∧zL ds≤10*Rows.uptoBulkAll (xs.map (·.1))
 | [],off,xs,hc,_,_,_=>⟨[],by simpa [gk] using hc,rfl,fun j d hj=>(by cases hj),Nat.zero_le _⟩
 | f :: fs,off,xs,hc,hr,hl,ht=>by
   cases xs with
   | nil=>simp at hl
   | cons y xs =>
     simp only [gk,Bool.and_eq_true,beq_iff_eq,decide_eq_true_eq] at hc
     obtain ⟨⟨hc1,hc2⟩,hc3⟩:=hc
     simp only [List.all_cons,Bool.and_eq_true] at hr
     have hy:=ht 0 f rfl
     obtain ⟨d1,l1,o1,r1,z1⟩:=ih _ _ y hr.1 (by rw [hy];rfl)
     obtain ⟨d2,l2,o2,r2,z2⟩:=lH hcs ih fs _ xs hc3 hr.2 (by simpa using hl) (fun i g hg=>by rw [ht (i+1) g (by simpa using hg)];rfl)
     rw [List.length_take,List.length_drop,hc1,hcs] at l1
     have l1:d1.length=P.cellsOf f.type:=by omega
     refine ⟨d1++d2,by rw [List.length_append];omega,⟨d1,d2,rfl,o1,o2⟩,fun j d hj => ?_,by rw [uA];simp only [List.map_cons,Rows.uptoBulkAll];omega⟩
     by_cases hjl:j<d1.length
     · rw [List.getElem?_append_left hjl] at hj
       obtain ⟨u,hu,h1,h2⟩:=r1 j d hj
       rw [Nat.zero_add,List.getElem?_take,if_pos (by omega),List.getElem?_drop,hc1] at hu
       exact ⟨u,hu,h1,h2⟩
     · rw [List.getElem?_append_right (by omega)] at hj
       obtain ⟨u,hu,h1,h2⟩:=r2 _ d hj
       rw [show off+P.cellsOf f.type+(j-d1.length)=off+j by omega] at hu
       exact ⟨u,hu,h1,h2⟩
theorem k5 : ∀ (k fuel:Nat) (t:TypeId) (cs:List Value) (x:DataW H × List MemPlace),rdT P k t=true→DataW.trod enc P w base spare held fuel t cs=some x→∃ ds,ds.length=cs.length∧okD P k t ds∧Rds w cs 0 ds∧zL ds≤10*Rows.uptoBulk x.1
 | 0,_,_,_,_,h,_=>by cases h
 | k + 1,fuel,t,cs,x,hr,h=>by
   unfold rdT at hr
   unfold okD
   split at hr
   · rename_i hu
     obtain ⟨b,rfl,rfl⟩:=DataW.trod_bool hu h
     exact ⟨[.v (.bool b)],rfl,⟨b,rfl⟩,iT rfl (.v _),by simp [zL,zD,Rows.uptoBulk]⟩
   · rename_i i hu
     obtain ⟨n,rfl,rfl,hw⟩:=DataW.trod_int hu h
     exact ⟨[.v (.int i n)],rfl,⟨n,rfl,hw⟩,iT rfl (.v _),by simp [zL,zD,Rows.uptoBulk]⟩
   · rename_i hu
     obtain ⟨s,rfl,rfl,hs⟩:=DataW.trod_string hu h
     exact ⟨[.v (.string s)],rfl,⟨s,rfl,hs⟩,iT rfl (.v _),by simp [zL,zD,Rows.uptoBulk]⟩
   · rename_i e hu
     rw [Bool.and_eq_true,decide_eq_true_eq] at hr
     obtain ⟨hp,hr⟩:=hr
     rcases DataW.trod_slice hu h with ⟨rfl,rfl⟩ | ⟨a,len,cap,elems,rest,n,_,rfl,rfl,_,hl,hm,hel,hx,_,_⟩
     · exact ⟨[.sl []],rfl,⟨[],rfl,by simp,fun r hr=>by cases hr⟩,iT rfl (.e none 0 (by simp)),by simp only [zL,zD,zR,Rows.uptoBulk];omega⟩
     · by_cases hl0:len=0
       · subst hl0
         exact ⟨[.sl []],rfl,⟨[],rfl,by simp,fun r hr=>by cases hr⟩,iT rfl (.e (some a) cap hm),by simp only [zL,zD,zR,Rows.uptoBulk];omega⟩
       · have each:∀ i,∃ r:List D,i<len→(r.length=P.cellsOf e∧okD P k e r∧∀ (j:Nat) (d:D),r[j]? = some d→∃ u,w.cell? ((a.add (i*P.cellsOf e)).add j)=some u∧u.oneCell'=true∧dJ w (fun b=>b<w.heap.size) u d)∧∃ y,elems[i]? = some y∧zL r≤10*Rows.uptoBulk y.1:=fun i=>by
           by_cases hi:i<len
           · obtain ⟨y,hy⟩:∃ y,elems[i]? = some y:=⟨_,List.getElem?_eq_getElem (by omega)⟩
             have h1:=hx i hi
             rw [hy] at h1
             cases hcs:w.cells? base (a.add (i*P.cellsOf e)) (P.cellsOf e) with
             | none=>rw [hcs] at h1;cases h1
             | some cs' =>
               rw [hcs] at h1
               have h2:DataW.trod enc P w base spare held n e cs'=some y:=h1
               obtain ⟨ds,l1,o1,r1,z1⟩:=k5 k _ _ _ _ hr h2
               obtain ⟨_,hcl,hc⟩:=World.cells?_some hcs
               refine ⟨ds,fun _=>⟨⟨by omega,o1,fun j d hj => ?_⟩,y,hy,z1⟩⟩
               obtain ⟨u,hu,q1,q2⟩:=r1 j d hj
               have:=(List.getElem?_eq_some_iff.1 hj).1
               rw [hc j (by omega)]
               exact ⟨u,by rw [← hu,Nat.zero_add],q1,q2⟩
           · exact ⟨[],fun h=>absurd h hi⟩
         obtain ⟨R,hR⟩:=Classical.skolem.1 each
         have ha:a=⟨a.block,a.off,none⟩∧a.block<w.heap.size:=by
           obtain ⟨⟨e1,_,e3⟩,_⟩:=hR 0 (by omega)
           obtain ⟨d,hd⟩:∃ d,(R 0)[0]? = some d:=⟨(R 0)[0]'(by omega),by simp⟩
           obtain ⟨u,hu,_⟩:=e3 0 d hd
           have:(a.add (0*P.cellsOf e)).add 0=a:=by simp [Addr.add]
           rw [this] at hu
           exact pR hu
         obtain ⟨ha,hb⟩:=ha
         have hadd:∀ i j,(a.add (i*P.cellsOf e)).add j=⟨a.block,a.off+i*P.cellsOf e+j,none⟩:=fun i j=>by
           rw [ha];unfold Addr.add
           by_cases h1:i*P.cellsOf e=0<;>by_cases h2:j=0<;>simp [h1,h2]
         have hrow:∀ (i:Nat) (r:List D),((List.range len).map R)[i]? = some r→i<len∧r=R i:=fun i r hi=>by
           have:=(List.getElem?_eq_some_iff.1 hi).1
           simp at this
           rw [List.getElem?_map,List.getElem?_range this] at hi
           exact ⟨this,by simpa using hi.symm⟩
         refine ⟨[.sl ((List.range len).map R)],rfl,⟨_,rfl,by simp;omega,fun r hr => ?_⟩,iT rfl ?_,?_⟩
         · obtain ⟨i,hi,rfl⟩:=List.mem_map.1 hr
           exact (hR i (List.mem_range.1 hi)).1.2.1
         · have:=dJ.sl (w:=w) (S:=fun b=>b<w.heap.size) a.block a.off cap (P.cellsOf e) ((List.range len).map R) (fun i j=>(w.cell? ⟨a.block,a.off+i*P.cellsOf e+j,none⟩).getD (.bool false)) hb (by simpa using hl) hm
             (fun i r hi=>by obtain ⟨h1,rfl⟩:=hrow i r hi;exact (hR i h1).1.1)
             (fun i j r d hi hj=>by
               obtain ⟨h1,rfl⟩:=hrow i r hi
               obtain ⟨u,hu,q1,q2⟩:=(hR i h1).1.2.2 j d hj
               rw [hadd] at hu
               rw [hu];exact ⟨rfl,q1⟩)
             (fun i j r d hi hj=>by
               obtain ⟨h1,rfl⟩:=hrow i r hi
               obtain ⟨u,hu,q1,q2⟩:=(hR i h1).1.2.2 j d hj
               rw [hadd] at hu
               rw [hu];exact q2)
           rw [← ha] at this
           simpa using this
         · simp only [zL,zD,Rows.uptoBulk]
           rw [uB,lx,List.map_map,List.map_map]
           have e1:elems.map (fun x=>10*(Rows.uptoBulk ∘ fun x=>x.1) x)=(List.range len).map fun i=>(elems[i]?.map fun y=>10*Rows.uptoBulk y.1).getD 0:=by
             apply List.ext_getElem?
             intro i
             rw [List.getElem?_map,List.getElem?_map]
             by_cases hi:i<len
             · obtain ⟨y,hy⟩:∃ y,elems[i]? = some y:=⟨_,List.getElem?_eq_getElem (by omega)⟩
               rw [List.getElem?_range hi,hy];simp [hy]
             · rw [List.getElem?_eq_none (by omega),List.getElem?_eq_none (by simpa using hi)];rfl
           have e0:=abM (f:=Rows.uptoBulk ∘ fun x:DataW H × List MemPlace=>x.1) elems
           rw [e1] at e0
           have:=qS (f:=zL ∘ R) (g:=fun i=>(elems[i]?.map fun y=>10*Rows.uptoBulk y.1).getD 0) (List.range len) fun i hi=>by
             obtain ⟨_,y,hy,hz⟩:=hR i (List.mem_range.1 hi)
             rw [hy];exact hz
           omega
   · rename_i fs hu
     rw [Bool.and_eq_true] at hr
     obtain ⟨xs,n,_,rfl,hcl,hxl,hf⟩:=DataW.trod_struct hu h
     obtain ⟨ds,l1,o1,r1,z1⟩:=lH (tot:=P.cellsOf t) hcl (fun t cs x h1 h2=>k5 k n t cs x h1 h2) fs.toList 0 xs hr.1 hr.2 (by simpa using hxl) (fun i f hff=>hf i f (by simpa using hff))
     exact ⟨ds,by omega,o1,r1,by simp only [Rows.uptoBulk];omega⟩
   · cases hr
end
end Go.Proofs.YtgkbbdgklpabpaaGreatDoor

namespace Go.Sy
open Go.RowKit Go.Lp Go.Lv
section
variable {P:Program} {k:Nat} {t e:TypeId}
theorem rwi(hu:P.underlying t=some (.int .i64)):Rd P (k+1) t fun _ _ R=>∀ z n,1≤n→R [.int .i64 z] n:=fun w S ds us R h hr hR=>by
 obtain ⟨z,rfl,hw⟩:=aag hu h
 obtain ⟨u,_,rfl,r,hr⟩:=hr.cons
 obtain rfl:=hr.nil;obtain rfl:=kZ r
 exact hR z _ (by simp only [zL,zD];omega)
theorem rwb(hu:P.underlying t=some .bool):Rd P (k+1) t fun _ _ R=>∀ b n,1≤n→R [.bool b] n:=fun w S ds us R h hr hR=>by
 obtain ⟨z,rfl⟩:=yM hu h
 obtain ⟨u,_,rfl,r,hr⟩:=hr.cons
 obtain rfl:=hr.nil;obtain rfl:=kZ r
 exact hR z _ (by simp only [zL,zD];omega)
theorem rwt(hu:P.underlying t=some .string):Rd P (k+1) t fun w S R=>∀ s n,(cU s).holds w S→1≤n→R [.string s] n:=fun w S ds us R h hr hR=>by
 obtain ⟨z,rfl,hz⟩:=tZ hu h
 obtain ⟨u,_,rfl,r,hr⟩:=hr.cons
 obtain rfl:=hr.nil;obtain rfl:=kZ r
 exact hR z _ hz (by simp only [zL,zD];omega)
theorem abj{α:Type} : ∀ l:List α,(l.map fun _=>1).sum=l.length
 | []=>rfl
 | x::l=>by rw [List.map_cons,List.sum_cons,abj l,List.length_cons];omega
theorem rwl{α:Type}[Inhabited α]{wt:α→Nat}{vs:α→List Value}{row:α→List D}{ok:α→Per}(hu:P.underlying t=some (.slice e))(hrow:∀ y,row y=(vs y).map D.v)
   (hf:Rd P k e fun w S R=>∀ y n,(ok y).holds w S→wt y≤n→R (vs y) n) :
   Rd P (k+1) t fun w S R=>∀ (s:Sl α) n,(ShF row s).holds w S→(bu ok s.l).holds w S→(s.l.map wt).sum≤n→1≤n→R [.slice s.ad s.l.length s.cap] n:=fun w S ds us R h hr hR=>by
 obtain ⟨rows,rfl,_,hrows⟩:=wF hu h
 obtain ⟨u,_,rfl,r,hr⟩:=hr.cons
 obtain rfl:=hr.nil
 obtain ⟨s,rfl,h1,h2,_,h4⟩:=yq (row:=row) (ok:=ok) (C:=fun _=>True) wt r fun r hr us hu =>
   hf w S r us (fun us n=>∃ y,row y=us.map D.v∧(ok y).holds w S∧True∧wt y≤n) (hrows r hr) hu fun y n a c=>⟨y,hrow y,a,trivial,c⟩
 exact hR s _ h1 h2 (by simp only [zL,zD];omega) (by simp only [zL,zD];omega)
theorem ab3(hu:P.underlying t=some (.slice e))(he:P.underlying e=some .string):Rd P (k+2) t fun w S R=>∀ (s:Sl ByteArray) n,(ShF (fun s=>[.v (.string s)]) s).holds w S→(bu (fun y=>cU y) s.l).holds w S→1≤n→R [.slice s.ad s.l.length s.cap] n :=
 (rwl (wt:=fun _=>1) (vs:=fun z=>[.string z]) (row:=fun z=>[.v (.string z)]) (ok:=fun y=>cU y) hu (fun _=>rfl) ((rwt he).mono fun w S R h z n a b=>h z n a b)).mono fun w S R h s n a b _ c=>h s n a b c
end
end Go.Sy

namespace Go.Proofs.YtgkbbdgklpabpaaGreatDoor
open Go.RowKit Go.Lp Go.Sy Go.Lv
theorem fB{k:Nat} : Rd Tryz.prog (k+2) 28 fun w S R=>∀ (y:bS) n,(Fa True).holds w S→(fun _=>1) y≤n→R y.vs n :=
 rds Tryz.underlying28 (rdc (rwi Tryz.underlying3) (rdc (rwi Tryz.underlying3) (rdc (rwi Tryz.underlying3) (rdc (rwi Tryz.underlying3) (rdn))))) fun w S R h x0 n0 e0 x1 n1 e1 x2 n2 e2 x3 n3 e3=>h ⟨x0,x1,x2,x3⟩ _ trivial (by show 1≤_;omega)
theorem abg{k:Nat} : Rd Tryz.prog (k+3) 54 fun w S R=>∀ (y:dR) n,(Fa True).holds w S→(fun _=>1) y≤n→R y.vs n :=
 rds Tryz.underlying54 (rdc (rwi Tryz.underlying3) (rdc (rwi Tryz.underlying3) (rdc (fB) (rdc (rwi Tryz.underlying3) (rdn))))) fun w S R h x0 n0 e0 x1 n1 e1 x2 n2 o2 e2 x3 n3 e3=>h ⟨x0,x1,x2,x3⟩ _ trivial (by show 1≤_;omega)
theorem aan{k:Nat} : Rd Tryz.prog (k+2) 182 fun w S R=>∀ (y:fC) n,(y.ok).holds w S→(fun _=>1) y≤n→R y.vs n :=
 rds Tryz.underlying182 (rdc (rwt Tryz.underlying9) (rdc (rwi Tryz.underlying3) (rdc (rwi Tryz.underlying3) (rdc (rwi Tryz.underlying3) (rdn))))) fun w S R h x0 n0 o0 e0 x1 n1 e1 x2 n2 e2 x3 n3 e3=>h ⟨x0,x1,x2,x3⟩ _ o0 (by show 1≤_;omega)
theorem aam{k:Nat} : Rd Tryz.prog (k+2) 236 fun w S R=>∀ (y:cN) n,(y.ok).holds w S→(fun _=>1) y≤n→R y.vs n :=
 rds Tryz.underlying236 (rdc (rwi Tryz.underlying3) (rdc (rwi Tryz.underlying3) (rdc (rwt Tryz.underlying9) (rdc (rwi Tryz.underlying3) (rdn))))) fun w S R h x0 n0 e0 x1 n1 e1 x2 n2 o2 e2 x3 n3 e3=>h ⟨x0,x1,x2,x3⟩ _ o2 (by show 1≤_;omega)
theorem wU{k:Nat} : Rd Tryz.prog (k+2) 243 fun w S R=>∀ (y:br) n,(y.ok).holds w S→(fun _=>1) y≤n→R y.vs n :=
 rds Tryz.underlying243 (rdc (rwi Tryz.underlying3) (rdc (rwi Tryz.underlying3) (rdc (rwi Tryz.underlying3) (rdc (rwt Tryz.underlying9) (rdc (rwt Tryz.underlying9) (rdc (rwi Tryz.underlying3) (rdn))))))) fun w S R h x0 n0 e0 x1 n1 e1 x2 n2 e2 x3 n3 o3 e3 x4 n4 o4 e4 x5 n5 e5=>h ⟨x0,x1,x2,x3,x4,x5⟩ _ ⟨o3,o4⟩ (by show 1≤_;omega)
theorem uj{k:Nat} : Rd Tryz.prog (k+3) 134 fun w S R=>∀ (y:bR) n,(y.ok).holds w S→(fun _=>1) y≤n→R y.vs n :=
 rds Tryz.underlying134 (rdc (rwi Tryz.underlying3) (rdc (rwi Tryz.underlying3) (rdc (rwt Tryz.underlying9) (rdc (rwi Tryz.underlying3) (rdc (rwi Tryz.underlying3) (rdc (fB) (rdn))))))) fun w S R h x0 n0 e0 x1 n1 e1 x2 n2 o2 e2 x3 n3 e3 x4 n4 e4 x5 n5 o5 e5=>h ⟨x0,x1,x2,x3,x4,x5⟩ _ o2 (by show 1≤_;omega)
theorem zi{k:Nat} : Rd Tryz.prog (k+2) 253 fun w S R=>∀ (y:cJ) n,(Fa True).holds w S→(fun _=>1) y≤n→R y.vs n :=
 rds Tryz.underlying253 (rdc (rwi Tryz.underlying3) (rdc (rwi Tryz.underlying3) (rdc (rwi Tryz.underlying3) (rdc (rwi Tryz.underlying3) (rdn))))) fun w S R h x0 n0 e0 x1 n1 e1 x2 n2 e2 x3 n3 e3=>h ⟨x0,x1,x2,x3⟩ _ trivial (by show 1≤_;omega)
def fL:aQ→Nat:=fun y:aQ=>1+y.refs.l.length+y.vars.l.length+y.inlines.l.length
theorem aao{k:Nat} : Rd Tryz.prog (k+5) 52 fun w S R=>∀ (y:aQ) n,(y.ok).holds w S→fL y≤n→R y.vs n :=
 rds Tryz.underlying52 (rdc (rwt Tryz.underlying9) (rdc (rwt Tryz.underlying9) (rdc (rwi Tryz.underlying3) (rdc (rwi Tryz.underlying3) (rdc (rwi Tryz.underlying3) (rdc (rwt Tryz.underlying9) (rdc (rwl (wt:=(fun _=>1)) Tryz.underlying45 (fun _=>rfl) abg) (rdc (rwl (wt:=(fun _=>1)) Tryz.underlying46 (fun _=>rfl) aan) (rdc (rwl (wt:=(fun _=>1)) Tryz.underlying47 (fun _=>rfl) aam) (rdc (rwl (wt:=(fun _=>1)) Tryz.underlying48 (fun _=>rfl) wU) (rdc (rwl (wt:=(fun _=>1)) Tryz.underlying49 (fun _=>rfl) uj) (rdc (rwl (wt:=(fun _=>1)) Tryz.underlying50 (fun _=>rfl) zi) (rdn))))))))))))) fun w S R h x0 n0 o0 e0 x1 n1 o1 e1 x2 n2 e2 x3 n3 e3 x4 n4 e4 x5 n5 o5 e5 x6 n6 o6 a6 s6 e6 x7 n7 o7 a7 s7 e7 x8 n8 o8 a8 s8 e8 x9 n9 o9 a9 s9 e9 x10 n10 o10 a10 s10 e10 x11 n11 o11 a11 s11 e11=>h ⟨x0,x1,x2,x3,x4,x5,x6,x7,x8,x9,x10,x11⟩ _ ⟨o0,o1,o5,o6,o7,a7,o8,a8,o9,a9,o10,a10,o11⟩ (by rw [abj] at s6 s7 s8 s9 s10 s11;unfold fL;dsimp only;omega)
theorem wT{k:Nat} : Rd Tryz.prog (k+2) 137 fun w S R=>∀ (y:di) n,(y.ok).holds w S→(fun _=>1) y≤n→R y.vs n :=
 rds Tryz.underlying137 (rdc (rwt Tryz.underlying9) (rdc (rwt Tryz.underlying9) (rdc (rwi Tryz.underlying3) (rdc (rwb Tryz.underlying4) (rdc (rwb Tryz.underlying4) (rdn)))))) fun w S R h x0 n0 o0 e0 x1 n1 o1 e1 x2 n2 e2 x3 n3 e3 x4 n4 e4=>h ⟨x0,x1,x2,x3,x4⟩ _ ⟨o0,o1⟩ (by show 1≤_;omega)
theorem zj{k:Nat} : Rd Tryz.prog (k+2) 139 fun w S R=>∀ (y:dV) n,(y.ok).holds w S→(fun _=>1) y≤n→R y.vs n :=
 rds Tryz.underlying139 (rdc (rwt Tryz.underlying9) (rdc (rwt Tryz.underlying9) (rdc (rwb Tryz.underlying4) (rdc (rwi Tryz.underlying3) (rdc (rwi Tryz.underlying3) (rdc (rwi Tryz.underlying3) (rdc (rwi Tryz.underlying3) (rdn)))))))) fun w S R h x0 n0 o0 e0 x1 n1 o1 e1 x2 n2 e2 x3 n3 e3 x4 n4 e4 x5 n5 e5 x6 n6 e6=>h ⟨x0,x1,x2,x3,x4,x5,x6⟩ _ ⟨o0,o1⟩ (by show 1≤_;omega)
theorem oT{k:Nat} : Rd Tryz.prog (k+3) 165 fun w S R=>∀ (y:aR) n,(y.ok).holds w S→(fun _=>1) y≤n→R y.vs n :=
 rds Tryz.underlying165 (rdc (rwt Tryz.underlying9) (rdc (ab3 Tryz.underlying26 Tryz.underlying9) (rdn))) fun w S R h x0 n0 o0 e0 x1 n1 o1 a1 e1=>h ⟨x0,x1⟩ _ ⟨o0,o1,a1⟩ (by show 1≤_;omega)
theorem zk{k:Nat} : Rd Tryz.prog (k+2) 260 fun w S R=>∀ (y:cO) n,(Fa True).holds w S→(fun _=>1) y≤n→R y.vs n :=
 rds Tryz.underlying260 (rdc (rwi Tryz.underlying3) (rdc (rwi Tryz.underlying3) (rdc (rwi Tryz.underlying3) (rdn)))) fun w S R h x0 n0 e0 x1 n1 e1 x2 n2 e2=>h ⟨x0,x1,x2⟩ _ trivial (by show 1≤_;omega)
theorem wS{k:Nat} : Rd Tryz.prog (k+4) 144 fun w S R=>∀ (y:dM) n,(y.ok).holds w S→(fun _=>1) y≤n→R y.vs n :=
 rds Tryz.underlying144 (rdc (rwi Tryz.underlying3) (rdc (rwt Tryz.underlying9) (rdc (rwl (wt:=(fun _=>1)) Tryz.underlying142 (fun _=>rfl) zk) (rdc (fB) (rdn))))) fun w S R h x0 n0 e0 x1 n1 o1 e1 x2 n2 o2 a2 s2 e2 x3 n3 o3 e3=>h ⟨x0,x1,x2,x3⟩ _ ⟨o1,o2⟩ (by show 1≤_;omega)
def qX:aI→Nat:=fun y:aI=>(y.nodes.l.map fL).sum+y.imports.l.length
theorem aap{k:Nat} : Rd Tryz.prog (k+7) 32 fun w S R=>∀ (y:aI) n,(y.ok).holds w S→qX y≤n→R y.vs n :=
 rds Tryz.underlying32 (rdc (rwt Tryz.underlying9) (rdc (rwb Tryz.underlying4) (rdc (rwl (wt:=fL) Tryz.underlying22 (fun _=>rfl) aao) (rdc (rwl (wt:=(fun _=>1)) Tryz.underlying23 (fun _=>rfl) wT) (rdc (rwl (wt:=(fun _=>1)) Tryz.underlying24 (fun _=>rfl) zj) (rdc (rwl (wt:=(fun _=>1)) Tryz.underlying25 (fun _=>rfl) fB) (rdc (rwl (wt:=(fun _=>1)) Tryz.underlying25 (fun _=>rfl) fB) (rdc (ab3 Tryz.underlying26 Tryz.underlying9) (rdc (fB) (rdc (rwl (wt:=(fun _=>1)) Tryz.underlying29 (fun _=>rfl) oT) (rdc (rwl (wt:=(fun _=>1)) Tryz.underlying30 (fun _=>rfl) wS) (rdn)))))))))))) fun w S R h x0 n0 o0 e0 x1 n1 e1 x2 n2 o2 a2 s2 e2 x3 n3 o3 a3 s3 e3 x4 n4 o4 a4 s4 e4 x5 n5 o5 a5 s5 e5 x6 n6 o6 a6 s6 e6 x7 n7 o7 a7 e7 x8 n8 o8 e8 x9 n9 o9 a9 s9 e9 x10 n10 o10 a10 s10 e10=>h ⟨x0,x1,x2,x3,x4,x5,x6,x7,x8,x9,x10⟩ _ ⟨o0,o2,a2,o3,a3,o4,a4,o5,o6,o7,a7,o9,a9,o10,a10⟩ (by rw [abj] at s3 s4 s5 s6 s9 s10;unfold qX;dsimp only;omega)
end Go.Proofs.YtgkbbdgklpabpaaGreatDoor

namespace Go.Proofs.YtgkbbdgklpabpaaGreatDoor
open Go.RowKit Go.Lp Go.Sy
def rT(v:Int):Bool:=decide (v.tmod 8=0) && decide (v ≥ -512) && decide (v<512)
structure mf (ln:List Int) (c:bC):Prop where
 kind:c.r.to_.kind=0∨c.r.to_.kind=1
 idx:c.r.to_.kind=0→0≤c.r.to_.n∧c.r.to_.n<ln.length
 at_ : -1099511627776≤c.at_∧c.at_≤1099511627776
 off : -1099511627776≤c.r.to_.off∧c.r.to_.off≤1099511627776
 add : -1099511627776≤c.r.add∧c.r.add≤1099511627776
 ln:∀ z∈ln,-1099511627776≤z∧z≤1099511627776
def fi(ln:List Int)(c:bC):Int:=elt ln c.r.to_.n+c.r.to_.off+c.r.add
theorem mf.elt{ln:List Int}{c:bC}(h:mf ln c)(hk:c.r.to_.kind=0) : -1099511627776≤elt ln c.r.to_.n∧elt ln c.r.to_.n≤1099511627776 :=
 h.ln _ (List.mem_of_getElem? (dS (h.idx hk).2 (h.idx hk).1))
def qH(ln:List Int)(c:bC):Bool:=decide (c.r.to_.kind=0) && !decide ((fi ln c-c.at_).tmod 8=0)
def dO(ln:List Int)(c:bC):Bool:=decide (c.r.to_.kind=1) || !rT (fi ln c-c.at_)
def ew(c:bC):bt:=if c.r.to_.kind=1 then ⟨0,1,c.r.to_.n,0⟩ else ⟨0,0,c.r.to_.n,c.r.to_.off+c.r.add⟩
def qR(c:bC)(s:bt):Bool:=decide (s.kind=(ew c).kind∧s.n=(ew c).n∧s.off=(ew c).off) && rT (s.at_-c.at_)
def cF(c:bC)(l:List bt):Int:=match l.findIdx? (qR c) with
 | some i=>i
 | none => -1
def fW(a:Int)(rs:List dR):List bC:=(rs.filter fun r=>decide (r.kind=6)).map fun r=>⟨a+r.at_,r⟩
def bZ(ns:List aQ)(ln:List Int):List bC:=(ns.zip ln).flatMap fun p=>fW p.2 p.1.refs.l
theorem sV(a:Int)(rs:List dR):(fW a rs).length≤rs.length:=by unfold fW;rw [List.length_map];exact List.length_filter_le _ _
theorem lz{a:Int}{rs:List dR}{j:Nat}{r:dR}(h:rs[j]? = some r):fW a (rs.take (j+1))=fW a (rs.take j)++(if r.kind=6 then [⟨a+r.at_,r⟩] else []):=by
 unfold fW
 rw [List.take_add_one,h,Option.toList_some,List.filter_append,List.map_append]
 by_cases hk:r.kind=6
 · rw [if_pos hk,List.filter_cons_of_pos (by simpa using hk)];rfl
 · rw [if_neg hk,List.filter_cons_of_neg (by simpa using hk)];simp
theorem ly{ns:List aQ}{ln:List Int}{k:Nat}{x:aQ}{a:Int}(h:ns[k]? = some x)(ha:ln[k]? = some a):bZ (ns.take (k+1)) (ln.take (k+1))=bZ (ns.take k) (ln.take k)++fW a x.refs.l:=by
 have hz:∀ m,(ns.take m).zip (ln.take m)=(ns.zip ln).take m:=fun m=>by rw [List.zip,List.take_zipWith]
 unfold bZ
 rw [hz,hz,List.take_add_one,show (ns.zip ln)[k]? = some (x,a) from List.getElem?_zip_eq_some.2 ⟨h,ha⟩,Option.toList_some,List.flatMap_append]
 simp
def dL(ns:List aQ):Nat:=(ns.map fun x=>x.refs.l.length).sum
theorem ug{ns:List aQ}{k:Nat}{x:aQ}(h:ns[k]? = some x):dL (ns.take (k+1))=dL (ns.take k)+x.refs.l.length:=by
 unfold dL;rw [List.take_add_one,h,Option.toList_some,List.map_append,List.sum_append];simp
theorem zc(ns:List aQ)(k:Nat):dL (ns.take k)≤dL ns:=by
 unfold dL
 conv=>rhs;rw [← List.take_append_drop k ns,List.map_append,List.sum_append]
 omega
open Go.Proofs.Tryz
attribute [local irreducible] aL aB awp aC fwp Quiet
theorem vG(v:Int):Con Tryz.prog 85 [.int .i64 6,.int .i64 v] [] [] fun r _ _=>r=.bool (rT v):=by
 refine EN2 Tryz.func85 rfl (go 2 [0,0,0,0] ?_)
 refine aa _ rfl (fun h1 => ?_) (fun h1 => ?_)
 ·skip
  exfalso;first | exact absurd h1 (by decide) | exact absurd h2 (by decide)
 ·skip
  refine go 2 [0,0] ?_
  refine aa _ rfl (fun h2 => ?_) (fun h2 => ?_)
  ·skip
   refine go 0 [0] ?_
   refine aU rfl (eY rfl rfl (by decide)) (go 2 [0,0,0,0,0,0,0,0,0,0] ?_)
   refine ae (aO (an (FZ1 [] Tryz.results85 rfl ?_)))
   rfl
  ·skip
   exfalso;first | exact absurd h1 (by decide) | exact absurd h2 (by decide)
theorem mY(c:bC)(x:Int)(h : -4611686018427387904≤x-c.at_∧x-c.at_≤4611686018427387904):Con Tryz.prog 41 [c.val,.int .i64 x] [] [] fun r _ _=>r=.bool (rT (x-c.at_)):=by
 refine EN2 Tryz.func41 rfl (aSR (LT rfl (aT rfl rfl rfl (fun b0_0=>(aHN ?_)))))
 refine go 0 [0,0,0,0,0] ?_
 refine aU rfl (Q0 rfl (vG _)) (go 2 [0] ?_)
 refine ae (FZ1 [] Tryz.results41 rfl ?_)
 rfl
theorem pn(c:bC)(l:aS)(h:mf l.nodes.l c)(hk:c.r.to_.kind=0):Con Tryz.prog 40 [c.val,l.val] [ShF bd l.nodes] [] fun r _ _=>r=.int .i64 (fi l.nodes.l c):=by
 have h1:=h.elt hk;have h2:=h.off;have h3:=h.add
 refine EN2 Tryz.func40 rfl (aSR (LT rfl (aT rfl rfl rfl (fun b0_0=>(aHN ?_)))))
 refine LT rfl (aT rfl rfl rfl (fun b0_1=>(aHN ?_)))
 refine go 3 [0] ?_
 refine DR [] 18 (go 0 [0,6,2,4,2,0] ?_)
 refine eH 6 rfl (by kernel_rfl) true rfl rfl (fun _=>ai Tryz.underlying33 tk3 rfl ((.of (ax 0 rfl))) rfl (bX (i:=c.r.to_.n) (h.idx hk).2 (h.idx hk).1) (by have:=h.idx hk;omega) rfl) (fun h=>absurd h (by decide)) (fun ⟨b1_6,o1_6⟩ => ?_)
 refine go 2 [4,2,4,4,0,0,2,12,0,0,0] ?_
 refine ae (FZ1 [] Tryz.results40 rfl ?_)
 rfl
theorem rJ(c:bC)(l:aS)(h:mf l.nodes.l c):Con Tryz.prog 18 [c.val,l.val] [ShF bd l.nodes] [] fun r _ _=>r=.bool (qH l.nodes.l c):=by
 have h1:=h.elt;have h2:=h.off;have h3:=h.add;have h4:=h.at_
 have hg:c.r.to_.kind=0 → -3298534883328≤fi l.nodes.l c∧fi l.nodes.l c≤3298534883328:=fun hk=>by have:=h1 hk;unfold fi;omega
 refine EN2 Tryz.func18 rfl (aSR (LT rfl (aT rfl rfl rfl (fun b0_0=>(aHN ?_)))))
 refine LT rfl (aT rfl rfl rfl (fun b0_1=>(aHN ?_)))
 refine go 3 [0] ?_
 refine DR [] 16 (go 0 [2,4,0,0,0,0,46080,39942] ?_)
 refine bW 8 rfl rfl rfl (fun hc=>Q1 (aj (ah rfl hc) (aj (ah rfl hc) rfl)) (pn c l h (by simpa using hc)) 0 rfl) ?_
 refine go 0 [0,0,0] ?_
 refine bW 12 rfl rfl rfl (fun hc=>eY (ah rfl hc) rfl (by decide)) (go 2 [0,0,0] ?_)
 refine ae (FZ1 [] Tryz.results18 rfl ?_)
 rfl
theorem jn(c:bC)(l:aS)(h:mf l.nodes.l c):Con Tryz.prog 19 [c.val,l.val] [ShF bd l.nodes] [] fun r _ _=>r=.bool (dO l.nodes.l c):=by
 have h1:=h.elt;have h2:=h.off;have h3:=h.add;have h4:=h.at_
 have hg:c.r.to_.kind=0 → -3298534883328≤fi l.nodes.l c∧fi l.nodes.l c≤3298534883328:=fun hk=>by have:=h1 hk;unfold fi;omega
 have h0:¬ c.r.to_.kind=1→c.r.to_.kind=0:=fun hn=>h.kind.resolve_right hn
 refine EN2 Tryz.func19 rfl (aSR (LT rfl (aT rfl rfl rfl (fun b0_0=>(aHN ?_)))))
 refine LT rfl (aT rfl rfl rfl (fun b0_1=>(aHN ?_)))
 refine go 3 [0] ?_
 refine DR [] 14 (go 0 [2,4,0,0,0,0,46080,46080,39942] ?_)
 refine bW 9 rfl rfl rfl (fun hc=>Q1 (aj (ah rfl hc) (aj (ah rfl hc) rfl)) (pn c l h (h0 (by simpa using hc))) 0 rfl) ?_
 refine bW 10 rfl rfl rfl (fun hc=>Q0 (aj (ah rfl hc) (aj (ah rfl hc) rfl)) (mY c _ (by have:=hg (h0 (by simpa using hc));omega))) ?_
 refine go 2 [0,0,0] ?_
 refine ae (FZ1 [] Tryz.results19 rfl ?_)
 rfl
theorem pw(c:bC){ln:List Int}(h:mf ln c):Con Tryz.prog 42 [c.val] [] [] fun r _ _=>r=(ew c).val:=by
 have h2:=h.off;have h3:=h.add
 refine EN1 Tryz.func42 rfl (aSR (LT rfl (aT rfl rfl rfl (fun b0_0=>(aHN ?_)))))
 refine LT rfl (aV (zs:=[.int .i64 0,.int .i64 0,.int .i64 0,.int .i64 0]) (by kernel_rfl) rfl (fun b0_1=>(aHN ?_)))
 refine go 2 [1,2,0,0,0] ?_
 refine aa _ rfl (fun h1 => ?_) (fun h1 => ?_)
 ·skip
  have hk:c.r.to_.kind=1:=by simpa using h1
  refine go 0 [1,2,1,0] ?_
  refine aU rfl (bO (l:=[(1,.const (.int .i64 1)),(2,.tmp 11)]) (zs:=[.int .i64 0,.int .i64 0,.int .i64 0,.int .i64 0]) (pl:=[(0,1),(1,1),(2,1),(3,1)]) (by kernel_rfl) (by kernel_rfl) (by kernel_rfl) rfl rfl rfl) (go 2 [10755] ?_)
  refine ae (an ?_)
  refine rR [] [] rfl Tryz.results42 (dq 1 tk44 rfl rfl rfl) ?_ (.inr rfl)
  unfold ew;rw [if_pos hk]
 ·skip
  have hk:¬ c.r.to_.kind=1:=by simpa using h1
  refine go 0 [1,2,1,0,1,2,2,0,1,6,0,0] ?_
  refine aU rfl (bO (l:=[(1,.const (.int .i64 0)),(2,.tmp 16),(3,.tmp 24)]) (zs:=[.int .i64 0,.int .i64 0,.int .i64 0,.int .i64 0]) (pl:=[(0,1),(1,1),(2,1),(3,1)]) (by kernel_rfl) (by kernel_rfl) (by kernel_rfl) rfl rfl rfl) (go 2 [10755] ?_)
  refine ae ?_
  refine rR [] [] rfl Tryz.results42 (dq 1 tk44 rfl rfl rfl) ?_ (.inr rfl)
  unfold ew;rw [if_neg hk]
theorem mU(u:aI)(l:aS)(hl:l.nodes.l.length=u.nodes.l.length)(hR:dL u.nodes.l≤100000000)
   (hA:∀ (k:Nat) (x:aQ) (a:Int),u.nodes.l[k]? = some x→l.nodes.l[k]? = some a→∀ r∈x.refs.l,-4611686018427387904≤a+r.at_∧a+r.at_≤4611686018427387904) :
   Con Tryz.prog 17 [u.val,l.val] [ShF aQ.row u.nodes,bu aQ.ok u.nodes.l,ShF bd l.nodes] [] fun r ps hp=>hp=[]∧∃ C:Sl bC,(r=C.val∧ps=[ShF bC.row C])∧C.l=bZ u.nodes.l l.nodes.l:=by
 refine EN2 Tryz.func17 rfl (aP (.of (ax 0 rfl)) (fun hlen=>(aSR (LT rfl (aT rfl rfl rfl (fun b0_0=>(aHN ?_)))))))
 refine LT rfl (aT rfl rfl rfl (fun b0_1=>(aHN ?_)))
 refine go 4 [0,0] ?_
 refine dw 67 8 ?_
 show awp _ _ _ _ ⟨_,_,[_,_,_]⟩
 refine go 3 [2,0,52,0] ?_
 refine aF [3,5,11,12,13] [2,1,0] [1,2] (fun (q:Nat × (Value × List bC)) st=>(q.1≤u.nodes.l.length∧q.2.2=bZ (u.nodes.l.take q.1) (l.nodes.l.take q.1)∧q.2.2.length≤dL (u.nodes.l.take q.1))∧st=⟨[(3,true,.pointer (some ⟨b0_1,0,none⟩)),(5,true,q.2.1),(11,true,u.nodes.val),(12,true,.int .i64 u.nodes.l.length),(13,true,.int .i64 q.1)],[ShF aQ.row u.nodes,bu aQ.ok u.nodes.l,ShF bd l.nodes],[Box b0_1 36 l.vs,aK q.2.1 67 8 (q.2.2.map bC.row)]⟩) (fun q=>u.nodes.l.length-q.1) rfl (⟨(0,(_,[])),⟨Nat.zero_le _,rfl,Nat.zero_le _⟩,rfl⟩) ?_
 rintro ⟨k,v,cs⟩ st ⟨⟨hk,hc,hn⟩,rfl⟩
 dsimp only at hk hc hn
 refine go 3 [0] ?_
 refine aa _ rfl (fun h1 => ?_) (fun h1 => ?_)
 ·skip
  have hk':k<u.nodes.l.length:=by simpa using h1
  obtain ⟨x,hx⟩:∃ x,u.nodes.l[k]? = some x:=⟨_,List.getElem?_eq_getElem hk'⟩
  obtain ⟨a,ha⟩:∃ a,l.nodes.l[k]? = some a:=⟨_,List.getElem?_eq_getElem (by omega)⟩
  have hrn:=ug hx
  have hrl:=zc u.nodes.l (k+1)
  refine go 0 [0] ?_
  refine UI Tryz.underlying22 tk52 0 rfl rfl rfl rfl rfl (ak hx) rfl rfl (fun ⟨b4_1,o4_1⟩=>(go 0 [35330] ?_))
  refine LT rfl (aV (zs:=[.string .empty,.string .empty,.int .i64 0,.int .i64 0,.int .i64 0,.string .empty,.slice none 0 0,.slice none 0 0,.slice none 0 0,.slice none 0 0,.slice none 0 0,.slice none 0 0]) (by kernel_rfl) rfl (fun b4_3=>(aHN ?_)))
  refine go 3 [0,35334] ?_
  refine aP (aQ.f_refs (Ent.all (f:=aQ.ok) (.of (ax 2 rfl)) hx)) (fun hrf=>(go 3 [6,6,54,0] ?_))
  refine aF [3,5,6,11,12,13,19,20,21] [2,1,0] [0,1] (fun (q:Nat × (Value × List bC)) st=>(q.1≤x.refs.l.length∧q.2.2=bZ (u.nodes.l.take k) (l.nodes.l.take k)++fW a (x.refs.l.take q.1)∧q.2.2.length≤dL (u.nodes.l.take k)+q.1)∧st=⟨[(3,true,.pointer (some ⟨b0_1,0,none⟩)),(5,true,q.2.1),(6,true,.int .i64 k),(11,true,u.nodes.val),(12,true,.int .i64 u.nodes.l.length),(13,true,.int .i64 k),(19,true,x.refs.val),(20,true,.int .i64 x.refs.l.length),(21,true,.int .i64 q.1)],[ShF aQ.row u.nodes,bu aQ.ok u.nodes.l,ShF bd l.nodes],[Box b0_1 36 l.vs,aK q.2.1 67 8 (q.2.2.map bC.row)]⟩) (fun q=>x.refs.l.length-q.1) rfl (⟨(0,(v,cs)),⟨Nat.zero_le _,by rw [hc,List.take_zero];exact (List.append_nil _).symm,hn⟩,rfl⟩) ?_
  rintro ⟨j,w,ds⟩ st ⟨⟨hj,hd,hm⟩,rfl⟩
  dsimp only at hj hd hm
  refine go 3 [0] ?_
  refine aa _ rfl (fun h2 => ?_) (fun h2 => ?_)
  ·skip
   have hj':j<x.refs.l.length:=by simpa using h2
   obtain ⟨r,hr⟩:∃ r,x.refs.l[j]? = some r:=⟨_,List.getElem?_eq_getElem hj'⟩
   have har:=hA k x a hx ha r (List.mem_of_getElem? hr)
   have hsn:=lz (a:=a) hr
   refine aE (ao (aD (aJ (aSR (bK true rfl rfl (fun _=>ai Tryz.underlying45 tk54 rfl ((aQ.f_refs (Ent.all (f:=aQ.ok) (.of (ax 1 rfl)) hx))) rfl (ak hr) rfl rfl) (fun h=>absurd h (by decide)) (fun ⟨b7_0,o7_0⟩=>(go 0 [19970] ?_)))))))
   refine LT rfl (aV (zs:=[.int .i64 0,.int .i64 0,.int .i64 0,.int .i64 0,.int .i64 0,.int .i64 0,.int .i64 0]) (by kernel_rfl) rfl (fun b7_2=>(aHN ?_)))
   refine go 2 [19974,1,6,0] ?_
   refine aa _ rfl (fun h3 => ?_) (fun h3 => ?_)
   ·skip
    have hk6:r.kind=6:=by simpa using h3
    rw [if_pos hk6] at hsn
    refine DR [12] 14 (go 0 [0,0,0,0] ?_)
    refine XI 4 Tryz.underlying33 tk3 3 rfl rfl rfl rfl rfl rfl (ak ha) rfl rfl (fun ⟨b9_4,o9_4⟩=>(go 0 [4,0,12,0,39948] ?_))
    refine bV 10 rfl rfl (bO (l:=[(0,.tmp 36),(1,.tmp 37)]) (zs:=[.int .i64 0,.int .i64 0,.int .i64 0,.int .i64 0,.int .i64 0,.int .i64 0,.int .i64 0,.int .i64 0]) (pl:=[(0,1),(1,7)]) (by kernel_rfl) (by kernel_rfl) (by kernel_rfl) rfl rfl rfl) (dF (q:=true) 11 rfl (by kernel_rfl) rfl rfl (WL (zs:=[.int .i64 0,.int .i64 0,.int .i64 0,.int .i64 0,.int .i64 0,.int .i64 0,.int .i64 0,.int .i64 0]) el64 rfl rfl rfl (.more rfl (.v rfl (.v rfl (.v rfl (.v rfl (.v rfl (.v rfl (.v rfl (.v rfl .nil)))))))) .nil) rfl rfl (fun v9_11=>(bST rfl ?_))))
    refine dF 12 rfl (by kernel_rfl) rfl rfl (bY 1 el64 rfl rfl rfl rfl (du 3 el64 rfl (by simp)) (by first | assumption | simp) (by show (ds.map bC.row).length+1≤_;rw [List.length_map];exact Nat.le_trans (show ds.length+1≤100000001 by omega) (by decide)) ((ds++[bC.mk (a+r.at_) r]).length) (by show (ds.map bC.row).length+1=_;rw [List.length_map,List.length_append];rfl) (fun v9_12 c9_12 => ?_))
    refine bST rfl ?_
    refine go 1 [0,0,0] ?_
    refine ao ?_
    refine ⟨[3,5,6,11,12,13,19,20,21],[2,1,0],[0,1],rfl,?_⟩
    exact ⟨(j+1,(_,ds++[bC.mk (a+r.at_) r])),⟨⟨hj',by dsimp only;rw [hsn,hd,List.append_assoc],by dsimp only;rw [List.length_append];simp;omega⟩,by dsimp only;rw [List.map_append];rfl⟩,by dsimp only;omega⟩
   ·skip
    have hk6:¬ r.kind=6:=by simpa using h3
    rw [if_neg hk6,List.append_nil] at hsn
    refine go 1 [0,0] ?_
    refine ao ?_
    refine ⟨[3,5,6,11,12,13,19,20,21],[2,1,0],[0,1],rfl,?_⟩
    exact ⟨(j+1,(w,ds)),⟨⟨hj',by dsimp only;rw [hsn,hd],by dsimp only;omega⟩,rfl⟩,by dsimp only;omega⟩
  ·skip
   have hje:j=x.refs.l.length:=by have:=of_decide_eq_false h2;omega
   subst hje
   rw [List.take_length] at hd
   refine go 1 [0,0] ?_
   refine ao ?_
   refine ⟨[3,5,11,12,13],[2,1,0],[0,1],rfl,?_⟩
   exact ⟨(k+1,(w,ds)),⟨⟨hk',by dsimp only;rw [hd,ly hx ha],by dsimp only;omega⟩,rfl⟩,by dsimp only;omega⟩
 ·skip
  have hke:k=u.nodes.l.length:=by have:=of_decide_eq_false h1;omega
  subst hke
  rw [List.take_length,← hl,List.take_length] at hc
  refine ba (bg (bg (bk (ao (aD (cX 1 rfl (fun _ _ _ h=>dx h) (fun ⟨a3,c3,hv⟩ => ?_)))))))
  rw [List.length_map] at hv
  dsimp only at hv ⊢
  subst hv
  refine cQ 1 (ShF bC.row ⟨a3,c3,cs⟩) rfl (fun _ _ _ h=>dm h) (go 2 [0,0] ?_)
  refine ae ?_
  refine bB [3] [] rfl Tryz.results17 rfl ?_ (.inr rfl)
  exact ⟨rfl,⟨a3,c3,cs⟩,⟨rfl,rfl⟩,hc⟩
abbrev sL(c:bC)(a:Int):List Value:=[.int .i64 a,.int .i64 (ew c).kind,.int .i64 (ew c).n,.int .i64 (ew c).off]
theorem rH(b5 b2:Nat)(c:bC)(s:bt)(a:Int)(h : -4611686018427387904≤s.at_-c.at_∧s.at_-c.at_≤4611686018427387904) :
   Con Tryz.prog 44 [s.val,.pointer (some ⟨b5,0,none⟩),.pointer (some ⟨b2,0,none⟩)] [At b2 0 c.row] [Box b5 44 (sL c a)] fun r ps hp=>ps=[]∧r=.bool (qR c s)∧hp=[Box b5 44 (sL c s.at_)]:=by
 refine EN3 Tryz.func44 rfl (aSR (LT rfl (aT rfl rfl rfl (fun b0_0=>(aHN ?_)))))
 refine go 0 [0,0,3,0,0,10755,10752] ?_
 refine aU rfl (kY (by kernel_rfl) (by kernel_rfl) (by kernel_rfl) (fun w=>ei 9997 _ _ _ [0,1,2,3] w (by kernel_rfl) (by kernel_rfl) rfl rfl) rfl rfl) (go 0 [0,23041,0,3] ?_)
 refine aG rfl rfl (fun hc=>Q0 (aj (ah rfl hc) (aj (ah rfl hc) rfl)) (mY c _ h)) (go 2 [0,0] ?_)
 refine ae (FZ1 [0] Tryz.results44 rfl ?_)
 refine ⟨rfl,congrArg Value.bool ?_,rfl⟩
 unfold qR;simp [ep,et];rfl
theorem wk(c:bC)(l:List bt)(k:Nat)(hk:k≤l.length)(hn:∀ s∈l.take k,qR c s=false):(∀ s,l[k]? = some s→qR c s=true→cF c l=k)∧(k=l.length→cF c l = -1):=by
 constructor
 · intro s hs ht
   have:l.findIdx? (qR c)=some k:=by
     rw [List.findIdx?_eq_some_iff_getElem]
     obtain ⟨h1,h2⟩:=List.getElem?_eq_some_iff.1 hs
     refine ⟨h1,by rw [h2];exact ht,fun j hj => ?_⟩
     have:=hn (l[j]) (List.mem_of_getElem? (i:=j) (by rw [List.getElem?_take_of_lt hj];exact List.getElem?_eq_getElem _))
     rw [this];decide
   unfold cF;rw [this]
 · intro he
   have:l.findIdx? (qR c)=none:=by
     rw [List.findIdx?_eq_none_iff]
     intro s hs
     exact hn s (by rw [he,List.take_length];exact hs)
   unfold cF;rw [this]
theorem xV(b5 b2:Nat)(c:bC)(l:Sl bt)(a:Int)(h:∀ s∈l.l,-4611686018427387904≤s.at_-c.at_∧s.at_-c.at_≤4611686018427387904) :
   Con Tryz.prog 43 [l.val,.func (.func 44) #[] #[.pointer (some ⟨b5,0,none⟩),.pointer (some ⟨b2,0,none⟩)]] [ShF bt.row l,At b2 0 c.row] [Box b5 44 (sL c a)] fun r ps hp=>ps=[]∧r=.int .i64 (cF c l.l)∧∃ a',hp=[Box b5 44 (sL c a')]:=by
 refine EN2 Tryz.func43 rfl (aP (.of (ax 0 rfl)) (fun hlen=>(go 3 [0,0,44,0] ?_)))
 refine aF [0,1,7,8] [1,0] [0] (fun (q:Nat × Int) st=>(q.1≤l.l.length∧∀ s∈l.l.take q.1,qR c s=false)∧st=⟨[(0,true,l.val),(1,true,.func (.func 44) #[] #[.pointer (some ⟨b5,0,none⟩),.pointer (some ⟨b2,0,none⟩)]),(7,true,.int .i64 l.l.length),(8,true,.int .i64 q.1)],[ShF bt.row l,At b2 0 c.row],[Box b5 44 (sL c q.2)]⟩) (fun q=>l.l.length-q.1) rfl (⟨(0,a),⟨Nat.zero_le _,fun s hs=>by cases hs⟩,rfl⟩) ?_
 rintro ⟨k,a1⟩ st ⟨⟨hk,hn⟩,rfl⟩
 dsimp only at hk hn
 have hgo:=wk c l.l k hk hn
 refine go 3 [0] ?_
 refine aa _ rfl (fun h1 => ?_) (fun h1 => ?_)
 ·skip
  have hk':k<l.l.length:=by simpa using h1
  obtain ⟨s,hs⟩:∃ s,l.l[k]? = some s:=⟨_,List.getElem?_eq_getElem hk'⟩
  refine go 0 [0,0,0,0,0] ?_
  refine UI Tryz.underlying34 tk44 0 rfl rfl rfl rfl rfl (ak hs) rfl rfl (fun ⟨b4_3,o4_3⟩=>(go 0 [10754] ?_))
  refine LF rfl (fR [0] [0] (by kernel_rfl) rfl rfl rfl rfl rfl (rH b5 b2 c s a1 (h s (List.mem_of_getElem? hs))) ?_)
  rintro _ _ _ ⟨rfl,rfl,rfl⟩
  refine aST ?_
  refine aNn ?_
  refine aa _ rfl (fun h2 => ?_) (fun h2 => ?_)
  ·skip
   refine go 2 [0,0] ?_
   refine ae (aO (an (an (aO (an (FZ1 [0] Tryz.results43 rfl ?_))))))
   exact ⟨rfl,congrArg _ (hgo.1 s hs h2).symm,_,rfl⟩
  ·skip
   refine go 1 [0,0] ?_
   refine ao ?_
   refine ⟨[0,1,7,8],[1,0],[0],rfl,?_⟩
   refine ⟨(k+1,s.at_),⟨⟨hk',fun t ht => ?_⟩,rfl⟩,by dsimp only;omega⟩
   rw [List.take_add_one,hs] at ht
   rcases List.mem_append.1 ht with ht | ht
   · exact hn t ht
   · rw [List.mem_singleton.1 ht];exact h2
 ·skip
  refine go 2 [0] ?_
  refine ae (FZ1 [0] Tryz.results43 rfl ?_)
  exact ⟨rfl,congrArg _ (hgo.2 (by simp at h1;omega)).symm,_,rfl⟩
theorem jm(c:bC){ln:List Int}(hc:mf ln c)(l:Sl bt)(h:∀ s∈l.l,-4611686018427387904≤s.at_-c.at_∧s.at_-c.at_≤4611686018427387904) :
   Con Tryz.prog 20 [c.val,l.val] [ShF bt.row l] [] fun r _ _=>r=.int .i64 (cF c l.l):=by
 refine EN2 Tryz.func20 rfl (aSR (LT rfl (aT rfl rfl rfl (fun b0_0=>(aHN ?_)))))
 refine go 0 [0,23040] ?_
 refine aU rfl (Q0 rfl (pw c hc)) (LT rfl (aV (zs:=[.int .i64 0,.int .i64 0,.int .i64 0,.int .i64 0]) (by kernel_rfl) rfl (fun b1_2=>(aHN ?_))))
 refine go 3 [10755] ?_
 refine aY 0 rfl rfl ?_
 show awp _ _ _ _ ⟨_,At _ 0 _::_,_⟩
 refine az (aM rfl (aU rfl (cx (l:=[.tmp 5,.tmp 2]) rfl) (LF rfl (EC [0,1] [1] rfl (xV b1_2 b0_0 c l _ h) ?_))))
 rintro _ _ _ ⟨rfl,rfl,a',rfl⟩
 refine aST ?_
 refine go 2 [0] ?_
 refine ae (FZ1 [] Tryz.results20 rfl ?_)
 rfl
def fQ(n t:Int):Int:=if ((t<1∨1099511627776<t)∨n < -1152921504606846976)∨1152921504606846976<n then n else n-n % t
def upI(n t:Int):Int:=if fQ n t=n then n else fQ n t+t
theorem m5{n t:Int} : fQ n t≤n∧(fQ n t=n∨(1≤t∧t≤1099511627776∧n-t<fQ n t ∧ -1152921504606846976≤n∧n≤1152921504606846976)):=by
 unfold fQ
 split
 · omega
 · have:=Int.emod_nonneg n (show t≠0 by omega)
   have:=Int.emod_lt_of_pos n (show 0<t by omega)
   omega
theorem vD(n t:Int)(hn:I64 n):Con Tryz.prog 126 [.int .i64 n,.int .i64 t] [] [] fun r _ _=>r=.int .i64 (fQ n t):=by
 unfold I64 at hn
 refine EN2 Tryz.func126 rfl (go 2 [0,0,0,0,0,0,0,0,0,0,0,0,0,0,0] ?_)
 refine aa _ rfl (fun h1 => ?_) (fun h1 => ?_)
 ·skip
  have hb:((t<1∨1099511627776<t)∨n < -1152921504606846976)∨1152921504606846976<n:=by simp at h1;omega
  refine go 2 [0,0] ?_
  refine ae (an (FZ1 [] Tryz.results126 rfl ?_))
  unfold fQ;rw [if_pos hb]
 ·skip
  have hb:¬ (((t<1∨1099511627776<t)∨n < -1152921504606846976)∨1152921504606846976<n):=by simp at h1;omega
  have hm1:=Int.emod_nonneg n (show t≠0 by omega)
  have hm2:=Int.emod_lt_of_pos n (show 0<t by omega)
  have ht:n.tmod t=n % t∨n.tmod t=n % t-t:=by rw [Int.tmod_eq_emod];split<;>omega
  refine go 0 [0,0] ?_
  refine aU rfl (eY rfl rfl (by omega)) (go 2 [0,0,0] ?_)
  refine aa _ rfl (fun h2 => ?_) (fun h2 => ?_)
  ·skip
   have ht2:n.tmod t+t=n % t:=by simp at h2;omega
   refine go 2 [0,0,0,0,0,0,0,0] ?_
   refine ae (FZ1 [] Tryz.results126 rfl ?_)
   unfold fQ;rw [if_neg hb,← ht2]
  ·skip
   have ht2:n.tmod t=n % t:=by simp at h2;omega
   refine go 2 [0,0,0,0] ?_
   refine ae (FZ1 [] Tryz.results126 rfl ?_)
   unfold fQ;rw [if_neg hb,← ht2]
theorem l6(n t:Int)(hn:I64 n):Con Tryz.prog 90 [.int .i64 n,.int .i64 t] [] [] fun r _ _=>r=.int .i64 (upI n t):=by
 have hd := @m5 n t
 unfold I64 at hn
 refine EN2 Tryz.func90 rfl (go 0 [0,0,0] ?_)
 refine aU rfl (Q0 rfl (vD n t hn)) (go 2 [0,0,0,0] ?_)
 refine aa _ rfl (fun h1 => ?_) (fun h1 => ?_)
 ·skip
  have hb:fQ n t≠n:=by simpa using h1
  refine go 2 [0,0,0,0] ?_
  refine ae (an (FZ1 [] Tryz.results90 rfl ?_))
  unfold upI;rw [if_neg hb]
 ·skip
  have hb:fQ n t=n:=by simpa using h1
  refine go 2 [0,0] ?_
  refine ae (FZ1 [] Tryz.results90 rfl ?_)
  unfold upI;rw [if_pos hb]
def dQ(x n:Int):Bool:=decide (0≤x) && decide (x≤1099511627776) && decide (0≤n) && decide (n≤1099511627776-x)
theorem gz(x n:Int)(hx:I64 x)(hn:I64 n):Con Tryz.prog 92 [.agg #[.int .i64 x,.int .i64 n]] [] [] fun v _ _=>v=.bool (dQ x n):=by
 unfold I64 at hx hn
 refine EN1 Tryz.func92 rfl (aSR (LT rfl (aT rfl rfl rfl (fun b0_0=>(aHN ?_)))))
 refine go 2 [0,0,0,0,0,0,0,0,0,0,1,0,0,0,0,1,0,0,0,0,0,0,0] ?_
 refine ae (FZ1 [] Tryz.results92 rfl ?_)
 rfl
theorem fH(x n:Int)(h:I64 (x+n)):Con Tryz.prog 94 [.agg #[.int .i64 x,.int .i64 n]] [] [] fun v _ _=>v=.int .i64 (x+n):=by
 unfold I64 at h
 refine EN1 Tryz.func94 rfl (aSR (LT rfl (aT rfl rfl rfl (fun b0_0=>(aHN ?_)))))
 refine go 2 [0,0,0,1,0,0,0] ?_
 refine ae (FZ1 [] Tryz.results94 rfl ?_)
 rfl
abbrev Span:=Int × Int
def aX(p:Span):List D:=[.v (.int .i64 p.1),.v (.int .i64 p.2)]
theorem dt{x n:Int} : dQ x n=true↔0≤x∧x≤1099511627776∧0≤n∧n≤1099511627776-x:=by
 simp only [dQ,Bool.and_eq_true,decide_eq_true_eq,and_assoc]
def nT(l:List Span)(i:Nat)(p:Span):Bool := !((!dQ p.1 p.2 || decide (p.2=0)) || (decide (0<(i:Int)) && decide (p.1≤(l.getD (i-1) (0,0)).1+(l.getD (i-1) (0,0)).2)))
def rgB(l:List Span):Bool:=l.zipIdx.all fun x=>nT l x.2 x.1
theorem fT{l:List Span} : rgB l=true↔∀ (j:Nat) (p:Span),l[j]? = some p→nT l j p=true:=by
 unfold rgB
 rw [List.all_eq_true]
 constructor
 · intro h j p hp
   exact h (p,j) (by rw [List.mem_zipIdx_iff_getElem?];exact hp)
 · rintro h ⟨p,j⟩ hx
   exact h j p (by rw [List.mem_zipIdx_iff_getElem?] at hx;exact hx)
theorem gM{l:List Span}{i:Nat}{p:Span}(h:nT l i p=true):dQ p.1 p.2=true:=by
 unfold nT at h
 cases hv:dQ p.1 p.2 with
 | true=>rfl
 | false=>rw [hv] at h;simp at h
theorem gr(l:List Span)(ad:Option Addr)(c:Nat)(hl:∀ p∈l,I64 p.1∧I64 p.2):Con Tryz.prog 91 [.slice ad l.length c] [Sh (.slice ad l.length c) (.sl (l.map aX))] [] fun v _ _=>v=.bool (rgB l):=by
 have HL:=Lib.hid hl
 clear hl
 refine EN1 Tryz.func91 rfl (jH 0 rfl (fun hlen => ?_))
 rw [List.length_map] at hlen
 refine go 3 [0,0,95,0] ?_
 refine aF [0,5,6,7] [0] [] (fun (k:Nat) s=>(k≤l.length∧∀ j p,j<k→l[j]? = some p→nT l j p=true)∧s=⟨[(0,true,.slice ad l.length c),(5,true,.slice ad l.length c),(6,true,.int .i64 l.length),(7,true,.int .i64 k)],[Sh (.slice ad l.length c) (.sl (l.map aX))],[]⟩) (fun k=>l.length-k) rfl (⟨0,⟨Nat.zero_le _,by omega⟩,rfl⟩) ?_
 rintro k s ⟨⟨hk,hok⟩,rfl⟩
 refine go 3 [0] ?_
 refine aa _ rfl (fun h1 => ?_) (fun h1 => ?_)
 ·skip
  have hk':k<l.length:=by simpa using h1
  obtain ⟨p,hp⟩:∃ p,l[k]? = some p:=⟨l[k]'hk',by simp⟩
  have hpI:=HL.out p (List.mem_of_getElem? hp)
  have hv0:0<k→dQ (l.getD (k-1) (0,0)).1 (l.getD (k-1) (0,0)).2=true:=fun h0=>gM (hok (k-1) _ (by omega) (by simp [List.getD,show k-1<l.length by omega]))
  refine go 0 [0] ?_
  refine bK true rfl rfl (fun _=>eF Tryz.underlying78 tk95 rfl (ax 0 rfl) rfl (row:=aX p) (by simp [hp]) rfl rfl) (fun h=>absurd h (by decide)) (fun ⟨b3_1,o3_1⟩ => ?_)
  refine aU rfl (dE (o:=0) (v:=.agg #[.int .i64 p.1,.int .i64 p.2]) tk95 rfl (ax 0 rfl) rfl rfl) (LT rfl (aV (zs:=[.int .i64 0,.int .i64 0]) (by kernel_rfl) rfl (fun b3_3=>(aHN ?_))))
  refine go 3 [0,4608] ?_
  refine DR [] 23 (go 0 [9216] ?_)
  refine bV 1 rfl rfl (Q0 rfl (gz _ _ hpI.1 hpI.2)) (go 0 [0,0,2,0,0,0,0,0,0,0,0,0,0] ?_)
  refine eH 15 rfl (by kernel_rfl) _ rfl rfl (fun hc=>eF Tryz.underlying78 tk95 (ah rfl hc) (ax 1 rfl) (ah rfl hc) (i:=k-1) (row:=aX (l.getD (k-1) (0,0))) (by have h:=gT hc;simp at h;simp [List.getD,show k-1<l.length by omega]) (by have h:=gT hc;simp at h;omega) rfl) (fun _=>⟨(0,0)⟩) (fun ⟨b4_15,o4_15⟩ => ?_)
  refine bW 16 rfl rfl rfl (fun hc=>dE (o:=0) (v:=.agg #[.int .i64 (l.getD (k-1) (0,0)).1,.int .i64 (l.getD (k-1) (0,0)).2]) tk95 (ah rfl hc) (ax 0 rfl) hc rfl) ?_
  refine bW 17 rfl rfl rfl (fun hc=>Q0 (aj (ah rfl hc) rfl) (fH _ _ (by have h:=gT hc;simp at h;have:=dt.1 (hv0 h);unfold I64;omega))) ?_
  refine go 2 [0,0,0,0,0] ?_
  refine aa _ rfl (fun h2 => ?_) (fun h2 => ?_)
  ·skip
   refine go 2 [0] ?_
   refine ae (aO (an (an (aO (an (FZ1 [] Tryz.results91 rfl ?_))))))
   have hno:nT l k p=false:=by unfold nT;rw [h2];rfl
   show Value.bool false=.bool (rgB l)
   congr 1;symm
   cases hr:rgB l with
   | false=>rfl
   | true=>rw [fT.1 hr k p hp] at hno;cases hno
  ·skip
   refine go 1 [0,0] ?_
   refine ao ?_
   refine ⟨[0,5,6,7],[0],[],rfl,?_⟩
   refine ⟨k+1,⟨⟨by omega,fun j q hj hq => ?_⟩,rfl⟩,by omega⟩
   rcases Nat.lt_succ_iff_lt_or_eq.1 hj with h | rfl
   · exact hok j q h hq
   · obtain rfl:p=q:=by rw [hp] at hq;injection hq
     unfold nT;rw [h2];rfl
 ·skip
  refine go 2 [0] ?_
  refine ae (FZ1 [] Tryz.results91 rfl ?_)
  show Value.bool true=.bool (rgB l)
  rw [fT.2 (fun j p hp=>hok j p (by have:=(List.getElem?_eq_some_iff.1 hp).1;simp at h1;omega) hp)]
end Go.Proofs.YtgkbbdgklpabpaaGreatDoor

