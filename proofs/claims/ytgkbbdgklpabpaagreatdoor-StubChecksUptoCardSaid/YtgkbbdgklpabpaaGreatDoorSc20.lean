/- Parts of the proof, in build order. No condition. -/
import Derived.Test.YtgkbbdgklpabpaaGreatDoorRows
import Derived.Test.YtgkbbdgklpabpaaGreatDoorSc19
import Derived.WalkKit
import Derived.ProofKit
import Derived.OpenShut
import Derived.ShutString
import Derived.ChangeOld
import Derived.Below
import Derived.LaidMore
import Derived.Stop.Joined
import Derived.Test.YtgkbbdgklpabpaaGreatDoorSc06
import Derived.Test.YtgkbbdgklpabpaaGreatDoorSc14
import Derived.Test.YtgkbbdgklpabpaaGreatDoorSc07
import Derived.Test.YtgkbbdgklpabpaaGreatDoorSc05
import Derived.Test.YtgkbbdgklpabpaaGreatDoorSc09
import Derived.Test.YtgkbbdgklpabpaaGreatDoorSc12
set_option linter.unusedSimpArgs false
set_option linter.unusedVariables false
set_option maxHeartbeats 20000000
set_option maxRecDepth 20000
namespace Go.Proofs.YtgkbbdgklpabpaaGreatDoor
open Go.ChangeShapes Go.WideShapes Go.ChangeAt Go.RowKit
open Go.Lp Go.Sy
theorem own:ownKnob Tryz.prog.godebug=none:=by kernel_rfl
theorem laidOut:laidOutB Tryz.prog=true:=by kernel_rfl
theorem w6:iE (Rows.laid_linchpin_isa_forms (H:=Unit))=some nw:=by kernel_rfl
theorem w8:nw.all (·.oneCell')=true:=by kernel_rfl
theorem rK{W:World}{g:Nat}{l:List Value}(h0:l≠[])(h:∀ i,W.cell? ⟨g,i,none⟩=l[i]?)(h1:l.all (·.oneCell')=true):(At g 0 (l.map D.v)).holds W (fun b=>b<W.heap.size):=by
 obtain ⟨v,hv⟩:∃ v,l[0]? = some v:=by cases l with
   | nil=>exact absurd rfl h0
   | cons v l=>exact ⟨v,rfl⟩
 refine ⟨(p9 ((h 0).trans hv)).2,fun j d hj => ?_⟩
 rw [List.getElem?_map] at hj
 cases hl:l[j]? with
 | none=>rw [hl] at hj;cases hj
 | some u =>
   rw [hl] at hj
   simp only [Option.map_some,Option.some.injEq] at hj
   exact ⟨u,by rw [Nat.zero_add,h,hl],List.all_eq_true.1 h1 u (List.mem_of_getElem? hl),by rw [← hj];exact .v u⟩
theorem abF:Tryz.prog.globalNamed "linchpin/isa.forms" = some 1:=by kernel_rfl
theorem ab4:(Tryz.prog.globals[1]?).map (·.type)=some 308:=by kernel_rfl
theorem acs:Tryz.prog.globalNamed "linchpin/reloc.rows" = some 0:=by kernel_rfl
theorem acS:(Tryz.prog.globals[0]?).map (·.type)=some 191:=by kernel_rfl
theorem zU{cs:List Value}(h:mm (Rows.laid_linchpin_reloc_rows (H:=Unit)) cs):∃ f:Nat→D,cs.map D.v=sZ f∧cs.all (·.oneCell')=true∧cs≠[]:=by
 simp only [Rows.laid_linchpin_reloc_rows,mm,litMs] at h
 obtain ⟨_,_,rfl,⟨_,_,rfl,rfl,_,_,rfl,rfl,_,_,rfl,⟨v0,rfl,o0⟩,rfl⟩,_,_,rfl,⟨_,_,rfl,rfl,_,_,rfl,rfl,_,_,rfl,⟨v1,rfl,o1⟩,rfl⟩,_,_,rfl,⟨_,_,rfl,rfl,_,_,rfl,rfl,_,_,rfl,⟨v2,rfl,o2⟩,rfl⟩,_,_,rfl,⟨_,_,rfl,rfl,_,_,rfl,rfl,_,_,rfl,⟨v3,rfl,o3⟩,rfl⟩,_,_,rfl,⟨_,_,rfl,rfl,_,_,rfl,rfl,_,_,rfl,⟨v4,rfl,o4⟩,rfl⟩,_,_,rfl,⟨_,_,rfl,rfl,_,_,rfl,rfl,_,_,rfl,⟨v5,rfl,o5⟩,rfl⟩,_,_,rfl,⟨_,_,rfl,rfl,_,_,rfl,rfl,_,_,rfl,⟨v6,rfl,o6⟩,rfl⟩,_,_,rfl,⟨_,_,rfl,rfl,_,_,rfl,rfl,_,_,rfl,⟨v7,rfl,o7⟩,rfl⟩,_,_,rfl,⟨_,_,rfl,rfl,_,_,rfl,rfl,_,_,rfl,⟨v8,rfl,o8⟩,rfl⟩,_,_,rfl,⟨_,_,rfl,rfl,_,_,rfl,rfl,_,_,rfl,⟨v9,rfl,o9⟩,rfl⟩,_,_,rfl,⟨_,_,rfl,rfl,_,_,rfl,rfl,_,_,rfl,⟨v10,rfl,o10⟩,rfl⟩,_,_,rfl,⟨_,_,rfl,rfl,_,_,rfl,rfl,_,_,rfl,⟨v11,rfl,o11⟩,rfl⟩,_,_,rfl,⟨_,_,rfl,rfl,_,_,rfl,rfl,_,_,rfl,⟨v12,rfl,o12⟩,rfl⟩,rfl⟩:=h
 refine ⟨fun k=>.v ([v0,v1,v2,v3,v4,v5,v6,v7,v8,v9,v10,v11,v12].getD k (.bool false)),rfl,?_,fun h=>by cases h⟩
 simp only [List.cons_append,List.nil_append,List.append_nil,List.all_cons,List.all_nil,o0,o1,o2,o3,o4,o5,o6,o7,o8,o9,o10,o11,o12];rfl
theorem xp {W:World} (h:laidMetH Tryz.prog [("linchpin/isa.forms", Rows.laid_linchpin_isa_forms),("linchpin/reloc.rows", Rows.laid_linchpin_reloc_rows)] W) :
   bC.holds W (fun b=>b<W.heap.size)∧dR.holds W (fun b=>b<W.heap.size):=by
 rw [MakeChecks.laidMetH_plain _ _ _ (by kernel_rfl)] at h
 obtain ⟨ps,⟨g0,t0,cs0,f0,p0,q0,hg0,ht0,hv0,hd0,⟨g1,t1,cs1,f1,p1,q1,hg1,ht1,hv1,hd1,_,_⟩,_⟩,_,_⟩:=h
 obtain rfl:=Option.some.inj (abF.symm.trans hg0)
 obtain rfl:=Option.some.inj (ab4.symm.trans ht0)
 have hl0:=rb 3 _ _ _ _ (by kernel_rfl) hd0
 have e0:cs0.toList=nw:=Option.some.inj (hl0.symm.trans w6)
 obtain rfl:=Option.some.inj (acs.symm.trans hg1)
 obtain rfl:=Option.some.inj (acS.symm.trans ht1)
 have hl1:=nX 3 _ _ _ _ (by kernel_rfl) hd1
 obtain ⟨f,e1,o1,n1⟩:=zU hl1
 refine ⟨rK (by decide) (fun i=>by rw [World.var?_cell hg0 hv0 i,← e0,Array.getElem?_toList]) w8,f,?_⟩
 show (At 0 0 (sZ f)).holds W fun b=>b<W.heap.size
 rw [← e1]
 exact rK n1 (fun i=>by rw [World.var?_cell hg1 hv1 i,Array.getElem?_toList]) o1
end Go.Proofs.YtgkbbdgklpabpaaGreatDoor

namespace Go.Sy
open Go.RowKit Go.Lp
def kH(w:World)(S:ba)(us:List Value)(ds:List D):Prop:=us.length=ds.length∧∀ (j:Nat) (d:D),ds[j]? = some d→∃ u,us[j]? = some u∧dT w S u d
theorem kH.nil{w:World}{S:ba}{us:List Value}(h:kH w S us []):us=[]:=List.eq_nil_of_length_eq_zero h.1
theorem kH.cons{w:World}{S:ba}{us:List Value}{d:D}{ds:List D}(h:kH w S us (d::ds)):∃ u us',us=u::us'∧dT w S u d∧kH w S us' ds:=by
 cases us with
 | nil=>have:=h.1;simp at this
 | cons u us =>
   obtain ⟨u',h1,h2⟩:=h.2 0 d rfl
   simp only [List.getElem?_cons_zero,Option.some.injEq] at h1
   subst h1
   exact ⟨u,us,rfl,h2,by simpa using h.1,fun j e hj=>by have:=h.2 (j+1) e (by simpa using hj);simpa using this⟩
theorem zP{w:World}{cs:List Value}{ds:List D}(hl:ds.length=cs.length)(h:Rds w cs 0 ds):kH w (fun b=>b<w.heap.size) cs ds:=⟨hl.symm,fun j d hj=>by
 obtain ⟨u,h1,_,h2⟩:=h j d hj
 rw [Nat.zero_add] at h1
 exact ⟨u,h1,h2⟩⟩
section
variable {P:Program} {k:Nat} {t e:TypeId} {w:World} {S:ba} {us:List Value} {ds:List D}
end
mutual
/-- ten times the size of data: each value counts one, and each letter -/
def zD:D→Nat
 | .v (.string s)=>10*(s.size+1)
 | .v _=>10
 | .sl rows=>zR rows+10
def zR:List (List D)→Nat
 | []=>0
 | r::rows=>zL r+zR rows
def zL:List D→Nat
 | []=>0
 | d::ds=>zD d+zL ds
end
theorem u6:∀ a b:List D,zL (a++b)=zL a+zL b
 | [],b=>by simp [zL]
 | d::a,b=>by simp only [List.cons_append,zL,u6 a b];omega
theorem u7:∀ rows:List (List D),zR rows=(rows.map zL).sum
 | []=>rfl
 | r::rows=>by simp only [zR,List.map_cons,List.sum_cons,u7 rows]
theorem rp{α:Type}{f g:α→Nat} : ∀ (l:List α),(∀ x∈l,f x≤g x)→(l.map f).sum≤(l.map g).sum
 | [],_=>Nat.le_refl _
 | x::l,h=>by
   simp only [List.map_cons,List.sum_cons]
   have h1:=h x List.mem_cons_self
   have h2:=rp l fun y hy=>h y (List.mem_cons_of_mem _ hy)
   omega
theorem su{α:Type}[Inhabited α]{row:α→List D}{ok:α→Per}{C:α→Prop}(zf:α→Nat){w:World}{S:ba}{v:Value}{rows:List (List D)}(h:dT w S v (.sl rows))
   (hf:∀ r∈rows,∀ us:List Value,kH w S us r→∃ y:α,row y=us.map D.v∧(ok y).holds w S∧C y∧zf y≤zL r):∃ s:Sl α,v=s.val∧(ShF row s).holds w S∧(bu ok s.l).holds w S∧(∀ y∈s.l,C y)∧(s.l.map zf).sum≤zR rows:=by
 cases h with
 | e a c hc=>exact ⟨⟨a,c,[]⟩,rfl,.e a c hc,fun y hy=>(by cases hy),fun y hy=>(by cases hy),Nat.zero_le _⟩
 | sl b o c sz _ us hb hn hc hrl hcell hd =>
   have each:∀ i:Nat,∃ y:α,i<rows.length→row y=((List.range sz).map fun j=>us i j).map D.v∧(ok y).holds w S∧C y∧zf y≤zL (rows.getD i []):=fun i=>by
     by_cases hi:i<rows.length
     · obtain ⟨r,hr⟩:∃ r,rows[i]? = some r:=⟨_,List.getElem?_eq_getElem hi⟩
       obtain ⟨y,h1,h2,h4,h3⟩:=hf r (List.mem_of_getElem? hr) ((List.range sz).map fun j=>us i j) ⟨by simp [hrl i r hr],fun j d hj=>by
         have hjl:=(List.getElem?_eq_some_iff.1 hj).1
         rw [hrl i r hr] at hjl
         exact ⟨us i j,by rw [List.getElem?_map,List.getElem?_range hjl];rfl,hd i j r d hr hj⟩⟩
       exact ⟨y,fun _=>⟨h1,h2,h4,by rw [List.getD_eq_getElem?_getD,hr];exact h3⟩⟩
     · exact ⟨default,fun h=>absurd h hi⟩
   obtain ⟨Y,hY⟩:=Classical.skolem.1 each
   have hget:∀ (i:Nat) (r:List D),(((List.range rows.length).map Y).map row)[i]? = some r→i<rows.length∧r=((List.range sz).map fun j=>us i j).map D.v:=fun i r hi=>by
     rw [List.getElem?_map,List.getElem?_map] at hi
     by_cases hil:i<rows.length
     · rw [List.getElem?_range hil] at hi
       simp only [Option.map_some,Option.some.injEq] at hi
       exact ⟨hil,by rw [← hi];exact (hY i hil).1⟩
     · rw [List.getElem?_eq_none (by simpa using hil)] at hi;cases hi
   have hcl:∀ (i j:Nat) (r:List D) (d:D),(((List.range rows.length).map Y).map row)[i]? = some r→r[j]? = some d→∃ r0 d0,rows[i]? = some r0∧r0[j]? = some d0∧d=.v (us i j):=fun i j r d hi hj=>by
     obtain ⟨hil,rfl⟩:=hget i r hi
     obtain ⟨r0,hr0⟩:∃ r,rows[i]? = some r:=⟨_,List.getElem?_eq_getElem hil⟩
     have hjl:=(List.getElem?_eq_some_iff.1 hj).1
     rw [List.length_map,List.length_map,List.length_range] at hjl
     rw [List.getElem?_map,List.getElem?_map,List.getElem?_range hjl] at hj
     simp only [Option.map_some,Option.some.injEq] at hj
     exact ⟨r0,_,hr0,List.getElem?_eq_getElem (by rw [hrl i r0 hr0];exact hjl),hj.symm⟩
   refine ⟨⟨some ⟨b,o,none⟩,c,(List.range rows.length).map Y⟩,by simp [Sl.val],?_,fun y hy => ?_,fun y hy => ?_,?_⟩
   · have h:=dT.sl (w:=w) (S:=S) b o c sz (((List.range rows.length).map Y).map row) us hb (by simpa using hn) hc (fun i r hi=>by obtain ⟨_,rfl⟩:=hget i r hi;simp)
       (fun i j r d hi hj=>by obtain ⟨r0,d0,h1,h2,_⟩:=hcl i j r d hi hj;exact hcell i j r0 d0 h1 h2) (fun i j r d hi hj=>by obtain ⟨_,_,_,_,rfl⟩:=hcl i j r d hi hj;exact .v _)
     rw [List.length_map,List.length_map,List.length_range] at h
     show dT w S (.slice (some ⟨b,o,none⟩) ((List.range rows.length).map Y).length c) (.sl (((List.range rows.length).map Y).map row))
     rw [List.length_map,List.length_range];exact h
   · obtain ⟨i,hi,rfl⟩:=List.mem_map.1 hy
     exact (hY i (List.mem_range.1 hi)).2.1
   · obtain ⟨i,hi,rfl⟩:=List.mem_map.1 hy
     exact (hY i (List.mem_range.1 hi)).2.2.1
   · rw [u7,List.map_map]
     have e:rows.map zL=(List.range rows.length).map fun i=>zL (rows.getD i []):=by
       apply List.ext_getElem?
       intro i
       rw [List.getElem?_map,List.getElem?_map]
       by_cases hi:i<rows.length
       · rw [List.getElem?_range hi,List.getElem?_eq_getElem hi]
         simp [List.getD_eq_getElem?_getD,hi]
       · rw [List.getElem?_eq_none (by omega),List.getElem?_eq_none (by simpa using hi)];rfl
     rw [e]
     exact rp _ fun i hi=>(hY i (List.mem_range.1 hi)).2.2.2
theorem kH.app{w:World}{S:ba}{us:List Value}{a b:List D}(h:kH w S us (a++b)):∃ u1 u2,us=u1++u2∧kH w S u1 a∧kH w S u2 b:=by
 induction a generalizing us with
 | nil=>exact ⟨[],us,rfl,⟨rfl,fun j d hj=>by cases hj⟩,h⟩
 | cons d a ih =>
   obtain ⟨u,us',rfl,hu,hr⟩:=h.cons
   obtain ⟨u1,u2,rfl,h1,h2⟩:=ih hr
   exact ⟨u::u1,u2,rfl,⟨by have:=h1.1;simp [this],fun j e hj=>by
     cases j with
     | zero=>simp at hj;subst hj;exact ⟨u,rfl,hu⟩
     | succ j=>exact h1.2 j e (by simpa using hj)⟩,h2⟩
end Go.Sy

namespace Go.Sy
open Go.RowKit Go.Lp Go.Lv
section
variable {P:Program} {k:Nat} {t e:TypeId}
abbrev RdW:Type:=World→ba→(List Value→Nat→Prop)→Prop
def Rd(P:Program)(k:Nat)(t:TypeId)(W:RdW):Prop:=∀ (w:World) (S:ba) (ds:List D) (us:List Value) (R:List Value→Nat→Prop),okD P k t ds→kH w S us ds→W w S R→R us (zL ds)
def RdF(P:Program)(k:Nat)(fs:List Field)(W:RdW):Prop:=∀ (w:World) (S:ba) (ds:List D) (us:List Value) (R:List Value→Nat→Prop),okF (okD P k) fs ds→kH w S us ds→W w S R→R us (zL ds)
theorem rdn:RdF P k [] fun _ _ R=>R [] 0:=fun _ _ ds us R h hr hR=>by
 obtain rfl:ds=[]:=h
 rw [hr.nil];exact hR
theorem rdc{f:Field}{fs:List Field}{W1 W2:RdW}(h1:Rd P k f.type W1)(h2:RdF P k fs W2):RdF P k (f::fs) fun w S R=>W1 w S fun u1 n1=>W2 w S fun u2 n2=>R (u1++u2) (n1+n2):=fun w S ds us R h hr hR=>by
 obtain ⟨d1,d2,rfl,o1,o2⟩:=h
 obtain ⟨u1,u2,rfl,r1,r2⟩:=hr.app
 rw [u6]
 exact h2 w S d2 u2 _ o2 r2 (h1 w S d1 u1 _ o1 r1 hR)
theorem rds{fs:Array Field}{W W':RdW}(hu:P.underlying t=some (.struct fs))(h:RdF P k fs.toList W)(hW:∀ w S R,W' w S R→W w S R):Rd P (k+1) t W':=fun w S ds us R ho hr hR=>h w S ds us R (uJ hu ho) hr (hW w S R hR)
theorem Rd.mono{W W':RdW}(h:Rd P k t W)(hW:∀ w S R,W' w S R→W w S R):Rd P k t W':=fun w S ds us R h1 h2 hR=>h w S ds us R h1 h2 (hW w S R hR)
end
end Go.Sy

namespace Go.Proofs.YtgkbbdgklpabpaaGreatDoor
open Go.RowKit Go.Lp Go.Sy Go.Deep
theorem acx{α:Type}{f:α→Nat} : ∀ l:List α,(l.map fun x=>10*f x).sum=10*(l.map f).sum
 | []=>rfl
 | x::l=>by simp only [List.map_cons,List.sum_cons,acx l];omega
section
variable {P:Program} {H:Type} {enc:TypeId × Value→H} {w:World} {base:Nat} {spare:Nat→Bool} {held:Bool}
theorem lK{d:DataW H} : ∀ {l:List (DataW H)},d∈l→Rows.uptoBulk d≤Rows.uptoBulkAll l
 | x::r,h=>by
   simp only [Rows.uptoBulkAll]
   rcases List.mem_cons.1 h with rfl | h
   · omega
   · have:=lK h;omega
theorem lL:∀ l:List (DataW H),Rows.uptoBulkAll l=(l.map Rows.uptoBulk).sum
 | []=>rfl
 | x::l=>by simp only [Rows.uptoBulkAll,List.map_cons,List.sum_cons,lL l]
theorem lZ{k fuel:Nat}{cs:List Value}{tot:Nat}(hcs:cs.length=tot)
   (ih:∀ (t:TypeId) (cs:List Value) (x:DataW H × List MemPlace),rdT P k t=true→DataW.trod enc P w base spare held fuel t cs=some x→∃ ds,ds.length=cs.length∧okD P k t ds∧Rds w cs 0 ds∧zL ds≤10*Rows.uptoBulk x.1) :
   ∀ (fs:List Field) (off:Nat) (xs:List (DataW H × List MemPlace)),gu P off fs tot=true→fs.all (fun f=>rdT P k f.type)=true→xs.length=fs.length →
     (∀ (i:Nat) (f:Field),fs[i]? = some f→DataW.trod enc P w base spare held fuel f.type ((cs.drop f.offset).take (P.cellsOf f.type))=xs[i]?)→∃ ds,off+ds.length=tot∧okF (okD P k) fs ds∧Rds w cs off ds∧zL ds≤10*Rows.uptoBulkAll (xs.map (·.1))
 | [],off,xs,hc,_,_,_=>⟨[],by simpa [gu] using hc,rfl,fun j d hj=>(by cases hj),Nat.zero_le _⟩
 | f :: fs,off,xs,hc,hr,hl,ht=>by
   cases xs with
   | nil=>simp at hl
   | cons y xs =>
     simp only [gu,Bool.and_eq_true,beq_iff_eq,decide_eq_true_eq] at hc
     obtain ⟨⟨hc1,hc2⟩,hc3⟩:=hc
     simp only [List.all_cons,Bool.and_eq_true] at hr
     have hy:=ht 0 f rfl
     obtain ⟨d1,l1,o1,r1,z1⟩:=ih _ _ y hr.1 (by rw [hy];rfl)
     obtain ⟨d2,l2,o2,r2,z2⟩:=lZ hcs ih fs _ xs hc3 hr.2 (by simpa using hl) (fun i g hg=>by rw [ht (i+1) g (by simpa using hg)];rfl)
     rw [List.length_take,List.length_drop,hc1,hcs] at l1
     have l1:d1.length=P.cellsOf f.type:=by omega
     refine ⟨d1++d2,by rw [List.length_append];omega,⟨d1,d2,rfl,o1,o2⟩,fun j d hj => ?_,by rw [u6];simp only [List.map_cons,Rows.uptoBulkAll];omega⟩
     by_cases hjl:j<d1.length
     · rw [List.getElem?_append_left hjl] at hj
       obtain ⟨u,hu,h1,h2⟩:=r1 j d hj
       rw [Nat.zero_add,List.getElem?_take,if_pos (by omega),List.getElem?_drop,hc1] at hu
       exact ⟨u,hu,h1,h2⟩
     · rw [List.getElem?_append_right (by omega)] at hj
       obtain ⟨u,hu,h1,h2⟩:=r2 _ d hj
       rw [show off+P.cellsOf f.type+(j-d1.length)=off+j by omega] at hu
       exact ⟨u,hu,h1,h2⟩
theorem jf : ∀ (k fuel:Nat) (t:TypeId) (cs:List Value) (x:DataW H × List MemPlace),rdT P k t=true→DataW.trod enc P w base spare held fuel t cs=some x→∃ ds,ds.length=cs.length∧okD P k t ds∧Rds w cs 0 ds∧zL ds≤10*Rows.uptoBulk x.1
 | 0,_,_,_,_,h,_=>by cases h
 | k + 1,fuel,t,cs,x,hr,h=>by
   unfold rdT at hr
   unfold okD
   split at hr
   · rename_i hu
     obtain ⟨b,rfl,rfl⟩:=DataW.trod_bool hu h
     exact ⟨[.v (.bool b)],rfl,⟨b,rfl⟩,jb rfl (.v _),by simp [zL,zD,Rows.uptoBulk]⟩
   · rename_i i hu
     obtain ⟨n,rfl,rfl,hw⟩:=DataW.trod_int hu h
     exact ⟨[.v (.int i n)],rfl,⟨n,rfl,hw⟩,jb rfl (.v _),by simp [zL,zD,Rows.uptoBulk]⟩
   · rename_i hu
     obtain ⟨s,rfl,rfl,hs⟩:=DataW.trod_string hu h
     exact ⟨[.v (.string s)],rfl,⟨s,rfl,hs⟩,jb rfl (.v _),by simp [zL,zD,Rows.uptoBulk]⟩
   · rename_i e hu
     rw [Bool.and_eq_true,decide_eq_true_eq] at hr
     obtain ⟨hp,hr⟩:=hr
     rcases DataW.trod_slice hu h with ⟨rfl,rfl⟩ | ⟨a,len,cap,elems,rest,n,_,rfl,rfl,_,hl,hm,hel,hx,_,_⟩
     · exact ⟨[.sl []],rfl,⟨[],rfl,by simp,fun r hr=>by cases hr⟩,jb rfl (.e none 0 (by simp)),by simp only [zL,zD,zR,Rows.uptoBulk];omega⟩
     · by_cases hl0:len=0
       · subst hl0
         exact ⟨[.sl []],rfl,⟨[],rfl,by simp,fun r hr=>by cases hr⟩,jb rfl (.e (some a) cap hm),by simp only [zL,zD,zR,Rows.uptoBulk];omega⟩
       · have each:∀ i,∃ r:List D,i<len→(r.length=P.cellsOf e∧okD P k e r∧∀ (j:Nat) (d:D),r[j]? = some d→∃ u,w.cell? ((a.add (i*P.cellsOf e)).add j)=some u∧u.oneCell'=true∧dT w (fun b=>b<w.heap.size) u d)∧∃ y,elems[i]? = some y∧zL r≤10*Rows.uptoBulk y.1:=fun i=>by
           by_cases hi:i<len
           · obtain ⟨y,hy⟩:∃ y,elems[i]? = some y:=⟨_,List.getElem?_eq_getElem (by omega)⟩
             have h1:=hx i hi
             rw [hy] at h1
             cases hcs:w.cells? base (a.add (i*P.cellsOf e)) (P.cellsOf e) with
             | none=>rw [hcs] at h1;cases h1
             | some cs' =>
               rw [hcs] at h1
               have h2:DataW.trod enc P w base spare held n e cs'=some y:=h1
               obtain ⟨ds,l1,o1,r1,z1⟩:=jf k _ _ _ _ hr h2
               obtain ⟨_,hcl,hc⟩:=World.cells?_some hcs
               refine ⟨ds,fun _=>⟨⟨by omega,o1,fun j d hj => ?_⟩,y,hy,z1⟩⟩
               obtain ⟨u,hu,q1,q2⟩:=r1 j d hj
               have:=(List.getElem?_eq_some_iff.1 hj).1
               rw [hc j (by omega)]
               exact ⟨u,by rw [← hu,Nat.zero_add],q1,q2⟩
           · exact ⟨[],fun h=>absurd h hi⟩
         obtain ⟨R,hR⟩:=Classical.skolem.1 each
         have ha:a=⟨a.block,a.off,none⟩∧a.block<w.heap.size:=by
           obtain ⟨⟨e1,_,e3⟩,_⟩:=hR 0 (by omega)
           obtain ⟨d,hd⟩:∃ d,(R 0)[0]? = some d:=⟨(R 0)[0]'(by omega),by simp⟩
           obtain ⟨u,hu,_⟩:=e3 0 d hd
           have:(a.add (0*P.cellsOf e)).add 0=a:=by simp [Addr.add]
           rw [this] at hu
           exact p9 hu
         obtain ⟨ha,hb⟩:=ha
         have hadd:∀ i j,(a.add (i*P.cellsOf e)).add j=⟨a.block,a.off+i*P.cellsOf e+j,none⟩:=fun i j=>by
           rw [ha];unfold Addr.add
           by_cases h1:i*P.cellsOf e=0<;>by_cases h2:j=0<;>simp [h1,h2]
         have hrow:∀ (i:Nat) (r:List D),((List.range len).map R)[i]? = some r→i<len∧r=R i:=fun i r hi=>by
           have:=(List.getElem?_eq_some_iff.1 hi).1
           simp at this
           rw [List.getElem?_map,List.getElem?_range this] at hi
           exact ⟨this,by simpa using hi.symm⟩
         refine ⟨[.sl ((List.range len).map R)],rfl,⟨_,rfl,by simp;omega,fun r hr => ?_⟩,jb rfl ?_,?_⟩
         · obtain ⟨i,hi,rfl⟩:=List.mem_map.1 hr
           exact (hR i (List.mem_range.1 hi)).1.2.1
         · have:=dT.sl (w:=w) (S:=fun b=>b<w.heap.size) a.block a.off cap (P.cellsOf e) ((List.range len).map R) (fun i j=>(w.cell? ⟨a.block,a.off+i*P.cellsOf e+j,none⟩).getD (.bool false)) hb (by simpa using hl) hm
             (fun i r hi=>by obtain ⟨h1,rfl⟩:=hrow i r hi;exact (hR i h1).1.1)
             (fun i j r d hi hj=>by
               obtain ⟨h1,rfl⟩:=hrow i r hi
               obtain ⟨u,hu,q1,q2⟩:=(hR i h1).1.2.2 j d hj
               rw [hadd] at hu
               rw [hu];exact ⟨rfl,q1⟩)
             (fun i j r d hi hj=>by
               obtain ⟨h1,rfl⟩:=hrow i r hi
               obtain ⟨u,hu,q1,q2⟩:=(hR i h1).1.2.2 j d hj
               rw [hadd] at hu
               rw [hu];exact q2)
           rw [← ha] at this
           simpa using this
         · simp only [zL,zD,Rows.uptoBulk]
           rw [u7,lL,List.map_map,List.map_map]
           have e1:elems.map (fun x=>10*(Rows.uptoBulk ∘ fun x=>x.1) x)=(List.range len).map fun i=>(elems[i]?.map fun y=>10*Rows.uptoBulk y.1).getD 0:=by
             apply List.ext_getElem?
             intro i
             rw [List.getElem?_map,List.getElem?_map]
             by_cases hi:i<len
             · obtain ⟨y,hy⟩:∃ y,elems[i]? = some y:=⟨_,List.getElem?_eq_getElem (by omega)⟩
               rw [List.getElem?_range hi,hy];simp [hy]
             · rw [List.getElem?_eq_none (by omega),List.getElem?_eq_none (by simpa using hi)];rfl
           have e0:=acx (f:=Rows.uptoBulk ∘ fun x:DataW H × List MemPlace=>x.1) elems
           rw [e1] at e0
           have:=rp (f:=zL ∘ R) (g:=fun i=>(elems[i]?.map fun y=>10*Rows.uptoBulk y.1).getD 0) (List.range len) fun i hi=>by
             obtain ⟨_,y,hy,hz⟩:=hR i (List.mem_range.1 hi)
             rw [hy];exact hz
           omega
   · rename_i fs hu
     rw [Bool.and_eq_true] at hr
     obtain ⟨xs,n,_,rfl,hcl,hxl,hf⟩:=DataW.trod_struct hu h
     obtain ⟨ds,l1,o1,r1,z1⟩:=lZ (tot:=P.cellsOf t) hcl (fun t cs x h1 h2=>jf k n t cs x h1 h2) fs.toList 0 xs hr.1 hr.2 (by simpa using hxl) (fun i f hff=>hf i f (by simpa using hff))
     exact ⟨ds,by omega,o1,r1,by simp only [Rows.uptoBulk];omega⟩
   · cases hr
end
end Go.Proofs.YtgkbbdgklpabpaaGreatDoor

namespace Go.Sy
open Go.RowKit Go.Lp Go.Lv
section
variable {P:Program} {k:Nat} {t e:TypeId}
theorem rwi(hu:P.underlying t=some (.int .i64)):Rd P (k+1) t fun _ _ R=>∀ z n,1≤n→R [.int .i64 z] n:=fun w S ds us R h hr hR=>by
 obtain ⟨z,rfl,hw⟩:=vE hu h
 obtain ⟨u,_,rfl,r,hr⟩:=hr.cons
 obtain rfl:=hr.nil;obtain rfl:=jL r
 exact hR z _ (by simp only [zL,zD];omega)
theorem rwb(hu:P.underlying t=some .bool):Rd P (k+1) t fun _ _ R=>∀ b n,1≤n→R [.bool b] n:=fun w S ds us R h hr hR=>by
 obtain ⟨z,rfl⟩:=zu hu h
 obtain ⟨u,_,rfl,r,hr⟩:=hr.cons
 obtain rfl:=hr.nil;obtain rfl:=jL r
 exact hR z _ (by simp only [zL,zD];omega)
theorem rwt(hu:P.underlying t=some .string):Rd P (k+1) t fun w S R=>∀ s n,(cX s).holds w S→1≤n→R [.string s] n:=fun w S ds us R h hr hR=>by
 obtain ⟨z,rfl,hz⟩:=uI hu h
 obtain ⟨u,_,rfl,r,hr⟩:=hr.cons
 obtain rfl:=hr.nil;obtain rfl:=jL r
 exact hR z _ hz (by simp only [zL,zD];omega)
theorem ab2{α:Type} : ∀ l:List α,(l.map fun _=>1).sum=l.length
 | []=>rfl
 | x::l=>by rw [List.map_cons,List.sum_cons,ab2 l,List.length_cons];omega
theorem rwl{α:Type}[Inhabited α]{wt:α→Nat}{vs:α→List Value}{row:α→List D}{ok:α→Per}(hu:P.underlying t=some (.slice e))(hrow:∀ y,row y=(vs y).map D.v)
   (hf:Rd P k e fun w S R=>∀ y n,(ok y).holds w S→wt y≤n→R (vs y) n) :
   Rd P (k+1) t fun w S R=>∀ (s:Sl α) n,(ShF row s).holds w S→(bu ok s.l).holds w S→(s.l.map wt).sum≤n→1≤n→R [.slice s.ad s.l.length s.cap] n:=fun w S ds us R h hr hR=>by
 obtain ⟨rows,rfl,_,hrows⟩:=pY hu h
 obtain ⟨u,_,rfl,r,hr⟩:=hr.cons
 obtain rfl:=hr.nil
 obtain ⟨s,rfl,h1,h2,_,h4⟩:=su (row:=row) (ok:=ok) (C:=fun _=>True) wt r fun r hr us hu =>
   hf w S r us (fun us n=>∃ y,row y=us.map D.v∧(ok y).holds w S∧True∧wt y≤n) (hrows r hr) hu fun y n a c=>⟨y,hrow y,a,trivial,c⟩
 exact hR s _ h1 h2 (by simp only [zL,zD];omega) (by simp only [zL,zD];omega)
theorem acQ(hu:P.underlying t=some (.slice e))(he:P.underlying e=some .string):Rd P (k+2) t fun w S R=>∀ (s:Sl ByteArray) n,(ShF (fun s=>[.v (.string s)]) s).holds w S→(bu (fun y=>cX y) s.l).holds w S→1≤n→R [.slice s.ad s.l.length s.cap] n :=
 (rwl (wt:=fun _=>1) (vs:=fun z=>[.string z]) (row:=fun z=>[.v (.string z)]) (ok:=fun y=>cX y) hu (fun _=>rfl) ((rwt he).mono fun w S R h z n a b=>h z n a b)).mono fun w S R h s n a b _ c=>h s n a b c
end
end Go.Sy

namespace Go.Proofs.YtgkbbdgklpabpaaGreatDoor
open Go.RowKit Go.Lp Go.Sy Go.Lv
theorem fM{k:Nat} : Rd Tryz.prog (k+2) 28 fun w S R=>∀ (y:bY) n,(Fa True).holds w S→(fun _=>1) y≤n→R y.vs n :=
 rds Tryz.underlying28 (rdc (rwi Tryz.underlying3) (rdc (rwi Tryz.underlying3) (rdc (rwi Tryz.underlying3) (rdc (rwi Tryz.underlying3) (rdn))))) fun w S R h x0 n0 e0 x1 n1 e1 x2 n2 e2 x3 n3 e3=>h ⟨x0,x1,x2,x3⟩ _ trivial (by show 1≤_;omega)
theorem abX{k:Nat} : Rd Tryz.prog (k+3) 54 fun w S R=>∀ (y:dE) n,(Fa True).holds w S→(fun _=>1) y≤n→R y.vs n :=
 rds Tryz.underlying54 (rdc (rwi Tryz.underlying3) (rdc (rwi Tryz.underlying3) (rdc (fM) (rdc (rwi Tryz.underlying3) (rdn))))) fun w S R h x0 n0 e0 x1 n1 e1 x2 n2 o2 e2 x3 n3 e3=>h ⟨x0,x1,x2,x3⟩ _ trivial (by show 1≤_;omega)
theorem aaY{k:Nat} : Rd Tryz.prog (k+2) 182 fun w S R=>∀ (y:fN) n,(y.ok).holds w S→(fun _=>1) y≤n→R y.vs n :=
 rds Tryz.underlying182 (rdc (rwt Tryz.underlying9) (rdc (rwi Tryz.underlying3) (rdc (rwi Tryz.underlying3) (rdc (rwi Tryz.underlying3) (rdn))))) fun w S R h x0 n0 o0 e0 x1 n1 e1 x2 n2 e2 x3 n3 e3=>h ⟨x0,x1,x2,x3⟩ _ o0 (by show 1≤_;omega)
theorem aaX{k:Nat} : Rd Tryz.prog (k+2) 236 fun w S R=>∀ (y:cM) n,(y.ok).holds w S→(fun _=>1) y≤n→R y.vs n :=
 rds Tryz.underlying236 (rdc (rwi Tryz.underlying3) (rdc (rwi Tryz.underlying3) (rdc (rwt Tryz.underlying9) (rdc (rwi Tryz.underlying3) (rdn))))) fun w S R h x0 n0 e0 x1 n1 e1 x2 n2 o2 e2 x3 n3 e3=>h ⟨x0,x1,x2,x3⟩ _ o2 (by show 1≤_;omega)
theorem xG{k:Nat} : Rd Tryz.prog (k+2) 243 fun w S R=>∀ (y:br) n,(y.ok).holds w S→(fun _=>1) y≤n→R y.vs n :=
 rds Tryz.underlying243 (rdc (rwi Tryz.underlying3) (rdc (rwi Tryz.underlying3) (rdc (rwi Tryz.underlying3) (rdc (rwt Tryz.underlying9) (rdc (rwt Tryz.underlying9) (rdc (rwi Tryz.underlying3) (rdn))))))) fun w S R h x0 n0 e0 x1 n1 e1 x2 n2 e2 x3 n3 o3 e3 x4 n4 o4 e4 x5 n5 e5=>h ⟨x0,x1,x2,x3,x4,x5⟩ _ ⟨o3,o4⟩ (by show 1≤_;omega)
theorem uT{k:Nat} : Rd Tryz.prog (k+3) 134 fun w S R=>∀ (y:bS) n,(y.ok).holds w S→(fun _=>1) y≤n→R y.vs n :=
 rds Tryz.underlying134 (rdc (rwi Tryz.underlying3) (rdc (rwi Tryz.underlying3) (rdc (rwt Tryz.underlying9) (rdc (rwi Tryz.underlying3) (rdc (rwi Tryz.underlying3) (rdc (fM) (rdn))))))) fun w S R h x0 n0 e0 x1 n1 e1 x2 n2 o2 e2 x3 n3 e3 x4 n4 e4 x5 n5 o5 e5=>h ⟨x0,x1,x2,x3,x4,x5⟩ _ o2 (by show 1≤_;omega)
theorem zW{k:Nat} : Rd Tryz.prog (k+2) 253 fun w S R=>∀ (y:cJ) n,(Fa True).holds w S→(fun _=>1) y≤n→R y.vs n :=
 rds Tryz.underlying253 (rdc (rwi Tryz.underlying3) (rdc (rwi Tryz.underlying3) (rdc (rwi Tryz.underlying3) (rdc (rwi Tryz.underlying3) (rdn))))) fun w S R h x0 n0 e0 x1 n1 e1 x2 n2 e2 x3 n3 e3=>h ⟨x0,x1,x2,x3⟩ _ trivial (by show 1≤_;omega)
def fW:aQ→Nat:=fun y:aQ=>1+y.refs.l.length+y.vars.l.length+y.inlines.l.length
theorem aaZ{k:Nat} : Rd Tryz.prog (k+5) 52 fun w S R=>∀ (y:aQ) n,(y.ok).holds w S→fW y≤n→R y.vs n :=
 rds Tryz.underlying52 (rdc (rwt Tryz.underlying9) (rdc (rwt Tryz.underlying9) (rdc (rwi Tryz.underlying3) (rdc (rwi Tryz.underlying3) (rdc (rwi Tryz.underlying3) (rdc (rwt Tryz.underlying9) (rdc (rwl (wt:=(fun _=>1)) Tryz.underlying45 (fun _=>rfl) abX) (rdc (rwl (wt:=(fun _=>1)) Tryz.underlying46 (fun _=>rfl) aaY) (rdc (rwl (wt:=(fun _=>1)) Tryz.underlying47 (fun _=>rfl) aaX) (rdc (rwl (wt:=(fun _=>1)) Tryz.underlying48 (fun _=>rfl) xG) (rdc (rwl (wt:=(fun _=>1)) Tryz.underlying49 (fun _=>rfl) uT) (rdc (rwl (wt:=(fun _=>1)) Tryz.underlying50 (fun _=>rfl) zW) (rdn))))))))))))) fun w S R h x0 n0 o0 e0 x1 n1 o1 e1 x2 n2 e2 x3 n3 e3 x4 n4 e4 x5 n5 o5 e5 x6 n6 o6 a6 s6 e6 x7 n7 o7 a7 s7 e7 x8 n8 o8 a8 s8 e8 x9 n9 o9 a9 s9 e9 x10 n10 o10 a10 s10 e10 x11 n11 o11 a11 s11 e11=>h ⟨x0,x1,x2,x3,x4,x5,x6,x7,x8,x9,x10,x11⟩ _ ⟨o0,o1,o5,o6,o7,a7,o8,a8,o9,a9,o10,a10,o11⟩ (by rw [ab2] at s6 s7 s8 s9 s10 s11;unfold fW;dsimp only;omega)
theorem xF{k:Nat} : Rd Tryz.prog (k+2) 137 fun w S R=>∀ (y:dp) n,(y.ok).holds w S→(fun _=>1) y≤n→R y.vs n :=
 rds Tryz.underlying137 (rdc (rwt Tryz.underlying9) (rdc (rwt Tryz.underlying9) (rdc (rwi Tryz.underlying3) (rdc (rwb Tryz.underlying4) (rdc (rwb Tryz.underlying4) (rdn)))))) fun w S R h x0 n0 o0 e0 x1 n1 o1 e1 x2 n2 e2 x3 n3 e3 x4 n4 e4=>h ⟨x0,x1,x2,x3,x4⟩ _ ⟨o0,o1⟩ (by show 1≤_;omega)
theorem zX{k:Nat} : Rd Tryz.prog (k+2) 139 fun w S R=>∀ (y:dX) n,(y.ok).holds w S→(fun _=>1) y≤n→R y.vs n :=
 rds Tryz.underlying139 (rdc (rwt Tryz.underlying9) (rdc (rwt Tryz.underlying9) (rdc (rwb Tryz.underlying4) (rdc (rwi Tryz.underlying3) (rdc (rwi Tryz.underlying3) (rdc (rwi Tryz.underlying3) (rdc (rwi Tryz.underlying3) (rdn)))))))) fun w S R h x0 n0 o0 e0 x1 n1 o1 e1 x2 n2 e2 x3 n3 e3 x4 n4 e4 x5 n5 e5 x6 n6 e6=>h ⟨x0,x1,x2,x3,x4,x5,x6⟩ _ ⟨o0,o1⟩ (by show 1≤_;omega)
theorem ph{k:Nat} : Rd Tryz.prog (k+3) 165 fun w S R=>∀ (y:aR) n,(y.ok).holds w S→(fun _=>1) y≤n→R y.vs n :=
 rds Tryz.underlying165 (rdc (rwt Tryz.underlying9) (rdc (acQ Tryz.underlying26 Tryz.underlying9) (rdn))) fun w S R h x0 n0 o0 e0 x1 n1 o1 a1 e1=>h ⟨x0,x1⟩ _ ⟨o0,o1,a1⟩ (by show 1≤_;omega)
theorem zY{k:Nat} : Rd Tryz.prog (k+2) 260 fun w S R=>∀ (y:cN) n,(Fa True).holds w S→(fun _=>1) y≤n→R y.vs n :=
 rds Tryz.underlying260 (rdc (rwi Tryz.underlying3) (rdc (rwi Tryz.underlying3) (rdc (rwi Tryz.underlying3) (rdn)))) fun w S R h x0 n0 e0 x1 n1 e1 x2 n2 e2=>h ⟨x0,x1,x2⟩ _ trivial (by show 1≤_;omega)
theorem xE{k:Nat} : Rd Tryz.prog (k+4) 144 fun w S R=>∀ (y:dO) n,(y.ok).holds w S→(fun _=>1) y≤n→R y.vs n :=
 rds Tryz.underlying144 (rdc (rwi Tryz.underlying3) (rdc (rwt Tryz.underlying9) (rdc (rwl (wt:=(fun _=>1)) Tryz.underlying142 (fun _=>rfl) zY) (rdc (fM) (rdn))))) fun w S R h x0 n0 e0 x1 n1 o1 e1 x2 n2 o2 a2 s2 e2 x3 n3 o3 e3=>h ⟨x0,x1,x2,x3⟩ _ ⟨o1,o2⟩ (by show 1≤_;omega)
def rv:aJ→Nat:=fun y:aJ=>(y.nodes.l.map fW).sum+y.imports.l.length
theorem aa1{k:Nat} : Rd Tryz.prog (k+7) 32 fun w S R=>∀ (y:aJ) n,(y.ok).holds w S→rv y≤n→R y.vs n :=
 rds Tryz.underlying32 (rdc (rwt Tryz.underlying9) (rdc (rwb Tryz.underlying4) (rdc (rwl (wt:=fW) Tryz.underlying22 (fun _=>rfl) aaZ) (rdc (rwl (wt:=(fun _=>1)) Tryz.underlying23 (fun _=>rfl) xF) (rdc (rwl (wt:=(fun _=>1)) Tryz.underlying24 (fun _=>rfl) zX) (rdc (rwl (wt:=(fun _=>1)) Tryz.underlying25 (fun _=>rfl) fM) (rdc (rwl (wt:=(fun _=>1)) Tryz.underlying25 (fun _=>rfl) fM) (rdc (acQ Tryz.underlying26 Tryz.underlying9) (rdc (fM) (rdc (rwl (wt:=(fun _=>1)) Tryz.underlying29 (fun _=>rfl) ph) (rdc (rwl (wt:=(fun _=>1)) Tryz.underlying30 (fun _=>rfl) xE) (rdn)))))))))))) fun w S R h x0 n0 o0 e0 x1 n1 e1 x2 n2 o2 a2 s2 e2 x3 n3 o3 a3 s3 e3 x4 n4 o4 a4 s4 e4 x5 n5 o5 a5 s5 e5 x6 n6 o6 a6 s6 e6 x7 n7 o7 a7 e7 x8 n8 o8 e8 x9 n9 o9 a9 s9 e9 x10 n10 o10 a10 s10 e10=>h ⟨x0,x1,x2,x3,x4,x5,x6,x7,x8,x9,x10⟩ _ ⟨o0,o2,a2,o3,a3,o4,a4,o5,o6,o7,a7,o9,a9,o10,a10⟩ (by rw [ab2] at s3 s4 s5 s6 s9 s10;unfold rv;dsimp only;omega)
end Go.Proofs.YtgkbbdgklpabpaaGreatDoor

namespace Go.Proofs.YtgkbbdgklpabpaaGreatDoor
open Go.RowKit Go.Lp Go.Sy
def lT(v:Int):Bool:=decide (v.tmod 8=0) && decide (v ≥ -512) && decide (v<512)
structure jk (ln:List Int) (c:bt):Prop where
 kind:c.r.to_.kind=0∨c.r.to_.kind=1
 idx:c.r.to_.kind=0→0≤c.r.to_.n∧c.r.to_.n<ln.length
 at_ : -1099511627776≤c.at_∧c.at_≤1099511627776
 off : -1099511627776≤c.r.to_.off∧c.r.to_.off≤1099511627776
 add : -1099511627776≤c.r.add∧c.r.add≤1099511627776
 ln:∀ z∈ln,-1099511627776≤z∧z≤1099511627776
def fG(ln:List Int)(c:bt):Int:=elt ln c.r.to_.n+c.r.to_.off+c.r.add
theorem jk.elt{ln:List Int}{c:bt}(h:jk ln c)(hk:c.r.to_.kind=0) : -1099511627776≤elt ln c.r.to_.n∧elt ln c.r.to_.n≤1099511627776 :=
 h.ln _ (List.mem_of_getElem? (cS (h.idx hk).2 (h.idx hk).1))
def om(ln:List Int)(c:bt):Bool:=decide (c.r.to_.kind=0) && !decide ((fG ln c-c.at_).tmod 8=0)
def dt(ln:List Int)(c:bt):Bool:=decide (c.r.to_.kind=1) || !lT (fG ln c-c.at_)
def eF(c:bt):bj:=if c.r.to_.kind=1 then ⟨0,1,c.r.to_.n,0⟩ else ⟨0,0,c.r.to_.n,c.r.to_.off+c.r.add⟩
def mq(c:bt)(s:bj):Bool:=decide (s.kind=(eF c).kind∧s.n=(eF c).n∧s.off=(eF c).off) && lT (s.at_-c.at_)
def b9(c:bt)(l:List bj):Int:=match l.findIdx? (mq c) with
 | some i=>i
 | none => -1
def dY(a:Int)(rs:List dE):List bt:=(rs.filter fun r=>decide (r.kind=6)).map fun r=>⟨a+r.at_,r⟩
def bR(ns:List aQ)(ln:List Int):List bt:=(ns.zip ln).flatMap fun p=>dY p.2 p.1.refs.l
theorem tw(a:Int)(rs:List dE):(dY a rs).length≤rs.length:=by unfold dY;rw [List.length_map];exact List.length_filter_le _ _
theorem lM{a:Int}{rs:List dE}{j:Nat}{r:dE}(h:rs[j]? = some r):dY a (rs.take (j+1))=dY a (rs.take j)++(if r.kind=6 then [⟨a+r.at_,r⟩] else []):=by
 unfold dY
 rw [List.take_add_one,h,Option.toList_some,List.filter_append,List.map_append]
 by_cases hk:r.kind=6
 · rw [if_pos hk,List.filter_cons_of_pos (by simpa using hk)];rfl
 · rw [if_neg hk,List.filter_cons_of_neg (by simpa using hk)];simp
theorem iB{ns:List aQ}{ln:List Int}{k:Nat}{x:aQ}{a:Int}(h:ns[k]? = some x)(ha:ln[k]? = some a):bR (ns.take (k+1)) (ln.take (k+1))=bR (ns.take k) (ln.take k)++dY a x.refs.l:=by
 have hz:∀ m,(ns.take m).zip (ln.take m)=(ns.zip ln).take m:=fun m=>by rw [List.zip,List.take_zipWith]
 unfold bR
 rw [hz,hz,List.take_add_one,show (ns.zip ln)[k]? = some (x,a) from List.getElem?_zip_eq_some.2 ⟨h,ha⟩,Option.toList_some,List.flatMap_append]
 simp
def dV(ns:List aQ):Nat:=(ns.map fun x=>x.refs.l.length).sum
theorem uQ{ns:List aQ}{k:Nat}{x:aQ}(h:ns[k]? = some x):dV (ns.take (k+1))=dV (ns.take k)+x.refs.l.length:=by
 unfold dV;rw [List.take_add_one,h,Option.toList_some,List.map_append,List.sum_append];simp
theorem zQ(ns:List aQ)(k:Nat):dV (ns.take k)≤dV ns:=by
 unfold dV
 conv=>rhs;rw [← List.take_append_drop k ns,List.map_append,List.sum_append]
 omega
open Go.Proofs.Tryz
attribute [local irreducible] aL aB awp aC fwp Quiet
theorem wx(v:Int):Con Tryz.prog 85 [.int .i64 6,.int .i64 v] [] [] fun r _ _=>r=.bool (lT v):=by
 refine EN2 Tryz.func85 rfl (go 2 [0,0,0,0] ?_)
 refine aa _ rfl (fun h1 => ?_) (fun h1 => ?_)
 ·skip
  exfalso;first | exact absurd h1 (by decide) | exact absurd h2 (by decide)
 ·skip
  refine go 2 [0,0] ?_
  refine aa _ rfl (fun h2 => ?_) (fun h2 => ?_)
  ·skip
   refine go 0 [0] ?_
   refine aU rfl (ee rfl rfl (by decide)) (go 2 [0,0,0,0,0,0,0,0,0,0] ?_)
   refine ae (aK (aj (FZ1 [] Tryz.results85 rfl ?_)))
   rfl
  ·skip
   exfalso;first | exact absurd h1 (by decide) | exact absurd h2 (by decide)
theorem nf(c:bt)(x:Int)(h : -4611686018427387904≤x-c.at_∧x-c.at_≤4611686018427387904):Con Tryz.prog 41 [c.val,.int .i64 x] [] [] fun r _ _=>r=.bool (lT (x-c.at_)):=by
 refine EN2 Tryz.func41 rfl (aSR (LT rfl (aS rfl rfl rfl (fun b0_0=>(aHN ?_)))))
 refine go 0 [0,0,0,0,0] ?_
 refine aU rfl (Q0 rfl (wx _)) (go 2 [0] ?_)
 refine ae (FZ1 [] Tryz.results41 rfl ?_)
 rfl
theorem pI(c:bt)(l:aN)(h:jk l.nodes.l c)(hk:c.r.to_.kind=0):Con Tryz.prog 40 [c.val,l.val] [ShF bd l.nodes] [] fun r _ _=>r=.int .i64 (fG l.nodes.l c):=by
 have h1:=h.elt hk;have h2:=h.off;have h3:=h.add
 refine EN2 Tryz.func40 rfl (aSR (LT rfl (aS rfl rfl rfl (fun b0_0=>(aHN ?_)))))
 refine LT rfl (aS rfl rfl rfl (fun b0_1=>(aHN ?_)))
 refine go 3 [0] ?_
 refine DR [] 18 (go 0 [0,6,2,4,2,0] ?_)
 refine dz 6 rfl (by kernel_rfl) true rfl rfl (fun _=>ai Tryz.underlying33 tk3 rfl ((.of (ax 0 rfl))) rfl (bN (i:=c.r.to_.n) (h.idx hk).2 (h.idx hk).1) (by have:=h.idx hk;omega) rfl) (fun h=>absurd h (by decide)) (fun ⟨b1_6,o1_6⟩ => ?_)
 refine go 2 [4,2,4,4,0,0,2,12,0,0,0] ?_
 refine ae (FZ1 [] Tryz.results40 rfl ?_)
 rfl
theorem r8(c:bt)(l:aN)(h:jk l.nodes.l c):Con Tryz.prog 18 [c.val,l.val] [ShF bd l.nodes] [] fun r _ _=>r=.bool (om l.nodes.l c):=by
 have h1:=h.elt;have h2:=h.off;have h3:=h.add;have h4:=h.at_
 have hg:c.r.to_.kind=0 → -3298534883328≤fG l.nodes.l c∧fG l.nodes.l c≤3298534883328:=fun hk=>by have:=h1 hk;unfold fG;omega
 refine EN2 Tryz.func18 rfl (aSR (LT rfl (aS rfl rfl rfl (fun b0_0=>(aHN ?_)))))
 refine LT rfl (aS rfl rfl rfl (fun b0_1=>(aHN ?_)))
 refine go 3 [0] ?_
 refine DR [] 16 (go 0 [2,4,0,0,0,0,46080,39942] ?_)
 refine bW 8 rfl rfl rfl (fun hc=>Q1 (ao (ah rfl hc) (ao (ah rfl hc) rfl)) (pI c l h (by simpa using hc)) 0 rfl) ?_
 refine go 0 [0,0,0] ?_
 refine bW 12 rfl rfl rfl (fun hc=>ee (ah rfl hc) rfl (by decide)) (go 2 [0,0,0] ?_)
 refine ae (FZ1 [] Tryz.results18 rfl ?_)
 rfl
theorem jD(c:bt)(l:aN)(h:jk l.nodes.l c):Con Tryz.prog 19 [c.val,l.val] [ShF bd l.nodes] [] fun r _ _=>r=.bool (dt l.nodes.l c):=by
 have h1:=h.elt;have h2:=h.off;have h3:=h.add;have h4:=h.at_
 have hg:c.r.to_.kind=0 → -3298534883328≤fG l.nodes.l c∧fG l.nodes.l c≤3298534883328:=fun hk=>by have:=h1 hk;unfold fG;omega
 have h0:¬ c.r.to_.kind=1→c.r.to_.kind=0:=fun hn=>h.kind.resolve_right hn
 refine EN2 Tryz.func19 rfl (aSR (LT rfl (aS rfl rfl rfl (fun b0_0=>(aHN ?_)))))
 refine LT rfl (aS rfl rfl rfl (fun b0_1=>(aHN ?_)))
 refine go 3 [0] ?_
 refine DR [] 14 (go 0 [2,4,0,0,0,0,46080,46080,39942] ?_)
 refine bW 9 rfl rfl rfl (fun hc=>Q1 (ao (ah rfl hc) (ao (ah rfl hc) rfl)) (pI c l h (h0 (by simpa using hc))) 0 rfl) ?_
 refine bW 10 rfl rfl rfl (fun hc=>Q0 (ao (ah rfl hc) (ao (ah rfl hc) rfl)) (nf c _ (by have:=hg (h0 (by simpa using hc));omega))) ?_
 refine go 2 [0,0,0] ?_
 refine ae (FZ1 [] Tryz.results19 rfl ?_)
 rfl
theorem pJ(c:bt){ln:List Int}(h:jk ln c):Con Tryz.prog 42 [c.val] [] [] fun r _ _=>r=(eF c).val:=by
 have h2:=h.off;have h3:=h.add
 refine EN1 Tryz.func42 rfl (aSR (LT rfl (aS rfl rfl rfl (fun b0_0=>(aHN ?_)))))
 refine LT rfl (aW (zs:=[.int .i64 0,.int .i64 0,.int .i64 0,.int .i64 0]) (by kernel_rfl) rfl (fun b0_1=>(aHN ?_)))
 refine go 2 [1,2,0,0,0] ?_
 refine aa _ rfl (fun h1 => ?_) (fun h1 => ?_)
 ·skip
  have hk:c.r.to_.kind=1:=by simpa using h1
  refine go 0 [1,2,1,0] ?_
  refine aU rfl (bP (l:=[(1,.const (.int .i64 1)),(2,.tmp 11)]) (zs:=[.int .i64 0,.int .i64 0,.int .i64 0,.int .i64 0]) (pl:=[(0,1),(1,1),(2,1),(3,1)]) (by kernel_rfl) (by kernel_rfl) (by kernel_rfl) rfl rfl rfl) (go 2 [10755] ?_)
  refine ae (aj ?_)
  refine sr [] [] rfl Tryz.results42 (ef 1 tk44 rfl rfl rfl) ?_ (.inr rfl)
  unfold eF;rw [if_pos hk]
 ·skip
  have hk:¬ c.r.to_.kind=1:=by simpa using h1
  refine go 0 [1,2,1,0,1,2,2,0,1,6,0,0] ?_
  refine aU rfl (bP (l:=[(1,.const (.int .i64 0)),(2,.tmp 16),(3,.tmp 24)]) (zs:=[.int .i64 0,.int .i64 0,.int .i64 0,.int .i64 0]) (pl:=[(0,1),(1,1),(2,1),(3,1)]) (by kernel_rfl) (by kernel_rfl) (by kernel_rfl) rfl rfl rfl) (go 2 [10755] ?_)
  refine ae ?_
  refine sr [] [] rfl Tryz.results42 (ef 1 tk44 rfl rfl rfl) ?_ (.inr rfl)
  unfold eF;rw [if_neg hk]
theorem na(u:aJ)(l:aN)(hl:l.nodes.l.length=u.nodes.l.length)(hR:dV u.nodes.l≤100000000)
   (hA:∀ (k:Nat) (x:aQ) (a:Int),u.nodes.l[k]? = some x→l.nodes.l[k]? = some a→∀ r∈x.refs.l,-4611686018427387904≤a+r.at_∧a+r.at_≤4611686018427387904) :
   Con Tryz.prog 17 [u.val,l.val] [ShF aQ.row u.nodes,bu aQ.ok u.nodes.l,ShF bd l.nodes] [] fun r ps hp=>hp=[]∧∃ C:Sl bt,(r=C.val∧ps=[ShF bt.row C])∧C.l=bR u.nodes.l l.nodes.l:=by
 refine EN2 Tryz.func17 rfl (aO (.of (ax 0 rfl)) (fun hlen=>(aSR (LT rfl (aS rfl rfl rfl (fun b0_0=>(aHN ?_)))))))
 refine LT rfl (aS rfl rfl rfl (fun b0_1=>(aHN ?_)))
 refine go 4 [0,0] ?_
 refine cV 67 8 ?_
 show awp _ _ _ _ ⟨_,_,[_,_,_]⟩
 refine go 3 [2,0,52,0] ?_
 refine aF [3,5,11,12,13] [2,1,0] [1,2] (fun (q:Nat × (Value × List bt)) st=>(q.1≤u.nodes.l.length∧q.2.2=bR (u.nodes.l.take q.1) (l.nodes.l.take q.1)∧q.2.2.length≤dV (u.nodes.l.take q.1))∧st=⟨[(3,true,.pointer (some ⟨b0_1,0,none⟩)),(5,true,q.2.1),(11,true,u.nodes.val),(12,true,.int .i64 u.nodes.l.length),(13,true,.int .i64 q.1)],[ShF aQ.row u.nodes,bu aQ.ok u.nodes.l,ShF bd l.nodes],[Box b0_1 36 l.vs,aP q.2.1 67 8 (q.2.2.map bt.row)]⟩) (fun q=>u.nodes.l.length-q.1) rfl (⟨(0,(_,[])),⟨Nat.zero_le _,rfl,Nat.zero_le _⟩,rfl⟩) ?_
 rintro ⟨k,v,cs⟩ st ⟨⟨hk,hc,hn⟩,rfl⟩
 dsimp only at hk hc hn
 refine go 3 [0] ?_
 refine aa _ rfl (fun h1 => ?_) (fun h1 => ?_)
 ·skip
  have hk':k<u.nodes.l.length:=by simpa using h1
  obtain ⟨x,hx⟩:∃ x,u.nodes.l[k]? = some x:=⟨_,List.getElem?_eq_getElem hk'⟩
  obtain ⟨a,ha⟩:∃ a,l.nodes.l[k]? = some a:=⟨_,List.getElem?_eq_getElem (by omega)⟩
  have hrn:=uQ hx
  have hrl:=zQ u.nodes.l (k+1)
  refine go 0 [0] ?_
  refine UI Tryz.underlying22 tk52 0 rfl rfl rfl rfl rfl (ak hx) rfl rfl (fun ⟨b4_1,o4_1⟩=>(go 0 [35330] ?_))
  refine LT rfl (aW (zs:=[.string .empty,.string .empty,.int .i64 0,.int .i64 0,.int .i64 0,.string .empty,.slice none 0 0,.slice none 0 0,.slice none 0 0,.slice none 0 0,.slice none 0 0,.slice none 0 0]) (by kernel_rfl) rfl (fun b4_3=>(aHN ?_)))
  refine go 3 [0,35334] ?_
  refine aO (aQ.f_refs (Ent.all (f:=aQ.ok) (.of (ax 2 rfl)) hx)) (fun hrf=>(go 3 [6,6,54,0] ?_))
  refine aF [3,5,6,11,12,13,19,20,21] [2,1,0] [0,1] (fun (q:Nat × (Value × List bt)) st=>(q.1≤x.refs.l.length∧q.2.2=bR (u.nodes.l.take k) (l.nodes.l.take k)++dY a (x.refs.l.take q.1)∧q.2.2.length≤dV (u.nodes.l.take k)+q.1)∧st=⟨[(3,true,.pointer (some ⟨b0_1,0,none⟩)),(5,true,q.2.1),(6,true,.int .i64 k),(11,true,u.nodes.val),(12,true,.int .i64 u.nodes.l.length),(13,true,.int .i64 k),(19,true,x.refs.val),(20,true,.int .i64 x.refs.l.length),(21,true,.int .i64 q.1)],[ShF aQ.row u.nodes,bu aQ.ok u.nodes.l,ShF bd l.nodes],[Box b0_1 36 l.vs,aP q.2.1 67 8 (q.2.2.map bt.row)]⟩) (fun q=>x.refs.l.length-q.1) rfl (⟨(0,(v,cs)),⟨Nat.zero_le _,by rw [hc,List.take_zero];exact (List.append_nil _).symm,hn⟩,rfl⟩) ?_
  rintro ⟨j,w,ds⟩ st ⟨⟨hj,hd,hm⟩,rfl⟩
  dsimp only at hj hd hm
  refine go 3 [0] ?_
  refine aa _ rfl (fun h2 => ?_) (fun h2 => ?_)
  ·skip
   have hj':j<x.refs.l.length:=by simpa using h2
   obtain ⟨r,hr⟩:∃ r,x.refs.l[j]? = some r:=⟨_,List.getElem?_eq_getElem hj'⟩
   have har:=hA k x a hx ha r (List.mem_of_getElem? hr)
   have hsn:=lM (a:=a) hr
   refine aD (an (aq (aH (aSR (bI true rfl rfl (fun _=>ai Tryz.underlying45 tk54 rfl ((aQ.f_refs (Ent.all (f:=aQ.ok) (.of (ax 1 rfl)) hx))) rfl (ak hr) rfl rfl) (fun h=>absurd h (by decide)) (fun ⟨b7_0,o7_0⟩=>(go 0 [19970] ?_)))))))
   refine LT rfl (aW (zs:=[.int .i64 0,.int .i64 0,.int .i64 0,.int .i64 0,.int .i64 0,.int .i64 0,.int .i64 0]) (by kernel_rfl) rfl (fun b7_2=>(aHN ?_)))
   refine go 2 [19974,1,6,0] ?_
   refine aa _ rfl (fun h3 => ?_) (fun h3 => ?_)
   ·skip
    have hk6:r.kind=6:=by simpa using h3
    rw [if_pos hk6] at hsn
    refine DR [12] 14 (go 0 [0,0,0,0] ?_)
    refine XI 4 Tryz.underlying33 tk3 3 rfl rfl rfl rfl rfl rfl (ak ha) rfl rfl (fun ⟨b9_4,o9_4⟩=>(go 0 [4,0,12,0,39948] ?_))
    refine bV 10 rfl rfl (bP (l:=[(0,.tmp 36),(1,.tmp 37)]) (zs:=[.int .i64 0,.int .i64 0,.int .i64 0,.int .i64 0,.int .i64 0,.int .i64 0,.int .i64 0,.int .i64 0]) (pl:=[(0,1),(1,7)]) (by kernel_rfl) (by kernel_rfl) (by kernel_rfl) rfl rfl rfl) (dG (q:=true) 11 rfl (by kernel_rfl) rfl rfl (WL (zs:=[.int .i64 0,.int .i64 0,.int .i64 0,.int .i64 0,.int .i64 0,.int .i64 0,.int .i64 0,.int .i64 0]) el64 rfl rfl rfl (.more rfl (.v rfl (.v rfl (.v rfl (.v rfl (.v rfl (.v rfl (.v rfl (.v rfl .nil)))))))) .nil) rfl rfl (fun v9_11=>(bST rfl ?_))))
    refine dG 12 rfl (by kernel_rfl) rfl rfl (bH 1 el64 rfl rfl rfl rfl (cP 3 el64 rfl (by simp)) (by first | assumption | simp) (by show (ds.map bt.row).length+1≤_;rw [List.length_map];exact Nat.le_trans (show ds.length+1≤100000001 by omega) (by decide)) ((ds++[bt.mk (a+r.at_) r]).length) (by show (ds.map bt.row).length+1=_;rw [List.length_map,List.length_append];rfl) (fun v9_12 c9_12 => ?_))
    refine bST rfl ?_
    refine go 1 [0,0,0] ?_
    refine an ?_
    refine ⟨[3,5,6,11,12,13,19,20,21],[2,1,0],[0,1],rfl,?_⟩
    exact ⟨(j+1,(_,ds++[bt.mk (a+r.at_) r])),⟨⟨hj',by dsimp only;rw [hsn,hd,List.append_assoc],by dsimp only;rw [List.length_append];simp;omega⟩,by dsimp only;rw [List.map_append];rfl⟩,by dsimp only;omega⟩
   ·skip
    have hk6:¬ r.kind=6:=by simpa using h3
    rw [if_neg hk6,List.append_nil] at hsn
    refine go 1 [0,0] ?_
    refine an ?_
    refine ⟨[3,5,6,11,12,13,19,20,21],[2,1,0],[0,1],rfl,?_⟩
    exact ⟨(j+1,(w,ds)),⟨⟨hj',by dsimp only;rw [hsn,hd],by dsimp only;omega⟩,rfl⟩,by dsimp only;omega⟩
  ·skip
   have hje:j=x.refs.l.length:=by have:=of_decide_eq_false h2;omega
   subst hje
   rw [List.take_length] at hd
   refine go 1 [0,0] ?_
   refine an ?_
   refine ⟨[3,5,11,12,13],[2,1,0],[0,1],rfl,?_⟩
   exact ⟨(k+1,(w,ds)),⟨⟨hk',by dsimp only;rw [hd,iB hx ha],by dsimp only;omega⟩,rfl⟩,by dsimp only;omega⟩
 ·skip
  have hke:k=u.nodes.l.length:=by have:=of_decide_eq_false h1;omega
  subst hke
  rw [List.take_length,← hl,List.take_length] at hc
  refine aY (bb (bb (bg (an (aq (cB 1 rfl (fun _ _ _ h=>df h) (fun ⟨a3,c3,hv⟩ => ?_)))))))
  rw [List.length_map] at hv
  dsimp only at hv ⊢
  subst hv
  refine cK 1 (ShF bt.row ⟨a3,c3,cs⟩) rfl (fun _ _ _ h=>db h) (go 2 [0,0] ?_)
  refine ae ?_
  refine bB [3] [] rfl Tryz.results17 rfl ?_ (.inr rfl)
  exact ⟨rfl,⟨a3,c3,cs⟩,⟨rfl,rfl⟩,hc⟩
abbrev tg(c:bt)(a:Int):List Value:=[.int .i64 a,.int .i64 (eF c).kind,.int .i64 (eF c).n,.int .i64 (eF c).off]
theorem rZ(b5 b2:Nat)(c:bt)(s:bj)(a:Int)(h : -4611686018427387904≤s.at_-c.at_∧s.at_-c.at_≤4611686018427387904) :
   Con Tryz.prog 44 [s.val,.pointer (some ⟨b5,0,none⟩),.pointer (some ⟨b2,0,none⟩)] [At b2 0 c.row] [Box b5 44 (tg c a)] fun r ps hp=>ps=[]∧r=.bool (mq c s)∧hp=[Box b5 44 (tg c s.at_)]:=by
 refine EN3 Tryz.func44 rfl (aSR (LT rfl (aS rfl rfl rfl (fun b0_0=>(aHN ?_)))))
 refine go 0 [0,0,3,0,0,10755,10752] ?_
 refine aU rfl (lC (by kernel_rfl) (by kernel_rfl) (by kernel_rfl) (fun w=>ew 9997 _ _ _ [0,1,2,3] w (by kernel_rfl) (by kernel_rfl) rfl rfl) rfl rfl) (go 0 [0,23041,0,3] ?_)
 refine aG rfl rfl (fun hc=>Q0 (ao (ah rfl hc) (ao (ah rfl hc) rfl)) (nf c _ h)) (go 2 [0,0] ?_)
 refine ae (FZ1 [0] Tryz.results44 rfl ?_)
 refine ⟨rfl,congrArg Value.bool ?_,rfl⟩
 unfold mq;simp [eD,eG];rfl
theorem pM(c:bt)(l:List bj)(k:Nat)(hk:k≤l.length)(hn:∀ s∈l.take k,mq c s=false):(∀ s,l[k]? = some s→mq c s=true→b9 c l=k)∧(k=l.length→b9 c l = -1):=by
 constructor
 · intro s hs ht
   have:l.findIdx? (mq c)=some k:=by
     rw [List.findIdx?_eq_some_iff_getElem]
     obtain ⟨h1,h2⟩:=List.getElem?_eq_some_iff.1 hs
     refine ⟨h1,by rw [h2];exact ht,fun j hj => ?_⟩
     have:=hn (l[j]) (List.mem_of_getElem? (i:=j) (by rw [List.getElem?_take_of_lt hj];exact List.getElem?_eq_getElem _))
     rw [this];decide
   unfold b9;rw [this]
 · intro he
   have:l.findIdx? (mq c)=none:=by
     rw [List.findIdx?_eq_none_iff]
     intro s hs
     exact hn s (by rw [he,List.take_length];exact hs)
   unfold b9;rw [this]
theorem yO(b5 b2:Nat)(c:bt)(l:Sl bj)(a:Int)(h:∀ s∈l.l,-4611686018427387904≤s.at_-c.at_∧s.at_-c.at_≤4611686018427387904) :
   Con Tryz.prog 43 [l.val,.func (.func 44) #[] #[.pointer (some ⟨b5,0,none⟩),.pointer (some ⟨b2,0,none⟩)]] [ShF bj.row l,At b2 0 c.row] [Box b5 44 (tg c a)] fun r ps hp=>ps=[]∧r=.int .i64 (b9 c l.l)∧∃ a',hp=[Box b5 44 (tg c a')]:=by
 refine EN2 Tryz.func43 rfl (aO (.of (ax 0 rfl)) (fun hlen=>(go 3 [0,0,44,0] ?_)))
 refine aF [0,1,7,8] [1,0] [0] (fun (q:Nat × Int) st=>(q.1≤l.l.length∧∀ s∈l.l.take q.1,mq c s=false)∧st=⟨[(0,true,l.val),(1,true,.func (.func 44) #[] #[.pointer (some ⟨b5,0,none⟩),.pointer (some ⟨b2,0,none⟩)]),(7,true,.int .i64 l.l.length),(8,true,.int .i64 q.1)],[ShF bj.row l,At b2 0 c.row],[Box b5 44 (tg c q.2)]⟩) (fun q=>l.l.length-q.1) rfl (⟨(0,a),⟨Nat.zero_le _,fun s hs=>by cases hs⟩,rfl⟩) ?_
 rintro ⟨k,a1⟩ st ⟨⟨hk,hn⟩,rfl⟩
 dsimp only at hk hn
 have hgo:=pM c l.l k hk hn
 refine go 3 [0] ?_
 refine aa _ rfl (fun h1 => ?_) (fun h1 => ?_)
 ·skip
  have hk':k<l.l.length:=by simpa using h1
  obtain ⟨s,hs⟩:∃ s,l.l[k]? = some s:=⟨_,List.getElem?_eq_getElem hk'⟩
  refine go 0 [0,0,0,0,0] ?_
  refine UI Tryz.underlying34 tk44 0 rfl rfl rfl rfl rfl (ak hs) rfl rfl (fun ⟨b4_3,o4_3⟩=>(go 0 [10754] ?_))
  refine LF rfl (gh [0] [0] (by kernel_rfl) rfl rfl rfl rfl rfl (rZ b5 b2 c s a1 (h s (List.mem_of_getElem? hs))) ?_)
  rintro _ _ _ ⟨rfl,rfl,rfl⟩
  refine aST ?_
  refine aNn ?_
  refine aa _ rfl (fun h2 => ?_) (fun h2 => ?_)
  ·skip
   refine go 2 [0,0] ?_
   refine ae (aK (aj (aj (aK (aj (FZ1 [0] Tryz.results43 rfl ?_))))))
   exact ⟨rfl,congrArg _ (hgo.1 s hs h2).symm,_,rfl⟩
  ·skip
   refine go 1 [0,0] ?_
   refine an ?_
   refine ⟨[0,1,7,8],[1,0],[0],rfl,?_⟩
   refine ⟨(k+1,s.at_),⟨⟨hk',fun t ht => ?_⟩,rfl⟩,by dsimp only;omega⟩
   rw [List.take_add_one,hs] at ht
   rcases List.mem_append.1 ht with ht | ht
   · exact hn t ht
   · rw [List.mem_singleton.1 ht];exact h2
 ·skip
  refine go 2 [0] ?_
  refine ae (FZ1 [0] Tryz.results43 rfl ?_)
  exact ⟨rfl,congrArg _ (hgo.2 (by simp at h1;omega)).symm,_,rfl⟩
theorem jC(c:bt){ln:List Int}(hc:jk ln c)(l:Sl bj)(h:∀ s∈l.l,-4611686018427387904≤s.at_-c.at_∧s.at_-c.at_≤4611686018427387904) :
   Con Tryz.prog 20 [c.val,l.val] [ShF bj.row l] [] fun r _ _=>r=.int .i64 (b9 c l.l):=by
 refine EN2 Tryz.func20 rfl (aSR (LT rfl (aS rfl rfl rfl (fun b0_0=>(aHN ?_)))))
 refine go 0 [0,23040] ?_
 refine aU rfl (Q0 rfl (pJ c hc)) (LT rfl (aW (zs:=[.int .i64 0,.int .i64 0,.int .i64 0,.int .i64 0]) (by kernel_rfl) rfl (fun b1_2=>(aHN ?_))))
 refine go 3 [10755] ?_
 refine aZ 0 rfl rfl ?_
 show awp _ _ _ _ ⟨_,At _ 0 _::_,_⟩
 refine az (aM rfl (aU rfl (cA (l:=[.tmp 5,.tmp 2]) rfl) (LF rfl (EC [0,1] [1] rfl (yO b1_2 b0_0 c l _ h) ?_))))
 rintro _ _ _ ⟨rfl,rfl,a',rfl⟩
 refine aST ?_
 refine go 2 [0] ?_
 refine ae (FZ1 [] Tryz.results20 rfl ?_)
 rfl
def gw(n t:Int):Int:=if ((t<1∨1099511627776<t)∨n < -1152921504606846976)∨1152921504606846976<n then n else n-n % t
def upI(n t:Int):Int:=if gw n t=n then n else gw n t+t
theorem nj{n t:Int} : gw n t≤n∧(gw n t=n∨(1≤t∧t≤1099511627776∧n-t<gw n t ∧ -1152921504606846976≤n∧n≤1152921504606846976)):=by
 unfold gw
 split
 · omega
 · have:=Int.emod_nonneg n (show t≠0 by omega)
   have:=Int.emod_lt_of_pos n (show 0<t by omega)
   omega
theorem wo(n t:Int)(hn:I64 n):Con Tryz.prog 126 [.int .i64 n,.int .i64 t] [] [] fun r _ _=>r=.int .i64 (gw n t):=by
 unfold I64 at hn
 refine EN2 Tryz.func126 rfl (go 2 [0,0,0,0,0,0,0,0,0,0,0,0,0,0,0] ?_)
 refine aa _ rfl (fun h1 => ?_) (fun h1 => ?_)
 ·skip
  have hb:((t<1∨1099511627776<t)∨n < -1152921504606846976)∨1152921504606846976<n:=by simp at h1;omega
  refine go 2 [0,0] ?_
  refine ae (aj (FZ1 [] Tryz.results126 rfl ?_))
  unfold gw;rw [if_pos hb]
 ·skip
  have hb:¬ (((t<1∨1099511627776<t)∨n < -1152921504606846976)∨1152921504606846976<n):=by simp at h1;omega
  have hm1:=Int.emod_nonneg n (show t≠0 by omega)
  have hm2:=Int.emod_lt_of_pos n (show 0<t by omega)
  have ht:n.tmod t=n % t∨n.tmod t=n % t-t:=by rw [Int.tmod_eq_emod];split<;>omega
  refine go 0 [0,0] ?_
  refine aU rfl (ee rfl rfl (by omega)) (go 2 [0,0,0] ?_)
  refine aa _ rfl (fun h2 => ?_) (fun h2 => ?_)
  ·skip
   have ht2:n.tmod t+t=n % t:=by simp at h2;omega
   refine go 2 [0,0,0,0,0,0,0,0] ?_
   refine ae (FZ1 [] Tryz.results126 rfl ?_)
   unfold gw;rw [if_neg hb,← ht2]
  ·skip
   have ht2:n.tmod t=n % t:=by simp at h2;omega
   refine go 2 [0,0,0,0] ?_
   refine ae (FZ1 [] Tryz.results126 rfl ?_)
   unfold gw;rw [if_neg hb,← ht2]
theorem aaF(n t:Int)(hn:I64 n):Con Tryz.prog 90 [.int .i64 n,.int .i64 t] [] [] fun r _ _=>r=.int .i64 (upI n t):=by
 have hd := @nj n t
 unfold I64 at hn
 refine EN2 Tryz.func90 rfl (go 0 [0,0,0] ?_)
 refine aU rfl (Q0 rfl (wo n t hn)) (go 2 [0,0,0,0] ?_)
 refine aa _ rfl (fun h1 => ?_) (fun h1 => ?_)
 ·skip
  have hb:gw n t≠n:=by simpa using h1
  refine go 2 [0,0,0,0] ?_
  refine ae (aj (FZ1 [] Tryz.results90 rfl ?_))
  unfold upI;rw [if_neg hb]
 ·skip
  have hb:gw n t=n:=by simpa using h1
  refine go 2 [0,0] ?_
  refine ae (FZ1 [] Tryz.results90 rfl ?_)
  unfold upI;rw [if_pos hb]
end Go.Proofs.YtgkbbdgklpabpaaGreatDoor

