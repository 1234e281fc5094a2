/- Parts of the proof, in build order. No condition. -/
import Derived.Test.YtebnelfdimiifaaGreatDoorSa07
import Derived.Lib.Bytealg
import Derived.Test.YtebnelfdimiifaaGreatDoorSa06
import Derived.Test.YtebnelfdimiifaaGreatDoorSa05
import Derived.Deep.Slices
import Derived.OpenShut
import Derived.Test.YtebnelfdimiifaaGreatDoorRows
import Derived.WalkKit
import Derived.ProofKit
import Derived.ShutString
import Derived.ChangeOld
import Derived.Below
import Derived.LaidMore
import Derived.Stop.Joined
set_option linter.unusedSimpArgs false
set_option linter.unusedVariables false
set_option maxHeartbeats 1000000
set_option maxRecDepth 20000
namespace Go.Sy
open Go.RowKit Go.Lp
section
variable {P:Program} {n:Fr} {s:Sta} {d:Option Tmp} {ty:TypeId} {pos:String} {af:Array Edge} {gd:Option (Nat × Bool)} {v:Value}
theorem wrap_u8(u:UInt8):IntKind.i64.wrap (u.toNat:Int)=u.toNat:=by have:=u.toNat_lt;rw [IntKind.wrap_i64];omega
theorem aao{x:Operand}{U:TypeId}{ag:Bool}{k b p q:Nat}{row:List D}(o:Nat)(hk:tyk P U=some (ag,k))(hx:ev s.env x=some (true,.pointer (some ⟨b,q,none⟩)))(hi:At b p row∈s.ps)(ho:q=p+o)(hv:rdD ag k row o=some v) :
   Quiet P n ⟨d,.load U x,ty,pos,af,gd⟩ s v:=fun w S fp a hst he hn=>by
 subst ho
 have h1:=he.val hx rfl
 have:(execOp a.eval ⟨d,.load U x,ty,pos,af,gd⟩).run P w=.ok (.value v) w:=by
   unfold execOp;dsimp only;rw [h1]
   have:=p7 (P:=P) hk hv (hst.per _ hi)
   show ((loadVar U ⟨b,p+o,none⟩).bind fun r=>Sem.pure (Next.value r)).run P w=_
   rw [Sem.run_bind',this];rfl
 rw [this];exact cg _ _
theorem adY{cs:List Value}{o:Nat}{k:Nat}(h:cs[o]? = some v):rdD false k (cs.map D.v) o=some v:=by
 unfold rdD;simp [h]
end
end Go.Sy
namespace Go.Proofs.YtebnelfdimiifaaGreatDoor
open Go.RowKit Go.Lp Go.Sy
end Go.Proofs.YtebnelfdimiifaaGreatDoor

namespace Go.Sy
open Go.RowKit Go.Lp
theorem ic{P:Program}{n:Fr}{s:Sta}{d:Option Tmp}{ty:TypeId}{pos:String}{af:Array Edge}{gd:Option (Nat × Bool)}{x y:Operand}{t t':TypeId}{k:IntKind}{a b:Int}(hx:ev s.env x=some (true,.int k a))(hy:ev s.env y=some (true,.int k b)):Quiet P n ⟨d,.binOp .xor t x y t',ty,pos,af,gd⟩ s (.int k (bits .xor k a b)):=.run2 hx hy fun ρ w h1 h2=>by unfold execOp;dsimp only;rw [h1,h2];cases k<;>rfl
theorem ae6{P:Program}{n:Fr}{s:Sta}{d:Option Tmp}{ty:TypeId}{pos:String}{af:Array Edge}{gd:Option (Nat × Bool)}{x:Operand}{t:TypeId}{k:IntKind}{z:Int}(hx:ev s.env x=some (true,.int k z)):Quiet P n ⟨d,.unOp .xor t x,ty,pos,af,gd⟩ s (.int k (bits .xor k (if k.signed then -1 else k.max) z)):=.run1 hx fun ρ w h=>by unfold execOp;dsimp only;rw [h];rfl
end Go.Sy
namespace Go.Proofs.YtebnelfdimiifaaGreatDoor
open Go.RowKit Go.Lp Go.Sy
theorem aep(z:Int):0≤IntKind.u64.wrap z:=by rw [IntKind.wrap_u64];omega
theorem zq(z:Int):0≤bits .and .u64 (IntKind.u64.wrap z) 63:=by
 obtain ⟨k,hk⟩:=Int.eq_ofNat_of_zero_le (aep z)
 have hlt:IntKind.u64.wrap z<18446744073709551616:=by rw [IntKind.wrap_u64];omega
 rw [hk] at hlt ⊢
 have:=bits_and_u64_nat k 63 (by omega) (by omega)
 rw [show (63:Int)=((63:Nat):Int) from rfl,this]
 omega
abbrev fi(zs:List Int):List Value:=zs.map fun z=>.int .u64 z
def fX:List Int:=[0,1,62,28,27,36,44,6,55,20,3,10,43,25,39,41,45,15,21,8,18,2,61,56,14]
def eu:List Int:=[1,32898,9223372036854808714,9223372039002292224,32907,2147483649,9223372039002292353,9223372036854808585,138,136,2147516425,2147483658,2147516555,9223372036854775947,9223372036854808713,9223372036854808579,9223372036854808578,9223372036854775936,32778,9223372039002259466,9223372039002292353,9223372036854808704,2147483649,9223372039002292232]
theorem agz{zs:List Int}{k:Nat}{z:Int}(h:k<zs.length):wrC (fi zs) k [.int .u64 z]=fi (zs.set k z):=by
 unfold wrC
 apply List.ext_getElem?
 intro j
 simp only [fi,List.map_set]
 rw [List.getElem?_set,List.getElem?_append]
 simp
 by_cases h1:j<k
 · rw [if_pos (by omega),if_neg (by omega),List.getElem?_take_of_lt h1];simp
 · by_cases h2:k=j
   · subst h2
     rw [if_neg (by omega),if_pos rfl,if_pos h]
     rw [Nat.min_eq_left (by omega)];simp
   · rw [if_neg (by omega),if_neg h2,Nat.min_eq_left (by omega)]
     obtain ⟨m,hm⟩:∃ m,j-k=m+1:=⟨j-k-1,by omega⟩
     rw [hm,List.getElem?_cons_succ,List.getElem?_drop]
     simp
     congr 2
     omega
theorem aaz{zs:List Int}{k:Nat}(h:k<zs.length):(fi zs)[k]? = some (.int .u64 (zs.getD k 0)):=by
 simp [fi,h]
theorem aeo{zs:List Int}{k:Nat}(h:k<zs.length):(fi zs).toArray[k]? = some (.int .u64 (zs.getD k 0)):=by rw [List.getElem?_toArray];exact aaz h
theorem i6{zs:List Int}{k o:Nat}(h:k<zs.length)(e:o=k):rdC false 1 (fi zs) o=some (.int .u64 (zs.getD k 0)):=by
 subst e;exact aaz h
theorem tm5(j:Nat):((j:Int)).tmod 5=((j % 5:Nat):Int):=rfl
theorem td5(j:Nat):((j:Int)).tdiv 5=((j / 5:Nat):Int):=rfl
theorem wq{j:Nat}(h:j<25):IntKind.i64.wrap ((j:Int).tdiv 5)=((j / 5:Nat):Int):=by rw [td5,IntKind.wrap_i64];omega
theorem aeO(j m:Nat):((j:Int)-(j:Int).tmod 5)+((j:Int).tmod 5+(m:Int)).tmod 5=((j-j % 5+(j % 5+m) % 5:Nat):Int):=by
 rw [tm5]
 have:((↑(j % 5):Int)+m).tmod 5=(((j % 5+m) % 5:Nat):Int):=rfl
 rw [this];omega
theorem nX{zs:List Int}{k o:Nat}{z:Int}(h:k<zs.length)(e:o=k):wrC (fi zs) o [.int .u64 z]=fi (zs.set k z):=by subst e;exact agz h
open Go.Proofs.Tryz
def fh:Per:=At 1 0 ((fX.map fun z=>Value.int .i64 z).map D.v)
def ff:Per:=At 0 0 ((fi eu).map D.v)
end Go.Proofs.YtebnelfdimiifaaGreatDoor

namespace Go.Sy
open Go.RowKit Go.Deep
section
variable (P:Program)
def mW:Nat→List Field→Nat→Bool
 | off,[],tot=>off == tot
 | off,f::fs,tot=>f.offset == off && decide (off+P.cellsOf f.type≤tot) && mW (off+P.cellsOf f.type) fs tot
def rdT:Nat→TypeId→Bool
 | 0,_=>false
 | k+1,t=>match P.underlying t with
   | some .bool=>true
   | some (.int _)=>true
   | some .string=>true
   | some (.slice e)=>decide (0<P.cellsOf e) && rdT k e
   | some (.struct fs)=>mW P 0 fs.toList (P.cellsOf t) && fs.toList.all (fun f=>rdT k f.type)
   | _=>false
def okF(ok:TypeId→List D→Prop):List Field→List D→Prop
 | [],ds=>ds=[]
 | f::fs,ds=>∃ d1 d2,ds=d1++d2∧ok f.type d1∧okF ok fs d2
def okD:Nat→TypeId→List D→Prop
 | 0,_,_=>False
 | k+1,t,ds=>match P.underlying t with
   | some .bool=>∃ b,ds=[.v (.bool b)]
   | some (.int i)=>∃ n,ds=[.v (.int i n)]∧(Lit.int i n).wf=true
   | some .string=>∃ s,ds=[.v (.string s)]∧s.size≤maxLen
   | some (.slice e)=>∃ rows,ds=[.sl rows]∧rows.length≤maxLen∧∀ r∈rows,okD k e r
   | some (.struct fs)=>okF (okD k) fs.toList ds
   | _=>False
end
variable {P:Program} {H:Type} {enc:TypeId × Value→H} {w:World} {base:Nat} {spare:Nat→Bool} {held:Bool}
def Rds(w:World)(cs:List Value)(off:Nat)(ds:List D):Prop:=∀ (j:Nat) (d:D),ds[j]? = some d→∃ u,cs[off+j]? = some u∧u.oneCell'=true∧fv w (fun b=>b<w.heap.size) u d
section
theorem lQ{u:Value}{d:D}(h1:u.oneCell'=true)(h:fv w (fun b=>b<w.heap.size) u d):Rds w [u] 0 [d]:=fun j e hj=>by
 cases j with
 | zero=>simp at hj;subst hj;exact ⟨u,rfl,h1,h⟩
 | succ j=>simp at hj
theorem tI{a:Addr}{u:Value}(h:w.cell? a=some u):a=⟨a.block,a.off,none⟩∧a.block<w.heap.size:=by
 obtain ⟨b,o,sp⟩:=a
 unfold World.cell? at h
 split at h
 · rename_i hb
   refine ⟨?_,(Array.getElem?_eq_some_iff.1 hb).1⟩
   cases sp with
   | none=>rfl
   | some z=>simp at h
 · cases h
theorem aeU{k:Nat}{t:TypeId}{ds:List D}{i:IntKind}(hu:P.underlying t=some (.int i))(h:okD P (k+1) t ds):∃ n,ds=[.v (.int i n)]∧(Lit.int i n).wf=true:=by unfold okD at h;rw [hu] at h;exact h
theorem adt{k:Nat}{t:TypeId}{ds:List D}(hu:P.underlying t=some .bool)(h:okD P (k+1) t ds):∃ b,ds=[.v (.bool b)]:=by unfold okD at h;rw [hu] at h;exact h
theorem yR{k:Nat}{t:TypeId}{ds:List D}(hu:P.underlying t=some .string)(h:okD P (k+1) t ds):∃ s,ds=[.v (.string s)]∧s.size≤maxLen:=by unfold okD at h;rw [hu] at h;exact h
theorem abG{k:Nat}{t e:TypeId}{ds:List D}(hu:P.underlying t=some (.slice e))(h:okD P (k+1) t ds):∃ rows,ds=[.sl rows]∧rows.length≤maxLen∧∀ r∈rows,okD P k e r:=by unfold okD at h;rw [hu] at h;exact h
theorem yS{k:Nat}{t:TypeId}{ds:List D}{fs:Array Field}(hu:P.underlying t=some (.struct fs))(h:okD P (k+1) t ds):okF (okD P k) fs.toList ds:=by unfold okD at h;rw [hu] at h;exact h
theorem ahk{n:Int}(h:(Lit.int .i64 n).wf=true) : -9223372036854775808≤n∧n≤9223372036854775807:=by
 simp only [Lit.wf,Bool.and_eq_true,decide_eq_true_eq] at h
 have e1:IntKind.i64.min = -9223372036854775808:=by decide +kernel
 have e2:IntKind.i64.max=9223372036854775807:=by decide +kernel
 rw [e1,e2] at h
 exact h
theorem ag2{ps:List Per}(h:∀ p∈ps,p.holds w fun b=>b<w.heap.size):St w (fun b=>b<w.heap.size) (fun _ _=>False) ps [] :=
 ⟨h,fun i R hR=>by simp at hR,fun i hi=>by simp at hi,fun i j hi=>by simp at hi,fun _ h=>h⟩
end
end Go.Sy

namespace Go.Sy
open Go.RowKit
mutual
/-- the cells of a datum of bools, integers, strings, arrays and structs -/
def jJ{H:Type} : DataW H→Option (List Value)
 | .lit (.string bs)=>some [.string ⟨bs.toArray⟩]
 | .lit (.int k n)=>some [.int k n]
 | .lit (.bool b)=>some [.bool b]
 | .agg ps=>litAll ps
 | _=>none
def litAll{H:Type} : List (DataW H)→Option (List Value)
 | []=>some []
 | d::ds=>match jJ d,litAll ds with
   | some a,some b=>some (a++b)
   | _,_=>none
end
section
variable (P:Program)
def rdA:Nat→TypeId→Bool
 | 0,_=>false
 | k+1,t=>match P.underlying t with
   | some .bool=>true
   | some (.int _)=>true
   | some .string=>true
   | some (.array n e)=>decide (P.cellsOf t=n*P.cellsOf e) && rdA k e
   | some (.struct fs)=>mW P 0 fs.toList (P.cellsOf t) && fs.toList.all (fun f=>rdA k f.type)
   | _=>false
end
variable {P:Program} {H:Type} {enc:TypeId × Value→H} {w:World} {base:Nat} {spare:Nat→Bool} {held:Bool}
theorem tq{cs:List Value}{c:Nat}{F:Nat→Option (DataW H × List MemPlace)}(ih:∀ i x,F i=some x→jJ x.1=some ((cs.drop (i*c)).take c)) :
   ∀ (n o:Nat) (xs:List (DataW H × List MemPlace)),xs.length=n→(∀ i,i<n→F (o+i)=xs[i]?)→(o+n)*c≤cs.length→litAll (xs.map (·.1))=some ((cs.drop (o*c)).take (n*c))
 | 0,o,xs,hl,_,_=>by
   have:xs=[]:=List.eq_nil_of_length_eq_zero hl
   subst this;simp [litAll]
 | n + 1,o,xs,hl,hx,hc=>by
   cases xs with
   | nil=>simp at hl
   | cons x xs =>
     have h0:=ih _ x (by rw [hx 0 (by omega)];rfl)
     have h1:=tq ih n (o+1) xs (by simpa using hl) (fun i hi=>by rw [show o+1+i=o+(i+1) by omega,hx (i+1) (by omega)];rfl) (by rw [show o+1+n=o+(n+1) by omega];exact hc)
     rw [Nat.add_zero] at h0
     rw [List.map_cons,litAll,h0,h1]
     simp only [Option.some.injEq]
     have e:(n+1)*c=c+n*c:=by rw [Nat.add_mul];omega
     rw [e,List.take_add,List.drop_drop,show o*c+c=(o+1)*c by rw [Nat.add_mul];omega]
theorem ry{cs:List Value}{fuel:Nat}{ok:TypeId→Bool}(ih:∀ (t:TypeId) (cs:List Value) (x:DataW H × List MemPlace),ok t=true→DataW.trod enc P w base spare held fuel t cs=some x→jJ x.1=some cs) :
   ∀ (fs:List Field) (off:Nat) (xs:List (DataW H × List MemPlace)),mW P off fs cs.length=true→fs.all (fun f=>ok f.type)=true→xs.length=fs.length →
     (∀ (i:Nat) (f:Field),fs[i]? = some f→DataW.trod enc P w base spare held fuel f.type ((cs.drop f.offset).take (P.cellsOf f.type))=xs[i]?)→litAll (xs.map (·.1))=some (cs.drop off)
 | [],off,xs,hc,_,hl,_=>by
   have:xs=[]:=List.eq_nil_of_length_eq_zero hl
   subst this
   have:off=cs.length:=by simpa [mW] using hc
   simp [litAll,this]
 | f :: fs,off,xs,hc,hr,hl,hx=>by
   cases xs with
   | nil=>simp at hl
   | cons x xs =>
     simp only [mW,Bool.and_eq_true,beq_iff_eq,decide_eq_true_eq] at hc
     obtain ⟨⟨hc1,hc2⟩,hc3⟩:=hc
     simp only [List.all_cons,Bool.and_eq_true] at hr
     have h0:=ih _ _ x hr.1 (by rw [hx 0 f rfl];rfl)
     have h1:=ry ih fs _ xs hc3 hr.2 (by simpa using hl) (fun i g hg=>by rw [hx (i+1) g (by simpa using hg)];rfl)
     rw [List.map_cons,litAll,h0,h1]
     simp only [Option.some.injEq]
     rw [hc1,← List.drop_drop,List.take_append_drop]
theorem p6:∀ (k fuel:Nat) (t:TypeId) (cs:List Value) (x:DataW H × List MemPlace),rdA P k t=true→DataW.trod enc P w base spare held fuel t cs=some x→jJ x.1=some cs
 | 0,_,_,_,_,h,_=>by cases h
 | k + 1,fuel,t,cs,x,hr,h=>by
   unfold rdA at hr
   split at hr
   · rename_i hu;obtain ⟨b,rfl,rfl⟩:=DataW.trod_bool hu h;rfl
   · rename_i i hu;obtain ⟨n,rfl,rfl,_⟩:=DataW.trod_int hu h;rfl
   · rename_i hu;obtain ⟨s,rfl,rfl,_⟩:=DataW.trod_string hu h;rfl
   · rename_i n e hu
     rw [Bool.and_eq_true,decide_eq_true_eq] at hr
     obtain ⟨xs,m,_,rfl,hl,hn,hx⟩:=DataW.trod_array hu h
     have:=tq (c:=P.cellsOf e) (F:=fun i=>DataW.trod enc P w base spare held m e ((cs.drop (i*P.cellsOf e)).take (P.cellsOf e))) (cs:=cs) (fun i x hx=>p6 k m e _ x hr.2 hx) n 0 xs hn (fun i hi=>by rw [Nat.zero_add];exact hx i hi) (by rw [Nat.zero_add,hl,hr.1];exact Nat.le_refl _)
     show litAll (xs.map (·.1))=some cs
     rw [this,Nat.zero_mul,List.drop_zero,List.take_of_length_le (by rw [hl,hr.1];exact Nat.le_refl _)]
   · rename_i fs hu
     rw [Bool.and_eq_true] at hr
     obtain ⟨xs,n,_,rfl,hl,hxl,hf⟩:=DataW.trod_struct hu h
     have:=ry (ok:=rdA P k) (cs:=cs) (fun t cs x h1 h2=>p6 k n t cs x h1 h2) fs.toList 0 xs (by rw [hl];exact hr.1) hr.2 (by simpa using hxl) (fun i f hi=>hf i f (by simpa using hi))
     show litAll (xs.map (·.1))=some cs
     rw [this,List.drop_zero]
   · cases hr
end Go.Sy

namespace Go.Proofs.YtebnelfdimiifaaGreatDoor
open Go.ChangeShapes Go.WideShapes Go.ChangeAt Go.RowKit
open Go.Lp Go.Sy
theorem own:ownKnob Tryz.prog.godebug=none:=by kernel_rfl
theorem laidOut:laidOutB Tryz.prog=true:=by kernel_rfl
theorem acf:jJ (Rows.laid_linchpin_digest_turns (H:=Unit))=some (fX.map fun z=>Value.int .i64 z):=by kernel_rfl
theorem acg:(fX.map fun z=>Value.int .i64 z).all (·.oneCell')=true:=by kernel_rfl
theorem abo:jJ (Rows.laid_linchpin_digest_constants (H:=Unit))=some (fi eu):=by kernel_rfl
theorem abp:(fi eu).all (·.oneCell')=true:=by kernel_rfl
theorem vD{W:World}{g:Nat}{l:List Value}(h0:l≠[])(h:∀ i,W.cell? ⟨g,i,none⟩=l[i]?)(h1:l.all (·.oneCell')=true):(At g 0 (l.map D.v)).holds W (fun b=>b<W.heap.size):=by
 obtain ⟨v,hv⟩:∃ v,l[0]? = some v:=by cases l with
   | nil=>exact absurd rfl h0
   | cons v l=>exact ⟨v,rfl⟩
 refine ⟨(tI ((h 0).trans hv)).2,fun j d hj => ?_⟩
 rw [List.getElem?_map] at hj
 cases hl:l[j]? with
 | none=>rw [hl] at hj;cases hj
 | some u =>
   rw [hl] at hj
   simp only [Option.map_some,Option.some.injEq] at hj
   exact ⟨u,by rw [Nat.zero_add,h,hl],List.all_eq_true.1 h1 u (List.mem_of_getElem? hl),by rw [← hj];exact .v u⟩
theorem afX:Tryz.prog.globalNamed "linchpin/digest.turns" = some 1:=by kernel_rfl
theorem agx:(Tryz.prog.globals[1]?).map (·.type)=some 267:=by kernel_rfl
theorem afW:Tryz.prog.globalNamed "linchpin/digest.constants" = some 0:=by kernel_rfl
theorem agv:(Tryz.prog.globals[0]?).map (·.type)=some 264:=by kernel_rfl
theorem ads {W:World} (h:laidMetH Tryz.prog [("linchpin/digest.turns", Rows.laid_linchpin_digest_turns),("linchpin/digest.constants", Rows.laid_linchpin_digest_constants)] W) :
   fh.holds W (fun b=>b<W.heap.size)∧ff.holds W (fun b=>b<W.heap.size):=by
 rw [MakeChecks.laidMetH_plain _ _ _ (by kernel_rfl)] at h
 obtain ⟨ps,⟨g0,t0,cs0,f0,p0,q0,hg0,ht0,hv0,hd0,⟨g1,t1,cs1,f1,p1,q1,hg1,ht1,hv1,hd1,_,_⟩,_⟩,_,_⟩:=h
 obtain rfl:=Option.some.inj (afX.symm.trans hg0)
 obtain rfl:=Option.some.inj (agx.symm.trans ht0)
 have hl0:=p6 3 _ _ _ _ (by kernel_rfl) hd0
 have e0:cs0.toList=fX.map fun z=>Value.int .i64 z:=Option.some.inj (hl0.symm.trans acf)
 obtain rfl:=Option.some.inj (afW.symm.trans hg1)
 obtain rfl:=Option.some.inj (agv.symm.trans ht1)
 have hl1:=p6 3 _ _ _ _ (by kernel_rfl) hd1
 have e1:cs1.toList=fi eu:=Option.some.inj (hl1.symm.trans abo)
 exact ⟨vD (by decide) (fun i=>by rw [World.var?_cell hg0 hv0 i,← e0,Array.getElem?_toList]) acg,vD (by decide) (fun i=>by rw [World.var?_cell hg1 hv1 i,← e1,Array.getElem?_toList]) abp⟩
end Go.Proofs.YtebnelfdimiifaaGreatDoor

namespace Go.Sy
open Go.RowKit Go.Lp
def ob(w:World)(S:bH)(us:List Value)(ds:List D):Prop:=us.length=ds.length∧∀ (j:Nat) (d:D),ds[j]? = some d→∃ u,us[j]? = some u∧fv w S u d
theorem ob.nil{w:World}{S:bH}{us:List Value}(h:ob w S us []):us=[]:=List.eq_nil_of_length_eq_zero h.1
theorem ob.cons{w:World}{S:bH}{us:List Value}{d:D}{ds:List D}(h:ob w S us (d::ds)):∃ u us',us=u::us'∧fv w S u d∧ob w S us' ds:=by
 cases us with
 | nil=>have:=h.1;simp at this
 | cons u us =>
   obtain ⟨u',h1,h2⟩:=h.2 0 d rfl
   simp only [List.getElem?_cons_zero,Option.some.injEq] at h1
   subst h1
   exact ⟨u,us,rfl,h2,by simpa using h.1,fun j e hj=>by have:=h.2 (j+1) e (by simpa using hj);simpa using this⟩
theorem ago{w:World}{cs:List Value}{ds:List D}(hl:ds.length=cs.length)(h:Rds w cs 0 ds):ob w (fun b=>b<w.heap.size) cs ds:=⟨hl.symm,fun j d hj=>by
 obtain ⟨u,h1,_,h2⟩:=h j d hj
 rw [Nat.zero_add] at h1
 exact ⟨u,h1,h2⟩⟩
section
variable {P:Program} {k:Nat} {t e:TypeId} {w:World} {S:bH} {us:List Value} {ds:List D}
end
mutual
/-- ten times the size of data: each value counts one, and each letter -/
def zD:D→Nat
 | .v (.string s)=>10*(s.size+1)
 | .v _=>10
 | .sl rows=>zR rows+10
def zR:List (List D)→Nat
 | []=>0
 | r::rows=>zL r+zR rows
def zL:List D→Nat
 | []=>0
 | d::ds=>zD d+zL ds
end
theorem zx:∀ a b:List D,zL (a++b)=zL a+zL b
 | [],b=>by simp [zL]
 | d::a,b=>by simp only [List.cons_append,zL,zx a b];omega
theorem zy:∀ rows:List (List D),zR rows=(rows.map zL).sum
 | []=>rfl
 | r::rows=>by simp only [zR,List.map_cons,List.sum_cons,zy rows]
theorem u3{α:Type}{f g:α→Nat} : ∀ (l:List α),(∀ x∈l,f x≤g x)→(l.map f).sum≤(l.map g).sum
 | [],_=>Nat.le_refl _
 | x::l,h=>by
   simp only [List.map_cons,List.sum_cons]
   have h1:=h x List.mem_cons_self
   have h2:=u3 l fun y hy=>h y (List.mem_cons_of_mem _ hy)
   omega
theorem ac7{α:Type}[Inhabited α]{row:α→List D}{ok:α→Per}{C:α→Prop}(zf:α→Nat){w:World}{S:bH}{v:Value}{rows:List (List D)}(h:fv w S v (.sl rows))
   (hf:∀ r∈rows,∀ us:List Value,ob w S us r→∃ y:α,row y=us.map D.v∧(ok y).holds w S∧C y∧zf y≤zL r):∃ s:Sl α,v=s.val∧(ShF row s).holds w S∧(b6 ok s.l).holds w S∧(∀ y∈s.l,C y)∧(s.l.map zf).sum≤zR rows:=by
 cases h with
 | e a c hc=>exact ⟨⟨a,c,[]⟩,rfl,.e a c hc,fun y hy=>(by cases hy),fun y hy=>(by cases hy),Nat.zero_le _⟩
 | sl b o c sz _ us hb hn hc hrl hcell hd =>
   have each:∀ i:Nat,∃ y:α,i<rows.length→row y=((List.range sz).map fun j=>us i j).map D.v∧(ok y).holds w S∧C y∧zf y≤zL (rows.getD i []):=fun i=>by
     by_cases hi:i<rows.length
     · obtain ⟨r,hr⟩:∃ r,rows[i]? = some r:=⟨_,List.getElem?_eq_getElem hi⟩
       obtain ⟨y,h1,h2,h4,h3⟩:=hf r (List.mem_of_getElem? hr) ((List.range sz).map fun j=>us i j) ⟨by simp [hrl i r hr],fun j d hj=>by
         have hjl:=(List.getElem?_eq_some_iff.1 hj).1
         rw [hrl i r hr] at hjl
         exact ⟨us i j,by rw [List.getElem?_map,List.getElem?_range hjl];rfl,hd i j r d hr hj⟩⟩
       exact ⟨y,fun _=>⟨h1,h2,h4,by rw [List.getD_eq_getElem?_getD,hr];exact h3⟩⟩
     · exact ⟨default,fun h=>absurd h hi⟩
   obtain ⟨Y,hY⟩:=Classical.skolem.1 each
   have hget:∀ (i:Nat) (r:List D),(((List.range rows.length).map Y).map row)[i]? = some r→i<rows.length∧r=((List.range sz).map fun j=>us i j).map D.v:=fun i r hi=>by
     rw [List.getElem?_map,List.getElem?_map] at hi
     by_cases hil:i<rows.length
     · rw [List.getElem?_range hil] at hi
       simp only [Option.map_some,Option.some.injEq] at hi
       exact ⟨hil,by rw [← hi];exact (hY i hil).1⟩
     · rw [List.getElem?_eq_none (by simpa using hil)] at hi;cases hi
   have hcl:∀ (i j:Nat) (r:List D) (d:D),(((List.range rows.length).map Y).map row)[i]? = some r→r[j]? = some d→∃ r0 d0,rows[i]? = some r0∧r0[j]? = some d0∧d=.v (us i j):=fun i j r d hi hj=>by
     obtain ⟨hil,rfl⟩:=hget i r hi
     obtain ⟨r0,hr0⟩:∃ r,rows[i]? = some r:=⟨_,List.getElem?_eq_getElem hil⟩
     have hjl:=(List.getElem?_eq_some_iff.1 hj).1
     rw [List.length_map,List.length_map,List.length_range] at hjl
     rw [List.getElem?_map,List.getElem?_map,List.getElem?_range hjl] at hj
     simp only [Option.map_some,Option.some.injEq] at hj
     exact ⟨r0,_,hr0,List.getElem?_eq_getElem (by rw [hrl i r0 hr0];exact hjl),hj.symm⟩
   refine ⟨⟨some ⟨b,o,none⟩,c,(List.range rows.length).map Y⟩,by simp [Sl.val],?_,fun y hy => ?_,fun y hy => ?_,?_⟩
   · have h:=fv.sl (w:=w) (S:=S) b o c sz (((List.range rows.length).map Y).map row) us hb (by simpa using hn) hc (fun i r hi=>by obtain ⟨_,rfl⟩:=hget i r hi;simp)
       (fun i j r d hi hj=>by obtain ⟨r0,d0,h1,h2,_⟩:=hcl i j r d hi hj;exact hcell i j r0 d0 h1 h2) (fun i j r d hi hj=>by obtain ⟨_,_,_,_,rfl⟩:=hcl i j r d hi hj;exact .v _)
     rw [List.length_map,List.length_map,List.length_range] at h
     show fv w S (.slice (some ⟨b,o,none⟩) ((List.range rows.length).map Y).length c) (.sl (((List.range rows.length).map Y).map row))
     rw [List.length_map,List.length_range];exact h
   · obtain ⟨i,hi,rfl⟩:=List.mem_map.1 hy
     exact (hY i (List.mem_range.1 hi)).2.1
   · obtain ⟨i,hi,rfl⟩:=List.mem_map.1 hy
     exact (hY i (List.mem_range.1 hi)).2.2.1
   · rw [zy,List.map_map]
     have e:rows.map zL=(List.range rows.length).map fun i=>zL (rows.getD i []):=by
       apply List.ext_getElem?
       intro i
       rw [List.getElem?_map,List.getElem?_map]
       by_cases hi:i<rows.length
       · rw [List.getElem?_range hi,List.getElem?_eq_getElem hi]
         simp [List.getD_eq_getElem?_getD,hi]
       · rw [List.getElem?_eq_none (by omega),List.getElem?_eq_none (by simpa using hi)];rfl
     rw [e]
     exact u3 _ fun i hi=>(hY i (List.mem_range.1 hi)).2.2.2
theorem ob.app{w:World}{S:bH}{us:List Value}{a b:List D}(h:ob w S us (a++b)):∃ u1 u2,us=u1++u2∧ob w S u1 a∧ob w S u2 b:=by
 induction a generalizing us with
 | nil=>exact ⟨[],us,rfl,⟨rfl,fun j d hj=>by cases hj⟩,h⟩
 | cons d a ih =>
   obtain ⟨u,us',rfl,hu,hr⟩:=h.cons
   obtain ⟨u1,u2,rfl,h1,h2⟩:=ih hr
   exact ⟨u::u1,u2,rfl,⟨by have:=h1.1;simp [this],fun j e hj=>by
     cases j with
     | zero=>simp at hj;subst hj;exact ⟨u,rfl,hu⟩
     | succ j=>exact h1.2 j e (by simpa using hj)⟩,h2⟩
end Go.Sy

namespace Go.Lv
open Go.Sy
abbrev BS:=List Int × List Int
def ed(N:Nat)(s:BS)(v:Int):BS:=if 0≤v∧v<N then (s.1.set v.toNat v,s.2++[v]) else s
def dK(N:Nat)(rs:List Int):BS:=rs.foldl (ed N) (List.replicate N (-1),[])
def visit(u:Int)(s:BS)(x:Int):BS:=if elt s.1 x<0 then (s.1.set x.toNat u,s.2++[x]) else s
def qg(out:List (List Int))(s:BS)(k:Nat):BS:=match s.2[k]? with
 | none=>s
 | some u=>(elt out u).foldl (visit u) s
def bfs(out:List (List Int))(s:BS):Nat→BS
 | 0=>s
 | k+1=>qg out (bfs out s k) k
def adn(b:List Int):Nat:=b.countP (fun z=>decide (z<0))
theorem ei{b:List Int}{x y u:Int}(h0:0≤x)(h1:x<b.length)(hy:0≤y):elt (b.set x.toNat u) y=if x=y then u else elt b y:=by
 unfold elt
 rw [List.getD_eq_getElem?_getD,List.getD_eq_getElem?_getD,List.getElem?_set]
 have hx:x.toNat<b.length:=by omega
 by_cases h:x=y
 · subst h;rw [if_pos rfl,if_pos hx,if_pos rfl];rfl
 · rw [if_neg (by omega),if_neg h]
theorem ado{b:List Int}{x u:Int}(h0:0≤x)(h1:x<b.length)(hx:elt b x<0)(hu:0≤u):adn (b.set x.toNat u)+1=adn b:=by
 have hlt:x.toNat<b.length:=by omega
 have e:b[x.toNat]<0:=by unfold elt at hx;rw [List.getD_eq_getElem?_getD,List.getElem?_eq_getElem hlt] at hx;exact hx
 unfold adn
 have hm:b[x.toNat]∈b:=List.getElem_mem hlt
 have hpos:0<b.countP (fun z=>decide (z<0)):=List.countP_pos_iff.2 ⟨_,hm,by simpa using e⟩
 rw [List.countP_set hlt]
 rw [if_pos (by simpa using e),if_neg (by simpa using hu)]
 omega
structure BI (N M:Nat) (s:BS):Prop where
 len:s.1.length=N
 mem:∀ x∈s.2,0≤x∧x<N
 cnt:s.2.length+adn s.1≤M
theorem BI.le{N M:Nat}{s:BS}(h:BI N M s):s.2.length≤M:=by have:=h.cnt;omega
theorem uV{N:Nat}{s:BS}{v:Int} : (ed N s v).1.length=s.1.length∧(ed N s v).2.length≤s.2.length+1:=by
 unfold ed;split<;>simp
theorem jY(N:Nat)(rs:List Int):(dK N rs).1.length=N∧(dK N rs).2.length≤rs.length:=by
 have:∀ (rs:List Int) (s:BS),(rs.foldl (ed N) s).1.length=s.1.length∧(rs.foldl (ed N) s).2.length≤s.2.length+rs.length:=by
   intro rs
   induction rs with
   | nil=>intro s;exact ⟨rfl,Nat.le_refl _⟩
   | cons v rs ih=>intro s;obtain ⟨h1,h2⟩:=ih (ed N s v);obtain ⟨h3,h4⟩:=uV (N:=N) (s:=s) (v:=v);rw [List.foldl_cons,List.length_cons];exact ⟨by rw [h1,h3],by omega⟩
 have:=this rs (List.replicate N (-1),[])
 unfold dK;simpa using this
theorem xP(N:Nat)(rs:List Int):∀ x∈(dK N rs).2,(0≤x∧x<N)∧x∈rs:=by
 have:∀ (rs rs0:List Int) (s:BS),(∀ x∈s.2,(0≤x∧x<(N:Int))∧x∈rs0)→∀ x∈(rs.foldl (ed N) s).2,(0≤x∧x<(N:Int))∧(x∈rs0∨x∈rs):=by
   intro rs
   induction rs with
   | nil=>intro rs0 s h x hx;exact ⟨(h x hx).1,.inl (h x hx).2⟩
   | cons v rs ih =>
     intro rs0 s h x hx
     rw [List.foldl_cons] at hx
     have:=ih (rs0++[v]) (ed N s v) (fun y hy=>by
       unfold ed at hy
       split at hy
       · rename_i hv
         rcases List.mem_append.1 hy with h1 | h1
         · exact ⟨(h y h1).1,List.mem_append_left _ (h y h1).2⟩
         · rw [List.mem_singleton.1 h1];exact ⟨hv,by simp⟩
       · exact ⟨(h y hy).1,List.mem_append_left _ (h y hy).2⟩) x hx
     refine ⟨this.1,?_⟩
     rcases this.2 with h1 | h1
     · rcases List.mem_append.1 h1 with h2 | h2
       · exact .inl h2
       · rw [List.mem_singleton.1 h2];exact .inr List.mem_cons_self
     · exact .inr (List.mem_cons_of_mem _ h1)
 intro x hx
 have:=this rs [] _ (fun _ h=>by cases h) x hx
 exact ⟨this.1,this.2.elim (fun h=>by cases h) id⟩
theorem vB(N:Nat)(rs:List Int){k:Nat}{v:Int}(h:rs[k]? = some v):dK N (rs.take (k+1))=ed N (dK N (rs.take k)) v:=by
 unfold dK;rw [List.take_add_one,h,List.foldl_append];rfl
theorem lx(N:Nat)(rs:List Int):BI N (rs.length+N) (dK N rs) where
 len:=(jY N rs).1
 mem x hx:=(xP N rs x hx).1
 cnt:=by
   have h1:=jY N rs
   have h2:adn (dK N rs).1≤(dK N rs).1.length:=List.countP_le_length
   omega
theorem aer{N M:Nat}{s:BS}{u x:Int}(h:BI N M s)(hu:0≤u)(hx:0≤x∧x<N):BI N M (visit u s x):=by
 unfold visit
 split
 · rename_i h0
   have hn:=ado hx.1 (by rw [h.len];exact hx.2) h0 hu
   refine ⟨by simpa using h.len,fun y hy => ?_,?_⟩
   · rcases List.mem_append.1 hy with h1 | h1
     · exact h.mem y h1
     · rw [List.mem_singleton.1 h1];exact hx
   · have:=h.cnt
     rw [List.length_append,List.length_singleton];dsimp only;omega
 · exact h
theorem tR{s:BS}{u x:Int} : s.2 <+: (visit u s x).2:=by
 unfold visit;split
 · exact List.prefix_append _ _
 · exact List.prefix_refl _
theorem oT{N M:Nat}{u:Int}(hu:0≤u):∀ (l:List Int) (s:BS),BI N M s→(∀ x∈l,0≤x∧x<N)→BI N M (l.foldl (visit u) s)
 | [],_,h,_=>h
 | x::l,s,h,hl=>oT hu l _ (aer h hu (hl x List.mem_cons_self)) fun y hy=>hl y (List.mem_cons_of_mem _ hy)
theorem kq{u:Int} : ∀ (l:List Int) (s:BS),s.2 <+: (l.foldl (visit u) s).2
 | [],_=>List.prefix_refl _
 | x::l,s=>List.IsPrefix.trans tR (kq l (visit u s x))
theorem xF{u:Int}(l:List Int)(s:BS){k:Nat}{v:Int}(h:l[k]? = some v):(l.take (k+1)).foldl (visit u) s=visit u ((l.take k).foldl (visit u) s) v:=by
 rw [List.take_add_one,h,List.foldl_append];rfl
theorem uP{l l':List Int}(h:l <+: l'){k:Nat}{u:Int}(hk:l[k]? = some u):l'[k]? = some u:=by
 obtain ⟨t,rfl⟩:=h
 rw [List.getElem?_append_left (List.getElem?_eq_some_iff.1 hk).1];exact hk
def l4(N:Nat)(out:List (List Int)):Prop:=∀ u:Int,∀ x∈elt out u,0≤x∧x<N
theorem qe{N M:Nat}{out:List (List Int)}{s:BS}(ho:l4 N out)(h:BI N M s):∀ k,BI N M (bfs out s k)
 | 0=>h
 | k + 1=>by
   have ih:=qe ho h k
   unfold bfs qg
   split
   · exact ih
   · rename_i u hu
     exact oT (ih.mem u (List.mem_of_getElem? hu)).1 _ _ ih (ho u)
theorem qf{out:List (List Int)}{s:BS}{k:Nat}(h:(bfs out s k).2.length≤k):∀ j,bfs out s (k+j)=bfs out s k
 | 0=>rfl
 | j+1=>by
   have ih:=qf h j
   show qg out (bfs out s (k+j)) (k+j)=_
   rw [ih]
   unfold qg
   rw [List.getElem?_eq_none (by omega)]
def ko(N:Nat)(out:List (List Int))(rs:List Int):List Int:=(bfs out (dK N rs) (rs.length+N)).1
theorem zi{N:Nat}{out:List (List Int)}{rs:List Int}{k:Nat}(ho:l4 N out)(hk:k=(bfs out (dK N rs) k).2.length):(bfs out (dK N rs) k).1=ko N out rs:=by
 have hle:=(qe ho (lx N rs) k).le
 obtain ⟨j,hj⟩:∃ j,rs.length+N=k+j:=⟨rs.length+N-k,by omega⟩
 unfold ko
 rw [hj,qf (by omega)]
structure TS where
 idx:List Int
 low:List Int
 stk:List Int
 part:List Int
 np:Nat
 calls:List (Int × Int)
 cnt:Int
structure TI (N:Nat) (nx:List (List Int)) (r:Int) (s:TS):Prop where
 li:s.idx.length=N
 ll:s.low.length=N
 lp:s.part.length=N
 cn:s.cnt=(s.idx.countP (fun z=>decide (z≠0)):Nat)
 ile:∀ v:Int,0≤v→v<N→0≤elt s.idx v∧elt s.idx v≤s.cnt
 stk:∀ v:Int,v∈s.stk↔(0≤v∧v<N)∧elt s.idx v≠0∧elt s.part v=0
 nd:s.stk.Nodup
 pr:∀ v:Int,0≤v→v<N→0≤elt s.part v∧elt s.part v≤s.np∧(elt s.idx v=0→elt s.part v=0)
 sub:(s.calls.map (·.1)).Sublist s.stk
 ci:∀ c∈s.calls,0≤c.2∧c.2≤(elt nx c.1).length
 top:s.calls≠[]→(s.calls.map (·.1)).head? = some r∧s.stk.head? = some r
 low':∀ v∈s.stk,elt s.idx r≤elt s.low v∧elt s.idx r≤elt s.idx v
 lr:s.calls≠[]→elt s.low r=elt s.idx r
def di(s:TS)(w:Int):TS := { s with idx:=s.idx.set w.toNat (s.cnt+1),low:=s.low.set w.toNat (s.cnt+1),stk:=s.stk++[w],calls:=s.calls++[(w,0)],cnt:=s.cnt+1 }
section
variable {N:Nat} {nx:List (List Int)} {r:Int} {s:TS}
theorem TI.any(h:TI N nx r s)(h1:s.calls=[])(h2:s.stk=[])(q:Int):TI N nx q s :=
 ⟨h.li,h.ll,h.lp,h.cn,h.ile,h.stk,h.nd,h.pr,h.sub,h.ci,fun h=>absurd h1 h,fun v hv=>(by rw [h2] at hv;cases hv),fun h=>absurd h1 h⟩
theorem yA{l:List Int}{i:Nat}{u:Int}(hi:i<l.length)(h0:l[i]=0)(hu:u≠0):(l.set i u).countP (fun z=>decide (z≠0))=l.countP (fun z=>decide (z≠0))+1:=by
 rw [List.countP_set hi,h0];simp [hu]
theorem aeJ{l:List Int}{v:Int}(h0:0≤v)(h1:v<l.length):l[v.toNat]'(by omega)=elt l v:=by
 unfold elt;rw [List.getD_eq_getElem?_getD,List.getElem?_eq_getElem (by omega)];rfl
theorem TI.cnt0(h:TI N nx r s):0≤s.cnt∧s.cnt≤N:=by
 have h1:=h.cn
 have h2:s.idx.countP (fun z=>decide (z≠0))≤s.idx.length:=List.countP_le_length
 have:=h.li
 omega
theorem TI.enter(h:TI N nx r s){w:Int}(hw:0≤w∧w<N)(h0:elt s.idx w=0)(hc:s.calls≠[]∨(s.stk=[]∧w=r)):TI N nx r (di s w):=by
 have hli:=h.li
 have hll:=h.ll
 have hc0:=h.cnt0
 have eI:∀ v,0≤v→elt (di s w).idx v=if w=v then s.cnt+1 else elt s.idx v:=fun v hv=>ei hw.1 (by omega) hv
 have eL:∀ v,0≤v→elt (di s w).low v=if w=v then s.cnt+1 else elt s.low v:=fun v hv=>ei hw.1 (by omega) hv
 have hws:w ∉ s.stk:=fun hm=>((h.stk w).1 hm).2.1 h0
 have hr0:s.calls≠[]→0≤r∧r∈s.stk∧w≠r:=fun hne=>by
   have hm:r∈s.stk:=List.mem_of_mem_head? (by rw [(h.top hne).2];rfl)
   exact ⟨((h.stk r).1 hm).1.1,hm,fun e=>hws (e ▸ hm)⟩
 refine ⟨?_,?_,h.lp,?_,?_,?_,?_,?_,?_,?_,?_,?_,?_⟩
 · show (s.idx.set _ _).length=N;rw [List.length_set];exact hli
 · show (s.low.set _ _).length=N;rw [List.length_set];exact hll
 · show s.cnt+1=((s.idx.set _ _).countP _:Nat)
   rw [yA (by omega) ((aeJ hw.1 (by omega)).trans h0) (by omega),h.cn];rfl
 · intro v hv hvN
   rw [eI v hv]
   have:=h.ile v hv hvN
   show _∧_≤s.cnt+1
   split<;>omega
 · intro v
   show v∈s.stk++[w]↔_∧_∧elt s.part v=0
   rw [List.mem_append,List.mem_singleton,h.stk v]
   by_cases hwv:w=v
   · subst hwv
     rw [eI _ hw.1,if_pos rfl]
     have:=(h.pr w hw.1 hw.2).2.2 h0
     exact ⟨fun _=>⟨hw,by omega,this⟩,fun _=>.inr rfl⟩
   · constructor
     · rintro (⟨h1,h2,h3⟩ | h1)
       · exact ⟨h1,by rw [eI _ h1.1,if_neg hwv];exact h2,h3⟩
       · exact absurd h1.symm hwv
     · rintro ⟨h1,h2,h3⟩
       rw [eI _ h1.1,if_neg hwv] at h2
       exact .inl ⟨h1,h2,h3⟩
 · show (s.stk++[w]).Nodup
   rw [List.nodup_append]
   exact ⟨h.nd,by simp,fun a ha b hb=>by rw [List.mem_singleton.1 hb];exact fun e=>hws (e ▸ ha)⟩
 · intro v hv hvN
   have:=h.pr v hv hvN
   refine ⟨this.1,this.2.1,fun he=>this.2.2 ?_⟩
   rw [eI v hv] at he
   split at he
   · omega
   · exact he
 · show (List.map (fun c:Int × Int=>c.1) (s.calls++[(w,(0:Int))])).Sublist (s.stk++[w])
   rw [List.map_append]
   exact h.sub.append (List.Sublist.refl _)
 · intro c hc2
   rcases List.mem_append.1 hc2 with h1 | h1
   · exact h.ci c h1
   · rw [List.mem_singleton.1 h1];exact ⟨Int.le_refl _,Int.natCast_nonneg _⟩
 · intro _
   show (List.map (fun c:Int × Int=>c.1) (s.calls++[(w,(0:Int))])).head? = some r∧(s.stk++[w]).head? = some r
   rcases hc with hne | ⟨h1,h2⟩
   · obtain ⟨t1,t2⟩:=h.top hne
     rw [List.map_append,List.head?_append,List.head?_append,t1,t2];exact ⟨rfl,rfl⟩
   · have hce:s.calls=[]:=by
       have:=h.sub
       rw [h1] at this
       exact List.map_eq_nil_iff.1 (List.eq_nil_of_sublist_nil this)
     rw [hce,h1,h2];exact ⟨rfl,rfl⟩
 · intro v hv
   have hv2:v∈s.stk++[w]:=hv
   rcases hc with hne | ⟨h1,h2⟩
   · obtain ⟨hr,hrm,hwr⟩:=hr0 hne
     rw [eI r hr,if_neg hwr]
     have hrc:=h.ile r hr ((h.stk r).1 hrm).1.2
     rcases List.mem_append.1 hv2 with h1 | h1
     · have hv0:=((h.stk v).1 h1).1.1
       have hvw:w≠v:=fun e=>hws (e ▸ h1)
       rw [eL v hv0,eI v hv0,if_neg hvw,if_neg hvw]
       exact h.low' v h1
     · rw [List.mem_singleton.1 h1,eL w hw.1,eI w hw.1,if_pos rfl,if_pos rfl]
       exact ⟨by omega,by omega⟩
   · rw [h1,List.nil_append] at hv2
     rw [List.mem_singleton.1 hv2,← h2,eI w hw.1,eL w hw.1,if_pos rfl,if_pos rfl]
     exact ⟨Int.le_refl _,Int.le_refl _⟩
 · intro _
   rcases hc with hne | ⟨_,h2⟩
   · obtain ⟨hr,_,hwr⟩:=hr0 hne
     rw [eL r hr,eI r hr,if_neg hwr,if_neg hwr]
     exact h.lr hne
   · rw [← h2,eL w hw.1,eI w hw.1,if_pos rfl,if_pos rfl]
theorem TI.adv(h:TI N nx r s){cs:List (Int × Int)}{v i:Int}(hc:s.calls=cs++[(v,i)])(hi:i<(elt nx v).length):TI N nx r { s with calls:=cs++[(v,i+1)] } := by
 have e:(cs++[(v,i+1)]).map (·.1)=s.calls.map (·.1):=by rw [hc];simp
 have hne:s.calls≠[]:=by rw [hc];simp
 refine ⟨h.li,h.ll,h.lp,h.cn,h.ile,h.stk,h.nd,h.pr,?_,?_,?_,h.low',fun _=>h.lr hne⟩
 · show ((cs++[(v,i+1)]).map (·.1)).Sublist s.stk;rw [e];exact h.sub
 · intro c hc2
   rcases List.mem_append.1 hc2 with h1 | h1
   · exact h.ci c (by rw [hc];exact List.mem_append_left _ h1)
   · rw [List.mem_singleton.1 h1]
     have:=h.ci (v,i) (by rw [hc];simp)
     dsimp only at this ⊢;omega
 · intro _
   show ((cs++[(v,i+1)]).map (·.1)).head? = some r∧_
   rw [e];exact h.top hne
theorem TI.lower(h:TI N nx r s){v u:Int}(hv:v∈s.stk)(hu:elt s.idx r≤u):TI N nx r { s with low:=s.low.set v.toNat (min (elt s.low v) u) } := by
 have hvr:=((h.stk v).1 hv).1
 have hll:=h.ll
 have eL:∀ x,0≤x→elt (s.low.set v.toNat (min (elt s.low v) u)) x=if v=x then min (elt s.low v) u else elt s.low x:=fun x hx=>ei hvr.1 (by omega) hx
 have hlv:=(h.low' v hv).1
 refine ⟨h.li,by show (s.low.set _ _).length=N;rw [List.length_set];exact hll,h.lp,h.cn,h.ile,h.stk,h.nd,h.pr,h.sub,h.ci,h.top,?_,?_⟩
 · intro x hx
   have hx0:=((h.stk x).1 hx).1.1
   show elt s.idx r≤elt (s.low.set _ _) x∧_
   rw [eL x hx0]
   refine ⟨?_,(h.low' x hx).2⟩
   split
   · omega
   · exact (h.low' x hx).1
 · intro hne
   have hrm:r∈s.stk:=List.mem_of_mem_head? (by rw [(h.top hne).2];rfl)
   show elt (s.low.set _ _) r=elt s.idx r
   rw [eL r ((h.stk r).1 hrm).1.1]
   have:=h.lr hne
   split
   · rename_i e;subst e;omega
   · exact this
theorem TI.pop(h:TI N nx r s){cs:List (Int × Int)}{v i:Int}(hc:s.calls=cs++[(v,i)]):TI N nx r { s with calls:=cs } ∧ v∈s.stk∧(cs=[]→v=r∧elt s.low v=elt s.idx v):=by
 have hne:s.calls≠[]:=by rw [hc];simp
 have hsub:(cs.map (·.1)++[v]).Sublist s.stk:=by have:=h.sub;rw [hc,List.map_append] at this;exact this
 refine ⟨⟨h.li,h.ll,h.lp,h.cn,h.ile,h.stk,h.nd,h.pr,(List.sublist_append_left _ _).trans hsub,fun c hc2=>h.ci c (by rw [hc];exact List.mem_append_left _ hc2),fun hcs => ?_,h.low',fun _=>h.lr hne⟩,hsub.subset (by simp),fun he => ?_⟩
 · have ht:=h.top hne
   rw [hc,List.map_append] at ht
   show (cs.map (·.1)).head? = some r∧_
   cases cs with
   | nil=>exact absurd rfl hcs
   | cons c cs=>exact ⟨ht.1,ht.2⟩
 · have ht:=(h.top hne).1
   rw [hc,he] at ht
   have hv:v=r:=by simpa using ht
   refine ⟨hv,?_⟩
   rw [hv];exact h.lr hne
theorem ab9{cs A B:List Int}{v:Int}(hs:(cs++[v]).Sublist (A++v::B))(hn:(A++v::B).Nodup):cs.Sublist A:=by
 obtain ⟨l1,l2,e,h1,h2⟩:=List.append_sublist_iff.1 hs
 have hv2:v∈l2:=h2.subset (by simp)
 -- v is not in A,so l1 is a beginning of A
 have hvA:v ∉ A:=fun h=>by
   rw [List.nodup_append] at hn
   exact hn.2.2 v h v (by simp) rfl
 by_cases hl:l1.length≤A.length
 · have:l1=A.take l1.length:=by
     have h3:=congrArg (List.take l1.length) e
     rw [List.take_append_of_le_length hl,List.take_append_of_le_length (Nat.le_refl _),List.take_length] at h3
     exact h3.symm
   rw [this] at h1
   exact h1.trans (List.take_sublist _ _)
 · exfalso
   have hv1:v∈l1:=by
     have h3:l1[A.length]? = some v:=by
       have h4:(l1++l2)[A.length]? = some v:=by rw [← e];simp
       rw [List.getElem?_append_left (by omega)] at h4;exact h4
     exact List.mem_of_getElem? h3
   rw [e,List.nodup_append] at hn
   exact hn.2.2 v hv1 v hv2 rfl
def df(l:List Int)(u:Int)(p:List Int):List Int:=p.foldl (fun b w=>b.set w.toNat u) l
theorem rR(u:Int)(p:List Int):∀ l:List Int,(df l u p).length=l.length:=by
 induction p with
 | nil=>intro l;rfl
 | cons w p ih=>intro l;show (df _ u p).length=_;rw [ih,List.length_set]
theorem ka{u:Int}(p:List Int):∀ (l:List Int),(∀ w∈p,0≤w∧w<l.length)→∀ x,0≤x→elt (df l u p) x=if x∈p then u else elt l x:=by
 induction p with
 | nil=>intro l _ x _;simp [df]
 | cons w p ih =>
   intro l hl x hx
   have hw:=hl w List.mem_cons_self
   show elt (df (l.set w.toNat u) u p) x=_
   rw [ih _ (fun y hy=>by rw [List.length_set];exact hl y (List.mem_cons_of_mem _ hy)) x hx]
   by_cases hxp:x∈p
   · rw [if_pos hxp,if_pos (List.mem_cons_of_mem _ hxp)]
   · rw [if_neg hxp,ei hw.1 hw.2 hx]
     by_cases e:w=x
     · rw [if_pos e,if_pos (by rw [e];exact List.mem_cons_self)]
     · rw [if_neg e,if_neg (fun h=>(List.mem_cons.1 h).elim (fun h=>e h.symm) hxp)]
theorem TI.close(h:TI N nx r s){A B p:List Int}{v:Int}(hs:s.stk=A++v::B)(hsub:(s.calls.map (·.1)++[v]).Sublist s.stk)(hp:∀ x,x∈p↔x∈v::B) :
   TI N nx r { s with stk:=A,part:=df s.part ((s.np:Int)+1) p,np:=s.np+1 } ∧ (v=r→s.calls=[]→s.stk.head? = some r→A=[]):=by
 have hnd:=h.nd
 rw [hs] at hnd
 have hlp:=h.lp
 have hpr:∀ w∈p,0≤w∧w<s.part.length:=fun w hw=>by
   have:=((h.stk w).1 (by rw [hs];exact List.mem_append_right _ ((hp w).1 hw))).1
   rw [hlp];exact this
 have eP:∀ x,0≤x→elt (df s.part ((s.np:Int)+1) p) x=if x∈p then (s.np:Int)+1 else elt s.part x:=ka p s.part hpr
 have hA:∀ x,x∈A↔x∈s.stk∧x ∉ p:=fun x=>by
   rw [hs,hp,List.mem_append]
   rw [List.nodup_append] at hnd
   exact ⟨fun hx=>⟨.inl hx,fun h2=>hnd.2.2 x hx x h2 rfl⟩,fun ⟨h1,h2⟩=>h1.resolve_right h2⟩
 have hsubA:(s.calls.map (·.1)).Sublist A:=ab9 (by rw [← hs];exact hsub) hnd
 refine ⟨⟨h.li,h.ll,by show (df _ _ _).length=N;rw [rR];exact hlp,h.cn,h.ile,?_,?_,?_,hsubA,h.ci,?_,?_,h.lr⟩,?_⟩
 · intro x
   show x∈A↔_∧_∧elt (df _ _ _) x=0
   rw [hA,h.stk x]
   constructor
   · rintro ⟨⟨h1,h2,h3⟩,h4⟩;exact ⟨h1,h2,by rw [eP x h1.1,if_neg h4];exact h3⟩
   · rintro ⟨h1,h2,h3⟩
     rw [eP x h1.1] at h3
     split at h3
     · omega
     · rename_i h4;exact ⟨⟨h1,h2,h3⟩,h4⟩
 · rw [List.nodup_append] at hnd;exact hnd.1
 · intro x hx hxN
   show 0≤elt (df _ _ _) x∧elt (df _ _ _) x≤((s.np+1:Nat):Int)∧(_→elt (df _ _ _) x=0)
   rw [eP x hx]
   have:=h.pr x hx hxN
   split
   · rename_i h4
     refine ⟨by omega,by omega,fun h0 => ?_⟩
     have:=((h.stk x).1 (by rw [hs];exact List.mem_append_right _ ((hp x).1 h4))).2.1
     exact absurd h0 this
   · exact ⟨this.1,by omega,this.2.2⟩
 · intro hne
   have ht:=h.top hne
   refine ⟨ht.1,?_⟩
   show A.head? = some r
   have h2:=ht.2
   rw [hs] at h2
   cases A with
   | nil =>
     have:=List.eq_nil_of_sublist_nil hsubA
     exact absurd (List.map_eq_nil_iff.1 this) hne
   | cons a A=>exact h2
 · intro x hx;exact h.low' x ((hA x).1 hx).1
 · intro hv _ hhd
   rw [hs] at hhd
   cases A with
   | nil=>rfl
   | cons a A =>
     exfalso
     have:a=r:=by simpa using hhd
     rw [List.nodup_append] at hnd
     exact hnd.2.2 a List.mem_cons_self v List.mem_cons_self (this.trans hv.symm)
def tmu(N:Nat)(nx:List (List Int))(s:TS):Nat:=((List.range N).map fun v:Nat=>if elt s.idx (v:Int)=0 then (elt nx (v:Int)).length+2 else 0).sum+(s.calls.map fun c=>(elt nx c.1).length-c.2.toNat+1).sum
theorem aaw{f g:Nat→Nat}{w:Nat} : ∀ l:List Nat,l.Nodup→w∈l→(∀ x∈l,x≠w→f x=g x)→g w=0→(l.map g).sum+f w=(l.map f).sum
 | [],_,h,_,_=>by cases h
 | a :: l,hn,hw,hf,h0=>by
   rw [List.nodup_cons] at hn
   rw [List.map_cons,List.map_cons,List.sum_cons,List.sum_cons]
   by_cases ha:a=w
   · subst ha
     have:l.map g=l.map f:=List.map_congr_left fun x hx=>(hf x (List.mem_cons_of_mem _ hx) fun e=>hn.1 (e ▸ hx)).symm
     rw [this,h0];omega
   · have h1:=aaw l hn.2 ((List.mem_cons.1 hw).resolve_left fun e=>ha e.symm) (fun x hx=>hf x (List.mem_cons_of_mem _ hx)) h0
     rw [hf a List.mem_cons_self ha];omega
theorem ace(h:TI N nx r s){w:Int}(hw:0≤w∧w<N)(h0:elt s.idx w=0):tmu N nx (di s w)+1=tmu N nx s:=by
 have hli:=h.li
 have hc0:=h.cnt0
 have eI:∀ v,0≤v→elt (di s w).idx v=if w=v then s.cnt+1 else elt s.idx v:=fun v hv=>ei hw.1 (by omega) hv
 unfold tmu
 have h1:=aaw (f:=fun v:Nat=>if elt s.idx (v:Int)=0 then (elt nx (v:Int)).length+2 else 0) (g:=fun v:Nat=>if elt (di s w).idx (v:Int)=0 then (elt nx (v:Int)).length+2 else 0) (w:=w.toNat) (List.range N) List.nodup_range (List.mem_range.2 (by omega)) (fun x _ hx=>by
   have e:elt (di s w).idx (x:Int)=elt s.idx (x:Int):=by rw [eI _ (Int.natCast_nonneg x),if_neg (by omega)]
   rw [e]) (by
   have e:elt (di s w).idx (w.toNat:Int)=s.cnt+1:=by rw [eI _ (Int.natCast_nonneg _),if_pos (by omega)]
   rw [e,if_neg (by omega)])
 rw [Int.toNat_of_nonneg hw.1,if_pos h0] at h1
 rw [show (di s w).calls=s.calls++[(w,0)] from rfl,List.map_append,List.sum_append]
 simp only [List.map_cons,List.map_nil,List.sum_cons,List.sum_nil]
 simp
 omega
theorem afg{cs:List (Int × Int)}{v i:Int}(hc:s.calls=cs++[(v,i)])(h0:0≤i)(hi:i<(elt nx v).length):tmu N nx { s with calls:=cs++[(v,i+1)] } + 1=tmu N nx s:=by
 unfold tmu
 rw [hc,List.map_append,List.map_append,List.sum_append,List.sum_append]
 simp only [List.map_cons,List.map_nil,List.sum_cons,List.sum_nil]
 omega
theorem afh{cs:List (Int × Int)}{v i:Int}(hc:s.calls=cs++[(v,i)]):tmu N nx { s with calls:=cs } + 1≤tmu N nx s:=by
 unfold tmu
 rw [hc,List.map_append,List.sum_append]
 simp only [List.map_cons,List.map_nil,List.sum_cons,List.sum_nil]
 omega
end
def rZ(us:List (List Int))(p:Int):Nat:=((List.range us.length).map fun q:Nat=>(elt us (q:Int)).count p).sum
def dnU(us:List (List Int))(D:List Int)(p:Int):Nat:=(D.map fun q=>(elt us q).count p).sum
theorem dV(f:Nat→Nat):∀ (D R:List Nat),D.Nodup→(∀ q∈D,q∈R)→(D.map f).sum≤(R.map f).sum
 | [],_,_,_=>Nat.zero_le _
 | q :: D,R,hn,hs=>by
   rw [List.nodup_cons] at hn
   have hq:=hs q List.mem_cons_self
   have h1:=dV f D (R.erase q) hn.2 (fun x hx=>(List.mem_erase_of_ne (a:=x) (b:=q) (fun e=>hn.1 (by rw [← e];exact hx))).2 (hs x (List.mem_cons_of_mem _ hx)))
   have h2:(R.map f).sum=f q+((R.erase q).map f).sum:=by
     have:=(List.perm_cons_erase hq).map f
     rw [this.sum_nat];simp
   rw [List.map_cons,List.sum_cons,h2];omega
theorem eF{D:List Int}(hn:D.Nodup)(h0:∀ q∈D,0≤q):(D.map Int.toNat).Nodup:=by
 induction D with
 | nil=>simp
 | cons q D ih =>
   rw [List.nodup_cons] at hn
   rw [List.map_cons,List.nodup_cons]
   refine ⟨fun hm => ?_,ih hn.2 fun x hx=>h0 x (List.mem_cons_of_mem _ hx)⟩
   obtain ⟨x,hx,e⟩:=List.mem_map.1 hm
   have h1:=h0 x (List.mem_cons_of_mem _ hx)
   have h2:=h0 q List.mem_cons_self
   have:x=q:=by omega
   exact hn.1 (this ▸ hx)
theorem tl{us:List (List Int)}{D:List Int}{p:Int}(hn:D.Nodup)(hr:∀ q∈D,0≤q∧q<us.length):dnU us D p≤rZ us p:=by
 have h:=dV (fun q:Nat=>(elt us (q:Int)).count p) (D.map Int.toNat) (List.range us.length) (eF hn fun q hq=>(hr q hq).1) (fun q hq=>by
   obtain ⟨x,hx,e⟩:=List.mem_map.1 hq
   have:=hr x hx
   exact List.mem_range.2 (by omega))
 have e:dnU us D p=((D.map Int.toNat).map fun q:Nat=>(elt us (q:Int)).count p).sum:=by
   unfold dnU
   rw [List.map_map]
   refine congrArg List.sum (List.map_congr_left fun q hq => ?_)
   show _=(elt us ((q.toNat:Nat):Int)).count p
   rw [Int.toNat_of_nonneg (hr q hq).1]
 unfold rZ;rw [e];exact h
structure KI (M:Nat) (us:List (List Int)) (w:List Int) (D H:List Int) (seen:List Int):Prop where
 lw:w.length=M+1
 lu:us.length=M+1
 ur:∀ q:Nat,∀ p∈elt us (q:Int),1≤p∧p≤M
 nd:(D++H).Nodup
 rg:∀ p∈D++H,1≤p∧p≤M
 wt:∀ p:Int,1≤p→p≤M→elt w p=rZ us p-dnU us D p-seen.count p
 zr:∀ p:Int,1≤p→p≤M→(p∈D++H↔elt w p=0)
section
variable {M:Nat} {us:List (List Int)} {w D H:List Int}
theorem KI.len(h:KI M us w D H []):D.length≤M:=by
 have hn:D.Nodup:=by have:=h.nd;rw [List.nodup_append] at this;exact this.1
 have hr:∀ q∈D,1≤q∧q≤M:=fun q hq=>h.rg q (List.mem_append_left _ hq)
 have h1:=dV (fun _=>1) (D.map Int.toNat) (List.range' 1 M) (eF hn fun q hq=>by have:=hr q hq;omega) (fun q hq=>by
   obtain ⟨x,hx,e⟩:=List.mem_map.1 hq
   have:=hr x hx
   exact List.mem_range'_1.2 (by omega))
 have e:∀ l:List Nat,(l.map fun _=>1).sum=l.length:=fun l=>by induction l with
   | nil=>rfl
   | cons a l ih=>rw [List.map_cons,List.sum_cons,ih,List.length_cons];omega
 rw [e,e,List.length_map,List.length_range'] at h1
 exact h1
theorem KI.perm(h:KI M us w D H []){H':List Int}(hp:H'.Perm H):KI M us w D H' [] :=
 ⟨h.lw,h.lu,h.ur,(hp.append_left D).nodup_iff.2 h.nd,fun p hm=>h.rg p ((hp.append_left D).mem_iff.1 hm),h.wt,fun p h1 h2=>((hp.append_left D).mem_iff).trans (h.zr p h1 h2)⟩
theorem KI.pos{q p:Int}{j:Nat}(h:KI M us w D (q::H) ((elt us q).take j))(hp:(elt us q)[j]? = some p):(1≤p∧p≤M)∧1≤elt w p∧p ∉ D++q::H:=by
 have hq:1≤q∧q≤M:=h.rg q (by simp)
 have hpr:1≤p∧p≤M:=by
   have:=h.ur q.toNat p (by rw [Int.toNat_of_nonneg (by omega)];exact List.mem_of_getElem? hp)
   exact this
 have hn2:(D++[q]).Nodup:=by
   have h1:(D++[q]).Sublist (D++q::H):=List.Sublist.append (List.Sublist.refl _) (by simp)
   exact h1.nodup h.nd
 have hle:=tl (us:=us) (D:=D++[q]) (p:=p) hn2 (fun x hx=>by
   have hlu:=h.lu
   rcases List.mem_append.1 hx with h1 | h1
   · have:=h.rg x (List.mem_append_left _ h1);omega
   · rw [List.mem_singleton.1 h1];omega)
 have e:dnU us (D++[q]) p=dnU us D p+(elt us q).count p:=by unfold dnU;simp
 have hc:((elt us q).take j).count p+1≤(elt us q).count p:=by
   have h1:((elt us q).take (j+1)).count p≤(elt us q).count p:=(List.take_sublist _ _).count_le _
   rw [List.take_add_one,hp,List.count_append] at h1
   simpa using h1
 have hw:=h.wt p hpr.1 hpr.2
 have h1:1≤elt w p:=by omega
 exact ⟨hpr,h1,fun hm=>by have:=(h.zr p hpr.1 hpr.2).1 hm;omega⟩
theorem KI.step{q p:Int}{j:Nat}(h:KI M us w D (q::H) ((elt us q).take j))(hp:(elt us q)[j]? = some p) :
   KI M us (w.set p.toNat (elt w p-1)) D (if elt w p-1=0 then q::p::H else q::H) ((elt us q).take (j+1)):=by
 obtain ⟨hpr,hge,hno⟩:=h.pos hp
 have hlw:=h.lw
 have eW:∀ x,0≤x→elt (w.set p.toNat (elt w p-1)) x=if p=x then elt w p-1 else elt w x:=fun x hx=>ei (by omega) (by omega) hx
 have hmem:∀ x,x∈(if elt w p-1=0 then q::p::H else q::H)↔x∈q::H∨(elt w p-1=0∧x=p):=fun x=>by
   split
   · rename_i h0
     simp only [List.mem_cons,h0,true_and]
     constructor
     · rintro (a | a | a)
       · exact .inl (.inl a)
       · exact .inr a
       · exact .inl (.inr a)
     · rintro ((a | a) | a)
       · exact .inl a
       · exact .inr (.inr a)
       · exact .inr (.inl a)
   · rename_i h0;simp [h0]
 refine ⟨by rw [List.length_set];exact hlw,h.lu,h.ur,?_,?_,?_,?_⟩
 · split
   · have h1:(p::(D++q::H)).Nodup:=List.nodup_cons.2 ⟨hno,h.nd⟩
     have h2:(D++q::p::H).Perm (p::(D++q::H)):=by
       have h3:(D++q::p::H).Perm (D++p::q::H):=(List.Perm.swap p q H).append_left D
       exact h3.trans List.perm_middle
     exact h2.nodup_iff.2 h1
   · exact h.nd
 · intro x hx
   rcases List.mem_append.1 hx with h1 | h1
   · exact h.rg x (List.mem_append_left _ h1)
   · rcases (hmem x).1 h1 with h2 | ⟨_,h2⟩
     · exact h.rg x (List.mem_append_right _ h2)
     · rw [h2];exact hpr
 · intro x h1 h2
   have hx:=h.wt x h1 h2
   rw [eW x (by omega),List.take_add_one,hp,List.count_append]
   simp only [Option.toList_some,List.count_singleton,beq_iff_eq]
   split
   · rename_i e;subst e;omega
   · omega
 · intro x h1 h2
   rw [eW x (by omega),List.mem_append,hmem]
   have hz:=h.zr x h1 h2
   rw [List.mem_append] at hz
   split
   · rename_i e;subst e
     constructor
     · rintro (a | a | a)
       · exact absurd (List.mem_append_left _ a) hno
       · exact absurd (List.mem_append_right _ a) hno
       · exact a.1
     · intro a;exact .inr (.inr ⟨a,rfl⟩)
   · rename_i e
     rw [← hz]
     constructor
     · rintro (a | a | a)
       · exact .inl a
       · exact .inr a
       · exact absurd a.2.symm e
     · rintro (a | a)
       · exact .inl a
       · exact .inr (.inl a)
theorem KI.done{q:Int}{j:Nat}(h:KI M us w D (q::H) ((elt us q).take j))(hj:(elt us q).length≤j):KI M us w (D++[q]) H []:=by
 have hp:(D++[q]++H).Perm (D++q::H):=by simp
 refine ⟨h.lw,h.lu,h.ur,hp.nodup_iff.2 h.nd,fun p hm=>h.rg p (hp.mem_iff.1 hm),fun p h1 h2 => ?_,fun p h1 h2=>hp.mem_iff.trans (h.zr p h1 h2)⟩
 have:=h.wt p h1 h2
 rw [List.take_of_length_le hj] at this
 have e:dnU us (D++[q]) p=dnU us D p+(elt us q).count p:=by unfold dnU;simp
 rw [this,e];simp;omega
end
end Go.Lv

