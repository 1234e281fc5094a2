/- Parts of the proof, in build order. No condition. -/
import Derived.Test.YtgkbbdgklpabpaaGreatDoorSc13
import Derived.Lib.Zigzag
import Derived.Lib.EndianBits
import Derived.Lib.Varint
import Derived.Test.YtgkbbdgklpabpaaGreatDoorProg
import Derived.Ground.NamesProg
import Derived.Shelf.Sort.Plain
import Derived.Ground.Names2Prog
import Derived.Shelf.Slices.CompactI
import Derived.Shelf.Slices.Clone
import Derived.Shelf.Slices.Reverse
import Derived.Test.YtgkbbdgklpabpaaGreatDoorSc11
import Derived.Test.YtgkbbdgklpabpaaGreatDoorSc06
import Derived.Test.YtgkbbdgklpabpaaGreatDoorSc05
import Derived.Shelf.Slices.In.SortNone
import Derived.Shelf.Bits.Mul64
import Derived.Test.YtgkbbdgklpabpaaGreatDoorSc12
set_option linter.unusedSimpArgs false
set_option linter.unusedVariables false
set_option maxHeartbeats 20000000
set_option maxRecDepth 20000
namespace Go.Lv
open Go.Sy
structure PL (N:Nat) (part:List Int) (ps:List (List Int)):Prop where
 ne:∀ (k:Nat) (p:List Int),ps[k]? = some p→p≠[]∧p.Nodup
 of:∀ (k:Nat) (p:List Int),ps[k]? = some p→∀ x∈p,(0≤x∧x<N)∧elt part x=(k:Int)+1
section
variable {N:Nat} {nx:List (List Int)} {r:Int} {s:TS}
theorem PL.close{ps:List (List Int)}(hP:PL N s.part ps)(h:TI N nx r s)(hn:s.np=ps.length){A B p:List Int}{v:Int}(hs:s.stk=A++v::B)(hp:p.Perm (v::B)):PL N (b8 s.part ((s.np:Int)+1) p) (ps++[p]):=by
 have hnd:=h.nd
 rw [hs,List.nodup_append] at hnd
 have hst:∀ x∈p,(0≤x∧x<(N:Int))∧elt s.part x=0:=fun x hx=>by
   have:=(h.stk x).1 (by rw [hs];exact List.mem_append_right _ (hp.mem_iff.1 hx))
   exact ⟨this.1,this.2.2⟩
 have hlp:=h.lp
 have eP:∀ x,0≤x→elt (b8 s.part ((s.np:Int)+1) p) x=if x∈p then (s.np:Int)+1 else elt s.part x:=gQ p s.part fun w hw=>by rw [hlp];exact (hst w hw).1
 constructor
 · intro k q hq
   rcases Nat.lt_or_ge k ps.length with hk | hk
   · rw [List.getElem?_append_left hk] at hq;exact hP.ne k q hq
   · have hk2:k=ps.length:=by have:=(List.getElem?_eq_some_iff.1 hq).1;simp at this;omega
     subst hk2
     rw [List.getElem?_append_right (Nat.le_refl _),Nat.sub_self] at hq
     obtain rfl:=Option.some.inj hq
     exact ⟨fun e=>by have:=hp.length_eq;rw [e] at this;simp at this,hp.nodup_iff.2 hnd.2.1⟩
 · intro k q hq x hx
   rcases Nat.lt_or_ge k ps.length with hk | hk
   · rw [List.getElem?_append_left hk] at hq
     have h1:=hP.of k q hq x hx
     rw [eP x h1.1.1,if_neg (fun hm=>by have:=(hst x hm).2;omega)]
     exact h1
   · have hk2:k=ps.length:=by have:=(List.getElem?_eq_some_iff.1 hq).1;simp at this;omega
     subst hk2
     rw [List.getElem?_append_right (Nat.le_refl _),Nat.sub_self] at hq
     obtain rfl:=Option.some.inj hq
     rw [eP x (hst x hx).1.1,if_pos hx,hn]
     exact ⟨(hst x hx).1,rfl⟩
theorem PL.short{part:List Int}{ps:List (List Int)}(hP:PL N part ps){p:List Int}(hp:p∈ps):p.length≤N:=by
 obtain ⟨k,hk⟩:=List.getElem?_of_mem hp
 have h1:=(hP.ne k p hk).2
 have h2:=hP.of k p hk
 have h3:=cW (fun _=>1) (p.map Int.toNat) (List.range N) (dC h1 fun q hq=>(h2 q hq).1.1) (fun q hq=>by
   obtain ⟨x,hx,e⟩:=List.mem_map.1 hq
   have:=h2 x hx
   exact List.mem_range.2 (by omega))
 have e:∀ l:List Nat,(l.map fun _=>1).sum=l.length:=fun l=>by induction l with
   | nil=>rfl
   | cons a l ih=>rw [List.map_cons,List.sum_cons,ih,List.length_cons];omega
 rw [e,e,List.length_map,List.length_range] at h3
 exact h3
end
structure WB (M:Nat) (w:List Int) (us:List (List Int)):Prop where
 lw:w.length=M+1
 lu:us.length=M+1
 ur:∀ q:Nat,∀ p∈elt us (q:Int),1≤p∧p≤M
 wt:∀ p:Int,1≤p→p≤M→elt w p=oH us p
theorem aad{f g:Nat→Nat}{w d:Nat} : ∀ l:List Nat,l.Nodup→w∈l→(∀ x∈l,x≠w→g x=f x)→g w=f w+d→(l.map g).sum=(l.map f).sum+d
 | [],_,h,_,_=>by cases h
 | a :: l,hn,hw,hf,h0=>by
   rw [List.nodup_cons] at hn
   rw [List.map_cons,List.map_cons,List.sum_cons,List.sum_cons]
   by_cases ha:a=w
   · subst ha
     have:l.map g=l.map f:=List.map_congr_left fun x hx=>hf x (List.mem_cons_of_mem _ hx) fun e=>hn.1 (e ▸ hx)
     rw [this,h0];omega
   · have h1:=aad l hn.2 ((List.mem_cons.1 hw).resolve_left fun e=>ha e.symm) (fun x hx=>hf x (List.mem_cons_of_mem _ hx)) h0
     rw [hf a List.mem_cons_self ha];omega
theorem se{l:List (List Int)}{q:Int}{y:List Int}(h0:0≤q)(h1:q<l.length){x:Int}(hx:0≤x):elt (l.set q.toNat y) x=if q=x then y else elt l x:=by
 unfold elt
 rw [List.getD_eq_getElem?_getD,List.getD_eq_getElem?_getD,List.getElem?_set]
 by_cases h:q=x
 · subst h;rw [if_pos rfl,if_pos (by omega),if_pos rfl];rfl
 · rw [if_neg (by omega),if_neg h]
theorem WB.step{M:Nat}{w:List Int}{us:List (List Int)}(h:WB M w us){p q:Int}(hp:1≤p∧p≤M)(hq:1≤q∧q≤M):WB M (w.set p.toNat (elt w p+1)) (us.set q.toNat (elt us q++[p])):=by
 have hlw:=h.lw
 have hlu:=h.lu
 have eU:∀ x:Int,0≤x→elt (us.set q.toNat (elt us q++[p])) x=if q=x then elt us q++[p] else elt us x:=fun x hx=>se (by omega) (by omega) hx
 refine ⟨by rw [List.length_set];exact hlw,by rw [List.length_set];exact hlu,fun k x hx => ?_,fun x h1 h2 => ?_⟩
 · rw [eU _ (Int.natCast_nonneg k)] at hx
   split at hx
   · rcases List.mem_append.1 hx with h1 | h1
     · have:=h.ur q.toNat x (by rw [Int.toNat_of_nonneg (by omega)];exact h1)
       exact this
     · rw [List.mem_singleton.1 h1];exact hp
   · exact h.ur k x hx
 · rw [dq (by omega) (by omega) (by omega)]
   have hw:=h.wt x h1 h2
   have ht:oH (us.set q.toNat (elt us q++[p])) x=oH us x+if p=x then 1 else 0:=by
     unfold oH
     rw [List.length_set]
     refine aad (w:=q.toNat) (List.range us.length) List.nodup_range (List.mem_range.2 (by omega)) (fun y _ hy => ?_) ?_
     · rw [eU _ (Int.natCast_nonneg y),if_neg (by omega)]
     · rw [eU _ (Int.natCast_nonneg _),if_pos (by omega),Int.toNat_of_nonneg (by omega),List.count_append,List.count_singleton]
       simp only [beq_iff_eq]
   rw [ht]
   split
   · rename_i e;subst e;rw [hw];omega
   · rw [hw];omega
theorem WB.start(M:Nat):WB M (List.replicate (M+1) 0) (List.replicate (M+1) []):=by
 have e:∀ q:Int,elt (List.replicate (M+1) ([]:List Int)) q=[]:=fun q=>by
   unfold elt
   rw [List.getD_eq_getElem?_getD,List.getElem?_replicate]
   split<;>rfl
 refine ⟨by simp,by simp,fun q p hp=>(by rw [e] at hp;cases hp),fun p _ _ => ?_⟩
 have h1:oH (List.replicate (M+1) []) p=0:=by
   unfold oH
   have:∀ l:List Nat,(l.map fun q:Nat=>(elt (List.replicate (M+1) ([]:List Int)) (q:Int)).count p).sum=0:=fun l=>by
     induction l with
     | nil=>rfl
     | cons a l ih=>rw [List.map_cons,List.sum_cons,ih,e];rfl
   exact this _
 rw [h1]
 unfold elt
 rw [List.getD_eq_getElem?_getD,List.getElem?_replicate]
 split<;>rfl
theorem KI.start{M:Nat}{w:List Int}{us:List (List Int)}(h:WB M w us){H:List Int}(hn:H.Nodup)(hr:∀ p∈H,1≤p∧p≤M)(hz:∀ p:Int,1≤p→p≤M→(p∈H↔elt w p=0)):KI M us w [] H [] :=
 ⟨h.lw,h.lu,h.ur,hn,hr,fun p h1 h2=>by rw [h.wt p h1 h2];simp [dnU],hz⟩
end Go.Lv

namespace Go.Lv
def nU(b:ByteArray):List UInt8:=b.data.toList
open Go
section
variable {r:List UInt8} {i acc:Nat} {u:UInt8}
end
end Go.Lv

namespace Go.Proofs
open Go.Shelf
def Tryz.lays189_ren:Go.Shelf.Ren:=⟨fun | 189=>203 | 125=>238 | 257=>237 | 128=>263 | 129=>264 | 294=>254 | 295=>255 | 296=>256 | 297=>257 | 298=>258 | 299=>259 | 216=>260 | 300=>261 | 301=>262 | 328=>266 | 329=>267 | 330=>268 | 331=>269 | 332=>270 | 215=>222 | 343=>272 | n=>n,fun | 28=>33 | 3=>3 | 46=>152 | 0=>0 | 51=>193 | 53=>196 | 4=>4 | 183=>320 | 182=>319 | 131=>60 | 5=>5 | 9=>9 | 218=>327 | 222=>273 | 228=>332 | 229=>91 | n=>n,fun | n=>n⟩
theorem Tryz.lays189:Go.Proofs.Lays.n189 Tryz.prog Tryz.lays189_ren := {
 mixed:=by kernel_rfl
 f125:=Tryz.func238.trans (congrArg some (by kernel_rfl))
 f128:=Tryz.func263.trans (congrArg some (by kernel_rfl))
 f129:=Tryz.func264.trans (congrArg some (by kernel_rfl))
 f189:=Tryz.func203.trans (congrArg some (by kernel_rfl))
 f215:=Tryz.func222.trans (congrArg some (by kernel_rfl))
 f216:=Tryz.func260.trans (congrArg some (by kernel_rfl))
 f257:=Tryz.func237.trans (congrArg some (by kernel_rfl))
 f294:=Tryz.func254.trans (congrArg some (by kernel_rfl))
 f295:=Tryz.func255.trans (congrArg some (by kernel_rfl))
 f296:=Tryz.func256.trans (congrArg some (by kernel_rfl))
 f297:=Tryz.func257.trans (congrArg some (by kernel_rfl))
 f298:=Tryz.func258.trans (congrArg some (by kernel_rfl))
 f299:=Tryz.func259.trans (congrArg some (by kernel_rfl))
 f300:=Tryz.func261.trans (congrArg some (by kernel_rfl))
 f301:=Tryz.func262.trans (congrArg some (by kernel_rfl))
 f328:=Tryz.func266.trans (congrArg some (by kernel_rfl))
 f329:=Tryz.func267.trans (congrArg some (by kernel_rfl))
 f330:=Tryz.func268.trans (congrArg some (by kernel_rfl))
 f331:=Tryz.func269.trans (congrArg some (by kernel_rfl))
 f332:=Tryz.func270.trans (congrArg some (by kernel_rfl))
 f343:=Tryz.func272.trans (congrArg some (by kernel_rfl))
 t0:=Tryz.underlying0
 a0:=Tryz.isAgg0
 z0:=Tryz.sizeOf0
 v0:=Tryz.zeroValue0
 t3:=Tryz.underlying3
 a3:=Tryz.isAgg3
 z3:=Tryz.sizeOf3
 v3:=Tryz.zeroValue3
 t4:=Tryz.underlying4
 a4:=Tryz.isAgg4
 z4:=Tryz.sizeOf4
 v4:=Tryz.zeroValue4
 t5:=Tryz.underlying5
 a5:=Tryz.isAgg5
 z5:=Tryz.sizeOf5
 v5:=Tryz.zeroValue5
 t9:=Tryz.underlying9
 a9:=Tryz.isAgg9
 z9:=Tryz.sizeOf9
 v9:=Tryz.zeroValue9
 t28:=Tryz.underlying33
 a28:=Tryz.isAgg33
 z28:=Tryz.sizeOf33
 v28:=Tryz.zeroValue33
 t46:=Tryz.underlying152
 a46:=Tryz.isAgg152
 z46:=Tryz.sizeOf152
 v46:=Tryz.zeroValue152
 t51:=Tryz.underlying193
 a51:=Tryz.isAgg193
 z51:=Tryz.sizeOf193
 v51:=Tryz.zeroValue193
 t53:=Tryz.underlying196
 a53:=Tryz.isAgg196
 z53:=Tryz.sizeOf196
 v53:=Tryz.zeroValue196
 t131:=Tryz.underlying60
 a131:=Tryz.isAgg60
 z131:=Tryz.sizeOf60
 v131:=Tryz.zeroValue60
 t182:=Tryz.underlying319
 a182:=Tryz.isAgg319
 z182:=Tryz.sizeOf319
 v182:=Tryz.zeroValue319
 t183:=Tryz.underlying320
 a183:=Tryz.isAgg320
 z183:=Tryz.sizeOf320
 v183:=Tryz.zeroValue320
 t218:=Tryz.underlying327
 a218:=Tryz.isAgg327
 z218:=Tryz.sizeOf327
 v218:=Tryz.zeroValue327
 t222:=Tryz.underlying273
 a222:=Tryz.isAgg273
 z222:=Tryz.sizeOf273
 v222:=Tryz.zeroValue273
 t228:=Tryz.underlying332
 a228:=Tryz.isAgg332
 z228:=Tryz.sizeOf332
 v228:=Tryz.zeroValue332
 t229:=Tryz.underlying91
 a229:=Tryz.isAgg91
 z229:=Tryz.sizeOf91
 v229:=Tryz.zeroValue91 }
def Tryz.lays20_ren:Go.Shelf.Ren:=⟨fun | 20=>204 | n=>n,fun | 22=>33 | 3=>3 | 4=>4 | 0=>0 | n=>n,fun | n=>n⟩
theorem Tryz.lays20:Go.Proofs.Lays2.n20 Tryz.prog Tryz.lays20_ren := {
 mixed:=by kernel_rfl
 f20:=Tryz.func204.trans (congrArg some (by kernel_rfl))
 t0:=Tryz.underlying0
 a0:=Tryz.isAgg0
 z0:=Tryz.sizeOf0
 v0:=Tryz.zeroValue0
 t3:=Tryz.underlying3
 a3:=Tryz.isAgg3
 z3:=Tryz.sizeOf3
 v3:=Tryz.zeroValue3
 t4:=Tryz.underlying4
 a4:=Tryz.isAgg4
 z4:=Tryz.sizeOf4
 v4:=Tryz.zeroValue4
 t22:=Tryz.underlying33
 a22:=Tryz.isAgg33
 z22:=Tryz.sizeOf33
 v22:=Tryz.zeroValue33
 i3:=by kernel_rfl }
def Tryz.lays112_ren:Go.Shelf.Ren:=⟨fun | 112=>205 | n=>n,fun | 28=>33 | 3=>3 | 4=>4 | 0=>0 | n=>n,fun | n=>n⟩
theorem Tryz.lays112:Go.Proofs.Lays.n112 Tryz.prog Tryz.lays112_ren := {
 mixed:=by kernel_rfl
 f112:=Tryz.func205.trans (congrArg some (by kernel_rfl))
 t0:=Tryz.underlying0
 a0:=Tryz.isAgg0
 z0:=Tryz.sizeOf0
 v0:=Tryz.zeroValue0
 t3:=Tryz.underlying3
 a3:=Tryz.isAgg3
 z3:=Tryz.sizeOf3
 v3:=Tryz.zeroValue3
 t4:=Tryz.underlying4
 a4:=Tryz.isAgg4
 z4:=Tryz.sizeOf4
 v4:=Tryz.zeroValue4
 t28:=Tryz.underlying33
 a28:=Tryz.isAgg33
 z28:=Tryz.sizeOf33
 v28:=Tryz.zeroValue33 }
end Go.Proofs

namespace Go.Sy
open Go.RowKit Go.Lp
section
variable {P:Program} {n:Fr} {env:Env} {ps:List Per} {hp:List Res} {ty:TypeId} {pos:String} {af:Array Edge} {gd:Option (Nat × Bool)} {d:Option Tmp} {E T:TypeId} {sz:Nat} {x y:Operand} {c:Code} {Q:Exit→Sta→Prop}
theorem eE{B m cp:Nat}(k:Nat)(hel:elB P T E sz=true)(hx:ev env x=some (true,.slice (some ⟨B,0,none⟩) m cp)){z:Int}(hy:ev env y=some (true,.int .i64 z))(hz:z=(k:Int))(hk:k<m) :
   Quiet P n ⟨d,.indexAddr T x y,ty,pos,af,gd⟩ ⟨env,ps,hp⟩ (.pointer (some ⟨B,k*sz,none⟩)):=fun w S fp a hst he hn=>by
 subst hz
 obtain ⟨hT,it,hit,_,hsz,_⟩:=di hel
 have h1:=he.val hx rfl
 have h2:=he.val hy rfl
 have:(execOp a.eval ⟨d,.indexAddr T x y,ty,pos,af,gd⟩).run P w=.ok (.value (.pointer (some ⟨B,k*sz,none⟩))) w:=by
   unfold execOp;dsimp only;rw [h1,h2]
   show ((Instr.indexAt T (.slice (some ⟨B,0,none⟩) m cp) (.int .i64 k)).bind fun r=>Sem.pure (Next.value r)).run P w=_
   have hE:P.elem T=E:=by unfold Program.elem;rw [hT]
   rw [Sem.run_bind',run_indexAt_slice _ _ _ _ _ _ _ (by rw [hE];exact hT),if_pos (by omega),hE,cF hit,hsz]
   simp only [Result.andThen,Int.toNat_natCast]
   unfold Addr.add
   split
   · rename_i h0;rw [h0];rfl
   · simp only [Nat.zero_add];rfl
 rw [this];exact bE _ _
theorem dW(i:Nat){v:Value}{rows:List (List D)}(hi:hp[i]? = some (aP v E sz rows))(h0:rows≠[])(h:∀ B cp,v=.slice (some ⟨B,0,none⟩) rows.length cp→awp P n c Q ⟨env,ps,hp⟩):awp P n c Q ⟨env,ps,hp⟩ :=
 cB (φ:=∃ B cp,v=.slice (some ⟨B,0,none⟩) rows.length cp) i hi (fun w S F hh=>by
   rcases hh with ⟨_,h1,_⟩ | ⟨B,cp,h1,_⟩
   · exact (h0 h1).elim
   · exact ⟨B,cp,h1⟩) (fun ⟨B,cp,e⟩=>h B cp e)
end
end Go.Sy
namespace Go.Proofs.YtgkbbdgklpabpaaGreatDoor
open Go.RowKit Go.Lp Go.Sy Go.Sort Go.Shelf
abbrev encI(z:Int):Value:=.int .i64 z
def eB(zs:List Int):List Int:=zs.mergeSort fun x y=>decide (x≤y)
end Go.Proofs.YtgkbbdgklpabpaaGreatDoor

namespace Go.Proofs.YtgkbbdgklpabpaaGreatDoor
open Go.RowKit Go.Lp Go.Sy
def fc(L:List (List Int))(a:cj):List (List Int):=L.set a.from_.toNat (L.getD a.from_.toNat []++[a.to_])
def dg(N:Nat)(l:List cj):List (List Int):=l.foldl fc (List.replicate N [])
theorem jt(L:List (List Int))(a:cj):(fc L a).length=L.length:=by simp [fc]
theorem lf(l:List cj):∀ L:List (List Int),(l.foldl fc L).length=L.length:=by
 induction l with
 | nil=>intro L;rfl
 | cons a l ih=>intro L;rw [List.foldl_cons,ih,jt]
theorem cx(N:Nat)(l:List cj):(dg N l).length=N:=by unfold dg;rw [lf];simp
theorem sL(N:Nat)(l:List cj){k:Nat}{a:cj}(h:l[k]? = some a):dg N (l.take (k+1))=fc (dg N (l.take k)) a:=by
 unfold dg;rw [List.take_add_one,h,List.foldl_append];rfl
theorem mh(l:List cj):∀ (L:List (List Int)) (m:Nat),(∀ r∈L,r.length≤m)→∀ r∈l.foldl fc L,r.length≤m+l.length:=by
 induction l with
 | nil=>intro L m h r hr;exact h r hr
 | cons a l ih =>
   intro L m h r hr
   rw [List.foldl_cons] at hr
   have:=ih (fc L a) (m+1) (fun r hr=>by
     unfold fc at hr
     rcases List.mem_or_eq_of_mem_set hr with h1 | rfl
     · exact Nat.le_succ_of_le (h r h1)
     · have:(L.getD a.from_.toNat []).length≤m:=by
         by_cases hlt:a.from_.toNat<L.length
         · rw [show L.getD a.from_.toNat []=L[a.from_.toNat] by simp [List.getD,hlt]];exact h _ (List.getElem_mem hlt)
         · rw [show L.getD a.from_.toNat []=[] by simp [List.getD,Nat.not_lt.1 hlt]];exact Nat.zero_le _
       rw [List.length_append,List.length_singleton];omega) r hr
   rw [List.length_cons];omega
theorem p4(N:Nat)(l:List cj){r:List Int}(h:r∈dg N l):r.length≤l.length:=by
 have:=mh l (List.replicate N []) 0 (fun r hr=>by rw [(List.mem_replicate.1 hr).2];exact Nat.le_refl _) r h
 omega
def cr(zs:List Int):List Int:=Lib.compact (eB zs)
def ck(N:Nat)(l:List cj):List (List Int):=(dg N l).map cr
def fo(L:List (List Int))(k:Nat):List (List Int):=(L.take k).map cr++L.drop k
theorem jJ(L:List (List Int))(k:Nat)(h:k≤L.length):(fo L k).length=L.length:=by simp [fo];omega
theorem uL{L:List (List Int)}{k:Nat}{x:List Int}(h:L[k]? = some x):(fo L k)[k]? = some x:=by
 have hk:=(List.getElem?_eq_some_iff.1 h).1
 unfold fo
 rw [List.getElem?_append_right (by simp;omega)]
 simp only [List.length_map,List.length_take,List.getElem?_drop]
 rw [show k+(k-min k L.length)=k by omega];exact h
theorem sM{L:List (List Int)}{k:Nat}{x:List Int}(h:L[k]? = some x):(fo L k).set k (cr x)=fo L (k+1):=by
 have hk:=(List.getElem?_eq_some_iff.1 h).1
 unfold fo
 rw [List.set_append_right _ _ (by simp;omega),List.take_add_one,h,List.map_append,List.append_assoc]
 congr 1
 rw [List.length_map,List.length_take,show k-min k L.length=0 by omega,List.drop_eq_getElem_cons hk,List.set_cons_zero]
 rfl
theorem jh(vs:List Value)(k:Nat)(v:Value):ct (vs.set k v)=(ct vs).set k [.v v]:=by simp [ct,List.map_set]
theorem vX{P:Program}{n:Fr}{env:Env}{ps:List Per}{hp:List Res}{c:Code}{Q:Exit→Sta→Prop}{α:Type}{enc:α→Value}{vo:Value}{T E:TypeId}{l:List (List α)}(i:Nat)(hi:hp[i]? = some (iw vo T E enc l))(h:∀ ad cp,vo=.slice ad l.length cp→awp P n c Q ⟨env,ps,hp⟩):awp P n c Q ⟨env,ps,hp⟩ :=
 cB (φ:=∃ ad cp,vo=.slice ad l.length cp) i hi (fun w S F hh=>by
   obtain ⟨vs,hl,G,H,hG,hH,_,e⟩:=hh
   rcases hG with ⟨h1,h2,_⟩ | ⟨B,cp,h1,_⟩
   · refine ⟨none,0,?_⟩
     have:vs=[]:=by simpa [ct] using h2
     subst this
     rw [← hl];exact h1
   · exact ⟨_,cp,by rw [h1,jg,hl]⟩) (fun ⟨ad,cp,e⟩=>h ad cp e)
end Go.Proofs.YtgkbbdgklpabpaaGreatDoor

namespace Go.Proofs
open Go.Shelf
def Tryz.lays212_ren:Go.Shelf.Ren:=⟨fun | 212=>89 | 263=>124 | 264=>125 | n=>n,fun | 46=>152 | 51=>193 | 146=>194 | 53=>196 | 148=>197 | n=>n,fun | n=>n⟩
theorem Tryz.lays212:Go.Proofs.Lays.n212 Tryz.prog Tryz.lays212_ren := {
 mixed:=by kernel_rfl
 f212:=Tryz.func89.trans (congrArg some (by kernel_rfl))
 f263:=Tryz.func124.trans (congrArg some (by kernel_rfl))
 f264:=Tryz.func125.trans (congrArg some (by kernel_rfl))
 t46:=Tryz.underlying152
 a46:=Tryz.isAgg152
 z46:=Tryz.sizeOf152
 v46:=Tryz.zeroValue152
 t51:=Tryz.underlying193
 a51:=Tryz.isAgg193
 z51:=Tryz.sizeOf193
 v51:=Tryz.zeroValue193
 t53:=Tryz.underlying196
 a53:=Tryz.isAgg196
 z53:=Tryz.sizeOf196
 v53:=Tryz.zeroValue196
 t146:=Tryz.underlying194
 a146:=Tryz.isAgg194
 z146:=Tryz.sizeOf194
 v146:=Tryz.zeroValue194
 t148:=Tryz.underlying197
 a148:=Tryz.isAgg197
 z148:=Tryz.sizeOf197
 v148:=Tryz.zeroValue197 }
end Go.Proofs


namespace Go.Proofs.YtgkbbdgklpabpaaGreatDoor
open Go.RowKit Go.Lp Go.Sy
theorem wrapN(N:Nat)(hN:N≤100000000):IntKind.i64.wrap (N:Int)=N:=by rw [IntKind.wrap_i64];omega
def part(N k:Nat)(v:Int):List Int:=List.replicate k v++List.replicate (N-k) 0
theorem sK{N k:Nat}(v:Int)(h:k≤N):(part N k v).length=N:=by simp [part];omega
theorem xv{N k j:Nat}(v:Int)(hj:j≤k)(h:k+j≤N):(part N k v).take k++(part N k v).take j++(part N k v).drop (k+j)=part N (k+j) v:=by
 unfold part
 rw [List.take_append_of_le_length (by simp),List.take_append_of_le_length (by simpa using hj),List.drop_append,List.drop_of_length_le (by simp)]
 simp only [List.take_replicate,List.drop_replicate,List.length_replicate,List.nil_append,Nat.min_self,Nat.min_eq_left hj]
 rw [List.replicate_append_replicate]
 congr 2;omega
end Go.Proofs.YtgkbbdgklpabpaaGreatDoor

namespace Go.Sy
open Go.RowKit Go.Lp
theorem py{P:Program}{n:Fr}{env:Env}{ps:List Per}{hp:List Res}{c:Code}{Q:Exit→Sta→Prop}{v:Value}{E:TypeId}{sz:Nat}{rows:List (List D)}(i:Nat)(hi:hp[i]? = some (aP v E sz rows))(h:∀ ad cp,v=.slice ad rows.length cp→awp P n c Q ⟨env,ps,hp⟩):awp P n c Q ⟨env,ps,hp⟩ :=
 cB (φ:=∃ ad cp,v=.slice ad rows.length cp) i hi (fun w S F hh=>df hh) (fun ⟨ad,cp,e⟩=>h ad cp e)
theorem Con.ofOwn{P:Program}{f:FuncId}{args:List Value}{ps:List Per}{v:Value}{E:TypeId}{sz:Nat}{rows:List (List D)}{R:Value→List Per→List Res→Prop}(h:Con P f args (Sh v (.sl rows)::ps) [] R):Con P f args ps [aP v E sz rows] R:=fun w S fp hst=>by
 have h1:=oC hst 0 rfl
 have h2:St w (fun b=>S b∨fp 0 b) (fun _ _=>False) (Sh v (.sl rows)::ps) []:=⟨h1.per,fun i R hi=>by simp at hi,fun i hi=>by simp at hi,fun i j hi=>by simp at hi,h1.slt⟩
 have hE:Evo w S (tot fp 1) w (fun b=>S b∨fp 0 b):=⟨rfl,rfl,rfl,Nat.le_refl _,Nat.le_refl _,fun _ _ _=>rfl,fun _ h=>.inl h,fun b hb=>hb.elim .inl fun h=>.inr (.inl ⟨0,Nat.zero_lt_one,h⟩)⟩
 have h0:∀ b,¬ tot (fun _ _=>False) ([]:List Res).length b:=fun b ⟨j,hj,_⟩=>by simp at hj
 exact (h w _ _ h2).mono fun e w' ⟨u,ps',hp',S',fp',he,hR,hst',hE',hb⟩=>⟨u,ps',hp',S',fp',he,hR,hst',hE.trans hE' (fun b hb=>(h0 b hb).elim),fun b hb'=>(hb b hb').elim (fun h=>(h0 b h).elim) .inr⟩
end Go.Sy
namespace Go.Proofs.YtgkbbdgklpabpaaGreatDoor
open Go.RowKit Go.Lp Go.Sy Go.Lv
def fZ(N:Nat)(a:cj):Prop:=(0≤a.from_∧a.from_<N)∧0≤a.to_∧a.to_<N
theorem uC(l:List cj):∀ (L:List (List Int)) (u:Int) (x:Int),(∀ a∈l,0≤a.from_∧a.from_<L.length)→(0≤u∧u<L.length)→(x∈elt (l.foldl fc L) u↔x∈elt L u∨∃ a∈l,a.from_=u∧a.to_=x):=by
 induction l with
 | nil=>intro L u x _ _;simp
 | cons a l ih =>
   intro L u x ha hu
   have hae:=ha a List.mem_cons_self
   rw [List.foldl_cons,ih (fc L a) u x (fun b hb=>by rw [jt];exact ha b (List.mem_cons_of_mem _ hb)) (by rw [jt];exact hu)]
   have e:elt (fc L a) u=if a.from_=u then elt L u++[a.to_] else elt L u:=by
     unfold fc elt
     rw [List.getD_eq_getElem?_getD,List.getD_eq_getElem?_getD,List.getD_eq_getElem?_getD,List.getElem?_set]
     by_cases h:a.from_=u
     · subst h;rw [if_pos rfl,if_pos (by omega),if_pos rfl];rfl
     · rw [if_neg (by omega),if_neg h]
   rw [e]
   split
   · rename_i h
     rw [List.mem_append,List.mem_singleton]
     simp only [List.mem_cons,exists_eq_or_imp]
     constructor
     · rintro ((h1 | h1) | h1)
       · exact .inl h1
       · exact .inr (.inl ⟨h,h1.symm⟩)
       · exact .inr (.inr h1)
     · rintro (h1 | ⟨_,h1⟩ | h1)
       · exact .inl (.inl h1)
       · exact .inl (.inr h1.symm)
       · exact .inr h1
   · rename_i h
     simp only [List.mem_cons,exists_eq_or_imp]
     constructor
     · rintro (h1 | h1)
       · exact .inl h1
       · exact .inr (.inr h1)
     · rintro (h1 | ⟨h1,_⟩ | h1)
       · exact .inl h1
       · exact (h h1).elim
       · exact .inr h1
theorem gq(d:Array Int)(hs:∀ i j,i<j→j<d.size→d[i]! ≤ d[j]!):∀ m,m≤d.size→(Lib.compactUpTo d m).Pairwise (· < ·)∧(∀ x∈Lib.compactUpTo d m,(∃ j,j<m∧d[j]! = x))∧(∀ j,j<m→d[j]! ∈ Lib.compactUpTo d m)
 | 0,_=>⟨by simp [Lib.compactUpTo],by simp [Lib.compactUpTo],by simp⟩
 | m + 1,hm=>by
   obtain ⟨h1,h2,h3⟩:=gq d hs m (by omega)
   rw [Lib.compactUpTo_succ]
   have hk:Lib.keeps d m=true∨(0<m∧d[m]! = d[m-1]! ∧ Lib.keeps d m=false):=by
     rcases Nat.eq_zero_or_pos m with h0 | h0
     · exact .inl (Lib.keeps_lt_one d m (by omega))
     · by_cases he:d[m]! = d[m-1]!
       · exact .inr ⟨h0,he,Lib.keeps_neg h0 he⟩
       · exact .inl (Lib.keeps_pos he)
   by_cases hkm:Lib.keeps d m=true
   · rw [if_pos hkm]
     refine ⟨?_,fun x hx => ?_,fun j hj => ?_⟩
     · refine List.pairwise_append.2 ⟨h1,List.pairwise_singleton _ _,fun x hx y hy => ?_⟩
       rw [List.mem_singleton.1 hy]
       obtain ⟨j,hj,rfl⟩:=h2 x hx
       have hle:=hs j m hj (by omega)
       rcases Nat.eq_zero_or_pos m with h0 | h0
       · omega
       · have hne:d[m]! ≠ d[m-1]! := fun he=>by rw [Lib.keeps_neg h0 he] at hkm;cases hkm
         have hle2:=hs (m-1) m (by omega) (by omega)
         by_cases hjm:j=m-1
         · subst hjm;omega
         · have:=hs j (m-1) (by omega) (by omega);omega
     · rcases List.mem_append.1 hx with h | h
       · obtain ⟨j,hj,he⟩:=h2 x h;exact ⟨j,by omega,he⟩
       · exact ⟨m,by omega,(List.mem_singleton.1 h).symm⟩
     · by_cases hjm:j=m
       · subst hjm;simp
       · exact List.mem_append_left _ (h3 j (by omega))
   · obtain ⟨h0,he,_⟩:=hk.resolve_left hkm
     rw [if_neg hkm,List.append_nil]
     refine ⟨h1,fun x hx => ?_,fun j hj => ?_⟩
     · obtain ⟨j,hj,he⟩:=h2 x hx;exact ⟨j,by omega,he⟩
     · by_cases hjm:j=m
       · subst hjm;rw [he];exact h3 (j-1) (by omega)
       · exact h3 j (by omega)
theorem oK(zs:List Int):(cr zs).Pairwise (· < ·)∧∀ x,x∈cr zs↔x∈zs:=by
 have hp:(eB zs).Pairwise (fun x y=>(decide (x≤y))=true):=List.pairwise_mergeSort (fun a b c h1 h2=>by simp at *;omega) (fun a b=>by simp;omega) zs
 have hg:∀ j (hj:j<(eB zs).length),(eB zs).toArray[j]! = (eB zs)[j]:=fun j hj=>by simp [hj]
 have hs:∀ i j,i<j→j<(eB zs).toArray.size→(eB zs).toArray[i]! ≤ (eB zs).toArray[j]! := fun i j hij hj=>by
   have hj':j<(eB zs).length:=by simpa using hj
   rw [hg i (by omega),hg j hj']
   simpa using List.pairwise_iff_getElem.1 hp i j (by omega) hj' hij
 obtain ⟨h1,h2,h3⟩:=gq (eB zs).toArray hs (eB zs).length (by simp)
 refine ⟨h1,fun x=>⟨fun hx => ?_,fun hx => ?_⟩⟩
 · obtain ⟨j,hj,rfl⟩:=h2 x hx
   rw [hg j hj]
   exact List.mem_mergeSort.1 (List.getElem_mem hj)
 · have hm:x∈eB zs:=List.mem_mergeSort.2 hx
   obtain ⟨j,hj,he⟩:=List.getElem_of_mem hm
   rw [← he,← hg j hj];exact h3 j hj
theorem pT{zs:List Int}{x:Int} : x∈cr zs↔x∈zs:=(oK zs).2 x
theorem yY{α:Type}[Inhabited α](l:List α)(u:Int):elt l u=elt l (u.toNat:Int):=rfl
theorem ja{N:Nat}{l:List cj}(h:∀ a∈l,fZ N a){u x:Int}(hu:0≤u∧u<N):x∈elt (ck N l) u↔∃ a∈l,a.from_=u∧a.to_=x:=by
 have e:elt (ck N l) u=cr (elt (dg N l) u):=by
   unfold ck elt
   rw [List.getD_eq_getElem?_getD,List.getD_eq_getElem?_getD,List.getElem?_map]
   have hlt:u.toNat<(dg N l).length:=by rw [cx];omega
   rw [List.getElem?_eq_getElem hlt];rfl
 rw [e,pT]
 unfold dg
 rw [uC l (List.replicate N []) u x (fun a ha=>by simpa using (h a ha).1) (by simpa using hu)]
 have:elt (List.replicate N ([]:List Int)) u=[]:=by
   unfold elt;rw [List.getD_eq_getElem?_getD,List.getElem?_replicate];split<;>rfl
 rw [this];simp
theorem lW{N:Nat}{l:List cj}(h:∀ a∈l,fZ N a):jn N (ck N l):=fun u x hx=>by
 rw [yY] at hx
 by_cases hu:u.toNat<N
 · obtain ⟨a,ha,_,rfl⟩:=(ja h (by omega)).1 hx;exact (h a ha).2
 · unfold elt at hx
   rw [List.getD_eq_getElem?_getD,List.getElem?_eq_none (by unfold ck;rw [List.length_map,cx];omega)] at hx
   cases hx
theorem tc(zs:List Int):(cr zs).length≤zs.length:=by
 unfold cr Lib.compact Lib.compactUpTo
 rw [List.length_map]
 refine Nat.le_trans (List.length_filter_le _ _) ?_
 simp [eB]
theorem gy{l:List Int}{k:Nat}{v:Int}(h:l[k]? = some v):(bF encI l)[k]? = some [.v (encI v)]:=by simp [bF,h]
theorem ke{l:List Int}(h:0<l.length):bF encI l≠[]:=fun h0=>by
 have:=congrArg List.length h0
 rw [cE,List.length_nil] at this;omega
theorem sf(l:List Int)(i:Nat)(v:Int):bF encI (l.set i v)=(bF encI l).set i [.v (encI v)]:=by simp [bF,List.map_set]
theorem iZ(l:List Int)(v:Int):bF encI (l++[v])=bF encI l++[[.v (encI v)]]:=by simp [bF]
end Go.Proofs.YtgkbbdgklpabpaaGreatDoor

namespace Go.Lv
open Go.Sy
inductive Rc (nx:List (List Int)):Int→Int→Prop
 | refl (v:Int):Rc nx v v
 | step {u w v:Int} (h:w∈elt nx u) (k:Rc nx w v):Rc nx u v
theorem Rc.trans{nx:List (List Int)}{a b c:Int}(h:Rc nx a b)(k:Rc nx b c):Rc nx a c:=by
 induction h with
 | refl=>exact k
 | step h _ ih=>exact .step h (ih k)
theorem Rc.one{nx:List (List Int)}{a b:Int}(h:b∈elt nx a):Rc nx a b:=.step h (.refl _)
abbrev nodes(s:TS):List Int:=s.calls.map (·.1)
def ix(s:TS)(c u:Int):Prop:=c∈nodes s∧elt s.idx c≤elt s.idx u∧∀ c'∈nodes s,elt s.idx c'≤elt s.idx u→elt s.idx c'≤elt s.idx c
structure TJ (nx:List (List Int)) (s:TS):Prop where
 asc:s.stk.Pairwise fun a b=>elt s.idx a<elt s.idx b
 rc:∀ u∈s.stk,∀ c,ix s c u→Rc nx c u
 ch:∀ c∈nodes s,∀ c'∈nodes s,elt s.idx c≤elt s.idx c'→Rc nx c c'
 lr:∀ v∈s.stk,elt s.low v≤elt s.idx v∧∃ x∈s.stk,Rc nx v x∧elt s.idx x=elt s.low v
 rt:∀ u∈s.stk,u ∉ nodes s→elt s.low u<elt s.idx u
 ex:∀ u∈s.stk,∀ c,ix s c u→∀ (j:Nat) (w:Int),(elt nx u)[j]? = some w→(∀ i,(u,i)∈s.calls→(j:Int)<i)→elt s.idx w≠0∧(elt s.part w=0→elt s.low c≤elt s.idx w)
 cl:∀ v,0≤v→elt s.part v≠0→∀ w∈elt nx v,elt s.part w≠0∧elt s.part w≤elt s.part v
 sc:∀ u v,0≤u→0≤v→elt s.part u≠0→elt s.part u=elt s.part v→Rc nx u v
theorem mw{f:Int→Int} : ∀ {l:List Int},(l.Pairwise fun a b=>f a<f b)→∀ {x y:Int},x∈l→y∈l→f x=f y→x=y
 | [],_,_,_,h,_,_=>by cases h
 | a :: l,h,x,y,hx,hy,e=>by
   rw [List.pairwise_cons] at h
   rcases List.mem_cons.1 hx with rfl | hx
   · rcases List.mem_cons.1 hy with rfl | hy
     · rfl
     · have:=h.1 y hy;omega
   · rcases List.mem_cons.1 hy with e2 | hy
     · have:=h.1 x hx;rw [e2] at e;omega
     · exact mw h.2 hx hy e
theorem aaM{l:List Int}{v:Int}(h:(l.length:Int)≤v):elt l v=0:=by
 unfold elt;rw [List.getD_eq_getElem?_getD,List.getElem?_eq_none (by omega)];rfl
section
variable {N:Nat} {nx:List (List Int)} {r:Int} {s:TS}
theorem TJ.nil(hp:∀ v,0≤v→elt s.part v=0)(hc:s.calls=[])(hs:s.stk=[]):TJ nx s:=by
 refine ⟨by rw [hs];exact .nil,fun u hu => ?_,fun c h => ?_,fun u hu => ?_,fun u hu => ?_,fun u hu => ?_,fun v h0 hv=>absurd (hp v h0) hv,fun u v h0 _ hu=>absurd (hp u h0) hu⟩
 · rw [hs] at hu;cases hu
 · simp only [nodes,hc,List.map_nil] at h;cases h
 · rw [hs] at hu;cases hu
 · rw [hs] at hu;cases hu
 · rw [hs] at hu;cases hu
theorem TI.sub'(h:TI N nx r s){c:Int}(hc:c∈nodes s):c∈s.stk:=h.sub.subset hc
theorem TI.inr(h:TI N nx r s){c:Int}(hc:c∈s.stk):0≤c∧c<N:=((h.stk c).1 hc).1
theorem TI.once(h:TI N nx r s){v i i':Int}(h1:(v,i)∈s.calls)(h2:(v,i')∈s.calls):i=i':=by
 have hn:(s.calls.map (·.1)).Nodup:=h.sub.nodup h.nd
 have key:∀ l:List (Int × Int),(l.map (·.1)).Nodup→(v,i)∈l→(v,i')∈l→i=i':=fun l=>by
   induction l with
   | nil=>intro _ h;cases h
   | cons a l ih =>
     intro hn h1 h2
     rw [List.map_cons,List.nodup_cons] at hn
     rcases List.mem_cons.1 h1 with rfl | h1
     · rcases List.mem_cons.1 h2 with h3 | h2
       · exact (Prod.mk.inj h3).2.symm
       · exact absurd (List.mem_map_of_mem (f:=(·.1)) h2) hn.1
     · rcases List.mem_cons.1 h2 with h3 | h2
       · refine absurd (List.mem_map_of_mem (f:=(·.1)) h1) ?_
         rw [← h3] at hn;exact hn.1
       · exact ih hn.2 h1 h2
 exact key _ hn h1 h2
theorem ix.self(h:TI N nx r s)(j:TJ nx s){c v:Int}(hv:v∈nodes s)(ho:ix s c v):c=v :=
 mw (f:=elt s.idx) j.asc (h.sub' ho.1) (h.sub' hv) (by have:=ho.2.2 v hv (Int.le_refl _);have:=ho.2.1;omega)
theorem TJ.lower(h:TI N nx r s)(j:TJ nx s){u x:Int}(hu:u∈s.stk)(hx:x∈s.stk)(hr:Rc nx u x){z:Int}(hz:elt s.idx x=z):TJ nx { s with low:=s.low.set u.toNat (min (elt s.low u) z) } := by
 have hur:=h.inr hu
 have hll:=h.ll
 have eL:∀ y,0≤y→elt (s.low.set u.toNat (min (elt s.low u) z)) y=if u=y then min (elt s.low u) z else elt s.low y:=fun y hy=>dq hur.1 (by omega) hy
 have hle:∀ y,0≤y→elt (s.low.set u.toNat (min (elt s.low u) z)) y≤elt s.low y:=fun y hy=>by
   rw [eL y hy];split
   · rename_i e;subst e;omega
   · omega
 refine ⟨j.asc,j.rc,j.ch,fun v hv => ?_,fun v hv hn => ?_,fun v hv c ho k w hw he => ?_,j.cl,j.sc⟩
 · have h1:=j.lr v hv
   have h0:=(h.inr hv).1
   refine ⟨Int.le_trans (hle v h0) h1.1,?_⟩
   show ∃ y∈s.stk,Rc nx v y∧elt s.idx y=elt (s.low.set _ _) v
   rw [eL v h0]
   split
   · rename_i e;subst e
     by_cases hm:elt s.low u≤z
     · rw [Int.min_eq_left hm];exact h1.2
     · rw [Int.min_eq_right (by omega)];exact ⟨x,hx,hr,hz⟩
   · exact h1.2
 · exact Int.lt_of_le_of_lt (hle v (h.inr hv).1) (j.rt v hv hn)
 · have h1:=j.ex v hv c ho k w hw he
   exact ⟨h1.1,fun hp=>Int.le_trans (hle c (h.inr (h.sub' ho.1)).1) (h1.2 hp)⟩
theorem TJ.adv(h:TI N nx r s)(j:TJ nx s){cs ds:List (Int × Int)}{v i w:Int}(hc:s.calls=cs++(v,i)::ds)(hi:0≤i)(ha:(elt nx v)[i.toNat]? = some w)(hw:elt s.idx w≠0)(hl:elt s.part w=0→elt s.low v≤elt s.idx w) :
   TJ nx { s with calls:=cs++(v,i+1)::ds } := by
 have hn:nodes { s with calls:=cs++(v,i+1)::ds } = nodes s:=by simp [nodes,hc]
 have hO:∀ c u,ix { s with calls:=cs++(v,i+1)::ds } c u→ix s c u:=fun c u ho=>by unfold ix at ho ⊢;rw [hn] at ho;exact ho
 have hvn:v∈nodes s:=by simp [nodes,hc]
 refine ⟨j.asc,fun u hu c ho=>j.rc u hu c (hO c u ho),fun c hc1 c' hc2=>j.ch c (hn ▸ hc1) c' (hn ▸ hc2),j.lr,fun u hu hnn=>j.rt u hu (hn ▸ hnn),fun u hu c ho k y hy he => ?_,j.cl,j.sc⟩
 have ho2:=hO c u ho
 clear ho
 rename ix s c u=>ho
 by_cases huv:u=v
 · subst huv
   have hk:(k:Int)<i+1:=he (i+1) (by simp)
   by_cases hki:(k:Int)<i
   · exact j.ex u hu c ho k y hy fun i' h'=>by rw [h.once h' (by rw [hc];simp:(u,i)∈s.calls)];exact hki
   · have e:k=i.toNat:=by omega
     rw [e,ha] at hy
     obtain rfl:=Option.some.inj hy
     rw [ho.self h j hvn]
     exact ⟨hw,hl⟩
 · refine j.ex u hu c ho k y hy fun i' h'=>he i' ?_
   rw [hc] at h'
   rcases List.mem_append.1 h' with h1 | h1
   · exact List.mem_append_left _ h1
   · rcases List.mem_cons.1 h1 with h2 | h2
     · exact absurd (Prod.mk.inj h2).1 huv
     · exact List.mem_append_right _ (List.mem_cons_of_mem _ h2)
theorem TJ.enter(h:TI N nx r s)(j:TJ nx s)(hnr:∀ v w,w∈elt nx v→0≤w∧w<N){w:Int}(hw:0≤w∧w<N)(h0:elt s.idx w=0)(hv:s.stk=[]∨∃ v∈nodes s,(∀ c∈nodes s,elt s.idx c≤elt s.idx v)∧w∈elt nx v):TJ nx (cg s w):=by
 have hli:=h.li
 have hll:=h.ll
 have hc0:=h.cnt0
 have eI:∀ v,0≤v→elt (cg s w).idx v=if w=v then s.cnt+1 else elt s.idx v:=fun v hv=>dq hw.1 (by omega) hv
 have eL:∀ v,0≤v→elt (cg s w).low v=if w=v then s.cnt+1 else elt s.low v:=fun v hv=>dq hw.1 (by omega) hv
 have hws:w ∉ s.stk:=fun hm=>((h.stk w).1 hm).2.1 h0
 have hst:∀ x∈s.stk,w≠x∧elt s.idx x≤s.cnt:=fun x hx=>⟨fun e=>hws (e ▸ hx),(h.ile x (h.inr hx).1 (h.inr hx).2).2⟩
 have eIo:∀ x∈s.stk,elt (cg s w).idx x=elt s.idx x:=fun x hx=>by rw [eI x (h.inr hx).1,if_neg (hst x hx).1]
 have eLo:∀ x∈s.stk,elt (cg s w).low x=elt s.low x:=fun x hx=>by rw [eL x (h.inr hx).1,if_neg (hst x hx).1]
 have eIw:elt (cg s w).idx w=s.cnt+1:=by rw [eI w hw.1,if_pos rfl]
 have eLw:elt (cg s w).low w=s.cnt+1:=by rw [eL w hw.1,if_pos rfl]
 have hn:nodes (cg s w)=nodes s++[w]:=by simp [nodes,cg]
 have hO:∀ u∈s.stk,∀ c,ix (cg s w) c u→ix s c u:=fun u hu c ⟨h1,h2,h3⟩=>by
   rw [hn] at h1 h3
   rw [eIo u hu] at h2 h3
   rcases List.mem_append.1 h1 with h1 | h1
   · have hcs:=h.sub' h1
     rw [eIo c hcs] at h2 h3
     exact ⟨h1,h2,fun c' hc' hle=>by have:=h3 c' (List.mem_append_left _ hc') (by rw [eIo c' (h.sub' hc')];exact hle);rw [eIo c' (h.sub' hc')] at this;exact this⟩
   · rw [List.mem_singleton.1 h1,eIw] at h2
     have:=(hst u hu).2
     omega
 have hOw:∀ c,ix (cg s w) c w→c=w:=fun c ⟨h1,_,h3⟩=>by
   rw [hn] at h1 h3
   rcases List.mem_append.1 h1 with h1 | h1
   · have:=h3 w (by simp) (Int.le_refl _)
     rw [eIw,eIo c (h.sub' h1)] at this
     have:=(hst c (h.sub' h1)).2
     omega
   · exact List.mem_singleton.1 h1
 have hmem:∀ u,u∈(cg s w).stk→u∈s.stk∨u=w:=fun u hu=>(List.mem_append.1 hu).imp id List.mem_singleton.1
 refine ⟨?_,fun u hu c ho => ?_,fun c hc c' hc' hle => ?_,fun u hu => ?_,fun u hu hnn => ?_,fun u hu c ho k y hy he => ?_,j.cl,j.sc⟩
 · show (s.stk++[w]).Pairwise _
   rw [List.pairwise_append]
   refine ⟨j.asc.imp_of_mem fun ha hb hab=>by rw [eIo _ ha,eIo _ hb];exact hab,List.pairwise_singleton _ _,fun a ha b hb => ?_⟩
   rw [List.mem_singleton.1 hb,eIw,eIo a ha]
   have:=(hst a ha).2;omega
 · rcases hmem u hu with hu | rfl
   · exact j.rc u hu c (hO u hu c ho)
   · rw [hOw c ho];exact .refl _
 · rw [hn] at hc hc'
   rcases List.mem_append.1 hc with h1 | h1
   · have hcs:=h.sub' h1
     rcases List.mem_append.1 hc' with h2 | h2
     · rw [eIo c hcs,eIo c' (h.sub' h2)] at hle
       exact j.ch c h1 c' h2 hle
     · rw [List.mem_singleton.1 h2]
       rcases hv with hv | ⟨v,hv1,hv2,hv3⟩
       · rw [hv] at hcs;cases hcs
       · exact (j.ch c h1 v hv1 (hv2 c h1)).trans (.one hv3)
   · rw [List.mem_singleton.1 h1] at hle ⊢
     rcases List.mem_append.1 hc' with h2 | h2
     · rw [eIw,eIo c' (h.sub' h2)] at hle
       have:=(hst c' (h.sub' h2)).2
       omega
     · rw [List.mem_singleton.1 h2];exact .refl _
 · rcases hmem u hu with hu | rfl
   · obtain ⟨h1,x,h2,h3,h4⟩:=j.lr u hu
     rw [eIo u hu,eLo u hu]
     exact ⟨h1,x,List.mem_append_left _ h2,h3,by rw [eIo x h2];exact h4⟩
   · rw [eIw,eLw]
     exact ⟨Int.le_refl _,u,List.mem_append_right _ (by simp),.refl _,eIw⟩
 · rw [hn] at hnn
   rcases hmem u hu with hu | rfl
   · rw [eIo u hu,eLo u hu]
     exact j.rt u hu fun hm=>hnn (List.mem_append_left _ hm)
   · exact absurd (List.mem_append_right _ (by simp)) hnn
 · have hy0:=(hnr u y (List.mem_of_getElem? hy)).1
   rcases hmem u hu with hu | rfl
   · have ho:=hO u hu c ho
     have h1:=j.ex u hu c ho k y hy fun i hi=>he i (List.mem_append_left _ hi)
     have hcs:=h.sub' ho.1
     refine ⟨?_,fun hp => ?_⟩
     · rw [eI y hy0];split
       · omega
       · exact h1.1
     · rw [eLo c hcs,eI y hy0]
       split
       · have:=(j.lr c hcs).1;have:=(hst c hcs).2;omega
       · exact h1.2 hp
   · have:=he 0 (List.mem_append_right _ (by simp))
     omega
theorem TJ.pop(h:TI N nx r s)(j:TJ nx s){cs:List (Int × Int)}{v i:Int}(hc:s.calls=cs++[(v,i)])(hi:(elt nx v).length≤i)(hlt:elt s.low v<elt s.idx v)(hup:∀ c∈cs.map (·.1),(∀ c'∈cs.map (·.1),elt s.idx c'≤elt s.idx c)→elt s.low c≤elt s.low v):TJ nx { s with calls:=cs } := by
 have hn:nodes s=cs.map (·.1)++[v]:=by simp [nodes,hc]
 have hvn:v∈nodes s:=by rw [hn];simp
 have hasc:(nodes s).Pairwise fun a b=>elt s.idx a<elt s.idx b:=j.asc.sublist h.sub
 have hmax:∀ c∈cs.map (·.1),elt s.idx c<elt s.idx v:=fun c hc=>by
   rw [hn,List.pairwise_append] at hasc
   exact hasc.2.2 c hc v (by simp)
 have hin:∀ c∈cs.map (·.1),c∈nodes s:=fun c hc=>by rw [hn];exact List.mem_append_left _ hc
 have hO:∀ u c,ix { s with calls:=cs } c u→(elt s.idx u<elt s.idx v∧ix s c u)∨(ix s v u∧Rc nx c v∧elt s.low c≤elt s.low v):=fun u c ⟨h1,h2,h3⟩=>by
   by_cases hlt:elt s.idx u<elt s.idx v
   · refine .inl ⟨hlt,hin c h1,h2,fun c' hc' hle => ?_⟩
     rw [hn] at hc'
     rcases List.mem_append.1 hc' with h4 | h4
     · exact h3 c' h4 hle
     · have h5:c'=v:=List.mem_singleton.1 h4
       rw [h5] at hle;omega
   · have hvu:elt s.idx v≤elt s.idx u:=by omega
     refine .inr ⟨⟨hvn,hvu,fun c' hc' _ => ?_⟩,j.ch c (hin c h1) v hvn (by have:=hmax c h1;omega),hup c h1 fun c' hc'=>h3 c' hc' (by have:=hmax c' hc';show elt s.idx c'≤elt s.idx u;omega)⟩
     rw [hn] at hc'
     rcases List.mem_append.1 hc' with h4 | h4
     · have:=hmax c' h4;omega
     · rw [List.mem_singleton.1 h4];exact Int.le_refl _
 refine ⟨j.asc,fun u hu c ho => ?_,fun c hc1 c' hc2=>j.ch c (hin c hc1) c' (hin c' hc2),j.lr,fun u hu hnn => ?_,fun u hu c ho k w hw he => ?_,j.cl,j.sc⟩
 · rcases hO u c ho with ⟨_,h1⟩ | ⟨h1,h2,_⟩
   · exact j.rc u hu c h1
   · exact h2.trans (j.rc u hu v h1)
 · by_cases e:u=v
   · subst e;exact hlt
   · refine j.rt u hu fun hm => ?_
     rw [hn] at hm
     rcases List.mem_append.1 hm with h4 | h4
     · exact hnn h4
     · exact e (List.mem_singleton.1 h4)
 · have he2:∀ i',(u,i')∈s.calls→(k:Int)<i':=fun i' h'=>by
     rw [hc] at h'
     rcases List.mem_append.1 h' with h4 | h4
     · exact he i' h4
     · have h5:=Prod.mk.inj (List.mem_singleton.1 h4)
       have hk:=(List.getElem?_eq_some_iff.1 hw).1
       rw [h5.1] at hk
       rw [h5.2];omega
   rcases hO u c ho with ⟨_,h1⟩ | ⟨h1,_,h3⟩
   · exact j.ex u hu c h1 k w hw he2
   · have h4:=j.ex u hu v h1 k w hw he2
     exact ⟨h4.1,fun hp=>Int.le_trans h3 (h4.2 hp)⟩
theorem TJ.close(h:TI N nx r s)(j:TJ nx s)(hnr:∀ v w,w∈elt nx v→0≤w∧w<N){cs:List (Int × Int)}{v i:Int}(hc:s.calls=cs++[(v,i)])(hi:(elt nx v).length≤i)(heq:elt s.low v=elt s.idx v){A B p:List Int}(hs:s.stk=A++v::B)(hp:∀ x,x∈p↔x∈v::B) :
   TJ nx { s with calls:=cs,stk:=A,part:=b8 s.part ((s.np:Int)+1) p,np:=s.np+1 } := by
 have hn:nodes s=cs.map (·.1)++[v]:=by simp [nodes,hc]
 have hvn:v∈nodes s:=by rw [hn];simp
 have hasc:(nodes s).Pairwise fun a b=>elt s.idx a<elt s.idx b:=j.asc.sublist h.sub
 have hmax:∀ c∈cs.map (·.1),elt s.idx c<elt s.idx v:=fun c hc=>by
   rw [hn,List.pairwise_append] at hasc
   exact hasc.2.2 c hc v (by simp)
 have hmax2:∀ c∈nodes s,elt s.idx c≤elt s.idx v:=fun c hc=>by
   rw [hn] at hc
   rcases List.mem_append.1 hc with h4 | h4
   · have:=hmax c h4;omega
   · rw [List.mem_singleton.1 h4];exact Int.le_refl _
 have hin:∀ c∈cs.map (·.1),c∈nodes s:=fun c hc=>by rw [hn];exact List.mem_append_left _ hc
 have hA:∀ x∈A,x∈s.stk:=fun x hx=>by rw [hs];exact List.mem_append_left _ hx
 have hB:∀ x∈v::B,x∈s.stk:=fun x hx=>by rw [hs];exact List.mem_append_right _ hx
 have hpw:=j.asc
 rw [hs,List.pairwise_append,List.pairwise_cons] at hpw
 have hAv:∀ x∈A,elt s.idx x<elt s.idx v:=fun x hx=>hpw.2.2 x hx v (by simp)
 have hBv:∀ x∈v::B,elt s.idx v≤elt s.idx x:=fun x hx=>by
   rcases List.mem_cons.1 hx with rfl | hx
   · exact Int.le_refl _
   · have:=hpw.2.1.1 x hx;omega
 have hsp:∀ x∈s.stk,elt s.idx v≤elt s.idx x→x∈v::B:=fun x hx hle=>by
   rw [hs] at hx
   rcases List.mem_append.1 hx with h1 | h1
   · have:=hAv x h1;omega
   · exact h1
 have hlp:=h.lp
 have hpr:∀ w∈p,0≤w∧w<s.part.length:=fun w hw=>by rw [hlp];exact h.inr (hB w ((hp w).1 hw))
 have eP:∀ x,0≤x→elt (b8 s.part ((s.np:Int)+1) p) x=if x∈p then (s.np:Int)+1 else elt s.part x:=gQ p s.part hpr
 have hp0:∀ x∈p,elt s.part x=0:=fun x hx=>((h.stk x).1 (hB x ((hp x).1 hx))).2.2
 have hOB:∀ u∈v::B,ix s v u:=fun u hu=>⟨hvn,hBv u hu,fun c hc _=>hmax2 c hc⟩
 have hO:∀ u∈A,∀ c,ix { s with calls:=cs,stk:=A,part:=b8 s.part ((s.np:Int)+1) p,np:=s.np+1 } c u→ix s c u:=fun u hu c ⟨h1,h2,h3⟩=>⟨hin c h1,h2,fun c' hc' hle=>by
   rw [hn] at hc'
   rcases List.mem_append.1 hc' with h4 | h4
   · exact h3 c' h4 hle
   · rw [List.mem_singleton.1 h4] at hle
     have:=hAv u hu;omega⟩
 -- where the arcs of the part lead
 have hout:∀ u∈v::B,∀ w∈elt nx u,w∈v::B∨elt s.part w≠0:=fun u hu w hw=>by
   obtain ⟨k,hk⟩:=List.mem_iff_getElem?.1 hw
   have h1:=j.ex u (hB u hu) v (hOB u hu) k w hk fun i' h'=>by
     have hun:u∈nodes s:=List.mem_map_of_mem (f:=(·.1)) h'
     have huv:u=v:=mw (f:=elt s.idx) j.asc (h.sub' hun) (h.sub' hvn) (by have:=hmax2 u hun;have:=hBv u hu;omega)
     subst huv
     rw [h.once h' (by rw [hc];simp:(u,i)∈s.calls)]
     have:=(List.getElem?_eq_some_iff.1 hk).1
     omega
   by_cases hpz:elt s.part w=0
   · refine .inl (hsp w ((h.stk w).2 ⟨hnr u w hw,h1.1,hpz⟩) ?_)
     have:=h1.2 hpz;omega
   · exact .inr hpz
 have hgo:∀ a b,Rc nx a b→(a∈v::B∨(0≤a∧elt s.part a≠0))→(b∈v::B∨elt s.part b≠0):=fun a b hab=>by
   induction hab with
   | refl a=>exact fun h1=>h1.imp id (·.2)
   | step hw _ ih =>
     rintro (h1 | ⟨h1,h2⟩)
     · rcases hout _ h1 _ hw with h3 | h3
       · exact ih (.inl h3)
       · exact ih (.inr ⟨(hnr _ _ hw).1,h3⟩)
     · exact ih (.inr ⟨(hnr _ _ hw).1,(j.cl _ h1 h2 _ hw).1⟩)
 have hback:∀ (m:Nat) (u:Int),u∈v::B→(elt s.idx u).toNat≤m→Rc nx u v:=fun m=>by
   induction m with
   | zero =>
     intro u hu hm
     have h1:=h.ile u (h.inr (hB u hu)).1 (h.inr (hB u hu)).2
     have h2:=((h.stk u).1 (hB u hu)).2.1
     omega
   | succ m ih =>
     intro u hu hm
     by_cases huv:u=v
     · subst huv;exact .refl _
     · have hun:u ∉ nodes s:=fun hun=>huv (mw (f:=elt s.idx) j.asc (h.sub' hun) (h.sub' hvn) (by have:=hmax2 u hun;have:=hBv u hu;omega))
       have h1:=j.rt u (hB u hu) hun
       obtain ⟨_,x,hx,hux,hxi⟩:=j.lr u (hB u hu)
       have hxB:x∈v::B:=(hgo u x hux (.inl hu)).resolve_right fun hne=>hne ((h.stk x).1 hx).2.2
       have h2:=h.ile x (h.inr hx).1 (h.inr hx).2
       exact hux.trans (ih x hxB (by omega))
 have hnp:∀ x,0≤x→elt s.part x≤s.np∧0≤elt s.part x:=fun x hx=>by
   by_cases hxN:x<N
   · have:=h.pr x hx hxN;exact ⟨this.2.1,this.1⟩
   · rw [aaM (by omega)];omega
 refine ⟨hpw.1,fun u hu c ho=>j.rc u (hA u hu) c (hO u hu c ho),fun c hc1 c' hc2=>j.ch c (hin c hc1) c' (hin c' hc2),fun u hu => ?_,fun u hu hnn => ?_,fun u hu c ho k w hw he => ?_,fun u h0 hu w hw => ?_,fun u y h0 hy0 hu huy => ?_⟩
 · obtain ⟨h1,x,hx,hux,hxi⟩:=j.lr u (hA u hu)
   refine ⟨h1,x,?_,hux,hxi⟩
   rw [hs] at hx
   rcases List.mem_append.1 hx with h2 | h2
   · exact h2
   · have:=hBv x h2;have:=hAv u hu;omega
 · refine j.rt u (hA u hu) fun hm => ?_
   rw [hn] at hm
   rcases List.mem_append.1 hm with h4 | h4
   · exact hnn h4
   · rw [List.mem_singleton.1 h4] at hu
     have:=hAv v hu;omega
 · have h1:=j.ex u (hA u hu) c (hO u hu c ho) k w hw fun i' h'=>by
     rw [hc] at h'
     rcases List.mem_append.1 h' with h4 | h4
     · exact he i' h4
     · have h5:=(Prod.mk.inj (List.mem_singleton.1 h4)).1
       rw [h5] at hu
       have:=hAv v hu;omega
   refine ⟨h1.1,fun hz=>h1.2 ?_⟩
   have hw0:=(hnr u w (List.mem_of_getElem? hw)).1
   have hz':elt (b8 s.part ((s.np:Int)+1) p) w=0:=hz
   rw [eP w hw0] at hz'
   split at hz'
   · omega
   · exact hz'
 · have hu':elt (b8 s.part ((s.np:Int)+1) p) u≠0:=hu
   have hw0:=(hnr u w hw).1
   show elt (b8 s.part ((s.np:Int)+1) p) w≠0∧elt (b8 s.part ((s.np:Int)+1) p) w≤elt (b8 s.part ((s.np:Int)+1) p) u
   rw [eP w hw0,eP u h0]
   rw [eP u h0] at hu'
   by_cases hup:u∈p
   · rw [if_pos hup]
     by_cases hwp:w∈p
     · rw [if_pos hwp];omega
     · rw [if_neg hwp]
       have h1:=(hout u ((hp u).1 hup) w hw).resolve_left fun hB'=>hwp ((hp w).2 hB')
       have:=hnp w hw0
       exact ⟨h1,by omega⟩
   · rw [if_neg hup] at hu' ⊢
     have h1:=j.cl u h0 hu' w hw
     have hwp:w ∉ p:=fun hwp=>h1.1 (hp0 w hwp)
     rw [if_neg hwp];exact h1
 · have hu':elt (b8 s.part ((s.np:Int)+1) p) u≠0:=hu
   have huy':elt (b8 s.part ((s.np:Int)+1) p) u=elt (b8 s.part ((s.np:Int)+1) p) y:=huy
   rw [eP u h0] at hu' huy'
   rw [eP y hy0] at huy'
   have hnu:=hnp u h0
   have hny:=hnp y hy0
   by_cases hup:u∈p
   · rw [if_pos hup] at huy'
     by_cases hyp:y∈p
     · have h1:=hback _ u ((hp u).1 hup) (Nat.le_refl _)
       exact h1.trans (j.rc y (hB y ((hp y).1 hyp)) v (hOB y ((hp y).1 hyp)))
     · rw [if_neg hyp] at huy';omega
   · rw [if_neg hup] at huy' hu'
     by_cases hyp:y∈p
     · rw [if_pos hyp] at huy';omega
     · rw [if_neg hyp] at huy';exact j.sc u y h0 hy0 hu' huy'
end
end Go.Lv

