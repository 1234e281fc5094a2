/- Parts of the proof, in build order. No condition. -/
import Derived.Test.YtgkbbdgklpabpaaGreatDoorSc14
import Derived.Test.YtgkbbdgklpabpaaGreatDoorSc13
import Derived.Test.YtgkbbdgklpabpaaGreatDoorSc06
import Derived.Test.YtgkbbdgklpabpaaGreatDoorSc11
import Derived.Test.YtgkbbdgklpabpaaGreatDoorSc07
import Derived.Test.YtgkbbdgklpabpaaGreatDoorSc05
import Derived.Test.YtgkbbdgklpabpaaGreatDoorSc09
import Derived.Shelf.Slices.Clone
import Derived.Shelf.Slices.Reverse
import Derived.Shelf.Slices.In.SortNone
import Derived.Test.YtgkbbdgklpabpaaGreatDoorSc12
set_option linter.unusedSimpArgs false
set_option linter.unusedVariables false
set_option maxHeartbeats 20000000
set_option maxRecDepth 20000
namespace Go.Lv
open Go.Sy
section
variable {N:Nat} {nx:List (List Int)} {r:Int} {s:TS}
theorem TJ.last(h:TI N nx r s)(j:TJ nx s){cs:List (Int × Int)}{v i:Int}(hc:s.calls=cs++[(v,i)]):∀ c∈nodes s,elt s.idx c≤elt s.idx v:=fun c hcm=>by
 have hn:nodes s=cs.map (·.1)++[v]:=by simp [nodes,hc]
 have hasc:(nodes s).Pairwise fun a b=>elt s.idx a<elt s.idx b:=j.asc.sublist h.sub
 rw [hn] at hcm
 rw [hn,List.pairwise_append] at hasc
 rcases List.mem_append.1 hcm with h1 | h1
 · exact Int.le_of_lt (hasc.2.2 c h1 v (by simp))
 · rw [List.mem_singleton.1 h1];exact Int.le_refl _
theorem TJ.rEnter(h:TI N nx r s)(j:TJ nx s)(hnr:∀ v w,w∈elt nx v→0≤w∧w<N){cs:List (Int × Int)}{v i w:Int}(hc:s.calls=cs++[(v,i)])(hi:0≤i)(ha:(elt nx v)[i.toNat]? = some w)(hw:0≤w∧w<N)(h0:elt s.idx w=0) :
   TJ nx (cg { s with calls:=cs++[(v,i+1)] } w):=by
 have hvn:v∈nodes s:=by simp [nodes,hc]
 have hvs:=h.sub' hvn
 have hvi:=(h.stk v).1 hvs
 have hne:s.calls≠[]:=by rw [hc];simp
 have j1:=j.enter h hnr hw h0 (.inr ⟨v,hvn,j.last h hc,List.mem_of_getElem? ha⟩)
 have h1:=h.enter hw h0 (.inl hne)
 have hwv:w≠v:=fun e=>hvi.2.1 (e ▸ h0)
 have hli:=h.li
 have hll:=h.ll
 have hc0:=h.cnt0
 have e1:elt (cg s w).idx w=s.cnt+1:=by
   show elt (s.idx.set _ _) w=_
   rw [dq hw.1 (by omega) hw.1,if_pos rfl]
 have e2:elt (cg s w).low v=elt s.low v:=by
   show elt (s.low.set _ _) v=_
   rw [dq hw.1 (by omega) hvi.1.1,if_neg hwv]
 have j2:=j1.adv h1 (cs:=cs) (ds:=[(w,0)]) (v:=v) (i:=i) (w:=w) (by show s.calls++[(w,0)]=_;rw [hc];simp) hi ha (by rw [e1];omega) (fun _=>by
   rw [e1,e2]
   have:=(j.lr v hvs).1
   have:=(h.ile v hvi.1.1 hvi.1.2).2
   omega)
 have e3:cs++(v,i+1)::[(w,0)]=(cs++[(v,i+1)])++[(w,0)]:=by simp
 rw [e3] at j2
 exact j2
theorem TJ.rBack(h:TI N nx r s)(j:TJ nx s){cs:List (Int × Int)}{v i w:Int}(hc:s.calls=cs++[(v,i)])(hi:0≤i)(ha:(elt nx v)[i.toNat]? = some w)(hws:w∈s.stk) :
   TJ nx { s with calls:=cs++[(v,i+1)],low:=s.low.set v.toNat (min (elt s.low v) (elt s.idx w)) } := by
 have hvn:v∈nodes s:=by simp [nodes,hc]
 have hvs:=h.sub' hvn
 have hvi:=(h.stk v).1 hvs
 have hll:=h.ll
 have j1:=j.lower h hvs hws (Rc.one (List.mem_of_getElem? ha)) rfl
 have h1:=h.lower hvs (h.low' w hws).2
 exact j1.adv h1 (cs:=cs) (ds:=[]) hc hi ha ((h.stk w).1 hws).2.1 (fun _=>by
   show elt (s.low.set _ _) v≤elt s.idx w
   rw [dq hvi.1.1 (by omega) hvi.1.1,if_pos rfl];omega)
theorem TJ.rSkip(h:TI N nx r s)(j:TJ nx s){cs:List (Int × Int)}{v i w:Int}(hc:s.calls=cs++[(v,i)])(hi:0≤i)(ha:(elt nx v)[i.toNat]? = some w)(hw:elt s.idx w≠0)(hp:elt s.part w≠0) :
   TJ nx { s with calls:=cs++[(v,i+1)] } := j.adv h (cs:=cs) (ds:=[]) hc hi ha hw fun h=>absurd h hp
theorem TJ.rUp(h:TI N nx r s)(j:TJ nx s){cs ds:List (Int × Int)}{v i u k:Int}(hc:s.calls=cs++[(v,i)])(hd:cs=ds++[(u,k)]){l:List Int}(hl:l=s.low.set u.toNat (min (elt s.low u) (elt s.low v))) :
   TI N nx r { s with low:=l } ∧ TJ nx { s with low:=l } ∧ elt l v=elt s.low v∧∀ c∈cs.map (·.1),(∀ c'∈cs.map (·.1),elt s.idx c'≤elt s.idx c)→elt l c≤elt l v:=by
 subst hl
 have hvn:v∈nodes s:=by simp [nodes,hc]
 have hun:u∈nodes s:=by simp [nodes,hc,hd]
 have hvs:=h.sub' hvn
 have hus:=h.sub' hun
 have hvi:=(h.stk v).1 hvs
 have hui:=(h.stk u).1 hus
 have hll:=h.ll
 have hn:nodes s=cs.map (·.1)++[v]:=by simp [nodes,hc]
 have hasc:(nodes s).Pairwise fun a b=>elt s.idx a<elt s.idx b:=j.asc.sublist h.sub
 rw [hn,List.pairwise_append] at hasc
 have huc:u∈cs.map (·.1):=by rw [hd];simp
 have hlt:=hasc.2.2 u huc v (by simp)
 have huv:u≠v:=fun e=>by rw [e] at hlt;omega
 obtain ⟨x,hx,hrx,hz⟩:=(j.lr v hvs).2
 have hr:Rc nx u v:=j.ch u hun v hvn (Int.le_of_lt hlt)
 have e1:elt (s.low.set u.toNat (min (elt s.low u) (elt s.low v))) v=elt s.low v:=by rw [dq hui.1.1 (by omega) hvi.1.1,if_neg huv]
 refine ⟨h.lower hus (h.low' v hvs).1,j.lower h hus hx (hr.trans hrx) hz,e1,fun c hcm hmx => ?_⟩
 have hcu:c=u:=by
   have h1:=hasc.1
   rw [hd,List.map_append,List.pairwise_append] at h1
   rw [hd,List.map_append] at hcm
   rcases List.mem_append.1 hcm with h2 | h2
   · have:=h1.2.2 c h2 u (by simp)
     have:=hmx u huc
     omega
   · simpa using h2
 rw [e1,hcu,dq hui.1.1 (by omega) hui.1.1,if_pos rfl]
 omega
end
def PC(N:Nat)(part:List Int)(ps:List (List Int)):Prop:=∀ v:Int,0≤v→v<N→elt part v≠0→∃ (k:Nat) (p:List Int),ps[k]? = some p∧v∈p∧elt part v=(k:Int)+1
theorem PC.nil{N:Nat}{part:List Int}(h:∀ v:Int,0≤v→elt part v=0):PC N part []:=fun v h0 _ hv=>absurd (h v h0) hv
theorem PC.close{N:Nat}{nx:List (List Int)}{r:Int}{s:TS}(h:TI N nx r s){ps:List (List Int)}(hP:PC N s.part ps)(hn:s.np=ps.length){A B p:List Int}{v:Int}(hs:s.stk=A++v::B)(hp:p.Perm (v::B)):PC N (b8 s.part ((s.np:Int)+1) p) (ps++[p]):=fun x h0 h1 hx=>by
 have hst:∀ x∈p,(0≤x∧x<(N:Int))∧elt s.part x=0:=fun x hx=>by
   have:=(h.stk x).1 (by rw [hs];exact List.mem_append_right _ (hp.mem_iff.1 hx))
   exact ⟨this.1,this.2.2⟩
 have hlp:=h.lp
 rw [gQ p s.part (fun w hw=>by rw [hlp];exact (hst w hw).1) x h0] at hx ⊢
 by_cases hm:x∈p
 · rw [if_pos hm]
   exact ⟨ps.length,p,by simp,hm,by rw [hn]⟩
 · rw [if_neg hm] at hx ⊢
   obtain ⟨k,q,h2,h3,h4⟩:=hP x h0 h1 hx
   exact ⟨k,q,by rw [List.getElem?_append_left (List.getElem?_eq_some_iff.1 h2).1];exact h2,h3,h4⟩
theorem oF(f:Nat→Nat):∀ l:List Nat,((l.filter fun x=>decide (f x≠0)).map f).sum=(l.map f).sum
 | []=>rfl
 | a::l=>by
   rw [List.filter_cons,List.map_cons,List.sum_cons,← oF f l]
   by_cases h:f a=0
   · rw [if_neg (by simp [h]),h];omega
   · rw [if_pos (by simp [h]),List.map_cons,List.sum_cons]
theorem KI.all{M:Nat}{us:List (List Int)}{w D:List Int}(h:KI M us w D [] [])(hlt:∀ q:Nat,∀ p∈elt us (q:Int),1≤q∧(q:Int)<p):∀ p:Int,1≤p→p≤M→p∈D:=by
 have key:∀ n:Nat,∀ p:Int,p.toNat≤n→1≤p→p≤M→p∈D:=by
   intro n
   induction n with
   | zero=>intro p h1 h2;omega
   | succ n ih =>
     intro p hpn h1 h2
     refine Classical.byContradiction fun hno => ?_
     have hz:=h.zr p h1 h2
     rw [List.append_nil] at hz
     have hw:=h.wt p h1 h2
     have hne:elt w p≠0:=fun e=>hno (hz.2 e)
     have hn:D.Nodup:=by have:=h.nd;rwa [List.append_nil] at this
     have hrg:∀ q∈D,1≤q∧q≤M:=fun q hq=>h.rg q (by simpa using hq)
     have hle:oH us p≤dnU us D p:=by
       have e:dnU us D p=((D.map Int.toNat).map fun q:Nat=>(elt us (q:Int)).count p).sum:=by
         unfold dnU
         rw [List.map_map]
         refine congrArg List.sum (List.map_congr_left fun q hq => ?_)
         show _=(elt us ((q.toNat:Nat):Int)).count p
         rw [Int.toNat_of_nonneg (by have:=hrg q hq;omega)]
       rw [e]
       unfold oH
       rw [← oF]
       refine cW _ _ _ (List.nodup_range.filter _) fun q hq => ?_
       obtain ⟨_,h4⟩:=List.mem_filter.1 hq
       have h4:(elt us (q:Int)).count p≠0:=by simpa using h4
       have h5:p∈elt us (q:Int):=List.count_pos_iff.1 (by omega)
       have h6:=hlt q p h5
       exact List.mem_map.2 ⟨(q:Int),ih q (by omega) (by omega) (by omega),by simp⟩
     have h7:List.count p ([]:List Int)=0:=rfl
     have h8:=pL (us:=us) (D:=D) (p:=p) hn (fun x hx=>by have:=hrg x hx;have:=h.lu;omega)
     rw [h7] at hw
     omega
 exact fun p h1 h2=>key p.toNat p (Nat.le_refl _) h1 h2
def UpL(us:List (List Int)):Prop:=∀ q:Nat,∀ p∈elt us (q:Int),1≤q∧(q:Int)<p
theorem UpL.start(M:Nat):UpL (List.replicate (M+1) []):=fun q p hp=>by
 unfold elt at hp
 rw [List.getD_eq_getElem?_getD,List.getElem?_replicate] at hp
 split at hp<;>cases hp
theorem UpL.step{us:List (List Int)}(h:UpL us){q:Nat}{p:Int}(hq:q<us.length)(h1:1≤q)(hlt:(q:Int)<p):UpL (us.set q (elt us (q:Int)++[p])):=fun k x hx=>by
 have e:=se (l:=us) (q:=(q:Int)) (y:=elt us (q:Int)++[p]) (by omega) (by omega) (x:=(k:Int)) (by omega)
 rw [Int.toNat_natCast] at e
 rw [e] at hx
 split at hx
 · rename_i e2
   rcases List.mem_append.1 hx with h2 | h2
   · have:=h q x h2;omega
   · rw [List.mem_singleton.1 h2];omega
 · exact h k x hx
theorem Rc.last{nx:List (List Int)}{u v:Int}(h:Rc nx u v):u=v∨∃ z,Rc nx u z∧v∈elt nx z:=by
 induction h with
 | refl=>exact .inl rfl
 | step h _ ih =>
   rcases ih with rfl | ⟨z,h1,h2⟩
   · exact .inr ⟨_,.refl _,h⟩
   · exact .inr ⟨z,.step h h1,h2⟩
def OnC(nx:List (List Int))(v:Int):Prop:=∃ w∈elt nx v,Rc nx w v
theorem OnC.of_two{nx:List (List Int)}{x y:Int}(h:Rc nx x y)(k:Rc nx y x)(hne:x≠y):OnC nx x:=by
 cases h with
 | refl=>exact absurd rfl hne
 | step h1 h2=>exact ⟨_,h1,h2.trans k⟩
theorem OnC.back{nx:List (List Int)}{v:Int}(h:OnC nx v):∃ z,Rc nx v z∧v∈elt nx z:=by
 obtain ⟨w,h1,h2⟩:=h
 rcases h2.last with rfl | ⟨z,h3,h4⟩
 · exact ⟨_,.refl _,h1⟩
 · exact ⟨z,.step h1 h3,h4⟩
structure PX (N:Nat) (nx:List (List Int)) (ps:List (List Int)):Prop where
 sc:∀ p∈ps,∀ x∈p,∀ y∈p,Rc nx x y
 cy:∀ v w:Int,0≤v→v<N→0≤w→w<N→Rc nx v w→Rc nx w v→∃ p∈ps,v∈p∧w∈p
theorem PX.mono{N:Nat}{nx ps qs:List (List Int)}(h:PX N nx ps)(h1:∀ p∈qs,p∈ps)(h2:∀ p∈ps,p∈qs):PX N nx qs :=
 ⟨fun p hp=>h.sc p (h1 p hp),fun v w a b c d e f=>let ⟨p,hp,q⟩:=h.cy v w a b c d e f; ⟨p,h2 p hp,q⟩⟩
theorem TJ.down{nx:List (List Int)}{s:TS}(j:TJ nx s)(hnr:∀ v w,w∈elt nx v→0≤w){v w:Int}(h:Rc nx v w):0≤v→elt s.part v≠0→elt s.part w≠0∧elt s.part w≤elt s.part v:=by
 induction h with
 | refl=>exact fun _ h=>⟨h,Int.le_refl _⟩
 | step h _ ih =>
   intro h0 hp
   have h1:=j.cl _ h0 hp _ h
   have h2:=ih (hnr _ _ h) h1.1
   exact ⟨h2.1,Int.le_trans h2.2 h1.2⟩
theorem TJ.px{N:Nat}{nx:List (List Int)}{s:TS}(j:TJ nx s)(hnr:∀ v w,w∈elt nx v→0≤w∧w<N){ps:List (List Int)}(hP:PL N s.part ps)(hC:PC N s.part ps)(hall:∀ v:Int,0≤v→v<N→elt s.part v≠0):PX N nx ps:=by
 refine ⟨fun p hp x hx y hy => ?_,fun v w v0 v1 w0 w1 h k => ?_⟩
 · obtain ⟨k,hk⟩:=List.mem_iff_getElem?.1 hp
   have h1:=hP.of k p hk x hx
   have h2:=hP.of k p hk y hy
   exact j.sc x y h1.1.1 h2.1.1 (hall x h1.1.1 h1.1.2) (by rw [h1.2,h2.2])
 · have h1:=j.down (fun a b h=>(hnr a b h).1) h v0 (hall v v0 v1)
   have h2:=j.down (fun a b h=>(hnr a b h).1) k w0 (hall w w0 w1)
   obtain ⟨k1,p1,a1,b1,c1⟩:=hC v v0 v1 (hall v v0 v1)
   obtain ⟨k2,p2,a2,b2,c2⟩:=hC w w0 w1 (hall w w0 w1)
   have e:k1=k2:=by have:=h1.2;have:=h2.2;omega
   subst e
   rw [a1] at a2
   exact ⟨p1,List.mem_of_getElem? a1,b1,by rw [Option.some.inj a2];exact b2⟩
end Go.Lv

namespace Go.Proofs.YtgkbbdgklpabpaaGreatDoor
open Go.RowKit Go.Lp Go.Sy Go.Lv
def lF(vs:List aR)(s:ByteArray):Option Nat:=vs.findIdx? fun d=>decide (d.name=s)
abbrev iu(vs:List aR):ByteArray→Option Int:=fun s=>(lF vs s).map fun i:Nat=>(i:Int)
theorem qf(l:List aR)(d:aR)(s:ByteArray):lF (l++[d]) s=(lF l s).or (if d.name=s then some l.length else none):=by
 unfold lF
 rw [List.findIdx?_append]
 congr 1
 by_cases h:d.name=s<;>simp [h,List.findIdx?_cons]
theorem qg(l:List aR)(s:ByteArray):(lF l s).isSome=true↔s∈l.map (·.name):=by
 unfold lF
 rw [List.findIdx?_isSome,List.any_eq_true,List.mem_map]
 simp
theorem abe{l:List aR}{s:ByteArray}{i:Nat}(h:lF l s=some i):i<l.length:=(List.findIdx?_eq_some_iff_getElem.1 h).1
theorem qi(l:List aR)(s:ByteArray):(iu l s).isSome=true↔s∈l.map (·.name):=by
 rw [← qg];simp [iu]
theorem kg{γ:Type}[DecidableEq γ]:∀ l:List γ,∃ ks:List γ,ks.Nodup∧(∀ a,a∈l↔a∈ks)∧(ks.length=l.length→l.Nodup)
 | []=>⟨[],List.nodup_nil,fun _=>Iff.rfl,fun _=>List.nodup_nil⟩
 | a :: l=>by
   obtain ⟨ks,h1,h2,h3⟩:=kg l
   have hle:ks.length≤l.length:=dI ks l h1 fun x hx=>(h2 x).2 hx
   by_cases ha:a∈ks
   · refine ⟨ks,h1,fun x => ?_,fun h => ?_⟩
     · rw [List.mem_cons,h2]
       exact ⟨fun h=>h.elim (fun e=>e ▸ ha) id,.inr⟩
     · rw [List.length_cons] at h;omega
   · refine ⟨a::ks,List.nodup_cons.2 ⟨ha,h1⟩,fun x => ?_,fun h => ?_⟩
     · rw [List.mem_cons,List.mem_cons,h2]
     · rw [List.length_cons,List.length_cons] at h
       exact List.nodup_cons.2 ⟨fun k=>ha ((h2 a).1 k),h3 (by omega)⟩
theorem qh(l:List aR):km (iu l)=l.length↔(l.map (·.name)).Nodup:=by
 obtain ⟨ks,h1,h2,h3⟩:=kg (l.map (·.name))
 rw [oa h1 fun a=>(qi l a).trans (h2 a)]
 constructor
 · intro h;exact h3 (by rw [List.length_map];exact h)
 · intro h
   have:=dI _ _ h fun x hx=>(h2 x).1 hx
   have h4:=dI _ _ h1 fun x hx=>(h2 x).2 hx
   rw [List.length_map] at this h4;omega
def iH(s:ByteArray):Bool:=(nU s).all (fun u=>decide (33≤u.toNat) && decide (u.toNat≤126)) && (decide (1≤s.size) && decide (s.size≤64))
def rF(l:List aR)(k:Nat)(p:ByteArray):cj:=⟨(k:Int),(((lF l p).getD 0:Nat):Int)⟩
def kK(l:List aR)(k:Nat):List cj:=((List.range k).map fun i:Nat=>((l[i]?.map fun d=>d.parents.l).getD []).map (rF l i)).flatten
theorem rG{l:List aR}{k:Nat}{d:aR}(h:l[k]? = some d):kK l (k+1)=kK l k++d.parents.l.map (rF l k):=by
 unfold kK
 rw [List.range_succ,List.map_append,List.flatten_append]
 simp [h]
structure acY (l:List aR):Prop where
 len:l.length≤4096
 nd:(l.map (·.name)).Nodup
 nm:∀ d∈l,iH d.name=true
 pk:∀ d∈l,d.parents.l.Nodup∧∀ x∈d.parents.l,x∈l.map (·.name)
 ac:∀ v:Int,0≤v→v<l.length→¬ OnC (ck l.length (kK l l.length)) v
theorem xm{l:List ByteArray}(h:l.Nodup){m:Nat}{p:ByteArray}(hp:l[m]? = some p):p ∉ l.take m:=fun hm=>by
 obtain ⟨i,hi⟩:=List.mem_iff_getElem?.1 hm
 rw [List.getElem?_take] at hi
 split at hi
 · rename_i hlt
   obtain ⟨h1,e1⟩:=List.getElem?_eq_some_iff.1 hi
   obtain ⟨h2,e2⟩:=List.getElem?_eq_some_iff.1 hp
   exact List.pairwise_iff_getElem.1 h i m h1 h2 hlt (e1.trans e2.symm)
 · cases hi
structure VI (l:List aR) (k:Nat) (gs:List cj):Prop where
 le:k≤l.length
 ok:∀ a∈gs,fZ l.length a
 ln:gs.length≤l.length*k
 nm:∀ d∈l.take k,iH d.name=true
 ar:gs=kK l k
 pk:∀ d∈l.take k,d.parents.l.Nodup∧∀ x∈d.parents.l,x∈l.map (·.name)
structure VJ (l:List aR) (k:Nat) (d:aR) (m:Nat) (gs:List cj):Prop where
 le:k<l.length
 ml:m≤d.parents.l.length
 ok:∀ a∈gs,fZ l.length a
 ln:gs.length≤l.length*k+m
 nm:∀ d∈l.take k,iH d.name=true
 ar:gs=kK l k++(d.parents.l.take m).map (rF l k)
 pk:∀ d∈l.take k,d.parents.l.Nodup∧∀ x∈d.parents.l,x∈l.map (·.name)
 nd:(d.parents.l.take m).Nodup
 kn:∀ x∈d.parents.l.take m,x∈l.map (·.name)
section
variable {l:List aR} {k m:Nat} {d:aR} {gs:List cj} {p:ByteArray}
theorem VI.start(l:List aR):VI l 0 []:=⟨Nat.zero_le _,fun a h=>(by cases h),Nat.zero_le _,fun d h=>(by cases h),rfl,fun d h=>(by cases h)⟩
theorem VI.into(h:VI l k gs)(hd:l[k]? = some d):VJ l k d 0 gs:=⟨(List.getElem?_eq_some_iff.1 hd).1,Nat.zero_le _,h.ok,h.ln,h.nm,by rw [h.ar];simp,h.pk,List.nodup_nil,fun x hx=>(by cases hx)⟩
theorem VJ.short(h:VJ l k d m gs):m≤l.length:=by
 have:=dI _ _ h.nd h.kn
 rw [List.length_take,List.length_map] at this
 have:=h.ml;omega
theorem VJ.step(h:VJ l k d m gs)(hd:l[k]? = some d)(hp:d.parents.l[m]? = some p){i:Nat}(hi:lF l p=some i)(hs:p ∉ d.parents.l.take m):VJ l k d (m+1) (gs++[⟨k,i⟩]):=by
 have hm:=(List.getElem?_eq_some_iff.1 hp).1
 have hlt:=abe hi
 have hle:=h.le
 refine ⟨h.le,hm,fun a ha => ?_,?_,h.nm,?_,h.pk,?_,fun x hx => ?_⟩
 · rcases List.mem_append.1 ha with h1 | h1
   · exact h.ok a h1
   · rw [List.mem_singleton.1 h1];exact ⟨⟨Int.natCast_nonneg _,Int.ofNat_lt.2 hle⟩,Int.natCast_nonneg _,Int.ofNat_lt.2 hlt⟩
 · rw [List.length_append,List.length_singleton];have:=h.ln;omega
 · have e:rF l k p=⟨(k:Int),(i:Int)⟩:=by unfold rF;rw [hi];rfl
   rw [List.take_add_one,hp,Option.toList_some,List.map_append,List.map_singleton,e,← List.append_assoc,← h.ar]
 · rw [List.take_add_one,hp,Option.toList_some,List.nodup_append]
   exact ⟨h.nd,by simp,fun x hx y hy e=>hs (by rw [List.mem_singleton.1 hy] at e;exact e ▸ hx)⟩
 · rw [List.take_add_one,hp,Option.toList_some] at hx
   rcases List.mem_append.1 hx with h1 | h1
   · exact h.kn x h1
   · rw [List.mem_singleton.1 h1,← qg,hi];rfl
theorem VJ.done(h:VJ l k d m gs)(hd:l[k]? = some d)(hn:iH d.name=true)(hml:d.parents.l.length≤m):VI l (k+1) gs:=by
 have ht:=List.take_of_length_le hml
 have:=h.short
 refine ⟨h.le,h.ok,?_,fun x hx => ?_,?_,fun x hx => ?_⟩
 · rw [Nat.mul_add,Nat.mul_one];have:=h.ln;omega
 · rw [List.take_add_one,hd,Option.toList_some] at hx
   rcases List.mem_append.1 hx with h1 | h1
   · exact h.nm x h1
   · rw [List.mem_singleton.1 h1];exact hn
 · rw [rG hd,h.ar,ht]
 · rw [List.take_add_one,hd,Option.toList_some] at hx
   rcases List.mem_append.1 hx with h1 | h1
   · exact h.pk x h1
   · rw [List.mem_singleton.1 h1]
     have h2:=h.nd
     have h3:=h.kn
     rw [ht] at h2 h3
     exact ⟨h2,h3⟩
end
end Go.Proofs.YtgkbbdgklpabpaaGreatDoor

namespace Go.Proofs.YtgkbbdgklpabpaaGreatDoor
open Go.RowKit Go.Lp Go.Sy
open Go.Proofs.Tryz
attribute [local irreducible] aL aB awp aC fwp Quiet
theorem tC(l:Sl Int)(hl:l.l.length≤1000000):Con Tryz.prog 202 [l.val] [ShF bd l] [] fun r ps hp=>ps=[]∧∃ (ad:Option Addr) (c:Nat),r=.slice ad l.l.length c∧hp=[aP (.slice ad l.l.length c) 3 1 (l.l.map bd)]:=by
 refine EN1 Tryz.func202 rfl ?_
 refine gp (φ:=l.ad=none→l.l=[]) (fun w S fp hst => ?_) (fun hnil => ?_)
 · intro hn
   have hrep:dT w S (.slice l.ad l.l.length l.cap) (.sl (l.l.map bd)):=hst.per _ (ax 0 rfl)
   rw [hn] at hrep
   generalize hrw:l.l.map bd=rows at hrep
   generalize l.l.length=m at hrep
   cases hrep with
   | e=>exact List.map_eq_nil_iff.1 hrw
 refine go 0 [0,0] ?_
 refine aU rfl (rk Tryz.underlying33 rfl) (aNn ?_)
 refine aa _ rfl (fun h1 => ?_) (fun h1 => ?_)
 ·skip
  have hl0:l.l=[]:=hnil (by simpa using h1)
  refine aq (cV 3 1 ?_)
  show awp _ _ _ _ ⟨_,_,[_]⟩
  refine go 2 [0] ?_
  refine ae (aj (FZ1 [0] Tryz.results202 rfl ?_))
  exact ⟨rfl,none,0,by rw [hl0];rfl,by rw [hl0];rfl⟩
 ·skip
  refine aD (an (aSR (LT rfl (uZ el33 rfl (fun v3_0=>(aHN ?_))))))
  refine aM rfl ?_
  refine aT rfl (ji 0 el33 el33 rfl rfl rfl rfl (ax 0 rfl) ((fun r hr=>by obtain ⟨z,_,rfl⟩:=List.mem_map.1 hr;rfl)) (by show ([]:List (List D)).length+(l.l.map bd).length≤_;rw [List.length_map];exact Nat.le_trans (show 0+l.l.length≤1000000 by omega) (by decide)) (l.l.length) (by simp;try omega) (fun v3_2 c3_2 => ?_))
  refine aHK ?_
  refine go 2 [0] ?_
  refine ae (FZ1 [0] Tryz.results202 rfl ?_)
  exact ⟨rfl,v3_2,c3_2,rfl,rfl⟩
end Go.Proofs.YtgkbbdgklpabpaaGreatDoor

namespace Go.Proofs.YtgkbbdgklpabpaaGreatDoor
open Go.RowKit Go.Lp Go.Sy Go.Sort Go.Shelf
open Go.Proofs.Tryz
theorem k7{v:Value}{T:TypeId}(zs:List Int)(hz:zs.length<4611686018427387904):Con Tryz.prog 203 [v] [] [aP v T 1 (bF encI zs)] fun _ ps' hp'=>ps'=[]∧hp'=[aP v T 1 (bF encI (eB zs))]:=by
 have hlen:(eB zs).length=zs.length:=List.length_mergeSort _
 refine jB (zs1:=eB zs) (rest:=[]) (fun _=>rfl) (by simp [hlen]) (fun hv hz w => ?_) (fun b cap w hv hb hc hm hH => ?_)
 · subst hv;subst hz
   refine (Any.slices_Sort_int_none Tryz.lays189 none 0 w).mono fun e w' ⟨he,hw⟩=>⟨_,he,hw,rfl,?_⟩
   rw [show eB []=[] by simp [eB]]
 · refine (Any.slices_Sort_int Tryz.lays189 b 0 cap zs w hH hb hz).mono fun e w' ⟨he,n,os,hw⟩=>⟨⟨_,he,rfl,by rw [hlen,hv]⟩,n,os,by rw [List.append_nil];exact hw⟩
theorem j0{v:Value}{T:TypeId}(zs:List Int):Con Tryz.prog 204 [v] [] [aP v T 1 (bF encI zs)] fun r ps' hp'=>ps'=[]∧∃ ad c,r=.slice ad (Lib.compact zs).length c∧hp'=[aP r T 1 (bF encI (Lib.compact zs))]:=by
 have hle:(Lib.compact zs).length≤zs.length:=by
   unfold Lib.compact Lib.compactUpTo
   rw [List.length_map]
   exact Nat.le_trans (List.length_filter_le _ _) (by simp)
 refine jB (zs1:=Lib.compact zs) (rest:=List.replicate (zs.length-(Lib.compact zs).length) 0) (fun _=>rfl) (by simp;omega) (fun hv hz w => ?_) (fun b cap w hv hb hc hm hH => ?_)
 · subst hv;subst hz
   refine (Any.slices_Compact_int_empty Tryz.lays20 none 0 w).mono fun e w' ⟨he,hw⟩=>⟨_,he,hw,rfl,none,0,rfl,rfl⟩
 · refine (Any.slices_Compact_int Tryz.lays20 b 0 cap zs w hH (by unfold maxLen at hm;omega) hc).mono fun e w' ⟨he,n,hw⟩=>⟨⟨_,he,rfl,_,_,rfl,rfl⟩,n,#[],?_⟩
   rw [Sort.grow_empty];exact hw
theorem qS{v:Value}{T:TypeId}(zs:List Int):Con Tryz.prog 205 [v] [] [aP v T 1 (bF encI zs)] fun _ ps' hp'=>ps'=[]∧hp'=[aP v T 1 (bF encI zs.reverse)]:=by
 refine jB (zs1:=zs.reverse) (rest:=[]) (fun _=>rfl) (by simp) (fun hv hz w => ?_) (fun b cap w hv hb hc hm hH => ?_)
 · subst hv;subst hz
   exact (Any.slices_Reverse_int_empty Tryz.lays112 none 0 w).mono fun e w' ⟨he,hw⟩=>⟨_,he,hw,rfl,rfl⟩
 · refine (Any.slices_Reverse_int Tryz.lays112 b 0 cap zs w hH (by unfold maxLen at hm;omega)).mono fun e w' ⟨he,n,hw⟩=>⟨⟨_,he,rfl,by rw [List.length_reverse,hv]⟩,n,#[],?_⟩
   rw [Sort.grow_empty,List.append_nil];exact hw
theorem mS{ad:Option Addr}{c:Nat}(zs:List Int)(hz:zs.length≤1000000):Con Tryz.prog 202 [.slice ad zs.length c] [Sh (.slice ad zs.length c) (.sl (bF encI zs))] [] fun r ps' hp'=>ps'=[]∧hp'=[aP r 3 1 (bF encI zs)] :=
 (tC ⟨ad,c,zs⟩ hz).post fun _ _ _ ⟨h1,_,_,h2,h3⟩=>⟨h1,by rw [h2];exact h3⟩
end Go.Proofs.YtgkbbdgklpabpaaGreatDoor

namespace Go.Proofs.YtgkbbdgklpabpaaGreatDoor
open Go.RowKit Go.Lp Go.Sy
open Go.Proofs.Tryz
attribute [local irreducible] aL aB awp aC fwp Quiet
set_option maxHeartbeats 20000000 in
theorem rR(N:Nat)(hN:N≤1000000)(l:Sl cj)(hl:l.l.length≤100000000)(hr:∀ a∈l.l,0≤a.from_∧a.from_<N) :
   Con Tryz.prog 195 [.int .i64 N,l.val] [ShF cj.row l] [] fun r ps hp=>ps=[]∧hp=[iw r 33 3 encI (ck N l.l)]:=by
 refine EN2 Tryz.func195 rfl (go 0 [0,0] ?_)
 refine LT rfl (fF (m:=N) (zs:=[.slice none 0 0]) el201 (by kernel_rfl) rfl (by decide) (dr rfl (rfl)) (dr rfl (rfl)) (by omega) rfl (fun v1_1=>(aHN ?_)))
 refine go 4 [0] ?_
 refine lI (α:=Int) (E:=3) (enc:=encI) 0 N rfl (aO (.of (ax 0 rfl)) (fun hlen=>(go 3 [0,168,0] ?_)))
 refine aF [5,11,12,13] [0] [0] (fun (k:Nat) s=>k≤l.l.length∧∃ vo,s=⟨[(5,true,vo),(11,true,l.val),(12,true,.int .i64 l.l.length),(13,true,.int .i64 k)],[ShF cj.row l],[iw vo 33 3 encI (dg N (l.l.take k))]⟩) (fun k=>l.l.length-k) rfl (⟨0,Nat.zero_le _,_,rfl⟩) ?_
 rintro k s ⟨hk,vo,rfl⟩
 refine go 3 [0] ?_
 refine aa _ rfl (fun h1 => ?_) (fun h1 => ?_)
 ·skip
  have hk':k<l.l.length:=by simpa using h1
  obtain ⟨a,ha⟩:∃ a,l.l[k]? = some a:=⟨l.l[k]'hk',by simp⟩
  have har:=hr a (List.mem_of_getElem? ha)
  refine aD (an (aq (aH (aSR (UI Tryz.underlying163 tk168 0 rfl rfl rfl rfl rfl (ak ha) rfl rfl (fun ⟨b4_0,o4_0⟩=>(go 0 [4610] ?_)))))))
  refine LT rfl (aW (zs:=[.int .i64 0,.int .i64 0]) (by kernel_rfl) rfl (fun b4_2=>(aHN ?_)))
  refine go 2 [4611] ?_
  have hkk:a.from_.toNat<(dg N (l.l.take k)).length:=by rw [cx];omega
  obtain ⟨xr,hxr⟩:∃ xr,(dg N (l.l.take k))[a.from_.toNat]? = some xr:=⟨(dg N (l.l.take k))[a.from_.toNat]'hkk,by simp⟩
  have hxl:xr.length≤100000000:=by have:=p4 N _ (List.mem_of_getElem? hxr);rw [List.length_take] at this;omega
  refine gM 0 a.from_.toNat rfl hxr (fun vs v hvl hv => ?_)
  rw [cx] at hvl
  have hne:ct vs≠[]:=fun h0=>by
    have:=congrArg List.length h0
    simp [ct,hvl] at this;omega
  refine dW 0 rfl hne (fun B cp hvo => ?_)
  have hvr:(ct vs).length=N:=by simp [ct,hvl]
  rw [hvr] at hvo
  subst hvo
  have hrow:(ct vs)[a.from_.toNat]? = some [.v v]:=by simp [ct,hv]
  show awp _ _ _ _ ⟨_,_,[_,_,_,_]⟩
  refine DC [11,13] [13] [b4_2] 14 (go 0 [0,0] ?_)
  refine jr 2 1 rfl (by kernel_rfl) true rfl rfl (by simp) tk3 (fun _=>rfl) rfl rfl ?_
  refine go 0 [0,0] ?_
  refine jr 5 1 rfl (by kernel_rfl) true rfl rfl (by simp) tk3 (fun _=>rfl) rfl rfl ?_
  refine CF 6 rfl rfl rfl (eE a.from_.toNat el201 rfl rfl (by omega) (by omega)) (CQ 7 rfl rfl rfl (bl (v:=.slice (some ⟨B,0,none⟩) N cp) (u:=v) 0 a.from_.toNat 0 tk33 rfl rfl hrow rfl rfl) (go 0 [2] ?_))
  refine jr 9 1 rfl (by kernel_rfl) true rfl rfl (by simp) tk3 (fun _=>rfl) rfl rfl ?_
  refine ed 10 [] (by kernel_rfl) (cZ ?_ dK)
  refine fb 10 rfl rfl (Eff.x (id (WL (zs:=[.int .i64 0]) el33 rfl rfl rfl (.more rfl (.v rfl .nil) .nil) rfl rfl (fun v5_10=>(CST ?_)))))
  refine ed 11 [] (by kernel_rfl) (cZ ?_ dK)
  refine fb 11 rfl rfl (Eff.framed (q:=false) [2,4] rfl rfl (vQ 1 rfl rfl abi) ?_)
  refine id (bH 0 el33 rfl rfl rfl rfl (cP 1 el33 rfl (by simp)) (by first | assumption | simp) (by simp [cE];omega) _ rfl (fun v5_11 c5_11 => ?_))
  refine vr (CST ?_)
  refine CF 12 rfl rfl rfl (eE a.from_.toNat el201 rfl rfl (by omega) (by omega)) ?_
  refine ed 13 [] (by kernel_rfl) (cZ ?_ dK)
  refine fb 13 rfl rfl (Eff.wild (q:=false) (cY 0 a.from_.toNat 0 tk33 rfl rfl rfl hrow rfl (.v rfl .nil) rfl (by decide) (CST ?_)))
  refine kI (by kernel_rfl) (ca (an ?_))
  refine pw (hp':=[aP (.slice (some ⟨B,0,none⟩) N cp) 33 1 (ct (vs.set a.from_.toNat (.slice v5_11 (xr.length+1) c5_11))),_,aP (.slice v5_11 (xr.length+1) c5_11) 3 1 (bF encI (xr++[a.to_])),eh ((inner 3 encI vs (dg N (l.l.take k))).set a.from_.toNat emp),_]) (by rw [jh,cE];simp [bF,jP];exact ⟨rfl,rfl⟩) ?_
  refine fx 0 2 3 a.from_.toNat rfl rfl rfl rfl rfl rfl (by rw [hvl,cx]) hkk ?_
  show awp _ _ _ _ ⟨_,_,[_,_,_,_,_]⟩
  refine go 1 [0,0] ?_
  refine an ?_
  refine ⟨[5,11,12,13],[0],[0],rfl,?_⟩
  refine ⟨k+1,⟨by omega,.slice (some ⟨B,0,none⟩) N cp,?_⟩,by omega⟩
  rw [sL _ _ ha,show fc (dg N (l.l.take k)) a=(dg N (l.l.take k)).set a.from_.toNat (xr++[a.to_]) by unfold fc;rw [List.getD_eq_getElem?_getD,hxr];rfl]
  rfl
 ·skip
  have hkl:k=l.l.length:=by simp at h1;omega
  rw [hkl,List.take_length]
  refine aY (bb (bb (bg (an (aq (aq (vX 0 rfl (fun ad cp hvo => ?_))))))))
  rw [cx] at hvo
  subst hvo
  refine az (aM rfl (aU rfl (bk Tryz.underlying201 rfl) (go 3 [0] ?_)))
  refine aF [5,32,33] [] [0] (fun (j:Nat) s=>j≤N∧s=⟨[(5,true,.slice ad N cp),(32,true,.int .i64 N),(33,true,.int .i64 j)],[],[iw (.slice ad N cp) 33 3 encI (fo (dg N l.l) j)]⟩) (fun j=>N-j) rfl (⟨0,Nat.zero_le _,by rw [show fo (dg N l.l) 0=dg N l.l by simp [fo]];rfl⟩) ?_
  rintro j s ⟨hj,rfl⟩
  refine go 3 [0] ?_
  refine aa _ rfl (fun h2 => ?_) (fun h2 => ?_)
  ·skip
   have hj':j<N:=by simpa using h2
   have hjj:j<(dg N l.l).length:=by rw [cx];omega
   obtain ⟨xr,hxr⟩:∃ xr,(dg N l.l)[j]? = some xr:=⟨(dg N l.l)[j]'hjj,by simp⟩
   have hxl:xr.length≤100000000:=by have:=p4 N _ (List.mem_of_getElem? hxr);omega
   refine go 3 [0,0] ?_
   refine gM 0 j rfl (uL hxr) (fun vs v hvl hv => ?_)
   rw [jJ _ _ (by rw [cx];omega),cx] at hvl
   have hne:ct vs≠[]:=fun h0=>by
     have:=congrArg List.length h0
     simp [ct,hvl] at this;omega
   refine dW 0 rfl hne (fun B cp2 hvo => ?_)
   obtain ⟨rfl,rfl⟩:ad=some ⟨B,0,none⟩∧cp=cp2:=by simp at hvo;exact ⟨hvo.1,hvo.2.2⟩
   have hrow:(ct vs)[j]? = some [.v v]:=by simp [ct,hv]
   show awp _ _ _ _ ⟨_,_,[_,_,_]⟩
   refine go 0 [0,0] ?_
   refine aU rfl (eE j el201 rfl rfl (by omega) (by omega)) (aU rfl (bl (v:=.slice (some ⟨B,0,none⟩) N cp) (u:=v) 0 j 0 tk33 rfl rfl hrow rfl rfl) (LF rfl (EC [] [1] rfl (k7 _ (by omega)) ?_)))
   rintro _ _ _ ⟨rfl,rfl⟩
   refine aST ?_
   refine go 0 [0,0,0,0] ?_
   refine aU rfl (eE j el201 rfl rfl (by omega) (by omega)) (aU rfl (bl (v:=.slice (some ⟨B,0,none⟩) N cp) (u:=v) 0 j 0 tk33 rfl rfl hrow rfl rfl) (LF rfl (EC [] [1] rfl (j0 _) ?_)))
   rintro r11 _ _ ⟨rfl,ad2,c2,rfl,rfl⟩
   refine aST ?_
   refine aU rfl (eE j el201 rfl rfl (by omega) (by omega)) (LF rfl (cY 0 j 0 tk33 rfl rfl rfl hrow rfl (.v rfl .nil) rfl (by decide) (dJ (ca (an ?_)))))
   refine pw (hp':=[aP (.slice (some ⟨B,0,none⟩) N cp) 33 1 (ct (vs.set j (.slice ad2 (Lib.compact (eB xr)).length c2))),aP (.slice ad2 (Lib.compact (eB xr)).length c2) 3 1 (bF encI (cr xr)),eh ((inner 3 encI vs (fo (dg N l.l) j)).set j emp)]) (by rw [jh];simp [jP];rfl) ?_
   refine fx 0 1 2 j rfl rfl rfl rfl rfl rfl (by rw [hvl,jJ _ _ (by rw [cx];omega),cx]) (by rw [jJ _ _ (by rw [cx];omega)];exact hjj) ?_
   show awp _ _ _ _ ⟨_,_,[_,_,_]⟩
   refine go 1 [0,0] ?_
   refine an ?_
   refine ⟨[5,32,33],[],[0],rfl,?_⟩
   refine ⟨j+1,⟨by omega,?_⟩,by omega⟩
   rw [← sM hxr];rfl
  ·skip
   have hjl:j=N:=by simp at h2;omega
   subst hjl
   have e:fo (dg j l.l) j=ck j l.l:=by have:=cx j l.l;unfold fo ck;rw [List.take_of_length_le (by omega),List.drop_of_length_le (by omega),List.append_nil]
   rw [e]
   refine go 2 [0,0] ?_
   refine ae (FZ1 [0] Tryz.results195 rfl ?_)
   exact ⟨rfl,rfl⟩
theorem acw(N:Nat)(hN:N≤100000000)(w:World):Calls Tryz.prog 89 #[.int .u64 (IntKind.u64.wrap 1),.int .u64 (IntKind.u64.wrap (N:Int))] w fun e w'=>e=.returned (.tuple #[.int .u64 0,.int .u64 N])∧Go.Sy.Below w.heap.size w w':=by
 have h:=Any.bits_Mul Tryz.lays212 1 N (by omega) (by omega) w
 have e1:IntKind.u64.wrap 1=1:=by decide
 have e2:IntKind.u64.wrap (N:Int)=N:=by rw [IntKind.wrap_u64];omega
 rw [e1,e2]
 refine h.mono fun e w' ⟨h1,h2⟩=>⟨?_,by rw [h2];exact Go.Sy.Below.refl _ _⟩
 rw [h1]
 have e3:1*N / 18446744073709551616=0:=by omega
 have e4:1*N % 18446744073709551616=N:=by omega
 rw [e3,e4];rfl
theorem rW{ad:Option Addr}{c:Nat}(v:Int):Con Tryz.prog 54 [.slice ad 1 c,.int .i64 ((0:Nat):Int)] [Sh (.slice ad 1 c) (.sl (bF encI [v]))] [] fun r ps hp=>ps=[]∧hp=[aP r 3 1 (bF encI [])]:=by
 refine EN2 Tryz.func54 rfl (go 2 [0,0,0] ?_)
 refine aa _ rfl (fun h1 => ?_) (fun h1 => ?_)
 ·skip
  exact absurd h1 (by simp)
 ·skip
  refine go 0 [0] ?_
  refine aU rfl (bk Tryz.underlying33 rfl) (aU rfl (ey (by kernel_rfl) Tryz.underlying152 rfl) (aM rfl (aU rfl (ey (by kernel_rfl) Tryz.underlying152 rfl) (aU rfl (QC rfl (fun w S fp hst=>acw 0 (by omega) w)) (go 2 [0,0,0,0,0,0,0,0,0,0,0] ?_)))))
  refine aa _ rfl (fun h2 => ?_) (fun h2 => ?_)
  ·skip
   exact absurd h2 (by decide)
  ·skip
   refine go 0 [0] ?_
   refine aU rfl (ey (by kernel_rfl) Tryz.underlying3 rfl) (LT rfl (fF (m:=0) (zs:=[.int .i64 0]) el33 (by kernel_rfl) rfl (by decide) (dr rfl (rfl)) (dr rfl (rfl)) (by omega) rfl (fun v6_2=>(aHN ?_))))
   refine go 0 [0,0,0] ?_
   refine aU rfl (aaS el33 rfl rfl) (go 4 [0] ?_)
   refine aF [7,8] [] [0] (fun (k:Nat) s=>s=⟨[(7,true,.slice v6_2 0 0),(8,true,.int .i64 0)],[],[aP (.slice v6_2 0 0) 3 1 (bF encI [])]⟩) (fun k=>k) rfl (⟨0,rfl⟩) ?_
   rintro k s rfl
   refine go 0 [0,0] ?_
   refine aU rfl (dQ 0 Tryz.underlying33 rfl rfl) (go 2 [0] ?_)
   refine aa _ rfl (fun h3 => ?_) (fun h3 => ?_)
   ·skip
    exact absurd h3 (by decide)
   ·skip
    refine go 2 [0,0] ?_
    refine ae (FZ1 [0] Tryz.results54 rfl ?_)
    exact ⟨rfl,rfl⟩
theorem rX{ad:Option Addr}{c:Nat}(v:Int)(N:Nat)(hN:N≤100000000)(h0:0<N):Con Tryz.prog 54 [.slice ad 1 c,.int .i64 N] [Sh (.slice ad 1 c) (.sl (bF encI [v]))] [] fun r ps hp=>ps=[]∧hp=[aP r 3 1 (bF encI (List.replicate N v))]:=by
 refine EN2 Tryz.func54 rfl (go 2 [0,0,0] ?_)
 refine aa _ rfl (fun h1 => ?_) (fun h1 => ?_)
 ·skip
  exact absurd h1 (by simp)
 ·skip
  refine go 0 [0] ?_
  refine aU rfl (bk Tryz.underlying33 rfl) (aU rfl (ey (by kernel_rfl) Tryz.underlying152 rfl) (aM rfl (aU rfl (ey (by kernel_rfl) Tryz.underlying152 rfl) (aU rfl (QC rfl (fun w S fp hst=>acw N hN w)) (go 2 [0,0,0,0,0,0,0,0,0,0,0] ?_)))))
  refine aa _ rfl (fun h2 => ?_) (fun h2 => ?_)
  ·skip
   exact absurd h2 (by simp;omega)
  ·skip
   refine aD (an (aq ?_))
   have hw:=wrapN N hN
   refine az (aM rfl (aU rfl (ey (by kernel_rfl) Tryz.underlying3 rfl) (LT rfl (fF (m:=N) (zs:=[.int .i64 0]) el33 (by kernel_rfl) rfl (by decide) (dr rfl (hw)) (dr rfl (hw)) (by omega) rfl (fun v6_2=>(aHN ?_))))))
   refine go 3 [0] ?_
   refine pw (hp':=[aP (.slice v6_2 N N) 3 1 (bF encI (List.replicate N 0))]) (by simp [bF]) ?_
   refine dW 0 rfl (by simp [bF];omega) (fun B cp hvo => ?_)
   obtain ⟨rfl,rfl⟩:v6_2=some ⟨B,0,none⟩∧N=cp:=by simp at hvo;exact ⟨hvo.1,hvo.2.2⟩
   refine go 0 [0,0] ?_
   refine LF rfl (aaK (zs:=List.replicate N 0) (xs:=[v]) 0 el33 (fun _=>rfl) rfl rfl rfl rfl (by simp) (ax 0 rfl) (by simp) (by simp;omega) (by simp;omega) (part N 1 v) (by simp [part]) rfl ?_)
   refine go 4 [0] ?_
   refine aF [7,8] [] [0] (fun (k:Nat) s=>(1≤k∧k≤N)∧s=⟨[(7,true,.slice (some ⟨B,0,none⟩) N N),(8,true,.int .i64 k)],[],[aP (.slice (some ⟨B,0,none⟩) N N) 3 1 (bF encI (part N k v))]⟩) (fun k=>N-k) rfl (⟨1,⟨by omega,by omega⟩,rfl⟩) ?_
   rintro k s ⟨⟨hk1,hk2⟩,rfl⟩
   refine go 0 [0,0] ?_
   refine aU rfl (bk Tryz.underlying33 rfl) (go 2 [0] ?_)
   refine aa _ rfl (fun h3 => ?_) (fun h3 => ?_)
   ·skip
    have hkN:k<N:=by simp at h3;omega
    obtain ⟨j,hj⟩:∃ j,j=min k (N-k):=⟨_,rfl⟩
    refine aD (an (aH (DR [7] 10 (go 0 [3,0,0,0] ?_))))
    refine bV 3 rfl rfl (p5 k (N-k) k el33 rfl rfl rfl hkN (Nat.le_refl _) rfl (by omega)) (VM 4 rfl rfl (VM 5 rfl rfl (bV 6 rfl rfl (gB k el33 rfl rfl rfl (by omega) (Nat.le_refl _)) ?_)))
    refine VE 7 rfl rfl (aaJ (zs:=part N k v) 0 el33 (fun _=>rfl) rfl rfl rfl rfl (sK v hk2) j hj (by rw [sK v hk2];omega) (part N (k+j) v) (xv v (by omega) (by omega)) ?_)
    refine bST rfl ?_
    refine go 2 [0,0] ?_
    refine an ?_
    refine ⟨[7,8],[],[0],rfl,?_⟩
    refine ⟨k+j,⟨⟨by omega,by omega⟩,?_⟩,by omega⟩
    rw [Int.natCast_add];rfl
   ·skip
    have hkN:k=N:=by simp at h3;omega
    subst hkN
    rw [show part k k v=List.replicate k v by simp [part]]
    refine go 2 [0,0] ?_
    refine ae (FZ1 [0] Tryz.results54 rfl ?_)
    exact ⟨rfl,rfl⟩
theorem tW{ad:Option Addr}{c:Nat}(v:Int)(N:Nat)(hN:N≤100000000):Con Tryz.prog 54 [.slice ad 1 c,.int .i64 N] [Sh (.slice ad 1 c) (.sl (bF encI [v]))] [] fun r ps hp=>ps=[]∧hp=[aP r 3 1 (bF encI (List.replicate N v))]:=by
 cases N with
 | zero=>exact rW v
 | succ N=>exact rX v (N+1) hN (Nat.succ_pos _)
end Go.Proofs.YtgkbbdgklpabpaaGreatDoor

namespace Go.Proofs.YtgkbbdgklpabpaaGreatDoor
open Go.RowKit Go.Lp Go.Sy Go.Lv
open Go.Proofs.Tryz
attribute [local irreducible] aL aB awp aC fwp Quiet
set_option maxHeartbeats 4000000 in
theorem tZ(N:Nat)(hN:N≤1000000)(l:Sl cj)(hl:l.l.length≤100000000)(hr:∀ a∈l.l,fZ N a)(rs:Sl Int)(hrs:rs.l.length≤1000000) :
   Con Tryz.prog 131 [.int .i64 N,l.val,rs.val] [ShF cj.row l,ShF (fun z=>[.v (encI z)]) rs] [] fun r ps hp=>ps=[]∧hp=[aP r 3 1 (bF encI (gY N (ck N l.l) (cr rs.l)))]:=by
 have hro:=lW hr
 have hrl:=tc rs.l
 obtain ⟨M,hM⟩:∃ M,M=(cr rs.l).length+N:=⟨_,rfl⟩
 have hB:=iU N (cr rs.l)
 rw [← hM] at hB
 refine EN3 Tryz.func131 rfl (go 4 [0] ?_)
 refine LT rfl (WL (zs:=[.int .i64 0]) el33 rfl rfl rfl (.more rfl (.v rfl .nil) .nil) rfl rfl (fun v1_0=>(aHN ?_)))
 refine aM rfl (LF rfl (EC [] [0] rfl (Con.ofOwn (tW (-1) N (by omega))) ?_))
 rintro vb _ _ ⟨rfl,rfl⟩
 refine aST ?_
 refine go 3 [0] ?_
 refine py 0 rfl (fun ab cb hvb => ?_)
 rw [cE,List.length_replicate] at hvb
 subst hvb
 refine az (aM rfl (LT rfl (EC [0] [] rfl (mS rs.l hrs) ?_)))
 rintro vc _ _ ⟨rfl,rfl⟩
 refine aST ?_
 refine go 0 [0,0] ?_
 refine LF rfl (EC [] [1] rfl (k7 rs.l (by omega)) ?_)
 rintro _ _ _ ⟨rfl,rfl⟩
 refine aST ?_
 refine aNs (cV 3 1 ?_)
 show awp _ _ _ _ ⟨_,_,[_,_,_]⟩
 refine go 0 [0,0] ?_
 refine LF rfl (EC [] [1] rfl (j0 _) ?_)
 rintro _ _ _ ⟨rfl,au,cu,rfl,rfl⟩
 refine aST ?_
 refine aU rfl (bk Tryz.underlying33 rfl) (go 3 [0] ?_)
 refine aF [0,1,7,9,24,25,26] [1] [0,1,2] (fun (p:Nat × Value) s=>p.1≤(cr rs.l).length∧s=⟨[(0,true,.int .i64 N),(1,true,l.val),(7,true,.slice ab N cb),(9,true,p.2),(24,true,.slice au (cr rs.l).length cu),(25,true,.int .i64 (cr rs.l).length),(26,true,.int .i64 p.1)],[ShF cj.row l],[aP (.slice ab N cb) 3 1 (bF encI (cO N ((cr rs.l).take p.1)).1),aP (.slice au (cr rs.l).length cu) 3 1 (bF encI (cr rs.l)),aP p.2 3 1 (bF encI (cO N ((cr rs.l).take p.1)).2)]⟩) (fun p=>(cr rs.l).length-p.1) rfl (⟨(0,.slice none 0 0),Nat.zero_le _,rfl⟩) ?_
 rintro ⟨k,vw⟩ s ⟨hk,rfl⟩
 dsimp only at hk
 refine go 3 [0] ?_
 refine aa _ rfl (fun h1 => ?_) (fun h1 => ?_)
 ·skip
  have hk':k<(cr rs.l).length:=by simp at h1;omega
  obtain ⟨v,hv⟩:∃ v,(cr rs.l)[k]? = some v:=⟨_,List.getElem?_eq_getElem hk'⟩
  have hst:=rJ N _ hv
  refine aD (an (aq (aH (aq (dW 1 rfl (ke (by omega)) (fun Bu cpu hvu => ?_))))))
  obtain ⟨rfl,rfl⟩:au=some ⟨Bu,0,none⟩∧cu=cpu:=by simp at hvu;exact ⟨hvu.1,hvu.2.2⟩
  refine az (aU rfl (eE k el33 rfl rfl rfl hk') (aU rfl (bl (v:=.slice (some ⟨Bu,0,none⟩) (cr rs.l).length cu) (u:=encI v) 1 k 0 tk3 rfl rfl (gy hv) rfl rfl) (go 2 [0,0,0,0,0,0,0,0] ?_)))
  refine aa _ rfl (fun h2 => ?_) (fun h2 => ?_)
  ·skip
   have hvn:0≤v∧v<N:=by simpa using h2
   refine aq ?_
   have hbl:=(gN N ((cr rs.l).take k)).1
   refine dW 0 rfl (ke (by rw [hbl];omega)) (fun B cp hvb => ?_)
   obtain ⟨rfl,rfl⟩:ab=some ⟨B,0,none⟩∧cb=cp:=by simp at hvb;exact ⟨hvb.1,hvb.2.2⟩
   obtain ⟨o,ho⟩:∃ o,(cO N ((cr rs.l).take k)).1[v.toNat]? = some o:=⟨_,List.getElem?_eq_getElem (by rw [hbl];omega)⟩
   have hrow:=gy ho
   refine go 0 [0,0,0] ?_
   refine aU rfl (eE v.toNat el33 rfl rfl (by omega) (by omega)) (LF rfl (cY 0 v.toNat 0 tk3 rfl rfl rfl hrow rfl (.v rfl .nil) rfl (by decide) (go 0 [0,0] ?_)))
   refine LT rfl (WL (zs:=[.int .i64 0]) el33 rfl rfl rfl (.more rfl (.v rfl .nil) .nil) rfl rfl (fun v10_2=>(aHN ?_)))
   refine aT rfl (bH 2 el33 rfl rfl rfl rfl (cP 3 el33 rfl (by simp)) (by first | assumption | simp) (by have:=(gN N ((cr rs.l).take k)).2;rw [List.length_take] at this;simp [cE];omega) _ rfl (fun v10_3 c10_3 => ?_))
   refine aHK ?_
   refine go 1 [0,0,0] ?_
   refine an ?_
   refine ⟨[0,1,7,9,24,25,26],[0],[0,1,2],rfl,?_⟩
   refine ⟨(k+1,.slice v10_3 ((bF encI (cO N ((cr rs.l).take k)).2).length+1) c10_3),⟨by omega,?_⟩,by omega⟩
   dsimp only
   rw [hst]
   unfold dk
   rw [if_pos hvn,sf,iZ]
   rfl
  ·skip
   have hvn:¬ (0≤v∧v<N):=by simpa using h2
   refine go 1 [0,0] ?_
   refine an ?_
   refine ⟨[0,1,7,9,24,25,26],[0],[0,1,2],rfl,?_⟩
   refine ⟨(k+1,vw),⟨by omega,?_⟩,by omega⟩
   dsimp only
   rw [hst]
   unfold dk
   rw [if_neg hvn]
   rfl
 ·skip
  have hkl:k=(cr rs.l).length:=by simp at h1;omega
  subst hkl
  rw [List.take_length]
  refine go 0 [0,0] ?_
  refine LT rfl (EC [0] [] rfl (rR N hN l hl (fun a ha=>(hr a ha).1)) ?_)
  rintro vn _ _ ⟨rfl,rfl⟩
  refine aST ?_
  refine go 4 [0] ?_
  refine fP 3 rfl (fun so hso hsl => ?_)
  subst hso
  refine go 3 [0] ?_
  refine aF [7,9,12,13] [2,1] [0,2] (fun (p:Nat × Value) s=>p.1≤(bfs (ck N l.l) (cO N (cr rs.l)) p.1).2.length∧s=⟨[(7,true,.slice ab N cb),(9,true,p.2),(12,true,so.val),(13,true,.int .i64 p.1)],[bu (ShF fun z=>[.v (encI z)]) so.l,ShF (fun t:Sl Int=>[.v t.val]) so],[aP (.slice ab N cb) 3 1 (bF encI (bfs (ck N l.l) (cO N (cr rs.l)) p.1).1),aP p.2 3 1 (bF encI (bfs (ck N l.l) (cO N (cr rs.l)) p.1).2)]⟩) (fun p=>M-p.1) rfl (⟨(0,vw),Nat.zero_le _,rfl⟩) ?_
  rintro ⟨k,vw2⟩ s ⟨hk,rfl⟩
  dsimp only at hk
  have hBk:=mL hro hB k
  have hkM:=hBk.le
  refine aq (aq ?_)
  obtain ⟨sk,hsk⟩:∃ sk,bfs (ck N l.l) (cO N (cr rs.l)) k=sk:=⟨_,rfl⟩
  rw [hsk] at hk hBk hkM ⊢
  refine py 1 rfl (fun aw cw hvw => ?_)
  rw [cE] at hvw
  subst hvw
  refine go 0 [0,0] ?_
  refine aU rfl (bk Tryz.underlying33 rfl) (go 2 [0] ?_)
  refine aa _ rfl (fun h3 => ?_) (fun h3 => ?_)
  ·skip
   have hk':k<sk.2.length:=by simp at h3;omega
   obtain ⟨u,hu⟩:∃ u,sk.2[k]? = some u:=⟨_,List.getElem?_eq_getElem hk'⟩
   have hun:=hBk.mem u (List.mem_of_getElem? hu)
   have hsol:so.l.length=N:=by rw [← List.length_map (f:=Sl.l),hsl];unfold ck;rw [List.length_map,cx]
   refine aD (an (aq (aH (aq (dW 1 rfl (ke (by omega)) (fun Bw cpw hvw => ?_))))))
   obtain ⟨rfl,rfl⟩:aw=some ⟨Bw,0,none⟩∧cw=cpw:=by simp at hvw;exact ⟨hvw.1,hvw.2.2⟩
   refine go 0 [0,0,0] ?_
   refine aU rfl (eE k el33 rfl rfl rfl hk') (aU rfl (bl (v:=.slice (some ⟨Bw,0,none⟩) sk.2.length cw) (u:=encI u) 1 k 0 tk3 rfl rfl (gy hu) rfl rfl) (bI true rfl rfl (fun _=>ai Tryz.underlying201 tk33 rfl ((.of (ax 1 rfl))) rfl (bN (i:=u) (by omega) (by omega)) (by omega) rfl) (fun h=>absurd h (by decide)) (fun ⟨b16_5,o16_5⟩=>(go 3 [2,3,0] ?_))))
   obtain ⟨row,hrow⟩:∃ row,elt so.l u=row:=⟨_,rfl⟩
   have hrm:row∈so.l:=by rw [← hrow];exact List.mem_of_getElem? (cS (by omega) hun.1)
   have hrl:row.l=elt (ck N l.l) u:=by rw [← hrow,← hsl];unfold elt;rw [List.getD_eq_getElem?_getD,List.getD_eq_getElem?_getD,List.getElem?_map];cases so.l[u.toNat]? <;> rfl
   have hrb:∀ x∈row.l,0≤x∧x<N:=by rw [hrl];exact hro u
   rw [hrow]
   refine aO (Ent.allm (f:=ShF fun z:Int=>[.v (encI z)]) (.of (ax 1 rfl)) hrm) (fun hrlen=>(aF [7,9,12,13,61,62,63] [1,0] [0,1] (fun (q:Nat × Value) s=>q.1≤row.l.length∧s=⟨[(7,true,.slice ab N cb),(9,true,q.2),(12,true,so.val),(13,true,.int .i64 k),(61,true,row.val),(62,true,.int .i64 row.l.length),(63,true,.int .i64 q.1)],[bu (ShF fun z=>[.v (encI z)]) so.l,ShF (fun t:Sl Int=>[.v t.val]) so],[aP (.slice ab N cb) 3 1 (bF encI ((row.l.take q.1).foldl (visit u) sk).1),aP q.2 3 1 (bF encI ((row.l.take q.1).foldl (visit u) sk).2)]⟩) (fun q=>row.l.length-q.1) rfl (⟨(0,.slice (some ⟨Bw,0,none⟩) sk.2.length cw),Nat.zero_le _,rfl⟩) ?_))
   rintro ⟨j,vw3⟩ s ⟨hj,rfl⟩
   dsimp only at hj
   have hBj:=lG hun.1 (row.l.take j) sk hBk (fun x hx=>hrb x (List.mem_of_mem_take hx))
   have huj:=rh (gZ (u:=u) (row.l.take j) sk) hu
   refine go 3 [0] ?_
   refine aa _ rfl (fun h4 => ?_) (fun h4 => ?_)
   ·skip
    have hj':j<row.l.length:=by simp at h4;omega
    obtain ⟨x,hx⟩:∃ x,row.l[j]? = some x:=⟨_,List.getElem?_eq_getElem hj'⟩
    have hxn:=hrb x (List.mem_of_getElem? hx)
    have hvs:=tf (u:=u) row.l sk hx
    obtain ⟨sj,hsj⟩:∃ sj,(row.l.take j).foldl (visit u) sk=sj:=⟨_,rfl⟩
    rw [hsj] at hBj huj hvs ⊢
    refine aD (an (aq (aH (aSR (bI true rfl rfl (fun _=>ai Tryz.underlying33 tk3 rfl ((Ent.allm (f:=ShF fun z:Int=>[.v (encI z)]) (.of (ax 0 rfl)) hrm)) rfl (ak hx) rfl rfl) (fun h=>absurd h (by decide)) (fun ⟨b18_0,o18_0⟩=>(go 3 [2,0] ?_)))))))
    refine dW 0 rfl (ke (by rw [hBj.len];omega)) (fun B cp hvb => ?_)
    obtain ⟨rfl,rfl⟩:ab=some ⟨B,0,none⟩∧cb=cp:=by simp at hvb;exact ⟨hvb.1,hvb.2.2⟩
    have hbx:sj.1[x.toNat]? = some (elt sj.1 x):=cS (by rw [hBj.len];exact hxn.2) hxn.1
    refine go 0 [0,0] ?_
    refine aU rfl (eE x.toNat el33 rfl rfl (by omega) (by omega)) (aU rfl (bl (v:=.slice (some ⟨B,0,none⟩) N cb) (u:=encI (elt sj.1 x)) 0 x.toNat 0 tk3 rfl rfl (gy hbx) rfl rfl) (go 2 [0] ?_))
    refine aa _ rfl (fun h5 => ?_) (fun h5 => ?_)
    ·skip
     have hneg:elt sj.1 x<0:=by simpa using h5
     refine aq ?_
     have hklt:k<sj.2.length:=(List.getElem?_eq_some_iff.1 huj).1
     refine dW 1 rfl (ke (by omega)) (fun Bw2 cpw2 hvw => ?_)
     rw [cE] at hvw
     subst hvw
     refine go 0 [0,0,0,0] ?_
     refine aU rfl (eE k el33 rfl rfl rfl hklt) (aU rfl (bl (v:=.slice (some ⟨Bw2,0,none⟩) sj.2.length cpw2) (u:=encI u) 1 k 0 tk3 rfl rfl (gy huj) rfl rfl) (aU rfl (eE x.toNat el33 rfl rfl (by omega) (by omega)) (LF rfl (cY 0 x.toNat 0 tk3 rfl rfl rfl (gy hbx) rfl (.v rfl .nil) rfl (by decide) (go 0 [0,0] ?_)))))
     refine LT rfl (WL (zs:=[.int .i64 0]) el33 rfl rfl rfl (.more rfl (.v rfl .nil) .nil) rfl rfl (fun v21_2=>(aHN ?_)))
     refine aT rfl (bH 1 el33 rfl rfl rfl rfl (cP 2 el33 rfl (by simp)) (by first | assumption | simp) (by have:=hBj.le;simp [cE];omega) _ rfl (fun v21_3 c21_3 => ?_))
     refine aHK ?_
     refine go 1 [0,0,0] ?_
     refine an ?_
     refine ⟨[7,9,12,13,61,62,63],[1,0],[0,1],rfl,?_⟩
     refine ⟨(j+1,.slice v21_3 ((bF encI sj.2).length+1) c21_3),⟨by omega,?_⟩,by omega⟩
     dsimp only
     rw [hvs]
     unfold visit
     rw [if_pos hneg,sf,iZ]
     rfl
    ·skip
     have hneg:¬ elt sj.1 x<0:=by simpa using h5
     refine go 1 [0,0] ?_
     refine an ?_
     refine ⟨[7,9,12,13,61,62,63],[1,0],[0,1],rfl,?_⟩
     refine ⟨(j+1,vw3),⟨by omega,?_⟩,by omega⟩
     dsimp only
     rw [hvs]
     unfold visit
     rw [if_neg hneg]
     rfl
   ·skip
    have hjl:j=row.l.length:=by simp at h4;omega
    subst hjl
    have hk1:bfs (ck N l.l) (cO N (cr rs.l)) (k+1)=row.l.foldl (visit u) sk:=by show mO _ (bfs (ck N l.l) (cO N (cr rs.l)) k) k=_;rw [hsk];unfold mO;rw [hu,hrl]
    refine go 1 [0,0,0] ?_
    refine an ?_
    refine ⟨[7,9,12,13],[1,0],[0,1],rfl,?_⟩
    refine ⟨(k+1,vw3),⟨?_,?_⟩,?_⟩
    · dsimp only;rw [hk1,← List.take_length (l:=row.l)];exact (List.getElem?_eq_some_iff.1 huj).1
    · dsimp only;rw [hk1,List.take_length];rfl
    · dsimp only;omega
  ·skip
   have hkl:k=sk.2.length:=by simp at h3;omega
   refine go 2 [0,0] ?_
   refine ae (FZ1 [0] Tryz.results131 rfl ?_)
   refine ⟨rfl,?_⟩
   rw [← uU hro (k:=k) (by rw [hsk];exact hkl),hsk];rfl
end Go.Proofs.YtgkbbdgklpabpaaGreatDoor

namespace Go.Proofs.YtgkbbdgklpabpaaGreatDoor
open Go.RowKit Go.Lp Go.Sy
def w9(l:List Int)(v:Int):Prop:=0≤v∧v<l.length∧0≤elt l v
def chain(l:List Int):Nat→Int→List Int
 | 0,v=>[v]
 | f+1,v=>if elt l v=v then [v] else v::chain l f (elt l v)
structure Tree (l:List Int) (ρ:Int→Nat):Prop where
 step:∀ v,w9 l v→elt l v≠v→w9 l (elt l v)∧ρ (elt l v)<ρ v
theorem rL{l:List Int}{ρ:Int→Nat}(hT:Tree l ρ):∀ (f g:Nat) (v:Int),w9 l v→ρ v≤f→ρ v≤g→chain l f v=chain l g v
 | 0,0,v,_,_,_=>rfl
 | 0,g+1,v,h,hf,_=>by
   unfold chain
   split
   · rfl
   · rename_i hne;have:=(hT.step v h hne).2;omega
 | f+1,0,v,h,_,hg=>by
   unfold chain
   split
   · rfl
   · rename_i hne;have:=(hT.step v h hne).2;omega
 | f + 1,g+1,v,h,hf,hg=>by
   unfold chain
   split
   · rfl
   · rename_i hne
     obtain ⟨h1,h2⟩:=hT.step v h hne
     rw [rL hT f g _ h1 (by omega) (by omega)]
theorem gO(l:List Int)(f:Nat)(v:Int):chain l f v=v::(chain l f v).tail:=by
 cases f with
 | zero=>rfl
 | succ f=>unfold chain;split<;>rfl
theorem tA{l:List Int}{ρ:Int→Nat}(hT:Tree l ρ){v:Int}(h:w9 l v)(hne:elt l v≠v):(chain l (ρ v) v).tail=chain l (ρ (elt l v)) (elt l v):=by
 obtain ⟨h1,h2⟩:=hT.step v h hne
 obtain ⟨f,hf⟩:∃ f,ρ v=f+1:=⟨ρ v-1,by omega⟩
 rw [hf]
 show (if elt l v=v then [v] else v::chain l f (elt l v)).tail=_
 rw [if_neg hne,List.tail_cons]
 exact rL hT _ _ _ h1 (by omega) (Nat.le_refl _)
theorem wh{l:List Int}(f:Nat){v:Int}(h:elt l v=v):chain l f v=[v]:=by
 cases f with
 | zero=>rfl
 | succ f=>unfold chain;rw [if_pos h]
def fE(l:List Int)(ρ:Int→Nat)(to_:Int):List Int:=if elt l to_<0 then [] else (chain l (ρ to_) to_).reverse
open Go.Proofs.Tryz
attribute [local irreducible] aL aB awp aC fwp Quiet
theorem ud(l:Sl Int)(ρ:Int→Nat)(hT:Tree l.l ρ)(to_:Int)(ht:0≤to_∧to_<l.l.length)(hb:ρ to_≤100000) :
   Con Tryz.prog 132 [l.val,.int .i64 to_] [ShF (fun z=>[.v (encI z)]) l] [] fun r ps hp=>hp=[]∧∃ ad c,(ad=none↔fE l.l ρ to_=[])∧r=.slice ad (fE l.l ρ to_).length c∧ps=[Sh (.slice ad (fE l.l ρ to_).length c) (.sl (bF encI (fE l.l ρ to_)))]:=by
 refine EN2 Tryz.func132 rfl (go 0 [0,0,0] ?_)
 refine bI true rfl rfl (fun _=>ai Tryz.underlying33 tk3 rfl ((.of (ax 0 rfl))) rfl (bN (i:=to_) (by omega) (by omega)) (by omega) rfl) (fun h=>absurd h (by decide)) (fun ⟨b1_2,o1_2⟩=>(go 2 [2,0] ?_))
 refine aa _ rfl (fun h1 => ?_) (fun h1 => ?_)
 ·skip
  refine go 2 [0] ?_
  refine yg (Sh (.slice none 0 0) (.sl [])) (fun _ _ _=>dT.e _ _ (by unfold maxLen;omega)) ?_
  refine ae (aj ?_)
  refine bB [2] [] rfl Tryz.results132 rfl ?_ (.inr rfl)
  exact ⟨rfl,none,0,⟨fun _=>if_pos (by simpa using h1),fun _=>rfl⟩,by rw [show fE l.l ρ to_=[] from if_pos (by simpa using h1)];rfl,by rw [show fE l.l ρ to_=[] from if_pos (by simpa using h1)];rfl⟩
 ·skip
  have hgo:w9 l.l to_:=⟨ht.1,ht.2,by simpa using h1⟩
  refine go 0 [0] ?_
  refine LT rfl (WL (zs:=[.int .i64 0]) el33 rfl rfl rfl (.more rfl (.v rfl .nil) .nil) rfl rfl (fun v3_1=>(aHN ?_)))
  refine go 4 [0] ?_
  refine aF [0,1,5] [0] [0] (fun (p:Int × List Int × Value) s=>(w9 l.l p.1∧p.2.1++(chain l.l (ρ p.1) p.1).tail=chain l.l (ρ to_) to_∧p.2.1.length+ρ p.1≤ρ to_+1)∧s=⟨[(0,true,l.val),(1,true,.int .i64 p.1),(5,true,p.2.2)],[ShF (fun z=>[.v (encI z)]) l],[aP p.2.2 3 1 (bF encI p.2.1)]⟩) (fun p=>ρ p.1) rfl (⟨(to_,[to_],_),⟨hgo,(gO _ _ _).symm,by simp;omega⟩,rfl⟩) ?_
  rintro ⟨v,acc,out⟩ s ⟨⟨hv,hch,hlen⟩,rfl⟩
  dsimp only at hv hch hlen
  have hv1:=hv.1
  have hv2:=hv.2.1
  refine go 0 [0,0] ?_
  refine bI true rfl rfl (fun _=>ai Tryz.underlying33 tk3 rfl ((.of (ax 0 rfl))) rfl (bN (i:=v) (by omega) (by omega)) (by omega) rfl) (fun h=>absurd h (by decide)) (fun ⟨b4_2,o4_2⟩=>(go 2 [2,0,0] ?_))
  refine aa _ rfl (fun h2 => ?_) (fun h2 => ?_)
  ·skip
   have hne:elt l.l v≠v:=by simpa using h2
   have hst:=hT.step v hv hne
   have hcs:=tA hT hv hne
   refine go 0 [0,0] ?_
   refine bI true rfl rfl (fun _=>ai Tryz.underlying33 tk3 rfl ((.of (ax 1 rfl))) rfl (bN (i:=v) (by omega) (by omega)) (by omega) rfl) (fun h=>absurd h (by decide)) (fun ⟨b5_2,o5_2⟩=>(go 0 [2,0,0,0] ?_))
   refine LT rfl (WL (zs:=[.int .i64 0]) el33 rfl rfl rfl (.more rfl (.v rfl .nil) .nil) rfl rfl (fun v6_2=>(aHN ?_)))
   refine aT rfl (bH 0 el33 rfl rfl rfl rfl (cP 1 el33 rfl (by simp)) (by first | assumption | simp) (by simp [cE];omega) _ rfl (fun v6_3 c6_3 => ?_))
   refine aHK ?_
   refine go 2 [0] ?_
   refine an ?_
   refine ⟨[0,1,5],[0],[0],rfl,?_⟩
   refine ⟨(elt l.l v,acc++[elt l.l v],.slice v6_3 ((bF encI acc).length+1) c6_3),⟨⟨hst.1,?_,by simp;omega⟩,?_⟩,hst.2⟩
   · rw [← hch,hcs,List.append_assoc]
     exact congrArg _ (gO _ _ _).symm
   · show _=(⟨_,_,[aP _ _ 1 (bF encI (acc++[elt l.l v]))]⟩:Sta)
     rw [show bF encI (acc++[elt l.l v])=bF encI acc++[[.v (encI (elt l.l v))]] by simp [bF]]
     rfl
  ·skip
   have heq:elt l.l v=v:=by simpa using h2
   rw [wh _ heq,List.tail_cons,List.append_nil] at hch
   subst hch
   refine go 0 [0] ?_
   refine LF rfl (EC [] [0] rfl (qS _) ?_)
   rintro r7 _ _ ⟨rfl,rfl⟩
   refine aST ?_
   refine go 2 [0,0] ?_
   have hcn:(chain l.l (ρ to_) to_).reverse≠[]:=fun h0=>by
     rw [List.reverse_eq_nil_iff,gO] at h0
     cases h0
   refine dW 0 rfl (fun h0=>hcn (List.map_eq_nil_iff.1 h0)) (fun B kc hv => ?_)
   rw [cE] at hv
   refine iT 0 rfl (ae ?_)
   refine bB [2] [] rfl Tryz.results132 rfl ?_ (.inr rfl)
   have e:fE l.l ρ to_=(chain l.l (ρ to_) to_).reverse:=if_neg (by simpa using h1)
   exact ⟨rfl,some ⟨B,0,none⟩,kc,⟨fun h=>(by cases h),fun h=>absurd (e ▸ h) hcn⟩,by rw [e];exact hv,by rw [e,← hv];rfl⟩
end Go.Proofs.YtgkbbdgklpabpaaGreatDoor

