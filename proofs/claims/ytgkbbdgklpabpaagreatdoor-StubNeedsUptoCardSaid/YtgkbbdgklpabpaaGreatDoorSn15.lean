/- Parts of the proof, in build order. No condition. -/
import Derived.Test.YtgkbbdgklpabpaaGreatDoorSn14
import Derived.Test.YtgkbbdgklpabpaaGreatDoorSn13
import Derived.Test.YtgkbbdgklpabpaaGreatDoorSn06
import Derived.Test.YtgkbbdgklpabpaaGreatDoorSn11
import Derived.Test.YtgkbbdgklpabpaaGreatDoorSn07
import Derived.Test.YtgkbbdgklpabpaaGreatDoorSn05
import Derived.Test.YtgkbbdgklpabpaaGreatDoorSn09
import Derived.Shelf.Slices.Clone
import Derived.Shelf.Slices.Reverse
import Derived.Shelf.Slices.In.SortNone
import Derived.Test.YtgkbbdgklpabpaaGreatDoorSn12
set_option linter.unusedSimpArgs false
set_option linter.unusedVariables false
set_option maxHeartbeats 1000000
set_option maxRecDepth 20000
namespace Go.Lv
open Go.Sy
section
variable {N:Nat} {nx:List (List Int)} {r:Int} {s:TS}
theorem TJ.last(h:TI N nx r s)(j:TJ nx s){cs:List (Int × Int)}{v i:Int}(hc:s.calls=cs++[(v,i)]):∀ c∈nodes s,elt s.idx c≤elt s.idx v:=fun c hcm=>by
 have hn:nodes s=cs.map (·.1)++[v]:=by simp [nodes,hc]
 have hasc:(nodes s).Pairwise fun a b=>elt s.idx a<elt s.idx b:=j.asc.sublist h.sub
 rw [hn] at hcm
 rw [hn,List.pairwise_append] at hasc
 rcases List.mem_append.1 hcm with h1 | h1
 · exact Int.le_of_lt (hasc.2.2 c h1 v (by simp))
 · rw [List.mem_singleton.1 h1];exact Int.le_refl _
theorem TJ.rEnter(h:TI N nx r s)(j:TJ nx s)(hnr:∀ v w,w∈elt nx v→0≤w∧w<N){cs:List (Int × Int)}{v i w:Int}(hc:s.calls=cs++[(v,i)])(hi:0≤i)(ha:(elt nx v)[i.toNat]? = some w)(hw:0≤w∧w<N)(h0:elt s.idx w=0) :
   TJ nx (cj { s with calls:=cs++[(v,i+1)] } w):=by
 have hvn:v∈nodes s:=by simp [nodes,hc]
 have hvs:=h.sub' hvn
 have hvi:=(h.stk v).1 hvs
 have hne:s.calls≠[]:=by rw [hc];simp
 have j1:=j.enter h hnr hw h0 (.inr ⟨v,hvn,j.last h hc,List.mem_of_getElem? ha⟩)
 have h1:=h.enter hw h0 (.inl hne)
 have hwv:w≠v:=fun e=>hvi.2.1 (e ▸ h0)
 have hli:=h.li
 have hll:=h.ll
 have hc0:=h.cnt0
 have e1:elt (cj s w).idx w=s.cnt+1:=by
   show elt (s.idx.set _ _) w=_
   rw [dk hw.1 (by omega) hw.1,if_pos rfl]
 have e2:elt (cj s w).low v=elt s.low v:=by
   show elt (s.low.set _ _) v=_
   rw [dk hw.1 (by omega) hvi.1.1,if_neg hwv]
 have j2:=j1.adv h1 (cs:=cs) (ds:=[(w,0)]) (v:=v) (i:=i) (w:=w) (by show s.calls++[(w,0)]=_;rw [hc];simp) hi ha (by rw [e1];omega) (fun _=>by
   rw [e1,e2]
   have:=(j.lr v hvs).1
   have:=(h.ile v hvi.1.1 hvi.1.2).2
   omega)
 have e3:cs++(v,i+1)::[(w,0)]=(cs++[(v,i+1)])++[(w,0)]:=by simp
 rw [e3] at j2
 exact j2
theorem TJ.rBack(h:TI N nx r s)(j:TJ nx s){cs:List (Int × Int)}{v i w:Int}(hc:s.calls=cs++[(v,i)])(hi:0≤i)(ha:(elt nx v)[i.toNat]? = some w)(hws:w∈s.stk) :
   TJ nx { s with calls:=cs++[(v,i+1)],low:=s.low.set v.toNat (min (elt s.low v) (elt s.idx w)) } := by
 have hvn:v∈nodes s:=by simp [nodes,hc]
 have hvs:=h.sub' hvn
 have hvi:=(h.stk v).1 hvs
 have hll:=h.ll
 have j1:=j.lower h hvs hws (Rc.one (List.mem_of_getElem? ha)) rfl
 have h1:=h.lower hvs (h.low' w hws).2
 exact j1.adv h1 (cs:=cs) (ds:=[]) hc hi ha ((h.stk w).1 hws).2.1 (fun _=>by
   show elt (s.low.set _ _) v≤elt s.idx w
   rw [dk hvi.1.1 (by omega) hvi.1.1,if_pos rfl];omega)
theorem TJ.rSkip(h:TI N nx r s)(j:TJ nx s){cs:List (Int × Int)}{v i w:Int}(hc:s.calls=cs++[(v,i)])(hi:0≤i)(ha:(elt nx v)[i.toNat]? = some w)(hw:elt s.idx w≠0)(hp:elt s.part w≠0) :
   TJ nx { s with calls:=cs++[(v,i+1)] } := j.adv h (cs:=cs) (ds:=[]) hc hi ha hw fun h=>absurd h hp
theorem TJ.rUp(h:TI N nx r s)(j:TJ nx s){cs ds:List (Int × Int)}{v i u k:Int}(hc:s.calls=cs++[(v,i)])(hd:cs=ds++[(u,k)]){l:List Int}(hl:l=s.low.set u.toNat (min (elt s.low u) (elt s.low v))) :
   TI N nx r { s with low:=l } ∧ TJ nx { s with low:=l } ∧ elt l v=elt s.low v∧∀ c∈cs.map (·.1),(∀ c'∈cs.map (·.1),elt s.idx c'≤elt s.idx c)→elt l c≤elt l v:=by
 subst hl
 have hvn:v∈nodes s:=by simp [nodes,hc]
 have hun:u∈nodes s:=by simp [nodes,hc,hd]
 have hvs:=h.sub' hvn
 have hus:=h.sub' hun
 have hvi:=(h.stk v).1 hvs
 have hui:=(h.stk u).1 hus
 have hll:=h.ll
 have hn:nodes s=cs.map (·.1)++[v]:=by simp [nodes,hc]
 have hasc:(nodes s).Pairwise fun a b=>elt s.idx a<elt s.idx b:=j.asc.sublist h.sub
 rw [hn,List.pairwise_append] at hasc
 have huc:u∈cs.map (·.1):=by rw [hd];simp
 have hlt:=hasc.2.2 u huc v (by simp)
 have huv:u≠v:=fun e=>by rw [e] at hlt;omega
 obtain ⟨x,hx,hrx,hz⟩:=(j.lr v hvs).2
 have hr:Rc nx u v:=j.ch u hun v hvn (Int.le_of_lt hlt)
 have e1:elt (s.low.set u.toNat (min (elt s.low u) (elt s.low v))) v=elt s.low v:=by rw [dk hui.1.1 (by omega) hvi.1.1,if_neg huv]
 refine ⟨h.lower hus (h.low' v hvs).1,j.lower h hus hx (hr.trans hrx) hz,e1,fun c hcm hmx => ?_⟩
 have hcu:c=u:=by
   have h1:=hasc.1
   rw [hd,List.map_append,List.pairwise_append] at h1
   rw [hd,List.map_append] at hcm
   rcases List.mem_append.1 hcm with h2 | h2
   · have:=h1.2.2 c h2 u (by simp)
     have:=hmx u huc
     omega
   · simpa using h2
 rw [e1,hcu,dk hui.1.1 (by omega) hui.1.1,if_pos rfl]
 omega
end
def PC(N:Nat)(part:List Int)(ps:List (List Int)):Prop:=∀ v:Int,0≤v→v<N→elt part v≠0→∃ (k:Nat) (p:List Int),ps[k]? = some p∧v∈p∧elt part v=(k:Int)+1
theorem PC.nil{N:Nat}{part:List Int}(h:∀ v:Int,0≤v→elt part v=0):PC N part []:=fun v h0 _ hv=>absurd (h v h0) hv
theorem PC.close{N:Nat}{nx:List (List Int)}{r:Int}{s:TS}(h:TI N nx r s){ps:List (List Int)}(hP:PC N s.part ps)(hn:s.np=ps.length){A B p:List Int}{v:Int}(hs:s.stk=A++v::B)(hp:p.Perm (v::B)):PC N (cf s.part ((s.np:Int)+1) p) (ps++[p]):=fun x h0 h1 hx=>by
 have hst:∀ x∈p,(0≤x∧x<(N:Int))∧elt s.part x=0:=fun x hx=>by
   have:=(h.stk x).1 (by rw [hs];exact List.mem_append_right _ (hp.mem_iff.1 hx))
   exact ⟨this.1,this.2.2⟩
 have hlp:=h.lp
 rw [gI p s.part (fun w hw=>by rw [hlp];exact (hst w hw).1) x h0] at hx ⊢
 by_cases hm:x∈p
 · rw [if_pos hm]
   exact ⟨ps.length,p,by simp,hm,by rw [hn]⟩
 · rw [if_neg hm] at hx ⊢
   obtain ⟨k,q,h2,h3,h4⟩:=hP x h0 h1 hx
   exact ⟨k,q,by rw [List.getElem?_append_left (List.getElem?_eq_some_iff.1 h2).1];exact h2,h3,h4⟩
theorem oo(f:Nat→Nat):∀ l:List Nat,((l.filter fun x=>decide (f x≠0)).map f).sum=(l.map f).sum
 | []=>rfl
 | a::l=>by
   rw [List.filter_cons,List.map_cons,List.sum_cons,← oo f l]
   by_cases h:f a=0
   · rw [if_neg (by simp [h]),h];omega
   · rw [if_pos (by simp [h]),List.map_cons,List.sum_cons]
theorem KI.all{M:Nat}{us:List (List Int)}{w D:List Int}(h:KI M us w D [] [])(hlt:∀ q:Nat,∀ p∈elt us (q:Int),1≤q∧(q:Int)<p):∀ p:Int,1≤p→p≤M→p∈D:=by
 have key:∀ n:Nat,∀ p:Int,p.toNat≤n→1≤p→p≤M→p∈D:=by
   intro n
   induction n with
   | zero=>intro p h1 h2;omega
   | succ n ih =>
     intro p hpn h1 h2
     refine Classical.byContradiction fun hno => ?_
     have hz:=h.zr p h1 h2
     rw [List.append_nil] at hz
     have hw:=h.wt p h1 h2
     have hne:elt w p≠0:=fun e=>hno (hz.2 e)
     have hn:D.Nodup:=by have:=h.nd;rwa [List.append_nil] at this
     have hrg:∀ q∈D,1≤q∧q≤M:=fun q hq=>h.rg q (by simpa using hq)
     have hle:ot us p≤dnU us D p:=by
       have e:dnU us D p=((D.map Int.toNat).map fun q:Nat=>(elt us (q:Int)).count p).sum:=by
         unfold dnU
         rw [List.map_map]
         refine congrArg List.sum (List.map_congr_left fun q hq => ?_)
         show _=(elt us ((q.toNat:Nat):Int)).count p
         rw [Int.toNat_of_nonneg (by have:=hrg q hq;omega)]
       rw [e]
       unfold ot
       rw [← oo]
       refine cT _ _ _ (List.nodup_range.filter _) fun q hq => ?_
       obtain ⟨_,h4⟩:=List.mem_filter.1 hq
       have h4:(elt us (q:Int)).count p≠0:=by simpa using h4
       have h5:p∈elt us (q:Int):=List.count_pos_iff.1 (by omega)
       have h6:=hlt q p h5
       exact List.mem_map.2 ⟨(q:Int),ih q (by omega) (by omega) (by omega),by simp⟩
     have h7:List.count p ([]:List Int)=0:=rfl
     have h8:=pz (us:=us) (D:=D) (p:=p) hn (fun x hx=>by have:=hrg x hx;have:=h.lu;omega)
     rw [h7] at hw
     omega
 exact fun p h1 h2=>key p.toNat p (Nat.le_refl _) h1 h2
def UpL(us:List (List Int)):Prop:=∀ q:Nat,∀ p∈elt us (q:Int),1≤q∧(q:Int)<p
theorem UpL.start(M:Nat):UpL (List.replicate (M+1) []):=fun q p hp=>by
 unfold elt at hp
 rw [List.getD_eq_getElem?_getD,List.getElem?_replicate] at hp
 split at hp<;>cases hp
theorem UpL.step{us:List (List Int)}(h:UpL us){q:Nat}{p:Int}(hq:q<us.length)(h1:1≤q)(hlt:(q:Int)<p):UpL (us.set q (elt us (q:Int)++[p])):=fun k x hx=>by
 have e:=rM (l:=us) (q:=(q:Int)) (y:=elt us (q:Int)++[p]) (by omega) (by omega) (x:=(k:Int)) (by omega)
 rw [Int.toNat_natCast] at e
 rw [e] at hx
 split at hx
 · rename_i e2
   rcases List.mem_append.1 hx with h2 | h2
   · have:=h q x h2;omega
   · rw [List.mem_singleton.1 h2];omega
 · exact h k x hx
theorem Rc.last{nx:List (List Int)}{u v:Int}(h:Rc nx u v):u=v∨∃ z,Rc nx u z∧v∈elt nx z:=by
 induction h with
 | refl=>exact .inl rfl
 | step h _ ih =>
   rcases ih with rfl | ⟨z,h1,h2⟩
   · exact .inr ⟨_,.refl _,h⟩
   · exact .inr ⟨z,.step h h1,h2⟩
def OnC(nx:List (List Int))(v:Int):Prop:=∃ w∈elt nx v,Rc nx w v
theorem OnC.of_two{nx:List (List Int)}{x y:Int}(h:Rc nx x y)(k:Rc nx y x)(hne:x≠y):OnC nx x:=by
 cases h with
 | refl=>exact absurd rfl hne
 | step h1 h2=>exact ⟨_,h1,h2.trans k⟩
theorem OnC.back{nx:List (List Int)}{v:Int}(h:OnC nx v):∃ z,Rc nx v z∧v∈elt nx z:=by
 obtain ⟨w,h1,h2⟩:=h
 rcases h2.last with rfl | ⟨z,h3,h4⟩
 · exact ⟨_,.refl _,h1⟩
 · exact ⟨z,.step h1 h3,h4⟩
structure PX (N:Nat) (nx:List (List Int)) (ps:List (List Int)):Prop where
 sc:∀ p∈ps,∀ x∈p,∀ y∈p,Rc nx x y
 cy:∀ v w:Int,0≤v→v<N→0≤w→w<N→Rc nx v w→Rc nx w v→∃ p∈ps,v∈p∧w∈p
theorem PX.mono{N:Nat}{nx ps qs:List (List Int)}(h:PX N nx ps)(h1:∀ p∈qs,p∈ps)(h2:∀ p∈ps,p∈qs):PX N nx qs :=
 ⟨fun p hp=>h.sc p (h1 p hp),fun v w a b c d e f=>let ⟨p,hp,q⟩:=h.cy v w a b c d e f; ⟨p,h2 p hp,q⟩⟩
theorem TJ.down{nx:List (List Int)}{s:TS}(j:TJ nx s)(hnr:∀ v w,w∈elt nx v→0≤w){v w:Int}(h:Rc nx v w):0≤v→elt s.part v≠0→elt s.part w≠0∧elt s.part w≤elt s.part v:=by
 induction h with
 | refl=>exact fun _ h=>⟨h,Int.le_refl _⟩
 | step h _ ih =>
   intro h0 hp
   have h1:=j.cl _ h0 hp _ h
   have h2:=ih (hnr _ _ h) h1.1
   exact ⟨h2.1,Int.le_trans h2.2 h1.2⟩
theorem TJ.px{N:Nat}{nx:List (List Int)}{s:TS}(j:TJ nx s)(hnr:∀ v w,w∈elt nx v→0≤w∧w<N){ps:List (List Int)}(hP:PL N s.part ps)(hC:PC N s.part ps)(hall:∀ v:Int,0≤v→v<N→elt s.part v≠0):PX N nx ps:=by
 refine ⟨fun p hp x hx y hy => ?_,fun v w v0 v1 w0 w1 h k => ?_⟩
 · obtain ⟨k,hk⟩:=List.mem_iff_getElem?.1 hp
   have h1:=hP.of k p hk x hx
   have h2:=hP.of k p hk y hy
   exact j.sc x y h1.1.1 h2.1.1 (hall x h1.1.1 h1.1.2) (by rw [h1.2,h2.2])
 · have h1:=j.down (fun a b h=>(hnr a b h).1) h v0 (hall v v0 v1)
   have h2:=j.down (fun a b h=>(hnr a b h).1) k w0 (hall w w0 w1)
   obtain ⟨k1,p1,a1,b1,c1⟩:=hC v v0 v1 (hall v v0 v1)
   obtain ⟨k2,p2,a2,b2,c2⟩:=hC w w0 w1 (hall w w0 w1)
   have e:k1=k2:=by have:=h1.2;have:=h2.2;omega
   subst e
   rw [a1] at a2
   exact ⟨p1,List.mem_of_getElem? a1,b1,by rw [Option.some.inj a2];exact b2⟩
end Go.Lv

namespace Go.Proofs.YtgkbbdgklpabpaaGreatDoor
open Go.RowKit Go.Lp Go.Sy Go.Lv
def la(vs:List aR)(s:ByteArray):Option Nat:=vs.findIdx? fun d=>decide (d.name=s)
abbrev gX(vs:List aR):ByteArray→Option Int:=fun s=>(la vs s).map fun i:Nat=>(i:Int)
theorem pX(l:List aR)(d:aR)(s:ByteArray):la (l++[d]) s=(la l s).or (if d.name=s then some l.length else none):=by
 unfold la
 rw [List.findIdx?_append]
 congr 1
 by_cases h:d.name=s<;>simp [h,List.findIdx?_cons]
theorem pY(l:List aR)(s:ByteArray):(la l s).isSome=true↔s∈l.map (·.name):=by
 unfold la
 rw [List.findIdx?_isSome,List.any_eq_true,List.mem_map]
 simp
theorem aaz{l:List aR}{s:ByteArray}{i:Nat}(h:la l s=some i):i<l.length:=(List.findIdx?_eq_some_iff_getElem.1 h).1
theorem p4(l:List aR)(s:ByteArray):(gX l s).isSome=true↔s∈l.map (·.name):=by
 rw [← pY];simp [gX]
theorem jW{γ:Type}[DecidableEq γ]:∀ l:List γ,∃ ks:List γ,ks.Nodup∧(∀ a,a∈l↔a∈ks)∧(ks.length=l.length→l.Nodup)
 | []=>⟨[],List.nodup_nil,fun _=>Iff.rfl,fun _=>List.nodup_nil⟩
 | a :: l=>by
   obtain ⟨ks,h1,h2,h3⟩:=jW l
   have hle:ks.length≤l.length:=dD ks l h1 fun x hx=>(h2 x).2 hx
   by_cases ha:a∈ks
   · refine ⟨ks,h1,fun x => ?_,fun h => ?_⟩
     · rw [List.mem_cons,h2]
       exact ⟨fun h=>h.elim (fun e=>e ▸ ha) id,.inr⟩
     · rw [List.length_cons] at h;omega
   · refine ⟨a::ks,List.nodup_cons.2 ⟨ha,h1⟩,fun x => ?_,fun h => ?_⟩
     · rw [List.mem_cons,List.mem_cons,h2]
     · rw [List.length_cons,List.length_cons] at h
       exact List.nodup_cons.2 ⟨fun k=>ha ((h2 a).1 k),h3 (by omega)⟩
theorem pZ(l:List aR):nt (gX l)=l.length↔(l.map (·.name)).Nodup:=by
 obtain ⟨ks,h1,h2,h3⟩:=jW (l.map (·.name))
 rw [rY h1 fun a=>(p4 l a).trans (h2 a)]
 constructor
 · intro h;exact h3 (by rw [List.length_map];exact h)
 · intro h
   have:=dD _ _ h fun x hx=>(h2 x).1 hx
   have h4:=dD _ _ h1 fun x hx=>(h2 x).2 hx
   rw [List.length_map] at this h4;omega
def iu(s:ByteArray):Bool:=(nj s).all (fun u=>decide (33≤u.toNat) && decide (u.toNat≤126)) && (decide (1≤s.size) && decide (s.size≤64))
def ri(l:List aR)(k:Nat)(p:ByteArray):ck:=⟨(k:Int),(((la l p).getD 0:Nat):Int)⟩
def ko(l:List aR)(k:Nat):List ck:=((List.range k).map fun i:Nat=>((l[i]?.map fun d=>d.parents.l).getD []).map (ri l i)).flatten
theorem rj{l:List aR}{k:Nat}{d:aR}(h:l[k]? = some d):ko l (k+1)=ko l k++d.parents.l.map (ri l k):=by
 unfold ko
 rw [List.range_succ,List.map_append,List.flatten_append]
 simp [h]
structure acb (l:List aR):Prop where
 len:l.length≤4096
 nd:(l.map (·.name)).Nodup
 nm:∀ d∈l,iu d.name=true
 pk:∀ d∈l,d.parents.l.Nodup∧∀ x∈d.parents.l,x∈l.map (·.name)
 ac:∀ v:Int,0≤v→v<l.length→¬ OnC (cm l.length (ko l l.length)) v
theorem wB{l:List ByteArray}(h:l.Nodup){m:Nat}{p:ByteArray}(hp:l[m]? = some p):p ∉ l.take m:=fun hm=>by
 obtain ⟨i,hi⟩:=List.mem_iff_getElem?.1 hm
 rw [List.getElem?_take] at hi
 split at hi
 · rename_i hlt
   obtain ⟨h1,e1⟩:=List.getElem?_eq_some_iff.1 hi
   obtain ⟨h2,e2⟩:=List.getElem?_eq_some_iff.1 hp
   exact List.pairwise_iff_getElem.1 h i m h1 h2 hlt (e1.trans e2.symm)
 · cases hi
structure VI (l:List aR) (k:Nat) (gs:List ck):Prop where
 le:k≤l.length
 ok:∀ a∈gs,fN l.length a
 ln:gs.length≤l.length*k
 nm:∀ d∈l.take k,iu d.name=true
 ar:gs=ko l k
 pk:∀ d∈l.take k,d.parents.l.Nodup∧∀ x∈d.parents.l,x∈l.map (·.name)
structure VJ (l:List aR) (k:Nat) (d:aR) (m:Nat) (gs:List ck):Prop where
 le:k<l.length
 ml:m≤d.parents.l.length
 ok:∀ a∈gs,fN l.length a
 ln:gs.length≤l.length*k+m
 nm:∀ d∈l.take k,iu d.name=true
 ar:gs=ko l k++(d.parents.l.take m).map (ri l k)
 pk:∀ d∈l.take k,d.parents.l.Nodup∧∀ x∈d.parents.l,x∈l.map (·.name)
 nd:(d.parents.l.take m).Nodup
 kn:∀ x∈d.parents.l.take m,x∈l.map (·.name)
section
variable {l:List aR} {k m:Nat} {d:aR} {gs:List ck} {p:ByteArray}
theorem VI.start(l:List aR):VI l 0 []:=⟨Nat.zero_le _,fun a h=>(by cases h),Nat.zero_le _,fun d h=>(by cases h),rfl,fun d h=>(by cases h)⟩
theorem VI.into(h:VI l k gs)(hd:l[k]? = some d):VJ l k d 0 gs:=⟨(List.getElem?_eq_some_iff.1 hd).1,Nat.zero_le _,h.ok,h.ln,h.nm,by rw [h.ar];simp,h.pk,List.nodup_nil,fun x hx=>(by cases hx)⟩
theorem VJ.short(h:VJ l k d m gs):m≤l.length:=by
 have:=dD _ _ h.nd h.kn
 rw [List.length_take,List.length_map] at this
 have:=h.ml;omega
theorem VJ.step(h:VJ l k d m gs)(hd:l[k]? = some d)(hp:d.parents.l[m]? = some p){i:Nat}(hi:la l p=some i)(hs:p ∉ d.parents.l.take m):VJ l k d (m+1) (gs++[⟨k,i⟩]):=by
 have hm:=(List.getElem?_eq_some_iff.1 hp).1
 have hlt:=aaz hi
 have hle:=h.le
 refine ⟨h.le,hm,fun a ha => ?_,?_,h.nm,?_,h.pk,?_,fun x hx => ?_⟩
 · rcases List.mem_append.1 ha with h1 | h1
   · exact h.ok a h1
   · rw [List.mem_singleton.1 h1];exact ⟨⟨Int.natCast_nonneg _,Int.ofNat_lt.2 hle⟩,Int.natCast_nonneg _,Int.ofNat_lt.2 hlt⟩
 · rw [List.length_append,List.length_singleton];have:=h.ln;omega
 · have e:ri l k p=⟨(k:Int),(i:Int)⟩:=by unfold ri;rw [hi];rfl
   rw [List.take_add_one,hp,Option.toList_some,List.map_append,List.map_singleton,e,← List.append_assoc,← h.ar]
 · rw [List.take_add_one,hp,Option.toList_some,List.nodup_append]
   exact ⟨h.nd,by simp,fun x hx y hy e=>hs (by rw [List.mem_singleton.1 hy] at e;exact e ▸ hx)⟩
 · rw [List.take_add_one,hp,Option.toList_some] at hx
   rcases List.mem_append.1 hx with h1 | h1
   · exact h.kn x h1
   · rw [List.mem_singleton.1 h1,← pY,hi];rfl
theorem VJ.done(h:VJ l k d m gs)(hd:l[k]? = some d)(hn:iu d.name=true)(hml:d.parents.l.length≤m):VI l (k+1) gs:=by
 have ht:=List.take_of_length_le hml
 have:=h.short
 refine ⟨h.le,h.ok,?_,fun x hx => ?_,?_,fun x hx => ?_⟩
 · rw [Nat.mul_add,Nat.mul_one];have:=h.ln;omega
 · rw [List.take_add_one,hd,Option.toList_some] at hx
   rcases List.mem_append.1 hx with h1 | h1
   · exact h.nm x h1
   · rw [List.mem_singleton.1 h1];exact hn
 · rw [rj hd,h.ar,ht]
 · rw [List.take_add_one,hd,Option.toList_some] at hx
   rcases List.mem_append.1 hx with h1 | h1
   · exact h.pk x h1
   · rw [List.mem_singleton.1 h1]
     have h2:=h.nd
     have h3:=h.kn
     rw [ht] at h2 h3
     exact ⟨h2,h3⟩
end
end Go.Proofs.YtgkbbdgklpabpaaGreatDoor

namespace Go.Proofs.YtgkbbdgklpabpaaGreatDoor
open Go.RowKit Go.Lp Go.Sy
open Go.Proofs.Tryz
attribute [local irreducible] aL aB awp aC fwp Quiet
theorem sZ(l:Sl Int)(hl:l.l.length≤1000000):Con Tryz.prog 202 [l.val] [ShF bd l] [] fun r ps hp=>ps=[]∧∃ (ad:Option Addr) (c:Nat),r=.slice ad l.l.length c∧hp=[aK (.slice ad l.l.length c) 3 1 (l.l.map bd)]:=by
 refine EN1 Tryz.func202 rfl ?_
 refine gh (φ:=l.ad=none→l.l=[]) (fun w S fp hst => ?_) (fun hnil => ?_)
 · intro hn
   have hrep:dJ w S (.slice l.ad l.l.length l.cap) (.sl (l.l.map bd)):=hst.per _ (ax 0 rfl)
   rw [hn] at hrep
   generalize hrw:l.l.map bd=rows at hrep
   generalize l.l.length=m at hrep
   cases hrep with
   | e=>exact List.map_eq_nil_iff.1 hrw
 refine go 0 [0,0] ?_
 refine aU rfl (qN Tryz.underlying33 rfl) (aNn ?_)
 refine aa _ rfl (fun h1 => ?_) (fun h1 => ?_)
 ·skip
  have hl0:l.l=[]:=hnil (by simpa using h1)
  refine aD (dw 3 1 ?_)
  show awp _ _ _ _ ⟨_,_,[_]⟩
  refine go 2 [0] ?_
  refine ae (an (FZ1 [0] Tryz.results202 rfl ?_))
  exact ⟨rfl,none,0,by rw [hl0];rfl,by rw [hl0];rfl⟩
 ·skip
  refine aE (ao (aSR (LT rfl (ux el33 rfl (fun v3_0=>(aHN ?_))))))
  refine aM rfl ?_
  refine aN rfl (iZ 0 el33 el33 rfl rfl rfl rfl (ax 0 rfl) ((fun r hr=>by obtain ⟨z,_,rfl⟩:=List.mem_map.1 hr;rfl)) (by show ([]:List (List D)).length+(l.l.map bd).length≤_;rw [List.length_map];exact Nat.le_trans (show 0+l.l.length≤1000000 by omega) (by decide)) (l.l.length) (by simp;try omega) (fun v3_2 c3_2 => ?_))
  refine aHK ?_
  refine go 2 [0] ?_
  refine ae (FZ1 [0] Tryz.results202 rfl ?_)
  exact ⟨rfl,v3_2,c3_2,rfl,rfl⟩
end Go.Proofs.YtgkbbdgklpabpaaGreatDoor

namespace Go.Proofs.YtgkbbdgklpabpaaGreatDoor
open Go.RowKit Go.Lp Go.Sy Go.Sort Go.Shelf
open Go.Proofs.Tryz
theorem kK{v:Value}{T:TypeId}(zs:List Int)(hz:zs.length<4611686018427387904):Con Tryz.prog 203 [v] [] [aK v T 1 (bD encI zs)] fun _ ps' hp'=>ps'=[]∧hp'=[aK v T 1 (bD encI (eo zs))]:=by
 have hlen:(eo zs).length=zs.length:=List.length_mergeSort _
 refine jl (zs1:=eo zs) (rest:=[]) (fun _=>rfl) (by simp [hlen]) (fun hv hz w => ?_) (fun b cap w hv hb hc hm hH => ?_)
 · subst hv;subst hz
   refine (Any.slices_Sort_int_none Tryz.lays189 none 0 w).mono fun e w' ⟨he,hw⟩=>⟨_,he,hw,rfl,?_⟩
   rw [show eo []=[] by simp [eo]]
 · refine (Any.slices_Sort_int Tryz.lays189 b 0 cap zs w hH hb hz).mono fun e w' ⟨he,n,os,hw⟩=>⟨⟨_,he,rfl,by rw [hlen,hv]⟩,n,os,by rw [List.append_nil];exact hw⟩
theorem jK{v:Value}{T:TypeId}(zs:List Int):Con Tryz.prog 204 [v] [] [aK v T 1 (bD encI zs)] fun r ps' hp'=>ps'=[]∧∃ ad c,r=.slice ad (Lib.compact zs).length c∧hp'=[aK r T 1 (bD encI (Lib.compact zs))]:=by
 have hle:(Lib.compact zs).length≤zs.length:=by
   unfold Lib.compact Lib.compactUpTo
   rw [List.length_map]
   exact Nat.le_trans (List.length_filter_le _ _) (by simp)
 refine jl (zs1:=Lib.compact zs) (rest:=List.replicate (zs.length-(Lib.compact zs).length) 0) (fun _=>rfl) (by simp;omega) (fun hv hz w => ?_) (fun b cap w hv hb hc hm hH => ?_)
 · subst hv;subst hz
   refine (Any.slices_Compact_int_empty Tryz.lays20 none 0 w).mono fun e w' ⟨he,hw⟩=>⟨_,he,hw,rfl,none,0,rfl,rfl⟩
 · refine (Any.slices_Compact_int Tryz.lays20 b 0 cap zs w hH (by unfold maxLen at hm;omega) hc).mono fun e w' ⟨he,n,hw⟩=>⟨⟨_,he,rfl,_,_,rfl,rfl⟩,n,#[],?_⟩
   rw [Sort.grow_empty];exact hw
theorem qw{v:Value}{T:TypeId}(zs:List Int):Con Tryz.prog 205 [v] [] [aK v T 1 (bD encI zs)] fun _ ps' hp'=>ps'=[]∧hp'=[aK v T 1 (bD encI zs.reverse)]:=by
 refine jl (zs1:=zs.reverse) (rest:=[]) (fun _=>rfl) (by simp) (fun hv hz w => ?_) (fun b cap w hv hb hc hm hH => ?_)
 · subst hv;subst hz
   exact (Any.slices_Reverse_int_empty Tryz.lays112 none 0 w).mono fun e w' ⟨he,hw⟩=>⟨_,he,hw,rfl,rfl⟩
 · refine (Any.slices_Reverse_int Tryz.lays112 b 0 cap zs w hH (by unfold maxLen at hm;omega)).mono fun e w' ⟨he,n,hw⟩=>⟨⟨_,he,rfl,by rw [List.length_reverse,hv]⟩,n,#[],?_⟩
   rw [Sort.grow_empty,List.append_nil];exact hw
theorem mA{ad:Option Addr}{c:Nat}(zs:List Int)(hz:zs.length≤1000000):Con Tryz.prog 202 [.slice ad zs.length c] [Sh (.slice ad zs.length c) (.sl (bD encI zs))] [] fun r ps' hp'=>ps'=[]∧hp'=[aK r 3 1 (bD encI zs)] :=
 (sZ ⟨ad,c,zs⟩ hz).post fun _ _ _ ⟨h1,_,_,h2,h3⟩=>⟨h1,by rw [h2];exact h3⟩
end Go.Proofs.YtgkbbdgklpabpaaGreatDoor

namespace Go.Proofs.YtgkbbdgklpabpaaGreatDoor
open Go.RowKit Go.Lp Go.Sy
open Go.Proofs.Tryz
attribute [local irreducible] aL aB awp aC fwp Quiet
set_option maxHeartbeats 1000000 in
theorem rz(N:Nat)(hN:N≤1000000)(l:Sl ck)(hl:l.l.length≤100000000)(hr:∀ a∈l.l,0≤a.from_∧a.from_<N) :
   Con Tryz.prog 195 [.int .i64 N,l.val] [ShF ck.row l] [] fun r ps hp=>ps=[]∧hp=[gY r 33 3 encI (cm N l.l)]:=by
 refine EN2 Tryz.func195 rfl (go 0 [0,0] ?_)
 refine LT rfl (fe (m:=N) (zs:=[.slice none 0 0]) el201 (by kernel_rfl) rfl (by decide) (cV rfl (rfl)) (cV rfl (rfl)) (by omega) rfl (fun v1_1=>(aHN ?_)))
 refine go 4 [0] ?_
 refine lj (α:=Int) (E:=3) (enc:=encI) 0 N rfl (aP (.of (ax 0 rfl)) (fun hlen=>(go 3 [0,168,0] ?_)))
 refine aF [5,11,12,13] [0] [0] (fun (k:Nat) s=>k≤l.l.length∧∃ vo,s=⟨[(5,true,vo),(11,true,l.val),(12,true,.int .i64 l.l.length),(13,true,.int .i64 k)],[ShF ck.row l],[gY vo 33 3 encI (c7 N (l.l.take k))]⟩) (fun k=>l.l.length-k) rfl (⟨0,Nat.zero_le _,_,rfl⟩) ?_
 rintro k s ⟨hk,vo,rfl⟩
 refine go 3 [0] ?_
 refine aa _ rfl (fun h1 => ?_) (fun h1 => ?_)
 ·skip
  have hk':k<l.l.length:=by simpa using h1
  obtain ⟨a,ha⟩:∃ a,l.l[k]? = some a:=⟨l.l[k]'hk',by simp⟩
  have har:=hr a (List.mem_of_getElem? ha)
  refine aE (ao (aD (aJ (aSR (UI Tryz.underlying163 tk168 0 rfl rfl rfl rfl rfl (ak ha) rfl rfl (fun ⟨b4_0,o4_0⟩=>(go 0 [4610] ?_)))))))
  refine LT rfl (aV (zs:=[.int .i64 0,.int .i64 0]) (by kernel_rfl) rfl (fun b4_2=>(aHN ?_)))
  refine go 2 [4611] ?_
  have hkk:a.from_.toNat<(c7 N (l.l.take k)).length:=by rw [ct];omega
  obtain ⟨xr,hxr⟩:∃ xr,(c7 N (l.l.take k))[a.from_.toNat]? = some xr:=⟨(c7 N (l.l.take k))[a.from_.toNat]'hkk,by simp⟩
  have hxl:xr.length≤100000000:=by have:=pL N _ (List.mem_of_getElem? hxr);rw [List.length_take] at this;omega
  refine gE 0 a.from_.toNat rfl hxr (fun vs v hvl hv => ?_)
  rw [ct] at hvl
  have hne:cr vs≠[]:=fun h0=>by
    have:=congrArg List.length h0
    simp [cr,hvl] at this;omega
  refine dU 0 rfl hne (fun B cp hvo => ?_)
  have hvr:(cr vs).length=N:=by simp [cr,hvl]
  rw [hvr] at hvo
  subst hvo
  have hrow:(cr vs)[a.from_.toNat]? = some [.v v]:=by simp [cr,hv]
  show awp _ _ _ _ ⟨_,_,[_,_,_,_]⟩
  refine DC [11,13] [13] [b4_2] 14 (go 0 [0,0] ?_)
  refine jd 2 1 rfl (by kernel_rfl) true rfl rfl (by simp) tk3 (fun _=>rfl) rfl rfl ?_
  refine go 0 [0,0] ?_
  refine jd 5 1 rfl (by kernel_rfl) true rfl rfl (by simp) tk3 (fun _=>rfl) rfl rfl ?_
  refine CF 6 rfl rfl rfl (er a.from_.toNat el201 rfl rfl (by omega) (by omega)) (CQ 7 rfl rfl rfl (bj (v:=.slice (some ⟨B,0,none⟩) N cp) (u:=v) 0 a.from_.toNat 0 tk33 rfl rfl hrow rfl rfl) (go 0 [2] ?_))
  refine jd 9 1 rfl (by kernel_rfl) true rfl rfl (by simp) tk3 (fun _=>rfl) rfl rfl ?_
  refine dY 10 [] (by kernel_rfl) (cW ?_ dH)
  refine eN 10 rfl rfl (Eff.x (id (WL (zs:=[.int .i64 0]) el33 rfl rfl rfl (.more rfl (.v rfl .nil) .nil) rfl rfl (fun v5_10=>(CST ?_)))))
  refine dY 11 [] (by kernel_rfl) (cW ?_ dH)
  refine eN 11 rfl rfl (Eff.framed (q:=false) [2,4] rfl rfl (vg 1 rfl rfl aaD) ?_)
  refine id (bY 0 el33 rfl rfl rfl rfl (du 1 el33 rfl (by simp)) (by first | assumption | simp) (by simp [cC];omega) _ rfl (fun v5_11 c5_11 => ?_))
  refine uN (CST ?_)
  refine CF 12 rfl rfl rfl (er a.from_.toNat el201 rfl rfl (by omega) (by omega)) ?_
  refine dY 13 [] (by kernel_rfl) (cW ?_ dH)
  refine eN 13 rfl rfl (Eff.wild (q:=false) (cM 0 a.from_.toNat 0 tk33 rfl rfl rfl hrow rfl (.v rfl .nil) rfl (by decide) (CST ?_)))
  refine kj (by kernel_rfl) (cL (ao ?_))
  refine lg (hp':=[aK (.slice (some ⟨B,0,none⟩) N cp) 33 1 (cr (vs.set a.from_.toNat (.slice v5_11 (xr.length+1) c5_11))),_,aK (.slice v5_11 (xr.length+1) c5_11) 3 1 (bD encI (xr++[a.to_])),eb ((inner 3 encI vs (c7 N (l.l.take k))).set a.from_.toNat emp),_]) (by rw [iY,cC];simp [bD,jy];exact ⟨rfl,rfl⟩) ?_
  refine ff 0 2 3 a.from_.toNat rfl rfl rfl rfl rfl rfl (by rw [hvl,ct]) hkk ?_
  show awp _ _ _ _ ⟨_,_,[_,_,_,_,_]⟩
  refine go 1 [0,0] ?_
  refine ao ?_
  refine ⟨[5,11,12,13],[0],[0],rfl,?_⟩
  refine ⟨k+1,⟨by omega,.slice (some ⟨B,0,none⟩) N cp,?_⟩,by omega⟩
  rw [se _ _ ha,show eO (c7 N (l.l.take k)) a=(c7 N (l.l.take k)).set a.from_.toNat (xr++[a.to_]) by unfold eO;rw [List.getD_eq_getElem?_getD,hxr];rfl]
  rfl
 ·skip
  have hkl:k=l.l.length:=by simp at h1;omega
  rw [hkl,List.take_length]
  refine ba (bg (bg (bk (ao (aD (aD (vq 0 rfl (fun ad cp hvo => ?_))))))))
  rw [ct] at hvo
  subst hvo
  refine az (aM rfl (aU rfl (bw Tryz.underlying201 rfl) (go 3 [0] ?_)))
  refine aF [5,32,33] [] [0] (fun (j:Nat) s=>j≤N∧s=⟨[(5,true,.slice ad N cp),(32,true,.int .i64 N),(33,true,.int .i64 j)],[],[gY (.slice ad N cp) 33 3 encI (fb (c7 N l.l) j)]⟩) (fun j=>N-j) rfl (⟨0,Nat.zero_le _,by rw [show fb (c7 N l.l) 0=c7 N l.l by simp [fb]];rfl⟩) ?_
  rintro j s ⟨hj,rfl⟩
  refine go 3 [0] ?_
  refine aa _ rfl (fun h2 => ?_) (fun h2 => ?_)
  ·skip
   have hj':j<N:=by simpa using h2
   have hjj:j<(c7 N l.l).length:=by rw [ct];omega
   obtain ⟨xr,hxr⟩:∃ xr,(c7 N l.l)[j]? = some xr:=⟨(c7 N l.l)[j]'hjj,by simp⟩
   have hxl:xr.length≤100000000:=by have:=pL N _ (List.mem_of_getElem? hxr);omega
   refine go 3 [0,0] ?_
   refine gE 0 j rfl (uc hxr) (fun vs v hvl hv => ?_)
   rw [ju _ _ (by rw [ct];omega),ct] at hvl
   have hne:cr vs≠[]:=fun h0=>by
     have:=congrArg List.length h0
     simp [cr,hvl] at this;omega
   refine dU 0 rfl hne (fun B cp2 hvo => ?_)
   obtain ⟨rfl,rfl⟩:ad=some ⟨B,0,none⟩∧cp=cp2:=by simp at hvo;exact ⟨hvo.1,hvo.2.2⟩
   have hrow:(cr vs)[j]? = some [.v v]:=by simp [cr,hv]
   show awp _ _ _ _ ⟨_,_,[_,_,_]⟩
   refine go 0 [0,0] ?_
   refine aU rfl (er j el201 rfl rfl (by omega) (by omega)) (aU rfl (bj (v:=.slice (some ⟨B,0,none⟩) N cp) (u:=v) 0 j 0 tk33 rfl rfl hrow rfl rfl) (LF rfl (EC [] [1] rfl (kK _ (by omega)) ?_)))
   rintro _ _ _ ⟨rfl,rfl⟩
   refine aST ?_
   refine go 0 [0,0,0,0] ?_
   refine aU rfl (er j el201 rfl rfl (by omega) (by omega)) (aU rfl (bj (v:=.slice (some ⟨B,0,none⟩) N cp) (u:=v) 0 j 0 tk33 rfl rfl hrow rfl rfl) (LF rfl (EC [] [1] rfl (jK _) ?_)))
   rintro r11 _ _ ⟨rfl,ad2,c2,rfl,rfl⟩
   refine aST ?_
   refine aU rfl (er j el201 rfl rfl (by omega) (by omega)) (LF rfl (cM 0 j 0 tk33 rfl rfl rfl hrow rfl (.v rfl .nil) rfl (by decide) (dG (cL (ao ?_)))))
   refine lg (hp':=[aK (.slice (some ⟨B,0,none⟩) N cp) 33 1 (cr (vs.set j (.slice ad2 (Lib.compact (eo xr)).length c2))),aK (.slice ad2 (Lib.compact (eo xr)).length c2) 3 1 (bD encI (cq xr)),eb ((inner 3 encI vs (fb (c7 N l.l) j)).set j emp)]) (by rw [iY];simp [jy];rfl) ?_
   refine ff 0 1 2 j rfl rfl rfl rfl rfl rfl (by rw [hvl,ju _ _ (by rw [ct];omega),ct]) (by rw [ju _ _ (by rw [ct];omega)];exact hjj) ?_
   show awp _ _ _ _ ⟨_,_,[_,_,_]⟩
   refine go 1 [0,0] ?_
   refine ao ?_
   refine ⟨[5,32,33],[],[0],rfl,?_⟩
   refine ⟨j+1,⟨by omega,?_⟩,by omega⟩
   rw [← sf hxr];rfl
  ·skip
   have hjl:j=N:=by simp at h2;omega
   subst hjl
   have e:fb (c7 j l.l) j=cm j l.l:=by have:=ct j l.l;unfold fb cm;rw [List.take_of_length_le (by omega),List.drop_of_length_le (by omega),List.append_nil]
   rw [e]
   refine go 2 [0,0] ?_
   refine ae (FZ1 [0] Tryz.results195 rfl ?_)
   exact ⟨rfl,rfl⟩
theorem abL(N:Nat)(hN:N≤100000000)(w:World):Calls Tryz.prog 89 #[.int .u64 (IntKind.u64.wrap 1),.int .u64 (IntKind.u64.wrap (N:Int))] w fun e w'=>e=.returned (.tuple #[.int .u64 0,.int .u64 N])∧Go.Sy.Below w.heap.size w w':=by
 have h:=Any.bits_Mul Tryz.lays212 1 N (by omega) (by omega) w
 have e1:IntKind.u64.wrap 1=1:=by decide
 have e2:IntKind.u64.wrap (N:Int)=N:=by rw [IntKind.wrap_u64];omega
 rw [e1,e2]
 refine h.mono fun e w' ⟨h1,h2⟩=>⟨?_,by rw [h2];exact Go.Sy.Below.refl _ _⟩
 rw [h1]
 have e3:1*N / 18446744073709551616=0:=by omega
 have e4:1*N % 18446744073709551616=N:=by omega
 rw [e3,e4];rfl
theorem rD{ad:Option Addr}{c:Nat}(v:Int):Con Tryz.prog 54 [.slice ad 1 c,.int .i64 ((0:Nat):Int)] [Sh (.slice ad 1 c) (.sl (bD encI [v]))] [] fun r ps hp=>ps=[]∧hp=[aK r 3 1 (bD encI [])]:=by
 refine EN2 Tryz.func54 rfl (go 2 [0,0,0] ?_)
 refine aa _ rfl (fun h1 => ?_) (fun h1 => ?_)
 ·skip
  exact absurd h1 (by simp)
 ·skip
  refine go 0 [0] ?_
  refine aU rfl (bw Tryz.underlying33 rfl) (aU rfl (ej (by kernel_rfl) Tryz.underlying152 rfl) (aM rfl (aU rfl (ej (by kernel_rfl) Tryz.underlying152 rfl) (aU rfl (QC rfl (fun w S fp hst=>abL 0 (by omega) w)) (go 2 [0,0,0,0,0,0,0,0,0,0,0] ?_)))))
  refine aa _ rfl (fun h2 => ?_) (fun h2 => ?_)
  ·skip
   exact absurd h2 (by decide)
  ·skip
   refine go 0 [0] ?_
   refine aU rfl (ej (by kernel_rfl) Tryz.underlying3 rfl) (LT rfl (fe (m:=0) (zs:=[.int .i64 0]) el33 (by kernel_rfl) rfl (by decide) (cV rfl (rfl)) (cV rfl (rfl)) (by omega) rfl (fun v6_2=>(aHN ?_))))
   refine go 0 [0,0,0] ?_
   refine aU rfl (aah el33 rfl rfl) (go 4 [0] ?_)
   refine aF [7,8] [] [0] (fun (k:Nat) s=>s=⟨[(7,true,.slice v6_2 0 0),(8,true,.int .i64 0)],[],[aK (.slice v6_2 0 0) 3 1 (bD encI [])]⟩) (fun k=>k) rfl (⟨0,rfl⟩) ?_
   rintro k s rfl
   refine go 0 [0,0] ?_
   refine aU rfl (dP 0 Tryz.underlying33 rfl rfl) (go 2 [0] ?_)
   refine aa _ rfl (fun h3 => ?_) (fun h3 => ?_)
   ·skip
    exact absurd h3 (by decide)
   ·skip
    refine go 2 [0,0] ?_
    refine ae (FZ1 [0] Tryz.results54 rfl ?_)
    exact ⟨rfl,rfl⟩
theorem rE{ad:Option Addr}{c:Nat}(v:Int)(N:Nat)(hN:N≤100000000)(h0:0<N):Con Tryz.prog 54 [.slice ad 1 c,.int .i64 N] [Sh (.slice ad 1 c) (.sl (bD encI [v]))] [] fun r ps hp=>ps=[]∧hp=[aK r 3 1 (bD encI (List.replicate N v))]:=by
 refine EN2 Tryz.func54 rfl (go 2 [0,0,0] ?_)
 refine aa _ rfl (fun h1 => ?_) (fun h1 => ?_)
 ·skip
  exact absurd h1 (by simp)
 ·skip
  refine go 0 [0] ?_
  refine aU rfl (bw Tryz.underlying33 rfl) (aU rfl (ej (by kernel_rfl) Tryz.underlying152 rfl) (aM rfl (aU rfl (ej (by kernel_rfl) Tryz.underlying152 rfl) (aU rfl (QC rfl (fun w S fp hst=>abL N hN w)) (go 2 [0,0,0,0,0,0,0,0,0,0,0] ?_)))))
  refine aa _ rfl (fun h2 => ?_) (fun h2 => ?_)
  ·skip
   exact absurd h2 (by simp;omega)
  ·skip
   refine aE (ao (aD ?_))
   have hw:=wrapN N hN
   refine az (aM rfl (aU rfl (ej (by kernel_rfl) Tryz.underlying3 rfl) (LT rfl (fe (m:=N) (zs:=[.int .i64 0]) el33 (by kernel_rfl) rfl (by decide) (cV rfl (hw)) (cV rfl (hw)) (by omega) rfl (fun v6_2=>(aHN ?_))))))
   refine go 3 [0] ?_
   refine lg (hp':=[aK (.slice v6_2 N N) 3 1 (bD encI (List.replicate N 0))]) (by simp [bD]) ?_
   refine dU 0 rfl (by simp [bD];omega) (fun B cp hvo => ?_)
   obtain ⟨rfl,rfl⟩:v6_2=some ⟨B,0,none⟩∧N=cp:=by simp at hvo;exact ⟨hvo.1,hvo.2.2⟩
   refine go 0 [0,0] ?_
   refine LF rfl (zZ (zs:=List.replicate N 0) (xs:=[v]) 0 el33 (fun _=>rfl) rfl rfl rfl rfl (by simp) (ax 0 rfl) (by simp) (by simp;omega) (by simp;omega) (part N 1 v) (by simp [part]) rfl ?_)
   refine go 4 [0] ?_
   refine aF [7,8] [] [0] (fun (k:Nat) s=>(1≤k∧k≤N)∧s=⟨[(7,true,.slice (some ⟨B,0,none⟩) N N),(8,true,.int .i64 k)],[],[aK (.slice (some ⟨B,0,none⟩) N N) 3 1 (bD encI (part N k v))]⟩) (fun k=>N-k) rfl (⟨1,⟨by omega,by omega⟩,rfl⟩) ?_
   rintro k s ⟨⟨hk1,hk2⟩,rfl⟩
   refine go 0 [0,0] ?_
   refine aU rfl (bw Tryz.underlying33 rfl) (go 2 [0] ?_)
   refine aa _ rfl (fun h3 => ?_) (fun h3 => ?_)
   ·skip
    have hkN:k<N:=by simp at h3;omega
    obtain ⟨j,hj⟩:∃ j,j=min k (N-k):=⟨_,rfl⟩
    refine aE (ao (aJ (DR [7] 10 (go 0 [3,0,0,0] ?_))))
    refine bV 3 rfl rfl (pN k (N-k) k el33 rfl rfl rfl hkN (Nat.le_refl _) rfl (by omega)) (VM 4 rfl rfl (VM 5 rfl rfl (bV 6 rfl rfl (gq k el33 rfl rfl rfl (by omega) (Nat.le_refl _)) ?_)))
    refine VE 7 rfl rfl (zY (zs:=part N k v) 0 el33 (fun _=>rfl) rfl rfl rfl rfl (sd v hk2) j hj (by rw [sd v hk2];omega) (part N (k+j) v) (wJ v (by omega) (by omega)) ?_)
    refine bST rfl ?_
    refine go 2 [0,0] ?_
    refine ao ?_
    refine ⟨[7,8],[],[0],rfl,?_⟩
    refine ⟨k+j,⟨⟨by omega,by omega⟩,?_⟩,by omega⟩
    rw [Int.natCast_add];rfl
   ·skip
    have hkN:k=N:=by simp at h3;omega
    subst hkN
    rw [show part k k v=List.replicate k v by simp [part]]
    refine go 2 [0,0] ?_
    refine ae (FZ1 [0] Tryz.results54 rfl ?_)
    exact ⟨rfl,rfl⟩
theorem mT{ad:Option Addr}{c:Nat}(v:Int)(N:Nat)(hN:N≤100000000):Con Tryz.prog 54 [.slice ad 1 c,.int .i64 N] [Sh (.slice ad 1 c) (.sl (bD encI [v]))] [] fun r ps hp=>ps=[]∧hp=[aK r 3 1 (bD encI (List.replicate N v))]:=by
 cases N with
 | zero=>exact rD v
 | succ N=>exact rE v (N+1) hN (Nat.succ_pos _)
end Go.Proofs.YtgkbbdgklpabpaaGreatDoor

namespace Go.Proofs.YtgkbbdgklpabpaaGreatDoor
open Go.RowKit Go.Lp Go.Sy Go.Lv
open Go.Proofs.Tryz
attribute [local irreducible] aL aB awp aC fwp Quiet
set_option maxHeartbeats 4000000 in
theorem tB(N:Nat)(hN:N≤1000000)(l:Sl ck)(hl:l.l.length≤100000000)(hr:∀ a∈l.l,fN N a)(rs:Sl Int)(hrs:rs.l.length≤1000000) :
   Con Tryz.prog 131 [.int .i64 N,l.val,rs.val] [ShF ck.row l,ShF (fun z=>[.v (encI z)]) rs] [] fun r ps hp=>ps=[]∧hp=[aK r 3 1 (bD encI (gP N (cm N l.l) (cq rs.l)))]:=by
 have hro:=lF hr
 have hrl:=sH rs.l
 obtain ⟨M,hM⟩:∃ M,M=(cq rs.l).length+N:=⟨_,rfl⟩
 have hB:=iK N (cq rs.l)
 rw [← hM] at hB
 refine EN3 Tryz.func131 rfl (go 4 [0] ?_)
 refine LT rfl (WL (zs:=[.int .i64 0]) el33 rfl rfl rfl (.more rfl (.v rfl .nil) .nil) rfl rfl (fun v1_0=>(aHN ?_)))
 refine aM rfl (LF rfl (EC [] [0] rfl (Con.ofOwn (mT (-1) N (by omega))) ?_))
 rintro vb _ _ ⟨rfl,rfl⟩
 refine aST ?_
 refine go 3 [0] ?_
 refine oY 0 rfl (fun ab cb hvb => ?_)
 rw [cC,List.length_replicate] at hvb
 subst hvb
 refine az (aM rfl (LT rfl (EC [0] [] rfl (mA rs.l hrs) ?_)))
 rintro vc _ _ ⟨rfl,rfl⟩
 refine aST ?_
 refine go 0 [0,0] ?_
 refine LF rfl (EC [] [1] rfl (kK rs.l (by omega)) ?_)
 rintro _ _ _ ⟨rfl,rfl⟩
 refine aST ?_
 refine aNs (dw 3 1 ?_)
 show awp _ _ _ _ ⟨_,_,[_,_,_]⟩
 refine go 0 [0,0] ?_
 refine LF rfl (EC [] [1] rfl (jK _) ?_)
 rintro _ _ _ ⟨rfl,au,cu,rfl,rfl⟩
 refine aST ?_
 refine aU rfl (bw Tryz.underlying33 rfl) (go 3 [0] ?_)
 refine aF [0,1,7,9,24,25,26] [1] [0,1,2] (fun (p:Nat × Value) s=>p.1≤(cq rs.l).length∧s=⟨[(0,true,.int .i64 N),(1,true,l.val),(7,true,.slice ab N cb),(9,true,p.2),(24,true,.slice au (cq rs.l).length cu),(25,true,.int .i64 (cq rs.l).length),(26,true,.int .i64 p.1)],[ShF ck.row l],[aK (.slice ab N cb) 3 1 (bD encI (cP N ((cq rs.l).take p.1)).1),aK (.slice au (cq rs.l).length cu) 3 1 (bD encI (cq rs.l)),aK p.2 3 1 (bD encI (cP N ((cq rs.l).take p.1)).2)]⟩) (fun p=>(cq rs.l).length-p.1) rfl (⟨(0,.slice none 0 0),Nat.zero_le _,rfl⟩) ?_
 rintro ⟨k,vw⟩ s ⟨hk,rfl⟩
 dsimp only at hk
 refine go 3 [0] ?_
 refine aa _ rfl (fun h1 => ?_) (fun h1 => ?_)
 ·skip
  have hk':k<(cq rs.l).length:=by simp at h1;omega
  obtain ⟨v,hv⟩:∃ v,(cq rs.l)[k]? = some v:=⟨_,List.getElem?_eq_getElem hk'⟩
  have hst:=rn N _ hv
  refine aE (ao (aD (aJ (aD (dU 1 rfl (jT (by omega)) (fun Bu cpu hvu => ?_))))))
  obtain ⟨rfl,rfl⟩:au=some ⟨Bu,0,none⟩∧cu=cpu:=by simp at hvu;exact ⟨hvu.1,hvu.2.2⟩
  refine az (aU rfl (er k el33 rfl rfl rfl hk') (aU rfl (bj (v:=.slice (some ⟨Bu,0,none⟩) (cq rs.l).length cu) (u:=encI v) 1 k 0 tk3 rfl rfl (gl hv) rfl rfl) (go 2 [0,0,0,0,0,0,0,0] ?_)))
  refine aa _ rfl (fun h2 => ?_) (fun h2 => ?_)
  ·skip
   have hvn:0≤v∧v<N:=by simpa using h2
   refine aD ?_
   have hbl:=(gF N ((cq rs.l).take k)).1
   refine dU 0 rfl (jT (by rw [hbl];omega)) (fun B cp hvb => ?_)
   obtain ⟨rfl,rfl⟩:ab=some ⟨B,0,none⟩∧cb=cp:=by simp at hvb;exact ⟨hvb.1,hvb.2.2⟩
   obtain ⟨o,ho⟩:∃ o,(cP N ((cq rs.l).take k)).1[v.toNat]? = some o:=⟨_,List.getElem?_eq_getElem (by rw [hbl];omega)⟩
   have hrow:=gl ho
   refine go 0 [0,0,0] ?_
   refine aU rfl (er v.toNat el33 rfl rfl (by omega) (by omega)) (LF rfl (cM 0 v.toNat 0 tk3 rfl rfl rfl hrow rfl (.v rfl .nil) rfl (by decide) (go 0 [0,0] ?_)))
   refine LT rfl (WL (zs:=[.int .i64 0]) el33 rfl rfl rfl (.more rfl (.v rfl .nil) .nil) rfl rfl (fun v10_2=>(aHN ?_)))
   refine aN rfl (bY 2 el33 rfl rfl rfl rfl (du 3 el33 rfl (by simp)) (by first | assumption | simp) (by have:=(gF N ((cq rs.l).take k)).2;rw [List.length_take] at this;simp [cC];omega) _ rfl (fun v10_3 c10_3 => ?_))
   refine aHK ?_
   refine go 1 [0,0,0] ?_
   refine ao ?_
   refine ⟨[0,1,7,9,24,25,26],[0],[0,1,2],rfl,?_⟩
   refine ⟨(k+1,.slice v10_3 ((bD encI (cP N ((cq rs.l).take k)).2).length+1) c10_3),⟨by omega,?_⟩,by omega⟩
   dsimp only
   rw [hst]
   unfold dg
   rw [if_pos hvn,rN,iP]
   rfl
  ·skip
   have hvn:¬ (0≤v∧v<N):=by simpa using h2
   refine go 1 [0,0] ?_
   refine ao ?_
   refine ⟨[0,1,7,9,24,25,26],[0],[0,1,2],rfl,?_⟩
   refine ⟨(k+1,vw),⟨by omega,?_⟩,by omega⟩
   dsimp only
   rw [hst]
   unfold dg
   rw [if_neg hvn]
   rfl
 ·skip
  have hkl:k=(cq rs.l).length:=by simp at h1;omega
  subst hkl
  rw [List.take_length]
  refine go 0 [0,0] ?_
  refine LT rfl (EC [0] [] rfl (rz N hN l hl (fun a ha=>(hr a ha).1)) ?_)
  rintro vn _ _ ⟨rfl,rfl⟩
  refine aST ?_
  refine go 4 [0] ?_
  refine fE 3 rfl (fun so hso hsl => ?_)
  subst hso
  refine go 3 [0] ?_
  refine aF [7,9,12,13] [2,1] [0,2] (fun (p:Nat × Value) s=>p.1≤(bfs (cm N l.l) (cP N (cq rs.l)) p.1).2.length∧s=⟨[(7,true,.slice ab N cb),(9,true,p.2),(12,true,so.val),(13,true,.int .i64 p.1)],[bu (ShF fun z=>[.v (encI z)]) so.l,ShF (fun t:Sl Int=>[.v t.val]) so],[aK (.slice ab N cb) 3 1 (bD encI (bfs (cm N l.l) (cP N (cq rs.l)) p.1).1),aK p.2 3 1 (bD encI (bfs (cm N l.l) (cP N (cq rs.l)) p.1).2)]⟩) (fun p=>M-p.1) rfl (⟨(0,vw),Nat.zero_le _,rfl⟩) ?_
  rintro ⟨k,vw2⟩ s ⟨hk,rfl⟩
  dsimp only at hk
  have hBk:=mr hro hB k
  have hkM:=hBk.le
  refine aD (aD ?_)
  obtain ⟨sk,hsk⟩:∃ sk,bfs (cm N l.l) (cP N (cq rs.l)) k=sk:=⟨_,rfl⟩
  rw [hsk] at hk hBk hkM ⊢
  refine oY 1 rfl (fun aw cw hvw => ?_)
  rw [cC] at hvw
  subst hvw
  refine go 0 [0,0] ?_
  refine aU rfl (bw Tryz.underlying33 rfl) (go 2 [0] ?_)
  refine aa _ rfl (fun h3 => ?_) (fun h3 => ?_)
  ·skip
   have hk':k<sk.2.length:=by simp at h3;omega
   obtain ⟨u,hu⟩:∃ u,sk.2[k]? = some u:=⟨_,List.getElem?_eq_getElem hk'⟩
   have hun:=hBk.mem u (List.mem_of_getElem? hu)
   have hsol:so.l.length=N:=by rw [← List.length_map (f:=Sl.l),hsl];unfold cm;rw [List.length_map,ct]
   refine aE (ao (aD (aJ (aD (dU 1 rfl (jT (by omega)) (fun Bw cpw hvw => ?_))))))
   obtain ⟨rfl,rfl⟩:aw=some ⟨Bw,0,none⟩∧cw=cpw:=by simp at hvw;exact ⟨hvw.1,hvw.2.2⟩
   refine go 0 [0,0,0] ?_
   refine aU rfl (er k el33 rfl rfl rfl hk') (aU rfl (bj (v:=.slice (some ⟨Bw,0,none⟩) sk.2.length cw) (u:=encI u) 1 k 0 tk3 rfl rfl (gl hu) rfl rfl) (bK true rfl rfl (fun _=>ai Tryz.underlying201 tk33 rfl ((.of (ax 1 rfl))) rfl (bX (i:=u) (by omega) (by omega)) (by omega) rfl) (fun h=>absurd h (by decide)) (fun ⟨b16_5,o16_5⟩=>(go 3 [2,3,0] ?_))))
   obtain ⟨row,hrow⟩:∃ row,elt so.l u=row:=⟨_,rfl⟩
   have hrm:row∈so.l:=by rw [← hrow];exact List.mem_of_getElem? (dS (by omega) hun.1)
   have hrl:row.l=elt (cm N l.l) u:=by rw [← hrow,← hsl];unfold elt;rw [List.getD_eq_getElem?_getD,List.getD_eq_getElem?_getD,List.getElem?_map];cases so.l[u.toNat]? <;> rfl
   have hrb:∀ x∈row.l,0≤x∧x<N:=by rw [hrl];exact hro u
   rw [hrow]
   refine aP (Ent.allm (f:=ShF fun z:Int=>[.v (encI z)]) (.of (ax 1 rfl)) hrm) (fun hrlen=>(aF [7,9,12,13,61,62,63] [1,0] [0,1] (fun (q:Nat × Value) s=>q.1≤row.l.length∧s=⟨[(7,true,.slice ab N cb),(9,true,q.2),(12,true,so.val),(13,true,.int .i64 k),(61,true,row.val),(62,true,.int .i64 row.l.length),(63,true,.int .i64 q.1)],[bu (ShF fun z=>[.v (encI z)]) so.l,ShF (fun t:Sl Int=>[.v t.val]) so],[aK (.slice ab N cb) 3 1 (bD encI ((row.l.take q.1).foldl (visit u) sk).1),aK q.2 3 1 (bD encI ((row.l.take q.1).foldl (visit u) sk).2)]⟩) (fun q=>row.l.length-q.1) rfl (⟨(0,.slice (some ⟨Bw,0,none⟩) sk.2.length cw),Nat.zero_le _,rfl⟩) ?_))
   rintro ⟨j,vw3⟩ s ⟨hj,rfl⟩
   dsimp only at hj
   have hBj:=lb hun.1 (row.l.take j) sk hBk (fun x hx=>hrb x (List.mem_of_mem_take hx))
   have huj:=qJ (gQ (u:=u) (row.l.take j) sk) hu
   refine go 3 [0] ?_
   refine aa _ rfl (fun h4 => ?_) (fun h4 => ?_)
   ·skip
    have hj':j<row.l.length:=by simp at h4;omega
    obtain ⟨x,hx⟩:∃ x,row.l[j]? = some x:=⟨_,List.getElem?_eq_getElem hj'⟩
    have hxn:=hrb x (List.mem_of_getElem? hx)
    have hvs:=sK (u:=u) row.l sk hx
    obtain ⟨sj,hsj⟩:∃ sj,(row.l.take j).foldl (visit u) sk=sj:=⟨_,rfl⟩
    rw [hsj] at hBj huj hvs ⊢
    refine aE (ao (aD (aJ (aSR (bK true rfl rfl (fun _=>ai Tryz.underlying33 tk3 rfl ((Ent.allm (f:=ShF fun z:Int=>[.v (encI z)]) (.of (ax 0 rfl)) hrm)) rfl (ak hx) rfl rfl) (fun h=>absurd h (by decide)) (fun ⟨b18_0,o18_0⟩=>(go 3 [2,0] ?_)))))))
    refine dU 0 rfl (jT (by rw [hBj.len];omega)) (fun B cp hvb => ?_)
    obtain ⟨rfl,rfl⟩:ab=some ⟨B,0,none⟩∧cb=cp:=by simp at hvb;exact ⟨hvb.1,hvb.2.2⟩
    have hbx:sj.1[x.toNat]? = some (elt sj.1 x):=dS (by rw [hBj.len];exact hxn.2) hxn.1
    refine go 0 [0,0] ?_
    refine aU rfl (er x.toNat el33 rfl rfl (by omega) (by omega)) (aU rfl (bj (v:=.slice (some ⟨B,0,none⟩) N cb) (u:=encI (elt sj.1 x)) 0 x.toNat 0 tk3 rfl rfl (gl hbx) rfl rfl) (go 2 [0] ?_))
    refine aa _ rfl (fun h5 => ?_) (fun h5 => ?_)
    ·skip
     have hneg:elt sj.1 x<0:=by simpa using h5
     refine aD ?_
     have hklt:k<sj.2.length:=(List.getElem?_eq_some_iff.1 huj).1
     refine dU 1 rfl (jT (by omega)) (fun Bw2 cpw2 hvw => ?_)
     rw [cC] at hvw
     subst hvw
     refine go 0 [0,0,0,0] ?_
     refine aU rfl (er k el33 rfl rfl rfl hklt) (aU rfl (bj (v:=.slice (some ⟨Bw2,0,none⟩) sj.2.length cpw2) (u:=encI u) 1 k 0 tk3 rfl rfl (gl huj) rfl rfl) (aU rfl (er x.toNat el33 rfl rfl (by omega) (by omega)) (LF rfl (cM 0 x.toNat 0 tk3 rfl rfl rfl (gl hbx) rfl (.v rfl .nil) rfl (by decide) (go 0 [0,0] ?_)))))
     refine LT rfl (WL (zs:=[.int .i64 0]) el33 rfl rfl rfl (.more rfl (.v rfl .nil) .nil) rfl rfl (fun v21_2=>(aHN ?_)))
     refine aN rfl (bY 1 el33 rfl rfl rfl rfl (du 2 el33 rfl (by simp)) (by first | assumption | simp) (by have:=hBj.le;simp [cC];omega) _ rfl (fun v21_3 c21_3 => ?_))
     refine aHK ?_
     refine go 1 [0,0,0] ?_
     refine ao ?_
     refine ⟨[7,9,12,13,61,62,63],[1,0],[0,1],rfl,?_⟩
     refine ⟨(j+1,.slice v21_3 ((bD encI sj.2).length+1) c21_3),⟨by omega,?_⟩,by omega⟩
     dsimp only
     rw [hvs]
     unfold visit
     rw [if_pos hneg,rN,iP]
     rfl
    ·skip
     have hneg:¬ elt sj.1 x<0:=by simpa using h5
     refine go 1 [0,0] ?_
     refine ao ?_
     refine ⟨[7,9,12,13,61,62,63],[1,0],[0,1],rfl,?_⟩
     refine ⟨(j+1,vw3),⟨by omega,?_⟩,by omega⟩
     dsimp only
     rw [hvs]
     unfold visit
     rw [if_neg hneg]
     rfl
   ·skip
    have hjl:j=row.l.length:=by simp at h4;omega
    subst hjl
    have hk1:bfs (cm N l.l) (cP N (cq rs.l)) (k+1)=row.l.foldl (visit u) sk:=by show mw _ (bfs (cm N l.l) (cP N (cq rs.l)) k) k=_;rw [hsk];unfold mw;rw [hu,hrl]
    refine go 1 [0,0,0] ?_
    refine ao ?_
    refine ⟨[7,9,12,13],[1,0],[0,1],rfl,?_⟩
    refine ⟨(k+1,vw3),⟨?_,?_⟩,?_⟩
    · dsimp only;rw [hk1,← List.take_length (l:=row.l)];exact (List.getElem?_eq_some_iff.1 huj).1
    · dsimp only;rw [hk1,List.take_length];rfl
    · dsimp only;omega
  ·skip
   have hkl:k=sk.2.length:=by simp at h3;omega
   refine go 2 [0,0] ?_
   refine ae (FZ1 [0] Tryz.results131 rfl ?_)
   refine ⟨rfl,?_⟩
   rw [← uk hro (k:=k) (by rw [hsk];exact hkl),hsk];rfl
end Go.Proofs.YtgkbbdgklpabpaaGreatDoor

namespace Go.Proofs.YtgkbbdgklpabpaaGreatDoor
open Go.RowKit Go.Lp Go.Sy
def wu(l:List Int)(v:Int):Prop:=0≤v∧v<l.length∧0≤elt l v
def chain(l:List Int):Nat→Int→List Int
 | 0,v=>[v]
 | f+1,v=>if elt l v=v then [v] else v::chain l f (elt l v)
structure Tree (l:List Int) (ρ:Int→Nat):Prop where
 step:∀ v,wu l v→elt l v≠v→wu l (elt l v)∧ρ (elt l v)<ρ v
theorem rq{l:List Int}{ρ:Int→Nat}(hT:Tree l ρ):∀ (f g:Nat) (v:Int),wu l v→ρ v≤f→ρ v≤g→chain l f v=chain l g v
 | 0,0,v,_,_,_=>rfl
 | 0,g+1,v,h,hf,_=>by
   unfold chain
   split
   · rfl
   · rename_i hne;have:=(hT.step v h hne).2;omega
 | f+1,0,v,h,_,hg=>by
   unfold chain
   split
   · rfl
   · rename_i hne;have:=(hT.step v h hne).2;omega
 | f + 1,g+1,v,h,hf,hg=>by
   unfold chain
   split
   · rfl
   · rename_i hne
     obtain ⟨h1,h2⟩:=hT.step v h hne
     rw [rq hT f g _ h1 (by omega) (by omega)]
theorem gG(l:List Int)(f:Nat)(v:Int):chain l f v=v::(chain l f v).tail:=by
 cases f with
 | zero=>rfl
 | succ f=>unfold chain;split<;>rfl
theorem sW{l:List Int}{ρ:Int→Nat}(hT:Tree l ρ){v:Int}(h:wu l v)(hne:elt l v≠v):(chain l (ρ v) v).tail=chain l (ρ (elt l v)) (elt l v):=by
 obtain ⟨h1,h2⟩:=hT.step v h hne
 obtain ⟨f,hf⟩:∃ f,ρ v=f+1:=⟨ρ v-1,by omega⟩
 rw [hf]
 show (if elt l v=v then [v] else v::chain l f (elt l v)).tail=_
 rw [if_neg hne,List.tail_cons]
 exact rq hT _ _ _ h1 (by omega) (Nat.le_refl _)
theorem vv{l:List Int}(f:Nat){v:Int}(h:elt l v=v):chain l f v=[v]:=by
 cases f with
 | zero=>rfl
 | succ f=>unfold chain;rw [if_pos h]
def fo(l:List Int)(ρ:Int→Nat)(to_:Int):List Int:=if elt l to_<0 then [] else (chain l (ρ to_) to_).reverse
open Go.Proofs.Tryz
attribute [local irreducible] aL aB awp aC fwp Quiet
theorem tE(l:Sl Int)(ρ:Int→Nat)(hT:Tree l.l ρ)(to_:Int)(ht:0≤to_∧to_<l.l.length)(hb:ρ to_≤100000) :
   Con Tryz.prog 132 [l.val,.int .i64 to_] [ShF (fun z=>[.v (encI z)]) l] [] fun r ps hp=>hp=[]∧∃ ad c,(ad=none↔fo l.l ρ to_=[])∧r=.slice ad (fo l.l ρ to_).length c∧ps=[Sh (.slice ad (fo l.l ρ to_).length c) (.sl (bD encI (fo l.l ρ to_)))]:=by
 refine EN2 Tryz.func132 rfl (go 0 [0,0,0] ?_)
 refine bK true rfl rfl (fun _=>ai Tryz.underlying33 tk3 rfl ((.of (ax 0 rfl))) rfl (bX (i:=to_) (by omega) (by omega)) (by omega) rfl) (fun h=>absurd h (by decide)) (fun ⟨b1_2,o1_2⟩=>(go 2 [2,0] ?_))
 refine aa _ rfl (fun h1 => ?_) (fun h1 => ?_)
 ·skip
  refine go 2 [0] ?_
  refine xq (Sh (.slice none 0 0) (.sl [])) (fun _ _ _=>dJ.e _ _ (by unfold maxLen;omega)) ?_
  refine ae (an ?_)
  refine bB [2] [] rfl Tryz.results132 rfl ?_ (.inr rfl)
  exact ⟨rfl,none,0,⟨fun _=>if_pos (by simpa using h1),fun _=>rfl⟩,by rw [show fo l.l ρ to_=[] from if_pos (by simpa using h1)];rfl,by rw [show fo l.l ρ to_=[] from if_pos (by simpa using h1)];rfl⟩
 ·skip
  have hgo:wu l.l to_:=⟨ht.1,ht.2,by simpa using h1⟩
  refine go 0 [0] ?_
  refine LT rfl (WL (zs:=[.int .i64 0]) el33 rfl rfl rfl (.more rfl (.v rfl .nil) .nil) rfl rfl (fun v3_1=>(aHN ?_)))
  refine go 4 [0] ?_
  refine aF [0,1,5] [0] [0] (fun (p:Int × List Int × Value) s=>(wu l.l p.1∧p.2.1++(chain l.l (ρ p.1) p.1).tail=chain l.l (ρ to_) to_∧p.2.1.length+ρ p.1≤ρ to_+1)∧s=⟨[(0,true,l.val),(1,true,.int .i64 p.1),(5,true,p.2.2)],[ShF (fun z=>[.v (encI z)]) l],[aK p.2.2 3 1 (bD encI p.2.1)]⟩) (fun p=>ρ p.1) rfl (⟨(to_,[to_],_),⟨hgo,(gG _ _ _).symm,by simp;omega⟩,rfl⟩) ?_
  rintro ⟨v,acc,out⟩ s ⟨⟨hv,hch,hlen⟩,rfl⟩
  dsimp only at hv hch hlen
  have hv1:=hv.1
  have hv2:=hv.2.1
  refine go 0 [0,0] ?_
  refine bK true rfl rfl (fun _=>ai Tryz.underlying33 tk3 rfl ((.of (ax 0 rfl))) rfl (bX (i:=v) (by omega) (by omega)) (by omega) rfl) (fun h=>absurd h (by decide)) (fun ⟨b4_2,o4_2⟩=>(go 2 [2,0,0] ?_))
  refine aa _ rfl (fun h2 => ?_) (fun h2 => ?_)
  ·skip
   have hne:elt l.l v≠v:=by simpa using h2
   have hst:=hT.step v hv hne
   have hcs:=sW hT hv hne
   refine go 0 [0,0] ?_
   refine bK true rfl rfl (fun _=>ai Tryz.underlying33 tk3 rfl ((.of (ax 1 rfl))) rfl (bX (i:=v) (by omega) (by omega)) (by omega) rfl) (fun h=>absurd h (by decide)) (fun ⟨b5_2,o5_2⟩=>(go 0 [2,0,0,0] ?_))
   refine LT rfl (WL (zs:=[.int .i64 0]) el33 rfl rfl rfl (.more rfl (.v rfl .nil) .nil) rfl rfl (fun v6_2=>(aHN ?_)))
   refine aN rfl (bY 0 el33 rfl rfl rfl rfl (du 1 el33 rfl (by simp)) (by first | assumption | simp) (by simp [cC];omega) _ rfl (fun v6_3 c6_3 => ?_))
   refine aHK ?_
   refine go 2 [0] ?_
   refine ao ?_
   refine ⟨[0,1,5],[0],[0],rfl,?_⟩
   refine ⟨(elt l.l v,acc++[elt l.l v],.slice v6_3 ((bD encI acc).length+1) c6_3),⟨⟨hst.1,?_,by simp;omega⟩,?_⟩,hst.2⟩
   · rw [← hch,hcs,List.append_assoc]
     exact congrArg _ (gG _ _ _).symm
   · show _=(⟨_,_,[aK _ _ 1 (bD encI (acc++[elt l.l v]))]⟩:Sta)
     rw [show bD encI (acc++[elt l.l v])=bD encI acc++[[.v (encI (elt l.l v))]] by simp [bD]]
     rfl
  ·skip
   have heq:elt l.l v=v:=by simpa using h2
   rw [vv _ heq,List.tail_cons,List.append_nil] at hch
   subst hch
   refine go 0 [0] ?_
   refine LF rfl (EC [] [0] rfl (qw _) ?_)
   rintro r7 _ _ ⟨rfl,rfl⟩
   refine aST ?_
   refine go 2 [0,0] ?_
   have hcn:(chain l.l (ρ to_) to_).reverse≠[]:=fun h0=>by
     rw [List.reverse_eq_nil_iff,gG] at h0
     cases h0
   refine dU 0 rfl (fun h0=>hcn (List.map_eq_nil_iff.1 h0)) (fun B kc hv => ?_)
   rw [cC] at hv
   refine iJ 0 rfl (ae ?_)
   refine bB [2] [] rfl Tryz.results132 rfl ?_ (.inr rfl)
   have e:fo l.l ρ to_=(chain l.l (ρ to_) to_).reverse:=if_neg (by simpa using h1)
   exact ⟨rfl,some ⟨B,0,none⟩,kc,⟨fun h=>(by cases h),fun h=>absurd (e ▸ h) hcn⟩,by rw [e];exact hv,by rw [e,← hv];rfl⟩
end Go.Proofs.YtgkbbdgklpabpaaGreatDoor

