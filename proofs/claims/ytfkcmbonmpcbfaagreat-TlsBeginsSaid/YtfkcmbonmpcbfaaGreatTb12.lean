/- Parts of the proof, in build order. No condition. -/
import Derived.Test.YtfkcmbonmpcbfaaGreatTb11
import Derived.Test.YtfkcmbonmpcbfaaGreatTb09
import Derived.Test.YtfkcmbonmpcbfaaGreatTb07
import Derived.Test.YtfkcmbonmpcbfaaGreatTb04
import Derived.Test.YtfkcmbonmpcbfaaGreatTb10
import Derived.Test.YtfkcmbonmpcbfaaGreatTb05
import Derived.Shelf.Slices.Clone
import Derived.Shelf.Slices.Reverse
import Derived.Shelf.Slices.In.SortNone
set_option linter.unusedSimpArgs false
set_option linter.unusedVariables false
set_option maxHeartbeats 1000000
set_option maxRecDepth 20000
namespace Go.Lv
open Go.Sy
section
variable {N:Nat} {nx:List (List Int)} {r:Int} {s:TS}
theorem TJ.last(h:TI N nx r s)(j:TJ nx s){cs:List (Int × Int)}{v i:Int}(hc:s.calls=cs++[(v,i)]):∀ c∈nodes s,elt s.idx c≤elt s.idx v:=fun c hcm=>by
 have hn:nodes s=cs.map (·.1)++[v]:=by simp [nodes,hc]
 have hasc:(nodes s).Pairwise fun a b=>elt s.idx a<elt s.idx b:=j.asc.sublist h.sub
 rw [hn] at hcm
 rw [hn,List.pairwise_append] at hasc
 rcases List.mem_append.1 hcm with h1 | h1
 · exact Int.le_of_lt (hasc.2.2 c h1 v (by simp))
 · rw [List.mem_singleton.1 h1];exact Int.le_refl _
theorem TJ.rEnter(h:TI N nx r s)(j:TJ nx s)(hnr:∀ v w,w∈elt nx v→0≤w∧w<N){cs:List (Int × Int)}{v i w:Int}(hc:s.calls=cs++[(v,i)])(hi:0≤i)(ha:(elt nx v)[i.toNat]? = some w)(hw:0≤w∧w<N)(h0:elt s.idx w=0) :
   TJ nx (cq { s with calls:=cs++[(v,i+1)] } w):=by
 have hvn:v∈nodes s:=by simp [nodes,hc]
 have hvs:=h.sub' hvn
 have hvi:=(h.stk v).1 hvs
 have hne:s.calls≠[]:=by rw [hc];simp
 have j1:=j.enter h hnr hw h0 (.inr ⟨v,hvn,j.last h hc,List.mem_of_getElem? ha⟩)
 have h1:=h.enter hw h0 (.inl hne)
 have hwv:w≠v:=fun e=>hvi.2.1 (e ▸ h0)
 have hli:=h.li
 have hll:=h.ll
 have hc0:=h.cnt0
 have e1:elt (cq s w).idx w=s.cnt+1:=by
   show elt (s.idx.set _ _) w=_
   rw [du hw.1 (by omega) hw.1,if_pos rfl]
 have e2:elt (cq s w).low v=elt s.low v:=by
   show elt (s.low.set _ _) v=_
   rw [du hw.1 (by omega) hvi.1.1,if_neg hwv]
 have j2:=j1.adv h1 (cs:=cs) (ds:=[(w,0)]) (v:=v) (i:=i) (w:=w) (by show s.calls++[(w,0)]=_;rw [hc];simp) hi ha (by rw [e1];omega) (fun _=>by
   rw [e1,e2]
   have:=(j.lr v hvs).1
   have:=(h.ile v hvi.1.1 hvi.1.2).2
   omega)
 have e3:cs++(v,i+1)::[(w,0)]=(cs++[(v,i+1)])++[(w,0)]:=by simp
 rw [e3] at j2
 exact j2
theorem TJ.rBack(h:TI N nx r s)(j:TJ nx s){cs:List (Int × Int)}{v i w:Int}(hc:s.calls=cs++[(v,i)])(hi:0≤i)(ha:(elt nx v)[i.toNat]? = some w)(hws:w∈s.stk) :
   TJ nx { s with calls:=cs++[(v,i+1)],low:=s.low.set v.toNat (min (elt s.low v) (elt s.idx w)) } := by
 have hvn:v∈nodes s:=by simp [nodes,hc]
 have hvs:=h.sub' hvn
 have hvi:=(h.stk v).1 hvs
 have hll:=h.ll
 have j1:=j.lower h hvs hws (Rc.one (List.mem_of_getElem? ha)) rfl
 have h1:=h.lower hvs (h.low' w hws).2
 exact j1.adv h1 (cs:=cs) (ds:=[]) hc hi ha ((h.stk w).1 hws).2.1 (fun _=>by
   show elt (s.low.set _ _) v≤elt s.idx w
   rw [du hvi.1.1 (by omega) hvi.1.1,if_pos rfl];omega)
theorem TJ.rSkip(h:TI N nx r s)(j:TJ nx s){cs:List (Int × Int)}{v i w:Int}(hc:s.calls=cs++[(v,i)])(hi:0≤i)(ha:(elt nx v)[i.toNat]? = some w)(hw:elt s.idx w≠0)(hp:elt s.part w≠0) :
   TJ nx { s with calls:=cs++[(v,i+1)] } := j.adv h (cs:=cs) (ds:=[]) hc hi ha hw fun h=>absurd h hp
theorem TJ.rUp(h:TI N nx r s)(j:TJ nx s){cs ds:List (Int × Int)}{v i u k:Int}(hc:s.calls=cs++[(v,i)])(hd:cs=ds++[(u,k)]){l:List Int}(hl:l=s.low.set u.toNat (min (elt s.low u) (elt s.low v))) :
   TI N nx r { s with low:=l } ∧ TJ nx { s with low:=l } ∧ elt l v=elt s.low v∧∀ c∈cs.map (·.1),(∀ c'∈cs.map (·.1),elt s.idx c'≤elt s.idx c)→elt l c≤elt l v:=by
 subst hl
 have hvn:v∈nodes s:=by simp [nodes,hc]
 have hun:u∈nodes s:=by simp [nodes,hc,hd]
 have hvs:=h.sub' hvn
 have hus:=h.sub' hun
 have hvi:=(h.stk v).1 hvs
 have hui:=(h.stk u).1 hus
 have hll:=h.ll
 have hn:nodes s=cs.map (·.1)++[v]:=by simp [nodes,hc]
 have hasc:(nodes s).Pairwise fun a b=>elt s.idx a<elt s.idx b:=j.asc.sublist h.sub
 rw [hn,List.pairwise_append] at hasc
 have huc:u∈cs.map (·.1):=by rw [hd];simp
 have hlt:=hasc.2.2 u huc v (by simp)
 have huv:u≠v:=fun e=>by rw [e] at hlt;omega
 obtain ⟨x,hx,hrx,hz⟩:=(j.lr v hvs).2
 have hr:Rc nx u v:=j.ch u hun v hvn (Int.le_of_lt hlt)
 have e1:elt (s.low.set u.toNat (min (elt s.low u) (elt s.low v))) v=elt s.low v:=by rw [du hui.1.1 (by omega) hvi.1.1,if_neg huv]
 refine ⟨h.lower hus (h.low' v hvs).1,j.lower h hus hx (hr.trans hrx) hz,e1,fun c hcm hmx => ?_⟩
 have hcu:c=u:=by
   have h1:=hasc.1
   rw [hd,List.map_append,List.pairwise_append] at h1
   rw [hd,List.map_append] at hcm
   rcases List.mem_append.1 hcm with h2 | h2
   · have:=h1.2.2 c h2 u (by simp)
     have:=hmx u huc
     omega
   · simpa using h2
 rw [e1,hcu,du hui.1.1 (by omega) hui.1.1,if_pos rfl]
 omega
end
def PC(N:Nat)(part:List Int)(ps:List (List Int)):Prop:=∀ v:Int,0≤v→v<N→elt part v≠0→∃ (k:Nat) (p:List Int),ps[k]? = some p∧v∈p∧elt part v=(k:Int)+1
theorem PC.nil{N:Nat}{part:List Int}(h:∀ v:Int,0≤v→elt part v=0):PC N part []:=fun v h0 _ hv=>absurd (h v h0) hv
theorem PC.close{N:Nat}{nx:List (List Int)}{r:Int}{s:TS}(h:TI N nx r s){ps:List (List Int)}(hP:PC N s.part ps)(hn:s.np=ps.length){A B p:List Int}{v:Int}(hs:s.stk=A++v::B)(hp:p.Perm (v::B)):PC N (b9 s.part ((s.np:Int)+1) p) (ps++[p]):=fun x h0 h1 hx=>by
 have hst:∀ x∈p,(0≤x∧x<(N:Int))∧elt s.part x=0:=fun x hx=>by
   have:=(h.stk x).1 (by rw [hs];exact List.mem_append_right _ (hp.mem_iff.1 hx))
   exact ⟨this.1,this.2.2⟩
 have hlp:=h.lp
 rw [iA p s.part (fun w hw=>by rw [hlp];exact (hst w hw).1) x h0] at hx ⊢
 by_cases hm:x∈p
 · rw [if_pos hm]
   exact ⟨ps.length,p,by simp,hm,by rw [hn]⟩
 · rw [if_neg hm] at hx ⊢
   obtain ⟨k,q,h2,h3,h4⟩:=hP x h0 h1 hx
   exact ⟨k,q,by rw [List.getElem?_append_left (List.getElem?_eq_some_iff.1 h2).1];exact h2,h3,h4⟩
theorem oO(f:Nat→Nat):∀ l:List Nat,((l.filter fun x=>decide (f x≠0)).map f).sum=(l.map f).sum
 | []=>rfl
 | a::l=>by
   rw [List.filter_cons,List.map_cons,List.sum_cons,← oO f l]
   by_cases h:f a=0
   · rw [if_neg (by simp [h]),h];omega
   · rw [if_pos (by simp [h]),List.map_cons,List.sum_cons]
theorem KI.all{M:Nat}{us:List (List Int)}{w D:List Int}(h:KI M us w D [] [])(hlt:∀ q:Nat,∀ p∈elt us (q:Int),1≤q∧(q:Int)<p):∀ p:Int,1≤p→p≤M→p∈D:=by
 have key:∀ n:Nat,∀ p:Int,p.toNat≤n→1≤p→p≤M→p∈D:=by
   intro n
   induction n with
   | zero=>intro p h1 h2;omega
   | succ n ih =>
     intro p hpn h1 h2
     refine Classical.byContradiction fun hno => ?_
     have hz:=h.zr p h1 h2
     rw [List.append_nil] at hz
     have hw:=h.wt p h1 h2
     have hne:elt w p≠0:=fun e=>hno (hz.2 e)
     have hn:D.Nodup:=by have:=h.nd;rwa [List.append_nil] at this
     have hrg:∀ q∈D,1≤q∧q≤M:=fun q hq=>h.rg q (by simpa using hq)
     have hle:oR us p≤dnU us D p:=by
       have e:dnU us D p=((D.map Int.toNat).map fun q:Nat=>(elt us (q:Int)).count p).sum:=by
         unfold dnU
         rw [List.map_map]
         refine congrArg List.sum (List.map_congr_left fun q hq => ?_)
         show _=(elt us ((q.toNat:Nat):Int)).count p
         rw [Int.toNat_of_nonneg (by have:=hrg q hq;omega)]
       rw [e]
       unfold oR
       rw [← oO]
       refine cX _ _ _ (List.nodup_range.filter _) fun q hq => ?_
       obtain ⟨_,h4⟩:=List.mem_filter.1 hq
       have h4:(elt us (q:Int)).count p≠0:=by simpa using h4
       have h5:p∈elt us (q:Int):=List.count_pos_iff.1 (by omega)
       have h6:=hlt q p h5
       exact List.mem_map.2 ⟨(q:Int),ih q (by omega) (by omega) (by omega),by simp⟩
     have h7:List.count p ([]:List Int)=0:=rfl
     have h8:=pY (us:=us) (D:=D) (p:=p) hn (fun x hx=>by have:=hrg x hx;have:=h.lu;omega)
     rw [h7] at hw
     omega
 exact fun p h1 h2=>key p.toNat p (Nat.le_refl _) h1 h2
def UL(us:List (List Int)):Prop:=∀ q:Nat,∀ p∈elt us (q:Int),1≤q∧(q:Int)<p
theorem UL.start(M:Nat):UL (List.replicate (M+1) []):=fun q p hp=>by
 unfold elt at hp
 rw [List.getD_eq_getElem?_getD,List.getElem?_replicate] at hp
 split at hp<;>cases hp
theorem UL.step{us:List (List Int)}(h:UL us){q:Nat}{p:Int}(hq:q<us.length)(h1:1≤q)(hlt:(q:Int)<p):UL (us.set q (elt us (q:Int)++[p])):=fun k x hx=>by
 have e:=sV (l:=us) (q:=(q:Int)) (y:=elt us (q:Int)++[p]) (by omega) (by omega) (x:=(k:Int)) (by omega)
 rw [Int.toNat_natCast] at e
 rw [e] at hx
 split at hx
 · rename_i e2
   rcases List.mem_append.1 hx with h2 | h2
   · have:=h q x h2;omega
   · rw [List.mem_singleton.1 h2];omega
 · exact h k x hx
theorem Rc.last{nx:List (List Int)}{u v:Int}(h:Rc nx u v):u=v∨∃ z,Rc nx u z∧v∈elt nx z:=by
 induction h with
 | refl=>exact .inl rfl
 | step h _ ih =>
   rcases ih with rfl | ⟨z,h1,h2⟩
   · exact .inr ⟨_,.refl _,h⟩
   · exact .inr ⟨z,.step h h1,h2⟩
def OnC(nx:List (List Int))(v:Int):Prop:=∃ w∈elt nx v,Rc nx w v
theorem OnC.of_two{nx:List (List Int)}{x y:Int}(h:Rc nx x y)(k:Rc nx y x)(hne:x≠y):OnC nx x:=by
 cases h with
 | refl=>exact absurd rfl hne
 | step h1 h2=>exact ⟨_,h1,h2.trans k⟩
theorem OnC.back{nx:List (List Int)}{v:Int}(h:OnC nx v):∃ z,Rc nx v z∧v∈elt nx z:=by
 obtain ⟨w,h1,h2⟩:=h
 rcases h2.last with rfl | ⟨z,h3,h4⟩
 · exact ⟨_,.refl _,h1⟩
 · exact ⟨z,.step h1 h3,h4⟩
structure PX (N:Nat) (nx:List (List Int)) (ps:List (List Int)):Prop where
 sc:∀ p∈ps,∀ x∈p,∀ y∈p,Rc nx x y
 cy:∀ v w:Int,0≤v→v<N→0≤w→w<N→Rc nx v w→Rc nx w v→∃ p∈ps,v∈p∧w∈p
theorem PX.mono{N:Nat}{nx ps qs:List (List Int)}(h:PX N nx ps)(h1:∀ p∈qs,p∈ps)(h2:∀ p∈ps,p∈qs):PX N nx qs :=
 ⟨fun p hp=>h.sc p (h1 p hp),fun v w a b c d e f=>let ⟨p,hp,q⟩:=h.cy v w a b c d e f; ⟨p,h2 p hp,q⟩⟩
theorem TJ.down{nx:List (List Int)}{s:TS}(j:TJ nx s)(hnr:∀ v w,w∈elt nx v→0≤w){v w:Int}(h:Rc nx v w):0≤v→elt s.part v≠0→elt s.part w≠0∧elt s.part w≤elt s.part v:=by
 induction h with
 | refl=>exact fun _ h=>⟨h,Int.le_refl _⟩
 | step h _ ih =>
   intro h0 hp
   have h1:=j.cl _ h0 hp _ h
   have h2:=ih (hnr _ _ h) h1.1
   exact ⟨h2.1,Int.le_trans h2.2 h1.2⟩
theorem TJ.px{N:Nat}{nx:List (List Int)}{s:TS}(j:TJ nx s)(hnr:∀ v w,w∈elt nx v→0≤w∧w<N){ps:List (List Int)}(hP:PL N s.part ps)(hC:PC N s.part ps)(hall:∀ v:Int,0≤v→v<N→elt s.part v≠0):PX N nx ps:=by
 refine ⟨fun p hp x hx y hy => ?_,fun v w v0 v1 w0 w1 h k => ?_⟩
 · obtain ⟨k,hk⟩:=List.mem_iff_getElem?.1 hp
   have h1:=hP.of k p hk x hx
   have h2:=hP.of k p hk y hy
   exact j.sc x y h1.1.1 h2.1.1 (hall x h1.1.1 h1.1.2) (by rw [h1.2,h2.2])
 · have h1:=j.down (fun a b h=>(hnr a b h).1) h v0 (hall v v0 v1)
   have h2:=j.down (fun a b h=>(hnr a b h).1) k w0 (hall w w0 w1)
   obtain ⟨k1,p1,a1,b1,c1⟩:=hC v v0 v1 (hall v v0 v1)
   obtain ⟨k2,p2,a2,b2,c2⟩:=hC w w0 w1 (hall w w0 w1)
   have e:k1=k2:=by have:=h1.2;have:=h2.2;omega
   subst e
   rw [a1] at a2
   exact ⟨p1,List.mem_of_getElem? a1,b1,by rw [Option.some.inj a2];exact b2⟩
end Go.Lv

namespace Go.Proofs.YtfkcmbonmpcbfaaGreat
open Go.RowKit Go.Lp Go.Sy Go.Lv
def lS(vs:List aH)(s:ByteArray):Option Nat:=vs.findIdx? fun d=>decide (d.name=s)
abbrev iM(vs:List aH):ByteArray→Option Int:=fun s=>(lS vs s).map fun i:Nat=>(i:Int)
theorem qx(l:List aH)(d:aH)(s:ByteArray):lS (l++[d]) s=(lS l s).or (if d.name=s then some l.length else none):=by
 unfold lS
 rw [List.findIdx?_append]
 congr 1
 by_cases h:d.name=s<;>simp [h,List.findIdx?_cons]
theorem qy(l:List aH)(s:ByteArray):(lS l s).isSome=true↔s∈l.map (·.name):=by
 unfold lS
 rw [List.findIdx?_isSome,List.any_eq_true,List.mem_map]
 simp
theorem abS{l:List aH}{s:ByteArray}{i:Nat}(h:lS l s=some i):i<l.length:=(List.findIdx?_eq_some_iff_getElem.1 h).1
theorem qA(l:List aH)(s:ByteArray):(iM l s).isSome=true↔s∈l.map (·.name):=by
 rw [← qy];simp [iM]
theorem kB{γ:Type}[DecidableEq γ]:∀ l:List γ,∃ ks:List γ,ks.Nodup∧(∀ a,a∈l↔a∈ks)∧(ks.length=l.length→l.Nodup)
 | []=>⟨[],List.nodup_nil,fun _=>Iff.rfl,fun _=>List.nodup_nil⟩
 | a :: l=>by
   obtain ⟨ks,h1,h2,h3⟩:=kB l
   have hle:ks.length≤l.length:=dJ ks l h1 fun x hx=>(h2 x).2 hx
   by_cases ha:a∈ks
   · refine ⟨ks,h1,fun x => ?_,fun h => ?_⟩
     · rw [List.mem_cons,h2]
       exact ⟨fun h=>h.elim (fun e=>e ▸ ha) id,.inr⟩
     · rw [List.length_cons] at h;omega
   · refine ⟨a::ks,List.nodup_cons.2 ⟨ha,h1⟩,fun x => ?_,fun h => ?_⟩
     · rw [List.mem_cons,List.mem_cons,h2]
     · rw [List.length_cons,List.length_cons] at h
       exact List.nodup_cons.2 ⟨fun k=>ha ((h2 a).1 k),h3 (by omega)⟩
theorem qz(l:List aH):qh (iM l)=l.length↔(l.map (·.name)).Nodup:=by
 obtain ⟨ks,h1,h2,h3⟩:=kB (l.map (·.name))
 rw [tg h1 fun a=>(qA l a).trans (h2 a)]
 constructor
 · intro h;exact h3 (by rw [List.length_map];exact h)
 · intro h
   have:=dJ _ _ h fun x hx=>(h2 x).1 hx
   have h4:=dJ _ _ h1 fun x hx=>(h2 x).2 hx
   rw [List.length_map] at this h4;omega
def dV(s:ByteArray):Bool:=(bS s).all (fun u=>decide (33≤u.toNat) && decide (u.toNat≤126)) && (decide (1≤s.size) && decide (s.size≤64))
structure jm (l:List aH):Prop where
 len:l.length≤1
 nm:∀ d∈l,dV d.name=true
 par:∀ d∈l,d.parents.l=[]
theorem jm.nd{l:List aH}(h:jm l):(l.map (·.name)).Nodup:=by
 have:=h.len
 match l with
 | []=>exact List.nodup_nil
 | [a]=>simp
 | a::b::l=>simp at this
def rU(l:List aH)(k:Nat)(p:ByteArray):ct:=⟨(k:Int),(((lS l p).getD 0:Nat):Int)⟩
def iS(l:List aH)(k:Nat):List ct:=((List.range k).map fun i:Nat=>((l[i]?.map fun d=>d.parents.l).getD []).map (rU l i)).flatten
theorem rV{l:List aH}{k:Nat}{d:aH}(h:l[k]? = some d):iS l (k+1)=iS l k++d.parents.l.map (rU l k):=by
 unfold iS
 rw [List.range_succ,List.map_append,List.flatten_append]
 simp [h]
structure y7 (l:List aH):Prop where
 len:l.length≤4096
 nd:(l.map (·.name)).Nodup
 nm:∀ d∈l,dV d.name=true
 pk:∀ d∈l,d.parents.l.Nodup∧∀ x∈d.parents.l,x∈l.map (·.name)
 ac:∀ v:Int,0≤v→v<l.length→¬ OnC (cC l.length (iS l l.length)) v
theorem jm.all{l:List aH}(h:jm l):y7 l:=by
 have e:iS l l.length=[]:=by
   unfold iS
   rw [List.flatten_eq_nil_iff]
   intro x hx
   obtain ⟨i,_,rfl⟩:=List.mem_map.1 hx
   cases hd:l[i]? with
   | none=>rfl
   | some d=>simp [h.par d (List.mem_of_getElem? hd)]
 refine ⟨Nat.le_trans h.len (by decide),h.nd,h.nm,fun d hd=>by rw [h.par d hd];exact ⟨List.nodup_nil,fun x hx=>by cases hx⟩,fun v h0 h1 ⟨w,hw,_⟩ => ?_⟩
 rw [e] at hw
 obtain ⟨a,ha,_⟩:=(ia (fun a ha=>by cases ha) ⟨h0,h1⟩).1 hw
 cases ha
theorem yo{l:List ByteArray}(h:l.Nodup){m:Nat}{p:ByteArray}(hp:l[m]? = some p):p ∉ l.take m:=fun hm=>by
 obtain ⟨i,hi⟩:=List.mem_iff_getElem?.1 hm
 rw [List.getElem?_take] at hi
 split at hi
 · rename_i hlt
   obtain ⟨h1,e1⟩:=List.getElem?_eq_some_iff.1 hi
   obtain ⟨h2,e2⟩:=List.getElem?_eq_some_iff.1 hp
   exact List.pairwise_iff_getElem.1 h i m h1 h2 hlt (e1.trans e2.symm)
 · cases hi
structure VI (l:List aH) (k:Nat) (gs:List ct):Prop where
 le:k≤l.length
 ok:∀ a∈gs,gz l.length a
 ln:gs.length≤l.length*k
 nm:∀ d∈l.take k,dV d.name=true
 ar:gs=iS l k
 pk:∀ d∈l.take k,d.parents.l.Nodup∧∀ x∈d.parents.l,x∈l.map (·.name)
structure VJ (l:List aH) (k:Nat) (d:aH) (m:Nat) (gs:List ct):Prop where
 le:k<l.length
 ml:m≤d.parents.l.length
 ok:∀ a∈gs,gz l.length a
 ln:gs.length≤l.length*k+m
 nm:∀ d∈l.take k,dV d.name=true
 ar:gs=iS l k++(d.parents.l.take m).map (rU l k)
 pk:∀ d∈l.take k,d.parents.l.Nodup∧∀ x∈d.parents.l,x∈l.map (·.name)
 nd:(d.parents.l.take m).Nodup
 kn:∀ x∈d.parents.l.take m,x∈l.map (·.name)
section
variable {l:List aH} {k m:Nat} {d:aH} {gs:List ct} {p:ByteArray}
theorem VI.start(l:List aH):VI l 0 []:=⟨Nat.zero_le _,fun a h=>(by cases h),Nat.zero_le _,fun d h=>(by cases h),rfl,fun d h=>(by cases h)⟩
theorem VI.into(h:VI l k gs)(hd:l[k]? = some d):VJ l k d 0 gs:=⟨(List.getElem?_eq_some_iff.1 hd).1,Nat.zero_le _,h.ok,h.ln,h.nm,by rw [h.ar];simp,h.pk,List.nodup_nil,fun x hx=>(by cases hx)⟩
theorem VJ.short(h:VJ l k d m gs):m≤l.length:=by
 have:=dJ _ _ h.nd h.kn
 rw [List.length_take,List.length_map] at this
 have:=h.ml;omega
theorem VJ.step(h:VJ l k d m gs)(hd:l[k]? = some d)(hp:d.parents.l[m]? = some p){i:Nat}(hi:lS l p=some i)(hs:p ∉ d.parents.l.take m):VJ l k d (m+1) (gs++[⟨k,i⟩]):=by
 have hm:=(List.getElem?_eq_some_iff.1 hp).1
 have hlt:=abS hi
 have hle:=h.le
 refine ⟨h.le,hm,fun a ha => ?_,?_,h.nm,?_,h.pk,?_,fun x hx => ?_⟩
 · rcases List.mem_append.1 ha with h1 | h1
   · exact h.ok a h1
   · rw [List.mem_singleton.1 h1];exact ⟨⟨Int.natCast_nonneg _,Int.ofNat_lt.2 hle⟩,Int.natCast_nonneg _,Int.ofNat_lt.2 hlt⟩
 · rw [List.length_append,List.length_singleton];have:=h.ln;omega
 · have e:rU l k p=⟨(k:Int),(i:Int)⟩:=by unfold rU;rw [hi];rfl
   rw [List.take_add_one,hp,Option.toList_some,List.map_append,List.map_singleton,e,← List.append_assoc,← h.ar]
 · rw [List.take_add_one,hp,Option.toList_some,List.nodup_append]
   exact ⟨h.nd,by simp,fun x hx y hy e=>hs (by rw [List.mem_singleton.1 hy] at e;exact e ▸ hx)⟩
 · rw [List.take_add_one,hp,Option.toList_some] at hx
   rcases List.mem_append.1 hx with h1 | h1
   · exact h.kn x h1
   · rw [List.mem_singleton.1 h1,← qy,hi];rfl
theorem VJ.done(h:VJ l k d m gs)(hd:l[k]? = some d)(hn:dV d.name=true)(hml:d.parents.l.length≤m):VI l (k+1) gs:=by
 have ht:=List.take_of_length_le hml
 have:=h.short
 refine ⟨h.le,h.ok,?_,fun x hx => ?_,?_,fun x hx => ?_⟩
 · rw [Nat.mul_add,Nat.mul_one];have:=h.ln;omega
 · rw [List.take_add_one,hd,Option.toList_some] at hx
   rcases List.mem_append.1 hx with h1 | h1
   · exact h.nm x h1
   · rw [List.mem_singleton.1 h1];exact hn
 · rw [rV hd,h.ar,ht]
 · rw [List.take_add_one,hd,Option.toList_some] at hx
   rcases List.mem_append.1 hx with h1 | h1
   · exact h.pk x h1
   · rw [List.mem_singleton.1 h1]
     have h2:=h.nd
     have h3:=h.kn
     rw [ht] at h2 h3
     exact ⟨h2,h3⟩
end
end Go.Proofs.YtfkcmbonmpcbfaaGreat

namespace Go.Proofs.YtfkcmbonmpcbfaaGreat
open Go.RowKit Go.Lp Go.Sy
open Go.Proofs.Tryz
attribute [local irreducible] aL aB awp aC fwp Quiet
theorem uy(l:Sl Int)(hl:l.l.length≤1000000):Con Tryz.prog 347 [l.val] [ShF bZ l] [] fun r ps hp=>ps=[]∧∃ (ad:Option Addr) (c:Nat),r=.slice ad l.l.length c∧hp=[aD (.slice ad l.l.length c) 3 1 (l.l.map bZ)]:=by
 refine EN1 Tryz.func347 rfl ?_
 refine gg (φ:=l.ad=none→l.l=[]) (fun w S fp hst => ?_) (fun hnil => ?_)
 · intro hn
   have hrep:ea w S (.slice l.ad l.l.length l.cap) (.sl (l.l.map bZ)):=hst.per _ (aF 0 rfl)
   rw [hn] at hrep
   generalize hrw:l.l.map bZ=rows at hrep
   generalize l.l.length=m at hrep
   cases hrep with
   | e=>exact List.map_eq_nil_iff.1 hrw
 refine aSR (aA rfl (aNs (aSR (aM rfl (aU rfl (vM Tryz.underlying26 rfl) (aNn ?_))))))
 refine ah _ rfl (fun h1 => ?_) (fun h1 => ?_)
 ·skip
  have hl0:l.l=[]:=hnil (by simpa using h1)
  refine aq (ew 3 1 ?_)
  show awp _ _ _ _ ⟨_,_,[_]⟩
  refine ae (aA rfl (aNn (aj (aN (FZ1 [0] Tryz.results347 rfl ?_)))))
  exact ⟨rfl,none,0,by rw [hl0];rfl,by rw [hl0];rfl⟩
 ·skip
  refine ai (an (aSR (LT rfl (vZ el26 rfl (fun v3_0=>(aHN ?_))))))
  refine aM rfl ?_
  refine aI rfl (qC 0 el26 el26 rfl rfl rfl rfl (aF 0 rfl) ((fun r hr=>by obtain ⟨z,_,rfl⟩:=List.mem_map.1 hr;rfl)) (by show ([]:List (List D)).length+(l.l.map bZ).length≤_;rw [List.length_map];exact Nat.le_trans (show 0+l.l.length≤1000000 by omega) (by decide)) (l.l.length) (by simp;try omega) (fun v3_2 c3_2 => ?_))
  refine aHK ?_
  refine aA rfl (aNn (aj (FZ1 [0] Tryz.results347 rfl ?_)))
  exact ⟨rfl,v3_2,c3_2,rfl,rfl⟩
end Go.Proofs.YtfkcmbonmpcbfaaGreat

namespace Go.Proofs.YtfkcmbonmpcbfaaGreat
open Go.RowKit Go.Lp Go.Sy Go.Sort Go.Shelf
open Go.Proofs.Tryz
theorem jv{v:Value}{T:TypeId}(zs:List Int)(hz:zs.length<4611686018427387904):Con Tryz.prog 185 [v] [] [aD v T 1 (bI encI zs)] fun _ ps' hp'=>ps'=[]∧hp'=[aD v T 1 (bI encI (ed zs))]:=by
 have hlen:(ed zs).length=zs.length:=List.length_mergeSort _
 refine jY (zs1:=ed zs) (rest:=[]) (fun _=>rfl) (by simp [hlen]) (fun hv hz w => ?_) (fun b cap w hv hb hc hm hH => ?_)
 · subst hv;subst hz
   refine (Any.slices_Sort_int_none Tryz.lays189 none 0 w).mono fun e w' ⟨he,hw⟩=>⟨_,he,hw,rfl,?_⟩
   rw [show ed []=[] by simp [ed]]
 · refine (Any.slices_Sort_int Tryz.lays189 b 0 cap zs w hH hb hz).mono fun e w' ⟨he,n,os,hw⟩=>⟨⟨_,he,rfl,by rw [hlen,hv]⟩,n,os,by rw [List.append_nil];exact hw⟩
theorem kv{v:Value}{T:TypeId}(zs:List Int):Con Tryz.prog 348 [v] [] [aD v T 1 (bI encI zs)] fun r ps' hp'=>ps'=[]∧∃ ad c,r=.slice ad (Lib.compact zs).length c∧hp'=[aD r T 1 (bI encI (Lib.compact zs))]:=by
 have hle:(Lib.compact zs).length≤zs.length:=by
   unfold Lib.compact Lib.compactUpTo
   rw [List.length_map]
   exact Nat.le_trans (List.length_filter_le _ _) (by simp)
 refine jY (zs1:=Lib.compact zs) (rest:=List.replicate (zs.length-(Lib.compact zs).length) 0) (fun _=>rfl) (by simp;omega) (fun hv hz w => ?_) (fun b cap w hv hb hc hm hH => ?_)
 · subst hv;subst hz
   refine (Any.slices_Compact_int_empty Tryz.lays20 none 0 w).mono fun e w' ⟨he,hw⟩=>⟨_,he,hw,rfl,none,0,rfl,rfl⟩
 · refine (Any.slices_Compact_int Tryz.lays20 b 0 cap zs w hH (by unfold maxLen at hm;omega) hc).mono fun e w' ⟨he,n,hw⟩=>⟨⟨_,he,rfl,_,_,rfl,rfl⟩,n,#[],?_⟩
   rw [Sort.grow_empty];exact hw
theorem q9{v:Value}{T:TypeId}(zs:List Int):Con Tryz.prog 349 [v] [] [aD v T 1 (bI encI zs)] fun _ ps' hp'=>ps'=[]∧hp'=[aD v T 1 (bI encI zs.reverse)]:=by
 refine jY (zs1:=zs.reverse) (rest:=[]) (fun _=>rfl) (by simp) (fun hv hz w => ?_) (fun b cap w hv hb hc hm hH => ?_)
 · subst hv;subst hz
   exact (Any.slices_Reverse_int_empty Tryz.lays112 none 0 w).mono fun e w' ⟨he,hw⟩=>⟨_,he,hw,rfl,rfl⟩
 · refine (Any.slices_Reverse_int Tryz.lays112 b 0 cap zs w hH (by unfold maxLen at hm;omega)).mono fun e w' ⟨he,n,hw⟩=>⟨⟨_,he,rfl,by rw [List.length_reverse,hv]⟩,n,#[],?_⟩
   rw [Sort.grow_empty,List.append_nil];exact hw
theorem nq{ad:Option Addr}{c:Nat}(zs:List Int)(hz:zs.length≤1000000):Con Tryz.prog 347 [.slice ad zs.length c] [Sh (.slice ad zs.length c) (.sl (bI encI zs))] [] fun r ps' hp'=>ps'=[]∧hp'=[aD r 3 1 (bI encI zs)] :=
 (uy ⟨ad,c,zs⟩ hz).post fun _ _ _ ⟨h1,_,_,h2,h3⟩=>⟨h1,by rw [h2];exact h3⟩
end Go.Proofs.YtfkcmbonmpcbfaaGreat

namespace Go.Proofs.YtfkcmbonmpcbfaaGreat
open Go.RowKit Go.Lp Go.Sy
open Go.Proofs.Tryz
attribute [local irreducible] aL aB awp aC fwp Quiet
set_option maxHeartbeats 1000000 in
theorem sB(N:Nat)(hN:N≤1000000)(l:Sl ct)(hl:l.l.length≤100000000)(hr:∀ a∈l.l,0≤a.from_∧a.from_<N) :
   Con Tryz.prog 339 [.int .i64 N,l.val] [ShF ct.row l] [] fun r ps hp=>ps=[]∧hp=[iO r 26 3 encI (cC N l.l)]:=by
 refine EN2 Tryz.func339 rfl (aSR (aA rfl (aNn (aSR (aM rfl (LT rfl (fR (m:=N) (zs:=[.slice none 0 0]) el381 (by kernel_rfl) rfl (by decide) (dv rfl (rfl)) (dv rfl (rfl)) (by omega) rfl (fun v1_1=>(aHN ?_)))))))))
 refine aA rfl (aNs (aq (l0 (α:=Int) (E:=3) (enc:=encI) 0 N rfl (cA (.of (aF 0 rfl)) (fun hlen=>(ae (aM rfl (aU rfl (aY Tryz.underlying354 rfl) (aM rfl (aNn (ao (aR [5,11,12,13] [0] [0] (fun (k:Nat) s=>k≤l.l.length∧∃ vo,s=⟨[(5,true,vo),(11,true,l.val),(12,true,.int .i64 l.l.length),(13,true,.int .i64 k)],[ShF ct.row l],[iO vo 26 3 encI (dh N (l.l.take k))]⟩) (fun k=>l.l.length-k) rfl (⟨0,Nat.zero_le _,_,rfl⟩) ?_))))))))))))
 rintro k s ⟨hk,vo,rfl⟩
 refine aSR (aU rfl (bg rfl rfl) (aNs ?_))
 refine ah _ rfl (fun h1 => ?_) (fun h1 => ?_)
 ·skip
  have hk':k<l.l.length:=by simpa using h1
  obtain ⟨a,ha⟩:∃ a,l.l[k]? = some a:=⟨l.l[k]'hk',by simp⟩
  have har:=hr a (List.mem_of_getElem? ha)
  refine ai (an (aq (ao (aSR (UI Tryz.underlying354 tk356 0 rfl rfl rfl rfl rfl (aJ ha) rfl rfl (fun ⟨b4_0,o4_0⟩=>(US 0 tk356 0 rfl rfl rfl rfl rfl (LT rfl (bt (zs:=[.int .i64 0,.int .i64 0]) (by kernel_rfl) rfl (fun b4_2=>(aHN ?_)))))))))))
  refine aI rfl (aW 1 tk356 rfl rfl rfl rfl (aHK ?_))
  refine aNn ?_
  have hkk:a.from_.toNat<(dh N (l.l.take k)).length:=by rw [cG];omega
  obtain ⟨xr,hxr⟩:∃ xr,(dh N (l.l.take k))[a.from_.toNat]? = some xr:=⟨(dh N (l.l.take k))[a.from_.toNat]'hkk,by simp⟩
  have hxl:xr.length≤100000000:=by have:=qp N _ (List.mem_of_getElem? hxr);rw [List.length_take] at this;omega
  refine iq 0 a.from_.toNat rfl hxr (fun vs v hvl hv => ?_)
  rw [cG] at hvl
  have hne:cF vs≠[]:=fun h0=>by
    have:=congrArg List.length h0
    simp [cF,hvl] at this;omega
  refine eb 0 rfl hne (fun B cp hvo => ?_)
  have hvr:(cF vs).length=N:=by simp [cF,hvl]
  rw [hvr] at hvo
  subst hvo
  have hrow:(cF vs)[a.from_.toNat]? = some [.v v]:=by simp [cF,hv]
  show awp _ _ _ _ ⟨_,_,[_,_,_,_]⟩
  refine DC [11,13] [13] [b4_2] 14 (CF 0 rfl rfl rfl (az rfl) (CF 1 rfl rfl rfl (qFA (off:=0) rfl) ?_))
  refine dt 2 1 rfl (by kernel_rfl) true rfl rfl (by simp) tk3 (fun _=>rfl) rfl rfl ?_
  refine CF 3 rfl rfl rfl (az rfl) (CF 4 rfl rfl rfl (qFA (off:=0) rfl) ?_)
  refine dt 5 1 rfl (by kernel_rfl) true rfl rfl (by simp) tk3 (fun _=>rfl) rfl rfl ?_
  refine CF 6 rfl rfl rfl (eF a.from_.toNat el381 rfl rfl (by omega) (by omega)) (CQ 7 rfl rfl rfl (bb (v:=.slice (some ⟨B,0,none⟩) N cp) (u:=v) 0 a.from_.toNat 0 tk26 rfl rfl hrow rfl rfl) (CF 8 rfl rfl rfl (qFA (off:=1) rfl) ?_))
  refine dt 9 1 rfl (by kernel_rfl) true rfl rfl (by simp) tk3 (fun _=>rfl) rfl rfl ?_
  refine cr 10 [] (by kernel_rfl) (bD ?_ bX)
  refine c7 10 rfl rfl (Eff.x (id (WL (zs:=[.int .i64 0]) el26 rfl rfl rfl (.more rfl (.v rfl .nil) .nil) rfl rfl (fun v5_10=>(CST ?_)))))
  refine cr 11 [] (by kernel_rfl) (bD ?_ bX)
  refine c7 11 rfl rfl (Eff.framed (q:=false) [2,4] rfl rfl (gF 1 rfl rfl oX) ?_)
  refine id (cJ 0 el26 rfl rfl rfl rfl (dY 1 el26 rfl (by simp)) (by first | assumption | simp) (by simp [cI];omega) _ rfl (fun v5_11 c5_11 => ?_))
  refine i7 (CST ?_)
  refine CF 12 rfl rfl rfl (eF a.from_.toNat el381 rfl rfl (by omega) (by omega)) ?_
  refine cr 13 [] (by kernel_rfl) (bD ?_ bX)
  refine c7 13 rfl rfl (Eff.wild (q:=false) (dm 0 a.from_.toNat 0 tk26 rfl rfl rfl hrow rfl (.v rfl .nil) rfl (by decide) (CST ?_)))
  refine fg (by kernel_rfl) (bo (an ?_))
  refine lZ (hp':=[aD (.slice (some ⟨B,0,none⟩) N cp) 26 1 (cF (vs.set a.from_.toNat (.slice v5_11 (xr.length+1) c5_11))),_,aD (.slice v5_11 (xr.length+1) c5_11) 3 1 (bI encI (xr++[a.to_])),bT ((inner 3 encI vs (dh N (l.l.take k))).set a.from_.toNat emp),_]) (by rw [jJ,cI];simp [bI,ka];exact ⟨rfl,rfl⟩) ?_
  refine fD 0 2 3 a.from_.toNat rfl rfl rfl rfl rfl rfl (by rw [hvl,cG]) hkk ?_
  show awp _ _ _ _ ⟨_,_,[_,_,_,_,_]⟩
  refine ae (aU rfl (aO rfl rfl (by omega)) (aM rfl (aNn ?_)))
  refine ⟨[5,11,12,13],[0],[0],rfl,?_⟩
  refine ⟨k+1,⟨by omega,.slice (some ⟨B,0,none⟩) N cp,?_⟩,by omega⟩
  rw [tt _ _ ha,show fh (dh N (l.l.take k)) a=(dh N (l.l.take k)).set a.from_.toNat (xr++[a.to_]) by unfold fh;rw [List.getD_eq_getElem?_getD,hxr];rfl]
  rfl
 ·skip
  have hkl:k=l.l.length:=by simp at h1;omega
  rw [hkl,List.take_length]
  refine aS (aV (aV (ba (an (aq (aq (xe 0 rfl (fun ad cp hvo => ?_))))))))
  rw [cG] at hvo
  subst hvo
  refine ae (aM rfl (aU rfl (aY Tryz.underlying381 rfl) (aM rfl (aNn (ao ?_)))))
  refine aR [5,32,33] [] [0] (fun (j:Nat) s=>j≤N∧s=⟨[(5,true,.slice ad N cp),(32,true,.int .i64 N),(33,true,.int .i64 j)],[],[iO (.slice ad N cp) 26 3 encI (fy (dh N l.l) j)]⟩) (fun j=>N-j) rfl (⟨0,Nat.zero_le _,by rw [show fy (dh N l.l) 0=dh N l.l by simp [fy]];rfl⟩) ?_
  rintro j s ⟨hj,rfl⟩
  refine aSR (aU rfl (bg rfl rfl) (aNs ?_))
  refine ah _ rfl (fun h2 => ?_) (fun h2 => ?_)
  ·skip
   have hj':j<N:=by simpa using h2
   have hjj:j<(dh N l.l).length:=by rw [cG];omega
   obtain ⟨xr,hxr⟩:∃ xr,(dh N l.l)[j]? = some xr:=⟨(dh N l.l)[j]'hjj,by simp⟩
   have hxl:xr.length≤100000000:=by have:=qp N _ (List.mem_of_getElem? hxr);omega
   refine ai (an (aq (ao (aSR (aM rfl (aA rfl (aNs (iq 0 j rfl (vz hxr) (fun vs v hvl hv => ?_)))))))))
   rw [j7 _ _ (by rw [cG];omega),cG] at hvl
   have hne:cF vs≠[]:=fun h0=>by
     have:=congrArg List.length h0
     simp [cF,hvl] at this;omega
   refine eb 0 rfl hne (fun B cp2 hvo => ?_)
   obtain ⟨rfl,rfl⟩:ad=some ⟨B,0,none⟩∧cp=cp2:=by simp at hvo;exact ⟨hvo.1,hvo.2.2⟩
   have hrow:(cF vs)[j]? = some [.v v]:=by simp [cF,hv]
   show awp _ _ _ _ ⟨_,_,[_,_,_]⟩
   refine ae (aM rfl (aM rfl (aU rfl (eF j el381 rfl rfl (by omega) (by omega)) (aU rfl (bb (v:=.slice (some ⟨B,0,none⟩) N cp) (u:=v) 0 j 0 tk26 rfl rfl hrow rfl rfl) (LF rfl (EC [] [1] rfl (jv _ (by omega)) ?_))))))
   rintro _ _ _ ⟨rfl,rfl⟩
   refine aST ?_
   refine aNn (ae (aM rfl (aM rfl (aM rfl (aM rfl (aU rfl (eF j el381 rfl rfl (by omega) (by omega)) (aU rfl (bb (v:=.slice (some ⟨B,0,none⟩) N cp) (u:=v) 0 j 0 tk26 rfl rfl hrow rfl rfl) (LF rfl (EC [] [1] rfl (kv _) ?_)))))))))
   rintro r11 _ _ ⟨rfl,ad2,c2,rfl,rfl⟩
   refine aST ?_
   refine aU rfl (eF j el381 rfl rfl (by omega) (by omega)) (LF rfl (dm 0 j 0 tk26 rfl rfl rfl hrow rfl (.v rfl .nil) rfl (by decide) (bK (bo (an ?_)))))
   refine lZ (hp':=[aD (.slice (some ⟨B,0,none⟩) N cp) 26 1 (cF (vs.set j (.slice ad2 (Lib.compact (ed xr)).length c2))),aD (.slice ad2 (Lib.compact (ed xr)).length c2) 3 1 (bI encI (cE xr)),bT ((inner 3 encI vs (fy (dh N l.l) j)).set j emp)]) (by rw [jJ];simp [ka];rfl) ?_
   refine fD 0 1 2 j rfl rfl rfl rfl rfl rfl (by rw [hvl,j7 _ _ (by rw [cG];omega),cG]) (by rw [j7 _ _ (by rw [cG];omega)];exact hjj) ?_
   show awp _ _ _ _ ⟨_,_,[_,_,_]⟩
   refine ae (aU rfl (aO rfl rfl (by omega)) (aM rfl (aNn ?_)))
   refine ⟨[5,32,33],[],[0],rfl,?_⟩
   refine ⟨j+1,⟨by omega,?_⟩,by omega⟩
   rw [← tu hxr];rfl
  ·skip
   have hjl:j=N:=by simp at h2;omega
   subst hjl
   have e:fy (dh j l.l) j=cC j l.l:=by have:=cG j l.l;unfold fy cC;rw [List.take_of_length_le (by omega),List.drop_of_length_le (by omega),List.append_nil]
   rw [e]
   refine aS (aV (aV (ba (an (aSR (aM rfl (aA rfl (aNn (aj (FZ1 [0] Tryz.results339 rfl ?_))))))))))
   exact ⟨rfl,rfl⟩
theorem adm(N:Nat)(hN:N≤1000000)(w:World):Calls Tryz.prog 210 #[.int .u64 (IntKind.u64.wrap 1),.int .u64 (IntKind.u64.wrap (N:Int))] w fun e w'=>e=.returned (.tuple #[.int .u64 0,.int .u64 N])∧Go.Sy.Below w.heap.size w w':=by
 have h:=Any.bits_Mul Tryz.lays212 1 N (by omega) (by omega) w
 have e1:IntKind.u64.wrap 1=1:=by decide
 have e2:IntKind.u64.wrap (N:Int)=N:=by rw [IntKind.wrap_u64];omega
 rw [e1,e2]
 refine h.mono fun e w' ⟨h1,h2⟩=>⟨?_,by rw [h2];exact Go.Sy.Below.refl _ _⟩
 rw [h1]
 have e3:1*N / 18446744073709551616=0:=by omega
 have e4:1*N % 18446744073709551616=N:=by omega
 rw [e3,e4];rfl
theorem sD{ad:Option Addr}{c:Nat}(v:Int):Con Tryz.prog 346 [.slice ad 1 c,.int .i64 ((0:Nat):Int)] [Sh (.slice ad 1 c) (.sl (bI encI [v]))] [] fun r ps hp=>ps=[]∧hp=[aD r 3 1 (bI encI [])]:=by
 refine EN2 Tryz.func346 rfl (aSR (aA rfl (aNs (aSR (aM rfl (aU rfl (bg rfl rfl) (aNn ?_)))))))
 refine ah _ rfl (fun h1 => ?_) (fun h1 => ?_)
 ·skip
  exact absurd h1 (by simp)
 ·skip
  refine ai (an (aSR (aM rfl (aU rfl (aY Tryz.underlying26 rfl) (aU rfl (gD (by kernel_rfl) Tryz.underlying305 rfl) (aM rfl (aU rfl (gD (by kernel_rfl) Tryz.underlying305 rfl) (aU rfl (QC rfl (fun w S fp hst=>adm 0 (by omega) w)) ?_))))))))
  refine aM rfl (aU rfl (aK rfl rfl) (aU rfl (aK rfl rfl) (aA rfl (aA rfl (aNs (aSR (aM rfl (aU rfl (dy rfl rfl) (aM rfl (aG rfl rfl (fun hc=>az rfl) (aG rfl rfl (fun hc=>dy (aa rfl hc) rfl) (aU rfl (cm rfl rfl (fun h=>gf rfl h)) (aNn ?_)))))))))))))
  refine ah _ rfl (fun h2 => ?_) (fun h2 => ?_)
  ·skip
   exact absurd h2 (by decide)
  ·skip
   refine ai (an (aSR (aM rfl (aU rfl (gD (by kernel_rfl) Tryz.underlying3 rfl) (LT rfl (fR (m:=0) (zs:=[.int .i64 0]) el26 (by kernel_rfl) rfl (by decide) (dv rfl (rfl)) (dv rfl (rfl)) (by omega) rfl (fun v6_2=>(aHN ?_))))))))
   refine aA rfl (aNn (aSR (aM rfl (aM rfl (aU rfl (abx el26 rfl rfl) (aA rfl (aNs (ao (aR [7,8] [] [0] (fun (k:Nat) s=>s=⟨[(7,true,.slice v6_2 0 0),(8,true,.int .i64 0)],[],[aD (.slice v6_2 0 0) 3 1 (bI encI [])]⟩) (fun k=>k) rfl (⟨0,rfl⟩) ?_)))))))))
   rintro k s rfl
   refine aq (aSR (aM rfl (aM rfl (aU rfl (dF 0 Tryz.underlying26 rfl rfl) (aU rfl (bg rfl rfl) (aNn ?_))))))
   refine ah _ rfl (fun h3 => ?_) (fun h3 => ?_)
   ·skip
    exact absurd h3 (by decide)
   ·skip
    refine aS (aV (aV (ba (an (aSR (aM rfl (aA rfl (aNn (aj (FZ1 [0] Tryz.results346 rfl ?_))))))))))
    exact ⟨rfl,rfl⟩
theorem sE{ad:Option Addr}{c:Nat}(v:Int)(N:Nat)(hN:N≤1000000)(h0:0<N):Con Tryz.prog 346 [.slice ad 1 c,.int .i64 N] [Sh (.slice ad 1 c) (.sl (bI encI [v]))] [] fun r ps hp=>ps=[]∧hp=[aD r 3 1 (bI encI (List.replicate N v))]:=by
 refine EN2 Tryz.func346 rfl (aSR (aA rfl (aNs (aSR (aM rfl (aU rfl (bg rfl rfl) (aNn ?_)))))))
 refine ah _ rfl (fun h1 => ?_) (fun h1 => ?_)
 ·skip
  exact absurd h1 (by simp)
 ·skip
  refine ai (an (aSR (aM rfl (aU rfl (aY Tryz.underlying26 rfl) (aU rfl (gD (by kernel_rfl) Tryz.underlying305 rfl) (aM rfl (aU rfl (gD (by kernel_rfl) Tryz.underlying305 rfl) (aU rfl (QC rfl (fun w S fp hst=>adm N hN w)) ?_))))))))
  refine aM rfl (aU rfl (aK rfl rfl) (aU rfl (aK rfl rfl) (aA rfl (aA rfl (aNs (aSR (aM rfl (aU rfl (dy rfl rfl) (aM rfl (aG rfl rfl (fun hc=>az rfl) (aG rfl rfl (fun hc=>dy (aa rfl hc) rfl) (aU rfl (cm rfl rfl (fun h=>gf rfl h)) (aNn ?_)))))))))))))
  refine ah _ rfl (fun h2 => ?_) (fun h2 => ?_)
  ·skip
   exact absurd h2 (by simp;omega)
  ·skip
   refine ai (an (aq ?_))
   have hw:=wrapN N hN
   refine ae (aM rfl (aU rfl (gD (by kernel_rfl) Tryz.underlying3 rfl) (LT rfl (fR (m:=N) (zs:=[.int .i64 0]) el26 (by kernel_rfl) rfl (by decide) (dv rfl (hw)) (dv rfl (hw)) (by omega) rfl (fun v6_2=>(aHN ?_))))))
   refine aA rfl (aNs ?_)
   refine lZ (hp':=[aD (.slice v6_2 N N) 3 1 (bI encI (List.replicate N 0))]) (by simp [bI]) ?_
   refine eb 0 rfl (by simp [bI];omega) (fun B cp hvo => ?_)
   obtain ⟨rfl,rfl⟩:v6_2=some ⟨B,0,none⟩∧N=cp:=by simp at hvo;exact ⟨hvo.1,hvo.2.2⟩
   refine ae (aM rfl (aM rfl ?_))
   refine LF rfl (abl (zs:=List.replicate N 0) (xs:=[v]) 0 el26 (fun _=>rfl) rfl rfl rfl rfl (by simp) (aF 0 rfl) (by simp) (by simp;omega) (by simp;omega) (part N 1 v) (by simp [part]) rfl ?_)
   refine aA rfl (aNs (ao (aR [7,8] [] [0] (fun (k:Nat) s=>(1≤k∧k≤N)∧s=⟨[(7,true,.slice (some ⟨B,0,none⟩) N N),(8,true,.int .i64 k)],[],[aD (.slice (some ⟨B,0,none⟩) N N) 3 1 (bI encI (part N k v))]⟩) (fun k=>N-k) rfl (⟨1,⟨by omega,by omega⟩,rfl⟩) ?_)))
   rintro k s ⟨⟨hk1,hk2⟩,rfl⟩
   refine aq (aSR (aM rfl (aM rfl (aU rfl (aY Tryz.underlying26 rfl) (aU rfl (bg rfl rfl) (aNn ?_))))))
   refine ah _ rfl (fun h3 => ?_) (fun h3 => ?_)
   ·skip
    have hkN:k<N:=by simp at h3;omega
    obtain ⟨j,hj⟩:∃ j,j=min k (N-k):=⟨_,rfl⟩
    refine ai (an (ao (DR [7] 10 (y9 0 rfl (by kernel_rfl) true rfl rfl (fun _=>az rfl) (VM 1 rfl rfl (VM 2 rfl rfl (bV 3 rfl rfl (jE k (N-k) k el26 rfl rfl rfl hkN (Nat.le_refl _) rfl (by omega)) (VM 4 rfl rfl (VM 5 rfl rfl (bV 6 rfl rfl (fA k el26 rfl rfl rfl (by omega) (Nat.le_refl _)) ?_))))))))))
    refine VE 7 rfl rfl (abk (zs:=part N k v) 0 el26 (fun _=>rfl) rfl rfl rfl rfl (tq v hk2) j hj (by rw [tq v hk2];omega) (part N (k+j) v) (yv v (by omega) (by omega)) ?_)
    refine bST rfl ?_
    refine bV 8 rfl rfl (aO rfl rfl (by omega)) (bV 9 rfl rfl (bB rfl) (BN (bo (an ?_))))
    refine ⟨[7,8],[],[0],rfl,?_⟩
    refine ⟨k+j,⟨⟨by omega,by omega⟩,?_⟩,by omega⟩
    rw [Int.natCast_add];rfl
   ·skip
    have hkN:k=N:=by simp at h3;omega
    subst hkN
    rw [show part k k v=List.replicate k v by simp [part]]
    refine aS (aV (aV (ba (an (aSR (aM rfl (aA rfl (aNn (aj (FZ1 [0] Tryz.results346 rfl ?_))))))))))
    exact ⟨rfl,rfl⟩
end Go.Proofs.YtfkcmbonmpcbfaaGreat

namespace Go.Proofs.YtfkcmbonmpcbfaaGreat
open Go.RowKit Go.Lp Go.Sy Go.Lv
open Go.Proofs.Tryz
attribute [local irreducible] aL aB awp aC fwp Quiet
theorem uH{ad:Option Addr}{c:Nat}(v:Int)(N:Nat)(hN:N≤1000000):Con Tryz.prog 346 [.slice ad 1 c,.int .i64 N] [Sh (.slice ad 1 c) (.sl (bI encI [v]))] [] fun r ps hp=>ps=[]∧hp=[aD r 3 1 (bI encI (List.replicate N v))]:=by
 cases N with
 | zero=>exact sD v
 | succ N=>exact sE v (N+1) hN (Nat.succ_pos _)
set_option maxHeartbeats 4000000 in
theorem uI(N:Nat)(hN:N≤1000000)(l:Sl ct)(hl:l.l.length≤100000000)(hr:∀ a∈l.l,gz N a)(rs:Sl Int)(hrs:rs.l.length≤1000000) :
   Con Tryz.prog 305 [.int .i64 N,l.val,rs.val] [ShF ct.row l,ShF (fun z=>[.v (encI z)]) rs] [] fun r ps hp=>ps=[]∧hp=[aD r 3 1 (bI encI (iH N (cC N l.l) (cE rs.l)))]:=by
 have hro:=mh hr
 have hrl:=tZ rs.l
 obtain ⟨M,hM⟩:∃ M,M=(cE rs.l).length+N:=⟨_,rfl⟩
 have hB:=jt N (cE rs.l)
 rw [← hM] at hB
 refine EN3 Tryz.func305 rfl (aSR (aA rfl (aNn (aSR (LT rfl (WL (zs:=[.int .i64 0]) el26 rfl rfl rfl (.more rfl (.v rfl .nil) .nil) rfl rfl (fun v1_0=>(aHN ?_))))))))
 refine aM rfl (LF rfl (EC [] [0] rfl (Con.ofOwn (uH (-1) N hN)) ?_))
 rintro vb _ _ ⟨rfl,rfl⟩
 refine aST ?_
 refine aA rfl (aNs (pH 0 rfl (fun ab cb hvb => ?_)))
 rw [cI,List.length_replicate] at hvb
 subst hvb
 refine ae (aM rfl (LT rfl (EC [0] [] rfl (nq rs.l hrs) ?_)))
 rintro vc _ _ ⟨rfl,rfl⟩
 refine aST ?_
 refine aA rfl (aNn (aSR (aM rfl (LF rfl (EC [] [1] rfl (jv rs.l (by omega)) ?_)))))
 rintro _ _ _ ⟨rfl,rfl⟩
 refine aST ?_
 refine aNs (ew 3 1 ?_)
 show awp _ _ _ _ ⟨_,_,[_,_,_]⟩
 refine ae (aA rfl (aNs (aSR (aM rfl (LF rfl (EC [] [1] rfl (kv _) ?_))))))
 rintro _ _ _ ⟨rfl,au,cu,rfl,rfl⟩
 refine aST ?_
 refine aU rfl (aY Tryz.underlying26 rfl) (aM rfl (aNn (ao (aR [0,1,7,9,24,25,26] [1] [0,1,2] (fun (p:Nat × Value) s=>p.1≤(cE rs.l).length∧s=⟨[(0,true,.int .i64 N),(1,true,l.val),(7,true,.slice ab N cb),(9,true,p.2),(24,true,.slice au (cE rs.l).length cu),(25,true,.int .i64 (cE rs.l).length),(26,true,.int .i64 p.1)],[ShF ct.row l],[aD (.slice ab N cb) 3 1 (bI encI (cS N ((cE rs.l).take p.1)).1),aD (.slice au (cE rs.l).length cu) 3 1 (bI encI (cE rs.l)),aD p.2 3 1 (bI encI (cS N ((cE rs.l).take p.1)).2)]⟩) (fun p=>(cE rs.l).length-p.1) rfl (⟨(0,.slice none 0 0),Nat.zero_le _,rfl⟩) ?_))))
 rintro ⟨k,vw⟩ s ⟨hk,rfl⟩
 dsimp only at hk
 refine aSR (aU rfl (bg rfl rfl) (aNs ?_))
 refine ah _ rfl (fun h1 => ?_) (fun h1 => ?_)
 ·skip
  have hk':k<(cE rs.l).length:=by simp at h1;omega
  obtain ⟨v,hv⟩:∃ v,(cE rs.l)[k]? = some v:=⟨_,List.getElem?_eq_getElem hk'⟩
  have hst:=sd N _ hv
  refine ai (an (aq (ao (aq (eb 1 rfl (kA (by omega)) (fun Bu cpu hvu => ?_))))))
  obtain ⟨rfl,rfl⟩:au=some ⟨Bu,0,none⟩∧cu=cpu:=by simp at hvu;exact ⟨hvu.1,hvu.2.2⟩
  refine ae (aU rfl (eF k el26 rfl rfl rfl hk') (aU rfl (bb (v:=.slice (some ⟨Bu,0,none⟩) (cE rs.l).length cu) (u:=encI v) 1 k 0 tk3 rfl rfl (gW hv) rfl rfl) (aA rfl (aNn (aSR (aM rfl (aU rfl (dR rfl rfl) (aM rfl (aG rfl rfl (fun hc=>az rfl) (aG rfl rfl (fun hc=>az rfl) (aG rfl rfl (fun hc=>bg (aa rfl hc) (aa rfl hc)) (aU rfl (aQ rfl rfl (fun h=>gt rfl h)) (aNn ?_)))))))))))))
  refine ah _ rfl (fun h2 => ?_) (fun h2 => ?_)
  ·skip
   have hvn:0≤v∧v<N:=by simpa using h2
   refine aq ?_
   have hbl:=(ir N ((cE rs.l).take k)).1
   refine eb 0 rfl (kA (by rw [hbl];omega)) (fun B cp hvb => ?_)
   obtain ⟨rfl,rfl⟩:ab=some ⟨B,0,none⟩∧cb=cp:=by simp at hvb;exact ⟨hvb.1,hvb.2.2⟩
   obtain ⟨o,ho⟩:∃ o,(cS N ((cE rs.l).take k)).1[v.toNat]? = some o:=⟨_,List.getElem?_eq_getElem (by rw [hbl];omega)⟩
   have hrow:=gW ho
   refine ae (aM rfl (aM rfl (aM rfl (aU rfl (eF v.toNat el26 rfl rfl (by omega) (by omega)) (LF rfl (dm 0 v.toNat 0 tk3 rfl rfl rfl hrow rfl (.v rfl .nil) rfl (by decide) (aNn (ae (aM rfl (aM rfl (LT rfl (WL (zs:=[.int .i64 0]) el26 rfl rfl rfl (.more rfl (.v rfl .nil) .nil) rfl rfl (fun v10_2=>(aHN ?_))))))))))))))
   refine aI rfl (cJ 2 el26 rfl rfl rfl rfl (dY 3 el26 rfl (by simp)) (by first | assumption | simp) (by have:=(ir N ((cE rs.l).take k)).2;rw [List.length_take] at this;simp [cI];omega) _ rfl (fun v10_3 c10_3 => ?_))
   refine aHK ?_
   refine aA rfl (bK (bo (an (ae (aU rfl (aO rfl rfl (by omega)) (aM rfl (aNn ?_)))))))
   refine ⟨[0,1,7,9,24,25,26],[0],[0,1,2],rfl,?_⟩
   refine ⟨(k+1,.slice v10_3 ((bI encI (cS N ((cE rs.l).take k)).2).length+1) c10_3),⟨by omega,?_⟩,by omega⟩
   dsimp only
   rw [hst]
   unfold dr
   rw [if_pos hvn,sY,jy]
   rfl
  ·skip
   have hvn:¬ (0≤v∧v<N):=by simpa using h2
   refine ai (bo (an (ae (aU rfl (aO rfl rfl (by omega)) (aM rfl (aNn ?_))))))
   refine ⟨[0,1,7,9,24,25,26],[0],[0,1,2],rfl,?_⟩
   refine ⟨(k+1,vw),⟨by omega,?_⟩,by omega⟩
   dsimp only
   rw [hst]
   unfold dr
   rw [if_neg hvn]
   rfl
 ·skip
  have hkl:k=(cE rs.l).length:=by simp at h1;omega
  subst hkl
  rw [List.take_length]
  refine aS (aV (aV (ba (an (aSR (aM rfl (aM rfl (LT rfl (EC [0] [] rfl (sB N hN l hl (fun a ha=>(hr a ha).1)) ?_)))))))))
  rintro vn _ _ ⟨rfl,rfl⟩
  refine aST ?_
  refine aA rfl (aNs (aq (gh 3 rfl (fun so hso hsl => ?_))))
  subst hso
  refine ae (aA rfl (aNn (ao (aR [7,9,12,13] [2,1] [0,2] (fun (p:Nat × Value) s=>p.1≤(bfs (cC N l.l) (cS N (cE rs.l)) p.1).2.length∧s=⟨[(7,true,.slice ab N cb),(9,true,p.2),(12,true,so.val),(13,true,.int .i64 p.1)],[b6 (ShF fun z=>[.v (encI z)]) so.l,ShF (fun t:Sl Int=>[.v t.val]) so],[aD (.slice ab N cb) 3 1 (bI encI (bfs (cC N l.l) (cS N (cE rs.l)) p.1).1),aD p.2 3 1 (bI encI (bfs (cC N l.l) (cS N (cE rs.l)) p.1).2)]⟩) (fun p=>M-p.1) rfl (⟨(0,vw),Nat.zero_le _,rfl⟩) ?_))))
  rintro ⟨k,vw2⟩ s ⟨hk,rfl⟩
  dsimp only at hk
  have hBk:=mW hro hB k
  have hkM:=hBk.le
  refine aq (aq ?_)
  obtain ⟨sk,hsk⟩:∃ sk,bfs (cC N l.l) (cS N (cE rs.l)) k=sk:=⟨_,rfl⟩
  rw [hsk] at hk hBk hkM ⊢
  refine pH 1 rfl (fun aw cw hvw => ?_)
  rw [cI] at hvw
  subst hvw
  refine ae (aM rfl (aM rfl (aU rfl (aY Tryz.underlying26 rfl) (aU rfl (bg rfl rfl) (aNn ?_)))))
  refine ah _ rfl (fun h3 => ?_) (fun h3 => ?_)
  ·skip
   have hk':k<sk.2.length:=by simp at h3;omega
   obtain ⟨u,hu⟩:∃ u,sk.2[k]? = some u:=⟨_,List.getElem?_eq_getElem hk'⟩
   have hun:=hBk.mem u (List.mem_of_getElem? hu)
   have hsol:so.l.length=N:=by rw [← List.length_map (f:=Sl.l),hsl];unfold cC;rw [List.length_map,cG]
   refine ai (an (aq (ao (aq (eb 1 rfl (kA (by omega)) (fun Bw cpw hvw => ?_))))))
   obtain ⟨rfl,rfl⟩:aw=some ⟨Bw,0,none⟩∧cw=cpw:=by simp at hvw;exact ⟨hvw.1,hvw.2.2⟩
   refine ae (aM rfl (aM rfl (aM rfl (aU rfl (eF k el26 rfl rfl rfl hk') (aU rfl (bb (v:=.slice (some ⟨Bw,0,none⟩) sk.2.length cw) (u:=encI u) 1 k 0 tk3 rfl rfl (gW hu) rfl rfl) (fZ true rfl rfl (fun _=>aX Tryz.underlying381 tk26 rfl ((.of (aF 1 rfl))) rfl (er (i:=u) (by omega) (by omega)) (by omega) rfl) (fun h=>absurd h (by decide)) (fun ⟨b16_5,o16_5⟩=>(US 0 tk26 0 rfl rfl rfl rfl rfl (aU rfl (aY Tryz.underlying26 rfl) (aM rfl (aNn (ao ?_))))))))))))
   obtain ⟨row,hrow⟩:∃ row,elt so.l u=row:=⟨_,rfl⟩
   have hrm:row∈so.l:=by rw [← hrow];exact List.mem_of_getElem? (gV (by omega) hun.1)
   have hrl:row.l=elt (cC N l.l) u:=by rw [← hrow,← hsl];unfold elt;rw [List.getD_eq_getElem?_getD,List.getD_eq_getElem?_getD,List.getElem?_map];cases so.l[u.toNat]? <;> rfl
   have hrb:∀ x∈row.l,0≤x∧x<N:=by rw [hrl];exact hro u
   rw [hrow]
   refine cA (Ent.allm (f:=ShF fun z:Int=>[.v (encI z)]) (.of (aF 1 rfl)) hrm) (fun hrlen=>(aR [7,9,12,13,61,62,63] [1,0] [0,1] (fun (q:Nat × Value) s=>q.1≤row.l.length∧s=⟨[(7,true,.slice ab N cb),(9,true,q.2),(12,true,so.val),(13,true,.int .i64 k),(61,true,row.val),(62,true,.int .i64 row.l.length),(63,true,.int .i64 q.1)],[b6 (ShF fun z=>[.v (encI z)]) so.l,ShF (fun t:Sl Int=>[.v t.val]) so],[aD (.slice ab N cb) 3 1 (bI encI ((row.l.take q.1).foldl (visit u) sk).1),aD q.2 3 1 (bI encI ((row.l.take q.1).foldl (visit u) sk).2)]⟩) (fun q=>row.l.length-q.1) rfl (⟨(0,.slice (some ⟨Bw,0,none⟩) sk.2.length cw),Nat.zero_le _,rfl⟩) ?_))
   rintro ⟨j,vw3⟩ s ⟨hj,rfl⟩
   dsimp only at hj
   have hBj:=lT hun.1 (row.l.take j) sk hBk (fun x hx=>hrb x (List.mem_of_mem_take hx))
   have huj:=rC (iJ (u:=u) (row.l.take j) sk) hu
   refine aSR (aU rfl (bg rfl rfl) (aNs ?_))
   refine ah _ rfl (fun h4 => ?_) (fun h4 => ?_)
   ·skip
    have hj':j<row.l.length:=by simp at h4;omega
    obtain ⟨x,hx⟩:∃ x,row.l[j]? = some x:=⟨_,List.getElem?_eq_getElem hj'⟩
    have hxn:=hrb x (List.mem_of_getElem? hx)
    have hvs:=uc (u:=u) row.l sk hx
    obtain ⟨sj,hsj⟩:∃ sj,(row.l.take j).foldl (visit u) sk=sj:=⟨_,rfl⟩
    rw [hsj] at hBj huj hvs ⊢
    refine ai (an (aq (ao (aSR (fZ true rfl rfl (fun _=>aX Tryz.underlying26 tk3 rfl ((Ent.allm (f:=ShF fun z:Int=>[.v (encI z)]) (.of (aF 0 rfl)) hrm)) rfl (aJ hx) rfl rfl) (fun h=>absurd h (by decide)) (fun ⟨b18_0,o18_0⟩=>(US 0 tk3 0 rfl rfl rfl rfl rfl (aA rfl (aNs ?_)))))))))
    refine eb 0 rfl (kA (by rw [hBj.len];omega)) (fun B cp hvb => ?_)
    obtain ⟨rfl,rfl⟩:ab=some ⟨B,0,none⟩∧cb=cp:=by simp at hvb;exact ⟨hvb.1,hvb.2.2⟩
    have hbx:sj.1[x.toNat]? = some (elt sj.1 x):=gV (by rw [hBj.len];exact hxn.2) hxn.1
    refine ae (aM rfl (aM rfl (aU rfl (eF x.toNat el26 rfl rfl (by omega) (by omega)) (aU rfl (bb (v:=.slice (some ⟨B,0,none⟩) N cb) (u:=encI (elt sj.1 x)) 0 x.toNat 0 tk3 rfl rfl (gW hbx) rfl rfl) (aU rfl (bg rfl rfl) (aNn ?_))))))
    refine ah _ rfl (fun h5 => ?_) (fun h5 => ?_)
    ·skip
     have hneg:elt sj.1 x<0:=by simpa using h5
     refine aq ?_
     have hklt:k<sj.2.length:=(List.getElem?_eq_some_iff.1 huj).1
     refine eb 1 rfl (kA (by omega)) (fun Bw2 cpw2 hvw => ?_)
     rw [cI] at hvw
     subst hvw
     refine ae (aM rfl (aM rfl (aM rfl (aM rfl (aU rfl (eF k el26 rfl rfl rfl hklt) (aU rfl (bb (v:=.slice (some ⟨Bw2,0,none⟩) sj.2.length cpw2) (u:=encI u) 1 k 0 tk3 rfl rfl (gW huj) rfl rfl) (aU rfl (eF x.toNat el26 rfl rfl (by omega) (by omega)) (LF rfl (dm 0 x.toNat 0 tk3 rfl rfl rfl (gW hbx) rfl (.v rfl .nil) rfl (by decide) (aNn (ae (aM rfl (aM rfl ?_)))))))))))))
     refine LT rfl (WL (zs:=[.int .i64 0]) el26 rfl rfl rfl (.more rfl (.v rfl .nil) .nil) rfl rfl (fun v21_2=>(aHN ?_)))
     refine aI rfl (cJ 1 el26 rfl rfl rfl rfl (dY 2 el26 rfl (by simp)) (by first | assumption | simp) (by have:=hBj.le;simp [cI];omega) _ rfl (fun v21_3 c21_3 => ?_))
     refine aHK ?_
     refine aA rfl (bK (bo (an (ae (aU rfl (aO rfl rfl (by omega)) (aM rfl (aNn ?_)))))))
     refine ⟨[7,9,12,13,61,62,63],[1,0],[0,1],rfl,?_⟩
     refine ⟨(j+1,.slice v21_3 ((bI encI sj.2).length+1) c21_3),⟨by omega,?_⟩,by omega⟩
     dsimp only
     rw [hvs]
     unfold visit
     rw [if_pos hneg,sY,jy]
     rfl
    ·skip
     have hneg:¬ elt sj.1 x<0:=by simpa using h5
     refine ai (bo (an (ae (aU rfl (aO rfl rfl (by omega)) (aM rfl (aNn ?_))))))
     refine ⟨[7,9,12,13,61,62,63],[1,0],[0,1],rfl,?_⟩
     refine ⟨(j+1,vw3),⟨by omega,?_⟩,by omega⟩
     dsimp only
     rw [hvs]
     unfold visit
     rw [if_neg hneg]
     rfl
   ·skip
    have hjl:j=row.l.length:=by simp at h4;omega
    subst hjl
    have hk1:bfs (cC N l.l) (cS N (cE rs.l)) (k+1)=row.l.foldl (visit u) sk:=by show mZ _ (bfs (cC N l.l) (cS N (cE rs.l)) k) k=_;rw [hsk];unfold mZ;rw [hu,hrl]
    refine aS (aV (aV (ba (bo (an (ae (aM rfl (aU rfl (aO rfl rfl (by omega)) (aA rfl (aNn ?_))))))))))
    refine ⟨[7,9,12,13],[1,0],[0,1],rfl,?_⟩
    refine ⟨(k+1,vw3),⟨?_,?_⟩,?_⟩
    · dsimp only;rw [hk1,← List.take_length (l:=row.l)];exact (List.getElem?_eq_some_iff.1 huj).1
    · dsimp only;rw [hk1,List.take_length];rfl
    · dsimp only;omega
  ·skip
   have hkl:k=sk.2.length:=by simp at h3;omega
   refine aS (aV (aV (ba (an (aSR (aM rfl (aA rfl (aNn (aj (FZ1 [0] Tryz.results305 rfl ?_))))))))))
   refine ⟨rfl,?_⟩
   rw [← vQ hro (k:=k) (by rw [hsk];exact hkl),hsk];rfl
end Go.Proofs.YtfkcmbonmpcbfaaGreat

namespace Go.Proofs.YtfkcmbonmpcbfaaGreat
open Go.RowKit Go.Lp Go.Sy
def ya(l:List Int)(v:Int):Prop:=0≤v∧v<l.length∧0≤elt l v
def chain(l:List Int):Nat→Int→List Int
 | 0,v=>[v]
 | f+1,v=>if elt l v=v then [v] else v::chain l f (elt l v)
structure Tree (l:List Int) (ρ:Int→Nat):Prop where
 step:∀ v,ya l v→elt l v≠v→ya l (elt l v)∧ρ (elt l v)<ρ v
theorem sg{l:List Int}{ρ:Int→Nat}(hT:Tree l ρ):∀ (f g:Nat) (v:Int),ya l v→ρ v≤f→ρ v≤g→chain l f v=chain l g v
 | 0,0,v,_,_,_=>rfl
 | 0,g+1,v,h,hf,_=>by
   unfold chain
   split
   · rfl
   · rename_i hne;have:=(hT.step v h hne).2;omega
 | f+1,0,v,h,_,hg=>by
   unfold chain
   split
   · rfl
   · rename_i hne;have:=(hT.step v h hne).2;omega
 | f + 1,g+1,v,h,hf,hg=>by
   unfold chain
   split
   · rfl
   · rename_i hne
     obtain ⟨h1,h2⟩:=hT.step v h hne
     rw [sg hT f g _ h1 (by omega) (by omega)]
theorem iu(l:List Int)(f:Nat)(v:Int):chain l f v=v::(chain l f v).tail:=by
 cases f with
 | zero=>rfl
 | succ f=>unfold chain;split<;>rfl
theorem uo{l:List Int}{ρ:Int→Nat}(hT:Tree l ρ){v:Int}(h:ya l v)(hne:elt l v≠v):(chain l (ρ v) v).tail=chain l (ρ (elt l v)) (elt l v):=by
 obtain ⟨h1,h2⟩:=hT.step v h hne
 obtain ⟨f,hf⟩:∃ f,ρ v=f+1:=⟨ρ v-1,by omega⟩
 rw [hf]
 show (if elt l v=v then [v] else v::chain l f (elt l v)).tail=_
 rw [if_neg hne,List.tail_cons]
 exact sg hT _ _ _ h1 (by omega) (Nat.le_refl _)
theorem xj{l:List Int}(f:Nat){v:Int}(h:elt l v=v):chain l f v=[v]:=by
 cases f with
 | zero=>rfl
 | succ f=>unfold chain;rw [if_pos h]
def fP(l:List Int)(ρ:Int→Nat)(to_:Int):List Int:=if elt l to_<0 then [] else (chain l (ρ to_) to_).reverse
open Go.Proofs.Tryz
attribute [local irreducible] aL aB awp aC fwp Quiet
theorem uS(l:Sl Int)(ρ:Int→Nat)(hT:Tree l.l ρ)(to_:Int)(ht:0≤to_∧to_<l.l.length)(hb:ρ to_≤100000) :
   Con Tryz.prog 306 [l.val,.int .i64 to_] [ShF (fun z=>[.v (encI z)]) l] [] fun r ps hp=>hp=[]∧∃ ad c,(ad=none↔fP l.l ρ to_=[])∧r=.slice ad (fP l.l ρ to_).length c∧ps=[Sh (.slice ad (fP l.l ρ to_).length c) (.sl (bI encI (fP l.l ρ to_)))]:=by
 refine EN2 Tryz.func306 rfl (aSR (aA rfl (aNs (aSR (aM rfl (aM rfl (fZ true rfl rfl (fun _=>aX Tryz.underlying26 tk3 rfl ((.of (aF 0 rfl))) rfl (er (i:=to_) (by omega) (by omega)) (by omega) rfl) (fun h=>absurd h (by decide)) (fun ⟨b1_2,o1_2⟩=>(US 0 tk3 0 rfl rfl rfl rfl rfl (aU rfl (bg rfl rfl) (aNn ?_)))))))))))
 refine ah _ rfl (fun h1 => ?_) (fun h1 => ?_)
 ·skip
  refine aSR (aA rfl (aNn ?_))
  refine zg (Sh (.slice none 0 0) (.sl [])) (fun _ _ _=>ea.e _ _ (by unfold maxLen;omega)) ?_
  refine aj (aN ?_)
  refine jZ [2] [] rfl Tryz.results306 rfl ?_ (.inr rfl)
  exact ⟨rfl,none,0,⟨fun _=>if_pos (by simpa using h1),fun _=>rfl⟩,by rw [show fP l.l ρ to_=[] from if_pos (by simpa using h1)];rfl,by rw [show fP l.l ρ to_=[] from if_pos (by simpa using h1)];rfl⟩
 ·skip
  have hgo:ya l.l to_:=⟨ht.1,ht.2,by simpa using h1⟩
  refine ai (an (aSR (aM rfl (LT rfl (WL (zs:=[.int .i64 0]) el26 rfl rfl rfl (.more rfl (.v rfl .nil) .nil) rfl rfl (fun v3_1=>(aHN ?_)))))))
  refine aA rfl (aNs (ao ?_))
  refine aR [0,1,5] [0] [0] (fun (p:Int × List Int × Value) s=>(ya l.l p.1∧p.2.1++(chain l.l (ρ p.1) p.1).tail=chain l.l (ρ to_) to_∧p.2.1.length+ρ p.1≤ρ to_+1)∧s=⟨[(0,true,l.val),(1,true,.int .i64 p.1),(5,true,p.2.2)],[ShF (fun z=>[.v (encI z)]) l],[aD p.2.2 3 1 (bI encI p.2.1)]⟩) (fun p=>ρ p.1) rfl (⟨(to_,[to_],_),⟨hgo,(iu _ _ _).symm,by simp;omega⟩,rfl⟩) ?_
  rintro ⟨v,acc,out⟩ s ⟨⟨hv,hch,hlen⟩,rfl⟩
  dsimp only at hv hch hlen
  have hv1:=hv.1
  have hv2:=hv.2.1
  refine aq (aSR (aM rfl (aM rfl (fZ true rfl rfl (fun _=>aX Tryz.underlying26 tk3 rfl ((.of (aF 0 rfl))) rfl (er (i:=v) (by omega) (by omega)) (by omega) rfl) (fun h=>absurd h (by decide)) (fun ⟨b4_2,o4_2⟩=>(US 0 tk3 0 rfl rfl rfl rfl rfl (aM rfl (aU rfl (dS rfl rfl) (aNn ?_)))))))))
  refine ah _ rfl (fun h2 => ?_) (fun h2 => ?_)
  ·skip
   have hne:elt l.l v≠v:=by simpa using h2
   have hst:=hT.step v hv hne
   have hcs:=uo hT hv hne
   refine ai (an (ao (aSR (aM rfl (aM rfl (fZ true rfl rfl (fun _=>aX Tryz.underlying26 tk3 rfl ((.of (aF 1 rfl))) rfl (er (i:=v) (by omega) (by omega)) (by omega) rfl) (fun h=>absurd h (by decide)) (fun ⟨b5_2,o5_2⟩=>(US 0 tk3 0 rfl rfl rfl rfl rfl (aA rfl (aNn (ae (aM rfl (aM rfl ?_)))))))))))))
   refine LT rfl (WL (zs:=[.int .i64 0]) el26 rfl rfl rfl (.more rfl (.v rfl .nil) .nil) rfl rfl (fun v6_2=>(aHN ?_)))
   refine aI rfl (cJ 0 el26 rfl rfl rfl rfl (dY 1 el26 rfl (by simp)) (by first | assumption | simp) (by simp [cI];omega) _ rfl (fun v6_3 c6_3 => ?_))
   refine aHK ?_
   refine aA rfl (bK (bo (an ?_)))
   refine ⟨[0,1,5],[0],[0],rfl,?_⟩
   refine ⟨(elt l.l v,acc++[elt l.l v],.slice v6_3 ((bI encI acc).length+1) c6_3),⟨⟨hst.1,?_,by simp;omega⟩,?_⟩,hst.2⟩
   · rw [← hch,hcs,List.append_assoc]
     exact congrArg _ (iu _ _ _).symm
   · show _=(⟨_,_,[aD _ _ 1 (bI encI (acc++[elt l.l v]))]⟩:Sta)
     rw [show bI encI (acc++[elt l.l v])=bI encI acc++[[.v (encI (elt l.l v))]] by simp [bI]]
     rfl
  ·skip
   have heq:elt l.l v=v:=by simpa using h2
   rw [xj _ heq,List.tail_cons,List.append_nil] at hch
   subst hch
   refine aS (aV (aV (ba (an (aSR (aM rfl (LF rfl (EC [] [0] rfl (q9 _) ?_))))))))
   rintro r7 _ _ ⟨rfl,rfl⟩
   refine aST ?_
   refine aNn (aSR (aM rfl (aA rfl (aNn ?_))))
   have hcn:(chain l.l (ρ to_) to_).reverse≠[]:=fun h0=>by
     rw [List.reverse_eq_nil_iff,iu] at h0
     cases h0
   refine eb 0 rfl (fun h0=>hcn (List.map_eq_nil_iff.1 h0)) (fun B kc hv => ?_)
   rw [cI] at hv
   refine ez 0 rfl (aj ?_)
   refine jZ [2] [] rfl Tryz.results306 rfl ?_ (.inr rfl)
   have e:fP l.l ρ to_=(chain l.l (ρ to_) to_).reverse:=if_neg (by simpa using h1)
   exact ⟨rfl,some ⟨B,0,none⟩,kc,⟨fun h=>(by cases h),fun h=>absurd (e ▸ h) hcn⟩,by rw [e];exact hv,by rw [e,← hv];rfl⟩
end Go.Proofs.YtfkcmbonmpcbfaaGreat

