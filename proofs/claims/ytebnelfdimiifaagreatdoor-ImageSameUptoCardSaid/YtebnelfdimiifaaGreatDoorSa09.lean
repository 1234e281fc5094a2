/- Parts of the proof, in build order. No condition. -/
import Derived.Test.YtebnelfdimiifaaGreatDoorSa08
import Derived.Test.YtebnelfdimiifaaGreatDoorRows
import Derived.Test.YtebnelfdimiifaaGreatDoorSa03
set_option linter.unusedSimpArgs false
set_option linter.unusedVariables false
set_option maxHeartbeats 1000000
set_option maxRecDepth 20000
namespace Go.Lv
open Go.Sy
structure PL (N:Nat) (part:List Int) (ps:List (List Int)):Prop where
 ne:∀ (k:Nat) (p:List Int),ps[k]? = some p→p≠[]∧p.Nodup
 of:∀ (k:Nat) (p:List Int),ps[k]? = some p→∀ x∈p,(0≤x∧x<N)∧elt part x=(k:Int)+1
section
variable {N:Nat} {nx:List (List Int)} {r:Int} {s:TS}
theorem PL.close{ps:List (List Int)}(hP:PL N s.part ps)(h:TI N nx r s)(hn:s.np=ps.length){A B p:List Int}{v:Int}(hs:s.stk=A++v::B)(hp:p.Perm (v::B)):PL N (df s.part ((s.np:Int)+1) p) (ps++[p]):=by
 have hnd:=h.nd
 rw [hs,List.nodup_append] at hnd
 have hst:∀ x∈p,(0≤x∧x<(N:Int))∧elt s.part x=0:=fun x hx=>by
   have:=(h.stk x).1 (by rw [hs];exact List.mem_append_right _ (hp.mem_iff.1 hx))
   exact ⟨this.1,this.2.2⟩
 have hlp:=h.lp
 have eP:∀ x,0≤x→elt (df s.part ((s.np:Int)+1) p) x=if x∈p then (s.np:Int)+1 else elt s.part x:=ka p s.part fun w hw=>by rw [hlp];exact (hst w hw).1
 constructor
 · intro k q hq
   rcases Nat.lt_or_ge k ps.length with hk | hk
   · rw [List.getElem?_append_left hk] at hq;exact hP.ne k q hq
   · have hk2:k=ps.length:=by have:=(List.getElem?_eq_some_iff.1 hq).1;simp at this;omega
     subst hk2
     rw [List.getElem?_append_right (Nat.le_refl _),Nat.sub_self] at hq
     obtain rfl:=Option.some.inj hq
     exact ⟨fun e=>by have:=hp.length_eq;rw [e] at this;simp at this,hp.nodup_iff.2 hnd.2.1⟩
 · intro k q hq x hx
   rcases Nat.lt_or_ge k ps.length with hk | hk
   · rw [List.getElem?_append_left hk] at hq
     have h1:=hP.of k q hq x hx
     rw [eP x h1.1.1,if_neg (fun hm=>by have:=(hst x hm).2;omega)]
     exact h1
   · have hk2:k=ps.length:=by have:=(List.getElem?_eq_some_iff.1 hq).1;simp at this;omega
     subst hk2
     rw [List.getElem?_append_right (Nat.le_refl _),Nat.sub_self] at hq
     obtain rfl:=Option.some.inj hq
     rw [eP x (hst x hx).1.1,if_pos hx,hn]
     exact ⟨(hst x hx).1,rfl⟩
theorem PL.short{part:List Int}{ps:List (List Int)}(hP:PL N part ps){p:List Int}(hp:p∈ps):p.length≤N:=by
 obtain ⟨k,hk⟩:=List.getElem?_of_mem hp
 have h1:=(hP.ne k p hk).2
 have h2:=hP.of k p hk
 have h3:=dV (fun _=>1) (p.map Int.toNat) (List.range N) (eF h1 fun q hq=>(h2 q hq).1.1) (fun q hq=>by
   obtain ⟨x,hx,e⟩:=List.mem_map.1 hq
   have:=h2 x hx
   exact List.mem_range.2 (by omega))
 have e:∀ l:List Nat,(l.map fun _=>1).sum=l.length:=fun l=>by induction l with
   | nil=>rfl
   | cons a l ih=>rw [List.map_cons,List.sum_cons,ih,List.length_cons];omega
 rw [e,e,List.length_map,List.length_range] at h3
 exact h3
end
structure WB (M:Nat) (w:List Int) (us:List (List Int)):Prop where
 lw:w.length=M+1
 lu:us.length=M+1
 ur:∀ q:Nat,∀ p∈elt us (q:Int),1≤p∧p≤M
 wt:∀ p:Int,1≤p→p≤M→elt w p=rZ us p
theorem aee{f g:Nat→Nat}{w d:Nat} : ∀ l:List Nat,l.Nodup→w∈l→(∀ x∈l,x≠w→g x=f x)→g w=f w+d→(l.map g).sum=(l.map f).sum+d
 | [],_,h,_,_=>by cases h
 | a :: l,hn,hw,hf,h0=>by
   rw [List.nodup_cons] at hn
   rw [List.map_cons,List.map_cons,List.sum_cons,List.sum_cons]
   by_cases ha:a=w
   · subst ha
     have:l.map g=l.map f:=List.map_congr_left fun x hx=>hf x (List.mem_cons_of_mem _ hx) fun e=>hn.1 (e ▸ hx)
     rw [this,h0];omega
   · have h1:=aee l hn.2 ((List.mem_cons.1 hw).resolve_left fun e=>ha e.symm) (fun x hx=>hf x (List.mem_cons_of_mem _ hx)) h0
     rw [hf a List.mem_cons_self ha];omega
theorem wH{l:List (List Int)}{q:Int}{y:List Int}(h0:0≤q)(h1:q<l.length){x:Int}(hx:0≤x):elt (l.set q.toNat y) x=if q=x then y else elt l x:=by
 unfold elt
 rw [List.getD_eq_getElem?_getD,List.getD_eq_getElem?_getD,List.getElem?_set]
 by_cases h:q=x
 · subst h;rw [if_pos rfl,if_pos (by omega),if_pos rfl];rfl
 · rw [if_neg (by omega),if_neg h]
theorem WB.step{M:Nat}{w:List Int}{us:List (List Int)}(h:WB M w us){p q:Int}(hp:1≤p∧p≤M)(hq:1≤q∧q≤M):WB M (w.set p.toNat (elt w p+1)) (us.set q.toNat (elt us q++[p])):=by
 have hlw:=h.lw
 have hlu:=h.lu
 have eU:∀ x:Int,0≤x→elt (us.set q.toNat (elt us q++[p])) x=if q=x then elt us q++[p] else elt us x:=fun x hx=>wH (by omega) (by omega) hx
 refine ⟨by rw [List.length_set];exact hlw,by rw [List.length_set];exact hlu,fun k x hx => ?_,fun x h1 h2 => ?_⟩
 · rw [eU _ (Int.natCast_nonneg k)] at hx
   split at hx
   · rcases List.mem_append.1 hx with h1 | h1
     · have:=h.ur q.toNat x (by rw [Int.toNat_of_nonneg (by omega)];exact h1)
       exact this
     · rw [List.mem_singleton.1 h1];exact hp
   · exact h.ur k x hx
 · rw [ei (by omega) (by omega) (by omega)]
   have hw:=h.wt x h1 h2
   have ht:rZ (us.set q.toNat (elt us q++[p])) x=rZ us x+if p=x then 1 else 0:=by
     unfold rZ
     rw [List.length_set]
     refine aee (w:=q.toNat) (List.range us.length) List.nodup_range (List.mem_range.2 (by omega)) (fun y _ hy => ?_) ?_
     · rw [eU _ (Int.natCast_nonneg y),if_neg (by omega)]
     · rw [eU _ (Int.natCast_nonneg _),if_pos (by omega),Int.toNat_of_nonneg (by omega),List.count_append,List.count_singleton]
       simp only [beq_iff_eq]
   rw [ht]
   split
   · rename_i e;subst e;rw [hw];omega
   · rw [hw];omega
theorem WB.start(M:Nat):WB M (List.replicate (M+1) 0) (List.replicate (M+1) []):=by
 have e:∀ q:Int,elt (List.replicate (M+1) ([]:List Int)) q=[]:=fun q=>by
   unfold elt
   rw [List.getD_eq_getElem?_getD,List.getElem?_replicate]
   split<;>rfl
 refine ⟨by simp,by simp,fun q p hp=>(by rw [e] at hp;cases hp),fun p _ _ => ?_⟩
 have h1:rZ (List.replicate (M+1) []) p=0:=by
   unfold rZ
   have:∀ l:List Nat,(l.map fun q:Nat=>(elt (List.replicate (M+1) ([]:List Int)) (q:Int)).count p).sum=0:=fun l=>by
     induction l with
     | nil=>rfl
     | cons a l ih=>rw [List.map_cons,List.sum_cons,ih,e];rfl
   exact this _
 rw [h1]
 unfold elt
 rw [List.getD_eq_getElem?_getD,List.getElem?_replicate]
 split<;>rfl
theorem KI.start{M:Nat}{w:List Int}{us:List (List Int)}(h:WB M w us){H:List Int}(hn:H.Nodup)(hr:∀ p∈H,1≤p∧p≤M)(hz:∀ p:Int,1≤p→p≤M→(p∈H↔elt w p=0)):KI M us w [] H [] :=
 ⟨h.lw,h.lu,h.ur,hn,hr,fun p h1 h2=>by rw [h.wt p h1 h2];simp [dnU],hz⟩
end Go.Lv

namespace Go.Lv
def lZ:Nat→Nat→List UInt8
 | 0,_=>[]
 | k+1,m=>if m<128 then [UInt8.ofNat m] else UInt8.ofNat (m % 128+128)::lZ k (m / 128)
abbrev aQ(m:Nat):List UInt8:=lZ 10 m
def fY:Nat→List UInt8→Option (Nat × List UInt8)
 | 0,_=>none
 | _+1,[]=>none
 | k+1,c::l=>if k=0∧1<c.toNat then none else if c.toNat<128 then (if c.toNat=0∧k<9 then none else some (c.toNat,l)) else (fY k l).map fun p=>(c.toNat % 128+128*p.1,p.2)
theorem ach{m:Nat}(h:m<256):(UInt8.ofNat m).toNat=m:=by rw [UInt8.toNat_ofNat'];omega
theorem eJ:∀ (k m:Nat),(lZ k m).length≤k
 | 0,_=>Nat.le_refl _
 | k+1,m=>by
   unfold lZ;split
   · simp
   · rw [List.length_cons];have:=eJ k (m / 128);omega
theorem ra(k m:Nat):1≤(lZ (k+1) m).length:=by
 unfold lZ;split
 · simp
 · rw [List.length_cons];omega
theorem re(m:Nat):1≤(aQ m).length:=ra 9 m
theorem th:∀ (k m:Nat) (t:List UInt8),m<2*128 ^ k→(k<9→m≠0)→fY (k+1) (lZ (k+1) m++t)=some (m,t)
 | k, m, t,h,h0=>by
   unfold lZ
   split
   · rename_i hm
     rw [List.singleton_append]
     unfold fY
     rw [ach (by omega),if_neg (fun ⟨e,h1⟩=>by subst e;omega),if_pos hm,if_neg fun ⟨e,h1⟩=>h0 h1 e]
   · rename_i hm
     rw [List.cons_append]
     cases k with
     | zero=>omega
     | succ k =>
       unfold fY
       have hd:m / 128<2*128 ^ k:=by
         rw [Nat.pow_succ] at h
         exact Nat.div_lt_of_lt_mul (by omega)
       rw [ach (by omega),if_neg (fun ⟨e,_⟩=>by omega),if_neg (by omega),th k (m / 128) t hd (fun _=>by omega)]
       simp only [Option.map_some,Option.some.injEq,Prod.mk.injEq,and_true]
       omega
theorem zP{m:Nat}(h:m<18446744073709551616)(t:List UInt8):fY 10 (aQ m++t)=some (m,t):=th 9 m t (Nat.lt_of_lt_of_le h (by decide)) (fun h=>by omega)
theorem tk:∀ (k:Nat) (l:List UInt8) (m:Nat) (t:List UInt8),fY (k+1) l=some (m,t)→m<2*128 ^ k∧t.length<l.length
 | k,[],m,t,h=>by simp [fY] at h
 | k,c::l,m,t,h=>by
   unfold fY at h
   split at h
   · cases h
   · rename_i h1
     split at h
     · rename_i h2
       split at h
       · cases h
       · simp only [Option.some.injEq,Prod.mk.injEq] at h
         obtain ⟨rfl,rfl⟩:=h
         refine ⟨?_,by simp⟩
         cases k with
         | zero=>simp at h1;omega
         | succ k=>have:0<128 ^ k:=Nat.pow_pos (by decide);rw [Nat.pow_succ];omega
     · cases k with
       | zero=>simp at h1;omega
       | succ k =>
         obtain ⟨⟨m1,t1⟩,h3,h4⟩:=Option.map_eq_some_iff.1 h
         simp only [Prod.mk.injEq] at h4
         obtain ⟨rfl,rfl⟩:=h4
         have:=tk k l m1 t1 h3
         refine ⟨by rw [Nat.pow_succ];omega,by rw [List.length_cons];omega⟩
theorem mX{l:List UInt8}{m:Nat}{t:List UInt8}(h:fY 10 l=some (m,t)):m<18446744073709551616∧t.length<l.length:=by
 have:=tk 9 l m t h
 exact ⟨Nat.lt_of_lt_of_le this.1 (by decide),this.2⟩
def zz(z:Int):Nat:=if z<0 then (2*(-z-1)+1).toNat else (2*z).toNat
def vd(m:Nat):Int:=if m % 2=1 then -(m / 2:Nat)-1 else (m / 2:Nat)
abbrev I64(z:Int):Prop := -9223372036854775808≤z∧z≤9223372036854775807
theorem aaC{z:Int}(h:I64 z):zz z<18446744073709551616:=by unfold zz;unfold I64 at h;split<;>omega
theorem afi(z:Int):vd (zz z)=z:=by unfold vd zz;split<;>split<;>omega
theorem aeq{m:Nat}(h:m<18446744073709551616):I64 (vd m):=by unfold vd I64;split<;>omega
inductive CS
 | W (out:List UInt8)
 | R (rest:List UInt8) (bad:Bool)
def CS.len:CS→Nat
 | .W _=>0
 | .R r _=>r.length
def CS.fails:CS→Bool
 | .W _=>false
 | .R r b=>r.isEmpty && b
structure Cod (α:Type) where
 one:CS→α→CS × α
 enc:α→List UInt8
 zero:α
 ok:α→Prop
 K:Nat
 w:∀ a x,one (.W a) x=(.W (a++enc x),x)
 r:∀ x t,ok x→one (.R (enc x++t) false) zero=(.R t false,x)
 rd:∀ r b,r.length≤4611686018427387904→∃ r' b',(one (.R r b) zero).1=.R r' b'∧r'.length≤r.length∧ok (one (.R r b) zero).2∧(enc (one (.R r b) zero).2).length≤10*(r.length-r'.length)+(if (CS.R r' b').fails then K else 0)
 /-- each is read,or nothing more can be -/
 less:∀ r b,r.length≤4611686018427387904→(one (.R r b) zero).1.len<r.length∨(one (.R r b) zero).1=.R [] true
 pos:∀ x,1≤(enc x).length
def iU(r:List UInt8)(b:Bool):CS × Nat :=
 match fY 10 r with
 | some (m,t)=>if m>9223372036854775807 then (.R [] true,0) else (.R t b,m)
 | none=>(.R [] true,0)
def mo:CS→Int→CS × Int
 | .W a,z=>(.W (a++aQ (zz z)),z)
 | .R r b,_=>match fY 10 r with
   | some (m,t)=>(.R t b,vd m)
   | none=>(.R [] true,0)
def nV(r:List UInt8)(b:Bool):CS × List UInt8 :=
 match iU r b with
 | (.R t b',n)=>if n>t.length then (.R [] true,[]) else (.R (t.drop n) b',t.take n)
 | s=>(s.1,[])
def bytesOf(l:List UInt8):ByteArray:=⟨l.toArray⟩
def il(b:ByteArray):List UInt8:=b.data.toList
theorem mq(b:ByteArray):(il b).length=b.size:=rfl
def sH(b:ByteArray):List UInt8:=aQ b.size++il b
def tM:CS→ByteArray→CS × ByteArray
 | .W a,z=>(.W (a++sH z),z)
 | .R r b,_=>((nV r b).1,bytesOf (nV r b).2)
theorem abE{r t:List UInt8}{b:Bool}{m:Nat}(h:fY 10 r=some (m,t))(hm:m≤9223372036854775807):iU r b=(.R t b,m):=by unfold iU;rw [h];dsimp only;rw [if_neg (by omega)]
theorem wU{m:Nat}(h:m≤9223372036854775807)(t:List UInt8)(b:Bool):iU (aQ m++t) b=(.R t b,m):=abE (zP (by omega) t) h
theorem iV(r:List UInt8)(b:Bool):(∃ t m,iU r b=(.R t b,m)∧fY 10 r=some (m,t)∧m≤9223372036854775807∧t.length<r.length)∨iU r b=(.R [] true,0):=by
 unfold iU
 cases h:fY 10 r with
 | none=>exact .inr rfl
 | some p =>
   obtain ⟨m,t⟩:=p
   dsimp only
   by_cases hm:m>9223372036854775807
   · rw [if_pos hm];exact .inr rfl
   · rw [if_neg hm];exact .inl ⟨t,m,rfl,rfl,by omega,(mX h).2⟩
theorem pA(r:List UInt8)(b:Bool):(∃ t n,iU r b=(.R t b,n)∧n≤t.length∧t.length<r.length∧nV r b=(.R (t.drop n) b,t.take n))∨nV r b=(.R [] true,[]):=by
 unfold nV
 rcases iV r b with ⟨t,m,h,_,_,hl⟩ | h
 · rw [h];dsimp only
   by_cases hm:m>t.length
   · rw [if_pos hm];exact .inr rfl
   · rw [if_neg hm];exact .inl ⟨t,m,rfl,by omega,hl,rfl⟩
 · rw [h];dsimp only
   rw [if_neg (by simp)]
   exact .inr (by simp)
def aj:Cod Int where
 one:=mo
 enc z:=aQ (zz z)
 zero:=0
 ok:=I64
 K:=10
 w _ _:=rfl
 r z t h:=by unfold mo;dsimp only;rw [zP (aaC h)];dsimp only;rw [afi]
 rd r b hr:=by
   unfold mo;dsimp only
   cases h:fY 10 r with
   | none=>exact ⟨[],true,rfl,Nat.zero_le _,by dsimp only;unfold I64;omega,Nat.le_trans (eJ 10 _) (Nat.le_add_left 10 _)⟩
   | some p=>have:=mX h;exact ⟨p.2,b,rfl,by omega,aeq this.1,Nat.le_trans (eJ 10 _) (by omega)⟩
 less r b hr:=by
   unfold mo;dsimp only
   cases h:fY 10 r with
   | none=>exact .inr rfl
   | some p=>exact .inl (mX h).2
 pos z:=ra 9 _
theorem nb(b:ByteArray):(sH b).length=(aQ b.size).length+b.size:=by unfold sH;rw [List.length_append,mq]
def ak : Cod ByteArray where
 one:=tM
 enc:=sH
 zero:=.empty
 ok b:=b.size≤4611686018427387904
 K:=10
 w _ _:=rfl
 r b t h:=by
   unfold tM;dsimp only
   have e:nV (sH b++t) false=(.R t false,il b):=by
     unfold nV sH
     rw [List.append_assoc,wU (by omega)]
     dsimp only
     rw [if_neg (by rw [List.length_append,mq];omega),← mq,List.drop_left,List.take_left]
   rw [e];rfl
 rd r b hr:=by
   unfold tM;dsimp only
   rcases pA r b with ⟨t,n,h1,h2,h3,h4⟩ | h4
   · rw [h4]
     refine ⟨t.drop n,b,rfl,by rw [List.length_drop];omega,?_,?_⟩
     · show (t.take n).length≤_
       rw [List.length_take];omega
     · rw [nb]
       have hn:n=(t.take n).length:=by rw [List.length_take];omega
       show (lZ 10 (t.take n).length).length+(t.take n).length≤_
       rw [← hn,List.length_drop]
       have:=eJ 10 n
       omega
   · rw [h4]
     exact ⟨[],true,rfl,Nat.zero_le _,by decide,Nat.le_trans (by decide) (Nat.le_add_left 10 _)⟩
 less r b hr:=by
   unfold tM;dsimp only
   rcases pA r b with ⟨t,n,h1,h2,h3,h4⟩ | h4
   · rw [h4];exact .inl (by show (t.drop n).length<_;rw [List.length_drop];omega)
   · rw [h4];exact .inr rfl
 pos b:=by rw [nb];have:=re b.size;omega
theorem aeL{r:List UInt8}{b:Bool} : (CS.R r b).fails=true↔r=[]∧b=true:=by unfold CS.fails;simp
theorem Cod.stays{α:Type}(A:Cod α):(A.one (.R [] true) A.zero).1=.R [] true:=(A.less [] true (Nat.zero_le _)).resolve_left fun h=>absurd h (Nat.not_lt_zero _)
def Cod.prod{α β:Type}(A:Cod α)(B:Cod β):Cod (α × β) where
 one s x:=((B.one (A.one s x.1).1 x.2).1,((A.one s x.1).2,(B.one (A.one s x.1).1 x.2).2))
 enc x:=A.enc x.1++B.enc x.2
 zero:=(A.zero,B.zero)
 ok x:=A.ok x.1∧B.ok x.2
 K:=A.K+B.K
 w a x:=by rw [A.w,B.w,List.append_assoc]
 r x t h:=by rw [List.append_assoc,A.r _ _ h.1,B.r _ _ h.2]
 rd r b hr:=by
   obtain ⟨r1,b1,h1,h2,h3,h4⟩:=A.rd r b hr
   obtain ⟨r2,b2,k1,k2,k3,k4⟩:=B.rd r1 b1 (by omega)
   dsimp only
   rw [h1]
   refine ⟨r2,b2,k1,by omega,⟨h3,k3⟩,?_⟩
   rw [List.length_append]
   by_cases hf:(CS.R r1 b1).fails=true
   · obtain ⟨rfl,rfl⟩:=aeL.1 hf
     rw [B.stays] at k1
     obtain ⟨rfl,rfl⟩:=CS.R.inj k1
     rw [if_pos hf] at h4 k4 ⊢
     omega
   · rw [if_neg hf] at h4
     split at k4<;>rename_i h5
     · rw [if_pos h5];omega
     · rw [if_neg h5];omega
 less r b hr:=by
   obtain ⟨r1,b1,h1,h2,h3,h4⟩:=A.rd r b hr
   have hl:=A.less r b hr
   dsimp only
   rw [h1] at hl ⊢
   obtain ⟨r2,b2,k1,k2,k3,k4⟩:=B.rd r1 b1 (by omega)
   have kl:=B.less r1 b1 (by omega)
   rw [k1] at kl ⊢
   rcases kl with kl | kl
   · exact .inl (Nat.lt_of_lt_of_le kl h2)
   · exact .inr kl
 pos x:=by rw [List.length_append];have:=A.pos x.1;omega
def bO:Cod Bool where
 one s x:=((mo s (if x then 1 else 0)).1,decide ((mo s (if x then 1 else 0)).2≠0))
 enc x:=aQ (zz (if x then 1 else 0))
 zero:=false
 ok _:=True
 K:=10
 w a x:=by cases x<;>rfl
 r x t _:=by
   have:=aj.r (if x then 1 else 0) t (by unfold aj;dsimp only;unfold I64;split<;>omega)
   unfold aj at this;dsimp only at this
   have e:(if false=true then (1:Int) else 0)=0:=rfl
   rw [e,this];cases x<;>rfl
 rd r b hr:=by
   obtain ⟨r',b',h1,h2,_⟩:=aj.rd r b hr
   have hl:=aj.less r b hr
   have h1':(mo (.R r b) (if false=true then 1 else 0)).1=.R r' b':=h1
   rw [h1] at hl
   refine ⟨r',b',h1',h2,trivial,?_⟩
   have e:∀ x:Bool,(aQ (zz (if x=true then 1 else 0))).length=1:=fun x=>by cases x<;>rfl
   rw [e]
   rcases hl with hl | hl
   · have:r'.length<r.length:=hl
     omega
   · rw [hl];show 1≤_+10;omega
 less r b hr:=aj.less r b hr
 pos x:=ra 9 _
def fV{α:Type}(A:Cod α):Nat→CS→List α→CS × List α
 | 0,s,l=>(s,l)
 | n+1,s,l=>if s.fails then (s,l) else fV A n (A.one s A.zero).1 (l++[(A.one s A.zero).2])
def ia{α:Type}(A:Cod α)(l:List α):List UInt8:=(l.map A.enc).flatten
theorem oF{α:Type}(A:Cod α)(x:α)(l:List α):ia A (x::l)=A.enc x++ia A l:=rfl
theorem kP{α:Type}(A:Cod α)(l m:List α):ia A (l++m)=ia A l++ia A m:=by unfold ia;rw [List.map_append,List.flatten_append]
theorem ac1{α:Type}(A:Cod α)(l:List α):l.length≤(ia A l).length:=by
 induction l with
 | nil=>exact Nat.zero_le _
 | cons x l ih=>rw [oF,List.length_append,List.length_cons];have:=A.pos x;omega
theorem zZ{α:Type}(A:Cod α):∀ (l m:List α) (t:List UInt8),(∀ x∈l,A.ok x)→fV A l.length (.R (ia A l++t) false) m=(.R t false,m++l)
 | [],m,t,_=>by simp [fV,ia]
 | x::l,m,t,h=>by
   rw [List.length_cons]
   unfold fV
   rw [if_neg (by unfold CS.fails;simp),oF,List.append_assoc,A.r _ _ (h x (by simp)),zZ A l _ t fun y hy=>h y (by simp [hy]),List.append_assoc];rfl
theorem kR{α:Type}(A:Cod α)(n:Nat){s:CS}(h:s.fails=true)(l:List α):fV A n s l=(s,l):=by
 cases n with
 | zero=>rfl
 | succ n=>unfold fV;rw [if_pos h]
theorem ru{α:Type}(A:Cod α):∀ (n:Nat) (r:List UInt8) (b:Bool) (l:List α),r.length≤4611686018427387904→(∀ x∈l,A.ok x) →
   ∃ r' b',(fV A n (.R r b) l).1=.R r' b'∧r'.length≤r.length∧(∀ x∈(fV A n (.R r b) l).2,A.ok x)∧(ia A (fV A n (.R r b) l).2).length≤(ia A l).length+10*(r.length-r'.length)+(if (CS.R r' b').fails then A.K else 0) ∧
     (fV A n (.R r b) l).2.length≤l.length+(r.length-r'.length)+1
 | 0,r,b,l,hr,hl=>⟨r,b,rfl,Nat.le_refl _,hl,by show (ia A l).length≤_;omega,by show l.length≤_;omega⟩
 | n + 1,r,b,l,hr,hl=>by
   by_cases hf:(CS.R r b).fails=true
   · rw [kR A _ hf];exact ⟨r,b,rfl,Nat.le_refl _,hl,by show (ia A l).length≤_;omega,by show l.length≤_;omega⟩
   · unfold fV
     rw [if_neg hf]
     obtain ⟨r1,b1,h1,h2,h3,h4⟩:=A.rd r b hr
     have hless:=A.less r b hr
     have e:ia A [(A.one (.R r b) A.zero).2]=A.enc (A.one (.R r b) A.zero).2:=by simp [ia]
     rw [h1] at hless ⊢
     have hl1:∀ x∈l++[(A.one (.R r b) A.zero).2],A.ok x:=fun x hx=>(List.mem_append.1 hx).elim (hl x) fun h=>by rw [List.mem_singleton.1 h];exact h3
     by_cases hf1:(CS.R r1 b1).fails=true
     · rw [kR A _ hf1]
       rw [if_pos hf1] at h4
       refine ⟨r1,b1,rfl,h2,hl1,?_,?_⟩
       · rw [kP,List.length_append,e,if_pos hf1];omega
       · rw [List.length_append,List.length_singleton];omega
     · rw [if_neg hf1] at h4
       have hlt:r1.length<r.length:=hless.resolve_right fun h=>hf1 (by rw [h];rfl)
       obtain ⟨r2,b2,k1,k2,k3,k4,k5⟩:=ru A n r1 b1 (l++[(A.one (.R r b) A.zero).2]) (by omega) hl1
       refine ⟨r2,b2,k1,by omega,k3,?_,?_⟩
       · rw [kP,List.length_append,e] at k4
         omega
       · rw [List.length_append,List.length_singleton] at k5
         omega
def dE{α:Type}(A:Cod α):Cod (List α) where
 one
   | .W a,l=>(.W (a++(aQ l.length++ia A l)),l)
   | .R r b,l=>fV A (iU r b).2 (iU r b).1 l
 enc l:=aQ l.length++ia A l
 zero:=[]
 ok l:=l.length≤9223372036854775807∧∀ x∈l,A.ok x
 K:=10+A.K
 w _ _:=rfl
 r l t h:=by
   dsimp only
   rw [List.append_assoc,wU h.1]
   dsimp only
   rw [zZ A l [] t h.2];rfl
 rd r b hr:=by
   dsimp only
   rcases iV r b with ⟨t,m,h1,h2,h3,h4⟩ | h1
   · rw [h1];dsimp only
     obtain ⟨r2,b2,k1,k2,k3,k4,k5⟩:=ru A m t b [] (by omega) fun x hx=>by cases hx
     refine ⟨r2,b2,k1,by omega,⟨by rw [List.length_nil] at k5;omega,k3⟩,?_⟩
     rw [List.length_append]
     have:=eJ 10 (fV A m (.R t b) []).2.length
     have e:(ia A ([]:List α)).length=0:=rfl
     rw [e] at k4
     show (lZ 10 _).length+_≤_
     split at k4<;>rename_i h5
     · rw [if_pos h5];omega
     · rw [if_neg h5];omega
   · rw [h1];dsimp only
     refine ⟨[],true,rfl,Nat.zero_le _,⟨Nat.zero_le _,fun x hx=>by cases hx⟩,?_⟩
     show (aQ 0++ia A []).length≤_
     have e:(aQ 0++ia A []).length=1:=rfl
     rw [e]
     show 1≤_+(10+A.K)
     omega
 less r b hr:=by
   dsimp only
   rcases iV r b with ⟨t,m,h1,h2,h3,h4⟩ | h1
   · rw [h1];dsimp only
     obtain ⟨r2,b2,k1,k2,_⟩:=ru A m t b [] (by omega) fun x hx=>by cases hx
     rw [k1]
     exact .inl (Nat.lt_of_le_of_lt k2 h4)
   · rw [h1];exact .inr rfl
 pos l:=by rw [List.length_append];have:=re l.length;omega
end Go.Lv

namespace Go.Sy
open Go.RowKit Go.Lp Go.Lv
section
variable {P:Program} {k:Nat} {t e:TypeId}
abbrev RdW:Type:=World→bH→(List Value→Nat→Prop)→Prop
def Rd(P:Program)(k:Nat)(t:TypeId)(W:RdW):Prop:=∀ (w:World) (S:bH) (ds:List D) (us:List Value) (R:List Value→Nat→Prop),okD P k t ds→ob w S us ds→W w S R→R us (zL ds)
def RdF(P:Program)(k:Nat)(fs:List Field)(W:RdW):Prop:=∀ (w:World) (S:bH) (ds:List D) (us:List Value) (R:List Value→Nat→Prop),okF (okD P k) fs ds→ob w S us ds→W w S R→R us (zL ds)
theorem rdn:RdF P k [] fun _ _ R=>R [] 0:=fun _ _ ds us R h hr hR=>by
 obtain rfl:ds=[]:=h
 rw [hr.nil];exact hR
theorem rdc{f:Field}{fs:List Field}{W1 W2:RdW}(h1:Rd P k f.type W1)(h2:RdF P k fs W2):RdF P k (f::fs) fun w S R=>W1 w S fun u1 n1=>W2 w S fun u2 n2=>R (u1++u2) (n1+n2):=fun w S ds us R h hr hR=>by
 obtain ⟨d1,d2,rfl,o1,o2⟩:=h
 obtain ⟨u1,u2,rfl,r1,r2⟩:=hr.app
 rw [zx]
 exact h2 w S d2 u2 _ o2 r2 (h1 w S d1 u1 _ o1 r1 hR)
theorem rds{fs:Array Field}{W W':RdW}(hu:P.underlying t=some (.struct fs))(h:RdF P k fs.toList W)(hW:∀ w S R,W' w S R→W w S R):Rd P (k+1) t W':=fun w S ds us R ho hr hR=>h w S ds us R (yS hu ho) hr (hW w S R hR)
theorem rdi(hu:P.underlying t=some (.int .i64)):Rd P (k+1) t fun _ _ R=>∀ z n,I64 z→(aj.enc z).length≤n→R [.int .i64 z] n:=fun w S ds us R h hr hR=>by
 obtain ⟨z,rfl,hw⟩:=aeU hu h
 obtain ⟨u,_,rfl,r,hr⟩:=hr.cons
 obtain rfl:=hr.nil;obtain rfl:=jt r
 exact hR z _ (ahk hw) (by simp only [zL,zD];exact eJ 10 _)
theorem rdb(hu:P.underlying t=some .bool):Rd P (k+1) t fun _ _ R=>∀ b n,(bO.enc b).length≤n→R [.bool b] n:=fun w S ds us R h hr hR=>by
 obtain ⟨z,rfl⟩:=adt hu h
 obtain ⟨u,_,rfl,r,hr⟩:=hr.cons
 obtain rfl:=hr.nil;obtain rfl:=jt r
 exact hR z _ (by simp only [zL,zD];exact eJ 10 _)
theorem rdt(hu:P.underlying t=some .string):Rd P (k+1) t fun w S R=>∀ s n,(ek s).holds w S→(ak.enc s).length≤n→R [.string s] n:=fun w S ds us R h hr hR=>by
 obtain ⟨z,rfl,hz⟩:=yR hu h
 obtain ⟨u,_,rfl,r,hr⟩:=hr.cons
 obtain rfl:=hr.nil;obtain rfl:=jt r
 exact hR z _ hz (by simp only [zL,zD];show (sH z).length≤_;rw [nb];have:(aQ z.size).length≤10:=eJ 10 _;omega)
theorem ac2{α:Type}(A:Cod α)(l:List α):(ia A l).length=(l.map fun x=>(A.enc x).length).sum:=by
 unfold ia;rw [List.length_flatten,List.map_map];rfl
theorem rdl{α τ:Type}[Inhabited α]{A:Cod τ}{pu:α→τ}{vs:α→List Value}{row:α→List D}{ok:α→Per}{C:α→Prop}(hu:P.underlying t=some (.slice e))(hrow:∀ y,row y=(vs y).map D.v)
   (hf:Rd P k e fun w S R=>∀ y n,(ok y).holds w S→C y→(A.enc (pu y)).length≤n→R (vs y) n) :
   Rd P (k+1) t fun w S R=>∀ (s:Sl α) n,(ShF row s).holds w S→(b6 ok s.l).holds w S→(∀ y∈s.l,C y)→((dE A).enc (s.l.map pu)).length≤n→R [.slice s.ad s.l.length s.cap] n:=fun w S ds us R h hr hR=>by
 obtain ⟨rows,rfl,_,hrows⟩:=abG hu h
 obtain ⟨u,_,rfl,r,hr⟩:=hr.cons
 obtain rfl:=hr.nil
 obtain ⟨s,rfl,h1,h2,h3,h4⟩:=ac7 (row:=row) (ok:=ok) (C:=C) (fun y=>(A.enc (pu y)).length) r fun r hr us hu =>
   hf w S r us (fun us n=>∃ y,row y=us.map D.v∧(ok y).holds w S∧C y∧(A.enc (pu y)).length≤n) (hrows r hr) hu fun y n a b c=>⟨y,hrow y,a,b,c⟩
 refine hR s _ h1 h2 h3 ?_
 show (aQ (s.l.map pu).length++ia A (s.l.map pu)).length≤_
 rw [List.length_append,ac2,List.map_map]
 have h5:(aQ (s.l.map pu).length).length≤10:=eJ 10 _
 have h6:(s.l.map ((fun x=>(A.enc x).length) ∘ pu)).sum≤zR rows:=h4
 simp only [zL,zD];omega
theorem Rd.mono{W W':RdW}(h:Rd P k t W)(hW:∀ w S R,W' w S R→W w S R):Rd P k t W':=fun w S ds us R h1 h2 hR=>h w S ds us R h1 h2 (hW w S R hR)
theorem rli(hu:P.underlying t=some (.slice e))(he:P.underlying e=some (.int .i64)):Rd P (k+2) t fun w S R=>∀ (s:Sl Int) n,(ShF (fun z=>[.v (.int .i64 z)]) s).holds w S→(∀ y∈s.l,I64 y)→((dE aj).enc s.l).length≤n→R [.slice s.ad s.l.length s.cap] n :=
 (rdl (A:=aj) (pu:=fun y=>y) (vs:=fun z=>[.int .i64 z]) (row:=fun z=>[.v (.int .i64 z)]) (ok:=fun _=>Fa True) (C:=I64) hu (fun _=>rfl) ((rdi he).mono fun w S R h z n a b=>h z n trivial a b)).mono fun w S R h s n a _ b c=>h s n a b (by rw [List.map_id'] at c;exact c)
theorem rlt(hu:P.underlying t=some (.slice e))(he:P.underlying e=some .string):Rd P (k+2) t fun w S R=>∀ (s:Sl ByteArray) n,(ShF (fun s=>[.v (.string s)]) s).holds w S→(b6 (fun y=>ek y) s.l).holds w S→((dE ak).enc s.l).length≤n→R [.slice s.ad s.l.length s.cap] n :=
 (rdl (A:=ak) (pu:=fun y=>y) (vs:=fun z=>[.string z]) (row:=fun z=>[.v (.string z)]) (ok:=fun y=>ek y) (C:=fun _=>True) hu (fun _=>rfl) ((rdt he).mono fun w S R h z n a b=>h z n a trivial b)).mono fun w S R h s n a b _ c=>h s n a b (by rw [List.map_id'] at c;exact c)
theorem pl{α β:Type}{A:Cod α}{B:Cod β}{a:α}{b:β}{n m:Nat}(h1:(A.enc a).length≤n)(h2:(B.enc b).length≤m):((A.prod B).enc (a,b)).length≤n+m:=by
 show (A.enc a++B.enc b).length≤_
 rw [List.length_append];omega
end
end Go.Sy

namespace Go.Proofs.YtebnelfdimiifaaGreatDoor
open Go.RowKit Go.Lp Go.Sy Go.Deep
theorem agV{α:Type}{f:α→Nat} : ∀ l:List α,(l.map fun x=>10*f x).sum=10*(l.map f).sum
 | []=>rfl
 | x::l=>by simp only [List.map_cons,List.sum_cons,agV l];omega
section
variable {P:Program} {H:Type} {enc:TypeId × Value→H} {w:World} {base:Nat} {spare:Nat→Bool} {held:Bool}
theorem kH{d:DataW H} : ∀ {l:List (DataW H)},d∈l→Rows.uptoBulk d≤Rows.uptoBulkAll l
 | x::r,h=>by
   simp only [Rows.uptoBulkAll]
   rcases List.mem_cons.1 h with rfl | h
   · omega
   · have:=kH h;omega
theorem o7:∀ l:List (DataW H),Rows.uptoBulkAll l=(l.map Rows.uptoBulk).sum
 | []=>rfl
 | x::l=>by simp only [Rows.uptoBulkAll,List.map_cons,List.sum_cons,o7 l]
theorem pz{k fuel:Nat}{cs:List Value}{tot:Nat}(hcs:cs.length=tot)
   (ih:∀ (t:TypeId) (cs:List Value) (x:DataW H × List MemPlace),rdT P k t=true→DataW.trod enc P w base spare held fuel t cs=some x→∃ ds,ds.length=cs.length∧okD P k t ds∧Rds w cs 0 ds∧zL ds≤10*Rows.uptoBulk x.1) :
   ∀ (fs:List Field) (off:Nat) (xs:List (DataW H × List MemPlace)),mW P off fs tot=true→fs.all (fun f=>rdT P k f.type)=true→xs.length=fs.length →
     (∀ (i:Nat) (f:Field),fs[i]? = some f→DataW.trod enc P w base spare held fuel f.type ((cs.drop f.offset).take (P.cellsOf f.type))=xs[i]?)→∃ ds,off+ds.length=tot∧okF (okD P k) fs ds∧Rds w cs off ds∧zL ds≤10*Rows.uptoBulkAll (xs.map (·.1))
 | [],off,xs,hc,_,_,_=>⟨[],by simpa [mW] using hc,rfl,fun j d hj=>(by cases hj),Nat.zero_le _⟩
 | f :: fs,off,xs,hc,hr,hl,ht=>by
   cases xs with
   | nil=>simp at hl
   | cons y xs =>
     simp only [mW,Bool.and_eq_true,beq_iff_eq,decide_eq_true_eq] at hc
     obtain ⟨⟨hc1,hc2⟩,hc3⟩:=hc
     simp only [List.all_cons,Bool.and_eq_true] at hr
     have hy:=ht 0 f rfl
     obtain ⟨d1,l1,o1,r1,z1⟩:=ih _ _ y hr.1 (by rw [hy];rfl)
     obtain ⟨d2,l2,o2,r2,z2⟩:=pz hcs ih fs _ xs hc3 hr.2 (by simpa using hl) (fun i g hg=>by rw [ht (i+1) g (by simpa using hg)];rfl)
     rw [List.length_take,List.length_drop,hc1,hcs] at l1
     have l1:d1.length=P.cellsOf f.type:=by omega
     refine ⟨d1++d2,by rw [List.length_append];omega,⟨d1,d2,rfl,o1,o2⟩,fun j d hj => ?_,by rw [zx];simp only [List.map_cons,Rows.uptoBulkAll];omega⟩
     by_cases hjl:j<d1.length
     · rw [List.getElem?_append_left hjl] at hj
       obtain ⟨u,hu,h1,h2⟩:=r1 j d hj
       rw [Nat.zero_add,List.getElem?_take,if_pos (by omega),List.getElem?_drop,hc1] at hu
       exact ⟨u,hu,h1,h2⟩
     · rw [List.getElem?_append_right (by omega)] at hj
       obtain ⟨u,hu,h1,h2⟩:=r2 _ d hj
       rw [show off+P.cellsOf f.type+(j-d1.length)=off+j by omega] at hu
       exact ⟨u,hu,h1,h2⟩
theorem oQ : ∀ (k fuel:Nat) (t:TypeId) (cs:List Value) (x:DataW H × List MemPlace),rdT P k t=true→DataW.trod enc P w base spare held fuel t cs=some x→∃ ds,ds.length=cs.length∧okD P k t ds∧Rds w cs 0 ds∧zL ds≤10*Rows.uptoBulk x.1
 | 0,_,_,_,_,h,_=>by cases h
 | k + 1,fuel,t,cs,x,hr,h=>by
   unfold rdT at hr
   unfold okD
   split at hr
   · rename_i hu
     obtain ⟨b,rfl,rfl⟩:=DataW.trod_bool hu h
     exact ⟨[.v (.bool b)],rfl,⟨b,rfl⟩,lQ rfl (.v _),by simp [zL,zD,Rows.uptoBulk]⟩
   · rename_i i hu
     obtain ⟨n,rfl,rfl,hw⟩:=DataW.trod_int hu h
     exact ⟨[.v (.int i n)],rfl,⟨n,rfl,hw⟩,lQ rfl (.v _),by simp [zL,zD,Rows.uptoBulk]⟩
   · rename_i hu
     obtain ⟨s,rfl,rfl,hs⟩:=DataW.trod_string hu h
     exact ⟨[.v (.string s)],rfl,⟨s,rfl,hs⟩,lQ rfl (.v _),by simp [zL,zD,Rows.uptoBulk]⟩
   · rename_i e hu
     rw [Bool.and_eq_true,decide_eq_true_eq] at hr
     obtain ⟨hp,hr⟩:=hr
     rcases DataW.trod_slice hu h with ⟨rfl,rfl⟩ | ⟨a,len,cap,elems,rest,n,_,rfl,rfl,_,hl,hm,hel,hx,_,_⟩
     · exact ⟨[.sl []],rfl,⟨[],rfl,by simp,fun r hr=>by cases hr⟩,lQ rfl (.e none 0 (by simp)),by simp only [zL,zD,zR,Rows.uptoBulk];omega⟩
     · by_cases hl0:len=0
       · subst hl0
         exact ⟨[.sl []],rfl,⟨[],rfl,by simp,fun r hr=>by cases hr⟩,lQ rfl (.e (some a) cap hm),by simp only [zL,zD,zR,Rows.uptoBulk];omega⟩
       · have each:∀ i,∃ r:List D,i<len→(r.length=P.cellsOf e∧okD P k e r∧∀ (j:Nat) (d:D),r[j]? = some d→∃ u,w.cell? ((a.add (i*P.cellsOf e)).add j)=some u∧u.oneCell'=true∧fv w (fun b=>b<w.heap.size) u d)∧∃ y,elems[i]? = some y∧zL r≤10*Rows.uptoBulk y.1:=fun i=>by
           by_cases hi:i<len
           · obtain ⟨y,hy⟩:∃ y,elems[i]? = some y:=⟨_,List.getElem?_eq_getElem (by omega)⟩
             have h1:=hx i hi
             rw [hy] at h1
             cases hcs:w.cells? base (a.add (i*P.cellsOf e)) (P.cellsOf e) with
             | none=>rw [hcs] at h1;cases h1
             | some cs' =>
               rw [hcs] at h1
               have h2:DataW.trod enc P w base spare held n e cs'=some y:=h1
               obtain ⟨ds,l1,o1,r1,z1⟩:=oQ k _ _ _ _ hr h2
               obtain ⟨_,hcl,hc⟩:=World.cells?_some hcs
               refine ⟨ds,fun _=>⟨⟨by omega,o1,fun j d hj => ?_⟩,y,hy,z1⟩⟩
               obtain ⟨u,hu,q1,q2⟩:=r1 j d hj
               have:=(List.getElem?_eq_some_iff.1 hj).1
               rw [hc j (by omega)]
               exact ⟨u,by rw [← hu,Nat.zero_add],q1,q2⟩
           · exact ⟨[],fun h=>absurd h hi⟩
         obtain ⟨R,hR⟩:=Classical.skolem.1 each
         have ha:a=⟨a.block,a.off,none⟩∧a.block<w.heap.size:=by
           obtain ⟨⟨e1,_,e3⟩,_⟩:=hR 0 (by omega)
           obtain ⟨d,hd⟩:∃ d,(R 0)[0]? = some d:=⟨(R 0)[0]'(by omega),by simp⟩
           obtain ⟨u,hu,_⟩:=e3 0 d hd
           have:(a.add (0*P.cellsOf e)).add 0=a:=by simp [Addr.add]
           rw [this] at hu
           exact tI hu
         obtain ⟨ha,hb⟩:=ha
         have hadd:∀ i j,(a.add (i*P.cellsOf e)).add j=⟨a.block,a.off+i*P.cellsOf e+j,none⟩:=fun i j=>by
           rw [ha];unfold Addr.add
           by_cases h1:i*P.cellsOf e=0<;>by_cases h2:j=0<;>simp [h1,h2]
         have hrow:∀ (i:Nat) (r:List D),((List.range len).map R)[i]? = some r→i<len∧r=R i:=fun i r hi=>by
           have:=(List.getElem?_eq_some_iff.1 hi).1
           simp at this
           rw [List.getElem?_map,List.getElem?_range this] at hi
           exact ⟨this,by simpa using hi.symm⟩
         refine ⟨[.sl ((List.range len).map R)],rfl,⟨_,rfl,by simp;omega,fun r hr => ?_⟩,lQ rfl ?_,?_⟩
         · obtain ⟨i,hi,rfl⟩:=List.mem_map.1 hr
           exact (hR i (List.mem_range.1 hi)).1.2.1
         · have:=fv.sl (w:=w) (S:=fun b=>b<w.heap.size) a.block a.off cap (P.cellsOf e) ((List.range len).map R) (fun i j=>(w.cell? ⟨a.block,a.off+i*P.cellsOf e+j,none⟩).getD (.bool false)) hb (by simpa using hl) hm
             (fun i r hi=>by obtain ⟨h1,rfl⟩:=hrow i r hi;exact (hR i h1).1.1)
             (fun i j r d hi hj=>by
               obtain ⟨h1,rfl⟩:=hrow i r hi
               obtain ⟨u,hu,q1,q2⟩:=(hR i h1).1.2.2 j d hj
               rw [hadd] at hu
               rw [hu];exact ⟨rfl,q1⟩)
             (fun i j r d hi hj=>by
               obtain ⟨h1,rfl⟩:=hrow i r hi
               obtain ⟨u,hu,q1,q2⟩:=(hR i h1).1.2.2 j d hj
               rw [hadd] at hu
               rw [hu];exact q2)
           rw [← ha] at this
           simpa using this
         · simp only [zL,zD,Rows.uptoBulk]
           rw [zy,o7,List.map_map,List.map_map]
           have e1:elems.map (fun x=>10*(Rows.uptoBulk ∘ fun x=>x.1) x)=(List.range len).map fun i=>(elems[i]?.map fun y=>10*Rows.uptoBulk y.1).getD 0:=by
             apply List.ext_getElem?
             intro i
             rw [List.getElem?_map,List.getElem?_map]
             by_cases hi:i<len
             · obtain ⟨y,hy⟩:∃ y,elems[i]? = some y:=⟨_,List.getElem?_eq_getElem (by omega)⟩
               rw [List.getElem?_range hi,hy];simp [hy]
             · rw [List.getElem?_eq_none (by omega),List.getElem?_eq_none (by simpa using hi)];rfl
           have e0:=agV (f:=Rows.uptoBulk ∘ fun x:DataW H × List MemPlace=>x.1) elems
           rw [e1] at e0
           have:=u3 (f:=zL ∘ R) (g:=fun i=>(elems[i]?.map fun y=>10*Rows.uptoBulk y.1).getD 0) (List.range len) fun i hi=>by
             obtain ⟨_,y,hy,hz⟩:=hR i (List.mem_range.1 hi)
             rw [hy];exact hz
           omega
   · rename_i fs hu
     rw [Bool.and_eq_true] at hr
     obtain ⟨xs,n,_,rfl,hcl,hxl,hf⟩:=DataW.trod_struct hu h
     obtain ⟨ds,l1,o1,r1,z1⟩:=pz (tot:=P.cellsOf t) hcl (fun t cs x h1 h2=>oQ k n t cs x h1 h2) fs.toList 0 xs hr.1 hr.2 (by simpa using hxl) (fun i f hff=>hf i f (by simpa using hff))
     exact ⟨ds,by omega,o1,r1,by simp only [Rows.uptoBulk];omega⟩
   · cases hr
end
end Go.Proofs.YtebnelfdimiifaaGreatDoor

namespace Go.Sy
open Go.RowKit Go.Lp
def nh(P:Program)(t:TypeId)(name:String):Option (FuncId × Bool) :=
 match P.info? t with
 | some i=>match i.methods.find? (·.name == name) with
   | some m=>if m.path.toList=[] then m.func else none
   | none=>none
 | none=>none
section
variable {P:Program} {w:World}
theorem rP{t e f:Nat}{p:Bool}{v u:Value}{name:String}(h:nh P t name=some (f,p))(hr:∀ x,(receiverAt t (.val v) p x).run P w=.ok u w)(k:Nat):(method (k+1) t v name).run P w=.ok (f,u) w:=by
 unfold nh at h
 split at h
 · rename_i i hi
   split at h
   · rename_i m hm
     split at h
     · rename_i hp
       unfold method
       simp only [Sem.run_bind,run_typeInfo w hi,Result.andThen,hm,hp,follow,h]
       simp only [pure,Sem.run,Result.andThen]
       rw [hr]
     · cases h
   · cases h
 · cases h
theorem abZ{t e:Nat}{v:Value}{x:Option String}(hu:P.underlying t=some (.pointer e)):(receiverAt t (.val v) true x).run P w=.ok v w:=by
 unfold receiverAt
 simp only [Sem.run_bind,run_underlying hu,Result.andThen]
 rfl
theorem ab0{t e b o:Nat}{v u:Value}{x:Option String}(hu:P.underlying t=some (.pointer e))(hv:v=.pointer (some ⟨b,o,none⟩))(hl:(loadVar e ⟨b,o,none⟩).run P w=.ok u w):(receiverAt t (.val v) false x).run P w=.ok u w:=by
 subst hv
 unfold receiverAt
 simp only [Sem.run_bind,run_underlying hu,Result.andThen]
 cases x with
 | none=>exact hl
 | some y=>exact hl
theorem wK{f:FuncId}(hf:dP P f=true){l:List Operand}{ts:Array TypeId}{r:Operand}{name:String}{t:TypeId}{v u:Value}{ρ:Operand→Value}{d:Option Tmp}{ty:TypeId}{pos:String}{af:Array Edge}{gd:Option (Nat × Bool)}(hr:ρ r=.iface t v){vs:List Value}(hv:l.map ρ=vs)
   (hm:∀ k,(method (k+1) t v name).run P w=.ok (f,u) w) :
   (execOp ρ ⟨d,.call ⟨.invoke r name,l.toArray,ts⟩,ty,pos,af,gd⟩).run P w=.ok (.enter f (u::vs).toArray) w:=by
 unfold execOp
 dsimp only
 show ((resolve ρ ⟨.invoke r name,l.toArray,ts⟩ ty).bind fun x=>invoke x.target x.args).run P w=_
 have:resolve ρ ⟨.invoke r name,l.toArray,ts⟩ ty=Sem.pure { target:=.fn (.method name) #[],args := #[.iface t v]++vs.toArray } := by
   unfold resolve
   dsimp only
   rw [hr,List.map_toArray,hv]
   rfl
 rw [this]
 show (invoke (.fn (.method name) #[]) (#[.iface t v]++vs.toArray)).run P w=_
 have e0:(#[Value.iface t v]++vs.toArray)[0]? = some (.iface t v):=by simp
 unfold invoke
 dsimp only
 rw [e0]
 show (callMethod (.iface t v) name ((#[Value.iface t v]++vs.toArray).extract 1 (#[Value.iface t v]++vs.toArray).size)).run P w=_
 unfold callMethod
 simp only [Sem.run_bind,program,Sem.run,Result.andThen]
 have h1:=hm (P.types.size+99)
 rw [show P.types.size+99+1=P.types.size+Made.depth from rfl] at h1
 rw [h1]
 show (callFunc f _).run P w=_
 rw [show (#[u]++(#[Value.iface t v]++vs.toArray).extract 1 (#[Value.iface t v]++vs.toArray).size)=(u::vs).toArray by simp]
 exact km hf _ w
end
section
variable {P:Program} {n:Fr} {K:Sta→Prop} {env:Env} {ps:List Per} {hp:List Res} {s:Sta} {d:Option Tmp} {ty:TypeId} {pos:String} {af:Array Edge} {gd:Option (Nat × Bool)} {v:Value}
theorem lR{x:Operand}{T:TypeId}(hT:(match P.underlying T with | some (.interface _)=>false | some _=>true | none=>false)=true)(hx:ev s.env x=some (true,v)):Quiet P n ⟨d,.makeInterface T x,ty,pos,af,gd⟩ s (.iface T v):=fun w S fp a hst he hn=>by
 have h1:=he.val hx rfl
 have:(execOp a.eval ⟨d,.makeInterface T x,ty,pos,af,gd⟩).run P w=.ok (.value (.iface T v)) w:=by
   unfold execOp;dsimp only;rw [h1]
   show ((Instr.makeInterface T v).bind fun r=>Sem.pure (Next.value r)).run P w=_
   rw [Sem.run_bind']
   cases hu:P.underlying T with
   | none=>rw [hu] at hT;cases hT
   | some u =>
     rw [hu] at hT
     unfold Instr.makeInterface
     simp only [Sem.run_bind,run_underlying hu,Result.andThen]
     cases u<;>first | rfl | cases hT
 rw [this];exact cg _ _
theorem xf{x:Operand}{X T:TypeId}(hT:(match P.underlying T with | some (.interface _)=>false | some _=>true | none=>false)=true)(hx:ev s.env x=some (true,.iface T v)):Quiet P n ⟨d,.typeAssert x X T false,ty,pos,af,gd⟩ s v:=fun w S fp a hst he hn=>by
 have h1:=he.val hx rfl
 have:(execOp a.eval ⟨d,.typeAssert x X T false,ty,pos,af,gd⟩).run P w=.ok (.value v) w:=by
   unfold execOp;dsimp only;rw [h1]
   show ((Instr.typeAssert (.iface T v) X T false).bind fun r=>Sem.pure (Next.value r)).run P w=_
   rw [Sem.run_bind']
   cases hu:P.underlying T with
   | none=>rw [hu] at hT;cases hT
   | some u =>
     rw [hu] at hT
     unfold Instr.typeAssert
     simp only [Sem.run_bind,run_underlying hu,Result.andThen]
     cases u<;>first | (simp only [if_true];rfl) | cases hT
 rw [this];exact cg _ _
theorem gr{t:Nat}{f:FuncId}{g:Operand}{T:TypeId}{u:Value}{name:String}{l:List Operand}{ts:Array TypeId}{vs:List Value}{q:Bool}{R:Value→List Per→List Res→Prop}(lp lh:List Nat)(hf:dP P f=true)(hgv:ev env g=some (true,.iface T v))(hm:∀ w S fp,St w S fp ps hp→∀ k,(method (k+1) T v name).run P w=.ok (f,u) w)(hx:evs env l=some vs)(ht:fits n (some t)=true)(ok:okH hp lh=true)
   (hq:(!q || lh.isEmpty)=true) (hc:Con P f (u::vs) (fG ps lp) (cI hp lh) R) (hK:∀ v ps' hp',R v ps' hp'→K ⟨(t,true,v)::env,ps'++ps,iW lh hp' 0 hp⟩) :
   Eff P n ⟨some t,.call ⟨.invoke g name,l.toArray,ts⟩,ty,pos,af,gd⟩ ⟨env,ps,hp⟩ q K:=fun w S fp a hst he hn=>by
 rw [wK hf (he.val hgv rfl) (gV he l vs hx) (hm w S fp hst)]
 obtain ⟨k1,k2⟩:=hst.cI lp lh ok
 have hcc:=hc w S _ k1
 refine hcc.mono fun e w' ⟨v,ps',hp',S',fp',he',hR,hst',hE,hg⟩=>⟨v,he',?_⟩
 obtain ⟨m1,m2⟩:=hst.back lp lh ok hst' hE hg
 refine ⟨_,S',_,hK v ps' hp' hR,m1,?_,hE.wider k2,m2,fun hq' => ?_⟩
 · exact he.put (g:=true) (by rw [hn];simpa [fits] using ht) v
 · rw [hq'] at hq
   have:lh=[]:=by simpa using hq
   subst this
   exact hE.toX (fun b hb=>aay _ b hb)
theorem agR{T e:TypeId}{f:FuncId}{name:String}(hk:nh P T name=some (f,true))(hu:P.underlying T=some (.pointer e)):∀ w S fp,St w S fp ps hp→∀ k,(method (k+1) T v name).run P w=.ok (f,v) w :=
 fun _ _ _ _ k=>rP (e:=0) hk (fun _=>abZ hu) k
theorem uL{T e U:TypeId}{f:FuncId}{name:String}{b o kk:Nat}{ag:Bool}{cs:List Value}{u:Value}(i:Nat)(hk:nh P T name=some (f,false))(hu:P.underlying T=some (.pointer e))(htk:tyk P e=some (ag,kk))(hi:hp[i]? = some (Box b U cs))(hv:rdC ag kk cs o=some u) :
   ∀ w S fp,St w S fp ps hp→∀ k,(method (k+1) T (.pointer (some ⟨b,o,none⟩)) name).run P w=.ok (f,u) w:=fun w S fp hst k=>by
 refine rP (e:=0) hk (fun _=>ab0 hu rfl ?_) k
 have hb:=(hst.res i _ hi).1
 have:=lS (w:=w) htk hv (b:=b) (p:=0) (fun j u hu=>by rw [Nat.zero_add,ec hb];exact hu)
 rwa [Nat.zero_add] at this
end
theorem nw{P:Program}{n:Fr}{env:Env}{ps:List Per}{hp:List Res}{d:Option Tmp}{ty:TypeId}{pos:String}{af:Array Edge}{gd:Option (Nat × Bool)}{x:Operand}{t t':TypeId}{a:Option Addr}(hT:(match P.underlying t with | some (.pointer _)=>true | _=>false)=true)(hx:ev env x=some (true,.pointer a)):Quiet P n ⟨d,.binOp .neq t x (.const (.pointer none)) t',ty,pos,af,gd⟩ ⟨env,ps,hp⟩ (.bool a.isSome):=.run2 hx (y:=.const (.pointer none)) (vy:=.pointer none) rfl fun ρ w h1 h2=>by
 have hu:∃ e,P.underlying t=some (.pointer e):=by
   cases h:P.underlying t with
   | none=>rw [h] at hT;cases hT
   | some dd=>rw [h] at hT;cases dd<;>first | exact ⟨_,rfl⟩ | cases hT
 obtain ⟨e,hu⟩:=hu
 unfold execOp;dsimp only;rw [h1,h2]
 have e1:(do eqGuard BinOp.neq t x (.const (.pointer none)) (Value.pointer a) (Value.pointer none);binOp BinOp.neq t (Value.pointer a) (Value.pointer none))=binOp BinOp.neq t (Value.pointer a) (Value.pointer none):=by cases a<;>rfl
 have e2:(binOp BinOp.neq t (Value.pointer a) (Value.pointer none)).run P w=.ok (.bool a.isSome) w:=by
   have:=run_neq_pointer_nil (P:=P) (w:=w) t a (by rw [hu];unfold Program.pointee;rw [hu])
   rw [this];cases a<;>rfl
 show ((do eqGuard BinOp.neq t x (.const (.pointer none)) (Value.pointer a) (Value.pointer none);binOp BinOp.neq t (Value.pointer a) (Value.pointer none)).bind fun r=>Sem.pure (Next.value r)).run P w=_
 rw [e1,Sem.run_bind',e2];rfl
end Go.Sy

