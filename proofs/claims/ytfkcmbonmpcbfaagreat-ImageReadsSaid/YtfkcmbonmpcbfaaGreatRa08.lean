/- Parts of the proof, in build order. No condition. -/
import Derived.Test.YtfkcmbonmpcbfaaGreatRa07
import Derived.Lib.Zigzag
import Derived.Lib.EndianBits
import Derived.Lib.Varint
import Derived.Test.YtfkcmbonmpcbfaaGreatChecked
import Derived.Test.YtfkcmbonmpcbfaaGreatRa04
import Derived.Test.YtfkcmbonmpcbfaaGreatRa06
import Derived.Test.YtfkcmbonmpcbfaaGreatRa05
set_option linter.unusedSimpArgs false
set_option linter.unusedVariables false
set_option maxHeartbeats 1000000
set_option maxRecDepth 20000
namespace Go.Lv
def iw:Nat→Nat→List UInt8
 | 0,_=>[]
 | k+1,m=>if m<128 then [UInt8.ofNat m] else UInt8.ofNat (m % 128+128)::iw k (m / 128)
abbrev aV(m:Nat):List UInt8:=iw 10 m
def eX:Nat→List UInt8→Option (Nat × List UInt8)
 | 0,_=>none
 | _+1,[]=>none
 | k+1,c::l=>if k=0∧1<c.toNat then none else if c.toNat<128 then (if c.toNat=0∧k<9 then none else some (c.toNat,l)) else (eX k l).map fun p=>(c.toNat % 128+128*p.1,p.2)
theorem rq{m:Nat}(h:m<256):(UInt8.ofNat m).toNat=m:=by rw [UInt8.toNat_ofNat'];omega
theorem fU:∀ (k m:Nat),(iw k m).length≤k
 | 0,_=>Nat.le_refl _
 | k+1,m=>by
   unfold iw;split
   · simp
   · rw [List.length_cons];have:=fU k (m / 128);omega
theorem qi(k m:Nat):1≤(iw (k+1) m).length:=by
 unfold iw;split
 · simp
 · rw [List.length_cons];omega
theorem qj(m:Nat):1≤(aV m).length:=qi 9 m
theorem rP:∀ (k m:Nat) (t:List UInt8),m<2*128 ^ k→(k<9→m≠0)→eX (k+1) (iw (k+1) m++t)=some (m,t)
 | k, m, t,h,h0=>by
   unfold iw
   split
   · rename_i hm
     rw [List.singleton_append]
     unfold eX
     rw [rq (by omega),if_neg (fun ⟨e,h1⟩=>by subst e;omega),if_pos hm,if_neg fun ⟨e,h1⟩=>h0 h1 e]
   · rename_i hm
     rw [List.cons_append]
     cases k with
     | zero=>omega
     | succ k =>
       unfold eX
       have hd:m / 128<2*128 ^ k:=by
         rw [Nat.pow_succ] at h
         exact Nat.div_lt_of_lt_mul (by omega)
       rw [rq (by omega),if_neg (fun ⟨e,_⟩=>by omega),if_neg (by omega),rP k (m / 128) t hd (fun _=>by omega)]
       simp only [Option.map_some,Option.some.injEq,Prod.mk.injEq,and_true]
       omega
theorem ta{m:Nat}(h:m<18446744073709551616)(t:List UInt8):eX 10 (aV m++t)=some (m,t):=rP 9 m t (Nat.lt_of_lt_of_le h (by decide)) (fun h=>by omega)
theorem kW:∀ (k:Nat) (l:List UInt8) (m:Nat) (t:List UInt8),eX (k+1) l=some (m,t)→m<2*128 ^ k∧t.length<l.length
 | k,[],m,t,h=>by simp [eX] at h
 | k,c::l,m,t,h=>by
   unfold eX at h
   split at h
   · cases h
   · rename_i h1
     split at h
     · rename_i h2
       split at h
       · cases h
       · simp only [Option.some.injEq,Prod.mk.injEq] at h
         obtain ⟨rfl,rfl⟩:=h
         refine ⟨?_,by simp⟩
         cases k with
         | zero=>simp at h1;omega
         | succ k=>have:0<128 ^ k:=Nat.pow_pos (by decide);rw [Nat.pow_succ];omega
     · cases k with
       | zero=>simp at h1;omega
       | succ k =>
         obtain ⟨⟨m1,t1⟩,h3,h4⟩:=Option.map_eq_some_iff.1 h
         simp only [Prod.mk.injEq] at h4
         obtain ⟨rfl,rfl⟩:=h4
         have:=kW k l m1 t1 h3
         refine ⟨by rw [Nat.pow_succ];omega,by rw [List.length_cons];omega⟩
theorem kq{l:List UInt8}{m:Nat}{t:List UInt8}(h:eX 10 l=some (m,t)):m<18446744073709551616∧t.length<l.length:=by
 have:=kW 9 l m t h
 exact ⟨Nat.lt_of_lt_of_le this.1 (by decide),this.2⟩
def zz(z:Int):Nat:=if z<0 then (2*(-z-1)+1).toNat else (2*z).toNat
def qT(m:Nat):Int:=if m % 2=1 then -(m / 2:Nat)-1 else (m / 2:Nat)
abbrev I64(z:Int):Prop := -9223372036854775808≤z∧z≤9223372036854775807
theorem yA{z:Int}(h:I64 z):zz z<18446744073709551616:=by unfold zz;unfold I64 at h;split<;>omega
theorem acR(z:Int):qT (zz z)=z:=by unfold qT zz;split<;>split<;>omega
theorem ab2{m:Nat}(h:m<18446744073709551616):I64 (qT m):=by unfold qT I64;split<;>omega
inductive CS
 | W (out:List UInt8)
 | R (rest:List UInt8) (bad:Bool)
def CS.len:CS→Nat
 | .W _=>0
 | .R r _=>r.length
def CS.fails:CS→Bool
 | .W _=>false
 | .R r b=>r.isEmpty && b
structure Cod (α:Type) where
 one:CS→α→CS × α
 enc:α→List UInt8
 zero:α
 ok:α→Prop
 K:Nat
 w:∀ a x,one (.W a) x=(.W (a++enc x),x)
 r:∀ x t,ok x→one (.R (enc x++t) false) zero=(.R t false,x)
 rd:∀ r b,r.length≤4611686018427387904→∃ r' b',(one (.R r b) zero).1=.R r' b'∧r'.length≤r.length∧ok (one (.R r b) zero).2∧(enc (one (.R r b) zero).2).length≤10*(r.length-r'.length)+(if (CS.R r' b').fails then K else 0)
 /-- each is read,or nothing more can be -/
 less:∀ r b,r.length≤4611686018427387904→(one (.R r b) zero).1.len<r.length∨(one (.R r b) zero).1=.R [] true
 pos:∀ x,1≤(enc x).length
def eS(r:List UInt8)(b:Bool):CS × Nat :=
 match eX 10 r with
 | some (m,t)=>if m>9223372036854775807 then (.R [] true,0) else (.R t b,m)
 | none=>(.R [] true,0)
def iS:CS→Int→CS × Int
 | .W a,z=>(.W (a++aV (zz z)),z)
 | .R r b,_=>match eX 10 r with
   | some (m,t)=>(.R t b,qT m)
   | none=>(.R [] true,0)
def kH(r:List UInt8)(b:Bool):CS × List UInt8 :=
 match eS r b with
 | (.R t b',n)=>if n>t.length then (.R [] true,[]) else (.R (t.drop n) b',t.take n)
 | s=>(s.1,[])
def bytesOf(l:List UInt8):ByteArray:=⟨l.toArray⟩
def gH(b:ByteArray):List UInt8:=b.data.toList
theorem lU(b:ByteArray):(gH b).length=b.size:=rfl
def tg(b:ByteArray):List UInt8:=aV b.size++gH b
def ka:CS→ByteArray→CS × ByteArray
 | .W a,z=>(.W (a++tg z),z)
 | .R r b,_=>((kH r b).1,bytesOf (kH r b).2)
theorem zK{r t:List UInt8}{b:Bool}{m:Nat}(h:eX 10 r=some (m,t))(hm:m≤9223372036854775807):eS r b=(.R t b,m):=by unfold eS;rw [h];dsimp only;rw [if_neg (by omega)]
theorem vi{m:Nat}(h:m≤9223372036854775807)(t:List UInt8)(b:Bool):eS (aV m++t) b=(.R t b,m):=zK (ta (by omega) t) h
theorem gI(r:List UInt8)(b:Bool):(∃ t m,eS r b=(.R t b,m)∧eX 10 r=some (m,t)∧m≤9223372036854775807∧t.length<r.length)∨eS r b=(.R [] true,0):=by
 unfold eS
 cases h:eX 10 r with
 | none=>exact .inr rfl
 | some p =>
   obtain ⟨m,t⟩:=p
   dsimp only
   by_cases hm:m>9223372036854775807
   · rw [if_pos hm];exact .inr rfl
   · rw [if_neg hm];exact .inl ⟨t,m,rfl,rfl,by omega,(kq h).2⟩
theorem jk(r:List UInt8)(b:Bool):(∃ t n,eS r b=(.R t b,n)∧n≤t.length∧t.length<r.length∧kH r b=(.R (t.drop n) b,t.take n))∨kH r b=(.R [] true,[]):=by
 unfold kH
 rcases gI r b with ⟨t,m,h,_,_,hl⟩ | h
 · rw [h];dsimp only
   by_cases hm:m>t.length
   · rw [if_pos hm];exact .inr rfl
   · rw [if_neg hm];exact .inl ⟨t,m,rfl,by omega,hl,rfl⟩
 · rw [h];dsimp only
   rw [if_neg (by simp)]
   exact .inr (by simp)
def ak:Cod Int where
 one:=iS
 enc z:=aV (zz z)
 zero:=0
 ok:=I64
 K:=10
 w _ _:=rfl
 r z t h:=by unfold iS;dsimp only;rw [ta (yA h)];dsimp only;rw [acR]
 rd r b hr:=by
   unfold iS;dsimp only
   cases h:eX 10 r with
   | none=>exact ⟨[],true,rfl,Nat.zero_le _,by dsimp only;unfold I64;omega,Nat.le_trans (fU 10 _) (Nat.le_add_left 10 _)⟩
   | some p=>have:=kq h;exact ⟨p.2,b,rfl,by omega,ab2 this.1,Nat.le_trans (fU 10 _) (by omega)⟩
 less r b hr:=by
   unfold iS;dsimp only
   cases h:eX 10 r with
   | none=>exact .inr rfl
   | some p=>exact .inl (kq h).2
 pos z:=qi 9 _
theorem qk(b:ByteArray):(tg b).length=(aV b.size).length+b.size:=by unfold tg;rw [List.length_append,lU]
def an : Cod ByteArray where
 one:=ka
 enc:=tg
 zero:=.empty
 ok b:=b.size≤4611686018427387904
 K:=10
 w _ _:=rfl
 r b t h:=by
   unfold ka;dsimp only
   have e:kH (tg b++t) false=(.R t false,gH b):=by
     unfold kH tg
     rw [List.append_assoc,vi (by omega)]
     dsimp only
     rw [if_neg (by rw [List.length_append,lU];omega),← lU,List.drop_left,List.take_left]
   rw [e];rfl
 rd r b hr:=by
   unfold ka;dsimp only
   rcases jk r b with ⟨t,n,h1,h2,h3,h4⟩ | h4
   · rw [h4]
     refine ⟨t.drop n,b,rfl,by rw [List.length_drop];omega,?_,?_⟩
     · show (t.take n).length≤_
       rw [List.length_take];omega
     · rw [qk]
       have hn:n=(t.take n).length:=by rw [List.length_take];omega
       show (iw 10 (t.take n).length).length+(t.take n).length≤_
       rw [← hn,List.length_drop]
       have:=fU 10 n
       omega
   · rw [h4]
     exact ⟨[],true,rfl,Nat.zero_le _,by decide,Nat.le_trans (by decide) (Nat.le_add_left 10 _)⟩
 less r b hr:=by
   unfold ka;dsimp only
   rcases jk r b with ⟨t,n,h1,h2,h3,h4⟩ | h4
   · rw [h4];exact .inl (by show (t.drop n).length<_;rw [List.length_drop];omega)
   · rw [h4];exact .inr rfl
 pos b:=by rw [qk];have:=qj b.size;omega
theorem acw{r:List UInt8}{b:Bool} : (CS.R r b).fails=true↔r=[]∧b=true:=by unfold CS.fails;simp
theorem Cod.stays{α:Type}(A:Cod α):(A.one (.R [] true) A.zero).1=.R [] true:=(A.less [] true (Nat.zero_le _)).resolve_left fun h=>absurd h (Nat.not_lt_zero _)
def Cod.prod{α β:Type}(A:Cod α)(B:Cod β):Cod (α × β) where
 one s x:=((B.one (A.one s x.1).1 x.2).1,((A.one s x.1).2,(B.one (A.one s x.1).1 x.2).2))
 enc x:=A.enc x.1++B.enc x.2
 zero:=(A.zero,B.zero)
 ok x:=A.ok x.1∧B.ok x.2
 K:=A.K+B.K
 w a x:=by rw [A.w,B.w,List.append_assoc]
 r x t h:=by rw [List.append_assoc,A.r _ _ h.1,B.r _ _ h.2]
 rd r b hr:=by
   obtain ⟨r1,b1,h1,h2,h3,h4⟩:=A.rd r b hr
   obtain ⟨r2,b2,k1,k2,k3,k4⟩:=B.rd r1 b1 (by omega)
   dsimp only
   rw [h1]
   refine ⟨r2,b2,k1,by omega,⟨h3,k3⟩,?_⟩
   rw [List.length_append]
   by_cases hf:(CS.R r1 b1).fails=true
   · obtain ⟨rfl,rfl⟩:=acw.1 hf
     rw [B.stays] at k1
     obtain ⟨rfl,rfl⟩:=CS.R.inj k1
     rw [if_pos hf] at h4 k4 ⊢
     omega
   · rw [if_neg hf] at h4
     split at k4<;>rename_i h5
     · rw [if_pos h5];omega
     · rw [if_neg h5];omega
 less r b hr:=by
   obtain ⟨r1,b1,h1,h2,h3,h4⟩:=A.rd r b hr
   have hl:=A.less r b hr
   dsimp only
   rw [h1] at hl ⊢
   obtain ⟨r2,b2,k1,k2,k3,k4⟩:=B.rd r1 b1 (by omega)
   have kl:=B.less r1 b1 (by omega)
   rw [k1] at kl ⊢
   rcases kl with kl | kl
   · exact .inl (Nat.lt_of_lt_of_le kl h2)
   · exact .inr kl
 pos x:=by rw [List.length_append];have:=A.pos x.1;omega
def bP:Cod Bool where
 one s x:=((iS s (if x then 1 else 0)).1,decide ((iS s (if x then 1 else 0)).2≠0))
 enc x:=aV (zz (if x then 1 else 0))
 zero:=false
 ok _:=True
 K:=10
 w a x:=by cases x<;>rfl
 r x t _:=by
   have:=ak.r (if x then 1 else 0) t (by unfold ak;dsimp only;unfold I64;split<;>omega)
   unfold ak at this;dsimp only at this
   have e:(if false=true then (1:Int) else 0)=0:=rfl
   rw [e,this];cases x<;>rfl
 rd r b hr:=by
   obtain ⟨r',b',h1,h2,_⟩:=ak.rd r b hr
   have hl:=ak.less r b hr
   have h1':(iS (.R r b) (if false=true then 1 else 0)).1=.R r' b':=h1
   rw [h1] at hl
   refine ⟨r',b',h1',h2,trivial,?_⟩
   have e:∀ x:Bool,(aV (zz (if x=true then 1 else 0))).length=1:=fun x=>by cases x<;>rfl
   rw [e]
   rcases hl with hl | hl
   · have:r'.length<r.length:=hl
     omega
   · rw [hl];show 1≤_+10;omega
 less r b hr:=ak.less r b hr
 pos x:=qi 9 _
def eK{α:Type}(A:Cod α):Nat→CS→List α→CS × List α
 | 0,s,l=>(s,l)
 | n+1,s,l=>if s.fails then (s,l) else eK A n (A.one s A.zero).1 (l++[(A.one s A.zero).2])
def iP{α:Type}(A:Cod α)(l:List α):List UInt8:=(l.map A.enc).flatten
theorem nj{α:Type}(A:Cod α)(x:α)(l:List α):iP A (x::l)=A.enc x++iP A l:=rfl
theorem kv{α:Type}(A:Cod α)(l m:List α):iP A (l++m)=iP A l++iP A m:=by unfold iP;rw [List.map_append,List.flatten_append]
theorem aa2{α:Type}(A:Cod α)(l:List α):l.length≤(iP A l).length:=by
 induction l with
 | nil=>exact Nat.zero_le _
 | cons x l ih=>rw [nj,List.length_append,List.length_cons];have:=A.pos x;omega
theorem xS{α:Type}(A:Cod α):∀ (l m:List α) (t:List UInt8),(∀ x∈l,A.ok x)→eK A l.length (.R (iP A l++t) false) m=(.R t false,m++l)
 | [],m,t,_=>by simp [eK,iP]
 | x::l,m,t,h=>by
   rw [List.length_cons]
   unfold eK
   rw [if_neg (by unfold CS.fails;simp),nj,List.append_assoc,A.r _ _ (h x (by simp)),xS A l _ t fun y hy=>h y (by simp [hy]),List.append_assoc];rfl
theorem kz{α:Type}(A:Cod α)(n:Nat){s:CS}(h:s.fails=true)(l:List α):eK A n s l=(s,l):=by
 cases n with
 | zero=>rfl
 | succ n=>unfold eK;rw [if_pos h]
theorem qy{α:Type}(A:Cod α):∀ (n:Nat) (r:List UInt8) (b:Bool) (l:List α),r.length≤4611686018427387904→(∀ x∈l,A.ok x) →
   ∃ r' b',(eK A n (.R r b) l).1=.R r' b'∧r'.length≤r.length∧(∀ x∈(eK A n (.R r b) l).2,A.ok x)∧(iP A (eK A n (.R r b) l).2).length≤(iP A l).length+10*(r.length-r'.length)+(if (CS.R r' b').fails then A.K else 0) ∧
     (eK A n (.R r b) l).2.length≤l.length+(r.length-r'.length)+1
 | 0,r,b,l,hr,hl=>⟨r,b,rfl,Nat.le_refl _,hl,by show (iP A l).length≤_;omega,by show l.length≤_;omega⟩
 | n + 1,r,b,l,hr,hl=>by
   by_cases hf:(CS.R r b).fails=true
   · rw [kz A _ hf];exact ⟨r,b,rfl,Nat.le_refl _,hl,by show (iP A l).length≤_;omega,by show l.length≤_;omega⟩
   · unfold eK
     rw [if_neg hf]
     obtain ⟨r1,b1,h1,h2,h3,h4⟩:=A.rd r b hr
     have hless:=A.less r b hr
     have e:iP A [(A.one (.R r b) A.zero).2]=A.enc (A.one (.R r b) A.zero).2:=by simp [iP]
     rw [h1] at hless ⊢
     have hl1:∀ x∈l++[(A.one (.R r b) A.zero).2],A.ok x:=fun x hx=>(List.mem_append.1 hx).elim (hl x) fun h=>by rw [List.mem_singleton.1 h];exact h3
     by_cases hf1:(CS.R r1 b1).fails=true
     · rw [kz A _ hf1]
       rw [if_pos hf1] at h4
       refine ⟨r1,b1,rfl,h2,hl1,?_,?_⟩
       · rw [kv,List.length_append,e,if_pos hf1];omega
       · rw [List.length_append,List.length_singleton];omega
     · rw [if_neg hf1] at h4
       have hlt:r1.length<r.length:=hless.resolve_right fun h=>hf1 (by rw [h];rfl)
       obtain ⟨r2,b2,k1,k2,k3,k4,k5⟩:=qy A n r1 b1 (l++[(A.one (.R r b) A.zero).2]) (by omega) hl1
       refine ⟨r2,b2,k1,by omega,k3,?_,?_⟩
       · rw [kv,List.length_append,e] at k4
         omega
       · rw [List.length_append,List.length_singleton] at k5
         omega
def cA{α:Type}(A:Cod α):Cod (List α) where
 one
   | .W a,l=>(.W (a++(aV l.length++iP A l)),l)
   | .R r b,l=>eK A (eS r b).2 (eS r b).1 l
 enc l:=aV l.length++iP A l
 zero:=[]
 ok l:=l.length≤9223372036854775807∧∀ x∈l,A.ok x
 K:=10+A.K
 w _ _:=rfl
 r l t h:=by
   dsimp only
   rw [List.append_assoc,vi h.1]
   dsimp only
   rw [xS A l [] t h.2];rfl
 rd r b hr:=by
   dsimp only
   rcases gI r b with ⟨t,m,h1,h2,h3,h4⟩ | h1
   · rw [h1];dsimp only
     obtain ⟨r2,b2,k1,k2,k3,k4,k5⟩:=qy A m t b [] (by omega) fun x hx=>by cases hx
     refine ⟨r2,b2,k1,by omega,⟨by rw [List.length_nil] at k5;omega,k3⟩,?_⟩
     rw [List.length_append]
     have:=fU 10 (eK A m (.R t b) []).2.length
     have e:(iP A ([]:List α)).length=0:=rfl
     rw [e] at k4
     show (iw 10 _).length+_≤_
     split at k4<;>rename_i h5
     · rw [if_pos h5];omega
     · rw [if_neg h5];omega
   · rw [h1];dsimp only
     refine ⟨[],true,rfl,Nat.zero_le _,⟨Nat.zero_le _,fun x hx=>by cases hx⟩,?_⟩
     show (aV 0++iP A []).length≤_
     have e:(aV 0++iP A []).length=1:=rfl
     rw [e]
     show 1≤_+(10+A.K)
     omega
 less r b hr:=by
   dsimp only
   rcases gI r b with ⟨t,m,h1,h2,h3,h4⟩ | h1
   · rw [h1];dsimp only
     obtain ⟨r2,b2,k1,k2,_⟩:=qy A m t b [] (by omega) fun x hx=>by cases hx
     rw [k1]
     exact .inl (Nat.lt_of_le_of_lt k2 h4)
   · rw [h1];exact .inr rfl
 pos l:=by rw [List.length_append];have:=qj l.length;omega
open Go
theorem aei(z:Int):zz z=Lib.zigzag z:=by unfold zz Lib.zigzag;split<;>split<;>omega
theorem oR(m:Nat):aV m≠[]:=fun h=>by have:=qj m;rw [h] at this;cases this
theorem eD(a b:List UInt8):bytesOf (a++b)=bytesOf a++bytesOf b:=by
 apply ByteArray.ext
 show (a++b).toArray=(bytesOf a++bytesOf b).data
 rw [ByteArray.data_append]
 show _=a.toArray++b.toArray
 simp
theorem iq(r:List UInt8){z:Int}{i:Nat}(hz:z=i):(bytesOf r).extract z.toNat (bytesOf r).size=bytesOf (r.drop i):=by
 subst hz
 apply ByteArray.ext
 rw [ByteArray.data_extract]
 show r.toArray.extract i r.toArray.size=(r.drop i).toArray
 rw [List.extract_toArray,List.size_toArray]
 show ((r.drop i).take (r.length-i)).toArray=_
 rw [List.take_of_length_le (by rw [List.length_drop];exact Nat.le_refl _)]
theorem gp(r:List UInt8){z:Int}{i:Nat}(hz:z=i):(bytesOf r).extract 0 z.toNat=bytesOf (r.take i):=by
 subst hz
 apply ByteArray.ext
 rw [ByteArray.data_extract]
 show r.toArray.extract 0 i=(r.take i).toArray
 rw [List.extract_toArray]
 show ((r.drop 0).take (i-0)).toArray=_
 simp
theorem adp(m:Nat):IntKind.u8.wrap (BitVec.ofInt IntKind.u8.bits (IntKind.u8.wrap ((m:Int).tmod 128)) ||| BitVec.ofInt IntKind.u8.bits 128).toNat=((m % 128+128:Nat):Int):=by
 have e:IntKind.u8.wrap ((m:Int).tmod 128)=((m % 128:Nat):Int):=by
   rw [show (m:Int).tmod 128=((m % 128:Nat):Int) from rfl,IntKind.wrap_u8];omega
 rw [e]
 have h:=Lib.u8_or128_any ((m % 128:Nat):Int) (by omega) (by omega)
 have h2:bits .or .u8 ((m % 128:Nat):Int) 128=IntKind.u8.wrap (BitVec.ofInt IntKind.u8.bits ((m % 128:Nat):Int) ||| BitVec.ofInt IntKind.u8.bits 128).toNat:=rfl
 rw [← h2,h];omega
theorem xR{m:Nat}(h:m<128):IntKind.u8.wrap (m:Int)=((m:Nat):Int):=by rw [IntKind.wrap_u8];omega
theorem aa7{acc c i:Nat}(ha:acc<128 ^ i)(hi:i≤9)(hc:i=9→c≤1)(hc2:c<256) :
   IntKind.u64.wrap (BitVec.ofInt IntKind.u64.bits (acc:Int) ||| BitVec.ofInt IntKind.u64.bits (IntKind.u64.wrap (((c:Int).tmod 128)*2 ^ min ((7*(i:Int)).toNat) IntKind.u64.bits))).toNat=((acc+128 ^ i*(c % 128):Nat):Int):=by
 have hp:(128:Nat) ^ i=2 ^ (7*i):=by rw [Nat.pow_mul]
 have hm:min ((7*(i:Int)).toNat) IntKind.u64.bits=7*i:=by
   have:(7*(i:Int)).toNat=7*i:=by omega
   rw [this]
   exact Nat.min_eq_left (by show 7*i≤64;omega)
 have hlt:128 ^ i*(c % 128)<2 ^ 64:=by
   rcases Nat.lt_or_ge i 9 with h | h
   · have h1:128 ^ i≤128 ^ 8:=Nat.pow_le_pow_right (by decide) (by omega)
     have h2:c % 128<128:=Nat.mod_lt _ (by decide)
     calc 128 ^ i*(c % 128)≤128 ^ 8*127:=Nat.mul_le_mul h1 (by omega)
       _<2 ^ 64:=by decide
   · have h9:i=9:=by omega
     subst h9
     have:=hc rfl
     have h2:c % 128≤1:=by omega
     calc 128 ^ 9*(c % 128)≤128 ^ 9*1:=Nat.mul_le_mul_left _ h2
       _<2 ^ 64:=by decide
 have hx:IntKind.u64.wrap (((c:Int).tmod 128)*2 ^ (7*i))=((128 ^ i*(c % 128):Nat):Int):=by
   have e:((c:Int).tmod 128)*2 ^ (7*i)=((128 ^ i*(c % 128):Nat):Int):=by
     rw [show (c:Int).tmod 128=((c % 128:Nat):Int) from rfl,hp]
     push_cast;exact Int.mul_comm _ _
   rw [e];exact Go.wraps_u64 _ (by omega) (by exact_mod_cast hlt)
 rw [hm,hx]
 have hacc:acc<2 ^ 64:=Nat.lt_of_lt_of_le ha (by
   have:128 ^ i≤128 ^ 9:=Nat.pow_le_pow_right (by decide) hi
   exact Nat.le_trans this (by decide))
 have h:=Go.bits_join_low .u64 64 (by decide) Go.wraps_u64 (7*i) (acc:Int) ((128 ^ i*(c % 128):Nat):Int) (by omega) (by exact_mod_cast (hp ▸ ha)) (by exact_mod_cast hacc) (by omega) (by
   rw [hp];push_cast;exact Int.mul_emod_right _ _) (by exact_mod_cast hlt)
 have h2:bits .or .u64 (acc:Int) ((128 ^ i*(c % 128):Nat):Int)=IntKind.u64.wrap (BitVec.ofInt IntKind.u64.bits (acc:Int) ||| BitVec.ofInt IntKind.u64.bits ((128 ^ i*(c % 128):Nat):Int)).toNat:=rfl
 rw [← h2,h];push_cast;rfl
theorem adV{z:Int}(h:I64 z):bits .xor .u64 (IntKind.u64.wrap (IntKind.u64.wrap z*2 ^ min (1:Int).toNat IntKind.u64.bits)) (IntKind.u64.wrap (z.fdiv (2 ^ min (63:Int).toNat IntKind.i64.bits)))=((zz z:Nat):Int):=by
 have e1:(2:Int) ^ min (1:Int).toNat IntKind.u64.bits=2:=by decide
 have e2:(2:Int) ^ min (63:Int).toNat IntKind.i64.bits=9223372036854775808:=by decide
 rw [e1,e2]
 unfold I64 at h
 by_cases hn:z<0
 · have:z.fdiv 9223372036854775808 = -1:=by rw [Int.fdiv_eq_ediv_of_nonneg _ (by decide)];omega
   rw [this]
   have em:IntKind.u64.wrap (-1)=IntKind.u64.max:=by decide
   rw [em,aei]
   have hz:=Lib.zigzag_neg h.1 hn
   rw [← hz]
   exact congrArg (fun x:BitVec 64=>IntKind.u64.wrap x.toNat) (BitVec.xor_comm _ _)
 · have:z.fdiv 9223372036854775808=0:=by rw [Int.fdiv_eq_ediv_of_nonneg _ (by decide)];omega
   rw [this]
   have e0:IntKind.u64.wrap 0=((0:Nat):Int):=by decide
   have ez:IntKind.u64.wrap (IntKind.u64.wrap z*2)=((zz z:Nat):Int):=by
     rw [IntKind.wrap_u64,IntKind.wrap_u64];unfold zz;rw [if_neg hn];omega
   rw [e0,ez,bits_xor_u64_nat _ _ (by have:=yA (z:=z) (by unfold I64;omega);omega) (by decide),Nat.xor_zero]
theorem adU{m:Nat}(h:m<18446744073709551616):bits .xor .i64 (IntKind.i64.wrap ((m:Int).fdiv (2 ^ min (1:Int).toNat IntKind.u64.bits))) (IntKind.i64.wrap (-(IntKind.i64.wrap (IntKind.u64.wrap (BitVec.ofInt IntKind.u64.bits (m:Int) &&& BitVec.ofInt IntKind.u64.bits 1).toNat))))=qT m:=by
 have e1:(2:Int) ^ min (1:Int).toNat IntKind.u64.bits=2:=by decide
 rw [e1,Int.fdiv_eq_ediv_of_nonneg _ (by decide)]
 have hand:IntKind.u64.wrap (BitVec.ofInt IntKind.u64.bits (m:Int) &&& BitVec.ofInt IntKind.u64.bits 1).toNat=((m % 2:Nat):Int):=by
   have:=Lib.u64_and1 (m:Int) (by omega) (by omega)
   have h2:bits .and .u64 (m:Int) 1=IntKind.u64.wrap (BitVec.ofInt IntKind.u64.bits (m:Int) &&& BitVec.ofInt IntKind.u64.bits 1).toNat:=rfl
   rw [← h2,this];omega
 rw [hand]
 have ew:IntKind.i64.wrap ((m:Int) / 2)=((m / 2:Nat):Int):=by rw [IntKind.wrap_i64];omega
 rw [ew]
 unfold qT
 rcases Nat.mod_two_eq_zero_or_one m with h0 | h1
 · rw [h0,if_neg (by decide)]
   have:IntKind.i64.wrap (-(IntKind.i64.wrap ((0:Nat):Int)))=0:=by decide
   rw [this]
   show IntKind.i64.wrap ((BitVec.ofInt 64 ((m / 2:Nat):Int) ^^^ BitVec.ofInt 64 0).toNat:Int)=_
   have hb:(BitVec.ofInt 64 ((m / 2:Nat):Int)).toNat=m / 2:=by
     rw [BitVec.ofInt_natCast,BitVec.toNat_ofNat];exact Nat.mod_eq_of_lt (by omega)
   have h0b:BitVec.ofInt 64 0=0#64:=by decide
   rw [h0b,BitVec.xor_zero,hb,IntKind.wrap_i64];omega
 · rw [h1,if_pos rfl]
   have:IntKind.i64.wrap (-(IntKind.i64.wrap ((1:Nat):Int))) = -1:=by decide
   rw [this]
   have h3:=Lib.i64_not (m / 2) (by omega)
   rw [← h3]
   exact congrArg (fun x:BitVec 64=>IntKind.i64.wrap x.toNat) (BitVec.xor_comm _ _)
theorem jz(k:Nat)(c:UInt8)(l:List UInt8):eX (k+1) (c::l)=if k=0∧1<c.toNat then none else if c.toNat<128 then (if c.toNat=0∧k<9 then none else some (c.toNat,l)) else (eX k l).map fun p=>(c.toNat % 128+128*p.1,p.2):=rfl
def gq(r:List UInt8)(b:Bool):Nat × List UInt8 × Bool:=match eX 10 r with | some (m,t)=>(m,t,b) | none=>(0,[],true)
theorem jA{r:List UInt8}(h:eX 10 r=none)(b:Bool):gq r b=(0,[],true):=by unfold gq;rw [h]
theorem rQ{r t:List UInt8}{m:Nat}(h:eX 10 r=some (m,t))(b:Bool):gq r b=(m,t,b):=by unfold gq;rw [h]
theorem oO(r:List UInt8)(b:Bool):(gq r b).1<18446744073709551616:=by
 unfold gq
 cases h:eX 10 r with
 | none=>exact (show 0<18446744073709551616 by decide)
 | some p=>exact (kq h).1
theorem vh(r:List UInt8)(b:Bool):eS r b=if (gq r b).1>9223372036854775807 then (.R [] true,0) else (.R (gq r b).2.1 (gq r b).2.2,(gq r b).1):=by
 unfold eS gq
 cases h:eX 10 r with
 | none=>dsimp only;rw [if_neg (by decide)]
 | some p=>rfl
theorem qx(r:List UInt8)(b:Bool)(z:Int):iS (.R r b) z=(.R (gq r b).2.1 (gq r b).2.2,qT (gq r b).1):=by
 unfold iS gq;dsimp only
 cases h:eX 10 r with
 | none=>exact congrArg (Prod.mk (CS.R [] true)) (show (0:Int)=qT 0 by decide)
 | some p=>rfl
theorem sn{r t:List UInt8}{b b':Bool}(h:(eS r b).1=.R t b'):kH r b=if (eS r b).2>t.length then (.R [] true,[]) else (.R (t.drop (eS r b).2) b',t.take (eS r b).2):=by
 unfold kH
 generalize eS r b=p at h ⊢
 obtain ⟨s,n⟩:=p
 dsimp only at h ⊢
 subst h;rfl
theorem lH(r:List UInt8):decide (bytesOf r=⟨#[]⟩)=r.isEmpty:=by
 cases r with
 | nil=>exact decide_eq_true rfl
 | cons a l=>exact decide_eq_false fun h=>absurd (congrArg ByteArray.size h) (Nat.succ_ne_zero l.length)
structure RdI (r:List UInt8) (i acc:Nat):Prop where
 le:i≤r.length
 i9:i≤10
 lt:acc<128 ^ i
 eq:eX 10 r=(eX (10-i) (r.drop i)).map fun p=>(acc+128 ^ i*p.1,p.2)
theorem RdI.start(r:List UInt8):RdI r 0 0:=⟨Nat.zero_le _,by decide,by decide,by simp⟩
section
variable {r:List UInt8} {i acc:Nat} {u:UInt8}
theorem RdI.cons(h:RdI r i acc)(hu:r[i]? = some u)(hi:i<10):eX 10 r=(eX (9-i+1) (u::r.drop (i+1))).map fun p=>(acc+128 ^ i*p.1,p.2):=by
 have:=(List.getElem?_eq_some_iff.1 hu)
 obtain ⟨hl,he⟩:=this
 rw [h.eq,show 10-i=9-i+1 by omega,List.drop_eq_getElem_cons hl,he]
theorem RdI.big(h:RdI r i acc)(hu:r[i]? = some u)(hi:i=9)(h1:1<u.toNat):eX 10 r=none:=by
 rw [h.cons hu (by omega),jz,if_pos ⟨by omega,h1⟩];rfl
theorem RdI.zero(h:RdI r i acc)(hu:r[i]? = some u)(hi:i<10)(h1:u.toNat=0)(h0:0<i):eX 10 r=none:=by
 rw [h.cons hu hi,jz,if_neg (by omega),if_pos (by omega),if_pos ⟨h1,by omega⟩];rfl
theorem RdI.last(h:RdI r i acc)(hu:r[i]? = some u)(hi:i<10)(h9:¬ (i=9∧1<u.toNat))(h1:u.toNat<128)(h0:¬ (u.toNat=0∧0<i)):eX 10 r=some (acc+128 ^ i*(u.toNat % 128),r.drop (i+1)):=by
 rw [h.cons hu hi,jz,if_neg (by omega),if_pos h1,if_neg (by omega),Option.map_some,Nat.mod_eq_of_lt h1]
theorem RdI.more(h:RdI r i acc)(hu:r[i]? = some u)(hi:i<10)(h9:¬ (i=9∧1<u.toNat))(h1:128≤u.toNat):RdI r (i+1) (acc+128 ^ i*(u.toNat % 128)):=by
 have hl:=(List.getElem?_eq_some_iff.1 hu).1
 refine ⟨hl,hi,?_,?_⟩
 · have h2:u.toNat % 128≤127:=by omega
   have h3:128 ^ i*(u.toNat % 128)≤128 ^ i*127:=Nat.mul_le_mul_left _ h2
   have:=h.lt
   rw [Nat.pow_succ];omega
 · rw [h.cons hu hi,jz,if_neg (by omega),if_neg (by omega),show 10-(i+1)=9-i by omega,Option.map_map]
   congr 1
   funext p
   simp only [Function.comp,Prod.mk.injEq,and_true]
   rw [Nat.pow_succ,Nat.mul_add,Nat.add_assoc,Nat.mul_assoc]
theorem RdI.stop(h:RdI r i acc)(hs:r.length≤i∨10≤i):eX 10 r=none:=by
 rw [h.eq]
 rcases hs with hs | hs
 · rw [List.drop_eq_nil_of_le hs]
   cases 10-i<;>rfl
 · rw [show 10-i=0 by omega];rfl
end
structure WrI (m0:Nat) (l:List UInt8) (m:Nat):Prop where
 le:l.length≤9
 lt:m<2*128 ^ (9-l.length)
 eq:l++iw (10-l.length) m=aV m0
theorem WrI.start{m:Nat}(h:m<18446744073709551616):WrI m [] m:=⟨Nat.zero_le _,Nat.lt_of_lt_of_le h (by decide),rfl⟩
theorem WrI.step{m0 m:Nat}{l:List UInt8}(h:WrI m0 l m)(hm:128≤m):WrI m0 (l++[UInt8.ofNat (m % 128+128)]) (m / 128):=by
 have hlt:=h.lt
 have hle:=h.le
 obtain ⟨k,hk⟩:∃ k,9-l.length=k+1:=by
   cases hh:9-l.length with
   | zero=>rw [hh] at hlt;omega
   | succ k=>exact ⟨k,rfl⟩
 have hk2:9-(l++[UInt8.ofNat (m % 128+128)]).length=k:=by simp;omega
 refine ⟨by simp;omega,?_,?_⟩
 · rw [hk2]
   rw [hk,Nat.pow_succ] at hlt
   exact Nat.div_lt_of_lt_mul (by omega)
 · rw [← h.eq]
   have e1:10-l.length=(k+1)+1:=by omega
   have e2:10-(l++[UInt8.ofNat (m % 128+128)]).length=k+1:=by simp;omega
   rw [e1,e2,List.append_assoc]
   show _=l++iw (k+1+1) m
   rw [show iw (k+1+1) m=UInt8.ofNat (m % 128+128)::iw (k+1) (m / 128) from by rw [iw,if_neg (by omega)]]
   rfl
theorem WrI.last{m0 m:Nat}{l:List UInt8}(h:WrI m0 l m)(hm:m<128):l++[UInt8.ofNat m]=aV m0:=by
 have hle:=h.le
 rw [← h.eq,show 10-l.length=9-l.length+1 by omega,iw,if_pos hm]
end Go.Lv

namespace Go.Proofs.YtfkcmbonmpcbfaaGreat
open Go.RowKit Go.Lp Go.Sy
def I64(n:Int):Prop := -9223372036854775808≤n∧n≤9223372036854775807
end Go.Proofs.YtfkcmbonmpcbfaaGreat

namespace Go.Sy
open Go.RowKit Go.Lp
theorem Ent.mk2{ps:List Per}{p q:Per}(h1:Ent ps p)(h2:Ent ps q):Ent ps (cM p q):=fun w S hp=>⟨h1 w S hp,h2 w S hp⟩
def Bun(l:List Res):Res :=
 ⟨fun w S F=>∃ fp:Nat→bO,(∀ (i:Nat) (R:Res),l[i]? = some R→R.holds w S (fp i))∧(∀ i j,i<l.length→j<l.length→i≠j→∀ b,fp i b→¬ fp j b)∧∀ b,F b↔tot fp l.length b,
  fun ⟨fp,h1,h2,h3⟩ k1 k2 k3=>⟨fp,fun i R hR=>R.mono (h1 i R hR) (fun b hb=>k1 b ((h3 b).2 ⟨i,(List.getElem?_eq_some_iff.1 hR).1,hb⟩)) k2 k3,h2,h3⟩⟩
section
variable {w:World} {S:bO} {fp:Nat→bO} {ps:List Per} {l:List Res}
theorem St.bun(h:St w S fp ps l):St w S (fun _=>tot fp l.length) ps [Bun l] where
 per:=h.per
 res i R hR:=by
   cases i with
   | zero=>simp only [List.getElem?_cons_zero,Option.some.injEq] at hR;subst hR;exact ⟨fp,h.res,h.dj,fun _=>Iff.rfl⟩
   | succ i=>simp at hR
 lt i hi b hb:=let ⟨j,hj,hjb⟩:=hb;h.lt j hj b hjb
 dj i j hi hj hne:=by simp only [List.length_singleton] at hi hj;omega
 slt:=h.slt
theorem St.unbun(h:St w S fp ps [Bun l]):∃ fp',St w S fp' ps l∧∀ b,tot fp' l.length b→tot fp [Bun l].length b:=by
 obtain ⟨fp',h1,h2,h3⟩:=h.res 0 _ rfl
 have hin:∀ b,tot fp' l.length b→fp 0 b:=fun b hb=>(h3 b).2 hb
 exact ⟨fp',⟨h.per,h1,fun i hi b hb=>h.lt 0 (by simp) b (hin b ⟨i,hi,hb⟩),h2,h.slt⟩,fun b hb=>⟨0,by simp,hin b hb⟩⟩
theorem tL(F:bO)(b:Nat)(R:Res):tot (fun _=>F) [R].length b↔F b:=⟨fun ⟨_,_,h⟩=>h,fun h=>⟨0,by simp,h⟩⟩
variable {P:Program} {R:Value→List Per→List Res→Prop}
theorem ack{f:FuncId}{args:List Value}(h:Con P f args ps [Bun l] fun v ps' hp'=>∃ l',hp'=[Bun l']∧R v ps' l'):Con P f args ps l R:=fun w S fp hst =>
 (h w S _ hst.bun).mono fun e w' ⟨v,ps',hp',S',fp',he,⟨l',hl,hR⟩,hst',hE,hg⟩=>by
   subst hl
   obtain ⟨fp2,k1,k2⟩:=hst'.unbun
   exact ⟨v,ps',l',S',fp2,he,hR,k1,hE.wider (fun b hb=>(tL _ b (Bun l)).1 hb),fun b hb=>(hg b (k2 b hb)).imp (fun h=>(tL _ b (Bun l)).1 h) id⟩
theorem Con.post{f:FuncId}{args:List Value}{R':Value→List Per→List Res→Prop}(h:Con P f args ps l R)(hr:∀ v ps' hp',R v ps' hp'→R' v ps' hp'):Con P f args ps l R':=fun w S fp hst =>
 (h w S fp hst).mono fun e w' ⟨v,ps',hp',S',fp',he,hR,h⟩=>⟨v,ps',hp',S',fp',he,hr _ _ _ hR,h⟩
theorem Con.pre{f:FuncId}{args:List Value}{ps0:List Per}(h:Con P f args ps l R)(hr:∀ p∈ps,Ent ps0 p):Con P f args ps0 l R:=fun w S fp hst =>
 h w S fp ⟨fun p hp=>hr p hp w S hst.per,hst.res,hst.lt,hst.dj,hst.slt⟩
end
section
variable {P:Program} {n:Fr} {ops:Array Oper} {Q:Exit→Sta→Prop} {s:Sta} {o:Oper}
end
end Go.Sy

namespace Go.Sy
theorem jg{P:Program}{n:Fr}{s:Sta}{d:Option Tmp}{ty:TypeId}{pos:String}{af:Array Edge}{gd:Option (Nat × Bool)}{v:Value}{f:FuncId}{g:Operand}{caps:List Value}(hf:dV P f=true){l:List Operand}{ts:Array TypeId}{vs:List Value}(hg:ev s.env g=some (true,.func (.func f) #[] caps.toArray))(hx:evs s.env l=some vs)
   (hc:∀ w S fp,St w S fp s.ps s.hp→Calls P f (vs++caps).toArray w fun e w'=>e=.returned v∧Go.Sy.Below w.heap.size w w') :
   Quiet P n ⟨d,.call ⟨.value g,l.toArray,ts⟩,ty,pos,af,gd⟩ s v:=fun w S fp a hst he hn=>by
 rw [nk hf (he.val hg rfl) (gV he l vs hx)]
 have:=hc w S fp hst
 rw [show (vs++caps).toArray=vs.toArray++caps.toArray by simp] at this
 exact this.mono fun e w' ⟨h1,h2⟩=>⟨v,h1,rfl,h2⟩
open RowKit in
theorem Con.quiet3{P:Program}{v:Value}{f:FuncId}{args:List Value}{p q t:Per}(h:Con P f args [p,q,t] [] fun u _ _=>u=v){w:World}{S:bO}{fp:Nat→bO}{ps':List Per}{hp:List Res}(hp1:p∈ps')(hq1:q∈ps')(ht1:t∈ps')(hst:St w S fp ps' hp) :
   Calls P f args.toArray w fun e w'=>e=.returned v∧Go.Sy.Below w.heap.size w w':=h.quiet (fun _ h=>by
     simp only [List.mem_cons,List.not_mem_nil,or_false] at h
     rcases h with rfl | rfl | rfl
     · exact hp1
     · exact hq1
     · exact ht1) hst
end Go.Sy
namespace Go.Proofs.YtfkcmbonmpcbfaaGreat
open Go.RowKit Go.Lp Go.Sy
def xZ(n v:Int):Bool:=decide (v≥0) && decide (v<n)
def lM(n:Int)(a:dI):Bool := !xZ n a.from_ || !xZ n a.to_
def xo(n:Int)(l:List dI):Bool:=(decide (n≥0) && decide (n≤262144)) && !l.any (lM n)
theorem tk3:tyk Tryz.prog 3=some (false,1):=by kernel_rfl
theorem tk4:tyk Tryz.prog 4=some (false,1):=by kernel_rfl
theorem tk5:tyk Tryz.prog 5=some (false,1):=by kernel_rfl
theorem tk9:tyk Tryz.prog 9=some (false,1):=by kernel_rfl
theorem tk23:tyk Tryz.prog 23=some (false,1):=by kernel_rfl
theorem tk24:tyk Tryz.prog 24=some (false,1):=by kernel_rfl
theorem tk25:tyk Tryz.prog 25=some (false,1):=by kernel_rfl
theorem tk26:tyk Tryz.prog 26=some (false,1):=by kernel_rfl
theorem tk27:tyk Tryz.prog 27=some (false,1):=by kernel_rfl
theorem tk28:tyk Tryz.prog 28=some (false,1):=by kernel_rfl
theorem tk29:tyk Tryz.prog 29=some (false,1):=by kernel_rfl
theorem tk30:tyk Tryz.prog 30=some (false,1):=by kernel_rfl
theorem tk31:tyk Tryz.prog 31=some (false,1):=by kernel_rfl
theorem tk32:tyk Tryz.prog 32=some (false,1):=by kernel_rfl
theorem tk33:tyk Tryz.prog 33=some (false,1):=by kernel_rfl
theorem tk34:tyk Tryz.prog 34=some (false,1):=by kernel_rfl
theorem tk35:tyk Tryz.prog 35=some (false,1):=by kernel_rfl
theorem tk37:tyk Tryz.prog 37=some (true,6):=by kernel_rfl
theorem tk38:tyk Tryz.prog 38=some (false,1):=by kernel_rfl
theorem tk40:tyk Tryz.prog 40=some (true,26):=by kernel_rfl
theorem tk84:tyk Tryz.prog 84=some (true,3):=by kernel_rfl
theorem tk86:tyk Tryz.prog 86=some (false,1):=by kernel_rfl
theorem tk88:tyk Tryz.prog 88=some (false,1):=by kernel_rfl
theorem tk89:tyk Tryz.prog 89=some (false,1):=by kernel_rfl
theorem tk93:tyk Tryz.prog 93=some (true,3):=by kernel_rfl
theorem tk119:tyk Tryz.prog 119=some (false,1):=by kernel_rfl
theorem tk132:tyk Tryz.prog 132=some (true,2):=by kernel_rfl
theorem tk153:tyk Tryz.prog 153=some (true,7):=by kernel_rfl
theorem tk155:tyk Tryz.prog 155=some (true,5):=by kernel_rfl
theorem tk157:tyk Tryz.prog 157=some (true,4):=by kernel_rfl
theorem tk159:tyk Tryz.prog 159=some (true,6):=by kernel_rfl
theorem tk164:tyk Tryz.prog 164=some (false,1):=by kernel_rfl
theorem tk165:tyk Tryz.prog 165=some (false,1):=by kernel_rfl
theorem tk168:tyk Tryz.prog 168=some (false,1):=by kernel_rfl
theorem tk195:tyk Tryz.prog 195=some (true,2):=by kernel_rfl
theorem tk202:tyk Tryz.prog 202=some (false,1):=by kernel_rfl
theorem tk204:tyk Tryz.prog 204=some (true,5):=by kernel_rfl
theorem tk209:tyk Tryz.prog 209=some (true,3):=by kernel_rfl
theorem tk218:tyk Tryz.prog 218=some (true,4):=by kernel_rfl
theorem tk220:tyk Tryz.prog 220=some (true,4):=by kernel_rfl
theorem tk222:tyk Tryz.prog 222=some (true,2):=by kernel_rfl
theorem tk240:tyk Tryz.prog 240=some (false,1):=by kernel_rfl
theorem tk241:tyk Tryz.prog 241=some (true,2):=by kernel_rfl
theorem tk244:tyk Tryz.prog 244=some (false,1):=by kernel_rfl
theorem tk262:tyk Tryz.prog 262=some (true,6):=by kernel_rfl
theorem tk268:tyk Tryz.prog 268=some (true,6):=by kernel_rfl
theorem tk274:tyk Tryz.prog 274=some (true,4):=by kernel_rfl
theorem tk301:tyk Tryz.prog 301=some (false,1):=by kernel_rfl
theorem tk356:tyk Tryz.prog 356=some (true,2):=by kernel_rfl
theorem tk381:tyk Tryz.prog 381=some (false,1):=by kernel_rfl
theorem tk406:tyk Tryz.prog 406=some (true,6):=by kernel_rfl
theorem tk409:tyk Tryz.prog 409=some (false,1):=by kernel_rfl
theorem tk432:tyk Tryz.prog 432=some (false,1):=by kernel_rfl
theorem tk434:tyk Tryz.prog 434=some (true,2):=by kernel_rfl
theorem el23:elB Tryz.prog 23 153 7=true:=by kernel_rfl
theorem el24:elB Tryz.prog 24 159 6=true:=by kernel_rfl
theorem el25:elB Tryz.prog 25 155 5=true:=by kernel_rfl
theorem el26:elB Tryz.prog 26 3 1=true:=by kernel_rfl
theorem el27:elB Tryz.prog 27 157 4=true:=by kernel_rfl
theorem el28:elB Tryz.prog 28 9 1=true:=by kernel_rfl
theorem el29:elB Tryz.prog 29 195 2=true:=by kernel_rfl
theorem el30:elB Tryz.prog 30 218 4=true:=by kernel_rfl
theorem el31:elB Tryz.prog 31 220 4=true:=by kernel_rfl
theorem el32:elB Tryz.prog 32 222 2=true:=by kernel_rfl
theorem el33:elB Tryz.prog 33 262 6=true:=by kernel_rfl
theorem el34:elB Tryz.prog 34 268 6=true:=by kernel_rfl
theorem el35:elB Tryz.prog 35 274 4=true:=by kernel_rfl
theorem el38:elB Tryz.prog 38 204 5=true:=by kernel_rfl
theorem el89:elB Tryz.prog 89 5 1=true:=by kernel_rfl
theorem el202:elB Tryz.prog 202 209 3=true:=by kernel_rfl
theorem el300:elB Tryz.prog 300 301 1=true:=by kernel_rfl
theorem el313:elB Tryz.prog 313 165 1=true:=by kernel_rfl
theorem el314:elB Tryz.prog 314 168 1=true:=by kernel_rfl
theorem el354:elB Tryz.prog 354 356 2=true:=by kernel_rfl
theorem el381:elB Tryz.prog 381 26 1=true:=by kernel_rfl
theorem el436:elB Tryz.prog 436 434 2=true:=by kernel_rfl
end Go.Proofs.YtfkcmbonmpcbfaaGreat

namespace Go.Lp
open Go.RowKit Go.Proofs.YtfkcmbonmpcbfaaGreat
def ofBytes(l:List UInt8):ByteArray:=⟨l.toArray⟩
end Go.Lp

namespace Go.Proofs.YtfkcmbonmpcbfaaGreat
open Go.RowKit Go.Lp Go.Sy
open Go.Proofs.Tryz
attribute [local irreducible] aL aB awp aC fwp Quiet
theorem tk160:tyk Tryz.prog 160=some (false,1):=by kernel_rfl
theorem uI(n v:Int)(bn:Nat):Con Tryz.prog 343 [.int .i64 v,.pointer (some ⟨bn,0,none⟩)] [At bn 0 [.v (.int .i64 n)]] [] fun r _ _=>r=.bool (xZ n v):=by
 refine Con.enter Tryz.func343 rfl (by simp [Tryz.ntmps343]) ?_
 show awp _ _ _ _ ⟨[(0,true,_),(1,true,_)],_,_⟩
 refine aSR (aA rfl (aNn (aSR (aM rfl (aU rfl (fi rfl rfl) (aM rfl (aG rfl rfl (fun hc=>aS rfl) (aG rfl rfl (fun hc=>bg (o:=0) tk3 rfl (.of (aI 0 rfl)) rfl) (aG rfl rfl (fun hc=>bu (ae rfl hc) (ae rfl hc)) (aU rfl (bo rfl rfl (fun h=>gt rfl h)) (aA rfl (aNn (ax ?_)))))))))))))
 refine iX [] [] rfl Tryz.results343 rfl ?_ (.inr rfl)
 rfl
abbrev ya(bn:Nat):Value:=.func (.func 343) #[] #[.pointer (some ⟨bn,0,none⟩)]
theorem wj(n:Int)(a:dI)(bn b5:Nat):Con Tryz.prog 345 [a.val,.pointer (some ⟨b5,0,none⟩)] [At b5 0 [.v (ya bn)],At bn 0 [.v (.int .i64 n)]] [] fun r _ _=>r=.bool (lM n a):=by
 refine Con.enter Tryz.func345 rfl (by simp [Tryz.ntmps345]) ?_
 show awp _ _ _ _ ⟨[(0,true,_),(1,true,_)],_,_⟩
 refine aSR ?_
 refine aD (q:=true) rfl (cK rfl rfl rfl (fun b0_0 => ?_))
 refine aHN ?_
 refine aA rfl (aNn (aSR (aU rfl (bg (o:=0) tk160 rfl (.of (aI 0 rfl)) rfl) ?_)))
 refine aU rfl (qFA (off:=0) rfl) ?_
 refine aU rfl (bJ 0 tk3 rfl rfl rfl) ?_
 refine aU rfl (jg (by kernel_rfl) rfl rfl (fun w S fp hst=>(uI n _ bn).quiet1 (aI 1 rfl) hst)) ?_
 refine aU rfl (cV rfl) (aM rfl (aG rfl rfl (fun hc=>bg (o:=0) tk160 rfl (.of (aI 0 rfl)) rfl) ?_))
 refine aG rfl rfl (fun hc=>qFA (off:=1) rfl) ?_
 refine aG rfl rfl (fun hc=>bJ 0 tk3 (ae rfl hc) rfl rfl) ?_
 refine aG rfl rfl (fun hc=>jg (by kernel_rfl) (ae rfl hc) (aN (ae rfl hc) rfl) (fun w S fp hst=>(uI n _ bn).quiet1 (aI 1 rfl) hst)) ?_
 refine aG rfl rfl (fun hc=>cV (ae rfl hc)) (aU rfl (eu rfl rfl (fun h=>gf rfl h)) (aA rfl (aNn (ax ?_))))
 refine iX [] [] rfl Tryz.results345 rfl ?_ (.inr rfl)
 rfl
theorem rf(n:Int)(l:Sl dI)(bn b5:Nat):Con Tryz.prog 375 [l.val,.func (.func 345) #[] #[.pointer (some ⟨b5,0,none⟩)]] [ShF dI.row l,At b5 0 [.v (ya bn)],At bn 0 [.v (.int .i64 n)]] []
   fun r ps hp=>(ps=[]∧hp=[])∧∃ z:Int,r=.int .i64 z∧decide (z≥0)=l.l.any (lM n):=by
 refine Con.enter Tryz.func375 rfl (by simp [Tryz.ntmps375]) ?_
 show awp _ _ _ _ ⟨[(0,true,_),(1,true,_)],_,_⟩
 refine bY (.of (aI 0 rfl)) (fun hlen => ?_)
 refine aSR (aA rfl (aNs (aSR ?_)))
 refine aM rfl (aU rfl (aZ Tryz.underlying354 rfl) (aM rfl (aNn (aq (aQ [0,1,7,8] [2,1,0] [] (fun (k:Nat) s=>(k≤l.l.length∧(l.l.take k).any (lM n)=false)∧s=⟨[(0,true,l.val),(1,true,.func (.func 345) #[] #[.pointer (some ⟨b5,0,none⟩)]),(7,true,.int .i64 l.l.length),(8,true,.int .i64 k)],[ShF dI.row l,At b5 0 [.v (ya bn)],At bn 0 [.v (.int .i64 n)]],[]⟩) (fun k=>l.l.length-k) rfl (⟨0,⟨Nat.zero_le _,rfl⟩,rfl⟩) ?_)))))
 rintro k s ⟨⟨hk,hno⟩,rfl⟩
 refine aSR (aU rfl (bu rfl rfl) (aNs ?_))
 refine ao _ rfl (fun h1 => ?_) (fun h1 => ?_)
 ·skip
  have hk':k<l.l.length:=by simpa using h1
  obtain ⟨a,ha⟩:∃ a,l.l[k]? = some a:=⟨l.l[k]'hk',by simp⟩
  refine ar (aj (ah (aq (aSR (aM rfl (aA rfl (aNn (aSR (aM rfl (aM rfl (aM rfl ?_)))))))))))
  refine iJ true rfl rfl (fun _=>bI Tryz.underlying354 tk356 rfl ((.of (aI 0 rfl))) rfl (aK ha) rfl rfl) (fun h=>absurd h (by decide)) (fun ⟨b4_3,o4_3⟩ => ?_)
  refine aU rfl (gz (o:=0) tk356 rfl (aI 0 rfl) rfl rfl) ?_
  refine aU rfl (jg (by kernel_rfl) rfl rfl (fun w S fp hst=>(wj n a bn b5).quiet2 (aI 2 rfl) (aI 3 rfl) hst)) ?_
  refine aNn ?_
  refine ao _ rfl (fun h2 => ?_) (fun h2 => ?_)
  ·skip
   refine aSR (aM rfl (aA rfl (aNn (ax (dr (bB (bB (dr (bB ?_)))))))))
   refine iX [] [] rfl Tryz.results375 rfl ?_ (.inr rfl)
   refine ⟨⟨rfl,rfl⟩,_,rfl,?_⟩
   rw [List.any_eq_true.2 ⟨a,List.mem_of_getElem? ha,h2⟩];simp
  ·skip
   refine ar (bp (aj (aa ?_)))
   refine aU rfl (aX rfl rfl (by omega)) ?_
   refine aM rfl (aNn ?_)
   refine ⟨[0,1,7,8],[2,1,0],[],rfl,?_⟩
   refine ⟨k+1,⟨⟨by omega,?_⟩,rfl⟩,by omega⟩
   rw [List.take_add_one,ha,List.any_append,hno];simpa using h2
 ·skip
  refine aT (aW (aW (aY (aj (aSR (aA rfl (aNn (ax ?_))))))))
  refine iX [] [] rfl Tryz.results375 rfl ?_ (.inr rfl)
  refine ⟨⟨rfl,rfl⟩,_,rfl,?_⟩
  rw [List.take_of_length_le (by simpa using h1)] at hno
  rw [hno];rfl
theorem sV(n:Int)(l:Sl dI)(bn b5:Nat):Con Tryz.prog 344 [l.val,.func (.func 345) #[] #[.pointer (some ⟨b5,0,none⟩)]] [ShF dI.row l,At b5 0 [.v (ya bn)],At bn 0 [.v (.int .i64 n)]] []
   fun r _ _=>r=.bool (l.l.any (lM n)):=by
 refine Con.enter Tryz.func344 rfl (by simp [Tryz.ntmps344]) ?_
 show awp _ _ _ _ ⟨[(0,true,_),(1,true,_)],_,_⟩
 refine aSR (aA rfl (aNn (aSR (aM rfl (aM rfl ?_)))))
 refine aD (q:=true) rfl (aaV [2,1,0] [] (by kernel_rfl) rfl rfl rfl rfl (rf n l bn b5) ?_)
 rintro _ _ _ ⟨⟨rfl,rfl⟩,z,rfl,hz⟩
 refine aST ?_
 refine aU rfl (fi rfl rfl) (aA rfl (aNn (ax ?_)))
 refine iX [] [] rfl Tryz.results344 rfl ?_ (.inr rfl)
 rw [hz]
theorem rN(n:Int)(l:Sl dI):Con Tryz.prog 304 [.int .i64 n,l.val] [ShF dI.row l] [] fun r _ _=>r=.bool (xo n l.l):=by
 refine Con.enter Tryz.func304 rfl (by simp [Tryz.ntmps304]) ?_
 show awp _ _ _ _ ⟨[(0,true,_),(1,true,_)],_,_⟩
 refine aSR ?_
 refine aD (q:=true) rfl (cK rfl rfl rfl (fun b0_0 => ?_))
 refine aHN ?_
 refine aA rfl (aNs (bS 0 rfl rfl ?_))
 show awp _ _ _ _ ⟨_,At _ 0 _::_,_⟩
 refine aa (aU rfl (cF (l:=[.tmp 2]) rfl) ?_)
 refine aD (q:=true) rfl (bk (zs:=[.nilFunc]) (by kernel_rfl) rfl (fun b1_1 => ?_))
 refine aHN ?_
 refine aD rfl (aF 1 tk160 rfl rfl rfl rfl ?_)
 refine aHK ?_
 refine aNs (bS 1 rfl rfl ?_)
 show awp _ _ _ _ ⟨_,At _ 0 _::_,_⟩
 refine aa (aU rfl (bg (o:=0) tk3 rfl (.of (aI 1 rfl)) rfl) (aU rfl (fi rfl rfl) (aM rfl (aG rfl rfl (fun hc=>bg (o:=0) tk3 rfl (.of (aI 1 rfl)) rfl) (aG rfl rfl (fun hc=>ff (ae rfl hc) rfl) (aU rfl (bo rfl rfl (fun h=>gt rfl h)) (aM rfl (aG rfl rfl (fun hc=>aS rfl) (aG rfl rfl (fun hc=>cF (l:=[.tmp 5]) rfl) ?_)))))))))
 refine aG rfl rfl (fun hc=>fe (by kernel_rfl) (aN (ae rfl hc) (aN (ae rfl hc) rfl)) (fun w S fp hst=>(sV n l b0_0 b1_1).quiet3 (aI 2 rfl) (aI 0 rfl) (aI 1 rfl) hst)) ?_
 refine aG rfl rfl (fun hc=>cV (ae rfl hc)) (aU rfl (bo rfl rfl (fun h=>gt rfl h)) (aA rfl (aNn (ax ?_))))
 refine iX [] [] rfl Tryz.results304 rfl ?_ (.inr rfl)
 rfl
end Go.Proofs.YtfkcmbonmpcbfaaGreat

namespace Go.Sy
open Go.RowKit Go.Lp
def YN{β:Type}(v:β→Value)(Φ:β→Prop):Value→List Per→List Res→Prop:=fun r ps hp=>(ps=[]∧hp=[])∧∃ b,r=v b∧Φ b
section
variable {P:Program} {n:Fr} {ops:Array Oper} {Q:Exit→Sta→Prop} {env:Env} {ps:List Per} {hp:List Res} {ty:TypeId} {pos:String} {af:Array Edge} {gd:Option (Nat × Bool)} {rest:List Oper} {β:Type} {v:β→Value} {Φ:β→Prop}
theorem gm{t:Nat}{f:FuncId}{g:Operand}{caps:List Value}{l:List Operand}{ts:Array TypeId}{vs:List Value}(lp:List Nat)(b0:β)(hf:dV P f=true)(c:Bool)(hc:guardOf ops env ⟨some t,.call ⟨.value g,l.toArray,ts⟩,ty,pos,af,gd⟩=some c)(ht:fits n.size (some t)=true)
   (hgv:c=true→ev env g=some (true,.func (.func f) #[] caps.toArray)) (hx:c=true→evs env l=some vs) (hcon:c=true→Con P f (vs++caps) (fD ps lp) [] (YN v Φ))
   (h:∀ b,(c=true→Φ b)→aL P n ops Q rest ⟨(t,c,v b)::env,ps,hp⟩):aL P n ops Q (⟨some t,.call ⟨.value g,l.toArray,ts⟩,ty,pos,af,gd⟩::rest) ⟨env,ps,hp⟩:=by
 cases c with
 | true =>
   refine aD (q:=true) hc (fK lp [] hf (hgv rfl) (hx rfl) ht rfl rfl (hcon rfl) ?_)
   rintro _ _ _ ⟨⟨rfl,rfl⟩,b,rfl,hb⟩
   refine dS ?_ (h b fun _=>hb)
   apply List.ext_getElem?;intro i;rw [iV]
   by_cases hi:i<hp.length
   · rw [if_pos hi];rfl
   · rw [if_neg hi,List.getElem?_eq_none (by simp),List.getElem?_eq_none (by omega)]
 | false=>exact ke (v:=v b0) false hc ht (fun h=>by cases h) (h b0 fun h=>by cases h)
theorem tT{V:List Nat}{k:Nat}{L:Array Bool}{t:Nat}{f:FuncId}{g:Operand}{caps:List Value}{l:List Operand}{ts:Array TypeId}{vs:List Value}(i:Nat)(hi:ops[i]? = some ⟨some t,.call ⟨.value g,l.toArray,ts⟩,ty,pos,af,gd⟩)(hr:Region.ready .any ops L=[i])(lp:List Nat)(b0:β)(hf:dV P f=true)(c:Bool)(hc:guardOf ops env ⟨some t,.call ⟨.value g,l.toArray,ts⟩,ty,pos,af,gd⟩=some c)(ht:fits n.size (some t)=true)
   (hgv:c=true→ev env g=some (true,.func (.func f) #[] caps.toArray)) (hx:c=true→evs env l=some vs) (hcon:c=true→Con P f (vs++caps) (fD ps lp) [] (YN v Φ))
   (h:∀ b,(c=true→Φ b)→aB P n ops V Q k (L.setIfInBounds i true) ⟨(t,c,v b)::env,ps,hp⟩):aB P n ops V Q (k+1) L ⟨env,ps,hp⟩:=by
 cases c with
 | true =>
   refine fx (q:=true) i hi hr rfl hc (fK lp [] hf (hgv rfl) (hx rfl) ht rfl rfl (hcon rfl) ?_)
   rintro _ _ _ ⟨⟨rfl,rfl⟩,b,rfl,hb⟩
   refine adY rfl ?_ (h b fun _=>hb)
   apply List.ext_getElem?;intro j;rw [iV]
   by_cases hj:j<hp.length
   · rw [if_pos hj];rfl
   · rw [if_neg hj,List.getElem?_eq_none (by simp),List.getElem?_eq_none (by omega)]
 | false =>
   intro w S fp a hst he hn hdf w1 hb
   refine ⟨fun h0=>(by rw [hr] at h0;cases h0),fun j hj => ?_⟩
   rw [hr] at hj
   obtain rfl:=List.mem_singleton.1 hj
   refine ⟨_,hi,?_⟩
   rw [if_neg (by rw [eT (ops:=ops) hc he];exact Bool.false_ne_true)]
   refine ⟨fun _=>Below.refl _ _,?_⟩
   have hen:=he.set (dst:=some t) (by rw [hn];exact ht) false (v b0)
   exact kK (fun a2 w2 hp=>hp.trans (Evo.of_below _ _ hb) (fun _ h=>.inl h)) _ _ _ _ (h b0 (fun h=>by cases h) w1 S fp _ (hst.below hb) hen (by rw [fE];exact hn) (by rw [put_defers];exact hdf))
end
end Go.Sy

namespace Go.Proofs.YtfkcmbonmpcbfaaGreat
open Go.RowKit Go.Lp Go.Sy
end Go.Proofs.YtfkcmbonmpcbfaaGreat

namespace Go.Sy
open Go.RowKit Go.Lp
theorem eN{P:Program}{n:Fr}{ops:Array Oper}{env:Env}{ps:List Per}{hp:List Res}{Q:Exit→Sta→Prop}{rest:List Oper}{v:Value}{T:TypeId}{sz:Nat}{rows:List (List D)}(i:Nat)(hi:hp[i]? = some (aO v T sz rows))(h:aL P n ops Q rest ⟨env,Sh v (.sl rows)::ps,hp.set i emp⟩):aL P n ops Q rest ⟨env,ps,hp⟩:=fun w S fp a hst he hn hd=>by
 have hil:=(List.getElem?_eq_some_iff.1 hi).1
 have h1:=mN hst i hi
 have htot:∀ b,tot (fun k=>if k=i then (fun _=>False) else fp k) (hp.set i emp).length b→tot fp hp.length b:=fun b ⟨j,hj,hb⟩=>by
   dsimp only at hb
   by_cases hji:j=i
   · rw [if_pos hji] at hb;exact hb.elim
   · rw [if_neg hji] at hb;exact ⟨j,by simpa using hj,hb⟩
 have hE:Evo w S (tot fp hp.length) w (fun b=>S b∨fp i b):=⟨rfl,rfl,rfl,Nat.le_refl _,Nat.le_refl _,fun _ _ _=>rfl,fun _ h=>.inl h,fun b hb=>hb.elim .inl fun h=>.inr (.inl ⟨i,hil,h⟩)⟩
 exact fN (fun e a2 w2 hp=>hp.trans hE (fun b hb=>.inl (htot b hb))) _ _ _ (h w _ _ a h1 he hn hd)
section
variable {P:Program} {n:Fr} {ops:Array Oper} {env:Env} {ps:List Per} {hp:List Res} {Q:Exit→Sta→Prop} {rest:List Oper} {ty:TypeId} {pos:String} {af:Array Edge} {gd:Option (Nat × Bool)}
theorem aap{V:List Nat}{k:Nat}{L:Array Bool}{R:Res}(h:aB P n ops V Q k L ⟨env,ps,hp⟩):aB P n ops V Q k L ⟨env,ps,hp++[R]⟩:=fun w S fp a hst he hn hd=>by
 have hst':St w S fp ps hp:=⟨hst.per,fun i R' hR=>hst.res i R' (by rw [List.getElem?_append_left (List.getElem?_eq_some_iff.1 hR).1];exact hR),fun i hi=>hst.lt i (by simp;omega),fun i j hi hj=>hst.dj i j (by simp;omega) (by simp;omega),hst.slt⟩
 have hE:Evo w S (tot fp (hp++[R]).length) w S:=Evo.refl _ _ _
 exact kK (fun a2 w2 hp2=>hp2.trans hE (fun b ⟨j,hj,hb⟩=>.inl ⟨j,by have hj2:j<hp.length:=hj;simp;omega,hb⟩)) _ _ _ _ (h w S fp a hst' he hn hd)
theorem yD{V:List Nat}{k:Nat}{L:Array Bool}{v:Value}{T:TypeId}{sz:Nat}{rows:List (List D)}(i:Nat)(hi:hp[i]? = some (aO v T sz rows))(h:aB P n ops V Q k L ⟨env,Sh v (.sl rows)::ps,hp.set i emp⟩):aB P n ops V Q k L ⟨env,ps,hp⟩:=fun w S fp a hst he hn hd=>by
 have hil:=(List.getElem?_eq_some_iff.1 hi).1
 have h1:=mN hst i hi
 have htot:∀ b,tot (fun k=>if k=i then (fun _=>False) else fp k) (hp.set i emp).length b→tot fp hp.length b:=fun b ⟨j,hj,hb⟩=>by
   dsimp only at hb
   by_cases hji:j=i
   · rw [if_pos hji] at hb;exact hb.elim
   · rw [if_neg hji] at hb;exact ⟨j,by simpa using hj,hb⟩
 have hE:Evo w S (tot fp hp.length) w (fun b=>S b∨fp i b):=⟨rfl,rfl,rfl,Nat.le_refl _,Nat.le_refl _,fun _ _ _=>rfl,fun _ h=>.inl h,fun b hb=>hb.elim .inl fun h=>.inr (.inl ⟨i,hil,h⟩)⟩
 exact kK (fun a2 w2 hp=>hp.trans hE (fun b hb=>.inl (htot b hb))) _ _ _ _ (h w _ _ a h1 he hn hd)
theorem acf{V:List Nat}{k:Nat}{L:Array Bool}{t:Nat}{T E:TypeId}{len:Nat}{l:List (Nat × Operand)}{xs:List Operand}{vs zs cs:List Value}{rows:List (List D)}(i:Nat)(hi:ops[i]? = some ⟨some t,.buildSlice T len l.toArray,ty,pos,af,gd⟩)(hr:Region.ready .any ops L=[i])(hel:elB P T E zs.length=true)(hz:fm P E=some zs)(h0:0<zs.length)
   (hlen:0<len) (hsm:len*zs.length≤16777216) (hxs:l.map (·.2)=xs) (hc:guardOf ops env ⟨some t,.buildSlice T len l.toArray,ty,pos,af,gd⟩=some true) (hx:evs env xs=some vs) (hb:bld (fun i=>some (i*zs.length,zs.length)) (lF len zs) ((l.map (·.1)).zip vs)=some cs) (hrc:RCs ps zs.length cs rows) (hrl:rows.length=len) (ht:fits n.size (some t)=true)
   (h:∀ ad,aB P n ops V Q k (L.setIfInBounds i true) ⟨(t,true,.slice ad len len)::env,Sh (.slice ad len len) (.sl rows)::ps,hp⟩):aB P n ops V Q (k+1) L ⟨env,ps,hp⟩:=by
 refine fx (q:=true) i hi hr rfl hc (ab4 hel hz h0 hlen hsm hxs hx hb hrc hrl ht fun ad => ?_)
 refine yD hp.length (by rw [List.getElem?_append_right (Nat.le_refl _),Nat.sub_self];rfl) ?_
 rw [List.set_append_right _ _ (Nat.le_refl _),Nat.sub_self]
 exact aap (h ad)
end
end Go.Sy

