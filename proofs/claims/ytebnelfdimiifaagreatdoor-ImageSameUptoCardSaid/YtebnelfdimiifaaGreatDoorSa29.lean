/- Parts of the proof, in build order. No condition. -/
import Derived.Test.YtebnelfdimiifaaGreatDoorSa28
import Derived.KernelRfl
import Derived.Test.YtebnelfdimiifaaGreatDoorSa05
import Derived.Test.YtebnelfdimiifaaGreatDoorSa07
import Derived.Test.YtebnelfdimiifaaGreatDoorSa20
set_option linter.unusedSimpArgs false
set_option linter.unusedVariables false
set_option maxHeartbeats 1000000
set_option maxRecDepth 20000
namespace Go.Proofs.YtebnelfdimiifaaGreatDoor
open Go.RowKit Go.Lp Go.Sy
theorem mH{a b:Nat}(ha:a<18446744073709551616)(hb:b<18446744073709551616):xU a b=((a ^^^ b:Nat):Int):=bits_xor_u64_nat a b ha hb
theorem aet{a b:Nat}(ha:a<18446744073709551616)(hb:b<18446744073709551616):a ^^^ b<18446744073709551616:=Nat.xor_lt_two_pow (n:=64) ha hb
theorem toNat'{z:Int}(h:0≤z∧z<18446744073709551616):∃ n:Nat,n<18446744073709551616∧z=n:=⟨z.toNat,by omega,by omega⟩
theorem xJ{a b c:Int}(ha:0≤a∧a<18446744073709551616)(hb:0≤b∧b<18446744073709551616)(hc:0≤c∧c<18446744073709551616):xU (xU a b) c=xU a (xU b c):=by
 obtain ⟨a,ha',rfl⟩:=toNat' ha
 obtain ⟨b,hb',rfl⟩:=toNat' hb
 obtain ⟨c,hc',rfl⟩:=toNat' hc
 rw [mH ha' hb',mH hb' hc',mH (aet ha' hb') hc',mH ha' (aet hb' hc'),Nat.xor_assoc]
theorem afo{a:Int}(ha:0≤a∧a<18446744073709551616):xU 0 a=a:=by
 obtain ⟨a,ha',rfl⟩:=toNat' ha
 have:=mH (a:=0) (by decide) ha'
 rw [Nat.zero_xor] at this
 exact this
theorem afr{a:Int}(ha:0≤a∧a<18446744073709551616):xU a 0=a:=by
 obtain ⟨a,ha',rfl⟩:=toNat' ha
 have:=mH (b:=0) ha' (by decide)
 rw [Nat.xor_zero] at this
 exact this
theorem aeS{z:Int}(hz:0≤z∧z<18446744073709551616):IntKind.u64.wrap (18446744073709551615-z)=af4 z:=by
 obtain ⟨n,hn,rfl⟩:=toNat' hz
 have h1:af4 n=((18446744073709551615 ^^^ n:Nat):Int):=bits_xor_u64_nat 18446744073709551615 n (by decide) hn
 have h2:18446744073709551615 ^^^ n=2 ^ 64-(n+1):=by
   apply Nat.eq_of_testBit_eq
   intro i
   rw [Nat.testBit_xor,show (18446744073709551615:Nat)=2 ^ 64-1 from rfl,Nat.testBit_two_pow_sub_one,Nat.testBit_two_pow_sub_succ (show n<2 ^ 64 from hn)]
   by_cases hi:i<64
   · simp [hi]
   · rw [Nat.testBit_lt_two_pow (Nat.lt_of_lt_of_le (show n<2 ^ 64 from hn) (Nat.pow_le_pow_right (by decide) (by omega)))]
     simp [hi]
 rw [h1,h2,IntKind.wrap_u64]
 omega
theorem agN(n:Nat)(h:n<64):bits .and .u64 (IntKind.u64.wrap n) 63=n:=by
 have:∀ n:Fin 64,bits .and .u64 (IntKind.u64.wrap ((n.val:Nat):Int)) 63=n.val:=by decide +kernel
 exact this ⟨n,h⟩
theorem wQ{x:Int}(hx:0≤x∧x<18446744073709551616)(n:Nat)(h:n<64):l5 x n=uW x n:=by
 unfold uW l5
 rw [agN n h]
 by_cases h0:n=0
 · subst h0
   rw [if_pos (show ((0:Nat):Int)=0 from rfl)]
   obtain ⟨m,hm,rfl⟩:=toNat' hx
   have e1:IntKind.u64.wrap ((m:Int)*2 ^ min ((0:Nat):Int).toNat IntKind.u64.bits)=m:=by
     show IntKind.u64.wrap ((m:Int)*1)=m
     rw [IntKind.wrap_u64];omega
   have e2:(m:Int).fdiv (2 ^ min (IntKind.u64.wrap (64-((0:Nat):Int))).toNat IntKind.u64.bits)=0:=by
     show (m:Int).fdiv 18446744073709551616=0
     rw [Int.fdiv_eq_ediv_of_nonneg _ (by decide)]
     omega
   rw [e1,e2]
   have:=bits_or_u64_nat m 0 hm (by decide)
   rw [Nat.or_zero] at this
   exact this.symm
 · rw [if_neg (by omega)]
theorem xC(i:Nat):∃ n:Nat,n<64∧fX.getD i 0=n:=by
 by_cases h:i<25
 · have:∀ i:Fin 25,∃ n:Fin 64,fX.getD i.val 0=n.val:=by decide +kernel
   obtain ⟨n,hn⟩:=this ⟨i,h⟩
   exact ⟨n.val,n.isLt,hn⟩
 · refine ⟨0,by decide,?_⟩
   rw [List.getD_eq_getElem?_getD,List.getElem?_eq_none (by show 25≤i;omega)];rfl
theorem agY{zs:List Int}(h:ULr zs):pF zs 25=pR zs 5:=by
 have e:pF zs 25=(List.range 5).map fun x=>xU (xU (xU (xU (xU 0 (zs.getD x 0)) (zs.getD (x+5) 0)) (zs.getD (x+10) 0)) (zs.getD (x+15) 0)) (zs.getD (x+20) 0):=by kernel_rfl
 rw [e]
 unfold pR pKr
 apply List.map_congr_left
 intro x _
 rw [afo (h.get x)]
theorem ag6{zs qs:List Int}(h:ULr zs)(hq:ULr qs)(k j:Nat)(hk:k<5)(hj:j<5):yV zs qs (k+5*j)=bVr zs qs k j:=by
 unfold yV bVr
 obtain ⟨n,hn,e⟩:=xC (k+5*j)
 have e1:l5 (qs.getD ((k+1) % 5) 0) 1=uW (qs.getD ((k+1) % 5) 0) 1:=wQ (hq.get _) 1 (by decide)
 rw [e,e1,wQ (xK _ _) n hn,xJ (h.get _) (hq.get _) (aaq _ _),show (k+5*j) % 5=k by omega]
def aal:List Nat:=[0,6,12,18,24,3,9,10,16,22,1,7,13,19,20,4,5,11,17,23,2,8,14,15,21]
theorem ag4{zs qs:List Int}(h:ULr zs)(hq:ULr qs):yF zs qs 25=bKr zs qs 25:=by
 have e1:yF zs qs 25=aal.map (yV zs qs):=by kernel_rfl
 have e2:bKr zs qs 25=aal.map fun i=>bVr zs qs (i % 5) (i / 5):=by kernel_rfl
 rw [e1,e2]
 apply List.map_congr_left
 intro i hi
 have hi25:i<25:=by
   have:∀ i∈aal,i<25:=by decide
   exact this i hi
 rw [← ag6 h hq (i % 5) (i / 5) (Nat.mod_lt _ (by decide)) (by omega),show i % 5+5*(i / 5)=i by omega]
theorem ag5(zs qs:List Int):ULr (yF zs qs 25):=by
 have e1:yF zs qs 25=aal.map (yV zs qs):=by kernel_rfl
 rw [e1]
 intro z hz
 obtain ⟨i,_,rfl⟩:=List.mem_map.1 hz
 unfold yV
 exact aaq _ _
theorem aat{f:Nat→Int} : ∀ (n:Nat) (zs:List Int),n≤zs.length→(List.range n).foldl (fun ws j=>ws.set j (f j)) zs=(List.range n).map f++zs.drop n
 | 0,zs,_=>rfl
 | n+1,zs,h=>by
   rw [fold_succ,aat n zs (by omega),List.range_succ,List.map_append,List.set_append_right _ _ (by simp)]
   have:n-((List.range n).map f).length=0:=by simp
   rw [this,List.drop_eq_getElem_cons (show n<zs.length by omega),List.set_cons_zero,List.append_assoc]
   rfl
theorem ag3{zs ys:List Int}(hz:zs.length=25)(h:ULr ys):wF zs ys 25=oR ys 25:=by
 unfold wF
 rw [aat 25 zs (by omega),List.drop_eq_nil_of_le (by omega),List.append_nil]
 unfold oR
 apply List.map_congr_left
 intro m _
 unfold wV oV
 rw [aeS (h.get _),show m % 5+5*(m / 5)=m by omega,show m-m % 5+(m % 5+1) % 5=(m % 5+1) % 5+5*(m / 5) by omega,show m-m % 5+(m % 5+2) % 5=(m % 5+2) % 5+5*(m / 5) by omega]
theorem agZ(zs:List Int)(n:Nat):ULr (pR zs n):=fun z hz=>by
 unfold pR at hz
 obtain ⟨i,_,rfl⟩:=List.mem_map.1 hz
 exact af7 _ _
theorem round_eq{zs:List Int}(h:ULr zs)(hz:zs.length=25)(c:Int):rN zs c=ir zs c:=by
 unfold rN ir
 rw [agY h,ag3 hz (ag5 _ _),ag4 h (agZ zs 5)]
theorem aam{zs:List Int}(h:ULr zs∧zs.length=25):∀ n,l6 zs n=ku zs n
 | 0=>by simp only [l6,ku,List.range_zero,List.foldl_nil]
 | n+1=>by rw [rH,mw,aam h n,round_eq (nv h n).1 (nv h n).2]
def leN(f:Nat→UInt8):Nat→Nat
 | 0=>0
 | k+1=>leN f k+(f k).toNat*256 ^ k
theorem yN(f:Nat→UInt8):∀ k,leN f k<256 ^ k
 | 0=>Nat.one_pos
 | k+1=>by
   have h1:=yN f k
   have h2:=(f k).toNat_lt
   have h3:(f k).toNat*256 ^ k≤255*256 ^ k:=Nat.mul_le_mul_right _ (by omega)
   unfold leN
   rw [Nat.pow_succ]
   omega
def beN(f:Nat→UInt8):Nat→Nat
 | 0=>0
 | k+1=>beN f k*256+(f (7-k)).toNat
theorem acx(f:Nat→UInt8):∀ k,beN f k<256 ^ k
 | 0=>Nat.one_pos
 | k+1=>by
   have h1:=acx f k
   have h2:=(f (7-k)).toNat_lt
   unfold beN
   rw [Nat.pow_succ]
   omega
theorem agO(f:Nat→UInt8):beN f 8=leN f 8:=by
 simp only [beN,leN,Nat.sub_zero,Nat.reduceSub,Nat.reducePow]
 omega
theorem adO{k:Nat}(h:k≤8):256 ^ k≤18446744073709551616:=Nat.le_trans (Nat.pow_le_pow_right (by decide) h) (by decide)
theorem z7(l:List UInt8)(a:Nat):∀ k,k≤8→pj l a k=beN (fun m=>l.getD (a+m) 0) k
 | 0,_=>rfl
 | k + 1,h=>by
   rw [rv,z7 l a k (by omega)]
   have h1:=acx (fun m=>l.getD (a+m) 0) k
   have h2:=(l.getD (a+(7-k)) 0).toNat_lt
   have h3:256 ^ k≤256 ^ 7:=Nat.pow_le_pow_right (by decide) (by omega)
   have e:a+7-k=a+(7-k):=by omega
   rw [e]
   show _=((beN (fun m=>l.getD (a+m) 0) k*256+(l.getD (a+(7-k)) 0).toNat:Nat):Int)
   generalize beN (fun m=>l.getD (a+m) 0) k=x at h1
   have hx:x<72057594037927936:=by omega
   have ew:IntKind.u64.wrap ((x:Int)*2 ^ min 8 64)=((x*256:Nat):Int):=by
     show IntKind.u64.wrap ((x:Int)*256)=_
     rw [IntKind.wrap_u64];omega
   rw [ew,bits_or_u64_nat _ _ (by omega) (by omega)]
   have:=Nat.two_pow_add_eq_or_of_lt (i:=8) (b:=(l.getD (a+(7-k)) 0).toNat) h2 x
   rw [Nat.mul_comm x 256,show (256:Nat)=2 ^ 8 from rfl,← this]
theorem afp{x b k:Nat}(h:x<256 ^ k):x ^^^ b*256 ^ k=x+b*256 ^ k:=by
 have e:(256:Nat) ^ k=2 ^ (8*k):=by rw [Nat.pow_mul]
 rw [e] at h ⊢
 have h1:=Nat.two_pow_add_eq_or_of_lt h b
 rw [Nat.mul_comm b,Nat.add_comm,h1]
 apply Nat.eq_of_testBit_eq
 intro i
 rw [Nat.testBit_xor,Nat.testBit_or,Nat.testBit_two_pow_mul]
 by_cases hi:i<8*k
 · have:¬ 8*k≤i:=by omega
   simp [this]
 · rw [Nat.testBit_lt_two_pow (Nat.lt_of_lt_of_le h (Nat.pow_le_pow_right (by decide) (by omega)))]
   simp
theorem afO(s:List UInt8)(i k:Nat)(hk:k<8):byV s (8*i+k)=(((s.getD (8*i+k) 0).toNat*256 ^ k:Nat):Int):=by
 unfold byV
 have h2:=(s.getD (8*i+k) 0).toNat_lt
 have h3:(256:Nat) ^ k≤256 ^ 7:=Nat.pow_le_pow_right (by decide) (by omega)
 have h4:(s.getD (8*i+k) 0).toNat*256 ^ k≤255*256 ^ 7:=Nat.mul_le_mul (by omega) h3
 have e:(2:Int) ^ min (8*((8*i+k) % 8)) 64=((256 ^ k:Nat):Int):=by
   rw [show (8*i+k) % 8=k by omega,Nat.min_eq_left (by omega),Int.pow_mul]
   simp
 rw [e,IntKind.wrap_u64,← Int.natCast_mul]
 omega
theorem afv{l:List UInt8}{p:Nat}{zs:List Int}(h:ULr zs∧zs.length=25){blk:List UInt8}(hb:∀ m,m<136→blk.getD m 0=l.getD (136*p+m) 0){i:Nat}(hi:i<17)(he:abF zs blk (8*i)=adR l p zs i) :
   ∀ k,k≤8→abF zs blk (8*i+k)=(adR l p zs i).set i (xU ((adR l p zs i).getD i 0) (leN (fun m=>l.getD (136*p+8*i+m) 0) k))
 | 0,_=>by
   have hz:=kC (l:=l) (p:=p) h i
   have:xU ((adR l p zs i).getD i 0) ((leN (fun m=>l.getD (136*p+8*i+m) 0) 0:Nat):Int)=(adR l p zs i).getD i 0:=afr (hz.1.get i)
   rw [this,List.getD_eq_getElem?_getD,List.getElem?_eq_getElem (show i<(adR l p zs i).length by rw [hz.2];omega)]
   simp [he]
 | k + 1,hk=>by
   have hz:=kC (l:=l) (p:=p) h i
   have hlt:=yN (fun m=>l.getD (136*p+8*i+m) 0) k
   have h8:=adO (k:=k) (by omega)
   have hlt1:=yN (fun m=>l.getD (136*p+8*i+m) 0) (k+1)
   have h81:=adO (k:=k+1) (by omega)
   rw [show 8*i+(k+1)=8*i+k+1 by omega,vm,afv h hb hi he k (by omega),show (8*i+k) / 8=i by omega,List.set_set,afO _ _ _ (by omega),hb _ (by omega),show 136*p+(8*i+k)=136*p+8*i+k by omega]
   congr 1
   have eg:((adR l p zs i).set i (xU ((adR l p zs i).getD i 0) ((leN (fun m=>l.getD (136*p+8*i+m) 0) k:Nat):Int))).getD i 0=xU ((adR l p zs i).getD i 0) ((leN (fun m=>l.getD (136*p+8*i+m) 0) k:Nat):Int):=by
     rw [List.getD_eq_getElem?_getD,List.getElem?_set_self (by rw [hz.2];omega)];rfl
   have hbb:(l.getD (136*p+8*i+k) 0).toNat*256 ^ k<18446744073709551616:=by
     have:leN (fun m=>l.getD (136*p+8*i+m) 0) (k+1)=leN (fun m=>l.getD (136*p+8*i+m) 0) k+(l.getD (136*p+8*i+k) 0).toNat*256 ^ k:=rfl
     omega
   rw [eg,xJ (hz.1.get i) ⟨by omega,by omega⟩ ⟨by omega,by omega⟩]
   congr 1
   rw [mH (by omega) hbb,afp hlt]
   rfl
theorem afu{l:List UInt8}{p:Nat}{zs:List Int}(h:ULr zs∧zs.length=25){blk:List UInt8}(hb:∀ m,m<136→blk.getD m 0=l.getD (136*p+m) 0):∀ i,i≤17→abF zs blk (8*i)=adR l p zs i
 | 0,_=>by simp only [abF,adR,Nat.mul_zero,List.range_zero,List.foldl_nil]
 | i+1,hi=>by
   rw [show 8*(i+1)=8*i+8 by omega,afv h hb (by omega) (afu h hb i (by omega)) 8 (by decide),p9,z7 _ _ 8 (by decide),agO]
theorem sQ{l:List UInt8}{p:Nat}{zs:List Int}(h:ULr zs∧zs.length=25){blk:List UInt8}(hl:blk.length=136)(hb:∀ m,m<136→blk.getD m 0=l.getD (136*p+m) 0):gQ zs blk=ku (adR l p zs 17) 24:=by
 unfold gQ
 have:=afu h hb 17 (Nat.le_refl _)
 rw [hl,show 136=8*17 from rfl,this,aam (kC h 17)]
theorem vG(s l:List UInt8):∀ n,136*n≤s.length→(∀ m,m<136*n→s.getD m 0=l.getD m 0)→iP s n=se l n
 | 0,_,_=>by simp only [iP,se,List.range_zero,List.foldl_nil]
 | n+1,h,hm=>by
   rw [kI,lq,vG s l n (by omega) (fun m hm'=>hm m (by omega)),sQ (l:=l) (p:=n) (pY l n) (by rw [List.length_take,List.length_drop];omega)]
   intro m h136
   rw [← hm _ (by omega)]
   simp only [List.getD_eq_getElem?_getD]
   rw [List.getElem?_take_of_lt h136,List.getElem?_drop]
theorem z8{r:List UInt8}(hr:r.length<136):wP r=pC r 136:=by
 have e:(r++List.replicate (136-r.length) 0).set r.length 6=jO r 136:=by
   unfold jO
   rw [List.set_append_right _ _ (Nat.le_refl _),Nat.sub_self,show 136-r.length=136-r.length-1+1 by omega,List.replicate_succ]
   rfl
 unfold wP pC
 rw [e]
 congr 1
 have h2:(jO r 136).getD 135 0=0∨(jO r 136).getD 135 0=6:=by
   unfold jO
   rw [List.getD_eq_getElem?_getD,List.getElem?_append_right (by omega)]
   by_cases h:r.length=135
   · rw [h];exact .inr rfl
   · rw [show 135-r.length=134-r.length+1 by omega,List.getElem?_cons_succ,List.getElem?_replicate,if_pos (by omega)]
     exact .inl rfl
 rcases h2 with h2 | h2
 · rw [show 136-1=135 from rfl,h2];decide
 · rw [show 136-1=135 from rfl,h2];decide
theorem adJ(s:List UInt8)(k q:Nat)(hk:136*k≤s.length)(hq:q=136*k+136)(hs:s.length<q):jO s q=s.take (136*k)++jO (s.drop (136*k)) 136:=by
 unfold jO
 rw [← List.append_assoc,List.take_append_drop,List.length_drop,show q-s.length-1=136-(s.length-136*k)-1 by omega]
theorem acB(s:List UInt8)(k q:Nat)(hk:136*k≤s.length)(hq:q=136*k+136)(hs:s.length<q):pC s q=s.take (136*k)++pC (s.drop (136*k)) 136:=by
 have hl:(s.take (136*k)).length=136*k:=by rw [List.length_take];omega
 unfold pC
 rw [adJ s k q hk hq hs,List.set_append_right _ _ (by omega),hl,show q-1-136*k=136-1 by omega]
 congr 3
 rw [List.getD_eq_getElem?_getD,List.getElem?_append_right (by omega),hl,show q-1-136*k=136-1 by omega,← List.getD_eq_getElem?_getD]
theorem agu(s:List UInt8):agt s=xB s:=by
 unfold agt xB
 obtain ⟨k,hk⟩:∃ k,k=s.length / 136:=⟨_,rfl⟩
 have hq:rn s.length=136*k+136:=by unfold rn;omega
 have hs:s.length<136*k+136:=by omega
 have hb:=acB s k _ (by omega) hq (by omega)
 have hl:(s.take (136*k)).length=136*k:=by rw [List.length_take];omega
 have hr:(s.drop (136*k)).length<136:=by rw [List.length_drop];omega
 rw [show (s.length+136) / 136=k+1 by omega,← hk,lq,vG s (pC s (rn s.length)) k (by omega) (fun m hm => ?_),sQ (l:=pC s (rn s.length)) (p:=k) (pY _ k)]
 · rw [z8 hr,vC _ _ hr]
 · intro m hm
   rw [z8 hr,hb]
   simp only [List.getD_eq_getElem?_getD]
   rw [List.getElem?_append_right (by omega),hl,show 136*k+m-136*k=m by omega]
 · rw [hb]
   simp only [List.getD_eq_getElem?_getD]
   rw [List.getElem?_append_left (by omega),List.getElem?_take_of_lt hm]
open Go.Proofs.Tryz
attribute [local irreducible] aL aB awp aC fwp Quiet
theorem aen{z:Int}{n:Nat}(h:z=(n:Int)):z.tmod 5=((n % 5:Nat):Int):=by subst h;rfl
theorem wu(va:Value)(l:List Int)(hl:l.length=25)(c0:Int):Con Tryz.prog 70 [va,.int .u64 c0] [] [aN va 135 1 (l.map gB)] fun r ps hp=>ps=[]∧hp=[aN r 135 1 ((ir l c0).map gB)]:=by
 refine EN2 Tryz.func70 rfl (ef 135 1 ?_)
 show awp _ _ _ _ ⟨_,_,[_,_]⟩
 refine aSR (aA rfl (aNn (aSR (aA rfl (aNs (aSR (aA rfl (aNn (aq (aP [0,1,5,6] [] [0,1] (fun (q:Nat) st=>q≤5∧∃ (vp:Value) (pl:List Int),pl=pR l q∧st=⟨[(0,true,va),(1,true,.int .u64 c0),(5,true,vp),(6,true,.int .i64 q)],[],[aN va 135 1 (l.map gB),aN vp 135 1 (pl.map gB)]⟩) (fun q=>5-q) rfl (⟨0,Nat.zero_le _,_,[],rfl,rfl⟩) ?_))))))))))
 rintro k st ⟨hk,vp,pl,hplE,rfl⟩
 have hpl:pl.length=k:=by rw [hplE,af8]
 refine ai (aSR (aM rfl (aU rfl (bC rfl rfl) (aNn ?_))))
 refine ao _ rfl (fun h1 => ?_) (fun h1 => ?_)
 ·skip
  have hk':k<5:=by simp at h1;omega
  have hz0:=l0 (l:=l) (k:=k) (by omega)
  have hz1:=l0 (l:=l) (k:=k+5) (by omega)
  have hz2:=l0 (l:=l) (k:=k+10) (by omega)
  have hz3:=l0 (l:=l) (k:=k+15) (by omega)
  have hz4:=l0 (l:=l) (k:=k+20) (by omega)
  refine ax (an (ai (aq (DR [30] 32 (VM 0 rfl rfl (VM 1 rfl rfl (VM 2 rfl rfl ?_)))))))
  refine bV 3 rfl rfl (bZ 0 k el139 rfl rfl rfl rfl (by rw [List.length_map];omega)) ?_
  refine bV 4 rfl rfl (bE 0 k 0 tk135 rfl rfl (aI hz0) rfl rfl) (VM 5 rfl rfl (VM 6 rfl rfl (bV 7 rfl rfl (aV rfl rfl (by omega)) ?_)))
  refine bV 8 rfl rfl (bZ 0 (k+5) el139 rfl rfl rfl (by omega) (by rw [List.length_map];omega)) ?_
  refine bV 9 rfl rfl (bE 0 (k+5) 0 tk135 rfl rfl (aI hz1) rfl rfl) (bV 10 rfl rfl (ic rfl rfl) (VM 11 rfl rfl (VM 12 rfl rfl (bV 13 rfl rfl (aV rfl rfl (by omega)) ?_))))
  refine bV 14 rfl rfl (bZ 0 (k+10) el139 rfl rfl rfl (by omega) (by rw [List.length_map];omega)) ?_
  refine bV 15 rfl rfl (bE 0 (k+10) 0 tk135 rfl rfl (aI hz2) rfl rfl) (bV 16 rfl rfl (ic rfl rfl) (VM 17 rfl rfl (VM 18 rfl rfl (bV 19 rfl rfl (aV rfl rfl (by omega)) ?_))))
  refine bV 20 rfl rfl (bZ 0 (k+15) el139 rfl rfl rfl (by omega) (by rw [List.length_map];omega)) ?_
  refine bV 21 rfl rfl (bE 0 (k+15) 0 tk135 rfl rfl (aI hz3) rfl rfl) (bV 22 rfl rfl (ic rfl rfl) (VM 23 rfl rfl (VM 24 rfl rfl (bV 25 rfl rfl (aV rfl rfl (by omega)) ?_))))
  refine bV 26 rfl rfl (bZ 0 (k+20) el139 rfl rfl rfl (by omega) (by rw [List.length_map];omega)) ?_
  refine bV 27 rfl rfl (bE 0 (k+20) 0 tk135 rfl rfl (aI hz4) rfl rfl) (bV 28 rfl rfl (ic rfl rfl) (eQ (q:=true) 29 rfl (by kernel_rfl) rfl rfl (WL (zs:=[.int .u64 0]) el139 rfl rfl rfl (.more rfl (.v rfl .nil) .nil) rfl rfl (fun v5_29=>(bST rfl ?_)))))
  refine eQ 30 rfl (by kernel_rfl) rfl rfl (cK 1 el139 rfl rfl rfl rfl (dW 2 el139 rfl (by simp)) (by first | assumption | simp) (by rw [List.length_map];show pl.length+1≤_;omega) ((k+1)) (by rw [List.length_map,hpl];rfl) (fun v5_30 c5_30 => ?_))
  refine bST rfl ?_
  refine bV 31 rfl rfl (bo rfl) (BN (bu (an (aa (aM rfl (aU rfl (aV rfl rfl (by omega)) (aA rfl (aNn ?_))))))))
  refine ⟨[0,1,5,6],[],[0,1],rfl,?_⟩
  refine ⟨k+1,⟨by omega,?_⟩,by omega⟩
  exact ⟨_,pl++[pKr l k],by rw [ae3,← hplE],by rw [List.map_append];rfl⟩
 ·skip
  have hk5:k=5:=by simp at h1;omega
  subst hk5
  refine aR (aS (aS (aY (an (aSR (LT rfl (gP (m:=25) (zs:=[.int .u64 0]) el139 (by kernel_rfl) rfl (by decide) (dS rfl (rfl)) (dS rfl (rfl)) (by omega) rfl (fun v6_0=>(aHN ?_)))))))))
  refine aA rfl (aNs (ai ?_))
  refine eZ 2 (aN _ _ 1 ((List.replicate 25 (0:Int)).map gB)) rfl (fun _ _ _ h=>by rw [List.map_replicate];exact h) ?_
  refine aa (aA rfl (aNn (aq ?_)))
  refine aP [0,1,5,7,8] [] [0,1,2] (fun (q:Nat) st=>q≤5∧∃ bl:List Int,(bl.length=25∧bl=bKr l pl (5*q))∧st=⟨[(0,true,va),(1,true,.int .u64 c0),(5,true,vp),(7,true,.slice v6_0 25 25),(8,true,.int .i64 q)],[],[aN va 135 1 (l.map gB),aN vp 135 1 (pl.map gB),aN (.slice v6_0 25 25) 135 1 (bl.map gB)]⟩) (fun q=>5-q) rfl (⟨0,Nat.zero_le _,_,⟨List.length_replicate,by unfold bKr;rw [Nat.mul_zero,List.range_zero,List.foldl_nil]⟩,rfl⟩) ?_
  rintro k st ⟨hk,bl,⟨hbl,hblE⟩,rfl⟩
  refine ai (aSR (aM rfl (aU rfl (bC rfl rfl) (aNn ?_))))
  refine ao _ rfl (fun h2 => ?_) (fun h2 => ?_)
  ·skip
   have hk':k<5:=by simp at h2;omega
   refine ax (an (ai (aq (aSR (aA rfl (bP (an (aq (aP [0,1,5,7,8,9] [] [0,1,2] (fun (q:Nat) st=>q≤5∧∃ bl:List Int,(bl.length=25∧bl=bKr l pl (5*k+q))∧st=⟨[(0,true,va),(1,true,.int .u64 c0),(5,true,vp),(7,true,.slice v6_0 25 25),(8,true,.int .i64 k),(9,true,.int .i64 q)],[],[aN va 135 1 (l.map gB),aN vp 135 1 (pl.map gB),aN (.slice v6_0 25 25) 135 1 (bl.map gB)]⟩) (fun q=>5-q) rfl (⟨0,Nat.zero_le _,bl,⟨hbl,hblE⟩,rfl⟩) ?_)))))))))
   clear hbl hblE
   rintro j st ⟨hj,bl,⟨hbl,hblE⟩,rfl⟩
   refine ai (aSR (aM rfl (aU rfl (bC rfl rfl) (aNn ?_))))
   refine ao _ rfl (fun h3 => ?_) (fun h3 => ?_)
   ·skip
    have hj':j<5:=by simp at h3;omega
    have hz0:=l0 (l:=l) (k:=k+5*j) (by omega)
    have hz1:=l0 (l:=pl) (k:=(k+4) % 5) (by omega)
    have hz2:=l0 (l:=pl) (k:=(k+1) % 5) (by omega)
    have hzb:0≤fX.getD (k+5*j) 0∧fX.getD (k+5*j) 0≤64:=by obtain ⟨n,h1,h2⟩:=xC (k+5*j);rw [h2];omega
    obtain ⟨z3,hz3⟩:∃ z,bl[j+5*((2*k+3*j) % 5)]? = some z:=⟨_,List.getElem?_eq_getElem (by omega)⟩
    refine ax (an (ai (aq (ai (DR [] 23 (VM 0 rfl rfl (VM 1 rfl rfl (VM 2 rfl rfl (bV 3 rfl rfl (fq rfl rfl (by omega)) (bV 4 rfl rfl (aV rfl rfl (by omega)) ?_))))))))))
    refine bV 5 rfl rfl (bZ 0 (k+5*j) el139 rfl rfl rfl (by omega) (by rw [List.length_map];omega)) ?_
    refine bV 6 rfl rfl (bE 0 (k+5*j) 0 tk135 rfl rfl (aI hz0) rfl rfl) (VM 7 rfl rfl (VM 8 rfl rfl (bV 9 rfl rfl (aV rfl rfl (by omega)) (bV 10 rfl rfl ((fl rfl rfl (by decide)).castV (v':=.int .i64 ((k+4) % 5:Nat)) (congrArg (Value.int .i64) (aen (by omega)))) ?_))))
    refine bV 11 rfl rfl (bZ 1 ((k+4) % 5) el139 rfl rfl rfl rfl (by rw [List.length_map];omega)) ?_
    refine bV 12 rfl rfl (bE 1 ((k+4) % 5) 0 tk135 rfl rfl (aI hz1) rfl rfl) (bV 13 rfl rfl (ic rfl rfl) (VM 14 rfl rfl (VM 15 rfl rfl (bV 16 rfl rfl (aV rfl rfl (by omega)) (bV 17 rfl rfl ((fl rfl rfl (by decide)).castV (v':=.int .i64 ((k+1) % 5:Nat)) (congrArg (Value.int .i64) (aen (by omega)))) ?_)))))
    refine bV 18 rfl rfl (bZ 1 ((k+1) % 5) el139 rfl rfl rfl rfl (by rw [List.length_map];omega)) ?_
    refine bV 19 rfl rfl (bE 1 ((k+1) % 5) 0 tk135 rfl rfl (aI hz2) rfl rfl) ?_
    refine p8 (caps:=[]) 20 rfl (by kernel_rfl) [] ((0:Int)) (by kernel_rfl) true rfl rfl (fun _=>rfl) (fun hc=>rfl) (fun hc=>by rw [List.append_nil];exact qY _ 1 (by decide)) (fun zl hzl => ?_)
    refine bV 21 rfl rfl (ic rfl rfl) (bV 22 rfl rfl (bo rfl) (BN (an (aa (aM rfl (aM rfl (aM rfl (aU rfl (fq rfl rfl (by omega)) (aM rfl (aU rfl (fq rfl rfl (by omega)) (aU rfl (aV rfl rfl (by omega)) (aU rfl ((fl rfl rfl (by decide)).castV (v':=.int .i64 ((2*k+3*j) % 5:Nat)) (congrArg (Value.int .i64) (aen (by omega)))) (aU rfl (fq rfl rfl (by omega)) (aU rfl (aV rfl rfl (by omega)) ?_))))))))))))))
    refine aM rfl (aM rfl (aM rfl (aU rfl (fq rfl rfl (by omega)) (aU rfl ((aV rfl rfl (by omega)).castV (v':=.int .i64 (k+5*j:Nat)) (congrArg (Value.int .i64) (by omega))) ?_))))
    refine fB (caps:=[]) [] ((0:Int)) (by kernel_rfl) true rfl rfl (fun _=>rfl) (fun hc=>rfl) (fun hc=>by rw [List.append_nil];exact yq (k+5*j) (by omega)) (fun zt hzt => ?_)
    refine fB (caps:=[]) [] ((0:Int)) (by kernel_rfl) true rfl rfl (fun _=>rfl) (fun hc=>rfl) (fun hc=>by rw [List.append_nil];exact qY _ zt (by rw [hzt rfl];exact hzb)) (fun zr hzr => ?_)
    refine aU rfl (bZ 2 (j+5*((2*k+3*j) % 5)) el139 rfl rfl rfl (by omega) (by rw [List.length_map];omega)) ?_
    refine LF rfl (du 2 (j+5*((2*k+3*j) % 5)) 0 tk135 rfl rfl rfl (aI hz3) rfl (.v rfl .nil) rfl (by decide) (aHK ?_))
    refine bP (bu (an ?_))
    refine eZ 2 (aN _ _ 1 ((bl.set (j+5*((2*k+3*j) % 5)) zr).map gB)) rfl (fun _ _ _ h=>by rw [List.map_set];exact h) ?_
    refine aa (aM rfl (aU rfl (aV rfl rfl (by omega)) (aA rfl (aNn ?_))))
    refine ⟨[0,1,5,7,8,9],[],[0,1,2],rfl,?_⟩
    exact ⟨j+1,⟨by omega,bl.set _ zr,⟨by rw [List.length_set];exact hbl,by rw [acv _ _ _ _ hj',← hblE,hzr rfl,hzl rfl,hzt rfl];rfl⟩,rfl⟩,by omega⟩
   ·skip
    refine aR (aS (aS (aY (bu (an (aa (aM rfl (aU rfl (aV rfl rfl (by omega)) (aA rfl (aNn ?_))))))))))
    refine ⟨[0,1,5,7,8],[],[0,1,2],rfl,?_⟩
    have hj5:j=5:=by simp at h3;omega
    exact ⟨k+1,⟨by omega,bl,⟨hbl,by rw [hblE,hj5];rfl⟩,rfl⟩,by omega⟩
  ·skip
   refine aR (aS (aS (aY (an (aSR (aA rfl (aNs (ai (ef 135 1 ?_)))))))))
   show awp _ _ _ _ ⟨_,_,[_,_,_,_]⟩
   refine aa (aA rfl (aNn (aq ?_)))
   refine aP [1,7,11,12] [] [2,3] (fun (q:Nat) st=>q≤5∧∃ (vo:Value) (ol:List Int),ol=oR bl (5*q)∧st=⟨[(1,true,.int .u64 c0),(7,true,.slice v6_0 25 25),(11,true,vo),(12,true,.int .i64 q)],[],[aN (.slice v6_0 25 25) 135 1 (bl.map gB),aN vo 135 1 (ol.map gB)]⟩) (fun q=>5-q) rfl (⟨0,Nat.zero_le _,_,[],by unfold oR;rw [Nat.mul_zero,List.range_zero,List.map_nil],rfl⟩) ?_
   have hk5b:k=5:=by simp at h2;omega
   subst hk5b
   rintro k st ⟨hk,vo,ol,holE,rfl⟩
   have hol:ol.length=5*k:=by rw [holE,yQ]
   refine ai (aSR (aM rfl (aU rfl (bC rfl rfl) (aNn ?_))))
   refine ao _ rfl (fun h4 => ?_) (fun h4 => ?_)
   ·skip
    have hk':k<5:=by simp at h4;omega
    refine ax (an (ai (aq (aSR (aA rfl (bP (an (aq (aP [1,7,11,12,13] [] [0,1] (fun (q:Nat) st=>q≤5∧∃ (vo:Value) (ol:List Int),ol=oR bl (5*k+q)∧st=⟨[(1,true,.int .u64 c0),(7,true,.slice v6_0 25 25),(11,true,vo),(12,true,.int .i64 k),(13,true,.int .i64 q)],[],[aN (.slice v6_0 25 25) 135 1 (bl.map gB),aN vo 135 1 (ol.map gB)]⟩) (fun q=>5-q) rfl (⟨0,Nat.zero_le _,vo,ol,holE,rfl⟩) ?_)))))))))
    clear hol holE
    rintro j st ⟨hj,vo,ol,holE,rfl⟩
    have hol:ol.length=5*k+j:=by rw [holE,yQ]
    refine ai (aSR (aM rfl (aU rfl (bC rfl rfl) (aNn ?_))))
    refine ao _ rfl (fun h5 => ?_) (fun h5 => ?_)
    ·skip
     have hj':j<5:=by simp at h5;omega
     have hz0:=l0 (l:=bl) (k:=(j+1) % 5+5*k) (by omega)
     have hz1:=l0 (l:=bl) (k:=j+5*k) (by omega)
     have hz2:=l0 (l:=bl) (k:=(j+2) % 5+5*k) (by omega)
     refine ax (an (ai (aq (aSR (aM rfl (aM rfl (aU rfl (aV rfl rfl (by omega)) (aU rfl ((fl rfl rfl (by decide)).castV (v':=.int .i64 ((j+1) % 5:Nat)) (congrArg (Value.int .i64) (aen (by omega)))) (aM rfl (aU rfl (fq rfl rfl (by omega)) (aU rfl (aV rfl rfl (by omega)) ?_)))))))))))
     refine aU rfl (bZ 0 ((j+1) % 5+5*k) el139 rfl rfl rfl (by omega) (by rw [List.length_map];omega)) ?_
     refine aU rfl (bE 0 ((j+1) % 5+5*k) 0 tk135 rfl rfl (aI hz0) rfl rfl) (aU rfl (xl rfl rfl) (aA rfl (aNn (DR [21] 23 (VM 0 rfl rfl (VM 1 rfl rfl (VM 2 rfl rfl (VM 3 rfl rfl (bV 4 rfl rfl (fq rfl rfl (by omega)) (bV 5 rfl rfl (aV rfl rfl (by omega)) ?_))))))))))
     refine bV 6 rfl rfl (bZ 0 (j+5*k) el139 rfl rfl rfl (by omega) (by rw [List.length_map];omega)) ?_
     refine bV 7 rfl rfl (bE 0 (j+5*k) 0 tk135 rfl rfl (aI hz1) rfl rfl) (VM 8 rfl rfl (VM 9 rfl rfl (VM 10 rfl rfl (bV 11 rfl rfl (aV rfl rfl (by omega)) (bV 12 rfl rfl ((fl rfl rfl (by decide)).castV (v':=.int .i64 ((j+2) % 5:Nat)) (congrArg (Value.int .i64) (aen (by omega)))) (VM 13 rfl rfl (bV 14 rfl rfl (fq rfl rfl (by omega)) (bV 15 rfl rfl (aV rfl rfl (by omega)) ?_))))))))
     refine bV 16 rfl rfl (bZ 0 ((j+2) % 5+5*k) el139 rfl rfl rfl (by omega) (by rw [List.length_map];omega)) ?_
     refine bV 17 rfl rfl (bE 0 ((j+2) % 5+5*k) 0 tk135 rfl rfl (aI hz2) rfl rfl) (bV 18 rfl rfl (uQ rfl rfl) (bV 19 rfl rfl (ic rfl rfl) (eQ (q:=true) 20 rfl (by kernel_rfl) rfl rfl (WL (zs:=[.int .u64 0]) el139 rfl rfl rfl (.more rfl (.v rfl .nil) .nil) rfl rfl (fun v23_20=>(bST rfl ?_))))))
     refine eQ 21 rfl (by kernel_rfl) rfl rfl (cK 1 el139 rfl rfl rfl rfl (dW 2 el139 rfl (by simp)) (by first | assumption | simp) (by rw [List.length_map];show ol.length+1≤_;omega) ((5*k+j+1)) (by rw [List.length_map,hol];rfl) (fun v23_21 c23_21 => ?_))
     refine bST rfl ?_
     refine bV 22 rfl rfl (bo rfl) (BN (bu (an (aa (aM rfl (aU rfl (aV rfl rfl (by omega)) (aA rfl (aNn ?_))))))))
     refine ⟨[1,7,11,12,13],[],[0,1],rfl,?_⟩
     refine ⟨j+1,⟨by omega,?_⟩,by omega⟩
     exact ⟨_,ol++[oV bl k j],by rw [aeT _ _ _ hj',← holE],by rw [List.map_append];rfl⟩
    ·skip
     have hj5:j=5:=by simp at h5;omega
     subst hj5
     refine aR (aS (aS (aY (bu (an (aa (aM rfl (aU rfl (aV rfl rfl (by omega)) (aA rfl (aNn ?_))))))))))
     refine ⟨[1,7,11,12],[],[0,1],rfl,?_⟩
     exact ⟨k+1,⟨by omega,vo,ol,by rw [holE];rfl,rfl⟩,by omega⟩
   ·skip
    have hk5:k=5:=by simp at h4;omega
    subst hk5
    have hz0:=l0 (l:=ol) (k:=0) (by omega)
    have hfin:ir l c0=ol.set 0 (xU (ol.getD 0 0) c0):=by unfold ir;rw [← hplE,← hblE,← holE]
    refine aR (aS (aS (aY (an (aSR (aM rfl (aM rfl ?_)))))))
    refine aU rfl (bZ 1 0 el139 rfl rfl rfl rfl (by rw [List.length_map];omega)) ?_
    refine aU rfl (bE 1 0 0 tk135 rfl rfl (aI hz0) rfl rfl) (aM rfl (aU rfl (ic rfl rfl) ?_))
    refine aU rfl (bZ 1 0 el139 rfl rfl rfl rfl (by rw [List.length_map];omega)) ?_
    refine LF rfl (du 1 0 0 tk135 rfl rfl rfl (aI hz0) rfl (.v rfl .nil) rfl (by decide) (aHK ?_))
    refine aNs ?_
    refine eZ 1 (aN vo 135 1 ((ir l c0).map gB)) rfl (fun _ _ _ h=>by rw [hfin,List.map_set];exact h) ?_
    refine aa (aM rfl (aA rfl (aNn (az (FZ1 [1] Tryz.results70 rfl ?_)))))
    exact ⟨rfl,rfl⟩
theorem afF(n:Nat):((n:Int)).tmod 136=((n % 136:Nat):Int):=rfl
theorem xQ{z:Int}(h:0≤z):gW (z.tmod 256)=gW z:=by
 unfold gW
 rw [Int.tmod_eq_emod_of_nonneg h,Int.emod_emod]
theorem acS{z:Int}(h:0≤z∧z<18446744073709551616)(k:Nat):IntKind.u64.wrap ((z / 256 ^ k).tdiv 256)=z / 256 ^ (k+1)∧0≤z / 256 ^ k:=by
 obtain ⟨n,hn,rfl⟩:=toNat' h
 have e:∀ j,(n:Int) / 256 ^ j=((n / 256 ^ j:Nat):Int):=fun j=>by simp
 have e2:(((n / 256 ^ k:Nat):Int)).tdiv 256=((n / 256 ^ k / 256:Nat):Int):=rfl
 have e3:n / 256 ^ k / 256=n / 256 ^ (k+1):=by rw [Nat.div_div_eq_div_mul,Nat.pow_succ]
 have h2:n / 256 ^ (k+1)≤n:=Nat.div_le_self _ _
 rw [e k,e (k+1),e2,e3,IntKind.wrap_u64]
 generalize n / 256 ^ (k+1)=t at h2
 generalize n / 256 ^ k=t2
 omega
theorem qZ(s:ByteArray)(hs:s.size≤1000000):Con Tryz.prog 21 [.string s] [] [] (YN Value.string fun t=>t=ofBytes (xB s.data.toList)):=by
 obtain ⟨sl,hsl⟩:∃ sl,s.data.toList=sl:=⟨_,rfl⟩
 have hsz:s.size=sl.length:=by rw [← hsl];simp
 obtain ⟨M,hM⟩:∃ M,M=(sl.length+136) / 136*136:=⟨_,rfl⟩
 rw [hsl]
 refine EN1 Tryz.func21 rfl (aSR (aA rfl (aNn (aSR (aM rfl (LT rfl (wG Tryz.underlying9 Tryz.underlying60 Tryz.underlying5 (by omega) rfl rfl (fun vb => ?_))))))))
 rw [hsl]
 refine aHN ?_
 refine LT rfl (WL (zs:=[.int .u8 0]) el60 rfl rfl rfl (.more rfl (.v rfl .nil) .nil) rfl rfl (fun v1_2=>(aHN ?_)))
 refine LF rfl (tm (u:=6) 0 1 el60 el60 (by kernel_rfl) rfl rfl rfl rfl rfl (by omega) (fun vb2=>(aHK ?_)))
 refine aA rfl (aNs (aq ?_))
 have hp0:sl++[6]=jO sl (sl.length+1):=by unfold jO;rw [show sl.length+1-sl.length-1=0 by omega];rfl
 refine aP [3] [] [0] (fun (q:Nat) st=>(q≤M∧sl.length<q)∧∃ v,st=⟨[(3,true,v)],[],[ByC v (jO sl q)]⟩) (fun q=>M-q) rfl (⟨sl.length+1,⟨by omega,by omega⟩,_,by rw [← hp0];rfl⟩) ?_
 rintro q st ⟨⟨hqM,hq1⟩,v,rfl⟩
 have hpl:=wX sl q hq1
 refine ai (aSR (aM rfl ?_))
 refine aU rfl ((za 0 Tryz.underlying60 rfl rfl).castV (v':=.int .i64 q) (by rw [hpl])) ?_
 refine aU rfl (fl rfl rfl (by decide)) (aU rfl (fI rfl rfl) (aNn ?_))
 refine ao _ rfl (fun h1 => ?_) (fun h1 => ?_)
 ·skip
  have hq:q % 136≠0:=by rw [afF] at h1;simp at h1;omega
  refine ax (an (aq (aa (aM rfl (LT rfl (WL (zs:=[.int .u8 0]) el60 rfl rfl rfl (.more rfl (.v rfl .nil) .nil) rfl rfl (fun v3_1=>(aHN ?_))))))))
  refine LF rfl (tm (u:=0) 0 1 el60 el60 (by kernel_rfl) rfl rfl rfl rfl rfl (by omega) (fun vb3=>(aHK ?_)))
  refine aA rfl (bP (bu (an ?_)))
  refine ⟨[3],[],[0],rfl,?_⟩
  exact ⟨q+1,⟨⟨by omega,by omega⟩,vb3,by rw [abP _ _ hq1];rfl⟩,by omega⟩
 ·skip
  have hq:q % 136=0:=by rw [afF] at h1;simp at h1;omega
  have hqM2:q=rn sl.length:=by unfold rn;omega
  have hu0:=afC (l:=jO sl q) (k:=q-1) (by omega)
  refine aR (aS (aS (aY (an (aSR (aM rfl (aM rfl ?_)))))))
  refine aU rfl ((za 0 Tryz.underlying60 rfl rfl).castV (v':=.int .i64 q) (by rw [hpl])) ?_
  refine aU rfl (cZ rfl rfl (by omega)) (aM rfl (aM rfl ?_))
  refine aU rfl ((za 0 Tryz.underlying60 rfl rfl).castV (v':=.int .i64 q) (by rw [hpl])) ?_
  refine aU rfl (cZ rfl rfl (by omega)) (aU rfl (adU 0 (q-1) el60 rfl rfl rfl (by omega) (by omega)) (aU rfl (ae5 0 tk5 rfl rfl hu0) (aU rfl ((tF rfl rfl).castV (v':=.int .u8 (gW (((jO sl q).getD (q-1) 0).toNat+128)).toNat) (congrArg (Value.int .u8) (mg _))) (aU rfl (adU 0 (q-1) el60 rfl rfl rfl (by omega) (by omega)) (LF rfl (acY 0 tk5 rfl rfl rfl (by omega) (iN (hp':=[ByC v (pC sl q)]) rfl (aNn (aSR (LT rfl (gP (m:=25) (zs:=[.int .u64 0]) el139 (by kernel_rfl) rfl (by decide) (dS rfl (rfl)) (dS rfl (rfl)) (by omega) rfl (fun v5_0=>(aHN ?_)))))))))))))
  refine aA rfl (aNs (ai ?_))
  refine eZ 1 (aN _ _ 1 ((List.replicate 25 (0:Int)).map gB)) rfl (fun _ _ _ h=>by rw [List.map_replicate];exact h) ?_
  refine xN 0 rfl ?_
  obtain ⟨bl,hbl⟩:∃ bl,pC sl q=bl:=⟨_,rfl⟩
  have hbll:bl.length=q:=by rw [← hbl];exact vC sl q hq1
  rw [hbl]
  refine aa (aA rfl (aNn (aq ?_)))
  refine aP [3,4,5] [0] [1] (fun (p:Nat) st=>136*p≤q∧∃ (va:Value) (al:List Int),al=se bl p∧st=⟨[(3,true,v),(4,true,va),(5,true,.int .i64 (136*p:Nat))],[ByD v bl],[aN va 135 1 (al.map gB)]⟩) (fun p=>q-p) rfl (⟨0,Nat.zero_le _,_,List.replicate 25 0,by unfold se;rw [List.range_zero,List.foldl_nil],rfl⟩) ?_
  rintro p st ⟨hp0,va,al,halE,rfl⟩
  have hal0:=pY bl p
  rw [← halE] at hal0
  have hal:=hal0.2
  refine ai (aSR (aM rfl (aM rfl ?_)))
  refine aU rfl ((agd (aH 0 rfl) Tryz.underlying60 rfl).castV (v':=.int .i64 q) (by rw [hbll])) ?_
  refine aU rfl (bC rfl rfl) (aNn ?_)
  refine ao _ rfl (fun h2 => ?_) (fun h2 => ?_)
  ·skip
   have hpq:136*p<q:=by simp at h2;omega
   have hpq2:136*p+136≤q:=by omega
   refine ax (an (ai (aq (ai (aSR (aA rfl (aNn (aq ?_))))))))
   refine aP [3,4,5,6] [0] [0] (fun (i:Nat) st=>i≤17∧∃ (al2:List Int),al2=adR bl p al i∧st=⟨[(3,true,v),(4,true,va),(5,true,.int .i64 (136*p:Nat)),(6,true,.int .i64 i)],[ByD v bl],[aN va 135 1 (al2.map gB)]⟩) (fun i=>17-i) rfl (⟨0,Nat.zero_le _,al,by unfold adR;rw [List.range_zero,List.foldl_nil],rfl⟩) ?_
   rintro i st ⟨hi,al2,hal2E,rfl⟩
   have hal2U:=kC (l:=bl) (p:=p) hal0 i
   rw [← hal2E] at hal2U
   have hal2:=hal2U.2
   refine ai (aSR (aM rfl (aU rfl (bC rfl rfl) (aNn ?_))))
   refine ao _ rfl (fun h3 => ?_) (fun h3 => ?_)
   ·skip
    have hi':i<17:=by simp at h3;omega
    have hz0:=l0 (l:=al2) (k:=i) (by omega)
    refine ax (an (ai (aq (DR [14] 15 (VM 0 rfl rfl (VM 1 rfl rfl (VM 2 rfl rfl (VM 3 rfl rfl ?_))))))))
    refine bV 4 rfl rfl (bZ 0 i el139 rfl rfl rfl rfl (by rw [List.length_map];omega)) ?_
    refine bV 5 rfl rfl (bE 0 i 0 tk135 rfl rfl (aI hz0) rfl rfl) (VM 6 rfl rfl (VM 7 rfl rfl (VM 8 rfl rfl (bV 9 rfl rfl (fq rfl rfl (by omega)) (bV 10 rfl rfl ((aV rfl rfl (by omega)).castV (v':=.int .i64 (136*p+8*i:Nat)) (congrArg (Value.int .i64) (by omega))) ?_)))))
    refine p8 (caps:=[]) 11 rfl (by kernel_rfl) [0] ((0:Int)) (by kernel_rfl) true rfl rfl (fun _=>rfl) (fun hc=>rfl) (fun hc=>by rw [List.append_nil];exact yp v bl (136*p+8*i) (by omega) (by omega)) (fun zl hzl => ?_)
    refine bV 12 rfl rfl (ic rfl rfl) ?_
    refine bV 13 rfl rfl (bZ 0 i el139 rfl rfl rfl rfl (by rw [List.length_map];omega)) ?_
    refine VE 14 rfl rfl (du 0 i 0 tk135 rfl rfl rfl (aI hz0) rfl (.v rfl .nil) rfl (by decide) (bST rfl ?_))
    refine BN (bu (an ?_))
    refine eZ 0 (aN va 135 1 ((adR bl p al (i+1)).map gB)) rfl (fun _ _ _ h=>by rw [p9,← hal2E,← hzl rfl,List.map_set];exact h) ?_
    refine aa (aM rfl (aU rfl (aV rfl rfl (by omega)) (aA rfl (aNn ?_))))
    refine ⟨[3,4,5,6],[0],[0],rfl,?_⟩
    exact ⟨i+1,⟨by omega,_,rfl,rfl⟩,by omega⟩
   ·skip
    refine aR (aS (aS (aY (an (aSR (aA rfl (aNn (aq ?_))))))))
    have hi17:i=17:=by simp at h3;omega
    have hal17:al2=adR bl p al 17:=by rw [hal2E,hi17]
    refine aP [3,4,5,7] [0] [0] (fun (i:Nat) st=>i≤24∧∃ (va:Value) (al3:List Int),al3=ku (adR bl p al 17) i∧st=⟨[(3,true,v),(4,true,va),(5,true,.int .i64 (136*p:Nat)),(7,true,.int .i64 i)],[ByD v bl],[aN va 135 1 (al3.map gB)]⟩) (fun i=>24-i) rfl (⟨0,Nat.zero_le _,va,al2,by unfold ku;rw [List.range_zero,List.foldl_nil];exact hal17,rfl⟩) ?_
    rintro j st ⟨hj,va2,al3,hal3E,rfl⟩
    have hal3:=nv (kC (l:=bl) (p:=p) hal0 17) j
    rw [← hal3E] at hal3
    refine ai (aSR (aM rfl (aU rfl (bC rfl rfl) (aNn ?_))))
    refine ao _ rfl (fun h4 => ?_) (fun h4 => ?_)
    ·skip
     have hj':j<24:=by simp at h4;omega
     refine ax (an (ai (aq (aa (aM rfl (aM rfl ?_))))))
     refine fB (caps:=[]) [] ((0:Int)) (by kernel_rfl) true rfl rfl (fun _=>rfl) (fun hc=>rfl) (fun hc=>by rw [List.append_nil];exact wo j hj') (fun zc hzc => ?_)
     refine LF rfl (EC [] [0] rfl (wu va2 al3 hal3.2 zc) ?_)
     rintro r2 _ _ ⟨rfl,rfl⟩
     refine aST ?_
     refine aA rfl (bP (bu (an (aa (aM rfl (aU rfl (aV rfl rfl (by omega)) (aA rfl (aNn ?_))))))))
     refine ⟨[3,4,5,7],[0],[0],rfl,?_⟩
     exact ⟨j+1,⟨by omega,r2,ir al3 zc,by rw [mw,← hal3E,hzc rfl],rfl⟩,by omega⟩
    ·skip
     refine aR (aS (aS (aY (bu (an (aa (aM rfl (aU rfl (aV rfl rfl (by omega)) (aA rfl (aNn ?_))))))))))
     refine ⟨[3,4,5],[0],[0],rfl,?_⟩
     have hj24:j=24:=by simp at h4;omega
     refine ⟨p+1,⟨by omega,va2,al3,by rw [lq,← halE,hal3E,hj24],?_⟩,by omega⟩
     rw [show ((136*(p+1):Nat):Int)=((136*p:Nat):Int)+136 by omega]
     rfl
  ·skip
   refine aR (aS (aS (aY (an (aSR (aA rfl (aNs (ai (ef 5 1 ?_)))))))))
   show awp _ _ _ _ ⟨_,_,[_,_]⟩
   refine aa (aA rfl (aNn (aq ?_)))
   refine aP [4,8,9] [] [0,1] (fun (i:Nat) st=>i≤4∧∃ (vo:Value) (ol:List UInt8),ol=kv al (8*i)∧st=⟨[(4,true,va),(8,true,vo),(9,true,.int .i64 i)],[],[aN va 135 1 (al.map gB),aN vo 5 1 (ol.map cE)]⟩) (fun i=>4-i) rfl (⟨0,Nat.zero_le _,_,[],by unfold kv;rw [Nat.mul_zero,List.range_zero,List.map_nil],rfl⟩) ?_
   rintro i st ⟨hi,vo,ol,holE,rfl⟩
   have hol:ol.length=8*i:=by rw [holE,jN]
   refine ai (aSR (aM rfl (aU rfl (bC rfl rfl) (aNn ?_))))
   refine ao _ rfl (fun h5 => ?_) (fun h5 => ?_)
   ·skip
    have hi':i<4:=by simp at h5;omega
    have hz0:=l0 (l:=al) (k:=i) (by omega)
    have hzU:=hal0.1.get i
    refine ax (an (ai (aq (aSR (aM rfl (aM rfl ?_))))))
    refine aU rfl (bZ 0 i el139 rfl rfl rfl rfl (by rw [List.length_map];omega)) ?_
    refine aU rfl (bE 0 i 0 tk135 rfl rfl (aI hz0) rfl rfl) (aA rfl (aNn (aSR (aA rfl (aNn (aq ?_))))))
    refine aP [4,8,9,10,11] [] [0,1] (fun (k:Nat) st=>k≤8∧∃ (x:Int) (vo:Value) (ol:List UInt8),(x=al.getD i 0 / 256 ^ k∧ol=kv al (8*i+k))∧st=⟨[(4,true,va),(8,true,vo),(9,true,.int .i64 i),(10,true,.int .u64 x),(11,true,.int .i64 k)],[],[aN va 135 1 (al.map gB),aN vo 5 1 (ol.map cE)]⟩) (fun k=>8-k) rfl (⟨0,Nat.zero_le _,_,vo,ol,⟨by rw [Int.pow_zero,Int.ediv_one],holE⟩,rfl⟩) ?_
    clear hol holE
    rintro k st ⟨hk,x,vo,ol,⟨hxE,holE⟩,rfl⟩
    have hol:ol.length=8*i+k:=by rw [holE,jN]
    refine ai (aSR (aM rfl (aU rfl (bC rfl rfl) (aNn ?_))))
    refine ao _ rfl (fun h6 => ?_) (fun h6 => ?_)
    ·skip
     have hk':k<8:=by simp at h6;omega
     have hds:=acS hzU k
     rw [← hxE] at hds
     have hu3:IntKind.u8.wrap (x.tmod 256)=(gW x).toNat:=by rw [mg,xQ hds.2]
     refine ax (an (ai (aq (aSR (aM rfl (aM rfl (aU rfl (fl rfl rfl (by decide)) (aU rfl ((cW (by kernel_rfl) Tryz.underlying5 rfl).castV (v':=.int .u8 (gW x).toNat) (congrArg (Value.int .u8) hu3)) (LT rfl (WL (zs:=[.int .u8 0]) el60 rfl rfl rfl (.more rfl (.v rfl .nil) .nil) rfl rfl (fun v25_4=>(aHN ?_))))))))))))
     refine aW rfl (cK 1 el60 rfl rfl rfl rfl (dW 2 el60 rfl (by simp)) (by first | assumption | simp) (by rw [List.length_map];show ol.length+1≤_;omega) ((8*i+k+1)) (by rw [List.length_map,hol];rfl) (fun v25_5 c25_5 => ?_))
     refine aHK ?_
     refine aA rfl (aNn (aa (aM rfl (aU rfl (rL rfl rfl (by decide)) (aA rfl (bP (bu (an (aa (aM rfl (aU rfl (aV rfl rfl (by omega)) (aA rfl (aNn ?_)))))))))))))
     refine ⟨[4,8,9,10,11],[],[0,1],rfl,?_⟩
     refine ⟨k+1,⟨by omega,?_⟩,by omega⟩
     exact ⟨_,_,ol++[gW x],⟨hds.1,by rw [show 8*i+(k+1)=8*i+k+1 by omega,tB,← holE,show (8*i+k) / 8=i by omega,show (8*i+k) % 8=k by omega,← hxE]⟩,by rw [List.map_append];rfl⟩
    ·skip
     have hk8:k=8:=by simp at h6;omega
     subst hk8
     refine aR (aS (aS (aY (bu (an (aa (aM rfl (aU rfl (aV rfl rfl (by omega)) (aA rfl (aNn ?_))))))))))
     refine ⟨[4,8,9],[],[0,1],rfl,?_⟩
     exact ⟨i+1,⟨by omega,vo,ol,by rw [holE];rfl,rfl⟩,by omega⟩
   ·skip
    have hi4:i=4:=by simp at h5;omega
    subst hi4
    refine aR (aS (aS (aY (an (ai ?_)))))
    refine gD 1 rfl (by intro h;rw [List.map_eq_nil_iff] at h;rw [h] at hol;cases hol) (fun B cp hv hcp => ?_)
    subst hv
    refine aa (aM rfl ?_)
    refine aU rfl (iY 1 ol Tryz.underlying60 Tryz.underlying5 Tryz.underlying9 rfl rfl rfl (by intro h;rw [h] at hol;cases hol)) ?_
    refine aA rfl (aNn (az (FZ1 [] Tryz.results21 rfl ?_)))
    refine ⟨⟨rfl,rfl⟩,_,rfl,?_⟩
    have hpq:136*p=q:=by simp at h2;omega
    rw [holE,halE,← agu]
    unfold agt
    rw [← hqM2,← hbl,show (sl.length+136) / 136=p by omega]
theorem abc(s:ByteArray)(hs:s.size≤1000000):Con Tryz.prog 21 [.string s] [] [] (YN Value.string fun t=>t.size=32) :=
 (qZ s hs).post fun _ _ _ ⟨h1,t,h2,h3⟩=>⟨h1,t,h2,by rw [h3];show (kv _ 32).length=32;exact jN _ _⟩
end Go.Proofs.YtebnelfdimiifaaGreatDoor

namespace Go.Sy
open Go.RowKit Go.Lp
theorem Ent.nl{α:Type}{ps:List Per}{row:α→List D} : Ent ps (ShF row ⟨none,0,[]⟩):=fun _ _ _=>.e none 0 (Nat.zero_le _)
theorem Ent.a0{α:Type}{ps:List Per}{f:α→Per} : Ent ps (b6 f []):=fun _ _ _ _ h=>by cases h
theorem Ent.a1{α:Type}{ps:List Per}{f:α→Per}{x:α}{l:List α}(h:Ent ps (f x))(hl:Ent ps (b6 f l)):Ent ps (b6 f (x::l)):=fun w S hp y hy=>(List.mem_cons.1 hy).elim (fun e=>by rw [e];exact h w S hp) (hl w S hp y)
end Go.Sy
namespace Go.Proofs.YtebnelfdimiifaaGreatDoor
open Go.RowKit Go.Lp Go.Sy Go.Lv
open Go.Proofs.Tryz
attribute [local irreducible] aL aB awp aC fwp Quiet
def xb(d:ByteArray):bp:=⟨⟨#[97]⟩,⟨#[116,101,120,116]⟩,0,16,8,d,.empty⟩
def xc(d:ByteArray):bp:=⟨⟨#[97]⟩,⟨#[100,97,116,97]⟩,1,272,16,d,.empty⟩
def plI:b7 := { name:=⟨#[102]⟩,version:=.empty,kind:=0,weak:=false,own:=false }
def ahg:fx := { at_:=256,kind:=3,import_:=0,add:=0 }
def ahh:fx := { at_:=272,kind:=0,import_ := -1,add:=16 }
def plX:bQ := { name:=⟨#[109,97,105,110]⟩,version:=.empty,main:=false,kind:=0,at_:=16,size:=8 }
def nlS{α:Type} : Sl α:=⟨none,0,[]⟩
def cU(d:ByteArray)(a0 a1 a2 a3 a4:Option Addr):aD where
 name:=⟨#[120]⟩
 lib:=false
 code:=256
 data:=512
 zero:=768
 bytes:=bytesOf (zsB 512)
 tls:=.empty
 block:=0
 nodes:=⟨a0,2,[xb d,xc d]⟩
 exports:=⟨a4,1,[plX]⟩
 imports:=⟨a1,1,[plI]⟩
 slots:=⟨a2,1,[256]⟩
 stubs:=nlS
 dyns:=⟨a3,2,[ahg,ahh]⟩
 inits:=nlS
 lasts:=nlS
 entry:=16
 needs:=nlS
 versions:=nlS
 info:=⟨nlS,nlS,nlS,nlS,nlS,nlS⟩
 changes:=nlS
def plC(b:ByteArray):List Value:=[.string ⟨#[120]⟩,.bool false,.int .i64 256,.int .i64 512,.int .i64 768,.string b,.string .empty,.int .i64 0,.slice none 0 0,.slice none 0 0,.slice none 0 0,.slice none 0 0,.slice none 0 0,.slice none 0 0,.slice none 0 0,.slice none 0 0,.int .i64 16,.slice none 0 0,.slice none 0 0,.slice none 0 0,.slice none 0 0,.slice none 0 0,.slice none 0 0,.slice none 0 0,.slice none 0 0,.slice none 0 0]
def zC:List Value:=ZI
theorem wk:Con Tryz.prog 10 [] [] [] fun r ps hp=>hp=[]∧∃ (d:ByteArray) (a0 a1 a2 a3 a4:Option Addr),d.size=32∧ps=[(cU d a0 a1 a2 a3 a4).ok]∧r=(cU d a0 a1 a2 a3 a4).val:=by
 refine Con.enter Tryz.func10 rfl (by simp [Tryz.ntmps10]) ?_
 show awp _ _ _ _ ⟨[],_,_⟩
 refine aSR (LT rfl (bJ (zs:=ZI) (by kernel_rfl) rfl (fun b0_0=>(aHN ?_))))
 refine aNn (aSR ?_)
 refine fB (caps:=[]) [] ((.empty:ByteArray)) (by kernel_rfl) true rfl rfl (fun _=>rfl) (fun hc=>rfl) (fun hc=>by rw [List.append_nil];exact abc .empty (by decide)) (fun d hd => ?_)
 refine aA rfl (aNn (aSR (aU rfl (ib (l:=[(0,.const (.string ⟨#[120]⟩)),(2,.const (.int .i64 256)),(3,.const (.int .i64 512)),(4,.const (.int .i64 768)),(16,.const (.int .i64 16))]) (zs:=ZI) (pl:=[(0,1),(1,1),(2,1),(3,1),(4,1),(5,1),(6,1),(7,1),(8,1),(9,1),(10,1),(11,1),(12,1),(13,1),(14,1),(15,1),(16,1),(17,1),(18,1),(19,6),(25,1)]) (by kernel_rfl) (by kernel_rfl) (by kernel_rfl) rfl rfl rfl) (LT rfl (bJ (zs:=ZI) (by kernel_rfl) rfl (fun b2_1=>(aHN ?_)))))))
 refine aW rfl (ba 1 tk39 rfl rfl rfl rfl (aHK ?_))
 refine aNs (aSR (aA rfl (aNn (aq (aP [0,1,2,3] [] [0,1] (fun (k:Nat) st=>k≤512∧st=⟨[(0,true,.pointer (some ⟨b0_0,0,none⟩)),(1,true,.string d),(2,true,.pointer (some ⟨b2_1,0,none⟩)),(3,true,.int .i64 k)],[],[Box b0_0 39 zC,Box b2_1 39 (plC (bytesOf (zsB k)))]⟩) (fun k=>512-k) rfl (⟨0,Nat.zero_le _,rfl⟩) ?_)))))
 rintro k st ⟨hk,rfl⟩
 refine ai (aSR (aM rfl (aU rfl (bC rfl rfl) (aNn ?_))))
 refine ao _ rfl (fun h1 => ?_) (fun h1 => ?_)
 ·skip
  have hk':k<512:=by simp at h1;omega
  have hz:(bytesOf (zsB k))++(⟨#[0]⟩:ByteArray)=bytesOf (zsB (k+1)):=by
    rw [show zsB (k+1)=zsB k++[0] from List.replicate_succ',et];rfl
  refine ax (an (ai (aq (aa (UO 5 rfl rfl (UL 1 tk9 rfl rfl rfl rfl ?_))))))
  refine aU rfl ((kY rfl rfl (by show (zsB k).length+1≤_;rw [List.length_replicate];exact Nat.le_trans (show k+1≤512 by omega) (by decide))).castV (v':=.string (bytesOf (zsB (k+1)))) (congrArg Value.string hz)) ?_
  refine UO 5 rfl rfl (aW rfl (ba 1 tk9 rfl rfl rfl rfl (aHK ?_)))
  refine bP (bu (an (aa (aM rfl (aU rfl (aV rfl rfl (by omega)) (aA rfl (aNn ?_)))))))
  refine ⟨[0,1,2,3],[],[0,1],rfl,?_⟩
  exact ⟨k+1,⟨hk',rfl⟩,by omega⟩
 ·skip
  have hke:k=512:=by simp at h1;omega
  subst hke
  refine aR (aS (aS (aY (an (aSR (aM rfl (aU rfl (ib (l:=[(0,.const (.string ⟨#[97]⟩)),(1,.const (.string ⟨#[116,101,120,116]⟩)),(2,.const (.int .i64 0)),(3,.const (.int .i64 16)),(4,.const (.int .i64 8)),(5,.tmp 14)]) (zs:=[.string .empty,.string .empty,.int .i64 0,.int .i64 0,.int .i64 0,.string .empty,.string .empty]) (pl:=[(0,1),(1,1),(2,1),(3,1),(4,1),(5,1),(6,1)]) (by kernel_rfl) (by kernel_rfl) (by kernel_rfl) rfl rfl rfl) (aM rfl (aU rfl (ib (l:=[(0,.const (.string ⟨#[97]⟩)),(1,.const (.string ⟨#[100,97,116,97]⟩)),(2,.const (.int .i64 1)),(3,.const (.int .i64 272)),(4,.const (.int .i64 16)),(5,.tmp 16)]) (zs:=[.string .empty,.string .empty,.int .i64 0,.int .i64 0,.int .i64 0,.string .empty,.string .empty]) (pl:=[(0,1),(1,1),(2,1),(3,1),(4,1),(5,1),(6,1)]) (by kernel_rfl) (by kernel_rfl) (by kernel_rfl) rfl rfl rfl) (LT rfl (WL (zs:=[.string .empty,.string .empty,.int .i64 0,.int .i64 0,.int .i64 0,.string .empty,.string .empty]) el22 rfl rfl rfl (.more rfl (.v rfl (.v rfl (.v rfl (.v rfl (.v rfl (.v rfl (.v rfl .nil))))))) (.more rfl (.v rfl (.v rfl (.v rfl (.v rfl (.v rfl (.v rfl (.v rfl .nil))))))) .nil)) rfl rfl (fun v7_4=>(aHN ?_)))))))))))))
  refine UO 8 rfl rfl (aW rfl (ba 1 tk22 rfl rfl rfl rfl (aHK ?_)))
  refine aNs (ep 2 rfl (aa (aU rfl (ib (l:=[(0,.const (.string ⟨#[102]⟩)),(2,.const (.int .i64 0))]) (zs:=[.string .empty,.string .empty,.int .i64 0,.bool false,.bool false]) (pl:=[(0,1),(1,1),(2,1),(3,1),(4,1)]) (by kernel_rfl) (by kernel_rfl) (by kernel_rfl) rfl rfl rfl) (LT rfl (WL (zs:=[.string .empty,.string .empty,.int .i64 0,.bool false,.bool false]) el24 rfl rfl rfl (.more rfl (.v rfl (.v rfl (.v rfl (.v rfl (.v rfl .nil))))) .nil) rfl rfl (fun v8_1=>(aHN ?_)))))))
  refine UO 10 rfl rfl (aW rfl (ba 1 tk24 rfl rfl rfl rfl (aHK ?_)))
  refine aNs (ep 3 rfl (aa (LT rfl (WL (zs:=[.int .i64 0]) el25 rfl rfl rfl (.more rfl (.v rfl .nil) .nil) rfl rfl (fun v9_0=>(aHN ?_))))))
  refine UO 11 rfl rfl (aW rfl (ba 1 tk25 rfl rfl rfl rfl (aHK ?_)))
  refine aNs (ep 4 rfl (aa (aU rfl (ib (l:=[(0,.const (.int .i64 256)),(1,.const (.int .i64 3))]) (zs:=[.int .i64 0,.int .i64 0,.int .i64 0,.int .i64 0]) (pl:=[(0,1),(1,1),(2,1),(3,1)]) (by kernel_rfl) (by kernel_rfl) (by kernel_rfl) rfl rfl rfl) (aU rfl (ib (l:=[(0,.const (.int .i64 272)),(1,.const (.int .i64 0)),(2,.const (.int .i64 (-1))),(3,.const (.int .i64 16))]) (zs:=[.int .i64 0,.int .i64 0,.int .i64 0,.int .i64 0]) (pl:=[(0,1),(1,1),(2,1),(3,1)]) (by kernel_rfl) (by kernel_rfl) (by kernel_rfl) rfl rfl rfl) (LT rfl (WL (zs:=[.int .i64 0,.int .i64 0,.int .i64 0,.int .i64 0]) el26 rfl rfl rfl (.more rfl (.v rfl (.v rfl (.v rfl (.v rfl .nil)))) (.more rfl (.v rfl (.v rfl (.v rfl (.v rfl .nil)))) .nil)) rfl rfl (fun v10_2=>(aHN ?_))))))))
  refine UO 13 rfl rfl (aW rfl (ba 1 tk26 rfl rfl rfl rfl (aHK ?_)))
  refine aNs (ep 5 rfl (aa (aU rfl (ib (l:=[(0,.const (.string ⟨#[109,97,105,110]⟩)),(3,.const (.int .i64 0)),(4,.const (.int .i64 16)),(5,.const (.int .i64 8))]) (zs:=[.string .empty,.string .empty,.bool false,.int .i64 0,.int .i64 0,.int .i64 0]) (pl:=[(0,1),(1,1),(2,1),(3,1),(4,1),(5,1)]) (by kernel_rfl) (by kernel_rfl) (by kernel_rfl) rfl rfl rfl) (LT rfl (WL (zs:=[.string .empty,.string .empty,.bool false,.int .i64 0,.int .i64 0,.int .i64 0]) el23 rfl rfl rfl (.more rfl (.v rfl (.v rfl (.v rfl (.v rfl (.v rfl (.v rfl .nil)))))) .nil) rfl rfl (fun v11_1=>(aHN ?_)))))))
  refine UO 9 rfl rfl (aW rfl (ba 1 tk23 rfl rfl rfl rfl (aHK ?_)))
  refine aNs (ep 6 rfl ?_)
  have hd32:d.size≤4611686018427387904:=by rw [hd rfl];decide
  have n1:∀ ps,Ent ps (xb d).ok:=fun _=>Ent.mk2 (Ent.str (Nat.le_of_ble_eq_true rfl)) (Ent.mk2 (Ent.str (Nat.le_of_ble_eq_true rfl)) (Ent.mk2 (Ent.str hd32) (Ent.str (Nat.le_of_ble_eq_true rfl))))
  have n2:∀ ps,Ent ps (xc d).ok:=fun _=>Ent.mk2 (Ent.str (Nat.le_of_ble_eq_true rfl)) (Ent.mk2 (Ent.str (Nat.le_of_ble_eq_true rfl)) (Ent.mk2 (Ent.str hd32) (Ent.str (Nat.le_of_ble_eq_true rfl))))
  have hb:(bytesOf (zsB 512)).size≤4611686018427387904:=by show (zsB 512).length≤_;rw [List.length_replicate];decide
  refine aZ (cU d v7_4 v8_1 v9_0 v10_2 v11_1).ok (Ent.mk2 (Ent.str (Nat.le_of_ble_eq_true rfl)) (Ent.mk2 (Ent.str hb) (Ent.mk2 (Ent.str (Nat.le_of_ble_eq_true rfl)) (Ent.mk2 (.of (aH 4 rfl)) (Ent.mk2 (.a1 (n1 _) (.a1 (n2 _) .a0)) (Ent.mk2 (.of (aH 0 rfl)) (Ent.mk2 (.a1 (Ent.mk2 (Ent.str (Nat.le_of_ble_eq_true rfl)) (Ent.str (Nat.le_of_ble_eq_true rfl))) .a0) (Ent.mk2 (.of (aH 3 rfl)) (Ent.mk2 (.a1 (Ent.mk2 (Ent.str (Nat.le_of_ble_eq_true rfl)) (Ent.str (Nat.le_of_ble_eq_true rfl))) .a0) (Ent.mk2 (.of (aH 2 rfl)) (Ent.mk2 .nl (Ent.mk2 (.of (aH 1 rfl)) (Ent.mk2 .nl (Ent.mk2 .nl (Ent.mk2 .nl (Ent.mk2 .a0 (Ent.mk2 .nl (Ent.mk2 .a0 (Ent.mk2 (Ent.mk2 .nl (Ent.mk2 .a0 (Ent.mk2 .nl (Ent.mk2 .a0 (Ent.mk2 .nl (Ent.mk2 .nl (Ent.mk2 .a0 (Ent.mk2 .nl (Ent.mk2 .a0 .nl))))))))) (Ent.mk2 .nl .a0)))))))))))))))))))) (aa (UL 1 tk39 rfl rfl rfl rfl (aW rfl (ba 0 tk39 rfl rfl rfl rfl (aHK ?_)))))
  refine aNn (az ?_)
  refine ac6 [5] [] rfl Tryz.results10 (nz 0 tk39 rfl rfl rfl) ?_ (.inr rfl)
  exact ⟨rfl,d,v7_4,v8_1,v9_0,v10_2,v11_1,hd rfl,rfl,rfl⟩
end Go.Proofs.YtebnelfdimiifaaGreatDoor

