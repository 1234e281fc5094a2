/- Parts of the proof, in build order. No condition. -/
import Derived.Test.YtfkcmbonmpcbfaaGreatTa09
import Derived.Test.YtfkcmbonmpcbfaaGreatTa08
import Derived.Test.YtfkcmbonmpcbfaaGreatTa07
import Derived.Lib.Zigzag
import Derived.Lib.EndianBits
import Derived.Lib.Varint
import Derived.Test.YtfkcmbonmpcbfaaGreatTa04
import Derived.Test.YtfkcmbonmpcbfaaGreatTa05
import Derived.Sort.Walk0
import Derived.ChangeKeysEq
import Derived.Lib.Bytealg
import Derived.Test.YtfkcmbonmpcbfaaGreatProg
import Derived.Ground.NamesProg
import Derived.Shelf.Sort.Plain
import Derived.Ground.Names2Prog
import Derived.Shelf.Slices.CompactI
import Derived.Shelf.Slices.Clone
import Derived.Shelf.Slices.Reverse
import Derived.Shelf.Slices.In.SortNone
set_option linter.unusedSimpArgs false
set_option linter.unusedVariables false
set_option maxHeartbeats 1000000
set_option maxRecDepth 20000
namespace Go.Sy
open Go.RowKit Go.Lp
open Classical in
noncomputable def qy {α β:Type} (m:α→Option β):Nat:=if h:∃ ks:List α,ks.Nodup∧∀ a,(m a).isSome=true↔a∈ks then h.choose.length else 0
theorem dI{γ:Type} : ∀ (D R:List γ),D.Nodup→(∀ x∈D,x∈R)→D.length≤R.length
 | [],_,_,_=>Nat.zero_le _
 | a :: D,R,hn,h=>by
   rw [List.nodup_cons] at hn
   obtain ⟨s,t,rfl⟩:=List.append_of_mem (h a (by simp))
   have:=dI D (s++t) hn.2 fun x hx=>by
     have hx2:=h x (by simp [hx])
     rw [List.mem_append,List.mem_cons] at hx2
     rcases hx2 with h1 | rfl | h1
     · exact List.mem_append_left _ h1
     · exact absurd hx hn.1
     · exact List.mem_append_right _ h1
   rw [List.length_append] at this
   rw [List.length_cons,List.length_append,List.length_cons];omega
theorem tF{α β:Type}{m:α→Option β}{ks:List α}(hn:ks.Nodup)(h:∀ a,(m a).isSome=true↔a∈ks):qy m=ks.length:=by
 have hx:∃ ks:List α,ks.Nodup∧∀ a,(m a).isSome=true↔a∈ks:=⟨ks,hn,h⟩
 unfold qy
 rw [dif_pos hx]
 have h2:=hx.choose_spec
 exact Nat.le_antisymm (dI _ _ h2.1 fun x hx'=>(h x).1 ((h2.2 x).2 hx')) (dI _ _ hn fun x hx'=>(h2.2 x).1 ((h x).2 hx'))
theorem adf{P:Program}{n:Fr}{env:Env}{ps:List Per}{hp:List Res}{d:Option Tmp}{ty:TypeId}{pos:String}{af:Array Edge}{gd:Option (Nat × Bool)}{α β:Type}{κ:α→Value}{ν:β→Value}{m:α→Option β}{kt:TypeId}[Inhabited α]
   {x:Operand} {T E:TypeId} {b:Nat} (i:Nat) (hT:P.underlying T=some (.map kt E)) (KO:eC P kt κ) (hx:ev env x=some (true,.map (some b))) (hi:hp[i]? = some (cr b κ ν m)) :
   Quiet P n ⟨d,.call ⟨.builtin .len,#[x],#[T]⟩,ty,pos,af,gd⟩ ⟨env,ps,hp⟩ (.int .i64 (qy m)):=fun w S fp a hst he hn=>by
 have h1:=he.val hx rfl
 obtain ⟨⟨es,clock,hb,hes,_⟩,hF⟩:=hst.res i _ hi
 have hT':P.underlying T=some (.map (P.mapKeyOf T) (P.mapElemOf T)):=by rw [hT];unfold Program.mapKeyOf Program.mapElemOf;rw [hT]
 have hrun:=run_len_map (P:=P) (w:=w) T ty b es clock hT' hb
 obtain ⟨f,hf⟩:∃ f:MapEntry→α,∀ e∈es.toList,e.key=κ (f e)∧(m (f e)).isSome=true:=by
   have:∀ e:MapEntry,∃ a:α,e∈es.toList→e.key=κ a∧(m a).isSome=true:=fun e=>by
     by_cases he:e∈es.toList
     · obtain ⟨a,v,h1,_,h3⟩:=hes.of e he
       exact ⟨a,fun _=>⟨h1,by rw [h3];rfl⟩⟩
     · exact ⟨default,fun h=>absurd h he⟩
   exact ⟨fun e=>(this e).choose,fun e he=>(this e).choose_spec he⟩
 have hc:qy m=es.size:=by
   rw [tF (ks:=es.toList.map f)]
   · simp
   · show List.Pairwise _ _
     rw [List.pairwise_map]
     refine hes.apart.imp_of_mem fun ha hb h e=>h ?_
     rw [(hf _ ha).1,(hf _ hb).1,e]
   · intro a
     rw [List.mem_map]
     constructor
     · intro h
       obtain ⟨v,hv⟩:=Option.isSome_iff_exists.1 h
       obtain ⟨e,he,h2,_⟩:=hes.mem a v hv
       exact ⟨e,he,KO.inj _ _ ((hf e he).1.symm.trans h2)⟩
     · rintro ⟨e,he,rfl⟩;exact (hf e he).2
 have:(execOp a.eval ⟨d,.call ⟨.builtin .len,#[x],#[T]⟩,ty,pos,af,gd⟩).run P w=.ok (.value (.int .i64 (qy m))) w:=by
   have e:(execOp a.eval ⟨d,.call ⟨.builtin .len,#[x],#[T]⟩,ty,pos,af,gd⟩)=(Builtin.len_ #[T] ty (#[x].map a.eval)).bind fun r=>Sem.pure (Next.value r):=rfl
   rw [e,show #[x].map a.eval = #[.map (some b)] by simp [h1],Sem.run_bind',hrun,hc];rfl
 rw [this];exact bB _ _
end Go.Sy

namespace Go.Lv
open Go
theorem lB(k:Nat)(c:UInt8)(l:List UInt8):ry (k+1) (c::l)=if k=0∧1<c.toNat then none else if c.toNat<128 then (if c.toNat=0∧k<9 then none else some (c.toNat,l)) else (ry k l).map fun p=>(c.toNat % 128+128*p.1,p.2):=rfl
structure RdI (r:List UInt8) (i acc:Nat):Prop where
 le:i≤r.length
 i9:i≤10
 lt:acc<128 ^ i
 eq:ry 10 r=(ry (10-i) (r.drop i)).map fun p=>(acc+128 ^ i*p.1,p.2)
theorem RdI.start(r:List UInt8):RdI r 0 0:=⟨Nat.zero_le _,by decide,by decide,by simp⟩
section
variable {r:List UInt8} {i acc:Nat} {u:UInt8}
theorem RdI.cons(h:RdI r i acc)(hu:r[i]? = some u)(hi:i<10):ry 10 r=(ry (9-i+1) (u::r.drop (i+1))).map fun p=>(acc+128 ^ i*p.1,p.2):=by
 have:=(List.getElem?_eq_some_iff.1 hu)
 obtain ⟨hl,he⟩:=this
 rw [h.eq,show 10-i=9-i+1 by omega,List.drop_eq_getElem_cons hl,he]
theorem RdI.zero(h:RdI r i acc)(hu:r[i]? = some u)(hi:i<10)(h1:u.toNat=0)(h0:0<i):ry 10 r=none:=by
 rw [h.cons hu hi,lB,if_neg (by omega),if_pos (by omega),if_pos ⟨h1,by omega⟩];rfl
theorem RdI.last(h:RdI r i acc)(hu:r[i]? = some u)(hi:i<10)(h9:¬ (i=9∧1<u.toNat))(h1:u.toNat<128)(h0:¬ (u.toNat=0∧0<i)):ry 10 r=some (acc+128 ^ i*(u.toNat % 128),r.drop (i+1)):=by
 rw [h.cons hu hi,lB,if_neg (by omega),if_pos h1,if_neg (by omega),Option.map_some,Nat.mod_eq_of_lt h1]
theorem RdI.more(h:RdI r i acc)(hu:r[i]? = some u)(hi:i<10)(h9:¬ (i=9∧1<u.toNat))(h1:128≤u.toNat):RdI r (i+1) (acc+128 ^ i*(u.toNat % 128)):=by
 have hl:=(List.getElem?_eq_some_iff.1 hu).1
 refine ⟨hl,hi,?_,?_⟩
 · have h2:u.toNat % 128≤127:=by omega
   have h3:128 ^ i*(u.toNat % 128)≤128 ^ i*127:=Nat.mul_le_mul_left _ h2
   have:=h.lt
   rw [Nat.pow_succ];omega
 · rw [h.cons hu hi,lB,if_neg (by omega),if_neg (by omega),show 10-(i+1)=9-i by omega,Option.map_map]
   congr 1
   funext p
   simp only [Function.comp,Prod.mk.injEq,and_true]
   rw [Nat.pow_succ,Nat.mul_add,Nat.add_assoc,Nat.mul_assoc]
end
structure WrI (m0:Nat) (l:List UInt8) (m:Nat):Prop where
 le:l.length≤9
 lt:m<2*128 ^ (9-l.length)
 eq:l++tk (10-l.length) m=adJ m0
theorem WrI.start{m:Nat}(h:m<18446744073709551616):WrI m [] m:=⟨Nat.zero_le _,Nat.lt_of_lt_of_le h (by decide),rfl⟩
theorem WrI.step{m0 m:Nat}{l:List UInt8}(h:WrI m0 l m)(hm:128≤m):WrI m0 (l++[UInt8.ofNat (m % 128+128)]) (m / 128):=by
 have hlt:=h.lt
 have hle:=h.le
 obtain ⟨k,hk⟩:∃ k,9-l.length=k+1:=by
   cases hh:9-l.length with
   | zero=>rw [hh] at hlt;omega
   | succ k=>exact ⟨k,rfl⟩
 have hk2:9-(l++[UInt8.ofNat (m % 128+128)]).length=k:=by simp;omega
 refine ⟨by simp;omega,?_,?_⟩
 · rw [hk2]
   rw [hk,Nat.pow_succ] at hlt
   exact Nat.div_lt_of_lt_mul (by omega)
 · rw [← h.eq]
   have e1:10-l.length=(k+1)+1:=by omega
   have e2:10-(l++[UInt8.ofNat (m % 128+128)]).length=k+1:=by simp;omega
   rw [e1,e2,List.append_assoc]
   show _=l++tk (k+1+1) m
   rw [show tk (k+1+1) m=UInt8.ofNat (m % 128+128)::tk (k+1) (m / 128) from by rw [tk,if_neg (by omega)]]
   rfl
theorem WrI.last{m0 m:Nat}{l:List UInt8}(h:WrI m0 l m)(hm:m<128):l++[UInt8.ofNat m]=adJ m0:=by
 have hle:=h.le
 rw [← h.eq,show 10-l.length=9-l.length+1 by omega,tk,if_pos hm]
end Go.Lv

namespace Go.Sy
theorem fD{P:Program}{n:Fr}{s:Sta}{d:Option Tmp}{ty:TypeId}{pos:String}{af:Array Edge}{gd:Option (Nat × Bool)}{v:Value}{f:FuncId}{g:Operand}{caps:List Value}(hf:cL P f=true){l:List Operand}{ts:Array TypeId}{vs:List Value}(hg:ev s.env g=some (true,.func (.func f) #[] caps.toArray))(hx:evs s.env l=some vs)
   (hc:∀ w S fp,St w S fp s.ps s.hp→Calls P f (vs++caps).toArray w fun e w'=>e=.returned v∧Go.Sy.Below w.heap.size w w') :
   Quiet P n ⟨d,.call ⟨.value g,l.toArray,ts⟩,ty,pos,af,gd⟩ s v:=fun w S fp a hst he hn=>by
 rw [lD hf (he.val hg rfl) (fP he l vs hx)]
 have:=hc w S fp hst
 rw [show (vs++caps).toArray=vs.toArray++caps.toArray by simp] at this
 exact this.mono fun e w' ⟨h1,h2⟩=>⟨v,h1,rfl,h2⟩
open RowKit in
theorem Con.quiet3{P:Program}{v:Value}{f:FuncId}{args:List Value}{p q t:Per}(h:Con P f args [p,q,t] [] fun u _ _=>u=v){w:World}{S:aW}{fp:Nat→aW}{ps':List Per}{hp:List Res}(hp1:p∈ps')(hq1:q∈ps')(ht1:t∈ps')(hst:St w S fp ps' hp) :
   Calls P f args.toArray w fun e w'=>e=.returned v∧Go.Sy.Below w.heap.size w w':=h.quiet (fun _ h=>by
     simp only [List.mem_cons,List.not_mem_nil,or_false] at h
     rcases h with rfl | rfl | rfl
     · exact hp1
     · exact hq1
     · exact ht1) hst
end Go.Sy
namespace Go.Proofs.YtfkcmbonmpcbfaaGreat
open Go.RowKit Go.Lp Go.Sy
def w6(n v:Int):Bool:=decide (v≥0) && decide (v<n)
def jN(n:Int)(a:cK):Bool := !w6 n a.from_ || !w6 n a.to_
def we(n:Int)(l:List cK):Bool:=(decide (n≥0) && decide (n≤262144)) && !l.any (jN n)
end Go.Proofs.YtfkcmbonmpcbfaaGreat

namespace Go.Lp
open Go.RowKit Go.Proofs.YtfkcmbonmpcbfaaGreat
end Go.Lp

namespace Go.Proofs.YtfkcmbonmpcbfaaGreat
open Go.RowKit Go.Lp Go.Sy
open Go.Proofs.Tryz
attribute [local irreducible] aL aB awp aC fwp Quiet
theorem tk160:tyk Tryz.prog 160=some (false,1):=by kernel_rfl
theorem sV(n v:Int)(bn:Nat):Con Tryz.prog 343 [.int .i64 v,.pointer (some ⟨bn,0,none⟩)] [At bn 0 [.v (.int .i64 n)]] [] fun r _ _=>r=.bool (w6 n v):=by
 refine Con.enter Tryz.func343 rfl (by simp [Tryz.ntmps343]) ?_
 show awp _ _ _ _ ⟨[(0,true,_),(1,true,_)],_,_⟩
 refine aSR (aA rfl (aNn (aSR (aM rfl (aU rfl (dY rfl rfl) (aM rfl (aG rfl rfl (fun hc=>ax rfl) (aG rfl rfl (fun hc=>aS (o:=0) tk3 rfl (.of (aF 0 rfl)) rfl) (aG rfl rfl (fun hc=>bd (aa rfl hc) (aa rfl hc)) (aU rfl (aT rfl rfl (fun h=>gt rfl h)) (aA rfl (aNn (aj ?_)))))))))))))
 refine jS [] [] rfl Tryz.results343 rfl ?_ (.inr rfl)
 rfl
abbrev w8(bn:Nat):Value:=.func (.func 343) #[] #[.pointer (some ⟨bn,0,none⟩)]
theorem uK(n:Int)(a:cK)(bn b5:Nat):Con Tryz.prog 345 [a.val,.pointer (some ⟨b5,0,none⟩)] [At b5 0 [.v (w8 bn)],At bn 0 [.v (.int .i64 n)]] [] fun r _ _=>r=.bool (jN n a):=by
 refine Con.enter Tryz.func345 rfl (by simp [Tryz.ntmps345]) ?_
 show awp _ _ _ _ ⟨[(0,true,_),(1,true,_)],_,_⟩
 refine aSR ?_
 refine aJ (q:=true) rfl (bC rfl rfl rfl (fun b0_0 => ?_))
 refine aHN ?_
 refine aA rfl (aNn (aSR (aU rfl (aS (o:=0) tk160 rfl (.of (aF 0 rfl)) rfl) ?_)))
 refine aU rfl (qFA (off:=0) rfl) ?_
 refine aU rfl (bS 0 tk3 rfl rfl rfl) ?_
 refine aU rfl (fD (by kernel_rfl) rfl rfl (fun w S fp hst=>(sV n _ bn).quiet1 (aF 1 rfl) hst)) ?_
 refine aU rfl (bX rfl) (aM rfl (aG rfl rfl (fun hc=>aS (o:=0) tk160 rfl (.of (aF 0 rfl)) rfl) ?_))
 refine aG rfl rfl (fun hc=>qFA (off:=1) rfl) ?_
 refine aG rfl rfl (fun hc=>bS 0 tk3 (aa rfl hc) rfl rfl) ?_
 refine aG rfl rfl (fun hc=>fD (by kernel_rfl) (aa rfl hc) (aD (aa rfl hc) rfl) (fun w S fp hst=>(sV n _ bn).quiet1 (aF 1 rfl) hst)) ?_
 refine aG rfl rfl (fun hc=>bX (aa rfl hc)) (aU rfl (cC rfl rfl (fun h=>gf rfl h)) (aA rfl (aNn (aj ?_))))
 refine jS [] [] rfl Tryz.results345 rfl ?_ (.inr rfl)
 rfl
theorem pF(n:Int)(l:Sl cK)(bn b5:Nat):Con Tryz.prog 375 [l.val,.func (.func 345) #[] #[.pointer (some ⟨b5,0,none⟩)]] [ShF cK.row l,At b5 0 [.v (w8 bn)],At bn 0 [.v (.int .i64 n)]] []
   fun r ps hp=>(ps=[]∧hp=[])∧∃ z:Int,r=.int .i64 z∧decide (z≥0)=l.l.any (jN n):=by
 refine Con.enter Tryz.func375 rfl (by simp [Tryz.ntmps375]) ?_
 show awp _ _ _ _ ⟨[(0,true,_),(1,true,_)],_,_⟩
 refine ct (.of (aF 0 rfl)) (fun hlen => ?_)
 refine aSR (aA rfl (aNs (aSR ?_)))
 refine aM rfl (aU rfl (aY Tryz.underlying354 rfl) (aM rfl (aNn (ao (aP [0,1,7,8] [2,1,0] [] (fun (k:Nat) s=>(k≤l.l.length∧(l.l.take k).any (jN n)=false)∧s=⟨[(0,true,l.val),(1,true,.func (.func 345) #[] #[.pointer (some ⟨b5,0,none⟩)]),(7,true,.int .i64 l.l.length),(8,true,.int .i64 k)],[ShF cK.row l,At b5 0 [.v (w8 bn)],At bn 0 [.v (.int .i64 n)]],[]⟩) (fun k=>l.l.length-k) rfl (⟨0,⟨Nat.zero_le _,rfl⟩,rfl⟩) ?_)))))
 rintro k s ⟨⟨hk,hno⟩,rfl⟩
 refine aSR (aU rfl (bd rfl rfl) (aNs ?_))
 refine ah _ rfl (fun h1 => ?_) (fun h1 => ?_)
 ·skip
  have hk':k<l.l.length:=by simpa using h1
  obtain ⟨a,ha⟩:∃ a,l.l[k]? = some a:=⟨l.l[k]'hk',by simp⟩
  refine ai (ak (aq (ao (aSR (aM rfl (aA rfl (aNn (aSR (aM rfl (aM rfl (aM rfl ?_)))))))))))
  refine gb true rfl rfl (fun _=>aZ Tryz.underlying354 tk356 rfl ((.of (aF 0 rfl))) rfl (aH ha) rfl rfl) (fun h=>absurd h (by decide)) (fun ⟨b4_3,o4_3⟩ => ?_)
  refine aU rfl (ei (o:=0) tk356 rfl (aF 0 rfl) rfl rfl) ?_
  refine aU rfl (fD (by kernel_rfl) rfl rfl (fun w S fp hst=>(uK n a bn b5).quiet2 (aF 2 rfl) (aF 3 rfl) hst)) ?_
  refine aNn ?_
  refine ah _ rfl (fun h2 => ?_) (fun h2 => ?_)
  ·skip
   refine aSR (aM rfl (aA rfl (aNn (aj (bF (aK (aK (bF (aK ?_)))))))))
   refine jS [] [] rfl Tryz.results375 rfl ?_ (.inr rfl)
   refine ⟨⟨rfl,rfl⟩,_,rfl,?_⟩
   rw [List.any_eq_true.2 ⟨a,List.mem_of_getElem? ha,h2⟩];simp
  ·skip
   refine ai (bb (ak (ae ?_)))
   refine aU rfl (aO rfl rfl (by omega)) ?_
   refine aM rfl (aNn ?_)
   refine ⟨[0,1,7,8],[2,1,0],[],rfl,?_⟩
   refine ⟨k+1,⟨⟨by omega,?_⟩,rfl⟩,by omega⟩
   rw [List.take_add_one,ha,List.any_append,hno];simpa using h2
 ·skip
  refine aQ (aR (aR (aX (ak (aSR (aA rfl (aNn (aj ?_))))))))
  refine jS [] [] rfl Tryz.results375 rfl ?_ (.inr rfl)
  refine ⟨⟨rfl,rfl⟩,_,rfl,?_⟩
  rw [List.take_of_length_le (by simpa using h1)] at hno
  rw [hno];rfl
theorem rh(n:Int)(l:Sl cK)(bn b5:Nat):Con Tryz.prog 344 [l.val,.func (.func 345) #[] #[.pointer (some ⟨b5,0,none⟩)]] [ShF cK.row l,At b5 0 [.v (w8 bn)],At bn 0 [.v (.int .i64 n)]] []
   fun r _ _=>r=.bool (l.l.any (jN n)):=by
 refine Con.enter Tryz.func344 rfl (by simp [Tryz.ntmps344]) ?_
 show awp _ _ _ _ ⟨[(0,true,_),(1,true,_)],_,_⟩
 refine aSR (aA rfl (aNn (aSR (aM rfl (aM rfl ?_)))))
 refine aJ (q:=true) rfl (aah [2,1,0] [] (by kernel_rfl) rfl rfl rfl rfl (pF n l bn b5) ?_)
 rintro _ _ _ ⟨⟨rfl,rfl⟩,z,rfl,hz⟩
 refine aST ?_
 refine aU rfl (dY rfl rfl) (aA rfl (aNn (aj ?_)))
 refine jS [] [] rfl Tryz.results344 rfl ?_ (.inr rfl)
 rw [hz]
theorem qe(n:Int)(l:Sl cK):Con Tryz.prog 304 [.int .i64 n,l.val] [ShF cK.row l] [] fun r _ _=>r=.bool (we n l.l):=by
 refine Con.enter Tryz.func304 rfl (by simp [Tryz.ntmps304]) ?_
 show awp _ _ _ _ ⟨[(0,true,_),(1,true,_)],_,_⟩
 refine aSR ?_
 refine aJ (q:=true) rfl (bC rfl rfl rfl (fun b0_0 => ?_))
 refine aHN ?_
 refine aA rfl (aNs (bj 0 rfl rfl ?_))
 show awp _ _ _ _ ⟨_,At _ 0 _::_,_⟩
 refine ae (aU rfl (dy (l:=[.tmp 2]) rfl) ?_)
 refine aJ (q:=true) rfl (bg (zs:=[.nilFunc]) (by kernel_rfl) rfl (fun b1_1 => ?_))
 refine aHN ?_
 refine aJ rfl (aV 1 tk160 rfl rfl rfl rfl ?_)
 refine aHK ?_
 refine aNs (bj 1 rfl rfl ?_)
 show awp _ _ _ _ ⟨_,At _ 0 _::_,_⟩
 refine ae (aU rfl (aS (o:=0) tk3 rfl (.of (aF 1 rfl)) rfl) (aU rfl (dY rfl rfl) (aM rfl (aG rfl rfl (fun hc=>aS (o:=0) tk3 rfl (.of (aF 1 rfl)) rfl) (aG rfl rfl (fun hc=>di (aa rfl hc) rfl) (aU rfl (aT rfl rfl (fun h=>gt rfl h)) (aM rfl (aG rfl rfl (fun hc=>ax rfl) (aG rfl rfl (fun hc=>dy (l:=[.tmp 5]) rfl) ?_)))))))))
 refine aG rfl rfl (fun hc=>dX (by kernel_rfl) (aD (aa rfl hc) (aD (aa rfl hc) rfl)) (fun w S fp hst=>(rh n l b0_0 b1_1).quiet3 (aF 2 rfl) (aF 0 rfl) (aF 1 rfl) hst)) ?_
 refine aG rfl rfl (fun hc=>bX (aa rfl hc)) (aU rfl (aT rfl rfl (fun h=>gt rfl h)) (aA rfl (aNn (aj ?_))))
 refine jS [] [] rfl Tryz.results304 rfl ?_ (.inr rfl)
 rfl
end Go.Proofs.YtfkcmbonmpcbfaaGreat

namespace Go.Sy
open Go.RowKit Go.Lp
def YN{β:Type}(v:β→Value)(Φ:β→Prop):Value→List Per→List Res→Prop:=fun r ps hp=>(ps=[]∧hp=[])∧∃ b,r=v b∧Φ b
section
variable {P:Program} {n:Fr} {ops:Array Oper} {Q:Exit→Sta→Prop} {env:Env} {ps:List Per} {hp:List Res} {ty:TypeId} {pos:String} {af:Array Edge} {gd:Option (Nat × Bool)} {rest:List Oper} {β:Type} {v:β→Value} {Φ:β→Prop}
theorem iP{t:Nat}{f:FuncId}{g:Operand}{caps:List Value}{l:List Operand}{ts:Array TypeId}{vs:List Value}(lp:List Nat)(b0:β)(hf:cL P f=true)(c:Bool)(hc:guardOf ops env ⟨some t,.call ⟨.value g,l.toArray,ts⟩,ty,pos,af,gd⟩=some c)(ht:fits n.size (some t)=true)
   (hgv:c=true→ev env g=some (true,.func (.func f) #[] caps.toArray)) (hx:c=true→evs env l=some vs) (hcon:c=true→Con P f (vs++caps) (dw ps lp) [] (YN v Φ))
   (h:∀ b,(c=true→Φ b)→aL P n ops Q rest ⟨(t,c,v b)::env,ps,hp⟩):aL P n ops Q (⟨some t,.call ⟨.value g,l.toArray,ts⟩,ty,pos,af,gd⟩::rest) ⟨env,ps,hp⟩:=by
 cases c with
 | true =>
   refine aJ (q:=true) hc (fO lp [] hf (hgv rfl) (hx rfl) ht rfl rfl (hcon rfl) ?_)
   rintro _ _ _ ⟨⟨rfl,rfl⟩,b,rfl,hb⟩
   refine iL ?_ (h b fun _=>hb)
   apply List.ext_getElem?;intro i;rw [i7]
   by_cases hi:i<hp.length
   · rw [if_pos hi];rfl
   · rw [if_neg hi,List.getElem?_eq_none (by simp),List.getElem?_eq_none (by omega)]
 | false=>exact ng (v:=v b0) false hc ht (fun h=>by cases h) (h b0 fun h=>by cases h)
end
end Go.Sy

namespace Go.Proofs.YtfkcmbonmpcbfaaGreat
open Go.RowKit Go.Lp Go.Sy
end Go.Proofs.YtfkcmbonmpcbfaaGreat

namespace Go.Sy
open Go.RowKit Go.Lp
theorem iQ{P:Program}{n:Fr}{ops:Array Oper}{env:Env}{ps:List Per}{hp:List Res}{Q:Exit→Sta→Prop}{rest:List Oper}{v:Value}{T:TypeId}{sz:Nat}{rows:List (List D)}(i:Nat)(hi:hp[i]? = some (az v T sz rows))(h:aL P n ops Q rest ⟨env,Sh v (.sl rows)::ps,hp.set i emp⟩):aL P n ops Q rest ⟨env,ps,hp⟩:=fun w S fp a hst he hn hd=>by
 have hil:=(List.getElem?_eq_some_iff.1 hi).1
 have h1:=pe hst i hi
 have htot:∀ b,tot (fun k=>if k=i then (fun _=>False) else fp k) (hp.set i emp).length b→tot fp hp.length b:=fun b ⟨j,hj,hb⟩=>by
   dsimp only at hb
   by_cases hji:j=i
   · rw [if_pos hji] at hb;exact hb.elim
   · rw [if_neg hji] at hb;exact ⟨j,by simpa using hj,hb⟩
 have hE:Evo w S (tot fp hp.length) w (fun b=>S b∨fp i b):=⟨rfl,rfl,rfl,Nat.le_refl _,Nat.le_refl _,fun _ _ _=>rfl,fun _ h=>.inl h,fun b hb=>hb.elim .inl fun h=>.inr (.inl ⟨i,hil,h⟩)⟩
 exact eO (fun e a2 w2 hp=>hp.trans hE (fun b hb=>.inl (htot b hb))) _ _ _ (h w _ _ a h1 he hn hd)
section
variable {P:Program} {n:Fr} {ops:Array Oper} {env:Env} {ps:List Per} {hp:List Res} {Q:Exit→Sta→Prop} {rest:List Oper} {ty:TypeId} {pos:String} {af:Array Edge} {gd:Option (Nat × Bool)}
theorem zG{V:List Nat}{k:Nat}{L:Array Bool}{R:Res}(h:aB P n ops V Q k L ⟨env,ps,hp⟩):aB P n ops V Q k L ⟨env,ps,hp++[R]⟩:=fun w S fp a hst he hn hd=>by
 have hst':St w S fp ps hp:=⟨hst.per,fun i R' hR=>hst.res i R' (by rw [List.getElem?_append_left (List.getElem?_eq_some_iff.1 hR).1];exact hR),fun i hi=>hst.lt i (by simp;omega),fun i j hi hj=>hst.dj i j (by simp;omega) (by simp;omega),hst.slt⟩
 have hE:Evo w S (tot fp (hp++[R]).length) w S:=Evo.refl _ _ _
 exact kV (fun a2 w2 hp2=>hp2.trans hE (fun b ⟨j,hj,hb⟩=>.inl ⟨j,by have hj2:j<hp.length:=hj;simp;omega,hb⟩)) _ _ _ _ (h w S fp a hst' he hn hd)
theorem xB{V:List Nat}{k:Nat}{L:Array Bool}{v:Value}{T:TypeId}{sz:Nat}{rows:List (List D)}(i:Nat)(hi:hp[i]? = some (az v T sz rows))(h:aB P n ops V Q k L ⟨env,Sh v (.sl rows)::ps,hp.set i emp⟩):aB P n ops V Q k L ⟨env,ps,hp⟩:=fun w S fp a hst he hn hd=>by
 have hil:=(List.getElem?_eq_some_iff.1 hi).1
 have h1:=pe hst i hi
 have htot:∀ b,tot (fun k=>if k=i then (fun _=>False) else fp k) (hp.set i emp).length b→tot fp hp.length b:=fun b ⟨j,hj,hb⟩=>by
   dsimp only at hb
   by_cases hji:j=i
   · rw [if_pos hji] at hb;exact hb.elim
   · rw [if_neg hji] at hb;exact ⟨j,by simpa using hj,hb⟩
 have hE:Evo w S (tot fp hp.length) w (fun b=>S b∨fp i b):=⟨rfl,rfl,rfl,Nat.le_refl _,Nat.le_refl _,fun _ _ _=>rfl,fun _ h=>.inl h,fun b hb=>hb.elim .inl fun h=>.inr (.inl ⟨i,hil,h⟩)⟩
 exact kV (fun a2 w2 hp=>hp.trans hE (fun b hb=>.inl (htot b hb))) _ _ _ _ (h w _ _ a h1 he hn hd)
theorem abB{V:List Nat}{k:Nat}{L:Array Bool}{t:Nat}{T E:TypeId}{len:Nat}{l:List (Nat × Operand)}{xs:List Operand}{vs zs cs:List Value}{rows:List (List D)}(i:Nat)(hi:ops[i]? = some ⟨some t,.buildSlice T len l.toArray,ty,pos,af,gd⟩)(hr:Region.ready .any ops L=[i])(hel:elB P T E zs.length=true)(hz:dL P E=some zs)(h0:0<zs.length)
   (hlen:0<len) (hsm:len*zs.length≤16777216) (hxs:l.map (·.2)=xs) (hc:guardOf ops env ⟨some t,.buildSlice T len l.toArray,ty,pos,af,gd⟩=some true) (hx:evs env xs=some vs) (hb:bld (fun i=>some (i*zs.length,zs.length)) (jF len zs) ((l.map (·.1)).zip vs)=some cs) (hrc:RCs ps zs.length cs rows) (hrl:rows.length=len) (ht:fits n.size (some t)=true)
   (h:∀ ad,aB P n ops V Q k (L.setIfInBounds i true) ⟨(t,true,.slice ad len len)::env,Sh (.slice ad len len) (.sl rows)::ps,hp⟩):aB P n ops V Q (k+1) L ⟨env,ps,hp⟩:=by
 refine iO (q:=true) i hi hr rfl hc (acI hel hz h0 hlen hsm hxs hx hb hrc hrl ht fun ad => ?_)
 refine xB hp.length (by rw [List.getElem?_append_right (Nat.le_refl _),Nat.sub_self];rfl) ?_
 rw [List.set_append_right _ _ (Nat.le_refl _),Nat.sub_self]
 exact zG (h ad)
end
end Go.Sy

namespace Go.Sy
open Go.RowKit
section
variable {P:Program} {f:FuncId} {fn:Func} {c:Code} {ps:List Per} {hp:List Res} {R:Value→List Per→List Res→Prop} {v0 v1 v2 v3 v4 v5 v6 v7:Value}
theorem EN1(hf:P.funcs[f]? = some fn)(hb:fn.body=some c)(h:awp P ⟨fn.ntmps,none,[]⟩ c (ff P fn R) ⟨[(0,true,v0)],ps,hp⟩)(hl:Nat.ble 1 fn.ntmps=true:=by kernel_rfl):Con P f [v0] ps hp R:=Con.enter hf hb (Nat.le_of_ble_eq_true hl) h
theorem EN2(hf:P.funcs[f]? = some fn)(hb:fn.body=some c)(h:awp P ⟨fn.ntmps,none,[]⟩ c (ff P fn R) ⟨[(0,true,v0),(1,true,v1)],ps,hp⟩)(hl:Nat.ble 2 fn.ntmps=true:=by kernel_rfl):Con P f [v0,v1] ps hp R:=Con.enter hf hb (Nat.le_of_ble_eq_true hl) h
theorem EN3(hf:P.funcs[f]? = some fn)(hb:fn.body=some c)(h:awp P ⟨fn.ntmps,none,[]⟩ c (ff P fn R) ⟨[(0,true,v0),(1,true,v1),(2,true,v2)],ps,hp⟩)(hl:Nat.ble 3 fn.ntmps=true:=by kernel_rfl):Con P f [v0,v1,v2] ps hp R:=Con.enter hf hb (Nat.le_of_ble_eq_true hl) h
theorem EN4(hf:P.funcs[f]? = some fn)(hb:fn.body=some c)(h:awp P ⟨fn.ntmps,none,[]⟩ c (ff P fn R) ⟨[(0,true,v0),(1,true,v1),(2,true,v2),(3,true,v3)],ps,hp⟩)(hl:Nat.ble 4 fn.ntmps=true:=by kernel_rfl):Con P f [v0,v1,v2,v3] ps hp R:=Con.enter hf hb (Nat.le_of_ble_eq_true hl) h
theorem EN5(hf:P.funcs[f]? = some fn)(hb:fn.body=some c)(h:awp P ⟨fn.ntmps,none,[]⟩ c (ff P fn R) ⟨[(0,true,v0),(1,true,v1),(2,true,v2),(3,true,v3),(4,true,v4)],ps,hp⟩)(hl:Nat.ble 5 fn.ntmps=true:=by kernel_rfl):Con P f [v0,v1,v2,v3,v4] ps hp R:=Con.enter hf hb (Nat.le_of_ble_eq_true hl) h
theorem EN6(hf:P.funcs[f]? = some fn)(hb:fn.body=some c)(h:awp P ⟨fn.ntmps,none,[]⟩ c (ff P fn R) ⟨[(0,true,v0),(1,true,v1),(2,true,v2),(3,true,v3),(4,true,v4),(5,true,v5)],ps,hp⟩)(hl:Nat.ble 6 fn.ntmps=true:=by kernel_rfl):Con P f [v0,v1,v2,v3,v4,v5] ps hp R:=Con.enter hf hb (Nat.le_of_ble_eq_true hl) h
theorem EN7(hf:P.funcs[f]? = some fn)(hb:fn.body=some c)(h:awp P ⟨fn.ntmps,none,[]⟩ c (ff P fn R) ⟨[(0,true,v0),(1,true,v1),(2,true,v2),(3,true,v3),(4,true,v4),(5,true,v5),(6,true,v6)],ps,hp⟩)(hl:Nat.ble 7 fn.ntmps=true:=by kernel_rfl):Con P f [v0,v1,v2,v3,v4,v5,v6] ps hp R:=Con.enter hf hb (Nat.le_of_ble_eq_true hl) h
theorem EN8(hf:P.funcs[f]? = some fn)(hb:fn.body=some c)(h:awp P ⟨fn.ntmps,none,[]⟩ c (ff P fn R) ⟨[(0,true,v0),(1,true,v1),(2,true,v2),(3,true,v3),(4,true,v4),(5,true,v5),(6,true,v6),(7,true,v7)],ps,hp⟩)(hl:Nat.ble 8 fn.ntmps=true:=by kernel_rfl):Con P f [v0,v1,v2,v3,v4,v5,v6,v7] ps hp R:=Con.enter hf hb (Nat.le_of_ble_eq_true hl) h
end
section
variable {P:Program} {n:Fr} {ops:Array Oper} {Q:Exit→Sta→Prop} {s:Sta} {K:Sta→Prop}
theorem DR{l:List Oper}{id:Nat}(V:List Nat)(m:Nat)(h:aB P n l.toArray V Q m (Array.replicate m false) s)(hl:l.length=m:=by rfl)(hm:P.follows .mixedOrders=true:=by kernel_rfl):awp P n (.region id l.toArray true) Q s:=by
 subst hl;exact xD V hm h
theorem DC{l:List Oper}{id:Nat}(V W Z:List Nat)(m:Nat)(h:aC P n l.toArray V W Z Q m (Array.replicate m false) s)(hl:l.length=m:=by rfl)(hm:P.follows .mixedOrders=true:=by kernel_rfl):awp P n (.region id l.toArray true) Q s:=by
 subst hl;exact uC V W Z hm h
section
variable {fn:Func} {R:Value→List Per→List Res→Prop}
theorem FZ1{t:Nat}{v:Value}(lh:List Nat)(hr:fn.results = #[.tmp t])(hl:look s.env t=some (true,v))(h:R v (dw s.ps []) (bH s.hp lh))(ok:okH s.hp lh=true:=by rfl):ff P fn R .ret s:=jS [] lh ok hr hl h (.inr rfl)
theorem FZ2{t u:Nat}{v v':Value}(lh:List Nat)(hr:fn.results = #[.tmp t,.tmp u])(hl:look s.env t=some (true,v))(hl':look s.env u=some (true,v'))(h:R (.tuple #[v,v']) (dw s.ps []) (bH s.hp lh))(ok:okH s.hp lh=true:=by rfl):ff P fn R .ret s:=aea [] lh ok hr hl hl' h (.inr rfl)
theorem FZ0(lh:List Nat)(hr:fn.results = #[])(h:R (.tuple #[]) (dw s.ps []) (bH s.hp lh))(ok:okH s.hp lh=true:=by rfl):ff P fn R .normal s:=yD [] lh ok hr h (.inl rfl)
end
variable {env:Env} {ps ps':List Per} {hp hp':List Res} {d:Nat} {op:Op} {ty:TypeId} {pos:String} {af:Array Edge} {gd:Option (Nat × Bool)} {rest:List Oper} {v:Value} {x:Operand} {o:Oper} {V W Z:List Nat} {k:Nat} {L L':Array Bool} {T:TypeId} {j b p u:Nat} {c:Bool} {U:TypeId} {ag:Bool} {m:Nat} {cs:List Value} {row:List D}
theorem CST(h:aC P n ops V W Z Q k L' ⟨env,ps',hp'⟩)(hL:L=L':=by (try simp only [nO,nK,nL]);rfl)(h1:ps=ps':=by (try simp only [nM,nN]);rfl)(h0:hp=hp':=by (try simp only [bH,nQ,nR,fC,place,Nat.reduceBEq,if_true,if_false,reduceIte,Nat.reduceAdd,nW]);rfl):aC P n ops V W Z Q k L ⟨env,ps,hp⟩:=adG hL h1 h0 h
theorem VO(i off:Nat)(hi:ops[i]? = some ⟨some d,.fieldAddr T x j,ty,pos,af,gd⟩)(h:okU ops env n.size ⟨some d,.fieldAddr T x j,ty,pos,af,gd⟩=true)(hx:ev env x=some (true,.pointer (some ⟨b,u,none⟩)))
   (hK:aB P n ops V Q k (L.setIfInBounds i true) ⟨(d,true,.pointer (some ⟨b,u+off,none⟩))::env,ps,hp⟩) (h0:lF P T j=some off:=by kernel_rfl) (hf:dg ops V L i=true:=by kernel_rfl):aB P n ops V Q (k+1) L ⟨env,ps,hp⟩:=bV i hi h (qFA hx h0) hK hf
theorem VN{a:Addr}(i:Nat)(hi:ops[i]? = some ⟨some d,.nilCheck x,ty,pos,af,gd⟩)(h:okU ops env n.size ⟨some d,.nilCheck x,ty,pos,af,gd⟩=true)(hx:ev env x=some (true,.pointer (some a)))
   (hK:aB P n ops V Q k (L.setIfInBounds i true) ⟨(d,true,.pointer (some a))::env,ps,hp⟩) (hf:dg ops V L i=true:=by kernel_rfl):aB P n ops V Q (k+1) L ⟨env,ps,hp⟩:=bV i hi h (b8 hx) hK hf
theorem VM(i:Nat)(hi:ops[i]? = some ⟨some d,.move x,ty,pos,af,gd⟩)(h:mvU ops env n.size ⟨some d,.move x,ty,pos,af,gd⟩ x=some v)
   (hK:aB P n ops V Q k (L.setIfInBounds i true) ⟨(d,true,v)::env,ps,hp⟩) (hf:dg ops V L i=true:=by kernel_rfl):aB P n ops V Q (k+1) L ⟨env,ps,hp⟩:=bV i hi (qA h).1 (ax (qA h).2) hK hf
theorem VD(i w:Nat)(hk:tyk P U=some (ag,m))(q:Nat)(hi:ops[i]? = some ⟨some d,.load U x,ty,pos,af,gd⟩)(h:okU ops env n.size ⟨some d,.load U x,ty,pos,af,gd⟩=true)(hx:ev env x=some (true,.pointer (some ⟨b,p+w,none⟩)))(hq:ps[q]? = some (At b p row))(hv:rdD ag m row w=some v)
   (hK:aB P n ops V Q k (L.setIfInBounds i true) ⟨(d,true,v)::env,ps,hp⟩) (hf:dg ops V L i=true:=by kernel_rfl):aB P n ops V Q (k+1) L ⟨env,ps,hp⟩:=bV i hi h (aS (o:=w) hk hx (.of (aF q hq)) hv) hK hf
theorem VL(i w:Nat)(hk:tyk P U=some (ag,m))(hi:ops[i]? = some ⟨some d,.load U x,ty,pos,af,gd⟩)(h:okU ops env n.size ⟨some d,.load U x,ty,pos,af,gd⟩=true)(hx:ev env x=some (true,.pointer (some ⟨b,u,none⟩)))(hq:hp[w]? = some (Box b T cs))(hv:rdC ag m cs u=some v)
   (hK:aB P n ops V Q k (L.setIfInBounds i true) ⟨(d,true,v)::env,ps,hp⟩) (hf:dg ops V L i=true:=by kernel_rfl):aB P n ops V Q (k+1) L ⟨env,ps,hp⟩:=bV i hi h (bS w hk hx hq hv) hK hf
theorem UO(off:Nat)(h:okU ops env n.size ⟨some d,.fieldAddr T x j,ty,pos,af,gd⟩=true)(hx:ev env x=some (true,.pointer (some ⟨b,u,none⟩)))(hK:aL P n ops Q rest ⟨(d,true,.pointer (some ⟨b,u+off,none⟩))::env,ps,hp⟩)(h0:lF P T j=some off:=by kernel_rfl) :
   aL P n ops Q (⟨some d,.fieldAddr T x j,ty,pos,af,gd⟩::rest) ⟨env,ps,hp⟩:=aU h (qFA hx h0) hK
theorem UN{a:Addr}(h:okU ops env n.size ⟨some d,.nilCheck x,ty,pos,af,gd⟩=true)(hx:ev env x=some (true,.pointer (some a)))(hK:aL P n ops Q rest ⟨(d,true,.pointer (some a))::env,ps,hp⟩) :
   aL P n ops Q (⟨some d,.nilCheck x,ty,pos,af,gd⟩::rest) ⟨env,ps,hp⟩:=aU h (b8 hx) hK
theorem UL(w:Nat)(hk:tyk P U=some (ag,m))(h:okU ops env n.size ⟨some d,.load U x,ty,pos,af,gd⟩=true)(hx:ev env x=some (true,.pointer (some ⟨b,u,none⟩)))(hq:hp[w]? = some (Box b T cs))(hv:rdC ag m cs u=some v)
   (hK:aL P n ops Q rest ⟨(d,true,v)::env,ps,hp⟩):aL P n ops Q (⟨some d,.load U x,ty,pos,af,gd⟩::rest) ⟨env,ps,hp⟩:=aU h (bS w hk hx hq hv) hK
theorem UD(w:Nat)(hk:tyk P U=some (ag,m))(q:Nat)(h:okU ops env n.size ⟨some d,.load U x,ty,pos,af,gd⟩=true)(hx:ev env x=some (true,.pointer (some ⟨b,p+w,none⟩)))(hq:ps[q]? = some (At b p row))(hv:rdD ag m row w=some v)
   (hK:aL P n ops Q rest ⟨(d,true,v)::env,ps,hp⟩):aL P n ops Q (⟨some d,.load U x,ty,pos,af,gd⟩::rest) ⟨env,ps,hp⟩:=aU h (aS (o:=w) hk hx (.of (aF q hq)) hv) hK
theorem GO(off:Nat)(hc:guardOf ops env ⟨some d,.fieldAddr T x j,ty,pos,af,gd⟩=some c)(hd:fits n.size (some d)=true)(hx:ev env x=some (true,.pointer (some ⟨b,u,none⟩)))(hK:aL P n ops Q rest ⟨(d,c,.pointer (some ⟨b,u+off,none⟩))::env,ps,hp⟩)(h0:lF P T j=some off:=by kernel_rfl) :
   aL P n ops Q (⟨some d,.fieldAddr T x j,ty,pos,af,gd⟩::rest) ⟨env,ps,hp⟩:=aG hc hd (fun _=>qFA hx h0) hK
theorem GL(w:Nat)(hk:tyk P U=some (ag,m))(hc:guardOf ops env ⟨some d,.load U x,ty,pos,af,gd⟩=some c)(hd:fits n.size (some d)=true)(hx:ev env x=some (c,.pointer (some ⟨b,u,none⟩)))(hq:hp[w]? = some (Box b T cs))(hv:rdC ag m cs u=some v)
   (hK:aL P n ops Q rest ⟨(d,c,v)::env,ps,hp⟩):aL P n ops Q (⟨some d,.load U x,ty,pos,af,gd⟩::rest) ⟨env,ps,hp⟩:=aG hc hd (fun hc=>bS w hk (aa hx hc) hq hv) hK
theorem CF(i:Nat)(hi:ops[i]? = some ⟨some d,op,ty,pos,af,gd⟩)(hc:guardOf ops env ⟨some d,op,ty,pos,af,gd⟩=some true)(hd:fits n (some d)=true)(hq:Quiet P n ⟨some d,op,ty,pos,af,gd⟩ ⟨env,ps,[]⟩ v)
   (h:aC P n ops V W Z Q k (L.setIfInBounds i true) ⟨(d,true,v)::env,ps,hp⟩) (hf:eN ops [] L i=true:=by kernel_rfl):aC P n ops V W Z Q (k+1) L ⟨env,ps,hp⟩:=uz i hi hf true hc hd (fun _=>hq) h
theorem CQ(i:Nat)(hi:ops[i]? = some ⟨some d,op,ty,pos,af,gd⟩)(hc:guardOf ops env ⟨some d,op,ty,pos,af,gd⟩=some true)(hd:fits n (some d)=true)(hq:Quiet P n ⟨some d,op,ty,pos,af,gd⟩ ⟨env,ps,hp⟩ v)
   (h:aC P n ops V W Z Q k (L.setIfInBounds i true) ⟨(d,true,v)::env,ps,hp⟩) (hf:eN ops V L i=true:=by kernel_rfl):aC P n ops V W Z Q (k+1) L ⟨env,ps,hp⟩:=ad7 i hi hf true hc hd (fun _=>hq) h
theorem VE(i:Nat)(hi:ops[i]? = some o)(hc:guardOf ops s.env o=some true)(h:Eff P n o s false (aB P n ops V Q k (L.setIfInBounds i true)))(hr:Region.ready .any ops L=[i]:=by kernel_rfl)(hq:V.contains i=true:=by rfl):aB P n ops V Q (k+1) L s:=iO (q:=false) i hi hr hq hc h
theorem VB{t:Nat}{T E:TypeId}{len:Nat}{l:List (Nat × Operand)}{xs:List Operand}{vs zs cs:List Value}{rows:List (List D)}(i:Nat)(hi:ops[i]? = some ⟨some t,.buildSlice T len l.toArray,ty,pos,af,gd⟩)(hel:elB P T E zs.length=true)(hxs:l.map (·.2)=xs)(hc:guardOf ops env ⟨some t,.buildSlice T len l.toArray,ty,pos,af,gd⟩=some true)(hx:evs env xs=some vs)
   (hb:bld (fun i=>some (i*zs.length,zs.length)) (jF len zs) ((l.map (·.1)).zip vs)=some cs) (hrc:RCs ps zs.length cs rows) (hrl:rows.length=len) (ht:fits n.size (some t)=true)
   (h:∀ ad,aB P n ops V Q k (L.setIfInBounds i true) ⟨(t,true,.slice ad len len)::env,Sh (.slice ad len len) (.sl rows)::ps,hp⟩) (hr:Region.ready .any ops L=[i]:=by kernel_rfl) (hz:dL P E=some zs:=by kernel_rfl) (h0:0<zs.length:=by decide) (hlen:0<len:=by decide) (hsm:len*zs.length≤16777216:=by decide) :
   aB P n ops V Q (k+1) L ⟨env,ps,hp⟩:=abB i hi hr hel hz h0 hlen hsm hxs hc hx hb hrc hrl ht h
theorem WL{q:Bool}{t:Nat}{T E:TypeId}{len:Nat}{l:List (Nat × Operand)}{xs:List Operand}{vs zs cs:List Value}{rows:List (List D)}(hel:elB P T E zs.length=true)(hxs:l.map (·.2)=xs)(hx:evs env xs=some vs)(hb:bld (fun i=>some (i*zs.length,zs.length)) (jF len zs) ((l.map (·.1)).zip vs)=some cs)(hr:RCs ps zs.length cs rows)(hrl:rows.length=len)(ht:fits n (some t)=true)
   (hK:∀ ad,K ⟨(t,true,.slice ad len len)::env,ps,hp++[az (.slice ad len len) E zs.length rows]⟩) (hz:dL P E=some zs:=by kernel_rfl) (h0:0<zs.length:=by decide) (hlen:0<len:=by decide) (hsm:len*zs.length≤16777216:=by decide) :
   Eff P n ⟨some t,.buildSlice T len l.toArray,ty,pos,af,gd⟩ ⟨env,ps,hp⟩ q K:=acI hel hz h0 hlen hsm hxs hx hb hr hrl ht hK
theorem QC{f:FuncId}{l:List Operand}{ts:Array TypeId}{vs:List Value}(hx:evs s.env l=some vs)(hc:∀ w S fp,St w S fp s.ps s.hp→Calls P f vs.toArray w fun e w'=>e=.returned v∧Below w.heap.size w w')(hf:cL P f=true:=by kernel_rfl) :
   Quiet P n ⟨some d,.call ⟨.value (.func f),l.toArray,ts⟩,ty,pos,af,gd⟩ s v:=dX hf hx hc
theorem Q0{f:FuncId}{l:List Operand}{ts:Array TypeId}{vs:List Value}(hx:evs s.env l=some vs)(h:Con P f vs [] [] fun u _ _=>u=v)(hf:cL P f=true:=by kernel_rfl) :
   Quiet P n ⟨some d,.call ⟨.value (.func f),l.toArray,ts⟩,ty,pos,af,gd⟩ s v:=dX hf hx fun _ _ _ hst=>h.quiet0 hst
theorem Q1{f:FuncId}{l:List Operand}{ts:Array TypeId}{vs:List Value}{r:Per}(hx:evs s.env l=some vs)(h:Con P f vs [r] [] fun u _ _=>u=v)(q:Nat)(hq:s.ps[q]? = some r)(hf:cL P f=true:=by kernel_rfl) :
   Quiet P n ⟨some d,.call ⟨.value (.func f),l.toArray,ts⟩,ty,pos,af,gd⟩ s v:=dX hf hx fun _ _ _ hst=>h.quiet1 (aF q hq) hst
theorem XI{E:TypeId}{y:Operand}{sz e nn cc:Nat}{z:Int}{ad:Option Addr}{rows:List (List D)}(i:Nat)(hT:P.underlying T=some (.slice E))(hk:tyk P E=some (ag,sz))(q:Nat)(hi:ops[i]? = some ⟨some d,.indexAddr T x y,ty,pos,af,gd⟩)(hc:guardOf ops env ⟨some d,.indexAddr T x y,ty,pos,af,gd⟩=some true)(hd:fits n.size (some d)=true)
   (hx:ev env x=some (true,.slice ad nn cc)) (hq:ps[q]? = some (Sh (.slice ad nn cc) (.sl rows))) (hy:ev env y=some (true,.int .i64 z)) (hr:rows[e]? = some row) (hz:z=(e:Int)) (hl:row.length=sz)
   (h:∀ a:Nat × Nat,aB P n ops V Q k (L.setIfInBounds i true) ⟨(d,true,.pointer (some ⟨a.1,a.2,none⟩))::env,cnd true (At a.1 a.2 row)::ps,hp⟩) (hf:dg ops V L i=true:=by kernel_rfl):aB P n ops V Q (k+1) L ⟨env,ps,hp⟩ :=
 nf i hi hf true hc hd (fun _=>aZ hT hk hx (.of (aF q hq)) hy hr hz hl) (fun h=>absurd h (by decide)) h
theorem UI{E:TypeId}{y:Operand}{sz e nn cc:Nat}{z:Int}{ad:Option Addr}{rows:List (List D)}(hT:P.underlying T=some (.slice E))(hk:tyk P E=some (ag,sz))(q:Nat)(hc:guardOf ops env ⟨some d,.indexAddr T x y,ty,pos,af,gd⟩=some true)(hd:fits n.size (some d)=true)
   (hx:ev env x=some (true,.slice ad nn cc)) (hq:ps[q]? = some (Sh (.slice ad nn cc) (.sl rows))) (hy:ev env y=some (true,.int .i64 z)) (hr:rows[e]? = some row) (hz:z=(e:Int)) (hl:row.length=sz)
   (h:∀ a:Nat × Nat,aL P n ops Q rest ⟨(d,true,.pointer (some ⟨a.1,a.2,none⟩))::env,cnd true (At a.1 a.2 row)::ps,hp⟩):aL P n ops Q (⟨some d,.indexAddr T x y,ty,pos,af,gd⟩::rest) ⟨env,ps,hp⟩ :=
 gb true hc hd (fun _=>aZ hT hk hx (.of (aF q hq)) hy hr hz hl) (fun h=>absurd h (by decide)) h
theorem VT(i w:Nat)(hk:tyk P U=some (ag,m))(q:Nat)(hi:ops[i]? = some ⟨some d,.load U x,ty,pos,af,gd⟩)(h:okU ops env n.size ⟨some d,.load U x,ty,pos,af,gd⟩=true)(hx:ev env x=some (true,.pointer (some ⟨b,p+w,none⟩)))(hq:ps[q]? = some (cnd c (At b p row)))(hc:c=true)(hv:rdD ag m row w=some v)
   (hK:aB P n ops V Q k (L.setIfInBounds i true) ⟨(d,true,v)::env,ps,hp⟩) (hf:dg ops V L i=true:=by kernel_rfl):aB P n ops V Q (k+1) L ⟨env,ps,hp⟩:=bV i hi h (ei (o:=w) hk hx (aF q hq) hc hv) hK hf
theorem US(w:Nat)(hk:tyk P U=some (ag,m))(q:Nat)(h:okU ops env n.size ⟨some d,.load U x,ty,pos,af,gd⟩=true)(hx:ev env x=some (true,.pointer (some ⟨b,p+w,none⟩)))(hq:ps[q]? = some (cnd c (At b p row)))(hc:c=true)(hv:rdD ag m row w=some v)
   (hK:aL P n ops Q rest ⟨(d,true,v)::env,ps,hp⟩):aL P n ops Q (⟨some d,.load U x,ty,pos,af,gd⟩::rest) ⟨env,ps,hp⟩:=aU h (ei (o:=w) hk hx (aF q hq) hc hv) hK
theorem BN(h:Q .normal s)(hr:Region.ready .any ops L=[]:=by kernel_rfl):aB P n ops V Q 0 L s:=acJ hr h
theorem LT(hc:guardOf ops s.env o=some true)(h:Eff P n o s true (aL P n ops Q rest)):aL P n ops Q (o::rest) s:=aJ hc h
theorem LF(hc:guardOf ops s.env o=some true)(h:Eff P n o s false (aL P n ops Q rest)):aL P n ops Q (o::rest) s:=aJ hc h
theorem EC{t:Nat}{f:FuncId}{l:List Operand}{ts:Array TypeId}{vs:List Value}{q:Bool}{R:Value→List Per→List Res→Prop}(lp lh:List Nat)(hx:evs env l=some vs)(hc:Con P f vs (dw ps lp) (bH hp lh) R)(hK:∀ v ps' hp',R v ps' hp'→K ⟨(t,true,v)::env,ps'++ps,fC lh hp' 0 hp⟩)
   (hf:cL P f=true:=by kernel_rfl) (ht:fits n (some t)=true:=by rfl) (ok:okH hp lh=true:=by rfl) (hq:(!q || lh.isEmpty)=true:=by rfl):Eff P n ⟨some t,.call ⟨.value (.func f),l.toArray,ts⟩,ty,pos,af,gd⟩ ⟨env,ps,hp⟩ q K:=aah lp lh hf hx ht ok hq hc hK
abbrev ZI:List Value:=[.string .empty,.bool false,.int .i64 0,.int .i64 0,.int .i64 0,.string .empty,.string .empty,.int .i64 0,.slice none 0 0,.slice none 0 0,.slice none 0 0,.slice none 0 0,.slice none 0 0,.slice none 0 0,.slice none 0 0,.slice none 0 0,.int .i64 0,.slice none 0 0,.slice none 0 0,.slice none 0 0,.slice none 0 0,.slice none 0 0,.slice none 0 0,.slice none 0 0,.slice none 0 0,.slice none 0 0]
end
end Go.Sy

namespace Go.Sy
open Go.RowKit Go.Lp
theorem acS{a b:ByteArray}(h:a.toList=b.toList):a=b:=by
 have key:∀ (x:ByteArray),x.toList=x.data.toList:=fun x=>by
   have loop:∀ (n i:Nat) (acc:List UInt8),x.size-i=n→ByteArray.toList.loop x i acc=acc.reverse++x.data.toList.drop i:=by
     intro n
     induction n with
     | zero =>
       intro i acc h
       unfold ByteArray.toList.loop
       have hle:x.data.size≤i:=by have:x.size=x.data.size:=rfl;omega
       rw [if_neg (by omega),List.drop_eq_nil_of_le (by simpa using hle),List.append_nil]
     | succ n ih =>
       intro i acc h
       unfold ByteArray.toList.loop
       have hlt:i<x.size:=by omega
       have hlt':i<x.data.toList.length:=by simpa using hlt
       rw [if_pos hlt,ih (i+1) _ (by omega),List.drop_eq_getElem_cons hlt']
       have:x.get! i=x.data.toList[i]:=by
         show x.data[i]! = _
         rw [getElem!_pos x.data i (by simpa using hlt)];simp
       rw [this];simp
   unfold ByteArray.toList
   rw [loop _ 0 [] rfl];simp
 rw [key,key] at h
 cases a;cases b
 simp only [ByteArray.mk.injEq]
 exact Array.toList_inj.1 h
theorem uE(a b:ByteArray):(a.toList == b.toList)=decide (a=b):=by
 rw [Bool.eq_iff_iff,beq_iff_eq,decide_eq_true_eq]
 exact ⟨acS,fun h=>h ▸ rfl⟩
section
variable {P:Program} {n:Fr} {d:Option Tmp} {ty:TypeId} {pos:String} {af:Array Edge} {gd:Option (Nat × Bool)} {s:Sta} {x y:Operand} {t t':TypeId} {a b:ByteArray}
theorem rR(hx:ev s.env x=some (true,.string a))(hy:ev s.env y=some (true,.string b)):Quiet P n ⟨d,.binOp .eql t x y t',ty,pos,af,gd⟩ s (.bool (decide (a=b))):=uE a b ▸ aaY hx hy
theorem ab3(hx:ev s.env x=some (true,.string a))(hy:ev s.env y=some (true,.string b)):Quiet P n ⟨d,.binOp .neq t x y t',ty,pos,af,gd⟩ s (.bool (!decide (a=b))):=uE a b ▸ adj hx hy
theorem adi(hx:ev s.env x=some (true,.string a))(hy:ev s.env y=some (true,.string b)):Quiet P n ⟨d,.binOp .lss t x y t',ty,pos,af,gd⟩ s (.bool (decide (a.toList<b.toList))) :=
 .run2 hx hy fun ρ w h1 h2=>by
   unfold execOp;dsimp only;rw [h1,h2]
   simp only [eqGuard_at_string,Sem.run_bind,Sem.run_pure,binOp_string_lss,Result.andThen_ok,Go.Proofs.bytesLess_eq]
theorem adh(hx:ev s.env x=some (true,.string a))(hy:ev s.env y=some (true,.string b)):Quiet P n ⟨d,.binOp .gtr t x y t',ty,pos,af,gd⟩ s (.bool (!(decide (a.toList<b.toList) || decide (a=b)))) :=
 .run2 hx hy fun ρ w h1 h2=>by
   unfold execOp;dsimp only;rw [h1,h2]
   simp only [eqGuard_at_string,Sem.run_bind,Sem.run_pure,binOp_string_gtr,Result.andThen_ok,Go.Proofs.bytesLess_eq,uE]
end
section
variable {P:Program}
end
section
variable {P:Program} {n:Fr} {env:Env} {ps:List Per} {hp:List Res} {ty:TypeId} {pos:String} {af:Array Edge} {gd:Option (Nat × Bool)} {d:Option Tmp}
def acu(P:Program)(T:TypeId):Option (Nat × Nat):=match P.underlying T with
 | some (.array m e)=>(P.info? e).map fun i=>(i.size,m)
 | _=>none
theorem iG {T:TypeId} {l:List (Nat × Operand)} {xs:List Operand} {vs:List Value} {zs cells:List Value} {sz m:Nat} (hst:acu P T=some (sz,m)) (hz:dL P T=some zs) (hxs:l.map (·.2)=xs) (hx:evs env xs=some vs)
   (hb:bld (fun i=>some (i*sz,sz)) zs ((l.map (·.1)).zip vs)=some cells) :
   Quiet P n ⟨d,.build T l.toArray,ty,pos,af,gd⟩ ⟨env,ps,hp⟩ (.agg cells.toArray):=fun w S fp a hs he hn=>by
 have hm:=fP he xs vs hx
 have hf:=ko _ _ _ _ hb
 have hbuilt : P.built T ((l.map (·.1)).zip vs)=some cells.toArray:=by
   unfold acu at hst
   unfold dL at hz
   unfold Program.built
   cases hi:P.info? T with
   | none=>rw [hi] at hz;cases hz
   | some it =>
     rw [hi] at hz
     cases hzz:it.zero with
     | none=>rw [Option.bind_some,hzz] at hz;cases hz
     | some z =>
       rw [Option.bind_some,hzz] at hz
       simp only [Option.map_some,Option.some.injEq] at hz
       cases hu:P.underlying T with
       | none=>rw [hu] at hst;cases hst
       | some dd =>
         rw [hu] at hst
         cases dd with
         | array m' e =>
           simp only at hst
           cases hie:P.info? e with
           | none=>rw [hie] at hst;cases hst
           | some ie =>
             rw [hie] at hst
             simp only [Option.map_some,Option.some.injEq,Prod.mk.injEq] at hst
             simp only [hzz,hie]
             have e1:z.cells=zs.toArray:=by rw [← hz]
             rw [e1,hst.1]
             simpa using hf
         | _=>cases hst
 have:(execOp a.eval ⟨d,.build T l.toArray,ty,pos,af,gd⟩).run P w=.ok (.value (.agg cells.toArray)) w:=by
   have e:(execOp a.eval ⟨d,.build T l.toArray,ty,pos,af,gd⟩)=(Instr.build T (l.toArray.map fun (i,x)=>(i,a.eval x))).bind fun r=>Sem.pure (Next.value r):=rfl
   have e2:l.toArray.map (fun (i,x)=>(i,a.eval x))=((l.map (·.1)).zip vs).toArray:=by
     rw [← hm,← hxs]
     simp only [List.map_toArray,List.map_map]
     congr 1
     rw [List.zip_map']
     rfl
   rw [e,e2,Sem.run_bind',run_build w T _ cells.toArray (by simpa using hbuilt)];rfl
 rw [this];exact bB _ _
end
theorem StE.ents{ps ps':List Per}{hp:List Res}(h:∀ p∈ps',Ent ps p):StE ps hp ps' hp:=fun w S fp hst =>
 ⟨S,fp,⟨fun p hp=>h p hp w S hst.per,hst.res,hst.lt,hst.dj,hst.slt⟩,fun _ h=>h,fun _ h=>.inl h,fun _ h=>h⟩
end Go.Sy
namespace Go.Proofs.YtfkcmbonmpcbfaaGreat
open Go.RowKit Go.Lp Go.Sy
abbrev b9:Int→List D:=fun z=>[D.v (eI z)]
end Go.Proofs.YtfkcmbonmpcbfaaGreat

namespace Go.Sy
open Go.RowKit Go.Lp
section
variable {P:Program} {n:Fr} {s:Sta} {d:Option Tmp} {ty:TypeId} {pos:String} {af:Array Edge} {gd:Option (Nat × Bool)} {v:Value}
theorem wrap_u8(u:UInt8):IntKind.i64.wrap (u.toNat:Int)=u.toNat:=by have:=u.toNat_lt;rw [IntKind.wrap_i64];omega
end
end Go.Sy
namespace Go.Proofs.YtfkcmbonmpcbfaaGreat
open Go.RowKit Go.Lp Go.Sy
end Go.Proofs.YtfkcmbonmpcbfaaGreat

namespace Go.Sy
open Go.RowKit Go.Lp
theorem bK{P:Program}{n:Fr}{env:Env}{ps:List Per}{hp:List Res}{c:Code}{Q:Exit→Sta→Prop}(p:Per)(hp':Ent ps p)(h:awp P n c Q ⟨env,p::ps,hp⟩):awp P n c Q ⟨env,ps,hp⟩:=fun w S fp a hst he hn hd =>
 h w S fp a ⟨fun q hq=>(List.mem_cons.1 hq).elim (fun e=>e ▸ hp' w S hst.per) (fun h=>hst.per q h),hst.res,hst.lt,hst.dj,hst.slt⟩ he hn hd
theorem aaK{w:World}{S F:aW}{v:Value}{E:TypeId}{sz:Nat}{rows:List (List D)}(h:(az v E sz rows).holds w S F):∃ ad cap,v=.slice ad rows.length cap:=by
 rcases h with ⟨h1,h2,_⟩ | ⟨b,cap,h1,_⟩
 · subst h2;exact ⟨none,0,h1⟩
 · exact ⟨_,cap,h1⟩
theorem sq{P:Program}{n:Fr}{env:Env}{ps:List Per}{hp:List Res}{c:Code}{Q:Exit→Sta→Prop}(i:Nat){v:Value}{T:TypeId}{sz:Nat}{rows:List (List D)}(hi:hp[i]? = some (az v T sz rows))(h:∀ ad cp,v=.slice ad rows.length cp→awp P n c Q ⟨env,ps,hp⟩):awp P n c Q ⟨env,ps,hp⟩:=fun w S fp a hst he hn hd=>by
 obtain ⟨ad,cp,e⟩:=aaK (hst.res i _ hi)
 exact h ad cp e w S fp a hst he hn hd
end Go.Sy
namespace Go.Proofs.YtfkcmbonmpcbfaaGreat
open Go.RowKit Go.Lp Go.Sy
end Go.Proofs.YtfkcmbonmpcbfaaGreat

namespace Go.Proofs
open Go.Shelf
def Tryz.lays189_ren:Go.Shelf.Ren:=⟨fun | 189=>185 | 125=>261 | 257=>260 | 128=>316 | 129=>317 | 294=>307 | 295=>308 | 296=>309 | 297=>310 | 298=>311 | 299=>312 | 216=>313 | 300=>314 | 301=>315 | 328=>350 | 329=>351 | 330=>352 | 331=>353 | 332=>354 | 215=>302 | 343=>376 | n=>n,fun | 28=>26 | 3=>3 | 46=>305 | 0=>0 | 51=>369 | 53=>301 | 4=>4 | 183=>388 | 182=>387 | 131=>65 | 5=>5 | 9=>9 | 218=>417 | 222=>165 | 228=>443 | 229=>444 | n=>n,fun | n=>n⟩
theorem Tryz.lays189:Go.Proofs.Lays.n189 Tryz.prog Tryz.lays189_ren := {
 mixed:=by kernel_rfl
 f125:=Tryz.func261.trans (congrArg some (by kernel_rfl))
 f128:=Tryz.func316.trans (congrArg some (by kernel_rfl))
 f129:=Tryz.func317.trans (congrArg some (by kernel_rfl))
 f189:=Tryz.func185.trans (congrArg some (by kernel_rfl))
 f215:=Tryz.func302.trans (congrArg some (by kernel_rfl))
 f216:=Tryz.func313.trans (congrArg some (by kernel_rfl))
 f257:=Tryz.func260.trans (congrArg some (by kernel_rfl))
 f294:=Tryz.func307.trans (congrArg some (by kernel_rfl))
 f295:=Tryz.func308.trans (congrArg some (by kernel_rfl))
 f296:=Tryz.func309.trans (congrArg some (by kernel_rfl))
 f297:=Tryz.func310.trans (congrArg some (by kernel_rfl))
 f298:=Tryz.func311.trans (congrArg some (by kernel_rfl))
 f299:=Tryz.func312.trans (congrArg some (by kernel_rfl))
 f300:=Tryz.func314.trans (congrArg some (by kernel_rfl))
 f301:=Tryz.func315.trans (congrArg some (by kernel_rfl))
 f328:=Tryz.func350.trans (congrArg some (by kernel_rfl))
 f329:=Tryz.func351.trans (congrArg some (by kernel_rfl))
 f330:=Tryz.func352.trans (congrArg some (by kernel_rfl))
 f331:=Tryz.func353.trans (congrArg some (by kernel_rfl))
 f332:=Tryz.func354.trans (congrArg some (by kernel_rfl))
 f343:=Tryz.func376.trans (congrArg some (by kernel_rfl))
 t0:=Tryz.underlying0
 a0:=Tryz.isAgg0
 z0:=Tryz.sizeOf0
 v0:=Tryz.zeroValue0
 t3:=Tryz.underlying3
 a3:=Tryz.isAgg3
 z3:=Tryz.sizeOf3
 v3:=Tryz.zeroValue3
 t4:=Tryz.underlying4
 a4:=Tryz.isAgg4
 z4:=Tryz.sizeOf4
 v4:=Tryz.zeroValue4
 t5:=Tryz.underlying5
 a5:=Tryz.isAgg5
 z5:=Tryz.sizeOf5
 v5:=Tryz.zeroValue5
 t9:=Tryz.underlying9
 a9:=Tryz.isAgg9
 z9:=Tryz.sizeOf9
 v9:=Tryz.zeroValue9
 t28:=Tryz.underlying26
 a28:=Tryz.isAgg26
 z28:=Tryz.sizeOf26
 v28:=Tryz.zeroValue26
 t46:=Tryz.underlying305
 a46:=Tryz.isAgg305
 z46:=Tryz.sizeOf305
 v46:=Tryz.zeroValue305
 t51:=Tryz.underlying369
 a51:=Tryz.isAgg369
 z51:=Tryz.sizeOf369
 v51:=Tryz.zeroValue369
 t53:=Tryz.underlying301
 a53:=Tryz.isAgg301
 z53:=Tryz.sizeOf301
 v53:=Tryz.zeroValue301
 t131:=Tryz.underlying65
 a131:=Tryz.isAgg65
 z131:=Tryz.sizeOf65
 v131:=Tryz.zeroValue65
 t182:=Tryz.underlying387
 a182:=Tryz.isAgg387
 z182:=Tryz.sizeOf387
 v182:=Tryz.zeroValue387
 t183:=Tryz.underlying388
 a183:=Tryz.isAgg388
 z183:=Tryz.sizeOf388
 v183:=Tryz.zeroValue388
 t218:=Tryz.underlying417
 a218:=Tryz.isAgg417
 z218:=Tryz.sizeOf417
 v218:=Tryz.zeroValue417
 t222:=Tryz.underlying165
 a222:=Tryz.isAgg165
 z222:=Tryz.sizeOf165
 v222:=Tryz.zeroValue165
 t228:=Tryz.underlying443
 a228:=Tryz.isAgg443
 z228:=Tryz.sizeOf443
 v228:=Tryz.zeroValue443
 t229:=Tryz.underlying444
 a229:=Tryz.isAgg444
 z229:=Tryz.sizeOf444
 v229:=Tryz.zeroValue444 }
def Tryz.lays20_ren:Go.Shelf.Ren:=⟨fun | 20=>348 | n=>n,fun | 22=>26 | 3=>3 | 4=>4 | 0=>0 | n=>n,fun | n=>n⟩
theorem Tryz.lays20:Go.Proofs.Lays2.n20 Tryz.prog Tryz.lays20_ren := {
 mixed:=by kernel_rfl
 f20:=Tryz.func348.trans (congrArg some (by kernel_rfl))
 t0:=Tryz.underlying0
 a0:=Tryz.isAgg0
 z0:=Tryz.sizeOf0
 v0:=Tryz.zeroValue0
 t3:=Tryz.underlying3
 a3:=Tryz.isAgg3
 z3:=Tryz.sizeOf3
 v3:=Tryz.zeroValue3
 t4:=Tryz.underlying4
 a4:=Tryz.isAgg4
 z4:=Tryz.sizeOf4
 v4:=Tryz.zeroValue4
 t22:=Tryz.underlying26
 a22:=Tryz.isAgg26
 z22:=Tryz.sizeOf26
 v22:=Tryz.zeroValue26
 i3:=by kernel_rfl }
def Tryz.lays112_ren:Go.Shelf.Ren:=⟨fun | 112=>349 | n=>n,fun | 28=>26 | 3=>3 | 4=>4 | 0=>0 | n=>n,fun | n=>n⟩
theorem Tryz.lays112:Go.Proofs.Lays.n112 Tryz.prog Tryz.lays112_ren := {
 mixed:=by kernel_rfl
 f112:=Tryz.func349.trans (congrArg some (by kernel_rfl))
 t0:=Tryz.underlying0
 a0:=Tryz.isAgg0
 z0:=Tryz.sizeOf0
 v0:=Tryz.zeroValue0
 t3:=Tryz.underlying3
 a3:=Tryz.isAgg3
 z3:=Tryz.sizeOf3
 v3:=Tryz.zeroValue3
 t4:=Tryz.underlying4
 a4:=Tryz.isAgg4
 z4:=Tryz.sizeOf4
 v4:=Tryz.zeroValue4
 t28:=Tryz.underlying26
 a28:=Tryz.isAgg26
 z28:=Tryz.sizeOf26
 v28:=Tryz.zeroValue26 }
end Go.Proofs

namespace Go.Sy
open Go.RowKit Go.Lp
section
variable {P:Program} {n:Fr} {env:Env} {ps:List Per} {hp:List Res} {ty:TypeId} {pos:String} {af:Array Edge} {gd:Option (Nat × Bool)} {d:Option Tmp} {E T:TypeId} {sz:Nat} {x y:Operand} {c:Code} {Q:Exit→Sta→Prop}
theorem ez{B m cp:Nat}(k:Nat)(hel:elB P T E sz=true)(hx:ev env x=some (true,.slice (some ⟨B,0,none⟩) m cp)){z:Int}(hy:ev env y=some (true,.int .i64 z))(hz:z=(k:Int))(hk:k<m) :
   Quiet P n ⟨d,.indexAddr T x y,ty,pos,af,gd⟩ ⟨env,ps,hp⟩ (.pointer (some ⟨B,k*sz,none⟩)):=fun w S fp a hst he hn=>by
 subst hz
 obtain ⟨hT,it,hit,_,hsz,_⟩:=bY hel
 have h1:=he.val hx rfl
 have h2:=he.val hy rfl
 have:(execOp a.eval ⟨d,.indexAddr T x y,ty,pos,af,gd⟩).run P w=.ok (.value (.pointer (some ⟨B,k*sz,none⟩))) w:=by
   unfold execOp;dsimp only;rw [h1,h2]
   show ((Instr.indexAt T (.slice (some ⟨B,0,none⟩) m cp) (.int .i64 k)).bind fun r=>Sem.pure (Next.value r)).run P w=_
   have hE:P.elem T=E:=by unfold Program.elem;rw [hT]
   rw [Sem.run_bind',run_indexAt_slice _ _ _ _ _ _ _ (by rw [hE];exact hT),if_pos (by omega),hE,bZ hit,hsz]
   simp only [Result.andThen,Int.toNat_natCast]
   unfold Addr.add
   split
   · rename_i h0;rw [h0];rfl
   · simp only [Nat.zero_add];rfl
 rw [this];exact bB _ _
theorem eM(i:Nat){v:Value}{rows:List (List D)}(hi:hp[i]? = some (az v E sz rows))(h0:rows≠[])(h:∀ B cp,v=.slice (some ⟨B,0,none⟩) rows.length cp→awp P n c Q ⟨env,ps,hp⟩):awp P n c Q ⟨env,ps,hp⟩ :=
 fg (φ:=∃ B cp,v=.slice (some ⟨B,0,none⟩) rows.length cp) i hi (fun w S F hh=>by
   rcases hh with ⟨_,h1,_⟩ | ⟨B,cp,h1,_⟩
   · exact (h0 h1).elim
   · exact ⟨B,cp,h1⟩) (fun ⟨B,cp,e⟩=>h B cp e)
end
end Go.Sy
namespace Go.Proofs.YtfkcmbonmpcbfaaGreat
open Go.RowKit Go.Lp Go.Sy Go.Sort Go.Shelf
abbrev encI(z:Int):Value:=.int .i64 z
def eA(zs:List Int):List Int:=zs.mergeSort fun x y=>decide (x≤y)
end Go.Proofs.YtfkcmbonmpcbfaaGreat

