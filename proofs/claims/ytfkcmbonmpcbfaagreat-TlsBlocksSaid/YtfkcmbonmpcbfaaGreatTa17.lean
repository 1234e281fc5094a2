/- Parts of the proof, in build order. No condition. -/
import Derived.Test.YtfkcmbonmpcbfaaGreatTa16
import Derived.Test.YtfkcmbonmpcbfaaGreatTa15
import Derived.Test.YtfkcmbonmpcbfaaGreatTa11
import Derived.Test.YtfkcmbonmpcbfaaGreatTa05
import Derived.Test.YtfkcmbonmpcbfaaGreatTa10
import Derived.Lib.UnsafeStr
import Derived.Lib.Builder
import Derived.Test.YtfkcmbonmpcbfaaGreatTa04
import Derived.Test.YtfkcmbonmpcbfaaGreatTa12
import Derived.Lib.BufferWrite
import Derived.Test.YtfkcmbonmpcbfaaGreatTa09
set_option linter.unusedSimpArgs false
set_option linter.unusedVariables false
set_option maxHeartbeats 1000000
set_option maxRecDepth 20000
namespace Go.Sy
open Go.RowKit
section
variable {P:Program} {n:Fr} {env:Env} {ps:List Per} {hp:List Res} {d:Option Tmp} {ty:TypeId} {pos:String} {af:Array Edge} {gd:Option (Nat × Bool)}
theorem oU{T E:TypeId}{x:Operand}{m sz:Nat}{b:Nat}(hT:P.underlying T=some (.array m E))(hE:((P.info? E).map fun j=>j.size)=some sz)(hx:ev env x=some (true,.pointer (some ⟨b,0,none⟩)))(hm:0<m) :
   Quiet P n ⟨d,.slice T x none none none,ty,pos,af,gd⟩ ⟨env,ps,hp⟩ (.slice (some ⟨b,0,none⟩) m m):=fun w S fp a hst he hn=>by
 have h1:=he.val hx rfl
 obtain ⟨j,hj,hjs⟩:=Option.map_eq_some_iff.1 hE
 have:(execOp a.eval ⟨d,.slice T x none none none,ty,pos,af,gd⟩).run P w=.ok (.value (.slice (some ⟨b,0,none⟩) m m)) w:=by
   unfold execOp;dsimp only;simp only [Option.map_none];rw [h1]
   show ((Instr.sliceAt T (.pointer (some ⟨b,0,none⟩)) none none none).bind fun r=>Sem.pure (Next.value r)).run P w=_
   have hm0:¬ m=0:=by omega
   have:(Instr.sliceAt T (.pointer (some ⟨b,0,none⟩)) none none none).run P w=.ok (.slice (some ⟨b,0,none⟩) m m) w:=by
     unfold Instr.sliceAt
     simp [run_underlying hT,Instr.sureAddr,asAddr,Instr.sliceBounds,Instr.sliceBound,sizeOf,typeInfo,hj,Addr.add,hm0]
   rw [Sem.run_bind',this];rfl
 rw [this];exact bB _ _
end
end Go.Sy
namespace Go.Proofs.YtfkcmbonmpcbfaaGreat
open Go.RowKit Go.Lp Go.Sy Go.Lv Go.Sort
open Go.Proofs.Tryz
attribute [local irreducible] aL aB awp aC fwp Quiet
def cmpL:List Int→List Int→Int
 | [],[]=>0
 | [],_::_ => -1
 | _::_,[]=>1
 | x::xs,y::ys=>if jO x y≠0 then jO x y else cmpL xs ys
theorem rf(xs ys:Sl Int):Con Tryz.prog 242 [.slice xs.ad xs.l.length xs.cap,.slice ys.ad ys.l.length ys.cap] [ShF gy xs,ShF gy ys] [] fun r _ _=>r=.int .i64 (cmpL xs.l ys.l):=by
 refine EN2 Tryz.func242 rfl (aSR (aA rfl (aNs (aSR (aM rfl (aU rfl (aY Tryz.underlying26 rfl) (aM rfl (aNn (ao (ct (.of (aF 0 rfl)) (fun hlx=>(ct (.of (aF 1 rfl)) (fun hly=>(aP [0,1,9,10,11] [1,0] [] (fun (k:Nat) s=>(k≤xs.l.length∧k≤ys.l.length∧cmpL xs.l ys.l=cmpL (xs.l.drop k) (ys.l.drop k))∧s=⟨[(0,true,.slice xs.ad xs.l.length xs.cap),(1,true,.slice ys.ad ys.l.length ys.cap),(9,true,.slice xs.ad xs.l.length xs.cap),(10,true,.int .i64 xs.l.length),(11,true,.int .i64 k)],[ShF gy xs,ShF gy ys],[]⟩) (fun k=>xs.l.length-k) rfl (⟨0,⟨Nat.zero_le _,Nat.zero_le _,rfl⟩,rfl⟩) ?_))))))))))))))
 rintro k s ⟨⟨hk,hky,hc⟩,rfl⟩
 refine aSR (aU rfl (bd rfl rfl) (aNs ?_))
 refine ah _ rfl (fun h1 => ?_) (fun h1 => ?_)
 ·skip
  have hk':k<xs.l.length:=by simpa using h1
  obtain ⟨x,hx⟩:∃ x,xs.l[k]? = some x:=⟨xs.l[k]'hk',by simp⟩
  have ex:=List.drop_eq_getElem_cons hk'
  rw [show xs.l[k]=x by rw [List.getElem?_eq_getElem hk'] at hx;exact Option.some.inj hx] at ex
  refine ai (ak (aq (ao (aSR (aM rfl (UI Tryz.underlying26 tk3 0 rfl rfl rfl rfl rfl (aH hx) rfl rfl (fun ⟨b3_1,o3_1⟩ => ?_)))))))
  refine US 0 tk3 0 rfl rfl rfl rfl rfl (aA rfl (aA rfl (aNs (aSR (aM rfl (aM rfl (aU rfl (aY Tryz.underlying26 rfl) (aU rfl (dY rfl rfl) (aNn ?_)))))))))
  refine ah _ rfl (fun h2 => ?_) (fun h2 => ?_)
  ·skip
   refine aSR (aA rfl (aNn (aj (aK (bF (aK (aK (bF (aK (FZ1 [] Tryz.results242 rfl ?_))))))))))
   rw [hc,ex,show ys.l.drop k=[] from List.drop_of_length_le (by simpa using h2)];rfl
  ·skip
   have hk2:k<ys.l.length:=by simp at h2;omega
   obtain ⟨y,hy⟩:∃ y,ys.l[k]? = some y:=⟨ys.l[k]'hk2,by simp⟩
   have ey:=List.drop_eq_getElem_cons hk2
   rw [show ys.l[k]=y by rw [List.getElem?_eq_getElem hk2] at hy;exact Option.some.inj hy] at ey
   refine ai (ak (aSR (aM rfl (aM rfl (UI Tryz.underlying26 tk3 2 rfl rfl rfl rfl rfl (aH hy) rfl rfl (fun ⟨b6_2,o6_2⟩=>(US 0 tk3 0 rfl rfl rfl rfl rfl (aA rfl (aNn (aSR (aM rfl (aM rfl (aU rfl (Q0 rfl (kr _ _)) ?_)))))))))))))
   refine aA rfl (aNn (aSR (aM rfl (aU rfl (dE rfl rfl) (aNn ?_)))))
   refine ah _ rfl (fun h3 => ?_) (fun h3 => ?_)
   ·skip
    refine aSR (aM rfl (aA rfl (aNn (aj (bF (aK (aK (bF (aK (FZ1 [] Tryz.results242 rfl ?_))))))))))
    rw [hc,ex,ey];unfold cmpL;rw [if_pos (by simpa using h3)]
   ·skip
    refine ai (bb (ak (ae (aU rfl (aO rfl rfl (by omega)) (aM rfl (aNn ?_))))))
    refine ⟨[0,1,9,10,11],[1,0],[],rfl,?_⟩
    refine ⟨k+1,⟨⟨by omega,by omega,?_⟩,rfl⟩,by omega⟩
    rw [hc,ex,ey];conv=>lhs;unfold cmpL
    rw [if_neg (by simpa using h3)]
 ·skip
  have hkx:k=xs.l.length:=by simp at h1;omega
  refine aQ (aR (aR (aX (ak (aq (aSR (aM rfl (aU rfl (aY Tryz.underlying26 rfl) (aM rfl (aU rfl (aY Tryz.underlying26 rfl) (aU rfl (bd rfl rfl) (aNn ?_))))))))))))
  refine ah _ rfl (fun h4 => ?_) (fun h4 => ?_)
  ·skip
   refine aSR (aA rfl (aNn (aj (aK (FZ1 [] Tryz.results242 rfl ?_)))))
   have hk3:k<ys.l.length:=by simp at h4;omega
   rw [hc,List.drop_of_length_le (by omega),List.drop_eq_getElem_cons hk3];rfl
  ·skip
   refine ai (ak (aSR (aA rfl (aNn (aj (FZ1 [] Tryz.results242 rfl ?_))))))
   rw [hc,List.drop_of_length_le (by omega),List.drop_of_length_le (by simp at h4;omega)];rfl
theorem wE{ps:List Per}{b:Nat}{x y:Int}(h:At b 0 [.v (kI x),.v (kI y)]∈ps):Ent ps (ShF gy ⟨some ⟨b,0,none⟩,2,[x,y]⟩):=fun w S hp=>by
 obtain ⟨hS,hc⟩:=hp _ h
 obtain ⟨u0,a1,_,a3⟩:=hc 0 _ rfl
 obtain ⟨u1,b1,_,b3⟩:=hc 1 _ rfl
 cases a3;cases b3
 refine er.sl b 0 2 1 [gy x,gy y] (fun i _=>if i=0 then kI x else kI y) hS (Nat.le_refl 2) (by decide) (fun i r hr => ?_) (fun i j r d hr hd => ?_) (fun i j r d hr hd => ?_)
 · match i with
   | 0=>cases hr;rfl
   | 1=>cases hr;rfl
   | i+2=>simp at hr
 · match i with
   | 0=>cases hr;match j with
     | 0=>cases hd;exact ⟨a1,rfl⟩
     | j+1=>simp [gy] at hd
   | 1=>cases hr;match j with
     | 0=>cases hd;exact ⟨b1,rfl⟩
     | j+1=>simp [gy] at hd
   | i+2=>simp at hr
 · match i with
   | 0=>cases hr;match j with
     | 0=>cases hd;exact .v _
     | j+1=>simp [gy] at hd
   | 1=>cases hr;match j with
     | 0=>cases hd;exact .v _
     | j+1=>simp [gy] at hd
   | i+2=>simp at hr
def mc(a b:Int × Int):Int:=cmpL [a.1,a.2] [b.1,b.2]
theorem p9(a b:Int × Int):mc a b<0↔a.1<b.1∨(a.1=b.1∧a.2<b.2):=by
 unfold mc cmpL cmpL cmpL
 unfold jO
 split<;>split<;>(repeat split)<;>omega
theorem jU(a b:Int × Int):ltOf mc a b=decide (a.1<b.1∨(a.1=b.1∧a.2<b.2)):=by
 unfold ltOf
 exact decide_eq_decide.2 (p9 _ _)
theorem zt:SWO (ltOf mc) where
 irrefl x:=by rw [jU,decide_eq_false_iff_not];omega
 trans x y z h1 h2:=by rw [jU,decide_eq_true_eq] at *;omega
 ntrans x y z h1 h2:=by
   rw [jU,decide_eq_false_iff_not] at *
   omega
theorem xQ(a b:Int × Int):Con Tryz.prog 241 [.agg #[.int .i64 a.1,.int .i64 a.2],.agg #[.int .i64 b.1,.int .i64 b.2]] [] [] fun r _ _=>r=.int .i64 (mc a b):=by
 refine EN2 Tryz.func241 rfl (aSR (LT rfl (bC rfl rfl rfl (fun b0_0=>(aHN ?_)))))
 refine LT rfl (bC rfl rfl rfl (fun b0_1=>(aHN ?_)))
 refine aA rfl (aNs (bj 0 rfl rfl (bj 1 rfl rfl ?_)))
 show awp _ _ _ _ ⟨_,[_,_],[_,_]⟩
 refine DR [] 4 (bV 0 rfl rfl (oU (m:=2) (sz:=1) Tryz.underlying133 (by kernel_rfl) rfl (by decide)) (bV 1 rfl rfl (oU (m:=2) (sz:=1) Tryz.underlying133 (by kernel_rfl) rfl (by decide)) (bV 2 rfl rfl (QC rfl (fun w S fp hst=>((rf ⟨some ⟨b0_0,0,none⟩,2,[a.1,a.2]⟩ ⟨some ⟨b0_1,0,none⟩,2,[b.1,b.2]⟩).pre2 (ps:=[At b0_0 0 [.v (kI a.1),.v (kI a.2)],At b0_1 0 [.v (kI b.1),.v (kI b.2)]]) (wE (.head _)) (wE (.tail _ (.head _)))).quiet2 (aF 1 rfl) (aF 0 rfl) hst)) (bV 3 rfl rfl (bz rfl) (BN (ak (aj (FZ1 [] Tryz.results241 rfl ?_))))))))
 rfl
theorem uY(v:Value)(zs:List (Int × Int))(hz:zs.length≤1000000):Con Tryz.prog 297 [v,.func (.func 241) #[] #[]] [] [az v 133 2 (zs.map oO)]
   fun _ ps hp=>ps=[]∧∃ q:List (Int × Int),q.Perm zs∧(q.Pairwise fun a b=>¬ mc b a<0)∧hp=[az v 133 2 (q.map oO)] :=
 qf (enc:=fun k:Int × Int=>[.int .i64 k.1,.int .i64 k.2]) Tryz.sortPr (by decide) Tryz.isAgg133 Tryz.sizeOf133 (fun _=>rfl) (fun x v hv=>by simp at hv;rcases hv with rfl | rfl<;>rfl) mc zt 241 (by kernel_rfl) (fun x y=>xQ x y) (T:=133) (v:=v) zs (by omega)
def jE(a b:Int × Int):Prop:=a.1<b.1∨(a.1=b.1∧a.2<b.2)
theorem dq.perm{α β:Type}{m:α→Option β}{l q:List α}(h:dq m l)(hp:q.Perm l):dq m q:=⟨hp.nodup_iff.2 h.nd,fun k=>hp.mem_iff.trans (h.iff k)⟩
theorem abW{β:Type}{m:Int→Option β}{q:List Int}(h:dq m q)(hs:q.Pairwise fun a b=>a≤b):q.Pairwise fun a b=>a<b :=
 (hs.and h.nd).imp fun ⟨h1,h2⟩=>by omega
theorem aax{β:Type}{m:Int × Int→Option β}{q:List (Int × Int)}(h:dq m q)(hs:q.Pairwise fun a b=>¬ mc b a<0):q.Pairwise jE :=
 (hs.and h.nd).imp fun {a b} ⟨h1,h2⟩=>by
   rw [p9] at h1
   unfold jE
   have:¬ (a.1=b.1∧a.2=b.2):=fun e=>h2 (Prod.ext e.1 e.2)
   omega
theorem mj{β:Type}{m:Int→Option β}{f:FuncId}{bx:Nat}{p:Per}{A:Res}(hf:cL Tryz.prog f=true)(h:ItC f bx p A kI m)(hB:∀ l:List Int,l.Nodup→(∀ k∈l,(m k).isSome=true)→l.length≤1000000) :
   Con Tryz.prog 74 [.func (.func f) #[] #[.pointer (some ⟨bx,0,none⟩)]] [p] [A] fun r ps hp=>ps=[]∧∃ ks:List Int,dq m ks∧ks.Pairwise (fun a b=>a<b)∧hp=[A,az r 3 1 (ks.map gy)]:=by
 refine EN1 Tryz.func74 rfl (aSR (aA rfl (aNn (aSR (aM rfl (LF rfl (EC [0] [0] rfl (ra hf h hB) ?_)))))))
 rintro r1 _ _ ⟨rfl,seen,hkp,rfl⟩
 refine aST ?_
 refine aA rfl (aNn (aSR ?_))
 have hsl:seen.reverse.length≤1000000:=hB _ ((List.reverse_perm seen).nodup_iff.2 hkp.nd) fun k hk=>(hkp.iff k).1 (List.mem_reverse.1 hk)
 refine aM rfl (LF rfl (EC [] [1] rfl (jm (v:=r1) (T:=3) seen.reverse (by omega)) ?_))
 rintro r2 _ _ ⟨rfl,rfl⟩
 refine aST ?_
 refine aNn (aSR (aM rfl (aA rfl (aNn (aj (FZ1 [0,1] Tryz.results74 rfl ?_))))))
 have hpm:(eA seen.reverse).Perm seen:=(List.mergeSort_perm _ _).trans (List.reverse_perm _)
 have hk2:=hkp.perm hpm
 exact ⟨rfl,eA seen.reverse,hk2,abW hk2 ((List.pairwise_mergeSort (fun a b c h1 h2=>by simp at *;omega) (fun a b=>by simp;omega) _).imp fun h=>by simpa using h),rfl⟩
theorem s3{β:Type}{m:Int × Int→Option β}{f:FuncId}{bx:Nat}{p:Per}{A:Res}(hf:cL Tryz.prog f=true)(h:ItC f bx p A ck m)(hB:∀ l:List (Int × Int),l.Nodup→(∀ k∈l,(m k).isSome=true)→l.length≤1000000) :
   Con Tryz.prog 239 [.func (.func f) #[] #[.pointer (some ⟨bx,0,none⟩)],.func (.func 241) #[] #[]] [p] [A] fun r ps hp=>ps=[]∧∃ ks:List (Int × Int),dq m ks∧ks.Pairwise jE∧hp=[A,az r 133 2 (ks.map oO)]:=by
 refine EN2 Tryz.func239 rfl (aSR (aA rfl (aNn (aSR (aM rfl (LF rfl (EC [0] [0] rfl (rb hf h hB) ?_)))))))
 rintro r1 _ _ ⟨rfl,seen,hkp,rfl⟩
 refine aST ?_
 refine aA rfl (aNn (aSR ?_))
 have hsl:seen.reverse.length≤1000000:=hB _ ((List.reverse_perm seen).nodup_iff.2 hkp.nd) fun k hk=>(hkp.iff k).1 (List.mem_reverse.1 hk)
 refine aM rfl (aM rfl (LF rfl (EC [] [1] rfl (uY r1 seen.reverse hsl) ?_)))
 rintro r2 _ _ ⟨rfl,q,hq,hs,rfl⟩
 refine aST ?_
 refine aNn (aSR (aM rfl (aA rfl (aNn (aj (FZ1 [0,1] Tryz.results239 rfl ?_))))))
 have hk2:=hkp.perm (hq.trans (List.reverse_perm _))
 exact ⟨rfl,q,hk2,aax hk2 hs,rfl⟩
end Go.Proofs.YtfkcmbonmpcbfaaGreat

namespace Go.Sy
open Go.RowKit Go.Lp
section
variable {P:Program} {n:Fr} {env:Env} {ps:List Per} {hp:List Res} {d:Option Tmp} {ty:TypeId} {pos:String} {af:Array Edge} {gd:Option (Nat × Bool)}
abbrev pL:UInt8→List D:=fun u=>[.v (.int .u8 u.toNat)]
end
end Go.Sy
namespace Go.Proofs.YtfkcmbonmpcbfaaGreat
open Go.RowKit Go.Lp Go.Sy
end Go.Proofs.YtfkcmbonmpcbfaaGreat

namespace Go.Sy
open Go.RowKit Go.Lp Go.Proofs.YtfkcmbonmpcbfaaGreat
section
variable {P:Program} {n:Fr} {env:Env} {ps:List Per} {hp:List Res} {d:Option Tmp} {ty:TypeId} {pos:String} {af:Array Edge} {gd:Option (Nat × Bool)} {v:Value}
theorem cX.bytes{w:World}{S:aW}{cs:List Value}{l:List UInt8}(h:cX w S 1 cs (l.map pL)):cs=Lib.byteCells l:=by
 have hl:cs.length=l.length:=by have:=h.len;simpa using this
 apply List.ext_getElem?
 intro k
 unfold Lib.byteCells
 cases hk:l[k]? with
 | none=>rw [List.getElem?_eq_none (by have:=List.getElem?_eq_none_iff.1 hk;omega)];simp [hk]
 | some u =>
   obtain ⟨y,hy,hrep⟩:=h.rep k 0 [.v (.int .u8 u.toNat)] (.v (.int .u8 u.toNat)) (by simp [hk]) rfl
   rw [Nat.mul_one,Nat.add_zero] at hy
   rw [hy,jb hrep];simp [hk]
theorem rU(w:World)(S:aW)(l:List UInt8):cX w S 1 (Lib.byteCells l) (l.map pL) where
 len:=by simp [Lib.byteCells]
 row i r hr:=by
   rw [List.getElem?_map,Option.map_eq_some_iff] at hr
   obtain ⟨u,_,rfl⟩:=hr;rfl
 one:=Lib.byteCells_one l
 rep i j r d hr hd:=by
   rw [List.getElem?_map,Option.map_eq_some_iff] at hr
   obtain ⟨u,hu,rfl⟩:=hr
   cases j with
   | zero =>
     simp only [List.getElem?_cons_zero,Option.some.injEq] at hd
     subst hd
     exact ⟨.int .u8 u.toNat,by simp [Lib.byteCells,hu],.v _⟩
   | succ j=>simp at hd
end
end Go.Sy
namespace Go.Proofs.YtfkcmbonmpcbfaaGreat
open Go.RowKit Go.Lp Go.Sy
end Go.Proofs.YtfkcmbonmpcbfaaGreat

namespace Go.Sy
open Go.RowKit Go.Lp Go.Lv
section
variable {P:Program} {n:Fr} {env:Env} {ps:List Per} {hp:List Res} {d:Option Tmp} {ty:TypeId} {pos:String} {af:Array Edge} {gd:Option (Nat × Bool)}
theorem acH(t:Int):t.tmod 8=0↔t % 8=0:=by rw [← Int.dvd_iff_tmod_eq_zero,Int.dvd_iff_emod_eq_zero]
theorem addr_add(B o j:Nat):(Addr.mk B o none).add j=⟨B,o+j,none⟩:=by
 unfold Addr.add
 split
 · rename_i h;rw [h];rfl
 · rfl
theorem vX(l:List UInt8):∀ r:ByteArray,l.foldl (fun r b=>r.push b) r=⟨r.data++l.toArray⟩:=by
 induction l with
 | nil=>intro r;simp
 | cons b l ih=>intro r;rw [List.foldl_cons,ih];simp [ByteArray.push]
theorem wb{s:Sta}{T E:TypeId}{x y z:Operand}{sz m c B o:Nat}{kk k2:IntKind}{zl zh:Int}(l h:Nat)(hel:elB P T E sz=true)(hx:ev s.env x=some (true,.slice (some ⟨B,o,none⟩) m c))
   (hy:ev s.env y=some (true,.int kk zl)) (hz:ev s.env z=some (true,.int k2 zh)) (hl:zl=(l:Int)) (hh:zh=(h:Int)) (hlh:l<h) (hm:h≤m) (hmc:m≤c) :
   Quiet P n ⟨d,.slice T x (some y) (some z) none,ty,pos,af,gd⟩ s (.slice (some ⟨B,o+l*sz,none⟩) (h-l) (c-l)):=fun w S fp a hst he hn=>by
 have h1:=he.val hx rfl
 subst hl hh
 have h2:=he.val hy rfl
 have h3:=he.val hz rfl
 obtain ⟨hT,it,hi,_,hsz,_⟩:=bY hel
 have hE:P.elem T=E:=by unfold Program.elem;rw [hT]
 have hrun:∀ w1,(execOp a.eval ⟨d,.slice T x (some y) (some z) none,ty,pos,af,gd⟩).run P w1=.ok (.value (sliced (some ⟨B,o,none⟩) l h c sz)) w1:=fun w1=>by
   unfold execOp;dsimp only;simp only [Option.map_some,Option.map_none];rw [h1,h2,h3]
   show ((Instr.sliceAt T (.slice (some ⟨B,o,none⟩) m c) (some (.int kk l)) (some (.int k2 h)) none).bind fun r=>Sem.pure (Next.value r)).run P w1=_
   have hT':P.underlying T=some (.slice (P.elem T)):=by rw [hT,hE]
   rw [Sem.run_bind',run_sliceAt_slice w1 T _ _ _ _ hT',run_slice_lh w1 T _ m c hT' kk k2 l h (by omega) (by omega) (by omega),hE,bZ hi,hsz]
   rfl
 have e:sliced (some ⟨B,o,none⟩) l h c sz=.slice (some ⟨B,o+l*sz,none⟩) (h-l) (c-l):=by
   unfold sliced
   rw [if_neg (by omega)]
   simp [nh]
 rw [hrun,e];exact bB _ _
theorem aaS{x:Operand}{T E T2:TypeId}{B o k c m cp:Nat}(i:Nat)(l:List UInt8)(hT:P.underlying T=some (.slice E))(hE:P.underlying E=some (.int .u8))(hD:P.underlying T2=some .string)(hx:ev env x=some (true,.slice (some ⟨B,o,none⟩) k c))
   (hi:hp[i]? = some (az (.slice (some ⟨B,0,none⟩) m cp) E 1 (l.map pL))) (h:o+k≤l.length) :
   Quiet P n ⟨d,.convert T T2 x,ty,pos,af,gd⟩ ⟨env,ps,hp⟩ (.string (bytesOf ((l.drop o).take k))):=fun w S fp a hst he hn=>by
 have h1:=he.val hx rfl
 rcases hst.res i _ hi with ⟨h,_⟩ | ⟨b,cap,hv,⟨cs,sp,hb,hrows,hcap,_,_⟩,_⟩
 · cases h
 · simp only [Value.slice.injEq,Option.some.injEq,Addr.mk.injEq] at hv
   obtain ⟨⟨rfl,_⟩,hNN,rfl⟩:=hv
   have hcs:=hrows.bytes
   subst hcs
   have hl:((l.drop o).take k).length=k:=by simp;omega
   have hload:(loadCells ⟨B,o,none⟩ k).run P w=.ok ((((l.drop o).take k).map fun b=>(b.toNat:Int)).map (Value.int .u8)).toArray w:=by
     rw [run_loadCells w ⟨B,o,none⟩ k (fun j=>(Lib.byteCells l).getD (o+j) undef) (fun j hj=>by
       rw [addr_add,dh hb,List.getElem?_append_left (by simp [Lib.byteCells];omega)]
       simp [List.getD,Lib.byteCells,show o+j<l.length by omega])]
     congr 2
     apply List.ext_getElem
     · simp;omega
     · intro j h1 h2
       simp at h1 h2 ⊢
       simp [List.getD,Lib.byteCells,show o+j<l.length by omega]
   have hcv:(convert T T2 (.slice (some ⟨B,o,none⟩) k c)).run P w=.ok (.string (bytesOf ((l.drop o).take k))) w:=by
     rw [run_convert_bytes_string w T T2 E _ _ _ hT hE hD,run_bytesToString w ⟨B,o,none⟩ k c (((l.drop o).take k).map fun b=>(b.toNat:Int)) hload]
     congr 2
     rw [List.foldl_map]
     simp only [Int.toNat_natCast,UInt8.ofNat_toNat]
     rw [vX];simp [bytesOf]
   have hx2:(execOp a.eval ⟨d,.convert T T2 x,ty,pos,af,gd⟩).run P w=.ok (.value (.string (bytesOf ((l.drop o).take k)))) w:=by
     unfold execOp;dsimp only;rw [h1]
     show ((convert T T2 _).bind fun r=>Sem.pure (Next.value r)).run P w=_
     rw [Sem.run_bind',hcv];rfl
   rw [hx2];exact bB _ _
theorem vv{t:Nat}{x y:Operand}{T T2 E:TypeId}{B o N c m cp:Nat}{l:List UInt8}{s:ByteArray}{K:Sta→Prop}(i:Nat)(hel:elB P T E 1=true)(hx:ev env x=some (true,.slice (some ⟨B,o,none⟩) N c))(hy:ev env y=some (true,.string s))(ht:fits n.size (some t)=true)
   (hi:hp[i]? = some (az (.slice (some ⟨B,0,none⟩) m cp) E 1 (l.map pL))) (hoN:o+N≤l.length) (hs:s.size≤N) (hK:K ⟨(t,true,.int .i64 s.size)::env,ps,hp.set i (az (.slice (some ⟨B,0,none⟩) m cp) E 1 ((dp l o s.data.toList).map pL))⟩) :
   Eff P n ⟨some t,.call ⟨.builtin .copy,#[x,y],#[T,T2]⟩,ty,pos,af,gd⟩ ⟨env,ps,hp⟩ false K:=.change i hi fun w S fp a hst he hn hR=>by
 have h1:=he.val hx rfl
 have h2:=he.val hy rfl
 obtain ⟨hT,it,hit,_,hsz,_⟩:=bY hel
 rcases hR with ⟨h,_⟩ | ⟨b,cap,hv,⟨cs,sp,hb,hrows,hcap,hrc,hcm⟩,hF⟩
 · cases h
 · simp only [Value.slice.injEq,Option.some.injEq,Addr.mk.injEq] at hv
   obtain ⟨⟨rfl,_⟩,hNN,rfl⟩:=hv
   have hcs:=hrows.bytes
   subst hcs
   have hlb:(Lib.byteCells l).length=l.length:=by simp [Lib.byteCells]
   have hss:s.data.toList.length=s.size:=by simp
   have hr:=Lib.run_copy_row_string (P:=P) w T T2 ty E B o N c s (Lib.byteCells l++sp).toArray E hT (by rw [hit];simp [hsz]) hb hs (by simp [hlb];omega)
   have hexec:execOp a.eval ⟨some t,.call ⟨.builtin .copy,#[x,y],#[T,T2]⟩,ty,pos,af,gd⟩=(Builtin.copy_ #[T,T2] ty (#[x,y].map a.eval)).bind fun r=>Sem.pure (Next.value r):=rfl
   rw [hexec,show #[x,y].map a.eval = #[a.eval x,a.eval y] by simp,h1,h2,Sem.run_bind',hr]
   have hl':(dp l o s.data.toList).length=l.length:=gL (by omega)
   refine ⟨_,_,hK,rfl,rfl,?_,?_,rfl,rfl,⟨rfl,rfl⟩,by simp [World.setRow],fun b' hb' hne=>setRow_other _ _ _ _ (fun h=>hne ((hF b').2 h))⟩
   · exact he.put (g:=true) (by rw [hn];simpa [fits] using ht) _
   · refine .inr ⟨B,cp,by rw [List.length_map,hl',hNN,List.length_map],⟨Lib.byteCells (dp l o s.data.toList),sp,?_,rU _ _ _,?_,?_,hcm⟩,hF⟩
     · rw [setRow_heap _ _ _ _ _ _ hb]
       congr 3
       unfold dp
       show (Lib.byteCells l++sp).take o++Lib.byteCells s.data.toList++(Lib.byteCells l++sp).drop (o+s.size)=_
       rw [List.take_append_of_le_length (by rw [hlb];omega),List.drop_append_of_le_length (by rw [hlb];omega),← List.append_assoc]
       congr 1
       simp [Lib.byteCells,List.map_drop,List.map_take]
     · rw [List.length_append]
       have:(Lib.byteCells (dp l o s.data.toList)).length=l.length:=by simp [Lib.byteCells,hl']
       rw [this]
       rw [List.length_append,hlb] at hcap;exact hcap
     · rw [List.length_map,hl'];rw [List.length_map] at hrc;exact hrc
theorem aan{s:Sta}{fn:Func}{r r' r2:ResultVar}{v v' v2:Value}{R:Value→List Per→List Res→Prop}{e:Exit}(lp lh:List Nat)(ok:okH s.hp lh=true)(hr:fn.results = #[r,r',r2])(h1:RV P s r v)(h2:RV P s r' v')(h3:RV P s r2 v2)(h:R (.tuple #[v,v',v2]) (dw s.ps lp) (bH s.hp lh))(he:e=.normal∨e=.ret):ff P fn R e s :=
 ⟨he,.tuple #[v,v',v2],lp,lh,ok,fun a w S fp hst henv=>by
   have h1:=h1 a w S fp hst henv
   have h2:=h2 a w S fp hst henv
   have h3:=h3 a w S fp hst henv
   cases r' with
   | tmp u =>
     cases r2 with
     | tmp u2 =>
       cases r with
       | tmp t=>simp only [results,hr];simp at h1 h2 h3;simp [h1,h2,h3]
       | cell b t=>obtain ⟨ad,g1,g2⟩:=h1;simp only [results,hr];simp at g1 h2 h3;simp [g1,g2,h2,h3,dv]
     | cell b2 t2 =>
       obtain ⟨ad2,k1,k2⟩:=h3
       cases r with
       | tmp t=>simp only [results,hr];simp at h1 h2 k1;simp [h1,h2,k1,k2,dv]
       | cell b t=>obtain ⟨ad,g1,g2⟩:=h1;simp only [results,hr];simp at g1 h2 k1;simp [g1,g2,h2,k1,k2,dv]
   | cell b' t' =>
     obtain ⟨ad',q1,q2⟩:=h2
     cases r2 with
     | tmp u2 =>
       cases r with
       | tmp t=>simp only [results,hr];simp at h1 q1 h3;simp [h1,q1,q2,h3,dv]
       | cell b t=>obtain ⟨ad,g1,g2⟩:=h1;simp only [results,hr];simp at g1 q1 h3;simp [g1,g2,q1,q2,h3,dv]
     | cell b2 t2 =>
       obtain ⟨ad2,k1,k2⟩:=h3
       cases r with
       | tmp t=>simp only [results,hr];simp at h1 q1 k1;simp [h1,q1,q2,k1,k2,dv]
       | cell b t=>obtain ⟨ad,g1,g2⟩:=h1;simp only [results,hr];simp at g1 q1 k1;simp [g1,g2,q1,q2,k1,k2,dv],h⟩
end
section
variable {P:Program} {n:Fr} {env:Env} {ps ps':List Per} {hp hp':List Res} {c:Code} {Q:Exit→Sta→Prop}
theorem fw(hS:StE ps hp ps' hp')(h:awp P n c Q ⟨env,ps',hp'⟩):awp P n c Q ⟨env,ps,hp⟩:=fun w S fp a hst he hn hd=>by
 obtain ⟨S2,f2,a1,a2,a3,a4⟩:=hS w S fp hst
 have hE:Evo w S (tot fp hp.length) w S2:=⟨rfl,rfl,rfl,Nat.le_refl _,Nat.le_refl _,fun _ _ _=>rfl,a2,fun b hb=>(a3 b hb).imp id .inl⟩
 exact cx (fun e a2' w2 hp2=>hp2.trans hE (fun b hb=>.inl (a4 b hb))) (h w _ _ a a1 he hn hd)
theorem Con.ofSt{β:Type}{f:FuncId}{args:List Value}{R:Value→List Per→List Res→Prop}(hp2:β→List Res)(hS:∀ w S fp,St w S fp ps hp→∃ x fp',St w S fp' ps (hp2 x)∧∀ b,tot fp' (hp2 x).length b→tot fp hp.length b)(h:∀ x,Con P f args ps (hp2 x) R):Con P f args ps hp R:=fun w S fp hst=>by
 obtain ⟨x,f2,a1,a2⟩:=hS w S fp hst
 exact (h x w S f2 a1).mono fun e w' ⟨v,ps',hp',S',fp',he,hR,hst',hE,hg⟩=>⟨v,ps',hp',S',fp',he,hR,hst',hE.wider a2,fun b hb=>(hg b hb).imp (a2 b) id⟩
theorem StE.ofStars(m k:Nat){L:List Res}{R:Res}(hm:hp[m]? = some (bR L))(hk:L[k]? = some R):StE ps hp ps (hp.set m R++[bR (L.set k emp)]):=.of fun w S fp hst=>by
 have hml:=(List.getElem?_eq_some_iff.1 hm).1
 have h1:=hst.change hml (Nat.le_refl _) (fun _ _ _=>rfl) (dN R (bR (L.set k emp))) (iI L k _ hk (hst.res m _ hm))
 obtain ⟨f2,a1,a2⟩:=h1.split (i:=m) (R:=R) (R':=bR (L.set k emp)) (by rw [List.getElem?_set_self hml])
 rw [List.set_set] at a1 a2
 exact ⟨f2,a1,fun b hb=>by have:=a2 b hb;rwa [List.length_set] at this⟩
theorem StE.toStars(i m k:Nat){L:List Res}{R:Res}(hi:hp[i]? = some R)(hm:hp[m]? = some (bR (L.set k emp)))(hk:k<L.length)(hne:(i == m)=false):StE ps hp ps ((hp.set i (bR (L.set k R))).set m emp):=by
 have hne':i≠m:=by simpa using hne
 have hil:=(List.getElem?_eq_some_iff.1 hi).1
 refine (StE.star i m hi hm hne).trans ?_
 have:=StE.conv (ps:=ps) (hp:=(hp.set i (dN R (bR (L.set k emp)))).set m emp) i (R:=dN R (bR (L.set k emp))) (bR (L.set k R)) (by rw [List.getElem?_set_ne (Ne.symm hne'),List.getElem?_set_self hil]) (fun w S F hh=>lX L k F hk hh)
 rwa [List.set_comm _ _ (Ne.symm hne'),List.set_set] at this
end
end Go.Sy
namespace Go.Proofs.YtfkcmbonmpcbfaaGreat
open Go.RowKit Go.Lp Go.Sy Go.Lv
open Go.Proofs.Tryz
abbrev lQ(a:Ar)(v:Value):List Value:=[.int .i64 a.at_,.int .i64 a.size,.int .i64 a.kind,.int .i64 a.owner,.int .i64 a.mod,v]
abbrev xb(a:Ar)(v:Value):List D:=[.v (.int .i64 a.at_),.v (.int .i64 a.size),.v (.int .i64 a.kind),.v (.int .i64 a.owner),.v (.int .i64 a.mod),.v v]
abbrev sg(a:Ar):Value:=.agg #[.int .i64 a.at_,.int .i64 a.size,.int .i64 a.kind,.int .i64 a.owner,.int .i64 a.mod]
def b7(M:Mem)(vs:List Value):List (List D):=List.zipWith (fun x v=>xb x.1 v) M vs
def yX(x:Cell)(v:Value):Res:=az v 5 1 (x.2.map pL)
def ed(M:Mem)(vs:List Value):List Res:=List.zipWith yX M vs
theorem eh{M:Mem}{vs:List Value}(h:vs.length=M.length):(b7 M vs).length=M.length:=by simp [b7,h]
theorem ef{M:Mem}{vs:List Value}{k:Nat}{x:Cell}{v:Value}(hx:M[k]? = some x)(hv:vs[k]? = some v):(b7 M vs)[k]? = some (xb x.1 v):=by unfold b7;rw [List.getElem?_zipWith,hx,hv]
theorem gn{M:Mem}{vs:List Value}(h:vs.length=M.length):(ed M vs).length=M.length:=by simp [ed,h]
theorem fS{M:Mem}{vs:List Value}{k:Nat}{x:Cell}{v:Value}(hx:M[k]? = some x)(hv:vs[k]? = some v):(ed M vs)[k]? = some (az v 5 1 (x.2.map pL)):=by unfold ed;rw [List.getElem?_zipWith,hx,hv];rfl
theorem sx{x:Cell}{v:Value} : ∀ (M:Mem) (vs:List Value) (k:Nat),ed (M.set k x) (vs.set k v)=(ed M vs).set k (yX x v)
 | [],_,_=>by simp [ed]
 | _::_,[],_=>by simp [ed]
 | a::M,b::vs,0=>rfl
 | a::M,b::vs,k+1=>by
   have:=sx (x:=x) (v:=v) M vs k
   unfold ed at this ⊢
   simp only [List.set_cons_succ,List.zipWith_cons_cons,this]
theorem jy{α:Type} : ∀ l:List α,(List.range l.length).filterMap (fun i=>l[i]?)=l
 | []=>rfl
 | a::l=>by
   rw [List.length_cons,List.range_succ_eq_map]
   simp only [List.filterMap_cons,List.getElem?_cons_zero,List.filterMap_map,Function.comp_def,List.getElem?_cons_succ]
   rw [jy l]
theorem pa{α:Type}{l:List α}{k:Nat}{v:α}(h:l[k]? = some v):l.set k v=l:=by
 obtain ⟨h1,rfl⟩:=List.getElem?_eq_some_iff.1 h
 exact List.set_getElem_self h1
abbrev opn(p:Nat)(v:Value)(M:Mem)(vs:List Value):List Res:=[Box p 117 [v],az v 135 6 (b7 M vs),bR (ed M vs)]
def SpO(p:Nat)(v:Value)(M:Mem)(vs:List Value):Res:=dN (Box p 117 [v]) (dN (az v 135 6 (b7 M vs)) (bR (ed M vs)))
def SpR(p:Nat)(M:Mem):Res :=
 ⟨fun w S F=>∃ (v:Value) (vs:List Value),vs.length=M.length∧(SpO p v M vs).holds w S F,fun ⟨v,vs,h0,h⟩ h1 h2 h3=>⟨v,vs,h0,(SpO p v M vs).mono h h1 h2 h3⟩⟩
structure OkV (M:Mem) (vs:List Value):Prop where
 len:vs.length=M.length
 sl:∀ {k:Nat} {x:Cell} {u:Value},M[k]? = some x→vs[k]? = some u→∃ ad c,u=.slice ad x.2.length c
theorem ada{p:Nat}{v:Value}{M:Mem}{vs:List Value}{w:World}{S F:aW}(h0:vs.length=M.length)(h:(SpO p v M vs).holds w S F):OkV M vs:=⟨h0,fun hx hu=>by
 obtain ⟨_,H,_,⟨_,H2,_,h2,_,_⟩,_,_⟩:=h
 obtain ⟨G,_,ho⟩:=lW _ _ h2 _ _ (fS hx hu)
 obtain ⟨ad,c,e⟩:=yT ho
 exact ⟨ad,c,by rw [e,List.length_map]⟩⟩
section
variable {P:Program} {n:Fr} {env:Env} {ps:List Per} {hp:List Res} {c:Code} {Q:Exit→Sta→Prop} {p:Nat} {M:Mem}
theorem zp(i:Nat)(hi:hp[i]? = some (SpR p M)):∀ w S fp,St w S fp ps hp→∃ (x : {y:Value × List Value // OkV M y.2}) (fp':Nat→aW),St w S fp' ps ((hp.set i (Box p 117 [x.1.1])++[az x.1.1 135 6 (b7 M x.1.2)])++[bR (ed M x.1.2)])∧∀ b,tot fp' ((hp.set i (Box p 117 [x.1.1])++[az x.1.1 135 6 (b7 M x.1.2)])++[bR (ed M x.1.2)]).length b→tot fp hp.length b:=fun w S fp hst=>by
 have hil:=(List.getElem?_eq_some_iff.1 hi).1
 obtain ⟨v,vs,h0,hh⟩:=hst.res i _ hi
 have h1:=hst.change hil (Nat.le_refl _) (fun _ _ _=>rfl) (SpO p v M vs) hh
 obtain ⟨f2,a1,a2⟩:=h1.split (i:=i) (R:=Box p 117 [v]) (R':=dN (az v 135 6 (b7 M vs)) (bR (ed M vs))) (by rw [List.getElem?_set_self hil];rfl)
 rw [List.set_set] at a1 a2
 obtain ⟨f3,b1,b2⟩:=a1.split (i:=hp.length) (R:=az v 135 6 (b7 M vs)) (R':=bR (ed M vs)) (by rw [List.getElem?_append_right (by simp)];simp)
 have e:((hp.set i (Box p 117 [v])++[dN (az v 135 6 (b7 M vs)) (bR (ed M vs))]).set hp.length (az v 135 6 (b7 M vs)))=hp.set i (Box p 117 [v])++[az v 135 6 (b7 M vs)]:=by
   rw [List.set_append_right _ _ (by simp)];simp
 rw [e] at b1 b2
 exact ⟨⟨(v,vs),ada h0 hh⟩,f3,b1,fun b hb=>by have:=a2 b (b2 b hb);rwa [List.length_set] at this⟩
theorem u7{f:FuncId}{args:List Value}{R:Value→List Per→List Res→Prop}(h:∀ v vs,OkV M vs→Con P f args ps (opn p v M vs) R):Con P f args ps [SpR p M] R :=
 Con.ofSt (fun x : {y:Value × List Value // OkV M y.2} => opn p x.1.1 M x.1.2) (zp 0 rfl) fun x=>h _ _ x.2
theorem uh(i j m:Nat){v:Value}{vs:List Value}(hi:hp[i]? = some (Box p 117 [v]))(hj:hp[j]? = some (az v 135 6 (b7 M vs)))(hm:hp[m]? = some (bR (ed M vs)))(hij:(i == j)=false)(him:(i == m)=false)(hjm:(j == m)=false)(hl:vs.length=M.length) :
   StE ps hp ps (((hp.set j emp).set m emp).set i (SpR p M)):=by
 have hij':i≠j:=by simpa using hij
 have him':i≠m:=by simpa using him
 have hjm':j≠m:=by simpa using hjm
 have hil:=(List.getElem?_eq_some_iff.1 hi).1
 have hjl:=(List.getElem?_eq_some_iff.1 hj).1
 refine (StE.star j m hj hm hjm).trans ((StE.star i j (R:=Box p 117 [v]) (R':=dN (az v 135 6 (b7 M vs)) (bR (ed M vs))) ?_ ?_ hij).trans ?_)
 · rw [List.getElem?_set_ne (Ne.symm him'),List.getElem?_set_ne (Ne.symm hij')];exact hi
 · rw [List.getElem?_set_ne (Ne.symm hjm'),List.getElem?_set_self hjl]
 · have:=StE.conv (ps:=ps) (hp:=((((hp.set j (dN (az v 135 6 (b7 M vs)) (bR (ed M vs)))).set m emp).set i (SpO p v M vs)).set j emp)) i (R:=SpO p v M vs) (SpR p M) (by rw [List.getElem?_set_ne (Ne.symm hij'),List.getElem?_set_self (by simpa using hil)]) (fun w S F hh=>⟨v,vs,hl,hh⟩)
   have e:((((hp.set j (dN (az v 135 6 (b7 M vs)) (bR (ed M vs)))).set m emp).set i (SpO p v M vs)).set j emp).set i (SpR p M)=((hp.set j emp).set m emp).set i (SpR p M):=by
     apply List.ext_getElem?
     intro q
     simp only [List.getElem?_set,List.length_set]
     by_cases h1:i=q
     · simp [h1]
     · by_cases h2:j=q
       · subst h2;simp [h1,Ne.symm hjm',hjm']
       · by_cases h3:m=q
         · simp [h1,h2,h3]
         · simp [h1,h2,h3]
   rw [e] at this;exact this
theorem u6{f:FuncId}{args:List Value}{R:Mem→Value→List Per→List Res→Prop}(h:∀ v vs,OkV M vs→Con P f args ps (opn p v M vs) fun r ps' hp'=>∃ M' v' vs' L,vs'.length=M'.length∧hp'=opn p v' M' vs'++L∧R M' r ps' L) :
   Con P f args ps [SpR p M] fun r ps' hp'=>∃ M' L,hp'=SpR p M'::L∧R M' r ps' L :=
 (u7 h).conv fun r ps' hp' ⟨M',v',vs',L,h1,h2,h3⟩=>by
   subst h2
   refine ⟨ps',SpR p M'::L,(uh 0 1 2 rfl rfl rfl rfl rfl rfl h1).trans ?_,M',L,rfl,h3⟩
   have:=StE.keep (ps:=ps') (hp:=SpR p M'::emp::emp::L) (List.range ps'.length).reverse (0::(List.range L.length).map (· + 3)) (by
     simp only [okH,Bool.and_eq_true,decide_eq_true_eq]
     refine ⟨List.all_eq_true.2 fun x hx => ?_,?_⟩
     · rcases List.mem_cons.1 hx with rfl | hx
       · simp
       · obtain ⟨y,hy,rfl⟩:=List.mem_map.1 hx
         have:=List.mem_range.1 hy
         simp;omega
     · rw [List.nodup_cons]
       refine ⟨fun hx=>by obtain ⟨y,_,hy⟩:=List.mem_map.1 hx;omega,?_⟩
       rw [List.nodup_iff_pairwise_ne,List.pairwise_map]
       exact (List.nodup_iff_pairwise_ne.1 List.nodup_range).imp fun h e=>h (by omega))
   have e1:dw ps' (List.range ps'.length).reverse=ps':=by
     unfold dw
     rw [List.filterMap_reverse,show ps'.length=ps'.reverse.length by simp,jy,List.reverse_reverse]
   have e2:bH (SpR p M'::emp::emp::L) (0::(List.range L.length).map (· + 3))=SpR p M'::L:=by
     unfold bH
     rw [List.map_cons,List.map_map]
     congr 1
     apply List.ext_getElem
     · simp
     · intro k h1 h2
       simp [h2]
   rwa [e1,e2] at this
end
attribute [local irreducible] aL aB awp aC fwp Quiet
theorem mg(a:Ar)(v:Value)(t:Int):Con Tryz.prog 263 [.agg (lQ a v).toArray,.int .i64 t] [] [] fun r _ _=>r=.int .i64 (jO a.at_ t):=by
 refine EN2 Tryz.func263 rfl (aSR (LT rfl (bC rfl rfl rfl (fun b0_0=>(aHN ?_)))))
 refine aA rfl (aNn (aSR (UO 0 rfl rfl (UO 0 rfl rfl (UL 0 tk3 rfl rfl rfl rfl (aM rfl (aU rfl (Q0 rfl (kr a.at_ t)) (aA rfl (aNn (aj (FZ1 [] Tryz.results263 rfl ?_)))))))))))
 rfl
theorem xL{a b:Int} : jO a b=0↔a=b:=by unfold jO;constructor<;>intro h<;>(repeat' split at h)<;>(repeat' split)<;>omega
theorem tQ{M:Mem}{vs:List Value}{k:Nat}(h:vs.length=M.length)(hk:k<M.length):(b7 M vs)[k]? = some (xb (M.getD k default).1 (vs.getD k undef)):=ef (by simp [List.getD,hk]) (by simp [List.getD,h,hk])
abbrev acw:Value:=.func (.func 263) #[] #[]
theorem abJ(M:Mem)(vs:List Value)(hvs:vs.length=M.length)(v:Value)(t:Int)(hM:dC M)(hl:M.length≤4096) :
   Con Tryz.prog 262 [v,.int .i64 t,acw] [] [az v 135 6 (b7 M vs)] fun r ps hp=>ps=[]∧hp=[az v 135 6 (b7 M vs)]∧∃ k,LoM M t k∧r=.tuple #[.int .i64 k,.bool (jT M t k)]:=by
 have hlr:=eh hvs
 refine EN3 Tryz.func262 rfl (aSR (aA rfl (aA rfl (aNn (aSR (aM rfl ?_))))))
 refine aU rfl ((dA 0 Tryz.underlying115 rfl rfl).castV (v':=.int .i64 M.length) (by rw [hlr])) ?_
 refine aA rfl (aNn (aSR (aM rfl (aA rfl (aA rfl (aNs (ao ?_)))))))
 refine aP [0,1,2,8,9,10] [] [0] (fun (q:Nat × Nat) s=>(q.1≤q.2∧q.2≤M.length∧(∀ (a:Nat) (x:Cell),a<q.1→M[a]? = some x→x.1.at_<t)∧∀ (a:Nat) (x:Cell),q.2≤a→M[a]? = some x→t≤x.1.at_)∧s=⟨[(0,true,v),(1,true,.int .i64 t),(2,true,acw),(8,true,.int .i64 M.length),(9,true,.int .i64 q.1),(10,true,.int .i64 q.2)],[],[az v 135 6 (b7 M vs)]⟩) (fun q=>q.2-q.1) rfl (⟨(0,M.length),⟨Nat.zero_le _,Nat.le_refl _,fun a x h=>absurd h (Nat.not_lt_zero _),fun a x h hx=>absurd (List.getElem?_eq_some_iff.1 hx).1 (by omega)⟩,rfl⟩) ?_
 rintro ⟨i,j⟩ s ⟨⟨hij,hj,hlo,hhi⟩,rfl⟩
 dsimp only at hij hj hlo hhi
 refine aq (aSR (aM rfl (aM rfl (aU rfl (bd rfl rfl) (aNn ?_)))))
 refine ah _ rfl (fun h1 => ?_) (fun h1 => ?_)
 ·skip
  have hlt:i<j:=by simpa using h1
  obtain ⟨x,hx⟩:∃ x,M[(i+j) / 2]? = some x:=⟨_,List.getElem?_eq_getElem (by omega)⟩
  obtain ⟨u,hu⟩:∃ u,vs[(i+j) / 2]? = some u:=⟨_,List.getElem?_eq_getElem (by omega)⟩
  refine ai (ak (ao (aSR (aM rfl (aM rfl (aU rfl (aO rfl rfl (by omega)) ?_))))))
  refine aU rfl ((gi (by kernel_rfl) Tryz.underlying305 rfl).castV (v':=.int .u64 ((i+j:Nat):Int)) (congrArg (Value.int .u64) (by rw [IntKind.wrap_u64];omega))) ?_
  refine aU rfl ((acC rfl rfl (by decide)).castV (v':=.int .u64 (((i+j) / 2:Nat):Int)) (congrArg (Value.int .u64) (by rw [show min (1:Int).toNat IntKind.u64.bits=1 from rfl,Int.fdiv_eq_ediv_of_nonneg _ (by decide)];omega))) ?_
  refine aU rfl ((gi (by kernel_rfl) Tryz.underlying3 rfl).castV (v':=.int .i64 (((i+j) / 2:Nat):Int)) (congrArg (Value.int .i64) (by rw [IntKind.wrap_i64];omega))) ?_
  refine aA rfl (aNn (aSR (aM rfl (aM rfl (aM rfl (aU rfl (bA 0 ((i+j) / 2) el115 rfl rfl rfl rfl (by omega)) (aU rfl (ba 0 ((i+j) / 2) 0 tk135 rfl rfl (ef hx hu) rfl rfl) (aM rfl (aU rfl (fD (by kernel_rfl) rfl rfl (fun w S fp hst=>(mg x.1 u t).quiet0 hst)) (aU rfl (bd rfl rfl) (aNn ?_)))))))))))
  refine ah _ rfl (fun h2 => ?_) (fun h2 => ?_)
  ·skip
   have hxt:x.1.at_<t:=(kq _ _).1 (by simpa using h2)
   refine ae (aM rfl (aU rfl (aO rfl rfl (by omega)) (aA rfl (bE (bb (ak ?_))))))
   refine ⟨[0,1,2,8,9,10],[],[0],rfl,?_⟩
   refine ⟨((i+j) / 2+1,j),⟨⟨by dsimp only;omega,hj,fun a y ha hy => ?_,hhi⟩,rfl⟩,by dsimp only;omega⟩
   have:=hM.mono hy hx (by omega);omega
  ·skip
   have hxt:t≤x.1.at_:=Int.not_lt.1 fun h=>absurd ((kq _ _).2 h) (by simpa using h2)
   refine ae (aM rfl (aA rfl (bE (bb (ak ?_)))))
   refine ⟨[0,1,2,8,9,10],[],[0],rfl,?_⟩
   refine ⟨(i,(i+j) / 2),⟨⟨by dsimp only;omega,by dsimp only;omega,hlo,fun a y ha hy => ?_⟩,rfl⟩,by dsimp only;omega⟩
   have:=hM.mono hx hy ha;omega
 ·skip
  refine aQ (aR (aR (aX (ak (aSR (aM rfl (aM rfl (aM rfl (aU rfl (bd rfl rfl) (aM rfl (aG rfl rfl (fun hc=>ax rfl) (aG rfl rfl (fun hc=>ax rfl) (aG rfl rfl (fun hc=>ax rfl) ?_)))))))))))))
  refine aG rfl rfl (fun hc=>bA 0 i el115 (aa rfl hc) rfl (aa rfl hc) rfl (by simp at hc;omega)) ?_
  refine aG rfl rfl (fun hc=>ba 0 i 0 tk135 (aa rfl hc) rfl (tQ hvs (by simp at hc;omega)) rfl rfl) ?_
  refine aG rfl rfl (fun hc=>ax rfl) (aG rfl rfl (fun hc=>fD (by kernel_rfl) (aa rfl hc) (aD (aa rfl hc) (aD (aa rfl hc) rfl)) (fun w S fp hst=>(mg (M.getD i default).1 (vs.getD i undef) t).quiet0 hst)) (aG rfl rfl (fun hc=>bp (aa rfl hc) rfl) (aU rfl (aT rfl rfl (fun h=>gt rfl h)) (aA rfl (aA rfl (aNn (aj (FZ2 [0] Tryz.results262 rfl rfl ?_))))))))
  obtain rfl:i=j:=by have:=(by simpa using h1:¬ i<j);omega
  refine ⟨rfl,rfl,i,⟨hj,hlo,hhi⟩,congrArg (fun b=>Value.tuple #[.int .i64 i,.bool b]) ?_⟩
  unfold jT
  by_cases hi:i<M.length
  · rw [List.getElem?_eq_getElem hi]
    simp [hi,List.getD,xL]
  · rw [List.getElem?_eq_none (by omega)]
    simp [hi]
abbrev op2(p:Nat)(v:Value)(M:Mem)(vs:List Value):List Res:=[Box p 117 [v],az v 135 6 (b7 M vs)]
theorem iC(p:Nat)(M:Mem)(vs:List Value)(hvs:OkV M vs)(v:Value)(t:Int)(hM:dC M)(hl:M.length≤4096) :
   Con Tryz.prog 191 [.pointer (some ⟨p,0,none⟩),.int .i64 t] [] (op2 p v M vs) fun r ps hp=>ps=[]∧hp=op2 p v M vs∧∃ k,LoM M t k∧r=.tuple #[.int .i64 k,.bool (jT M t k)]:=by
 refine EN2 Tryz.func191 rfl (aSR (aA rfl (aA rfl (aNn (aSR (aM rfl (UN rfl rfl (UO 0 rfl rfl (UL 0 tk115 rfl rfl rfl rfl (aM rfl (LF rfl (EC [] [1] rfl (abJ M vs hvs.len v t hM hl) ?_))))))))))))
 rintro _ _ _ ⟨rfl,rfl,k,hk,rfl⟩
 refine aST ?_
 refine aU rfl (aI rfl rfl) (aU rfl (aI rfl rfl) (aA rfl (aA rfl (aNn (aj (FZ2 [0,1] Tryz.results191 rfl rfl ?_))))))
 exact ⟨rfl,rfl,k,hk,rfl⟩
def JM(M:Mem)(t z:Int):Prop:=(z = -1∧∀ size,dW M t size=none)∨∃ (j:Nat) (x:Cell),z=j∧M[j]? = some x∧x.1.at_≤t∧∀ size,dW M t size=if holds t size x.1=true then some x else none
theorem JM.hit{M:Mem}(h:dC M){t:Int}{k:Nat}(hk:LoM M t k)(hh:jT M t k=true):JM M t k:=by
 unfold jT at hh
 split at hh
 · rename_i x hx
   simp only [decide_eq_true_eq] at hh
   exact .inr ⟨k,x,rfl,hx,by omega,fun size=>(h.locate (size:=size) hk).1 x hx hh⟩
 · cases hh
theorem JM.miss{M:Mem}(h:dC M){t:Int}{k:Nat}(hk:LoM M t k)(hh:jT M t k=false):JM M t ((k:Int)-1):=by
 cases k with
 | zero=>exact .inl ⟨rfl,fun size=>((h.locate (size:=size) hk).2 hh).1 rfl⟩
 | succ j =>
   have hj:M[j]? = some (M[j]'(by have:=hk.le;omega)):=List.getElem?_eq_getElem _
   have:=fun size=>((h.locate (size:=size) hk).2 hh).2 j _ rfl hj
   exact .inr ⟨j,_,by omega,hj,by have:=(this 0).1;omega,fun size=>(this size).2⟩
def pQ(M:Mem)(vs:List Value)(t size:Int)(a:Ar)(u:Value)(b:Bool):Prop:=b=(dW M t size).isSome∧∀ x,dW M t size=some x→a=x.1∧∃ k:Nat,M[k]? = some x∧vs[k]? = some u
theorem iB(p:Nat)(M:Mem)(vs:List Value)(hvs:OkV M vs)(v:Value)(t size:Int)(ht:I64 t)(hM:dC M)(hl:M.length≤4096) :
   Con Tryz.prog 82 [.pointer (some ⟨p,0,none⟩),.int .i64 t,.int .i64 size] [] (op2 p v M vs) fun r ps hp=>ps=[]∧hp=op2 p v M vs∧∃ a ad nb cb b,pQ M vs t size a (.slice ad nb cb) b∧r=.tuple #[.agg (lQ a (.slice ad nb cb)).toArray,.bool b]:=by
 have hlr:=eh hvs.len
 unfold I64 at ht
 refine EN3 Tryz.func82 rfl (aSR (LT rfl (bg (zs:=[.int .i64 0,.int .i64 0,.int .i64 0,.int .i64 0,.int .i64 0,.slice none 0 0]) (by kernel_rfl) rfl (fun b0_0=>(aHN ?_)))))
 refine aA rfl (aNn (aSR (aM rfl (aM rfl (LF rfl (EC [] [0,1] rfl (iC p M vs hvs v t hM hl) ?_))))))
 rintro _ _ _ ⟨rfl,rfl,k,hk,rfl⟩
 refine aST ?_
 have hkl:=hk.le
 refine aM rfl (aU rfl (aI rfl rfl) (aU rfl (aI rfl rfl) (aA rfl (aA rfl (aNs ?_)))))
 refine fv (X := {z:Int // JM M t z}) (fun z=>⟨[(0,true,.pointer (some ⟨p,0,none⟩)),(1,true,.int .i64 t),(2,true,.int .i64 size),(6,true,.pointer (some ⟨b0_0,0,none⟩)),(8,true,.int .i64 z.1)],[],[Box p 117 [v],az v 135 6 (b7 M vs),Box b0_0 135 [.int .i64 0,.int .i64 0,.int .i64 0,.int .i64 0,.int .i64 0,.slice none 0 0]]⟩) ?_ ?_
 ·skip
  refine aSR (aM rfl (aU rfl (bX rfl) (aNn ?_)))
  refine ah _ rfl (fun h1 => ?_) (fun h1 => ?_)
  ·skip
   refine ae (aM rfl (aU rfl (bQ rfl rfl (by omega)) (aA rfl (aNn ?_))))
   first
   | exact ⟨[0,1,2,6,8],[],[0,1,2],⟨(k:Int)-1,JM.miss hM hk (by simpa using h1)⟩,rfl,rfl⟩
   | exact ⟨[0,1,2,6,8],[],[0,1,2],⟨k,JM.hit hM hk (by simpa using h1)⟩,rfl,rfl⟩
  ·skip
   refine ai (ak ?_)
   first
   | exact ⟨[0,1,2,6,8],[],[0,1,2],⟨(k:Int)-1,JM.miss hM hk (by simpa using h1)⟩,rfl,rfl⟩
   | exact ⟨[0,1,2,6,8],[],[0,1,2],⟨k,JM.hit hM hk (by simpa using h1)⟩,rfl,rfl⟩
 ·skip
  rintro ⟨z,hz⟩
  refine aq (aSR (aM rfl (aU rfl (bd rfl rfl) (aNn ?_))))
  refine ah _ rfl (fun h2 => ?_) (fun h2 => ?_)
  ·skip
   have hzn:z<0:=by simpa using h2
   refine aSR (aU rfl (eH (l:=[]) (zs:=[.int .i64 0,.int .i64 0,.int .i64 0,.int .i64 0,.int .i64 0,.slice none 0 0]) (pl:=[(0,5),(5,1)]) (by kernel_rfl) (by kernel_rfl) (by kernel_rfl) rfl rfl rfl) (aJ rfl (aV 2 tk135 rfl rfl rfl rfl (aHK ?_))))
   refine aA rfl (aNn (aj (aK ?_)))
   refine wQ [] [0,1] rfl Tryz.results82 (fE 2 tk135 rfl rfl rfl) (gR rfl) ?_ (.inr rfl)
   refine ⟨rfl,rfl,default,none,0,0,false,⟨?_,?_⟩,rfl⟩
   · rcases hz with ⟨_,h⟩ | ⟨j,x,rfl,_⟩
     · exact (congrArg Option.isSome (h size)).symm
     · omega
   · intro x hx
     rcases hz with ⟨_,h⟩ | ⟨j,x,rfl,_⟩
     · rw [h] at hx;cases hx
     · omega
  ·skip
   have hzn:0≤z:=by have:=(by simpa using h2:¬ z<0);omega
   obtain ⟨j,x,rfl,hx,hxt,hfx⟩:∃ (j:Nat) (x:Cell),z=j∧M[j]? = some x∧x.1.at_≤t∧∀ size,dW M t size=if holds t size x.1=true then some x else none:=by rcases hz with ⟨h,_⟩ | h;omega;exact h
   obtain ⟨u,hu⟩:∃ u,vs[j]? = some u:=⟨_,List.getElem?_eq_getElem (by have:=(List.getElem?_eq_some_iff.1 hx).1;have:=hvs.len;omega)⟩
   obtain ⟨ad,cu,rfl⟩:=hvs.sl hx hu
   have hok:=hM.ok hx
   refine ai (ak (aSR (aM rfl (UN rfl rfl (UO 0 rfl rfl (UL 0 tk115 rfl rfl rfl rfl (aM rfl ?_)))))))
   refine aU rfl (bA 1 j el115 rfl rfl rfl rfl (by have:=(List.getElem?_eq_some_iff.1 hx).1;omega)) ?_
   refine aU rfl (ba 1 j 0 tk135 rfl rfl (ef hx hu) rfl rfl) (LT rfl (bg (zs:=[.int .i64 0,.int .i64 0,.int .i64 0,.int .i64 0,.int .i64 0,.slice none 0 0]) (by kernel_rfl) rfl (fun b6_7=>(aHN ?_))))
   refine aJ rfl (aV 3 tk135 rfl rfl rfl rfl (aHK ?_))
   refine aNn (aSR (aM rfl (UO 0 rfl rfl (UO 0 rfl rfl (UL 3 tk3 rfl rfl rfl rfl (aU rfl (bQ rfl rfl (by omega)) (aA rfl (aNs (DC [15] [] [b6_7] 17 ?_)))))))))
   refine cq 0 3 rfl (by kernel_rfl) true rfl rfl (by simp) tk135 (fun _=>rfl) rfl rfl ?_
   refine CF 1 rfl rfl rfl (ax rfl) (CF 2 rfl rfl rfl (qFA (off:=0) rfl) (CF 3 rfl rfl rfl (qFA (off:=1) rfl) ?_))
   refine cq 4 3 rfl (by kernel_rfl) true rfl rfl (by simp) tk3 (fun _=>rfl) rfl rfl ?_
   refine CF 5 rfl rfl rfl (bd rfl rfl) (CF 6 rfl rfl rfl (ax rfl) (uz 7 rfl (by kernel_rfl) _ rfl rfl (fun hc=>ax rfl) (uz 8 rfl (by kernel_rfl) _ rfl rfl (fun hc=>qFA (off:=0) rfl) (uz 9 rfl (by kernel_rfl) _ rfl rfl (fun hc=>qFA (off:=1) (aa rfl hc)) ?_))))
   refine cq 10 3 rfl (by kernel_rfl) _ rfl rfl (by simp) tk3 (fun hc=>(aa rfl hc)) rfl rfl ?_
   refine uz 11 rfl (by kernel_rfl) _ rfl rfl (fun hc=>ax rfl) ?_
   refine uz 12 rfl (by kernel_rfl) _ rfl rfl (fun hc=>bQ (aa rfl hc) (aa rfl hc) (by (first | omega | (simp at hc;omega)))) ?_
   refine uz 13 rfl (by kernel_rfl) _ rfl rfl (fun hc=>di (aa rfl hc) (aa rfl hc)) (CF 14 rfl rfl rfl (aT rfl rfl (fun h=>gt rfl h)) ?_)
   refine bP 15 [] (by kernel_rfl) (bo ?_ bD)
   refine cj 15 rfl rfl (Eff.framed (q:=false) [2] rfl rfl (eK 3 rfl rfl iK) (id (aV 0 tk135 rfl rfl rfl rfl (fA (CST ?_)))))
   refine CF 16 rfl rfl rfl (bz rfl) (ec (by kernel_rfl) (ak (aj ?_)))
   refine wQ [] [0,1] rfl Tryz.results82 (fE 2 tk135 rfl rfl rfl) (gR rfl) ?_ (.inr rfl)
   refine ⟨rfl,rfl,x.1,ad,x.2.length,cu,holds t size x.1,⟨?_,?_⟩,?_⟩
   · rw [hfx];split<;>simp [*]
   · intro y hy
     rw [hfx] at hy
     split at hy
     · obtain rfl:=Option.some.inj hy;exact ⟨rfl,j,hx,hu⟩
     · cases hy
   · rw [aaq hxt]
theorem pQ.no{M:Mem}{vs:List Value}{t size:Int}{a:Ar}{u:Value}(h:pQ M vs t size a u false):dW M t size=none:=by
 cases hm:dW M t size with
 | none=>rfl
 | some x=>have:=h.1;rw [hm] at this;cases this
theorem pQ.yes{M:Mem}{vs:List Value}{t size:Int}{a:Ar}{u:Value}(h:pQ M vs t size a u true):∃ (k:Nat) (x:Cell),dW M t size=some x∧a=x.1∧M[k]? = some x∧vs[k]? = some u:=by
 cases hm:dW M t size with
 | none=>have:=h.1;rw [hm] at this;cases this
 | some x=>obtain ⟨e,k,h1,h2⟩:=h.2 x hm;exact ⟨k,x,rfl,e,h1,h2⟩
theorem u9(p:Nat)(M:Mem)(vs:List Value)(hvs:OkV M vs)(v:Value)(t:Int)(ht:I64 t)(hM:dC M)(hl:M.length≤4096) :
   Con Tryz.prog 26 [.pointer (some ⟨p,0,none⟩),.int .i64 t] [] (op2 p v M vs) fun r ps hp=>ps=[]∧hp=op2 p v M vs∧r=.tuple #[sg (kg M t).1,.bool (kg M t).2]:=by
 refine EN2 Tryz.func26 rfl (aSR (LT rfl (bg (zs:=[.int .i64 0,.int .i64 0,.int .i64 0,.int .i64 0,.int .i64 0]) (by kernel_rfl) rfl (fun b0_0=>(aHN ?_)))))
 refine aA rfl (aNn (aSR (aM rfl (aM rfl (LF rfl (EC [] [0,1] rfl (iB p M vs hvs v t 1 ht hM hl) ?_))))))
 rintro _ _ _ ⟨rfl,rfl,a,ad,nb,cb,b,hF,rfl⟩
 refine aST ?_
 refine aM rfl (aU rfl (aI rfl rfl) (aU rfl (aI rfl rfl) (LT rfl (bg (zs:=[.int .i64 0,.int .i64 0,.int .i64 0,.int .i64 0,.int .i64 0,.slice none 0 0]) (by kernel_rfl) rfl (fun b1_6=>(aHN ?_))))))
 refine aJ rfl (aV 3 tk135 rfl rfl rfl rfl (aHK ?_))
 refine aA rfl (aNs (aSR (aM rfl (aU rfl (bX rfl) (aNn ?_)))))
 refine ah _ rfl (fun h1 => ?_) (fun h1 => ?_)
 ·skip
  obtain rfl:b=false:=by simpa using h1
  refine aSR (aU rfl (eH (l:=[]) (zs:=[.int .i64 0,.int .i64 0,.int .i64 0,.int .i64 0,.int .i64 0]) (pl:=[(0,1),(1,1),(2,1),(3,1),(4,1)]) (by kernel_rfl) (by kernel_rfl) (by kernel_rfl) rfl rfl rfl) (aJ rfl (aV 2 tk68 rfl rfl rfl rfl (aHK ?_))))
  refine aA rfl (aNn (aj (aK ?_)))
  refine wQ [] [0,1] rfl Tryz.results26 (fE 2 tk68 rfl rfl rfl) (gR rfl) ?_ (.inr rfl)
  exact ⟨rfl,rfl,by unfold kg;rw [hF.no]⟩
 ·skip
  obtain rfl:b=true:=by simpa using h1
  obtain ⟨k,x,hf,rfl,hx,hu⟩:=hF.yes
  refine ai (ak (aSR (UO 0 rfl rfl (UL 3 tk68 rfl rfl rfl rfl (aJ rfl (aV 2 tk68 rfl rfl rfl rfl (aHK ?_)))))))
  refine aA rfl (aNn (aj ?_))
  refine wQ [] [0,1] rfl Tryz.results26 (fE 2 tk68 rfl rfl rfl) (gR rfl) ?_ (.inr rfl)
  exact ⟨rfl,rfl,by unfold kg;rw [hf]⟩
theorem rq (p:Nat) (M:Mem) (vs:List Value) (hvs:OkV M vs) (v:Value) (t size:Int) (ht:I64 t) (hM:dC M) (hl:M.length≤4096) :
   Con Tryz.prog 195 [.pointer (some ⟨p,0,none⟩),.int .i64 t,.int .i64 size] [] (op2 p v M vs) fun r ps hp=>ps=[]∧hp=op2 p v M vs∧∃ a ad nb cb o,r=.tuple #[.agg (lQ a (.slice ad nb cb)).toArray,.int .i64 o,.int .i64 (kb M t size)]∧(kb M t size=0→o=t-a.at_∧pQ M vs t size a (.slice ad nb cb) true):=by
 unfold I64 at ht
 refine EN3 Tryz.func195 rfl (aSR (LT rfl (bg (zs:=[.int .i64 0,.int .i64 0,.int .i64 0,.int .i64 0,.int .i64 0,.slice none 0 0]) (by kernel_rfl) rfl (fun b0_0=>(aHN ?_)))))
 refine aA rfl (aA rfl (aNs (aSR (aM rfl (aU rfl (dE rfl rfl) (aM rfl (aG rfl rfl (fun hc=>ax rfl) (aG rfl rfl (fun hc=>dE (aa rfl hc) rfl) (aU rfl (aT rfl rfl (fun h=>gt rfl h)) (aNn ?_))))))))))
 refine ah _ rfl (fun h1 => ?_) (fun h1 => ?_)
 ·skip
  refine aSR (aU rfl (eH (l:=[]) (zs:=[.int .i64 0,.int .i64 0,.int .i64 0,.int .i64 0,.int .i64 0,.slice none 0 0]) (pl:=[(0,5),(5,1)]) (by kernel_rfl) (by kernel_rfl) (by kernel_rfl) rfl rfl rfl) (aJ rfl (aV 2 tk135 rfl rfl rfl rfl (aHK ?_))))
  refine aA rfl (aA rfl (aNn (aj (aK ?_))))
  refine aan [] [0,1] rfl Tryz.results195 (fE 2 tk135 rfl rfl rfl) (gR rfl) (gR rfl) ?_ (.inr rfl)
  have hac:kb M t size=1:=by unfold kb;rw [if_pos (by simp at h1;omega)]
  exact ⟨rfl,rfl,default,none,0,0,0,by rw [hac];rfl,fun h=>by rw [hac] at h;cases h⟩
 ·skip
  have hsz:size=1∨size=8:=by simp at h1;omega
  refine ai (ak (aSR (aM rfl (aM rfl (aM rfl (LF rfl (EC [] [0,1] rfl (iB p M vs hvs v t size ht hM hl) ?_)))))))
  rintro _ _ _ ⟨rfl,rfl,a,ad,nb,cb,b,hF,rfl⟩
  refine aST ?_
  refine aM rfl (aU rfl (aI rfl rfl) (aU rfl (aI rfl rfl) (LT rfl (bg (zs:=[.int .i64 0,.int .i64 0,.int .i64 0,.int .i64 0,.int .i64 0,.slice none 0 0]) (by kernel_rfl) rfl (fun b3_7=>(aHN ?_))))))
  refine aJ rfl (aV 3 tk135 rfl rfl rfl rfl (aHK ?_))
  refine aA rfl (aNs (aSR (aM rfl (aU rfl (bX rfl) (aM rfl (aG rfl rfl (fun hc=>ax rfl) (aG rfl rfl (fun hc=>bp (aa rfl hc) rfl) (aG rfl rfl (fun hc=>ax (aa rfl hc)) (aG rfl rfl (fun hc=>ax rfl) (aG rfl rfl (fun hc=>mz (aa rfl hc) rfl (by decide)) (aG rfl rfl (fun hc=>dE (aa rfl hc) rfl) (aG rfl rfl (fun hc=>aT (aa rfl hc) rfl (fun h=>gt hc h)) (aU rfl (cC rfl rfl (fun h=>gf rfl h)) (aNn ?_))))))))))))))
  refine ah _ rfl (fun h2 => ?_) (fun h2 => ?_)
  ·skip
   have hac:kb M t size=6:=by
     unfold kb
     rw [if_neg (by omega)]
     by_cases h8:size=8∧t % 8≠0
     · rw [if_pos h8]
     · rw [if_neg h8]
       have hb:b=false:=by
         cases b with
         | false=>rfl
         | true =>
           exfalso
           simp at h2
           have:=acH t
           exact h8 ⟨h2.1,by omega⟩
       subst hb;rw [if_pos hF.no]
   refine aSR (aU rfl (eH (l:=[]) (zs:=[.int .i64 0,.int .i64 0,.int .i64 0,.int .i64 0,.int .i64 0,.slice none 0 0]) (pl:=[(0,5),(5,1)]) (by kernel_rfl) (by kernel_rfl) (by kernel_rfl) rfl rfl rfl) (aJ rfl (aV 2 tk135 rfl rfl rfl rfl (aHK ?_))))
   refine aA rfl (aA rfl (aNn (aj (aK ?_))))
   refine aan [] [0,1] rfl Tryz.results195 (fE 2 tk135 rfl rfl rfl) (gR rfl) (gR rfl) ?_ (.inr rfl)
   exact ⟨rfl,rfl,default,none,0,0,0,by rw [hac];rfl,fun h=>by rw [hac] at h;cases h⟩
  ·skip
   obtain rfl:b=true:=by cases b with | true=>rfl | false=>simp at h2
   have h8:¬ (size=8∧t % 8≠0):=by simp at h2;intro ⟨h3,h4⟩;have:=h2 h3;have:=acH t;omega
   obtain ⟨k,x,hf,hax,hx,hu⟩:=hF.yes
   obtain ⟨_,hb1,hb2,hb3⟩:=fb hf
   have hxo:=hM.ok hx
   have hac:kb M t size=0:=by unfold kb;rw [if_neg (by omega),if_neg h8,if_neg (by rw [hf];simp)]
   refine ai (ak (aq (DC [6] [] [b3_7] 9 ?_)))
   refine cq 0 3 rfl (by kernel_rfl) true rfl rfl (by simp) tk135 (fun _=>rfl) rfl rfl ?_
   refine CF 1 rfl rfl rfl (ax rfl) (CF 2 rfl rfl rfl (qFA (off:=0) rfl) (CF 3 rfl rfl rfl (qFA (off:=0) rfl) ?_))
   refine cq 4 3 rfl (by kernel_rfl) true rfl rfl (by simp) tk3 (fun _=>rfl) rfl rfl ?_
   refine CF 5 rfl rfl rfl (bQ rfl rfl (by rw [hax];omega)) ?_
   refine bP 6 [] (by kernel_rfl) (bo ?_ bD)
   refine cj 6 rfl rfl (Eff.framed (q:=false) [2] rfl rfl (eK 3 rfl rfl iK) (id (aV 0 tk135 rfl rfl rfl rfl (fA (CST ?_)))))
   refine CF 7 rfl rfl rfl (bz rfl) (CF 8 rfl rfl rfl (bz rfl) (ec (by kernel_rfl) (ak (aj ?_))))
   refine aan [] [0,1] rfl Tryz.results195 (fE 2 tk135 rfl rfl rfl) (gR rfl) (gR rfl) ?_ (.inr rfl)
   exact ⟨rfl,rfl,a,ad,nb,cb,_,by rw [hac],fun _=>⟨rfl,hF⟩⟩
end Go.Proofs.YtfkcmbonmpcbfaaGreat

