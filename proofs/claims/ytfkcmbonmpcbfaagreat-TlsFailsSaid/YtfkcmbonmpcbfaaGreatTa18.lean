/- Parts of the proof, in build order. No condition. -/
import Derived.Test.YtfkcmbonmpcbfaaGreatTa17
import Derived.Test.YtfkcmbonmpcbfaaGreatTa11
import Derived.Test.YtfkcmbonmpcbfaaGreatTa10
import Derived.Test.YtfkcmbonmpcbfaaGreatTa05
import Derived.Test.YtfkcmbonmpcbfaaGreatTa06
import Derived.Test.YtfkcmbonmpcbfaaGreatTa02
import Derived.Test.YtfkcmbonmpcbfaaGreatTa12
import Derived.Test.YtfkcmbonmpcbfaaGreatTa08
import Derived.Test.YtfkcmbonmpcbfaaGreatTa04
import Derived.Lib.FrozenHead
import Derived.Lib.MakeNoZero
set_option linter.unusedSimpArgs false
set_option linter.unusedVariables false
set_option maxHeartbeats 1000000
set_option maxRecDepth 20000
namespace Go.Proofs.YtfkcmbonmpcbfaaGreat
open Go.RowKit Go.Lp Go.Sy Go.Lv
open Go.Proofs.Tryz
attribute [local irreducible] aL aB awp aC fwp Quiet
theorem pb{ad:Option Addr}{n c:Nat}{B m cp:Nat}(h:(.slice ad n c:Value)=.slice (some ⟨B,0,none⟩) m cp):ad=some ⟨B,0,none⟩∧n=m∧c=cp:=by injection h with a b c;exact ⟨a,b,c⟩
theorem ve(p:Nat)(M:Mem)(vs:List Value)(hvs:OkV M vs)(v:Value)(t size:Int)(ht:I64 t)(hM:dC M)(hl:M.length≤4096) :
   Con Tryz.prog 63 [.pointer (some ⟨p,0,none⟩),.int .i64 t,.int .i64 size] [] (opn p v M vs) fun r ps hp=>ps=[]∧hp=opn p v M vs∧r=.tuple #[.string (bytesOf (kO M t size).1),.int .i64 (kO M t size).2]:=by
 refine EN3 Tryz.func63 rfl (aSR (aA rfl (aA rfl (aNs (ao (aSR (aM rfl (aU rfl (bd rfl rfl) (aA rfl (aNn ?_))))))))))
 refine ah _ rfl (fun h1 => ?_) (fun h1 => ?_)
 ·skip
  refine aSR (aA rfl (aA rfl (aNn (aj (bF (aK (FZ2 [0,1,2] Tryz.results63 rfl rfl ?_)))))))
  exact ⟨rfl,rfl,by unfold kO;rw [if_pos (by simpa using h1)];rfl⟩
 ·skip
  have hs0:0≤size:=by have:=(by simpa using h1:¬ size<0);omega
  refine aSR (aM rfl (aU rfl (bp rfl rfl) (aA rfl (aNn ?_))))
  refine ah _ rfl (fun h2 => ?_) (fun h2 => ?_)
  ·skip
   refine aSR (aA rfl (aA rfl (aNn (aj (bF (aK (FZ2 [0,1,2] Tryz.results63 rfl rfl ?_)))))))
   exact ⟨rfl,rfl,by unfold kO;rw [if_neg (by omega),if_pos (by simpa using h2)];rfl⟩
  ·skip
   have hs1:size≠0:=by simpa using h2
   refine ai (bb (ak (aSR (aM rfl (aM rfl (aM rfl (LF rfl (EC [] [0,1] rfl (iB p M vs hvs v t size ht hM hl) ?_))))))))
   rintro _ _ _ ⟨rfl,rfl,a,ad,nb,cb,b,hF,rfl⟩
   refine aST ?_
   refine aM rfl (aU rfl (aI rfl rfl) (aU rfl (aI rfl rfl) (LT rfl (bg (zs:=[.int .i64 0,.int .i64 0,.int .i64 0,.int .i64 0,.int .i64 0,.slice none 0 0]) (by kernel_rfl) rfl (fun b5_7=>(aHN ?_))))))
   refine aJ rfl (aV 3 tk135 rfl rfl rfl rfl (aHK ?_))
   refine aA rfl (aNs (aSR (aM rfl (aU rfl (bX rfl) (aNn ?_)))))
   refine ah _ rfl (fun h3 => ?_) (fun h3 => ?_)
   ·skip
    obtain rfl:b=false:=by simpa using h3
    refine aSR (aA rfl (aA rfl (aNn (aj (aK (FZ2 [0,1,2] Tryz.results63 rfl rfl ?_))))))
    exact ⟨rfl,rfl,by unfold kO;rw [if_neg (by omega),if_neg hs1,hF.no];rfl⟩
   ·skip
    obtain rfl:b=true:=by simpa using h3
    obtain ⟨k,x,hf,rfl,hx,hu⟩:=hF.yes
    obtain ⟨_,hb1,hb2,hb3⟩:=fb hf
    have hxo:=hM.ok hx
    have hxl:=hM.len x (List.mem_of_getElem? hx)
    unfold I64 at ht
    refine ai (ak (aSR (aM rfl (UO 0 rfl rfl (UO 0 rfl rfl (UL 3 tk3 rfl rfl rfl rfl (aU rfl (bQ rfl rfl (by omega)) (aA rfl (aNs (fw (StE.ofStars 2 k rfl (fS hx hu)) ?_))))))))))
    show awp _ _ _ _ ⟨_,_,[_,_,_,_,_]⟩
    refine dQ 2 rfl (fun h0=>by have h1:=congrArg List.length h0;rw [List.length_map,List.length_nil] at h1;omega) (fun B cp hv hcp => ?_)
    obtain ⟨rfl,rfl,rfl⟩:=pb hv
    rw [List.length_map] at hu hcp ⊢
    refine ae (UO 5 rfl rfl (UL 3 tk89 rfl rfl rfl rfl (aM rfl (aM rfl (aM rfl (aU rfl (aO rfl rfl (by omega)) (aU rfl (wb (t-x.1.at_).toNat ((t-x.1.at_).toNat+size.toNat) el89 rfl rfl rfl (by omega) (by omega) (by omega) (by omega) hcp) (aU rfl (aaS 2 x.2 Tryz.underlying89 Tryz.underlying5 Tryz.underlying9 rfl rfl (by omega)) (aA rfl (aA rfl (aNn ?_)))))))))))
    refine fw (StE.toStars 2 4 k rfl rfl (by rw [gn hvs.len];exact (List.getElem?_eq_some_iff.1 hx).1) rfl) ?_
    rw [pa (fS hx hu)]
    refine aj (FZ2 [0,1,2] Tryz.results63 rfl rfl ?_)
    exact ⟨rfl,rfl,by unfold kO;rw [if_neg (by omega),if_neg hs1,hf];show _=Value.tuple #[.string (bytesOf (rng x t size)),.int .i64 0];unfold rng;simp [Nat.add_sub_cancel_left]⟩
theorem oQ{M:Mem}{vs:List Value}{k:Nat}{x:Cell}{bs:List UInt8}(hx:M[k]? = some x):b7 (M.set k (x.1,bs)) vs=b7 M vs:=by
 apply List.ext_getElem?
 intro i
 unfold b7
 rw [List.getElem?_zipWith,List.getElem?_zipWith,List.getElem?_set]
 by_cases e:k=i
 · subst e;rw [if_pos rfl,if_pos (List.getElem?_eq_some_iff.1 hx).1,hx];cases vs[k]? <;> rfl
 · rw [if_neg e]
theorem sy{M:Mem}{vs:List Value}{k:Nat}{u:Value}(hu:vs[k]? = some u)(y:Cell):ed (M.set k y) vs=(ed M vs).set k (az u 5 1 (y.2.map pL)):=by
 have:=sx (x:=y) (v:=u) M vs k
 rwa [pa hu] at this
theorem s8(p:Nat)(M:Mem)(vs:List Value)(hvs:OkV M vs)(v:Value)(t:Int)(s:ByteArray)(hs:s.size≤maxLen)(ht:I64 t)(hM:dC M)(hl:M.length≤4096) :
   Con Tryz.prog 187 [.pointer (some ⟨p,0,none⟩),.int .i64 t,.string s] [] (opn p v M vs) fun r ps hp=>ps=[]∧hp=opn p v (dZ M t (c7 s)).1 vs∧(dZ M t (c7 s)).1.length=M.length∧r=.int .i64 (dZ M t (c7 s)).2:=by
 have hsl:(c7 s).length=s.size:=oG s
 refine EN3 Tryz.func187 rfl (aSR (aA rfl (aNs (aSR (aM rfl (aU rfl (rR rfl rfl) (aNn ?_)))))))
 refine ah _ rfl (fun h1 => ?_) (fun h1 => ?_)
 ·skip
  refine aSR (aA rfl (aNn (aj (aK (FZ1 [0,1,2] Tryz.results187 rfl ?_)))))
  have hse:s=⟨#[]⟩:=by simpa using h1
  have e:dZ M t (c7 s)=(M,0):=by unfold dZ;rw [if_pos (by rw [hse];rfl)]
  rw [e];exact ⟨rfl,rfl,rfl,rfl⟩
 ·skip
  have hs0:c7 s≠[]:=fun h=>by
    have h2:s.size=0:=by rw [← hsl,h];rfl
    have h3:¬ s=⟨#[]⟩:=by simpa using h1
    exact h3 (congrArg bytesOf h)
  have hs1:0<(c7 s).length:=List.length_pos_iff.2 hs0
  refine ai (ak (aSR (aM rfl (aM rfl (aM rfl (aU rfl (eY Tryz.underlying9 rfl) (LF rfl (EC [] [0,1] rfl (iB p M vs hvs v t s.size ht hM hl) ?_))))))))
  rintro _ _ _ ⟨rfl,rfl,a,ad,nb,cb,b,hF,rfl⟩
  refine aST ?_
  refine aM rfl (aU rfl (aI rfl rfl) (aU rfl (aI rfl rfl) (LT rfl (bg (zs:=[.int .i64 0,.int .i64 0,.int .i64 0,.int .i64 0,.int .i64 0,.slice none 0 0]) (by kernel_rfl) rfl (fun b3_8=>(aHN ?_))))))
  refine aJ rfl (aV 3 tk135 rfl rfl rfl rfl (aHK ?_))
  refine aA rfl (aNs (aSR (aM rfl (aU rfl (bX rfl) (aNn ?_)))))
  refine ah _ rfl (fun h2 => ?_) (fun h2 => ?_)
  ·skip
   obtain rfl:b=false:=by simpa using h2
   refine aSR (aA rfl (aNn (aj (aK (FZ1 [0,1,2] Tryz.results187 rfl ?_)))))
   have e:dZ M t (c7 s)=(M,6):=by unfold dZ;rw [if_neg hs0,hsl,hF.no]
   rw [e];exact ⟨rfl,rfl,rfl,rfl⟩
  ·skip
   obtain rfl:b=true:=by simpa using h2
   obtain ⟨k,x,hf,rfl,hx,hu⟩:=hF.yes
   obtain ⟨_,hb1,hb2,hb3⟩:=fb hf
   have hxo:=hM.ok hx
   have hxl:=hM.len x (List.mem_of_getElem? hx)
   have hkl:=(List.getElem?_eq_some_iff.1 hx).1
   unfold I64 at ht
   refine ai (ak (aq (fw (StE.ofStars 2 k rfl (fS hx hu)) ?_)))
   show awp _ _ _ _ ⟨_,_,[_,_,_,_,_]⟩
   refine dQ 2 rfl (fun h0=>by have h1:=congrArg List.length h0;rw [List.length_map,List.length_nil] at h1;omega) (fun B cp hv hcp => ?_)
   obtain ⟨rfl,rfl,rfl⟩:=pb hv
   rw [List.length_map] at hu hcp ⊢
   refine ae (UO 5 rfl rfl (UL 3 tk89 rfl rfl rfl rfl (aM rfl (UO 0 rfl rfl (UO 0 rfl rfl (UL 3 tk3 rfl rfl rfl rfl (aU rfl (bQ rfl rfl (by omega)) (aU rfl (jx (t-x.1.at_).toNat (x.2.length-(t-x.1.at_).toNat) (t-x.1.at_).toNat el89 rfl rfl (by omega) (by omega) hcp rfl (by omega)) (aM rfl (aJ rfl (vv 2 el89 rfl rfl rfl rfl (by omega) (by omega) ?_)))))))))))
   show aL _ _ _ _ _ ⟨_,_,[_,_,_,_,_]⟩
   refine aNn (aSR (aA rfl (aNn ?_)))
   refine fw (StE.toStars 2 4 k rfl rfl (by rw [gn hvs.len];exact hkl) rfl) ?_
   refine aj (FZ1 [0,1,2] Tryz.results187 rfl ?_)
   have e:dZ M t (c7 s)=(M.set k (x.1,dp x.2 (t-x.1.at_).toNat (c7 s)),0):=by
     unfold dZ;rw [if_neg hs0,hsl,hf];dsimp only;rw [xu hM hx]
   rw [e]
   exact ⟨rfl,by unfold opn;rw [oQ hx,sy hu];rfl,by simp,rfl⟩
theorem tJ(n:Int)(k:Nat)(hk:k<8):(IntKind.u8.wrap (n.fdiv (2 ^ min (8*(k:Int)).toNat IntKind.i64.bits)):Int)=((ju n k).toNat:Int):=by
 rw [show min (8*(k:Int)).toNat IntKind.i64.bits=8*k by have:IntKind.i64.bits=64:=rfl;omega,Int.fdiv_eq_ediv_of_nonneg _ (Int.le_of_lt (Int.pow_pos (by decide))),show (2:Int) ^ (8*k)=256 ^ k by rw [Int.pow_mul];rfl,IntKind.wrap_u8]
 unfold ju
 have h0:=Int.emod_nonneg (n / 256 ^ k) (show (256:Int)≠0 by decide)
 have h1:=Int.emod_lt_of_pos (n / 256 ^ k) (show (0:Int)<256 by decide)
 rw [UInt8.toNat_ofNat'];omega
theorem iF(n:Int)(k:Nat):(dx n k).length=k:=by simp [dx]
theorem um{l:List UInt8}{o:Nat}{n:Int}{k:Nat}(h:o+k<l.length):(dp l o (dx n k)).set (o+k) (ju n k)=dp l o (dx n (k+1)):=by
 have e:dx n (k+1)=dx n k++[ju n k]:=by simp [dx,List.range_succ]
 have hl:=iF n k
 unfold dp
 rw [e,List.length_append,hl,List.length_singleton,List.append_assoc,List.append_assoc,List.append_assoc,List.set_append_right _ _ (by simp;omega),List.set_append_right _ _ (by simp;omega),List.drop_eq_getElem_cons h]
 congr 2
 rw [show o+k-(l.take o).length-(dx n k).length=0 by simp [hl];omega]
 rfl
theorem s6(p:Nat)(M:Mem)(vs:List Value)(hvs:OkV M vs)(v:Value)(t size n:Int)(ht:I64 t)(hM:dC M)(hl:M.length≤4096) :
   Con Tryz.prog 81 [.pointer (some ⟨p,0,none⟩),.int .i64 t,.int .i64 size,.int .i64 n] [] (opn p v M vs) fun r ps hp=>ps=[]∧hp=opn p v (dJ M t size n).1 vs∧(dJ M t size n).1.length=M.length∧r=.int .i64 (dJ M t size n).2:=by
 refine EN4 Tryz.func81 rfl (aSR (aA rfl (aNn (aSR (aM rfl (aM rfl (aM rfl (LF rfl (EC [] [0,1] rfl (rq p M vs hvs v t size ht hM hl) ?_)))))))))
 rintro _ _ _ ⟨rfl,rfl,a,ad,nb,cb,o0,rfl,hac⟩
 refine aST ?_
 refine aM rfl (aU rfl (aI rfl rfl) (aU rfl (aI rfl rfl) (aU rfl (aI rfl rfl) (LT rfl (bg (zs:=[.int .i64 0,.int .i64 0,.int .i64 0,.int .i64 0,.int .i64 0,.slice none 0 0]) (by kernel_rfl) rfl (fun b1_8=>(aHN ?_)))))))
 refine aJ rfl (aV 3 tk135 rfl rfl rfl rfl (aHK ?_))
 refine aA rfl (aA rfl (aNs (aSR (aM rfl (aU rfl (dE rfl rfl) (aNn ?_))))))
 refine ah _ rfl (fun h1 => ?_) (fun h1 => ?_)
 ·skip
  refine aSR (aM rfl (aA rfl (aNn (aj (aK (FZ1 [0,1,2] Tryz.results81 rfl ?_))))))
  have e:dJ M t size n=(M,kb M t size):=by unfold dJ;rw [if_pos (by simpa using h1)]
  rw [e];exact ⟨rfl,rfl,rfl,rfl⟩
 ·skip
  have hac0:kb M t size=0:=by simpa using h1
  obtain ⟨rfl,hF⟩:=hac hac0
  obtain ⟨k,x,hf,rfl,hx,hu⟩:=hF.yes
  obtain ⟨_,hb1,hb2,hb3⟩:=fb hf
  have hxo:=hM.ok hx
  have hxl:=hM.len x (List.mem_of_getElem? hx)
  have hkl:=(List.getElem?_eq_some_iff.1 hx).1
  have hsz:size=1∨size=8:=by unfold kb at hac0;by_cases h8:size≠1∧size≠8;rw [if_pos h8] at hac0;cases hac0;omega
  obtain ⟨sz,rfl⟩:=Int.eq_ofNat_of_zero_le (show 0≤size by omega)
  obtain ⟨o,ho⟩:=Int.eq_ofNat_of_zero_le (show 0≤t-x.1.at_ by omega)
  unfold I64 at ht
  refine ai (ak (aq (aSR (UO 0 rfl rfl (UO 2 rfl rfl (UL 3 tk3 rfl rfl rfl rfl (aU rfl (bp rfl rfl) (aNn ?_))))))))
  refine ah _ rfl (fun h2 => ?_) (fun h2 => ?_)
  ·skip
   refine aSR (aA rfl (aNn (aj (aK (FZ1 [0,1,2] Tryz.results81 rfl ?_)))))
   have e:dJ M t sz n=(M,5):=by unfold dJ;rw [if_neg (by rw [hac0];simp),hf];dsimp only;rw [if_pos (by simpa using h2)]
   rw [e];exact ⟨rfl,rfl,rfl,rfl⟩
  ·skip
   have hkd:x.1.kind≠0:=by simpa using h2
   refine ai (ak (aq (aq (fw (StE.ofStars 2 k rfl (fS hx hu)) ?_))))
   show awp _ _ _ _ ⟨_,_,[_,_,_,_,_]⟩
   refine dQ 2 rfl (fun h0=>by have h1:=congrArg List.length h0;rw [List.length_map,List.length_nil] at h1;omega) (fun B cp hv hcp => ?_)
   obtain ⟨rfl,rfl,rfl⟩:=pb hv
   rw [List.length_map] at hu hcp ⊢
   rw [ho]
   refine ae (aM rfl (aM rfl (aNn (ao ?_))))
   refine aP [2,3,9,10,28,29] [] [0,1,2,3,4] (fun (i:Nat) s=>i≤sz∧s=⟨[(2,true,.int .i64 sz),(3,true,.int .i64 n),(9,true,.pointer (some ⟨b1_8,0,none⟩)),(10,true,.int .i64 o),(28,true,.int .i64 sz),(29,true,.int .i64 i)],[],[Box p 117 [v],az v 135 6 (b7 M vs),az (.slice (some ⟨B,0,none⟩) x.2.length cb) 5 1 ((dp x.2 o (dx n i)).map pL),Box b1_8 135 (lQ x.1 (.slice (some ⟨B,0,none⟩) x.2.length cb)),bR ((ed M vs).set k emp)]⟩) (fun i=>sz-i) rfl (⟨0,Nat.zero_le _,by rw [show dp x.2 o (dx n 0)=x.2 by simp [dp,dx]];rfl⟩) ?_
   rintro i s ⟨hi,rfl⟩
   refine aSR (aU rfl (bd rfl rfl) (aNs ?_))
   refine ah _ rfl (fun h3 => ?_) (fun h3 => ?_)
   ·skip
    have hi':i<sz:=by simpa using h3
    have hsl:(dp x.2 o (dx n i)).length=x.2.length:=gL (by rw [iF];omega)
    obtain ⟨u0,hu0⟩:∃ u0,(dp x.2 o (dx n i))[o+i]? = some u0:=⟨_,List.getElem?_eq_getElem (by omega)⟩
    refine ai (ak (aq (ao (aSR (aM rfl (aA rfl (aNn (DR [11] 12 (VO 0 5 rfl rfl rfl (VL 1 3 tk89 rfl rfl rfl rfl rfl (VM 2 rfl rfl (VM 3 rfl rfl (bV 4 rfl rfl (aO rfl rfl (by omega)) (VM 5 rfl rfl (VM 6 rfl rfl ?_)))))))))))))))
    refine bV 7 rfl rfl (aaV rfl rfl (by omega)) (bV 8 rfl rfl (acC rfl rfl (by omega)) (bV 9 rfl rfl ((gi (by kernel_rfl) Tryz.underlying5 rfl).castV (v':=.int .u8 ((ju n i).toNat:Int)) (congrArg (Value.int .u8) (tJ n i (by omega)))) ?_))
    refine bV 10 rfl rfl (bA 2 (o+i) el89 rfl rfl rfl (by omega) (by rw [List.length_map];omega)) ?_
    refine VE 11 rfl rfl (cA 2 (o+i) 0 tk5 rfl rfl rfl (aH hu0) (by rw [Nat.mul_one,Nat.add_zero]) (.v rfl .nil) rfl (by decide) ?_)
    refine bST rfl ?_
    refine BN (bb (ak (ae (aU rfl (aO rfl rfl (by omega)) (aM rfl (aNn ?_))))))
    refine ⟨[2,3,9,10,28,29],[],[0,1,2,3,4],rfl,?_⟩
    refine ⟨i+1,⟨by omega,?_⟩,by omega⟩
    rw [← um (by omega),List.map_set];rfl
   ·skip
    refine aQ (aR (aR (aX (ak (aSR (aA rfl (aNn ?_)))))))
    refine fw (StE.toStars 2 4 k rfl rfl (by rw [gn hvs.len];exact hkl) rfl) ?_
    refine aj (FZ1 [0,1,2] Tryz.results81 rfl ?_)
    have e:dJ M t sz n=(M.set k (x.1,dp x.2 o (dx n sz)),0):=by
      unfold dJ;rw [if_neg (by rw [hac0];simp),hf];dsimp only;rw [if_neg hkd,xu hM hx,ho];rfl
    obtain rfl:i=sz:=by have:=(by simpa using h3:sz≤i);omega
    rw [e]
    exact ⟨rfl,by unfold opn;rw [oQ hx,sy hu];rfl,by simp,rfl⟩
end Go.Proofs.YtfkcmbonmpcbfaaGreat

namespace Go.Sy
open Go.RowKit Go.Lp
def cN(l:List (List Value)):List (List D):=l.map (·.map D.v)
theorem cZ{sz:Nat} : ∀ (l:List (List Value)),(∀ r∈l,r.length=sz)→l.flatten.length=l.length*sz
 | [],_=>by simp
 | r::l,h=>by
   rw [List.flatten_cons,List.length_append,cZ l (fun x hx=>h x (List.mem_cons_of_mem _ hx)),h r List.mem_cons_self,List.length_cons,Nat.add_mul];omega
theorem i1{sz:Nat} : ∀ (l:List (List Value)),(∀ r∈l,r.length=sz)→∀ i j,j<sz→l.flatten[i*sz+j]? = (l[i]?).bind (·[j]?)
 | [],_,i,j,_=>by simp
 | r::l,h,0,j,hj=>by
   have:=h r List.mem_cons_self
   rw [List.flatten_cons,Nat.zero_mul,Nat.zero_add,List.getElem?_append_left (by omega)];rfl
 | r::l,h,i+1,j,hj=>by
   have hr:=h r List.mem_cons_self
   have e:(i+1)*sz+j=r.length+(i*sz+j):=by rw [hr,Nat.add_mul];omega
   rw [List.flatten_cons,e,List.getElem?_append_right (by omega),Nat.add_sub_cancel_left,i1 l (fun x hx=>h x (List.mem_cons_of_mem _ hx)) i j hj];rfl
theorem uc{w:World}{S:aW}{sz:Nat}{cs:List Value}{l:List (List Value)}(h:cX w S sz cs (cN l)):cs=l.flatten∧∀ r∈l,r.length=sz:=by
 have hr:∀ r∈l,r.length=sz:=fun r hr=>by
   obtain ⟨i,hi⟩:=List.mem_iff_getElem?.1 hr
   have:=h.row i (r.map D.v) (by simp [cN,hi])
   simpa using this
 refine ⟨?_,hr⟩
 have hlen:=h.len
 have hfl:=cZ l hr
 apply List.ext_getElem?
 intro q
 by_cases hq:q<cs.length
 · have hz:0<sz:=by
     rcases Nat.eq_zero_or_pos sz with h0 | h0
     · subst h0;simp at hlen;rw [hlen] at hq;simp at hq
     · exact h0
   have hjs:=Nat.mod_lt q hz
   have hqe:q=q / sz*sz+q % sz:=by rw [Nat.mul_comm];exact (Nat.div_add_mod q sz).symm
   have hil:q / sz<l.length:=by
     rw [Nat.div_lt_iff_lt_mul hz]
     have:(cN l).length=l.length:=by simp [cN]
     rw [hlen,this] at hq;exact hq
   have hi:l[q / sz]? = some l[q / sz]:=List.getElem?_eq_getElem hil
   have hj:l[q / sz][q % sz]? = some (l[q / sz][q % sz]'(by rw [hr _ (List.getElem_mem hil)];exact hjs)):=List.getElem?_eq_getElem _
   obtain ⟨u,hu,hrep⟩:=h.rep (q / sz) (q % sz) (l[q / sz].map D.v) (.v _) (by simp [cN,hi]) (by rw [List.getElem?_map,hj];rfl)
   rw [← hqe] at hu
   rw [hu,hqe,i1 l hr _ _ hjs,hi]
   show some u=l[q / sz][q % sz]?
   rw [hj,jb hrep]
 · rw [List.getElem?_eq_none (by omega),List.getElem?_eq_none (by rw [hfl];rw [hlen] at hq;simpa [cN] using hq)]
theorem y5{w:World}{S:aW}{sz:Nat}{l:List (List Value)}(hr:∀ r∈l,r.length=sz)(h1:∀ v∈l.flatten,v.oneCell'=true):cX w S sz l.flatten (cN l) where
 len:=by rw [cZ l hr];simp [cN]
 row i r h:=by
   unfold cN at h
   rw [List.getElem?_map,Option.map_eq_some_iff] at h
   obtain ⟨x,hx,rfl⟩:=h
   rw [List.length_map];exact hr x (List.mem_of_getElem? hx)
 one:=h1
 rep i j r d h hd:=by
   unfold cN at h
   rw [List.getElem?_map,Option.map_eq_some_iff] at h
   obtain ⟨x,hx,rfl⟩:=h
   rw [List.getElem?_map,Option.map_eq_some_iff] at hd
   obtain ⟨u,hu,rfl⟩:=hd
   have hj:j<sz:=by rw [← hr x (List.mem_of_getElem? hx)];exact (List.getElem?_eq_some_iff.1 hu).1
   exact ⟨u,by rw [i1 l hr i j hj,hx];exact hu,.v u⟩
theorem kD{sz:Nat}{l:List (List Value)}(h:∀ r∈l,r.length=sz)(sp:List Value){k:Nat}(hk:k≤l.length):(l.flatten++sp).take (k*sz)=(l.take k).flatten∧(l.flatten++sp).drop (k*sz)=(l.drop k).flatten++sp:=by
 have e:l.flatten=(l.take k).flatten++(l.drop k).flatten:=by rw [← List.flatten_append,List.take_append_drop]
 have hl:(l.take k).flatten.length=k*sz:=by rw [cZ _ fun r hr=>h r (List.mem_of_mem_take hr),List.length_take,Nat.min_eq_left hk]
 rw [e,List.append_assoc]
 exact ⟨by rw [← hl,List.take_left'] ; rfl,by rw [← hl,List.drop_left'];rfl⟩
theorem mB{cs seg:List Value}{o k:Nat}(ho:o≤cs.length)(hk:o+seg.length=k):(splice cs o seg).take k=cs.take o++seg:=by
 unfold splice
 rw [← List.append_assoc,List.take_append_of_le_length (by simp;omega),List.take_of_length_le (by simp;omega)]
theorem wo{cs seg:List Value}{o k:Nat}(ho:o≤cs.length)(hk:k≤o):(splice cs o seg).take k=cs.take k:=by
 unfold splice
 rw [List.take_append_of_le_length (by simp;omega),List.take_take,Nat.min_eq_left hk]
theorem uk{cs seg:List Value}{o:Nat}(ho:o≤cs.length):(splice cs o seg).drop o=seg++cs.drop (o+seg.length):=by
 unfold splice
 rw [List.drop_left' (by simp;omega)]
theorem cF{cs seg:List Value}{o:Nat}(h:o+seg.length≤cs.length):(splice cs o seg).length=cs.length:=by
 unfold splice;simp;omega
section
variable {P:Program} {n:Fr} {env:Env} {ps:List Per} {hp:List Res} {c:Code} {Q:Exit→Sta→Prop} {E:TypeId} {sz B m cp:Nat} {l:List (List Value)} {cs:List Value}
theorem iU(i:Nat)(hi:hp[i]? = some (az (.slice (some ⟨B,0,none⟩) m cp) E sz (cN l)))
   (h:∀ sp,(∀ r∈l,r.length=sz)→(l.flatten++sp).length=cp*sz→l.length≤cp→cp≤maxLen→(∀ v∈l.flatten,v.oneCell'=true)→awp P n c Q ⟨env,ps,hp.set i (Box B E (l.flatten++sp))⟩):awp P n c Q ⟨env,ps,hp⟩:=by
 refine lk (β := {sp:List Value // (∀ r∈l,r.length=sz)∧(l.flatten++sp).length=cp*sz∧l.length≤cp∧cp≤maxLen∧∀ v∈l.flatten,v.oneCell'=true}) i (fun x=>Box B E (l.flatten++x.1)) hi (fun w S F hh => ?_) fun x=>h x.1 x.2.1 x.2.2.1 x.2.2.2.1 x.2.2.2.2.1 x.2.2.2.2.2
 rcases hh with ⟨h,_⟩ | ⟨b,cap,hv,⟨cs,sp,hb,hrows,hcap,hrc,hcm⟩,hF⟩
 · cases h
 · simp only [Value.slice.injEq,Option.some.injEq,Addr.mk.injEq] at hv
   obtain ⟨⟨rfl,_⟩,_,rfl⟩:=hv
   obtain ⟨rfl,hr⟩:=uc hrows
   exact ⟨⟨sp,hr,hcap,by simpa [cN] using hrc,hcm,hrows.one⟩,hb,hF⟩
theorem iT(i m' cp':Nat)(l:List (List Value))(hi:hp[i]? = some (Box B E cs))(hm:l.length=m')(hr:∀ r∈l,r.length=sz)(ht:cs.take (m'*sz)=l.flatten)(hl:cs.length=cp'*sz)(hmc:m'≤cp')(hcm:cp'≤maxLen)(h1:∀ v∈l.flatten,v.oneCell'=true)
   (h:awp P n c Q ⟨env,ps,hp.set i (az (.slice (some ⟨B,0,none⟩) m' cp') E sz (cN l))⟩):awp P n c Q ⟨env,ps,hp⟩ :=
 eV i (az (.slice (some ⟨B,0,none⟩) m' cp') E sz (cN l)) hi (fun w S F ⟨hb,hF⟩=>.inr ⟨B,cp',by simp [cN,hm],⟨cs.take (m'*sz),cs.drop (m'*sz),by rw [List.take_append_drop];exact hb,by rw [ht];exact y5 hr h1,by rw [List.take_append_drop];exact hl,by simpa [cN,hm] using hmc,hcm⟩,hF⟩) h
end
section
variable {P:Program} {n:Fr} {env:Env} {ps:List Per} {hp:List Res} {d:Option Tmp} {ty:TypeId} {pos:String} {af:Array Edge} {gd:Option (Nat × Bool)} {K:Sta→Prop}
theorem wG{w:World}{S:aW}{fp:Nat→aW}(hst:St w S fp ps hp){j:Nat}{C:Nat}{E2:TypeId}{cs2:List Value}(hj:hp[j]? = some (Box C E2 cs2))(p q:Nat):∀ k v,((cs2.drop p).take q)[k]? = some v→w.cell? ((Addr.mk C p none).add k)=some v:=fun k v hv=>by
 have hb:=(hst.res j _ hj).1
 rw [addr_add,dh hb]
 rw [List.getElem?_take] at hv
 split at hv
 · rw [List.getElem?_drop] at hv;exact hv
 · cases hv
theorem jo{t:Nat}{x y:Operand}{T T2 E E1 E2:TypeId}{sz B o dl dc C p sl sc:Nat}{cs cs2:List Value}(i j q:Nat)(hel:elB P T E sz=true)(hx:ev env x=some (true,.slice (some ⟨B,o,none⟩) dl dc))(hy:ev env y=some (true,.slice (some ⟨C,p,none⟩) sl sc))(ht:fits n.size (some t)=true)
   (hi:hp[i]? = some (Box B E1 cs)) (hj:hp[j]? = some (Box C E2 cs2)) (hq:Nat.min sl dl=q) (hd:o+q*sz≤cs.length) (hs:p+q*sz≤cs2.length) (h1:∀ v∈(cs2.drop p).take (q*sz),v.oneCell'=true)
   (hK:K ⟨(t,true,.int .i64 q)::env,ps,hp.set i (Box B E1 (splice cs o ((cs2.drop p).take (q*sz))))⟩) :
   Eff P n ⟨some t,.call ⟨.builtin .copy,#[x,y],#[T,T2]⟩,ty,pos,af,gd⟩ ⟨env,ps,hp⟩ false K:=.change i hi fun w S fp a hst he hn ⟨hb,hF⟩=>by
 have e1:=he.val hx rfl
 have e2:=he.val hy rfl
 obtain ⟨hT,it,hit,_,hsz,_⟩:=bY hel
 have hlen:((cs2.drop p).take (q*sz)).length=q*sz:=by simp;omega
 have hr:=pN (P:=P) w T T2 ty E sz B o dl dc ⟨C,p,none⟩ sl sc cs.toArray E1 ((cs2.drop p).take (q*sz)) hT (by rw [hit];simp [hsz]) hb (by rw [hlen,hq]) (wG hst hj p _) (by rw [hlen];simpa using hd) h1
 have hexec:execOp a.eval ⟨some t,.call ⟨.builtin .copy,#[x,y],#[T,T2]⟩,ty,pos,af,gd⟩=(Builtin.copy_ #[T,T2] ty (#[x,y].map a.eval)).bind fun r=>Sem.pure (Next.value r):=rfl
 rw [hexec,show #[x,y].map a.eval = #[a.eval x,a.eval y] by simp,e1,e2,Sem.run_bind',hr,hq]
 exact ⟨_,_,hK,rfl,rfl,he.put (g:=true) (by rw [hn];simpa [fits] using ht) _,⟨setRow_heap _ _ _ _ _ _ hb,hF⟩,rfl,rfl,⟨rfl,rfl⟩,by simp [World.setRow],fun b' hb' hne=>setRow_other _ _ _ _ (fun h=>hne ((hF b').2 h))⟩
theorem tg{t:Nat}{x y:Operand}{T T2 E E' E1 E2:TypeId}{sz B k dc C p q sc:Nat}{cs cs2:List Value}(i j:Nat)(hel:elB P T E sz=true)(hT2:P.underlying T2=some (.slice E'))(hx:ev env x=some (true,.slice (some ⟨B,0,none⟩) k dc))(hy:ev env y=some (true,.slice (some ⟨C,p,none⟩) q sc))(ht:fits n.size (some t)=true)
   (hi:hp[i]? = some (Box B E1 cs)) (hj:hp[j]? = some (Box C E2 cs2)) (hroom:k+q≤dc) (hd:k*sz+q*sz≤cs.length) (hs:p+q*sz≤cs2.length) (h1:∀ v∈(cs2.drop p).take (q*sz),v.oneCell'=true)
   (hK:K ⟨(t,true,.slice (some ⟨B,0,none⟩) (k+q) dc)::env,ps,hp.set i (Box B E1 (splice cs (k*sz) ((cs2.drop p).take (q*sz))))⟩) :
   Eff P n ⟨some t,.call ⟨.builtin .append,#[x,y],#[T,T2]⟩,ty,pos,af,gd⟩ ⟨env,ps,hp⟩ false K:=.change i hi fun w S fp a hst he hn ⟨hb,hF⟩=>by
 have e1:=he.val hx rfl
 have e2:=he.val hy rfl
 obtain ⟨hT,it,hit,_,hsz,_⟩:=bY hel
 have hlen:((cs2.drop p).take (q*sz)).length=q*sz:=by simp;omega
 have hsrc:=Src.row (P:=P) w T2 E' hT2 it.size C p q sc ((cs2.drop p).take (q*sz)) (by rw [hlen,hsz]) (fun k v hv=>by have:=wG hst hj p _ k v hv;rwa [addr_add] at this) h1
 have hr:=l8 (P:=P) w T T2 ty E it hT hit B 0 k dc _ q _ hsrc hroom cs.toArray E1 hb (by rw [hlen,hsz];simpa using hd)
 have hexec:execOp a.eval ⟨some t,.call ⟨.builtin .append,#[x,y],#[T,T2]⟩,ty,pos,af,gd⟩=(Builtin.append_ #[T,T2] ty (#[x,y].map a.eval)).bind fun r=>Sem.pure (Next.value r):=rfl
 rw [hexec,show #[x,y].map a.eval = #[a.eval x,a.eval y] by simp,e1,e2,Sem.run_bind',hr]
 rw [Nat.zero_add,hsz]
 exact ⟨_,_,hK,rfl,rfl,he.put (g:=true) (by rw [hn];simpa [fits] using ht) _,⟨setRow_heap _ _ _ _ _ _ hb,hF⟩,rfl,rfl,⟨rfl,rfl⟩,by simp [World.setRow],fun b' hb' hne=>setRow_other _ _ _ _ (fun h=>hne ((hF b').2 h))⟩
theorem yB{t:Nat}{x y:Operand}{T T2 E E1:TypeId}{sz B k dc q:Nat}{cs zs:List Value}{z0:Int}(i:Nat)(hel:elB P T E sz=true)(hz:dL P E=some zs)(hz1:zs.all (·.oneCell')=true)(hzl:zs.length=sz)(hby:(P.info? E).any (fun j=>j.bytes≤4096)=true)(hT2:P.underlying T2=some (.int .i64))
   (hx:ev env x=some (true,.slice (some ⟨B,0,none⟩) k dc)) (hy:ev env y=some (true,.int .i64 z0)) (hq:z0=(q:Int)) (ht:fits n.size (some t)=true)
   (hi:hp[i]? = some (Box B E1 cs)) (h0:0<q) (hs0:0<sz) (hg:dc<k+q) (hn1:k+q≤1000000) (hd:k*sz≤cs.length)
   (hK:∀ G C (zz:List Value),k+q≤C→C≤maxLen→(cs.take (k*sz)++zz).length=C*sz→(∀ v∈zz,v.oneCell'=true)→K ⟨(t,true,.slice (some ⟨G,0,none⟩) (k+q) C)::env,ps,hp++[Box G E (cs.take (k*sz)++zz)]⟩) {b0:Bool} :
   Eff P n ⟨some t,.call ⟨.builtin .append,#[x,y],#[T,T2]⟩,ty,pos,af,gd⟩ ⟨env,ps,hp⟩ b0 K:=.push fun w S fp a hst he hn=>by
 subst hq
 have e1:=he.val hx rfl
 have e2:=he.val hy rfl
 obtain ⟨hT,it,hit,_,hsz,_⟩:=bY hel
 have hb:=(hst.res i _ hi).1
 obtain ⟨z,hzz,hzc⟩:∃ z,it.zero=some z∧z.cells.toList=zs:=by
   unfold dL at hz;rw [hit,Option.bind_some,Option.map_eq_some_iff] at hz;exact hz
 have hzsz:z.cells.size=sz:=by rw [← hzl,← hzc];simp
 have hby':it.bytes≤4096:=by rw [hit] at hby;simpa using hby
 have hold:=gD (P:=P) w.drew B 0 sz k dc cs E1 (0,0) hb (by omega)
 have hr:=Lib.run_append_grow_zeros w T T2 ty E it z .i64 .i64 hT hT2 hit hzz (some ⟨B,0,none⟩) k dc _ (by rw [hsz];exact hold) q h0 (by omega) hg (by omega)
   (by have h2:q*it.bytes≤1000000*4096:=Nat.mul_le_mul (by omega) hby'
       omega)
   (by have h1:=Go.Lp.nextslicecap_le (k+q) dc
       have h2:Builtin.nextslicecap (k+q) dc*it.bytes≤5000000*4096:=Nat.mul_le_mul (by omega) hby'
       omega)
 have hC:=grownCap_ge w (k+q) dc E
 have hCm:=grownCap_le_maxLen w (k+q) dc E (by unfold maxLen;omega)
 have hzc1:∀ (r:Nat) (v:Value),v∈(Builtin.zeroCells z.cells r).toList→v.oneCell'=true:=fun r v hv=>by
   have hv2:v∈(List.range (r*z.cells.size)).map fun i=>z.cells[i % z.cells.size]! := by simpa [Builtin.zeroCells] using hv
   obtain ⟨j,hj,rfl⟩:=List.mem_map.1 hv2
   have h0:0<z.cells.size:=by omega
   have hlt:=Nat.mod_lt j h0
   rw [getElem!_pos z.cells _ hlt]
   exact List.all_eq_true.1 hz1 _ (by rw [← hzc];exact Array.getElem_mem_toList hlt)
 have hexec:execOp a.eval ⟨some t,.call ⟨.builtin .append,#[x,y],#[T,T2]⟩,ty,pos,af,gd⟩=(Builtin.append_ #[T,T2] ty (#[x,y].map a.eval)).bind fun r=>Sem.pure (Next.value r):=rfl
 rw [hexec,show #[x,y].map a.eval = #[a.eval x,a.eval y] by simp,e1,e2,Sem.run_bind',hr]
 refine ⟨Box w.heap.size E (cs.take (k*sz)++((Builtin.zeroCells z.cells q).toList++(Builtin.zeroCells z.cells (grownCap w (k+q) dc E-(k+q))).toList)),(fun b=>b=w.heap.size),_,hK w.heap.size _ _ hC hCm ?_ ?_,rfl,rfl,he.put (g:=true) (by rw [hn];simpa [fits] using ht) _,?_,⟨?_,fun _=>Iff.rfl⟩,fun b hb' => ?_⟩
 · simp only [List.length_append,List.length_take,Array.length_toList,Builtin.zeroCells,Array.size_map,Array.size_range,hzsz]
   rw [Nat.min_eq_left hd,← Nat.add_mul,← Nat.add_mul];congr 1;omega
 · intro v hv
   rcases List.mem_append.1 hv with h | h
   · exact hzc1 _ v h
   · exact hzc1 _ v h
 · exact ⟨rfl,rfl,rfl,by rw [World.size_alloc];exact Nat.le_succ _,Nat.le_succ _,fun b hb=>by
     show (w.heap.push _)[b]? = _
     rw [Array.getElem?_push,if_neg (by omega)]⟩
 · show (w.drew.heap.push _)[w.drew.heap.size]? = _
   rw [Array.getElem?_push_size]
   simp [List.append_assoc]
 · subst hb';exact ⟨Nat.le_refl _,by rw [World.size_alloc];show w.heap.size<w.heap.size+1;omega⟩
theorem yY{T E:TypeId}{x y1 y2 y3:Operand}{s:Sta}{sz nn c:Nat}{ad:Option Addr}{k1 k2 k3:IntKind}{z1 z2 z3:Int}(lo h mx:Nat)(hel:elB P T E sz=true)(hx:ev s.env x=some (true,.slice ad nn c))
   (hy1:ev s.env y1=some (true,.int k1 z1)) (hy2:ev s.env y2=some (true,.int k2 z2)) (hy3:ev s.env y3=some (true,.int k3 z3)) (e1:z1=(lo:Int)) (e2:z2=(h:Int)) (e3:z3=(mx:Int)) (hl:lo≤h) (hh:h≤mx) (hk:mx≤c) :
   Quiet P n ⟨d,.slice T x (some y1) (some y2) (some y3),ty,pos,af,gd⟩ s (sliced ad lo h mx sz):=fun w S fp a hst he hn=>by
 have h1:=he.val hx rfl
 subst e1;subst e2;subst e3
 have h2:=he.val hy1 rfl
 have h3:=he.val hy2 rfl
 have h4:=he.val hy3 rfl
 obtain ⟨hT,it,hi,_,hsz,_⟩:=bY hel
 have hE:P.elem T=E:=by unfold Program.elem;rw [hT]
 have hrun:∀ w1,(execOp a.eval ⟨d,.slice T x (some y1) (some y2) (some y3),ty,pos,af,gd⟩).run P w1=.ok (.value (sliced ad lo h mx sz)) w1:=fun w1=>by
   unfold execOp;dsimp only;simp only [Option.map_some];rw [h1,h2,h3,h4]
   show ((Instr.sliceAt T (.slice ad nn c) (some (.int k1 lo)) (some (.int k2 h)) (some (.int k3 mx))).bind fun r=>Sem.pure (Next.value r)).run P w1=_
   have hT':P.underlying T=some (.slice (P.elem T)):=by rw [hT,hE]
   rw [Sem.run_bind',run_sliceAt_slice w1 T _ _ _ _ hT',run_slice_lhm w1 T ad nn c hT' k1 k2 k3 _ _ _ (by omega) (by omega) (by omega) (by omega),hE,bZ hi,hsz]
   rfl
 rw [hrun];exact bB _ _
theorem fj{T E:TypeId}{x y:Operand}{s:Sta}{sz m c B o:Nat}{kk:IntKind}{z:Int}(k m' o':Nat)(hel:elB P T E sz=true)(hx:ev s.env x=some (true,.slice (some ⟨B,o,none⟩) m c))
   (hy:ev s.env y=some (true,.int kk z)) (hz:z=(k:Int)) (hk:k≤m) (hm:m≤c) (hm':m-k=m') (ho:(if c=k then o else o+k*sz)=o') :
   Quiet P n ⟨d,.slice T x (some y) none none,ty,pos,af,gd⟩ s (.slice (some ⟨B,o',none⟩) m' (c-k)):=fun w S fp a hst he hn=>by
 have h1:=he.val hx rfl
 subst hz
 have h2:=he.val hy rfl
 obtain ⟨hT,it,hi,_,hsz,_⟩:=bY hel
 have hE:P.elem T=E:=by unfold Program.elem;rw [hT]
 have hrun:∀ w1,(execOp a.eval ⟨d,.slice T x (some y) none none,ty,pos,af,gd⟩).run P w1=.ok (.value (sliced (some ⟨B,o,none⟩) k m c sz)) w1:=fun w1=>by
   unfold execOp;dsimp only;simp only [Option.map_some,Option.map_none];rw [h1,h2]
   show ((Instr.sliceAt T (.slice (some ⟨B,o,none⟩) m c) (some (.int kk k)) none none).bind fun r=>Sem.pure (Next.value r)).run P w1=_
   have hT':P.underlying T=some (.slice (P.elem T)):=by rw [hT,hE]
   rw [Sem.run_bind',run_sliceAt_slice w1 T _ _ _ _ hT',run_slice_l w1 T _ m c hT' kk k (by omega) (by omega),hE,bZ hi,hsz]
   rfl
 have e:sliced (some ⟨B,o,none⟩) k m c sz=.slice (some ⟨B,o',none⟩) m' (c-k):=by
   unfold sliced
   subst hm'
   subst ho
   by_cases hc:c=k
   · rw [if_pos hc,if_pos hc]
   · rw [if_neg hc,if_neg hc];simp [addr_add]
 rw [hrun,e];exact bB _ _
theorem wa{s:Sta}{T E:TypeId}{x y z:Operand}{sz m c B o:Nat}{kk k2:IntKind}{zl zh:Int}(l h:Nat)(hel:elB P T E sz=true)(hx:ev s.env x=some (true,.slice (some ⟨B,o,none⟩) m c))
   (hy:ev s.env y=some (true,.int kk zl)) (hz:ev s.env z=some (true,.int k2 zh)) (hl:zl=(l:Int)) (hh:zh=(h:Int)) (hlh:l<h) (hm:h≤c) :
   Quiet P n ⟨d,.slice T x (some y) (some z) none,ty,pos,af,gd⟩ s (.slice (some ⟨B,o+l*sz,none⟩) (h-l) (c-l)):=fun w S fp a hst he hn=>by
 have h1:=he.val hx rfl
 subst hl hh
 have h2:=he.val hy rfl
 have h3:=he.val hz rfl
 obtain ⟨hT,it,hi,_,hsz,_⟩:=bY hel
 have hE:P.elem T=E:=by unfold Program.elem;rw [hT]
 have hrun:∀ w1,(execOp a.eval ⟨d,.slice T x (some y) (some z) none,ty,pos,af,gd⟩).run P w1=.ok (.value (sliced (some ⟨B,o,none⟩) l h c sz)) w1:=fun w1=>by
   unfold execOp;dsimp only;simp only [Option.map_some,Option.map_none];rw [h1,h2,h3]
   show ((Instr.sliceAt T (.slice (some ⟨B,o,none⟩) m c) (some (.int kk l)) (some (.int k2 h)) none).bind fun r=>Sem.pure (Next.value r)).run P w1=_
   have hT':P.underlying T=some (.slice (P.elem T)):=by rw [hT,hE]
   rw [Sem.run_bind',run_sliceAt_slice w1 T _ _ _ _ hT',run_slice_lh w1 T _ m c hT' kk k2 l h (by omega) (by omega) (by omega),hE,bZ hi,hsz]
   rfl
 have e:sliced (some ⟨B,o,none⟩) l h c sz=.slice (some ⟨B,o+l*sz,none⟩) (h-l) (c-l):=by
   unfold sliced
   rw [if_neg (by omega)]
   simp [addr_add]
 rw [hrun,e];exact bB _ _
theorem yZ{T E:TypeId}{x y:Operand}{s:Sta}{sz m c B o:Nat}{kk:IntKind}{z:Int}(k:Nat)(hel:elB P T E sz=true)(hx:ev s.env x=some (true,.slice (some ⟨B,o,none⟩) m c))
   (hy:ev s.env y=some (true,.int kk z)) (hz:z=(k:Int)) (hk:k≤c) :
   Quiet P n ⟨d,.slice T x none (some y) none,ty,pos,af,gd⟩ s (.slice (some ⟨B,o,none⟩) k c):=fun w S fp a hst he hn=>by
 have h1:=he.val hx rfl
 subst hz
 have h2:=he.val hy rfl
 obtain ⟨hT,it,hi,_,hsz,_⟩:=bY hel
 have hE:P.elem T=E:=by unfold Program.elem;rw [hT]
 have hrun:∀ w1,(execOp a.eval ⟨d,.slice T x none (some y) none,ty,pos,af,gd⟩).run P w1=.ok (.value (sliced (some ⟨B,o,none⟩) 0 k c sz)) w1:=fun w1=>by
   unfold execOp;dsimp only;simp only [Option.map_some,Option.map_none];rw [h1,h2]
   show ((Instr.sliceAt T (.slice (some ⟨B,o,none⟩) m c) none (some (.int kk k)) none).bind fun r=>Sem.pure (Next.value r)).run P w1=_
   have hT':P.underlying T=some (.slice (P.elem T)):=by rw [hT,hE]
   rw [Sem.run_bind',run_sliceAt_slice w1 T _ _ _ _ hT',run_slice_h w1 T _ m c hT' kk k (by omega) (by omega),hE,bZ hi,hsz]
   rfl
 have e:sliced (some ⟨B,o,none⟩) 0 k c sz=.slice (some ⟨B,o,none⟩) k c:=by
   unfold sliced
   simp only [Nat.sub_zero]
   congr 1
   split
   · rfl
   · simp [addr_add]
 rw [hrun,e];exact bB _ _
end
section
variable {P:Program} {n:Fr} {env:Env} {ps:List Per} {hp:List Res} {d:Option Tmp} {ty:TypeId} {pos:String} {af:Array Edge} {gd:Option (Nat × Bool)} {K:Sta→Prop}
theorem oh{x:Operand}{T E:TypeId}{sz k B m cp c' o m':Nat}{rows:List (List D)}{zs:List Value}(i:Nat)(hel:elB P T E sz=true)(hz:dL P E=some zs)(h1:zs.all (·.oneCell')=true)(hzl:zs.length=sz)(ho:o=k*sz)(hm':m'=m-k)
   (hx:ev env x=some (true,.slice (some ⟨B,o,none⟩) m' c')) (hi:hp[i]? = some (az (.slice (some ⟨B,0,none⟩) m cp) E sz rows)) (hm:rows.length=m) (hk:k<m)
   (hK:K ⟨env,ps,hp.set i (az (.slice (some ⟨B,0,none⟩) k cp) E sz (rows.take k))⟩):Eff P n ⟨none,.call ⟨.builtin .clear,#[x],#[T]⟩,ty,pos,af,gd⟩ ⟨env,ps,hp⟩ false K:=.change i hi fun w S fp a hst he hn hR=>by
 subst ho;subst hm'
 have e1:=he.val hx rfl
 obtain ⟨hT,it,hit,_⟩:=bY hel
 obtain ⟨z,hzr,hzc⟩:=ud hz w
 have hbS:=fun b hb=>(hst.lt i (List.getElem?_eq_some_iff.1 hi).1 b hb).2
 rcases hR with ⟨h,_⟩ | ⟨b,cap,hv,⟨cs,sp,hb,hrows,hcap,hrc,hcm⟩,hF⟩
 · cases h
 · simp only [Value.slice.injEq,Option.some.injEq,Addr.mk.injEq] at hv
   obtain ⟨⟨rfl,_⟩,hmr,rfl⟩:=hv
   have hzsz:z.cells.size=sz:=by rw [← hzl,← hzc];simp
   have hvl:(Builtin.zeroCells z.cells (m-k)).toList.length=(m-k)*sz:=by simp [Builtin.zeroCells,hzsz]
   have hv1:∀ v∈(Builtin.zeroCells z.cells (m-k)).toList,v.oneCell'=true:=fun v hv=>by
     have hv2:v∈(List.range ((m-k)*z.cells.size)).map fun i=>z.cells[i % z.cells.size]! := by simpa [Builtin.zeroCells] using hv
     obtain ⟨j,hj,rfl⟩:=List.mem_map.1 hv2
     have hj2:=List.mem_range.1 hj
     have h0:0<z.cells.size:=by
       rcases Nat.eq_zero_or_pos z.cells.size with h | h
       · rw [h] at hj2;simp at hj2
       · exact h
     have hlt:=Nat.mod_lt j h0
     rw [getElem!_pos z.cells _ hlt]
     exact List.all_eq_true.1 h1 _ (by rw [← hzc];exact Array.getElem_mem_toList hlt)
   have hlen:=hrows.len
   have hle:k*sz+(m-k)*sz≤cs.length:=by
     rw [hlen,hm,← Nat.add_mul];exact Nat.mul_le_mul_right _ (by omega)
   have hrun:(execOp a.eval ⟨none,.call ⟨.builtin .clear,#[x],#[T]⟩,ty,pos,af,gd⟩).run P w=.ok (.value (.tuple #[])) (w.setRow B (wrC (cs++sp) (k*sz) (Builtin.zeroCells z.cells (m-k)).toList).toArray):=by
     have hexec:execOp a.eval ⟨none,.call ⟨.builtin .clear,#[x],#[T]⟩,ty,pos,af,gd⟩=(Builtin.clear_ #[T] ty (#[x].map a.eval)).bind fun r=>Sem.pure (Next.value r):=rfl
     rw [hexec,show #[x].map a.eval = #[a.eval x] by simp,e1,Sem.run_bind']
     have hst2:=fF (P:=P) B E (k*sz) (Builtin.zeroCells z.cells (m-k)).toList 0 (cs++sp) w hb hv1 (by rw [hvl,List.length_append];omega)
     obtain ⟨q,hq⟩:∃ q,m-k=q+1:=⟨m-k-1,by omega⟩
     have:(Builtin.clear_ #[T] ty #[.slice (some ⟨B,k*sz,none⟩) (m-k) c']).run P w=.ok (.tuple #[]) (w.setRow B (wrC (cs++sp) (k*sz) (Builtin.zeroCells z.cells (m-k)).toList).toArray):=by
       rw [hq] at hst2 ⊢
       simp [Builtin.clear_,run_underlying hT,hzr,hst2]
     rw [this];rfl
   rw [hrun]
   refine ⟨az (.slice (some ⟨B,0,none⟩) k cp) E sz (rows.take k),_,hK,rfl,rfl,he,?_,rfl,rfl,⟨rfl,rfl⟩,by simp [World.setRow],fun b' hb' hne=>setRow_other _ _ _ _ (fun h=>hne ((hF b').2 h))⟩
   refine .inr ⟨B,cp,by rw [List.length_take,Nat.min_eq_left (by omega)],⟨cs.take (k*sz),(wrC (cs++sp) (k*sz) (Builtin.zeroCells z.cells (m-k)).toList).drop (k*sz),?_,?_,?_,by rw [List.length_take];omega,hcm⟩,hF⟩
   · have:cs.take (k*sz)++(wrC (cs++sp) (k*sz) (Builtin.zeroCells z.cells (m-k)).toList).drop (k*sz)=wrC (cs++sp) (k*sz) (Builtin.zeroCells z.cells (m-k)).toList:=by
       have e:cs.take (k*sz)=(wrC (cs++sp) (k*sz) (Builtin.zeroCells z.cells (m-k)).toList).take (k*sz):=by
         unfold wrC
         rw [List.take_append_of_le_length (l₂:=sp) (by omega),List.take_append_of_le_length (by rw [List.length_take];omega),List.take_take,Nat.min_self]
       rw [e,List.take_append_drop]
     rw [this];exact setRow_heap _ _ _ _ _ _ hb
   · exact (mA hrows (by omega)).mono (fun b' hb'=>setRow_other _ _ _ _ (fun h=>hbS B ((hF B).2 rfl) (h ▸ hb'))) (fun _ h=>h)
   · have hle2:k*sz+(Builtin.zeroCells z.cells (m-k)).toList.length≤(cs++sp).length:=by rw [hvl,List.length_append];omega
     rw [List.length_append,List.length_drop,rY hle2,List.length_take,← hcap,List.length_append];omega
theorem gZ{α β:Type}[DecidableEq α]{κ:α→Value}{ν:β→Value}{m:α→Option β}{kt:TypeId}{T E:TypeId}{x y z:Operand}{b:Nat}{k:α}{v:β}(i:Nat)(hT:P.underlying T=some (.map kt E))(KO:eC P kt κ)(hx:ev env x=some (true,.map (some b)))(hy:ev env y=some (true,κ k))(hz:ev env z=some (true,ν v))(hi:hp[i]? = some (cr b κ ν m))
   (hK:K ⟨env,ps,hp.set i (cr b κ ν (bw m k v))⟩):Eff P n ⟨none,.insert T x y z,ty,pos,af,gd⟩ ⟨env,ps,hp⟩ false K:=cO (ty:=ty) (pos:=pos) (af:=af) (gd:=gd) i hT KO hx hy hz hi hK
end
end Go.Sy

namespace Go.Proofs.YtfkcmbonmpcbfaaGreat
open Go.RowKit Go.Lp Go.Sy Go.Lv
open Go.Proofs.Tryz
attribute [local irreducible] aL aB awp aC fwp Quiet
theorem yy{sz:Nat}{l:List (List Value)}(h:∀ r∈l,r.length=sz)(sp:List Value){i:Nat}(hi:i<l.length){r:List Value}(hr:l[l.length-1]? = some r) :
   (splice (l.flatten++sp) (i*sz) ((l.drop (i+1)).flatten)).take (l.length*sz)=(l.take i++l.drop (i+1)++[r]).flatten:=by
 obtain ⟨c1,c2⟩:=kD h sp (k:=i) (by omega)
 obtain ⟨c3,c4⟩:=kD h sp (k:=l.length-1) (by omega)
 have hl1:(l.take i).flatten.length=i*sz:=by rw [cZ _ fun r hr=>h r (List.mem_of_mem_take hr),List.length_take,Nat.min_eq_left (by omega)]
 have hl2:(l.drop (i+1)).flatten.length=(l.length-(i+1))*sz:=by rw [cZ _ fun r hr=>h r (List.mem_of_mem_drop hr),List.length_drop]
 have hrl:=h r (List.mem_of_getElem? hr)
 have e1:i*sz+(l.length-(i+1))*sz=(l.length-1)*sz:=by rw [← Nat.add_mul];congr 1;omega
 have e2:(l.length-1)*sz+sz=l.length*sz:=by rw [← Nat.succ_mul];congr 1;omega
 unfold splice
 rw [hl2,e1,c1,c4,← List.append_assoc]
 have hd:l.drop (l.length-1)=[r]:=by
   rw [List.drop_eq_getElem_cons (by omega),List.drop_of_length_le (by omega)]
   rw [(List.getElem?_eq_some_iff.1 hr).2]
 rw [hd,List.flatten_append,List.flatten_append,← List.append_assoc]
 rw [List.take_left' (by simp only [List.length_append,hl1,hl2,List.flatten_cons,List.flatten_nil,List.append_nil,hrl];omega)]
theorem rk(B m cp i:Nat)(L:List (List Value))(hm:L.length=m)(hi:i<m)(hm2:m≤4096)(z:Int)(hz:z=(i:Int)+1) :
   Con Tryz.prog 299 [.slice (some ⟨B,0,none⟩) m cp,.int .i64 i,.int .i64 z] [] [az (.slice (some ⟨B,0,none⟩) m cp) 135 6 (cN L)] fun r ps hp=>ps=[]∧r=.slice (some ⟨B,0,none⟩) (m-1) cp∧hp=[az r 135 6 (cN (L.take i++L.drop (i+1)))]:=by
 subst hz
 obtain ⟨r0,hr0⟩:∃ r0,L[L.length-1]? = some r0:=⟨_,List.getElem?_eq_getElem (by omega)⟩
 refine EN3 Tryz.func299 rfl (iU 0 rfl (fun sp hr hlen hmc hcm hon => ?_))
 rw [hm] at hmc
 refine aSR (aA rfl (aNn (aSR (aM rfl (aM rfl (aM rfl (aM rfl (aU rfl (aY Tryz.underlying115 rfl) (aU rfl (yY i (i+1) m el115 rfl rfl rfl rfl rfl (by omega) rfl (by omega) (by omega) hmc) (aNs (aSR (aM rfl (aM rfl (aU rfl (bp rfl rfl) (aNn ?_)))))))))))))))
 refine ah _ rfl (fun h1 => ?_) (fun h1 => ?_)
 ·skip
  exfalso;simp at h1;omega
 ·skip
  have hfl:=cZ L hr
  have hcut:=kD hr sp (k:=i+1) (by omega)
  have hseg:(L.drop (i+1)).flatten.length=(m-(i+1))*6:=by rw [cZ _ fun r h=>hr r (List.mem_of_mem_drop h),List.length_drop,hm]
  have hsg:∀ o',(if cp=i+1 then 0 else 0+(i+1)*6)=o'→(((L.flatten++sp).drop o').take ((m-(i+1))*6))=(L.drop (i+1)).flatten:=fun o' ho=>by
    subst ho
    by_cases hc:cp=i+1
    · have:m-(i+1)=0:=by omega
      rw [this] at hseg ⊢
      rw [Nat.zero_mul] at hseg ⊢
      rw [List.take_zero,List.length_eq_zero_iff.1 hseg]
    · rw [if_neg hc,Nat.zero_add,hcut.2,← hseg,List.take_left'];rfl
  have hone:∀ v∈(L.drop (i+1)).flatten,v.oneCell'=true:=fun v hv=>hon v (by rw [← List.take_append_drop (i+1) L,List.flatten_append];exact List.mem_append_right _ hv)
  obtain ⟨o',ho'⟩:∃ o',(if cp=i+1 then 0 else 0+(i+1)*6)=o':=⟨_,rfl⟩
  refine ai (ak (aSR (aM rfl (aU rfl (aY Tryz.underlying115 rfl) (aA rfl (aNs (DR [6] 8 (VM 0 rfl rfl (VM 1 rfl rfl (bV 2 rfl rfl (fJ i el115 rfl rfl rfl (by omega) hmc) (VM 3 rfl rfl (VM 4 rfl rfl (bV 5 rfl rfl (fj (i+1) (m-(i+1)) o' el115 rfl rfl (by omega) (by omega) hmc rfl ho') ?_)))))))))))))
  refine VE 6 rfl rfl (tg 0 0 el115 Tryz.underlying115 rfl rfl rfl rfl rfl (by omega) (by rw [hlen];omega) (by subst ho';rw [hlen];split<;>omega) (by rw [hsg o' ho'];exact hone) ?_)
  rw [hsg o' ho']
  refine bST rfl ?_
  refine bV 7 rfl rfl (bz rfl) (BN (ak (aq ?_)))
  refine iT 0 m cp (L.take i++L.drop (i+1)++[r0]) rfl (by simp;omega) (fun r h => ?_) (by rw [← hm];exact yy hr sp (by omega) hr0) (by rw [cF (by rw [hseg,hlen];omega),hlen]) hmc hcm (fun v hv => ?_) ?_
  · rcases List.mem_append.1 h with h | h
    · rcases List.mem_append.1 h with h | h
      · exact hr r (List.mem_of_mem_take h)
      · exact hr r (List.mem_of_mem_drop h)
    · rw [List.mem_singleton.1 h];exact hr r0 (List.mem_of_getElem? hr0)
  · obtain ⟨r,hrm,hvr⟩:=List.mem_flatten.1 hv
    refine hon v (List.mem_flatten.2 ⟨r,?_,hvr⟩)
    rcases List.mem_append.1 hrm with h | h
    · rcases List.mem_append.1 h with h | h
      · exact List.mem_of_mem_take h
      · exact List.mem_of_mem_drop h
    · rw [List.mem_singleton.1 h];exact List.mem_of_getElem? hr0
  refine ae (aM rfl (aM rfl (aU rfl (aY Tryz.underlying115 rfl) (aM rfl (aU rfl (wa (m-1) m el115 rfl rfl rfl (by omega) rfl (by omega) hmc) ?_)))))
  refine aJ rfl (oh (k:=m-1) 0 el115 (zs:=[.int .i64 0,.int .i64 0,.int .i64 0,.int .i64 0,.int .i64 0,.slice none 0 0]) (by kernel_rfl) rfl rfl (by rw [Nat.zero_add]) rfl rfl rfl (by unfold cN;rw [List.length_map,List.length_append,List.length_append,List.length_take,List.length_drop,List.length_singleton];omega) (by omega) ?_)
  show aL _ _ _ _ _ ⟨_,_,[_]⟩
  refine aNn (aSR (aM rfl (aA rfl (aNn (aj (FZ1 [0] Tryz.results299 rfl ?_))))))
  refine ⟨rfl,by congr 1;omega,?_⟩
  have e:(cN (L.take i++L.drop (i+1)++[r0])).take (m-1)=cN (L.take i++L.drop (i+1)):=by
    unfold cN
    rw [List.map_append,List.take_left' (by simp;omega)]
  show [az _ _ _ ((cN _).take (m-1))]=[az _ _ _ _]
  rw [e,show i+(m-(i+1))=m-1 by omega]
def rO(M:Mem)(vs:List Value):List (List Value):=List.zipWith (fun x v=>lQ x.1 v) M vs
theorem kM(M:Mem)(vs:List Value):b7 M vs=cN (rO M vs):=by
 unfold b7 cN rO
 rw [List.map_zipWith];rfl
theorem oR{M:Mem}{vs:List Value}(h:vs.length=M.length):(rO M vs).length=M.length:=by simp [rO,h]
theorem xx{α β γ:Type}(f:α→β→γ)(l:List α)(m:List β)(h:m.length=l.length)(k:Nat):List.zipWith f (l.take k++l.drop (k+1)) (m.take k++m.drop (k+1))=(List.zipWith f l m).take k++(List.zipWith f l m).drop (k+1):=by
 rw [List.zipWith_append (by simp [h]),List.take_zipWith,List.drop_zipWith]
theorem qG{w:World}{S:aW} : ∀ (L:List Res) (k:Nat) (F:aW),(bR (L.set k emp)).holds w S F→(bR (L.take k++L.drop (k+1))).holds w S F
 | [],k,F,h=>by simpa using h
 | A::L,0,F,h=>tj h
 | A::L,k+1,F,h=>en h fun F h=>qG L k F h
theorem s7(p:Nat)(M:Mem)(vs:List Value)(hvs:OkV M vs)(v:Value)(t:Int)(hM:dC M)(hl:M.length≤4096) :
   Con Tryz.prog 243 [.pointer (some ⟨p,0,none⟩),.int .i64 t] [] (opn p v M vs) fun r ps hp=>∃ (M':Mem) (v':Value) (vs':List Value) (L:List Res),vs'.length=M'.length∧hp=opn p v' M' vs'++L∧(ps=[]∧L=[]∧M'=(fe M t).1∧r=.int .i64 (fe M t).2):=by
 refine EN2 Tryz.func243 rfl (aSR (aA rfl (aNn (aSR (aM rfl (aM rfl (LF rfl (EC [] [0,1] rfl (iC p M vs hvs v t hM hl) ?_))))))))
 rintro _ _ _ ⟨rfl,rfl,k,hk,rfl⟩
 refine aST ?_
 have hhit:=hM.hit hk
 refine aM rfl (aU rfl (aI rfl rfl) (aU rfl (aI rfl rfl) (aA rfl (aA rfl (aNs (aSR (aM rfl (aU rfl (bX rfl) (aNn ?_)))))))))
 refine ah _ rfl (fun h1 => ?_) (fun h1 => ?_)
 ·skip
  refine aSR (aA rfl (aNn (aj (aK (FZ1 [0,1,2] Tryz.results243 rfl ?_)))))
  refine ⟨M,v,vs,[],hvs.len,rfl,rfl,rfl,?_⟩
  have hn:M.any (fun x=>decide (x.1.at_=t))=false:=by rw [← hhit];simpa using h1
  unfold fe;rw [if_neg (by rw [hn];decide)];exact ⟨rfl,rfl⟩
 ·skip
  have hh:jT M t k=true:=by simpa using h1
  obtain ⟨x,hx,hxt⟩:∃ x,M[k]? = some x∧x.1.at_=t:=by unfold jT at hh;split at hh;rename_i x hx;exact ⟨x,hx,by simpa using hh⟩;cases hh
  have hkl:=(List.getElem?_eq_some_iff.1 hx).1
  obtain ⟨u,hu⟩:∃ u,vs[k]? = some u:=⟨_,List.getElem?_eq_getElem (by have:=hvs.len;omega)⟩
  refine ai (ak (aq ?_))
  refine dQ 1 rfl (fun h0=>by have h1:=congrArg List.length h0;rw [eh hvs.len,List.length_nil] at h1;omega) (fun B cp hv hcp => ?_)
  subst hv
  rw [eh hvs.len]
  rw [kM]
  refine ae (aM rfl (aM rfl (UN rfl rfl (UO 0 rfl rfl (UL 0 tk115 rfl rfl rfl rfl (aM rfl (aM rfl (aU rfl (aO rfl rfl (by omega)) (LF rfl (EC [] [1] rfl (rk B M.length cp k (rO M vs) (oR hvs.len) hkl hl _ rfl) ?_))))))))))
  rintro _ _ _ ⟨rfl,rfl,rfl⟩
  refine aST ?_
  refine UN rfl rfl (UO 0 rfl rfl (aJ rfl (aV 0 tk115 rfl rfl rfl rfl (aHK ?_))))
  refine aNn (aSR (aA rfl (aNn (fw (StE.ofStars 2 k rfl (fS hx hu)) (eV 3 (bR ((ed M vs).take k++(ed M vs).drop (k+1))) rfl (fun w S F h=>qG _ _ _ h) (aj (FZ1 [0,1,3] Tryz.results243 rfl ?_)))))))
  refine ⟨M.take k++M.drop (k+1),.slice (some ⟨B,0,none⟩) (M.length-1) cp,vs.take k++vs.drop (k+1),[],by have:=hvs.len;simp;omega,?_,rfl,rfl,?_⟩
  · unfold opn
    rw [kM,show ed (M.take k++M.drop (k+1)) (vs.take k++vs.drop (k+1))=_ from xx _ _ _ hvs.len k,show rO (M.take k++M.drop (k+1)) (vs.take k++vs.drop (k+1))=_ from xx _ _ _ hvs.len k]
    rfl
  · have hn:M.any (fun x=>decide (x.1.at_=t))=true:=by rw [← hhit];exact hh
    unfold fe;rw [if_pos hn,← hxt,abo hM hx];exact ⟨rfl,rfl⟩
end Go.Proofs.YtfkcmbonmpcbfaaGreat

namespace Go.Sy
open Go.RowKit Go.Lp
section
variable {P:Program} {n:Fr} {s:Sta} {d:Option Tmp} {ty:TypeId} {pos:String} {af:Array Edge} {gd:Option (Nat × Bool)}
end
end Go.Sy
namespace Go.Proofs.YtfkcmbonmpcbfaaGreat
open Go.RowKit Go.Lp Go.Sy
end Go.Proofs.YtfkcmbonmpcbfaaGreat

namespace Go.Sy
open Go.RowKit Go.Lp Go.Proofs.YtfkcmbonmpcbfaaGreat
end Go.Sy
namespace Go.Proofs.YtfkcmbonmpcbfaaGreat
open Go.RowKit Go.Lp Go.Sy
end Go.Proofs.YtfkcmbonmpcbfaaGreat

namespace Go.Sy
open Go.RowKit Go.Lp Go.Proofs.YtfkcmbonmpcbfaaGreat
end Go.Sy
namespace Go.Proofs.YtfkcmbonmpcbfaaGreat
open Go.RowKit Go.Lp Go.Sy Go.Lv
open Go.Proofs.Tryz
attribute [local irreducible] aL aB awp aC fwp Quiet
end Go.Proofs.YtfkcmbonmpcbfaaGreat

namespace Go.Sy
open Go.RowKit Go.Lp Go.Lv
section
variable {P:Program} {n:Fr} {env:Env} {ps:List Per} {hp:List Res} {d:Option Tmp} {ty:TypeId} {pos:String} {af:Array Edge} {gd:Option (Nat × Bool)} {K:Sta→Prop}
end
section
variable {P:Program} {n:Fr} {s:Sta} {d:Option Tmp} {ty:TypeId} {pos:String} {af:Array Edge} {gd:Option (Nat × Bool)}
theorem adb{x:Operand}{T E:TypeId}{ad:Option Addr}{k c:Nat}(hT:P.underlying T=some (.slice E))(hx:ev s.env x=some (true,.slice ad k c)) :
   Quiet P n ⟨d,.call ⟨.builtin .cap,#[x],#[T]⟩,ty,pos,af,gd⟩ s (.int .i64 c):=.run1 hx fun ρ w h1=>by
 have hT':P.underlying T=some (.slice (P.elem T)):=by rw [hT];unfold Program.elem;rw [hT]
 have:(Builtin.cap_ #[T] ty #[.slice ad k c]).run P w=.ok (.int .i64 c) w:=run_cap_slice _ _ _ _ _ _ hT'
 have e:(execOp ρ ⟨d,.call ⟨.builtin .cap,#[x],#[T]⟩,ty,pos,af,gd⟩)=(Builtin.cap_ #[T] ty (#[x].map ρ)).bind fun r=>Sem.pure (Next.value r):=rfl
 rw [e,show #[x].map ρ = #[.slice ad k c] by simp [h1],Sem.run_bind',this];rfl
end
end Go.Sy

