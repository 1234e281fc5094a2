/- Parts of the proof, in build order. No condition. -/
import Derived.Test.YtfkcmbonmpcbfaaGreatTa22
import Derived.Test.YtfkcmbonmpcbfaaGreatTa05
import Derived.Test.YtfkcmbonmpcbfaaGreatTa10
set_option linter.unusedSimpArgs false
set_option linter.unusedVariables false
set_option maxHeartbeats 1000000
set_option maxRecDepth 20000
namespace Go.Proofs.YtfkcmbonmpcbfaaGreat
open Go.RowKit Go.Lp Go.Sy Go.Lv
open Go.Proofs.Tryz
attribute [local irreducible] aL aB awp aC fwp Quiet
theorem zW (im:an) (hS:eZ im) (hsl:im.slots.l.length=im.imports.l.length):Con Tryz.prog 69 [im.val] [im.ok] [] fun r _ _=>r=.bool (mn im):=by
 have hc0:=hS.c0
 have hcd:=hS.cd
 have hdz:=hS.dz
 have hzm:=hS.zm
 obtain ⟨w0,hw0⟩:∃ w0,eS (fX im) (0,0) 0 im.dyns.l=w0:=⟨_,rfl⟩
 refine EN1 Tryz.func69 rfl (ct (an.f_dyns (.of (aF 0 rfl))) (fun hdl=>(ct (an.f_slots (.of (aF 0 rfl))) (fun hsll=>(ct (an.f_imports (.of (aF 0 rfl))) (fun hill=>(aSR (LT rfl (bC rfl rfl rfl (fun b0_0=>(aHN ?_)))))))))))
 refine aA rfl (aNn (aSR (aA rfl (aA rfl (bE (ak (aq (aq (bj 0 rfl rfl ?_)))))))))
 show awp _ _ _ _ ⟨_,At _ 0 _::_,_⟩
 refine ae (UO 13 rfl rfl (UD 13 tk27 0 rfl rfl rfl rfl (aU rfl (aY Tryz.underlying27 rfl) (aM rfl (aNn (ao (aP [1,3,4,10,11,12] [1,0] [] (fun (q:Nat × (Int × Int)) st=>(q.1≤im.dyns.l.length∧eS (fX im) q.2 q.1 (im.dyns.l.drop q.1)=w0∧(0≤q.2.1∧q.2.1≤1048576)∧0≤q.2.2∧q.2.2≤q.1)∧st=⟨[(1,true,.pointer (some ⟨b0_0,0,none⟩)),(3,true,.int .i64 q.2.1),(4,true,.int .i64 q.2.2),(10,true,im.dyns.val),(11,true,.int .i64 im.dyns.l.length),(12,true,.int .i64 q.1)],[At b0_0 0 im.row,im.ok],[]⟩) (fun q=>im.dyns.l.length-q.1) rfl (⟨(0,(0,0)),⟨Nat.zero_le _,hw0,⟨by decide,by decide⟩,by decide,by decide⟩,rfl⟩) ?_)))))))
 rintro ⟨k,e,n⟩ st ⟨⟨hk,hw,⟨he0,he1⟩,hn0,hn1⟩,rfl⟩
 dsimp only at hk hw he0 he1 hn0 hn1 ⊢
 refine aSR (aU rfl (bd rfl rfl) (aNs ?_))
 refine ah _ rfl (fun h1 => ?_) (fun h1 => ?_)
 ·skip
  have hk':k<im.dyns.l.length:=by simpa using h1
  obtain ⟨x,hx⟩:∃ x,im.dyns.l[k]? = some x:=⟨_,List.getElem?_eq_getElem hk'⟩
  rw [mN (fX im) hx] at hw
  have hwd:=yI x.kind
  refine ai (ak (aq (ao (aSR (gb true rfl rfl (fun _=>aZ Tryz.underlying27 tk157 rfl ((an.f_dyns (.of (aF 1 rfl)))) rfl (aH hx) rfl rfl) (fun h=>absurd h (by decide)) (fun ⟨b4_0,o4_0⟩=>(US 0 tk157 0 rfl rfl rfl rfl rfl (LT rfl (bg (zs:=[.int .i64 0,.int .i64 0,.int .i64 0,.int .i64 0]) (by kernel_rfl) rfl (fun b4_2=>(aHN ?_)))))))))))
  refine aJ rfl (aV 0 tk157 rfl rfl rfl rfl (aHK ?_))
  refine aNs (aq (DR [] 27 (VO 0 1 rfl rfl rfl (VL 1 0 tk3 rfl rfl rfl rfl rfl (bV 2 rfl rfl (Q0 rfl (cE _ _ _)) (bV 3 rfl rfl (bX rfl) (VM 4 rfl rfl (bW 5 rfl rfl rfl (fun hc=>qFA (off:=0) rfl) (bW 6 rfl rfl rfl (fun hc=>bS 0 tk3 (aa rfl hc) rfl rfl) (bW 7 rfl rfl rfl (fun hc=>ax rfl) (bW 8 rfl rfl rfl (fun hc=>qFA (off:=3) rfl) (bW 9 rfl rfl rfl (fun hc=>aS (o:=3) tk3 (aa rfl hc) (.of (aF 1 rfl)) rfl) (bW 10 rfl rfl rfl (fun hc=>qFA (off:=1) rfl) (bW 11 rfl rfl rfl (fun hc=>bS 0 tk3 (aa rfl hc) rfl rfl) (bW 12 rfl rfl rfl (fun hc=>Q0 (aD (aa rfl hc) rfl) (n3 _)) ?_)))))))))))))))
  refine bW 13 rfl rfl rfl (fun hc=>bQ (aa rfl hc) (aa rfl hc) (by (first | omega | (simp at hc;omega)))) ?_
  refine bW 14 rfl rfl rfl (fun hc=>dX (by kernel_rfl) (aD (aa rfl hc) (aD (aa rfl hc) (aD (aa rfl hc) rfl))) (fun w S fp hst=>(cE _ _ _).quiet0 hst)) (bW 15 rfl rfl rfl (fun hc=>bX (aa rfl hc)) (bV 16 rfl rfl (cC rfl rfl (fun h=>gf rfl h)) (VM 17 rfl rfl (bW 18 rfl rfl rfl (fun hc=>qFA (off:=2) rfl) (bW 19 rfl rfl rfl (fun hc=>bS 0 tk3 (aa rfl hc) rfl rfl) (bW 20 rfl rfl rfl (fun hc=>qFA (off:=10) rfl) (bW 21 rfl rfl rfl (fun hc=>aS (o:=10) tk25 (aa rfl hc) (.of (aF 1 rfl)) rfl) (bW 22 rfl rfl rfl (fun hc=>aY Tryz.underlying25 (aa rfl hc)) ?_))))))))
  refine bW 23 rfl rfl rfl (fun hc=>bQ (aa rfl hc) rfl (by (first | omega | (simp at hc;omega)))) ?_
  refine bW 24 rfl rfl rfl (fun hc=>dX (by kernel_rfl) (aD (aa rfl hc) (aD (aa rfl rfl) (aD (aa rfl hc) rfl))) (fun w S fp hst=>(cE _ _ _).quiet0 hst)) (bW 25 rfl rfl rfl (fun hc=>bX (aa rfl hc)) (bV 26 rfl rfl (cC rfl rfl (fun h=>gf rfl h)) (BN (ak ?_))))
  refine ah _ rfl (fun h2 => ?_) (fun h2 => ?_)
  ·skip
   have hb:og im e x=true:=h2
   have hd:fX im (e,n) k x=(false,(e,n)):=by unfold fX;rw [if_pos hb]
   refine aSR (aA rfl (aNn (aj (aK (bF (aK (aK (bF (aK (FZ1 [] Tryz.results69 rfl ?_))))))))))
   rw [hd] at hw
   unfold mn;rw [hw0,← hw];rfl
  ·skip
   have hb:og im e x=false:=h2
   obtain ⟨hkr,har,hir⟩:=vu hb
   refine ai (ak (aq (DR [] 7 (VO 0 0 rfl rfl rfl (VL 1 0 tk3 rfl rfl rfl rfl rfl (VO 2 1 rfl rfl rfl (VL 3 0 tk3 rfl rfl rfl rfl rfl (bV 4 rfl rfl (Q0 rfl (n3 _)) (bV 5 rfl rfl (aO rfl rfl (by omega)) (bV 6 rfl rfl (bz rfl) (BN (ak (aSR (UO 1 rfl rfl ?_))))))))))))))
   refine UL 0 tk3 rfl rfl rfl rfl (aNn (ao (aSR (aU rfl (bp rfl rfl) (aA rfl (aNn ?_))))))
   refine ah _ rfl (fun h3 => ?_) (fun h3 => ?_)
   ·skip
    have hk3:x.kind=3:=by simpa using h3
    refine aq (aq (DR [] 14 (VO 0 2 rfl rfl rfl (VL 1 0 tk3 rfl rfl rfl rfl rfl (bV 2 rfl rfl (bd rfl rfl) (VM 3 rfl rfl (bW 4 rfl rfl rfl (fun hc=>qFA (off:=11) rfl) (bW 5 rfl rfl rfl (fun hc=>aS (o:=11) tk26 (aa rfl hc) (.of (aF 1 rfl)) rfl) (bW 6 rfl rfl rfl (fun hc=>qFA (off:=2) rfl) (bW 7 rfl rfl rfl (fun hc=>bS 0 tk3 (aa rfl hc) rfl rfl) ?_))))))))))
    refine nf 8 rfl (by kernel_rfl) _ rfl rfl (fun hc=>aZ Tryz.underlying26 tk3 (aa rfl hc) ((an.f_slots (.of (aF 2 rfl)))) (aa rfl hc) (et (i:=x.import_) (by omega) (by simp at hc;omega)) ((Int.toNat_of_nonneg (by simp at hc;omega)).symm) rfl) (fun _=>⟨(0,0)⟩) (fun ⟨b10_8,o10_8⟩ => ?_)
    refine bW 9 rfl rfl rfl (fun hc=>ei (o:=0) tk3 (aa rfl hc) (aF 0 rfl) hc rfl) (bW 10 rfl rfl rfl (fun hc=>qFA (off:=0) rfl) (bW 11 rfl rfl rfl (fun hc=>bS 0 tk3 (aa rfl hc) rfl rfl) (bW 12 rfl rfl rfl (fun hc=>dE (aa rfl hc) (aa rfl hc)) (bV 13 rfl rfl (cC rfl rfl (fun h=>gf rfl h)) (BN (ak ?_))))))
    refine ah _ rfl (fun h4 => ?_) (fun h4 => ?_)
    ·skip
     have hs4:rz im x=true:=h4
     have hd:fX im (e,n) k x=(false,(e,n)):=by unfold fX;rw [if_neg (by rw [hb];decide),if_pos hk3,if_pos hs4]
     refine aSR (aA rfl (aNn (aj (aK (bF (bF (aK (aK (bF (aK (FZ1 [] Tryz.results69 rfl ?_)))))))))))
     rw [hd] at hw
     unfold mn;rw [hw0,← hw];rfl
    ·skip
     have hs4:rz im x=false:=h4
     have hd:fX im (e,n) k x=(true,(x.at_+c9 x.kind,n+1)):=by unfold fX;rw [if_neg (by rw [hb];decide),if_pos hk3,if_neg (by rw [hs4];decide)]
     refine ai (ak (ae (aM rfl (aU rfl (aO rfl rfl (by omega)) (aA rfl (bE (bb (bb (ak (ae (aU rfl (aO rfl rfl (by omega)) (aM rfl (aNn ?_)))))))))))))
     refine ⟨[1,3,4,10,11,12],[1,0],[],rfl,?_⟩
     rw [hd] at hw
     refine ⟨(k+1,(x.at_+c9 x.kind,n+1)),⟨⟨hk',hw,⟨?_,?_⟩,?_,?_⟩,rfl⟩,?_⟩<;>dsimp only<;>omega
   ·skip
    have hk3:¬ x.kind=3:=by simpa using h3
    refine aq (aSR (aU rfl (bp rfl rfl) (aA rfl (aNn ?_))))
    refine ah _ rfl (fun h5 => ?_) (fun h5 => ?_)
    ·skip
     refine ai (ak ?_)
     refine ah _ rfl (fun _ => ?_) (fun h=>absurd (h5.symm.trans h) (by decide))
     refine aSR (UO 2 rfl rfl (UL 0 tk3 rfl rfl rfl rfl (aU rfl (bd rfl rfl) (aNn ?_))))
     refine ah _ rfl (fun h6 => ?_) (fun h6 => ?_)
     ·skip
      have hki:x.import_<0:=by simpa using h6
      have hd:fX im (e,n) k x=(false,(e,n)):=by unfold fX;rw [if_neg (by rw [hb];decide),if_neg hk3,if_pos ⟨by simp at h5;omega,hki⟩]
      refine aSR (aA rfl (aNn (aj (bF (bF (aK (aK (bF (aK (FZ1 [] Tryz.results69 rfl ?_))))))))))
      rw [hd] at hw
      unfold mn;rw [hw0,← hw];rfl
     ·skip
      have hki:¬ x.import_<0:=by simpa using h6
      have hd:fX im (e,n) k x=(true,(x.at_+c9 x.kind,n)):=by unfold fX;rw [if_neg (by rw [hb];decide),if_neg hk3,if_neg (fun h=>hki h.2)]
      refine ai (bb (bb (ak (ae (aU rfl (aO rfl rfl (by omega)) (aM rfl (aNn ?_)))))))
      refine ⟨[1,3,4,10,11,12],[1,0],[],rfl,?_⟩
      rw [hd] at hw
      refine ⟨(k+1,(x.at_+c9 x.kind,n)),⟨⟨hk',hw,⟨?_,?_⟩,?_,?_⟩,rfl⟩,?_⟩<;>dsimp only<;>omega
    ·skip
     refine aSR (aU rfl (bp rfl rfl) (aA rfl (aNn ?_)))
     refine ah _ rfl (fun h7 => ?_) (fun h7 => ?_)
     ·skip
      refine ai (ak ?_)
      refine ah _ rfl (fun _ => ?_) (fun h=>absurd (h7.symm.trans h) (by decide))
      refine aSR (UO 2 rfl rfl (UL 0 tk3 rfl rfl rfl rfl (aU rfl (bd rfl rfl) (aNn ?_))))
      refine ah _ rfl (fun h8 => ?_) (fun h8 => ?_)
      ·skip
       have hki:x.import_<0:=by simpa using h8
       have hd:fX im (e,n) k x=(false,(e,n)):=by unfold fX;rw [if_neg (by rw [hb];decide),if_neg hk3,if_pos ⟨by simp at h7;omega,hki⟩]
       refine aSR (aA rfl (aNn (aj (bF (bF (aK (aK (bF (aK (FZ1 [] Tryz.results69 rfl ?_))))))))))
       rw [hd] at hw
       unfold mn;rw [hw0,← hw];rfl
      ·skip
       have hki:¬ x.import_<0:=by simpa using h8
       have hd:fX im (e,n) k x=(true,(x.at_+c9 x.kind,n)):=by unfold fX;rw [if_neg (by rw [hb];decide),if_neg hk3,if_neg (fun h=>hki h.2)]
       refine ai (bb (bb (ak (ae (aU rfl (aO rfl rfl (by omega)) (aM rfl (aNn ?_)))))))
       refine ⟨[1,3,4,10,11,12],[1,0],[],rfl,?_⟩
       rw [hd] at hw
       refine ⟨(k+1,(x.at_+c9 x.kind,n)),⟨⟨hk',hw,⟨?_,?_⟩,?_,?_⟩,rfl⟩,?_⟩<;>dsimp only<;>omega
     ·skip
      refine ae (aU rfl (bp rfl rfl) (aA rfl (aNn ?_)))
      refine ah _ rfl (fun h9 => ?_) (fun h9 => ?_)
      ·skip
       refine aSR (UO 2 rfl rfl (UL 0 tk3 rfl rfl rfl rfl (aU rfl (bd rfl rfl) (aNn ?_))))
       refine ah _ rfl (fun h10 => ?_) (fun h10 => ?_)
       ·skip
        have hki:x.import_<0:=by simpa using h10
        have hd:fX im (e,n) k x=(false,(e,n)):=by unfold fX;rw [if_neg (by rw [hb];decide),if_neg hk3,if_pos ⟨by simp at h9;omega,hki⟩]
        refine aSR (aA rfl (aNn (aj (bF (bF (aK (aK (bF (aK (FZ1 [] Tryz.results69 rfl ?_))))))))))
        rw [hd] at hw
        unfold mn;rw [hw0,← hw];rfl
       ·skip
        have hki:¬ x.import_<0:=by simpa using h10
        have hd:fX im (e,n) k x=(true,(x.at_+c9 x.kind,n)):=by unfold fX;rw [if_neg (by rw [hb];decide),if_neg hk3,if_neg (fun h=>hki h.2)]
        refine ai (bb (bb (ak (ae (aU rfl (aO rfl rfl (by omega)) (aM rfl (aNn ?_)))))))
        refine ⟨[1,3,4,10,11,12],[1,0],[],rfl,?_⟩
        rw [hd] at hw
        refine ⟨(k+1,(x.at_+c9 x.kind,n)),⟨⟨hk',hw,⟨?_,?_⟩,?_,?_⟩,rfl⟩,?_⟩<;>dsimp only<;>omega
      ·skip
       have hkn:¬ (x.kind=5∨x.kind=6∨x.kind=7):=by simp at h5 h7 h9;omega
       have hd:fX im (e,n) k x=(true,(x.at_+c9 x.kind,n)):=by unfold fX;rw [if_neg (by rw [hb];decide),if_neg hk3,if_neg (fun h=>hkn h.1)]
       refine ai (bb (bb (ak (ae (aU rfl (aO rfl rfl (by omega)) (aM rfl (aNn ?_)))))))
       refine ⟨[1,3,4,10,11,12],[1,0],[],rfl,?_⟩
       rw [hd] at hw
       refine ⟨(k+1,(x.at_+c9 x.kind,n)),⟨⟨hk',hw,⟨?_,?_⟩,?_,?_⟩,rfl⟩,?_⟩<;>dsimp only<;>omega
 ·skip
  have hke:k=im.dyns.l.length:=by have:=of_decide_eq_false h1;omega
  subst hke
  have hwe:(true,(e,n))=w0:=by rw [← hw,List.drop_length];rfl
  refine aQ (aR (aR (aX (ak (aq (aSR (UO 11 rfl rfl (UD 11 tk26 0 rfl rfl rfl rfl (aU rfl (aY Tryz.underlying26 rfl) (aM rfl (aNn (ao ?_))))))))))))
  refine aP [4,78,79,80] [1,0] [] (fun (j:Nat) st=>j≤im.slots.l.length∧st=⟨[(4,true,.int .i64 (n-kR (im.slots.l.take j))),(78,true,im.slots.val),(79,true,.int .i64 im.slots.l.length),(80,true,.int .i64 j)],[At b0_0 0 im.row,im.ok],[]⟩) (fun j=>im.slots.l.length-j) rfl (⟨0,⟨Nat.zero_le _,by rw [List.take_zero];show _=(⟨[(4,true,.int .i64 (n-0)),_,_,_],_,_⟩:Sta);rw [Int.sub_zero];rfl⟩⟩) ?_
  rintro j st ⟨hj,rfl⟩
  have hsn:=uf (im.slots.l.take j)
  have hsm:=List.length_take_le j im.slots.l
  refine aSR (aU rfl (bd rfl rfl) (aNs ?_))
  refine ah _ rfl (fun h11 => ?_) (fun h11 => ?_)
  ·skip
   have hj':j<im.slots.l.length:=by simpa using h11
   obtain ⟨s,hs⟩:∃ s,im.slots.l[j]? = some s:=⟨_,List.getElem?_eq_getElem hj'⟩
   have htk:=wj (im.slots.l.take j) s
   have hta:im.slots.l.take (j+1)=im.slots.l.take j++[s]:=by rw [List.take_add_one,hs];rfl
   rw [← hta] at htk
   have hsn2:=uf (im.slots.l.take (j+1))
   have hsm2:=List.length_take_le (j+1) im.slots.l
   refine ai (ak (aq (ao (aSR (gb true rfl rfl (fun _=>aZ Tryz.underlying26 tk3 rfl ((an.f_slots (.of (aF 1 rfl)))) rfl (aH hs) rfl rfl) (fun h=>absurd h (by decide)) (fun ⟨b21_0,o21_0⟩=>(US 0 tk3 0 rfl rfl rfl rfl rfl (aA rfl (aNn (aSR (aM rfl (aU rfl (dE rfl rfl) (aNn ?_)))))))))))))
   refine ah _ rfl (fun h12 => ?_) (fun h12 => ?_)
   ·skip
    have hs1:¬ s = -1:=by simpa using h12
    rw [if_neg hs1] at htk
    refine ae (aM rfl (aU rfl (bQ rfl rfl (by omega)) (aA rfl (bE (bb (ak (ae (aU rfl (aO rfl rfl (by omega)) (aM rfl (aNn ?_))))))))))
    refine ⟨[4,78,79,80],[1,0],[],rfl,?_⟩
    exact ⟨j+1,⟨hj',by rw [htk,← Int.sub_sub];rfl⟩,by omega⟩
   ·skip
    have hs1:s = -1:=by simpa using h12
    rw [if_pos hs1] at htk
    refine ai (bb (ak (ae (aU rfl (aO rfl rfl (by omega)) (aM rfl (aNn ?_))))))
    refine ⟨[4,78,79,80],[1,0],[],rfl,?_⟩
    exact ⟨j+1,⟨hj',by rw [htk];rfl⟩,by omega⟩
  ·skip
   have hje:j=im.slots.l.length:=by have:=of_decide_eq_false h11;omega
   subst hje
   refine aQ (aR (aR (aX (ak (aSR (aM rfl (aU rfl (bp rfl rfl) (aA rfl (aNn (aj (FZ1 [] Tryz.results69 rfl ?_)))))))))))
   unfold mn;rw [hw0,← hwe,List.take_length];rfl
end Go.Proofs.YtfkcmbonmpcbfaaGreat

namespace Go.Proofs.YtfkcmbonmpcbfaaGreat
open Go.RowKit Go.Lp Go.Sy Go.Lv
def xl(im:an):Bool:=(((decide ((im.inits.l.length:Int)≤4096) && decide ((im.lasts.l.length:Int)≤4096)) && allI (fun _ n=>instrB im.code n) 0 im.inits.l) && allI (fun _ n=>instrB im.code n) 0 im.lasts.l) && (decide (im.entry = -1) || (instrB im.code im.entry && !im.lib))
def wZ(s:List ByteArray)(_:Nat)(n:ByteArray):Bool × List ByteArray:=(ee n && !(eB s n).getD false,s++[n])
def oN(im:an)(v:Bool):Bool:=(decide ((im.needs.l.length:Int)≤64) && v) && (eS wZ [im.name] 0 im.needs.l).1
def aaA(im:an)(i:Nat)(x:fo):Bool:=(((lT x.name && (decide (x.kind=0) || decide (x.kind=1))) && gg x.at_ 0 im.zero) && decide (x.size≥0)) && (decide ((i:Int)=0) || decide ((elt im.info.marks.l ((i:Int)-1)).at_≤x.at_))
def aay(im:an)(i:Nat)(x:fl):Bool:=(((decide (x.sec=0) && lT x.file) && gg x.at_ 0 (im.code-1)) && decide (x.line≥0)) && (decide ((i:Int)=0) || decide ((elt im.info.lines.l ((i:Int)-1)).at_≤x.at_))
def vT(x:eQ):Bool:=(gg x.from_ 0 1048576 && gg x.size 0 1048576) && gg x.to_ 0 1048576
def aaa(im:an)(x:dD):Bool:=((((allI (fun _ p=>vT p) 0 x.pieces.l && ee x.sec) && kH x.obj) && decide ((x.from_.size:Int)=32)) && (decide (x.code = -1) || instrB im.code x.code)) && decide ((x.pieces.l.length:Int)≤64)
def sC(im:an):Bool:=decide ((im.changes.l.length:Int)≤4096) && allI (fun _ x=>aaa im x) 0 im.changes.l
open Go.Proofs.Tryz
attribute [local irreducible] aL aB awp aC fwp Quiet
theorem mm(im:an)(hS:eZ im)(b i:Nat)(x:Int):Con Tryz.prog 157 [.int .i64 i,.int .i64 x,.pointer (some ⟨b,0,none⟩)] [At b 0 im.row] [] fun r _ _=>r=.bool (instrB im.code x):=by
 have hc0:=hS.c0
 have hcd:=hS.cd
 have hdz:=hS.dz
 have hzm:=hS.zm
 refine EN3 Tryz.func157 rfl (aSR (aA rfl (aNn (aSR (UD 0 tk40 0 rfl rfl rfl rfl (aM rfl (aU rfl (Q0 rfl (con_instr im ⟨hc0,by omega⟩ x)) (aA rfl (aNn (aj (FZ1 [] Tryz.results157 rfl ?_)))))))))))
 rfl
theorem vg(im:an)(hS:eZ im):Con Tryz.prog 70 [im.val] [im.ok] [] fun r _ _=>r=.bool (xl im):=by
 have hc0:=hS.c0
 have hcd:=hS.cd
 have hdz:=hS.dz
 have hzm:=hS.zm
 refine EN1 Tryz.func70 rfl (aSR (LT rfl (bC rfl rfl rfl (fun b0_0=>(aHN ?_)))))
 refine aA rfl (aNs (bj 0 rfl rfl ?_))
 show awp _ _ _ _ ⟨_,At _ 0 _::_,_⟩
 refine ae (aU rfl (dy (l:=[.tmp 1]) rfl) (aA rfl (aNn (aSR (UO 14 rfl rfl (UD 14 tk26 0 rfl rfl rfl rfl (aU rfl (aY Tryz.underlying26 rfl) (aU rfl (di rfl rfl) (aM rfl (GO 15 rfl rfl rfl (aG rfl rfl (fun hc=>aS (o:=15) tk26 (aa rfl hc) (.of (aF 0 rfl)) rfl) (aG rfl rfl (fun hc=>aY Tryz.underlying26 (aa rfl hc)) (aG rfl rfl (fun hc=>di (aa rfl hc) rfl) (aU rfl (aT rfl rfl (fun h=>gt rfl h)) (aM rfl ?_)))))))))))))))
 refine GO 14 rfl rfl rfl (aG rfl rfl (fun hc=>aS (o:=14) tk26 (aa rfl hc) (.of (aF 0 rfl)) rfl) (aG rfl rfl (fun hc=>ax rfl) (aG rfl rfl (fun hc=>QC (aD (aa rfl hc) (aD (aa rfl hc) rfl)) (fun w S fp hst=>(((iy im.inits 157 [.pointer (some ⟨b0_0,0,none⟩)] (At b0_0 0 im.row) (fun _ n=>instrB im.code n) (by kernel_rfl) (fun i x _=>mm im hS b0_0 i x)).post (fun _ _ _ h=>h.2.2)).pre2 (ps:=[At b0_0 0 im.row,im.ok]) (an.f_inits (.of (aF 1 rfl))) (.of (aF 0 rfl))).quiet2 (aF 0 rfl) (aF 1 rfl) hst)) (aU rfl (aT rfl rfl (fun h=>gt rfl h)) (aM rfl (GO 15 rfl rfl rfl (aG rfl rfl (fun hc=>aS (o:=15) tk26 (aa rfl hc) (.of (aF 0 rfl)) rfl) (aG rfl rfl (fun hc=>ax rfl) (aG rfl rfl (fun hc=>QC (aD (aa rfl hc) (aD (aa rfl hc) rfl)) (fun w S fp hst=>(((iy im.lasts 157 [.pointer (some ⟨b0_0,0,none⟩)] (At b0_0 0 im.row) (fun _ n=>instrB im.code n) (by kernel_rfl) (fun i x _=>mm im hS b0_0 i x)).post (fun _ _ _ h=>h.2.2)).pre2 (ps:=[At b0_0 0 im.row,im.ok]) (an.f_lasts (.of (aF 1 rfl))) (.of (aF 0 rfl))).quiet2 (aF 0 rfl) (aF 1 rfl) hst)) (aU rfl (aT rfl rfl (fun h=>gt rfl h)) (aM rfl (GO 16 rfl rfl rfl ?_))))))))))))
 refine aG rfl rfl (fun hc=>aS (o:=16) tk3 (aa rfl hc) (.of (aF 0 rfl)) rfl) (aG rfl rfl (fun hc=>bp (aa rfl hc) rfl) (aG rfl rfl (fun hc=>ax (aa rfl hc)) (aG rfl rfl (fun hc=>aS (o:=0) tk40 rfl (.of (aF 0 rfl)) rfl) (GO 16 rfl rfl rfl (aG rfl rfl (fun hc=>aS (o:=16) tk3 (aa rfl hc) (.of (aF 0 rfl)) rfl) (aG rfl rfl (fun hc=>Q0 (aD (aa rfl hc) (aD (aa rfl hc) rfl)) (con_instr im ⟨hc0,by omega⟩ im.entry)) (aG rfl rfl (fun hc=>ax (aa rfl hc)) (GO 1 rfl rfl rfl ?_))))))))
 refine aG rfl rfl (fun hc=>aS (o:=1) tk4 (aa rfl hc) (.of (aF 0 rfl)) rfl) (aG rfl rfl (fun hc=>bX (aa rfl hc)) (aG rfl rfl (fun hc=>aT (aa rfl hc) rfl (fun h=>gt hc h)) (aG rfl rfl (fun hc=>cC (aa rfl hc) rfl (fun h=>gf hc h)) (aU rfl (aT rfl rfl (fun h=>gt rfl h)) (aA rfl (aNn (aj (FZ1 [] Tryz.results70 rfl ?_))))))))
 rfl
theorem uT(im:an)(bm b2:Nat)(s:List ByteArray)(i:Nat)(x:ByteArray)(hx:im.needs.l[i]? = some x) :
   Con Tryz.prog 160 [.int .i64 i,.string x,.pointer (some ⟨b2,0,none⟩)] [cg (At b2 0 [.v (.map (some bm))]) im.ok] [cr bm gO vBo (eB s)]
     fun r ps hp=>ps=[]∧r=.bool (wZ s i x).1∧hp=[cr bm gO vBo (eB (wZ s i x).2)]:=by
 refine EN3 Tryz.func160 rfl (bK _ (Ent.left (.of (aF 0 rfl))) (eE (Ent.all (f:=ea) (an.f_needsA (Ent.right (.of (aF 1 rfl)))) hx) (fun hsx=>(aSR (aA rfl (aNn (aSR (aM rfl (aU rfl (Q0 rfl (fH _ hsx)) (aM rfl (aG rfl rfl (fun hc=>aS (o:=0) tk244 rfl (.of (aF 0 rfl)) rfl) (aG rfl rfl (fun hc=>ax rfl) (aG rfl rfl (fun hc=>gQ (k:=x) (v0:=false) 0 Tryz.underlying244 (kyT) (by kernel_rfl) (aa rfl hc) (aa rfl hc) rfl) ?_)))))))))))))
 refine aG rfl rfl (fun hc=>bX (aa rfl hc)) (aU rfl (aT rfl rfl (fun h=>gt rfl h)) (aA rfl (aNn (aSR (UD 0 tk244 0 rfl rfl rfl rfl (aM rfl (aJ rfl (cO (k:=x) (v:=true) 0 Tryz.underlying244 (kyT) rfl rfl rfl rfl (aHK ?_)))))))))
 refine bE ?_
 rw [← fV]
 refine ak (aSR (aM rfl (aA rfl (aNn (aj (FZ1 [0] Tryz.results160 rfl ?_))))))
 exact ⟨rfl,rfl,rfl⟩
theorem yg(im:an):Con Tryz.prog 71 [im.val] [im.ok] [] (YN Value.bool fun b=>(b=true→VOk im.versions.l∧oN im true=true)∧(gF im.versions.l→oN im true=true→b=true)):=by
 refine EN1 Tryz.func71 rfl (aSR (LT rfl (bC rfl rfl rfl (fun b0_0=>(aHN ?_)))))
 refine aA rfl (aNs (bj 0 rfl rfl ?_))
 show awp _ _ _ _ ⟨_,At _ 0 _::_,_⟩
 refine ae (LT rfl (dU (gO) (vBo) rfl (fun b1_0=>(aHN ?_))))
 refine UO 0 rfl rfl (UD 0 tk9 0 rfl rfl rfl rfl (aJ rfl (gZ (k:=im.name) (v:=true) 1 Tryz.underlying244 (kyT) rfl rfl rfl rfl (aHK ?_))))
 refine aM rfl (LT rfl (bg (zs:=[.map none]) (by kernel_rfl) rfl (fun b1_5=>(aHN ?_))))
 refine aJ rfl (aV 2 tk244 rfl rfl rfl rfl (aHK ?_))
 refine aNs ?_
 rw [o7,← fV]
 refine bj 2 rfl rfl ?_
 show awp _ _ _ _ ⟨_,At b1_5 0 [.v (.map (some b1_0))]::_,_⟩
 refine ae (UO 17 rfl rfl (UD 17 tk28 1 rfl rfl rfl rfl (aU rfl (aY Tryz.underlying28 rfl) (aU rfl (di rfl rfl) (aM rfl (GO 18 rfl rfl rfl (aG rfl rfl (fun hc=>aS (o:=18) tk29 (aa rfl hc) (.of (aF 1 rfl)) rfl) ?_)))))))
 refine iP (caps:=[]) [0] (false) (by kernel_rfl) _ rfl rfl (fun _=>rfl) (fun hc=>(aD (aa rfl hc) rfl)) (fun hc=>by rw [List.append_nil];exact (oc im.versions).pre2 (an.f_versions (.of (aF 0 rfl))) (an.f_versionsA (.of (aF 0 rfl)))) (fun v1 hv1 => ?_)
 refine aU rfl (aT rfl rfl (fun h=>gt rfl h)) (aM rfl (GO 17 rfl rfl rfl (aG rfl rfl (fun hc=>aS (o:=17) tk28 (aa rfl hc) (.of (aF 1 rfl)) rfl) (aG rfl rfl (fun hc=>dy (l:=[.tmp 3]) rfl) ?_))))
 refine pT (caps:=[]) [2,1,0] 1 (by kernel_rfl) _ rfl rfl (Nat.le_of_ble_eq_true rfl) (fun _=>rfl) (fun hc=>(aD (aa rfl hc) (aD (aa rfl hc) rfl))) (fun hc=>by rw [List.append_nil];exact (Con.clH (((nX im.needs 160 [.pointer (some ⟨b1_5,0,none⟩)] (cg (At b1_5 0 [.v (.map (some b1_0))]) im.ok) (fun s=>cr b1_0 gO vBo (eB s)) wZ [im.name] (by kernel_rfl) (fun s i x hx=>uT im b1_0 b1_5 s i x hx)).pre2 (an.f_needs (.of (aF 2 rfl))) (Ent.mk2 (.of (aF 0 rfl)) (.of (aF 2 rfl))))) (fun _ _ _ h=>h.2.1))) ?_
 refine aHK ?_
 refine aU rfl (aT rfl rfl (fun h=>gt rfl h)) (aA rfl (aNn (aj (FZ1 [] Tryz.results71 rfl ?_))))
 refine ⟨⟨rfl,rfl⟩,_,rfl,fun h => ?_,fun hs h => ?_⟩
 · rw [Bool.and_eq_true,Bool.and_eq_true] at h
   refine ⟨(hv1 (by rw [h.1.1];rfl)).1 h.1.2,?_⟩
   unfold oN;rw [h.1.1,h.2];rfl
 · unfold oN at h
   rw [Bool.and_eq_true,Bool.and_eq_true] at h
   rw [h.1.1,h.2,(hv1 (by rw [h.1.1];rfl)).2 hs];rfl
theorem pE(i:Nat)(x:eQ):Con Tryz.prog 183 [.int .i64 i,x.val] [] [] fun r _ _=>r=.bool (vT x):=by
 refine EN2 Tryz.func183 rfl (aSR (LT rfl (bC rfl rfl rfl (fun b0_0=>(aHN ?_)))))
 refine aA rfl (aNn (aSR (UO 0 rfl rfl (UL 0 tk3 rfl rfl rfl rfl (aU rfl (Q0 rfl (cE _ _ _)) (aM rfl (GO 1 rfl rfl rfl (GL 0 tk3 rfl rfl rfl rfl rfl (aG rfl rfl (fun hc=>dX (by kernel_rfl) (aD (aa rfl hc) (aD (aa rfl rfl) (aD (aa rfl rfl) rfl))) (fun w S fp hst=>(cE _ _ _).quiet0 hst)) (aU rfl (aT rfl rfl (fun h=>gt rfl h)) (aM rfl (GO 2 rfl rfl rfl (GL 0 tk3 rfl rfl rfl rfl rfl (aG rfl rfl (fun hc=>dX (by kernel_rfl) (aD (aa rfl hc) (aD (aa rfl rfl) (aD (aa rfl rfl) rfl))) (fun w S fp hst=>(cE _ _ _).quiet0 hst)) ?_))))))))))))))
 refine aU rfl (aT rfl rfl (fun h=>gt rfl h)) (aA rfl (aNn (aj (FZ1 [] Tryz.results183 rfl ?_))))
 rfl
theorem q9(im:an)(hS:eZ im)(b i:Nat)(x:dD)(hx:im.changes.l[i]? = some x):Con Tryz.prog 181 [.int .i64 i,x.val,.pointer (some ⟨b,0,none⟩)] [cg (At b 0 im.row) im.ok] [] fun r _ _=>r=.bool (aaa im x):=by
 have hc0:=hS.c0
 have hcd:=hS.cd
 have hdz:=hS.dz
 have hzm:=hS.zm
 refine EN3 Tryz.func181 rfl (bK _ (Ent.left (.of (aF 0 rfl))) (bK _ (Ent.all (f:=dD.ok) (an.f_changesA (Ent.right (.of (aF 1 rfl)))) hx) (eE (dD.f_sec (.of (aF 0 rfl))) (fun hss=>(eE (dD.f_obj (.of (aF 0 rfl))) (fun hso=>(aSR (LT rfl (bC rfl rfl rfl (fun b0_0=>(aHN ?_)))))))))))
 refine aA rfl (aNn (aSR (UO 3 rfl rfl (UL 0 tk202 rfl rfl rfl rfl ?_))))
 refine aU rfl (Q1 rfl (((nS x.pieces 183 [] x.ok (fun _ p=>vT p) (by kernel_rfl) (fun i p _=>(pE i p).pre (fun _ h=>by cases h))).post (fun _ _ _ h=>h.2.2)).pre2 (ps:=[x.ok]) (dD.f_pieces (.of (aF 0 rfl))) (.of (aF 0 rfl))) 0 rfl) ?_
 refine aA rfl (aNn (aSR (aM rfl (aM rfl (GO 1 rfl rfl rfl (GL 0 tk9 rfl rfl rfl rfl rfl (aG rfl rfl (fun hc=>Q0 (aD (aa rfl hc) rfl) (fH _ hss)) (aU rfl (aT rfl rfl (fun h=>gt rfl h)) (aM rfl (GO 0 rfl rfl rfl (GL 0 tk9 rfl rfl rfl rfl rfl (aG rfl rfl (fun hc=>Q0 (aD (aa rfl hc) rfl) (iz _ hso)) (aU rfl (aT rfl rfl (fun h=>gt rfl h)) (aM rfl (GO 2 rfl rfl rfl ?_)))))))))))))))
 refine GL 0 tk9 rfl rfl rfl rfl rfl (aG rfl rfl (fun hc=>eY Tryz.underlying9 (aa rfl hc)) (aG rfl rfl (fun hc=>bp (aa rfl hc) rfl) (aU rfl (aT rfl rfl (fun h=>gt rfl h)) (aM rfl (GO 4 rfl rfl rfl (GL 0 tk3 rfl rfl rfl rfl rfl (aG rfl rfl (fun hc=>bp (aa rfl hc) rfl) (aG rfl rfl (fun hc=>ax (aa rfl hc)) (aG rfl rfl (fun hc=>aS (o:=0) tk40 rfl (.of (aF 1 rfl)) rfl) (GO 4 rfl rfl rfl (GL 0 tk3 rfl rfl rfl rfl rfl (aG rfl rfl (fun hc=>Q0 (aD (aa rfl hc) (aD (aa rfl hc) rfl)) (con_instr im ⟨hc0,by omega⟩ x.code)) (aG rfl rfl (fun hc=>cC (aa rfl hc) rfl (fun h=>gf hc h)) (aU rfl (aT rfl rfl (fun h=>gt rfl h)) (aM rfl ?_)))))))))))))))
 refine GO 3 rfl rfl rfl (GL 0 tk202 rfl rfl rfl rfl rfl (aG rfl rfl (fun hc=>aY Tryz.underlying202 (aa rfl hc)) (aG rfl rfl (fun hc=>di (aa rfl hc) rfl) (aU rfl (aT rfl rfl (fun h=>gt rfl h)) (aA rfl (aNn (aj (FZ1 [] Tryz.results181 rfl ?_))))))))
 rfl
theorem sH(im:an)(hS:eZ im):Con Tryz.prog 73 [im.val] [im.ok] [] fun r _ _=>r=.bool (sC im):=by
 refine EN1 Tryz.func73 rfl (aSR (LT rfl (bC rfl rfl rfl (fun b0_0=>(aHN ?_)))))
 refine aA rfl (aNs (bj 0 rfl rfl ?_))
 show awp _ _ _ _ ⟨_,At _ 0 _::_,_⟩
 refine ae (UO 25 rfl rfl (UD 25 tk38 0 rfl rfl rfl rfl (aU rfl (aY Tryz.underlying38 rfl) (aU rfl (di rfl rfl) (aM rfl (GO 25 rfl rfl rfl (aG rfl rfl (fun hc=>aS (o:=25) tk38 (aa rfl hc) (.of (aF 0 rfl)) rfl) (aG rfl rfl (fun hc=>dy (l:=[.tmp 1]) rfl) (aG rfl rfl (fun hc=>QC (aD (aa rfl hc) (aD (aa rfl hc) rfl)) (fun w S fp hst=>(((pz im.changes 181 [.pointer (some ⟨b0_0,0,none⟩)] (cg (At b0_0 0 im.row) im.ok) (fun _ x=>aaa im x) (by kernel_rfl) (fun i x hx=>q9 im hS b0_0 i x hx)).post (fun _ _ _ h=>h.2.2)).pre2 (ps:=[At b0_0 0 im.row,im.ok]) (an.f_changes (.of (aF 1 rfl))) (Ent.mk2 (.of (aF 0 rfl)) (.of (aF 1 rfl)))).quiet2 (aF 0 rfl) (aF 1 rfl) hst)) (aU rfl (aT rfl rfl (fun h=>gt rfl h)) (aA rfl (aNn (aj (FZ1 [] Tryz.results73 rfl ?_))))))))))))))
 rfl
abbrev abV(im:an)(b b3:Nat):Per:=cg (At b 0 im.row) (cg (At b3 0 im.info.row) im.ok)
theorem xS(im:an)(b b3 i:Nat)(x:fo)(hx:im.info.marks.l[i]? = some x):Con Tryz.prog 162 [.int .i64 i,x.val,.pointer (some ⟨b,0,none⟩),.pointer (some ⟨b3,0,none⟩)] [abV im b b3] [] fun r _ _=>r=.bool (aaA im i x):=by
 have hil:=(List.getElem?_eq_some_iff.1 hx).1
 refine EN4 Tryz.func162 rfl (bK _ (Ent.left (.of (aF 0 rfl))) (bK _ (Ent.left (Ent.right (.of (aF 1 rfl)))) (bK _ (Ent.right (Ent.right (.of (aF 2 rfl)))) (ct (cW.f_marks (an.f_info (.of (aF 0 rfl)))) (fun hml=>(aSR (LT rfl (bC rfl rfl rfl (fun b0_0=>(aHN ?_))))))))))
 refine aA rfl (aNs (DR [] 42 (VO 0 0 rfl rfl rfl (VL 1 0 tk9 rfl rfl rfl rfl rfl (bV 2 rfl rfl (Q0 rfl (gY _)) (VM 3 rfl rfl (bW 4 rfl rfl rfl (fun hc=>qFA (off:=1) rfl) (bW 5 rfl rfl rfl (fun hc=>bS 0 tk3 (aa rfl hc) rfl rfl) (bW 6 rfl rfl rfl (fun hc=>bp (aa rfl hc) rfl) (bW 7 rfl rfl rfl (fun hc=>ax (aa rfl hc)) (bW 8 rfl rfl rfl (fun hc=>qFA (off:=1) rfl) (bW 9 rfl rfl rfl (fun hc=>bS 0 tk3 (aa rfl hc) rfl rfl) (bW 10 rfl rfl rfl (fun hc=>bp (aa rfl hc) rfl) (bW 11 rfl rfl rfl (fun hc=>cC (aa rfl hc) rfl (fun h=>gf hc h)) (bV 12 rfl rfl (aT rfl rfl (fun h=>gt rfl h)) ?_)))))))))))))))
 refine VM 13 rfl rfl (bW 14 rfl rfl rfl (fun hc=>qFA (off:=2) rfl) (bW 15 rfl rfl rfl (fun hc=>bS 0 tk3 (aa rfl hc) rfl rfl) (bW 16 rfl rfl rfl (fun hc=>qFA (off:=4) rfl) (bW 17 rfl rfl rfl (fun hc=>aS (o:=4) tk3 (aa rfl hc) (.of (aF 2 rfl)) rfl) (bW 18 rfl rfl rfl (fun hc=>dX (by kernel_rfl) (aD (aa rfl hc) (aD (aa rfl rfl) (aD (aa rfl hc) rfl))) (fun w S fp hst=>(cE _ _ _).quiet0 hst)) (bV 19 rfl rfl (aT rfl rfl (fun h=>gt rfl h)) (VM 20 rfl rfl (bW 21 rfl rfl rfl (fun hc=>qFA (off:=3) rfl) (bW 22 rfl rfl rfl (fun hc=>bS 0 tk3 (aa rfl hc) rfl rfl) (bW 23 rfl rfl rfl (fun hc=>dY (aa rfl hc) rfl) (bV 24 rfl rfl (aT rfl rfl (fun h=>gt rfl h)) (VM 25 rfl rfl (bW 26 rfl rfl rfl (fun hc=>ax rfl) (bW 27 rfl rfl rfl (fun hc=>bp (aa rfl hc) rfl) (bW 28 rfl rfl rfl (fun hc=>ax (aa rfl hc)) ?_)))))))))))))))
 refine bW 29 rfl rfl rfl (fun hc=>qFA (off:=0) rfl) (bW 30 rfl rfl rfl (fun hc=>aS (o:=0) tk30 (aa rfl hc) (.of (aF 1 rfl)) rfl) (bW 31 rfl rfl rfl (fun hc=>ax rfl) ?_))
 refine bW 32 rfl rfl rfl (fun hc=>bQ (aa rfl hc) rfl (by (first | omega | (simp at hc;omega)))) ?_
 refine nf 33 rfl (by kernel_rfl) _ rfl rfl (fun hc=>aZ Tryz.underlying30 tk218 (aa rfl hc) ((cW.f_marks (an.f_info (.of (aF 0 rfl))))) (aa rfl hc) (et (i:=(i:Int)-1) (by simp at hc;omega) (by simp at hc;omega)) ((Int.toNat_of_nonneg (by simp at hc;omega)).symm) rfl) (fun _=>⟨(0,0)⟩) (fun ⟨b1_33,o1_33⟩ => ?_)
 refine bW 34 rfl rfl rfl (fun hc=>qFA (off:=2) (aa rfl hc)) (bW 35 rfl rfl rfl (fun hc=>ei (o:=2) tk3 (aa rfl hc) (aF 0 rfl) hc rfl) (bW 36 rfl rfl rfl (fun hc=>qFA (off:=2) rfl) (bW 37 rfl rfl rfl (fun hc=>bS 0 tk3 (aa rfl hc) rfl rfl) (bW 38 rfl rfl rfl (fun hc=>di (aa rfl hc) (aa rfl hc)) (bW 39 rfl rfl rfl (fun hc=>cC (aa rfl hc) rfl (fun h=>gf hc h)) (bV 40 rfl rfl (aT rfl rfl (fun h=>gt rfl h)) (bV 41 rfl rfl (bz rfl) (BN (ak (aj (FZ1 [] Tryz.results162 rfl ?_)))))))))))
 rfl
theorem xT(im:an)(hS:eZ im)(b b3 i:Nat)(x:fl)(hx:im.info.lines.l[i]? = some x):Con Tryz.prog 165 [.int .i64 i,x.val,.pointer (some ⟨b,0,none⟩),.pointer (some ⟨b3,0,none⟩)] [abV im b b3] [] fun r _ _=>r=.bool (aay im i x):=by
 have hil:=(List.getElem?_eq_some_iff.1 hx).1
 have hc0:=hS.c0
 have hcd:=hS.cd
 have hdz:=hS.dz
 have hzm:=hS.zm
 refine EN4 Tryz.func165 rfl (bK _ (Ent.left (.of (aF 0 rfl))) (bK _ (Ent.left (Ent.right (.of (aF 1 rfl)))) (bK _ (Ent.right (Ent.right (.of (aF 2 rfl)))) (ct (cW.f_lines (an.f_info (.of (aF 0 rfl)))) (fun hml=>(aSR (LT rfl (bC rfl rfl rfl (fun b0_0=>(aHN ?_))))))))))
 refine aA rfl (aNs (DR [] 38 (VO 0 0 rfl rfl rfl (VL 1 0 tk3 rfl rfl rfl rfl rfl (bV 2 rfl rfl (bp rfl rfl) (VM 3 rfl rfl (bW 4 rfl rfl rfl (fun hc=>qFA (off:=2) rfl) (bW 5 rfl rfl rfl (fun hc=>bS 0 tk9 (aa rfl hc) rfl rfl) (bW 6 rfl rfl rfl (fun hc=>Q0 (aD (aa rfl hc) rfl) (gY _)) (bV 7 rfl rfl (aT rfl rfl (fun h=>gt rfl h)) (VM 8 rfl rfl (bW 9 rfl rfl rfl (fun hc=>qFA (off:=1) rfl) (bW 10 rfl rfl rfl (fun hc=>bS 0 tk3 (aa rfl hc) rfl rfl) (bW 11 rfl rfl rfl (fun hc=>qFA (off:=2) rfl) (bW 12 rfl rfl rfl (fun hc=>aS (o:=2) tk3 (aa rfl hc) (.of (aF 2 rfl)) rfl) ?_)))))))))))))))
 refine bW 13 rfl rfl rfl (fun hc=>bQ (aa rfl hc) rfl (by (first | omega | (simp at hc;omega)))) ?_
 refine bW 14 rfl rfl rfl (fun hc=>dX (by kernel_rfl) (aD (aa rfl hc) (aD (aa rfl rfl) (aD (aa rfl hc) rfl))) (fun w S fp hst=>(cE _ _ _).quiet0 hst)) (bV 15 rfl rfl (aT rfl rfl (fun h=>gt rfl h)) (VM 16 rfl rfl (bW 17 rfl rfl rfl (fun hc=>qFA (off:=3) rfl) (bW 18 rfl rfl rfl (fun hc=>bS 0 tk3 (aa rfl hc) rfl rfl) (bW 19 rfl rfl rfl (fun hc=>dY (aa rfl hc) rfl) (bV 20 rfl rfl (aT rfl rfl (fun h=>gt rfl h)) (VM 21 rfl rfl (bW 22 rfl rfl rfl (fun hc=>ax rfl) (bW 23 rfl rfl rfl (fun hc=>bp (aa rfl hc) rfl) (bW 24 rfl rfl rfl (fun hc=>ax (aa rfl hc)) (bW 25 rfl rfl rfl (fun hc=>qFA (off:=1) rfl) (bW 26 rfl rfl rfl (fun hc=>aS (o:=1) tk31 (aa rfl hc) (.of (aF 1 rfl)) rfl) (bW 27 rfl rfl rfl (fun hc=>ax rfl) ?_)))))))))))))
 refine bW 28 rfl rfl rfl (fun hc=>bQ (aa rfl hc) rfl (by (first | omega | (simp at hc;omega)))) ?_
 refine nf 29 rfl (by kernel_rfl) _ rfl rfl (fun hc=>aZ Tryz.underlying31 tk220 (aa rfl hc) ((cW.f_lines (an.f_info (.of (aF 0 rfl))))) (aa rfl hc) (et (i:=(i:Int)-1) (by simp at hc;omega) (by simp at hc;omega)) ((Int.toNat_of_nonneg (by simp at hc;omega)).symm) rfl) (fun _=>⟨(0,0)⟩) (fun ⟨b1_29,o1_29⟩ => ?_)
 refine bW 30 rfl rfl rfl (fun hc=>qFA (off:=1) (aa rfl hc)) (bW 31 rfl rfl rfl (fun hc=>ei (o:=1) tk3 (aa rfl hc) (aF 0 rfl) hc rfl) (bW 32 rfl rfl rfl (fun hc=>qFA (off:=1) rfl) (bW 33 rfl rfl rfl (fun hc=>bS 0 tk3 (aa rfl hc) rfl rfl) (bW 34 rfl rfl rfl (fun hc=>di (aa rfl hc) (aa rfl hc)) (bW 35 rfl rfl rfl (fun hc=>cC (aa rfl hc) rfl (fun h=>gf hc h)) (bV 36 rfl rfl (aT rfl rfl (fun h=>gt rfl h)) (bV 37 rfl rfl (bz rfl) (BN (ak (aj (FZ1 [] Tryz.results165 rfl ?_)))))))))))
 rfl
end Go.Proofs.YtfkcmbonmpcbfaaGreat

namespace Go.Proofs.YtfkcmbonmpcbfaaGreat
open Go.RowKit Go.Lp Go.Sy Go.Lv
def abS(im:an)(e:Int)(_:Nat)(x:bt):Bool × Int:=(gg x.at_ e im.code && gg x.size 1 (IntKind.i64.wrap (im.code-x.at_)),IntKind.i64.wrap (x.at_+x.size))
def aef(im:an)(e:Int)(g:Int × Int × Int):Bool:=((decide (g.1=0) && decide (g.2.1≥e)) && decide (g.2.1≤g.2.2)) && decide (g.2.2≤im.code)
def jZ{α:Type}(im:an)(g:α→Int × Int × Int)(e:Int)(_:Nat)(x:α):Bool × Int:=(aef im e (g x),(g x).2.1)
abbrev v3(g:Int × Int × Int):Value:=.tuple #[.int .i64 g.1,.int .i64 g.2.1,.int .i64 g.2.2]
abbrev inG(x:cJ):Int × Int × Int:=(x.sec,x.from_,x.to_)
abbrev vaG(x:ga):Int × Int × Int:=(x.sec,x.from_,x.to_)
abbrev deG(x:dH):Int × Int × Int:=(x.sec,x.from_,x.to_)
def inB(x:cJ):Bool:=(lT x.name && lT x.file) && decide (x.line≥0)
def vaB(im:an)(x:ga):Bool:=lT x.name && ((decide (x.where_=1) || (decide (x.where_=0) && gg x.n 0 15)) || (decide (x.where_=2) && gg x.n (-1) (im.zero-1)))
def deB(x:dH):Bool:=decide (x.bytes≥0) && decide (x.bytes.tmod 8=0)
def acA(im:an):Bool:=((((allI (aaA im) 0 im.info.marks.l && allI (aay im) 0 im.info.lines.l) && (eS (abS im) 0 0 im.info.ends.l).1)
 && ((eS (jZ im inG) 0 0 im.info.inlines.l).1 && allI (fun _ x=>inB x) 0 im.info.inlines.l))
 && ((eS (jZ im vaG) 0 0 im.info.vars.l).1 && allI (fun _ x=>vaB im x) 0 im.info.vars.l))
 && ((eS (jZ im deG) 0 0 im.info.depths.l).1 && allI (fun _ x=>deB x) 0 im.info.depths.l)
open Go.Proofs.Tryz
attribute [local irreducible] aL aB awp aC fwp Quiet
theorem xU(im:an)(b b2:Nat)(e:Int)(i:Nat)(x:bt):Con Tryz.prog 167 [.int .i64 i,x.val,.pointer (some ⟨b2,0,none⟩),.pointer (some ⟨b,0,none⟩)] [At b 0 im.row] [Box b2 3 [.int .i64 e]] fun r ps hp=>ps=[]∧r=.bool (abS im e i x).1∧hp=[Box b2 3 [.int .i64 (abS im e i x).2]]:=by
 refine EN4 Tryz.func167 rfl (aSR (LT rfl (bC rfl rfl rfl (fun b0_0=>(aHN ?_)))))
 refine aA rfl (aNn (aSR (UO 0 rfl rfl (UL 1 tk3 rfl rfl rfl rfl (UL 0 tk3 rfl rfl rfl rfl (UO 2 rfl rfl (UD 2 tk3 0 rfl rfl rfl rfl (aU rfl (Q0 rfl (cE _ _ _)) (aM rfl (GO 1 rfl rfl rfl (GL 1 tk3 rfl rfl rfl rfl rfl (GO 2 rfl rfl rfl (aG rfl rfl (fun hc=>aS (o:=2) tk3 (aa rfl hc) (.of (aF 0 rfl)) rfl) (GO 0 rfl rfl rfl ?_))))))))))))))
 refine GL 1 tk3 rfl rfl rfl rfl rfl (aG rfl rfl (fun hc=>acD (aa rfl hc) (aa rfl hc)) (aG rfl rfl (fun hc=>dX (by kernel_rfl) (aD (aa rfl hc) (aD (aa rfl rfl) (aD (aa rfl hc) rfl))) (fun w S fp hst=>(cE _ _ _).quiet0 hst)) (aU rfl (aT rfl rfl (fun h=>gt rfl h)) (aA rfl (aNn (aSR (UO 0 rfl rfl (UL 1 tk3 rfl rfl rfl rfl (UO 1 rfl rfl (UL 1 tk3 rfl rfl rfl rfl (aU rfl (acB rfl rfl) (aJ rfl (aV 0 tk3 rfl rfl rfl rfl (aHK ?_))))))))))))))
 refine aNn (aSR (aM rfl (aA rfl (aNn (aj (FZ1 [0] Tryz.results167 rfl ?_))))))
 exact ⟨rfl,rfl,rfl⟩
theorem tk263:tyk Tryz.prog 263=some (false,1):=by kernel_rfl
theorem xV(x:cJ):Con Tryz.prog 169 [x.val] [] [] fun r _ _=>r=v3 (inG x):=by
 refine EN1 Tryz.func169 rfl (aSR (LT rfl (bC rfl rfl rfl (fun b0_0=>(aHN ?_)))))
 refine aA rfl (aA rfl (aA rfl (aNs (DR [] 9 (VO 0 0 rfl rfl rfl (VL 1 0 tk3 rfl rfl rfl rfl rfl (VO 2 1 rfl rfl rfl (VL 3 0 tk3 rfl rfl rfl rfl rfl (VO 4 2 rfl rfl rfl (VL 5 0 tk3 rfl rfl rfl rfl rfl (bV 6 rfl rfl (bz rfl) (bV 7 rfl rfl (bz rfl) (bV 8 rfl rfl (bz rfl) (BN ?_))))))))))))))
 refine ak (aj ?_)
 refine acY [] [] rfl Tryz.results169 rfl rfl rfl ?_ (.inr rfl)
 rfl
theorem ly(im:an)(b bf b2:Nat)(e:Int)(i:Nat)(x:cJ):Con Tryz.prog 256 [.int .i64 i,x.val,.pointer (some ⟨bf,0,none⟩),.pointer (some ⟨b2,0,none⟩),.pointer (some ⟨b,0,none⟩)] [cg (At bf 0 [.v (.func (.func 169) #[] #[])]) (At b 0 im.row)] [Box b2 3 [.int .i64 e]] fun r ps hp=>ps=[]∧r=.bool (jZ im inG e i x).1∧hp=[Box b2 3 [.int .i64 (jZ im inG e i x).2]]:=by
 refine EN5 Tryz.func256 rfl (bK _ (Ent.left (.of (aF 0 rfl))) (bK _ (Ent.right (.of (aF 1 rfl))) (aSR (LT rfl (bC rfl rfl rfl (fun b0_0=>(aHN ?_)))))))
 refine aA rfl (aNn (aSR (UD 0 tk263 1 rfl rfl rfl rfl (UL 1 tk262 rfl rfl rfl rfl (aU rfl (fD (by kernel_rfl) rfl rfl (fun w S fp hst=>(xV x).quiet0 hst)) ?_)))))
 refine aM rfl (aU rfl (aI rfl rfl) (aU rfl (aI rfl rfl) (aU rfl (aI rfl rfl) (aA rfl (aA rfl (aA rfl (aNn (aSR (aM rfl (aU rfl (bp rfl rfl) (aM rfl (aG rfl rfl (fun hc=>ax rfl) (aG rfl rfl (fun hc=>bS 0 tk3 rfl rfl rfl) ?_)))))))))))))
 refine aG rfl rfl (fun hc=>dY (aa rfl hc) (aa rfl hc)) (aU rfl (aT rfl rfl (fun h=>gt rfl h)) (aM rfl (aG rfl rfl (fun hc=>ax rfl) (aG rfl rfl (fun hc=>ax rfl) (aG rfl rfl (fun hc=>di (aa rfl hc) (aa rfl hc)) (aU rfl (aT rfl rfl (fun h=>gt rfl h)) (aM rfl (aG rfl rfl (fun hc=>ax rfl) (GO 2 rfl rfl rfl ?_)))))))))
 refine aG rfl rfl (fun hc=>aS (o:=2) tk3 (aa rfl hc) (.of (aF 0 rfl)) rfl) (aG rfl rfl (fun hc=>di (aa rfl hc) (aa rfl hc)) (aU rfl (aT rfl rfl (fun h=>gt rfl h)) (aA rfl (aNn (aSR (aM rfl (aJ rfl (aV 0 tk3 rfl rfl rfl rfl (aHK ?_)))))))))
 refine aNn (aSR (aM rfl (aA rfl (aNn (aj (FZ1 [0] Tryz.results256 rfl ?_))))))
 exact ⟨rfl,rfl,rfl⟩
theorem mI(im:an)(l:Sl cJ):Con Tryz.prog 168 [im.val,l.val,.func (.func 169) #[] #[]] [ShF cJ.row l] [] fun r _ _=>r=.bool (eS (jZ im inG) 0 0 l.l).1:=by
 refine EN3 Tryz.func168 rfl (aSR (LT rfl (bC rfl rfl rfl (fun b0_0=>(aHN ?_)))))
 refine LT rfl (bC rfl rfl rfl (fun b0_1=>(aHN ?_)))
 refine aA rfl (aNs (bj 0 rfl rfl ?_))
 show awp _ _ _ _ ⟨_,At _ 0 _::_,_⟩
 refine ae (LT rfl (bg (zs:=[.int .i64 0]) (by kernel_rfl) rfl (fun b1_0=>(aHN ?_))))
 refine aJ rfl (aV 2 tk3 rfl rfl rfl rfl (aHK ?_))
 refine aNs (bj 1 rfl rfl ?_)
 show awp _ _ _ _ ⟨_,At b0_1 0 [.v (.func (.func 169) #[] #[])]::_,_⟩
 refine ae (aM rfl (aU rfl (dy (l:=[.tmp 5,.tmp 7,.tmp 3]) rfl) (LF rfl (EC [0,1,2] [2] rfl (Con.clH (((nV l 256 [.pointer (some ⟨b0_1,0,none⟩),.pointer (some ⟨b1_0,0,none⟩),.pointer (some ⟨b0_0,0,none⟩)] (cg (At b0_1 0 [.v (.func (.func 169) #[] #[])]) (At b0_0 0 im.row)) (fun e=>Box b1_0 3 [.int .i64 e]) (jZ im inG) 0 (by kernel_rfl) (fun s i x _=>ly im b0_0 b0_1 b1_0 s i x)).pre2 (.of (aF 0 rfl)) (Ent.mk2 (.of (aF 2 rfl)) (.of (aF 1 rfl))))) (fun _ _ _ h=>h.2.1)) ?_))))
 rintro _ _ _ ⟨rfl,rfl,rfl⟩
 refine aST ?_
 refine aA rfl (aNn (aj (FZ1 [] Tryz.results168 rfl ?_)))
 rfl
theorem tk269:tyk Tryz.prog 269=some (false,1):=by kernel_rfl
theorem xX(x:ga):Con Tryz.prog 173 [x.val] [] [] fun r _ _=>r=v3 (vaG x):=by
 refine EN1 Tryz.func173 rfl (aSR (LT rfl (bC rfl rfl rfl (fun b0_0=>(aHN ?_)))))
 refine aA rfl (aA rfl (aA rfl (aNs (DR [] 9 (VO 0 0 rfl rfl rfl (VL 1 0 tk3 rfl rfl rfl rfl rfl (VO 2 1 rfl rfl rfl (VL 3 0 tk3 rfl rfl rfl rfl rfl (VO 4 2 rfl rfl rfl (VL 5 0 tk3 rfl rfl rfl rfl rfl (bV 6 rfl rfl (bz rfl) (bV 7 rfl rfl (bz rfl) (bV 8 rfl rfl (bz rfl) (BN ?_))))))))))))))
 refine ak (aj ?_)
 refine acY [] [] rfl Tryz.results173 rfl rfl rfl ?_ (.inr rfl)
 rfl
theorem pG(im:an)(b bf b2:Nat)(e:Int)(i:Nat)(x:ga):Con Tryz.prog 257 [.int .i64 i,x.val,.pointer (some ⟨bf,0,none⟩),.pointer (some ⟨b2,0,none⟩),.pointer (some ⟨b,0,none⟩)] [cg (At bf 0 [.v (.func (.func 173) #[] #[])]) (At b 0 im.row)] [Box b2 3 [.int .i64 e]] fun r ps hp=>ps=[]∧r=.bool (jZ im vaG e i x).1∧hp=[Box b2 3 [.int .i64 (jZ im vaG e i x).2]]:=by
 refine EN5 Tryz.func257 rfl (bK _ (Ent.left (.of (aF 0 rfl))) (bK _ (Ent.right (.of (aF 1 rfl))) (aSR (LT rfl (bC rfl rfl rfl (fun b0_0=>(aHN ?_)))))))
 refine aA rfl (aNn (aSR (UD 0 tk269 1 rfl rfl rfl rfl (UL 1 tk268 rfl rfl rfl rfl (aU rfl (fD (by kernel_rfl) rfl rfl (fun w S fp hst=>(xX x).quiet0 hst)) ?_)))))
 refine aM rfl (aU rfl (aI rfl rfl) (aU rfl (aI rfl rfl) (aU rfl (aI rfl rfl) (aA rfl (aA rfl (aA rfl (aNn (aSR (aM rfl (aU rfl (bp rfl rfl) (aM rfl (aG rfl rfl (fun hc=>ax rfl) (aG rfl rfl (fun hc=>bS 0 tk3 rfl rfl rfl) ?_)))))))))))))
 refine aG rfl rfl (fun hc=>dY (aa rfl hc) (aa rfl hc)) (aU rfl (aT rfl rfl (fun h=>gt rfl h)) (aM rfl (aG rfl rfl (fun hc=>ax rfl) (aG rfl rfl (fun hc=>ax rfl) (aG rfl rfl (fun hc=>di (aa rfl hc) (aa rfl hc)) (aU rfl (aT rfl rfl (fun h=>gt rfl h)) (aM rfl (aG rfl rfl (fun hc=>ax rfl) (GO 2 rfl rfl rfl ?_)))))))))
 refine aG rfl rfl (fun hc=>aS (o:=2) tk3 (aa rfl hc) (.of (aF 0 rfl)) rfl) (aG rfl rfl (fun hc=>di (aa rfl hc) (aa rfl hc)) (aU rfl (aT rfl rfl (fun h=>gt rfl h)) (aA rfl (aNn (aSR (aM rfl (aJ rfl (aV 0 tk3 rfl rfl rfl rfl (aHK ?_)))))))))
 refine aNn (aSR (aM rfl (aA rfl (aNn (aj (FZ1 [0] Tryz.results257 rfl ?_))))))
 exact ⟨rfl,rfl,rfl⟩
theorem rp(im:an)(l:Sl ga):Con Tryz.prog 172 [im.val,l.val,.func (.func 173) #[] #[]] [ShF ga.row l] [] fun r _ _=>r=.bool (eS (jZ im vaG) 0 0 l.l).1:=by
 refine EN3 Tryz.func172 rfl (aSR (LT rfl (bC rfl rfl rfl (fun b0_0=>(aHN ?_)))))
 refine LT rfl (bC rfl rfl rfl (fun b0_1=>(aHN ?_)))
 refine aA rfl (aNs (bj 0 rfl rfl ?_))
 show awp _ _ _ _ ⟨_,At _ 0 _::_,_⟩
 refine ae (LT rfl (bg (zs:=[.int .i64 0]) (by kernel_rfl) rfl (fun b1_0=>(aHN ?_))))
 refine aJ rfl (aV 2 tk3 rfl rfl rfl rfl (aHK ?_))
 refine aNs (bj 1 rfl rfl ?_)
 show awp _ _ _ _ ⟨_,At b0_1 0 [.v (.func (.func 173) #[] #[])]::_,_⟩
 refine ae (aM rfl (aU rfl (dy (l:=[.tmp 5,.tmp 7,.tmp 3]) rfl) (LF rfl (EC [0,1,2] [2] rfl (Con.clH (((sF l 257 [.pointer (some ⟨b0_1,0,none⟩),.pointer (some ⟨b1_0,0,none⟩),.pointer (some ⟨b0_0,0,none⟩)] (cg (At b0_1 0 [.v (.func (.func 173) #[] #[])]) (At b0_0 0 im.row)) (fun e=>Box b1_0 3 [.int .i64 e]) (jZ im vaG) 0 (by kernel_rfl) (fun s i x _=>pG im b0_0 b0_1 b1_0 s i x)).pre2 (.of (aF 0 rfl)) (Ent.mk2 (.of (aF 2 rfl)) (.of (aF 1 rfl))))) (fun _ _ _ h=>h.2.1)) ?_))))
 rintro _ _ _ ⟨rfl,rfl,rfl⟩
 refine aST ?_
 refine aA rfl (aNn (aj (FZ1 [] Tryz.results172 rfl ?_)))
 rfl
theorem tk275:tyk Tryz.prog 275=some (false,1):=by kernel_rfl
theorem xZ(x:dH):Con Tryz.prog 177 [x.val] [] [] fun r _ _=>r=v3 (deG x):=by
 refine EN1 Tryz.func177 rfl (aSR (LT rfl (bC rfl rfl rfl (fun b0_0=>(aHN ?_)))))
 refine aA rfl (aA rfl (aA rfl (aNs (DR [] 9 (VO 0 0 rfl rfl rfl (VL 1 0 tk3 rfl rfl rfl rfl rfl (VO 2 1 rfl rfl rfl (VL 3 0 tk3 rfl rfl rfl rfl rfl (VO 4 2 rfl rfl rfl (VL 5 0 tk3 rfl rfl rfl rfl rfl (bV 6 rfl rfl (bz rfl) (bV 7 rfl rfl (bz rfl) (bV 8 rfl rfl (bz rfl) (BN ?_))))))))))))))
 refine ak (aj ?_)
 refine acY [] [] rfl Tryz.results177 rfl rfl rfl ?_ (.inr rfl)
 rfl
theorem mH(im:an)(b bf b2:Nat)(e:Int)(i:Nat)(x:dH):Con Tryz.prog 258 [.int .i64 i,x.val,.pointer (some ⟨bf,0,none⟩),.pointer (some ⟨b2,0,none⟩),.pointer (some ⟨b,0,none⟩)] [cg (At bf 0 [.v (.func (.func 177) #[] #[])]) (At b 0 im.row)] [Box b2 3 [.int .i64 e]] fun r ps hp=>ps=[]∧r=.bool (jZ im deG e i x).1∧hp=[Box b2 3 [.int .i64 (jZ im deG e i x).2]]:=by
 refine EN5 Tryz.func258 rfl (bK _ (Ent.left (.of (aF 0 rfl))) (bK _ (Ent.right (.of (aF 1 rfl))) (aSR (LT rfl (bC rfl rfl rfl (fun b0_0=>(aHN ?_)))))))
 refine aA rfl (aNn (aSR (UD 0 tk275 1 rfl rfl rfl rfl (UL 1 tk274 rfl rfl rfl rfl (aU rfl (fD (by kernel_rfl) rfl rfl (fun w S fp hst=>(xZ x).quiet0 hst)) ?_)))))
 refine aM rfl (aU rfl (aI rfl rfl) (aU rfl (aI rfl rfl) (aU rfl (aI rfl rfl) (aA rfl (aA rfl (aA rfl (aNn (aSR (aM rfl (aU rfl (bp rfl rfl) (aM rfl (aG rfl rfl (fun hc=>ax rfl) (aG rfl rfl (fun hc=>bS 0 tk3 rfl rfl rfl) ?_)))))))))))))
 refine aG rfl rfl (fun hc=>dY (aa rfl hc) (aa rfl hc)) (aU rfl (aT rfl rfl (fun h=>gt rfl h)) (aM rfl (aG rfl rfl (fun hc=>ax rfl) (aG rfl rfl (fun hc=>ax rfl) (aG rfl rfl (fun hc=>di (aa rfl hc) (aa rfl hc)) (aU rfl (aT rfl rfl (fun h=>gt rfl h)) (aM rfl (aG rfl rfl (fun hc=>ax rfl) (GO 2 rfl rfl rfl ?_)))))))))
 refine aG rfl rfl (fun hc=>aS (o:=2) tk3 (aa rfl hc) (.of (aF 0 rfl)) rfl) (aG rfl rfl (fun hc=>di (aa rfl hc) (aa rfl hc)) (aU rfl (aT rfl rfl (fun h=>gt rfl h)) (aA rfl (aNn (aSR (aM rfl (aJ rfl (aV 0 tk3 rfl rfl rfl rfl (aHK ?_)))))))))
 refine aNn (aSR (aM rfl (aA rfl (aNn (aj (FZ1 [0] Tryz.results258 rfl ?_))))))
 exact ⟨rfl,rfl,rfl⟩
theorem n4(im:an)(l:Sl dH):Con Tryz.prog 176 [im.val,l.val,.func (.func 177) #[] #[]] [ShF dH.row l] [] fun r _ _=>r=.bool (eS (jZ im deG) 0 0 l.l).1:=by
 refine EN3 Tryz.func176 rfl (aSR (LT rfl (bC rfl rfl rfl (fun b0_0=>(aHN ?_)))))
 refine LT rfl (bC rfl rfl rfl (fun b0_1=>(aHN ?_)))
 refine aA rfl (aNs (bj 0 rfl rfl ?_))
 show awp _ _ _ _ ⟨_,At _ 0 _::_,_⟩
 refine ae (LT rfl (bg (zs:=[.int .i64 0]) (by kernel_rfl) rfl (fun b1_0=>(aHN ?_))))
 refine aJ rfl (aV 2 tk3 rfl rfl rfl rfl (aHK ?_))
 refine aNs (bj 1 rfl rfl ?_)
 show awp _ _ _ _ ⟨_,At b0_1 0 [.v (.func (.func 177) #[] #[])]::_,_⟩
 refine ae (aM rfl (aU rfl (dy (l:=[.tmp 5,.tmp 7,.tmp 3]) rfl) (LF rfl (EC [0,1,2] [2] rfl (Con.clH (((pD l 258 [.pointer (some ⟨b0_1,0,none⟩),.pointer (some ⟨b1_0,0,none⟩),.pointer (some ⟨b0_0,0,none⟩)] (cg (At b0_1 0 [.v (.func (.func 177) #[] #[])]) (At b0_0 0 im.row)) (fun e=>Box b1_0 3 [.int .i64 e]) (jZ im deG) 0 (by kernel_rfl) (fun s i x _=>mH im b0_0 b0_1 b1_0 s i x)).pre2 (.of (aF 0 rfl)) (Ent.mk2 (.of (aF 2 rfl)) (.of (aF 1 rfl))))) (fun _ _ _ h=>h.2.1)) ?_))))
 rintro _ _ _ ⟨rfl,rfl,rfl⟩
 refine aST ?_
 refine aA rfl (aNn (aj (FZ1 [] Tryz.results176 rfl ?_)))
 rfl
theorem xW(i:Nat)(x:cJ):Con Tryz.prog 171 [.int .i64 i,x.val] [] [] fun r _ _=>r=.bool (inB x):=by
 refine EN2 Tryz.func171 rfl (aSR (LT rfl (bC rfl rfl rfl (fun b0_0=>(aHN ?_)))))
 refine aA rfl (aNn (aSR (UO 3 rfl rfl (UL 0 tk9 rfl rfl rfl rfl (aU rfl (Q0 rfl (gY _)) (aM rfl (GO 4 rfl rfl rfl (GL 0 tk9 rfl rfl rfl rfl rfl (aG rfl rfl (fun hc=>Q0 (aD (aa rfl hc) rfl) (gY _)) (aU rfl (aT rfl rfl (fun h=>gt rfl h)) (aM rfl (GO 5 rfl rfl rfl ?_))))))))))))
 refine GL 0 tk3 rfl rfl rfl rfl rfl (aG rfl rfl (fun hc=>dY (aa rfl hc) rfl) (aU rfl (aT rfl rfl (fun h=>gt rfl h)) (aA rfl (aNn (aj (FZ1 [] Tryz.results171 rfl ?_))))))
 rfl
theorem xY(im:an)(hS:eZ im)(b i:Nat)(x:ga):Con Tryz.prog 175 [.int .i64 i,x.val,.pointer (some ⟨b,0,none⟩)] [At b 0 im.row] [] fun r _ _=>r=.bool (vaB im x):=by
 have hc0:=hS.c0
 have hcd:=hS.cd
 have hdz:=hS.dz
 have hzm:=hS.zm
 refine EN3 Tryz.func175 rfl (aSR (LT rfl (bC rfl rfl rfl (fun b0_0=>(aHN ?_)))))
 refine aA rfl (aNn (aSR (UO 4 rfl rfl (UL 0 tk3 rfl rfl rfl rfl (aU rfl (bp rfl rfl) (aM rfl (GO 4 rfl rfl rfl (GL 0 tk3 rfl rfl rfl rfl rfl (aG rfl rfl (fun hc=>bp (aa rfl hc) rfl) (aG rfl rfl (fun hc=>ax (aa rfl hc)) (GO 5 rfl rfl rfl (GL 0 tk3 rfl rfl rfl rfl rfl (aG rfl rfl (fun hc=>dX (by kernel_rfl) (aD (aa rfl hc) (aD (aa rfl rfl) (aD (aa rfl rfl) rfl))) (fun w S fp hst=>(cE _ _ _).quiet0 hst)) ?_)))))))))))))
 refine aG rfl rfl (fun hc=>aT (aa rfl hc) rfl (fun h=>gt hc h)) (aU rfl (cC rfl rfl (fun h=>gf rfl h)) (aM rfl (GO 4 rfl rfl rfl (GL 0 tk3 rfl rfl rfl rfl rfl (aG rfl rfl (fun hc=>bp (aa rfl hc) rfl) (aG rfl rfl (fun hc=>ax (aa rfl hc)) (GO 5 rfl rfl rfl (GL 0 tk3 rfl rfl rfl rfl rfl (GO 4 rfl rfl rfl (aG rfl rfl (fun hc=>aS (o:=4) tk3 (aa rfl hc) (.of (aF 0 rfl)) rfl) ?_))))))))))
 refine aG rfl rfl (fun hc=>bQ (aa rfl hc) rfl (by (first | omega | (simp at hc;omega)))) ?_
 refine aG rfl rfl (fun hc=>dX (by kernel_rfl) (aD (aa rfl hc) (aD (aa rfl rfl) (aD (aa rfl hc) rfl))) (fun w S fp hst=>(cE _ _ _).quiet0 hst)) (aG rfl rfl (fun hc=>aT (aa rfl hc) rfl (fun h=>gt hc h)) (aU rfl (cC rfl rfl (fun h=>gf rfl h)) (aA rfl (aNn (aSR (UO 3 rfl rfl (UL 0 tk9 rfl rfl rfl rfl (aU rfl (Q0 rfl (gY _)) (aM rfl (aG rfl rfl (fun hc=>ax rfl) (aU rfl (aT rfl rfl (fun h=>gt rfl h)) (aA rfl (aNn (aj (FZ1 [] Tryz.results175 rfl ?_)))))))))))))))
 rfl
theorem ya(i:Nat)(x:dH):Con Tryz.prog 179 [.int .i64 i,x.val] [] [] fun r _ _=>r=.bool (deB x):=by
 refine EN2 Tryz.func179 rfl (aSR (LT rfl (bC rfl rfl rfl (fun b0_0=>(aHN ?_)))))
 refine aA rfl (aNn (aSR (UO 3 rfl rfl (UL 0 tk3 rfl rfl rfl rfl (aU rfl (dY rfl rfl) (aM rfl (GO 3 rfl rfl rfl (GL 0 tk3 rfl rfl rfl rfl rfl (aG rfl rfl (fun hc=>mz (aa rfl hc) rfl (by decide)) (aG rfl rfl (fun hc=>bp (aa rfl hc) rfl) (aU rfl (aT rfl rfl (fun h=>gt rfl h)) (aA rfl (aNn (aj (FZ1 [] Tryz.results179 rfl ?_)))))))))))))))
 rfl
theorem z7(im:an)(hS:eZ im):Con Tryz.prog 72 [im.val] [im.ok] [] fun r _ _=>r=.bool (acA im):=by
 refine EN1 Tryz.func72 rfl (aSR (LT rfl (bC rfl rfl rfl (fun b0_0=>(aHN ?_)))))
 refine aA rfl (aNs (bj 0 rfl rfl ?_))
 show awp _ _ _ _ ⟨_,At _ 0 _::_,_⟩
 refine ae (UO 19 rfl rfl (UD 19 tk37 0 rfl rfl rfl rfl (LT rfl (bg (zs:=[.slice none 0 0,.slice none 0 0,.slice none 0 0,.slice none 0 0,.slice none 0 0,.slice none 0 0]) (by kernel_rfl) rfl (fun b1_2=>(aHN ?_))))))
 refine aJ rfl (aV 1 tk37 rfl rfl rfl rfl (aHK ?_))
 refine aNs (bj 1 rfl rfl ?_)
 show awp _ _ _ _ ⟨_,At b1_2 0 im.info.row::_,_⟩
 refine ae (UO 0 rfl rfl (UD 0 tk30 0 rfl rfl rfl rfl (aU rfl (dy (l:=[.tmp 1,.tmp 3]) rfl) (aU rfl (QC rfl (fun w S fp hst=>(((pB im.info.marks 162 [.pointer (some ⟨b0_0,0,none⟩),.pointer (some ⟨b1_2,0,none⟩)] (abV im b0_0 b1_2) (aaA im) (by kernel_rfl) (fun i x hx=>xS im b0_0 b1_2 i x hx)).post (fun _ _ _ h=>h.2.2)).pre2 (ps:=[At b1_2 0 im.info.row,At b0_0 0 im.row,im.ok]) (cW.f_marks (an.f_info (.of (aF 2 rfl)))) (Ent.mk2 (.of (aF 1 rfl)) (Ent.mk2 (.of (aF 0 rfl)) (.of (aF 2 rfl))))).quiet3 (aF 0 rfl) (aF 1 rfl) (aF 2 rfl) hst)) (aA rfl (aNn (aSR (UO 1 rfl rfl (UD 1 tk31 0 rfl rfl rfl rfl (aU rfl (dy (l:=[.tmp 1,.tmp 3]) rfl) (aU rfl (QC rfl (fun w S fp hst=>(((pA im.info.lines 165 [.pointer (some ⟨b0_0,0,none⟩),.pointer (some ⟨b1_2,0,none⟩)] (abV im b0_0 b1_2) (aay im) (by kernel_rfl) (fun i x hx=>xT im hS b0_0 b1_2 i x hx)).post (fun _ _ _ h=>h.2.2)).pre2 (ps:=[At b1_2 0 im.info.row,At b0_0 0 im.row,im.ok]) (cW.f_lines (an.f_info (.of (aF 2 rfl)))) (Ent.mk2 (.of (aF 1 rfl)) (Ent.mk2 (.of (aF 0 rfl)) (.of (aF 2 rfl))))).quiet3 (aF 0 rfl) (aF 1 rfl) (aF 2 rfl) hst)) (aA rfl (aNn (aSR ?_))))))))))))))
 refine LT rfl (bg (zs:=[.int .i64 0]) (by kernel_rfl) rfl (fun b4_0=>(aHN ?_)))
 refine aJ rfl (aV 2 tk3 rfl rfl rfl rfl (aHK ?_))
 refine aNn (aSR (UO 2 rfl rfl (UD 2 tk32 0 rfl rfl rfl rfl (aU rfl (dy (l:=[.tmp 6,.tmp 1]) rfl) (LF rfl (EC [0,1,2] [2] rfl (Con.clH (((qZ im.info.ends 167 [.pointer (some ⟨b4_0,0,none⟩),.pointer (some ⟨b0_0,0,none⟩)] (At b0_0 0 im.row) (fun e=>Box b4_0 3 [.int .i64 e]) (abS im) 0 (by kernel_rfl) (fun s i x _=>xU im b0_0 b4_0 s i x)).pre2 (cW.f_ends (an.f_info (.of (aF 0 rfl)))) (.of (aF 1 rfl)))) (fun _ _ _ h=>h.2.1)) ?_))))))
 rintro _ _ _ ⟨rfl,rfl,rfl⟩
 refine aST ?_
 refine aA rfl (aNn (aSR (UD 0 tk40 1 rfl rfl rfl rfl (UO 3 rfl rfl (UD 3 tk33 0 rfl rfl rfl rfl (aU rfl (Q1 rfl ((mI im im.info.inlines).pre1 (ps:=[im.ok]) (cW.f_inlines (an.f_info (.of (aF 0 rfl))))) 2 rfl) (aM rfl (GO 3 rfl rfl rfl (aG rfl rfl (fun hc=>aS (o:=3) tk33 (aa rfl hc) (.of (aF 0 rfl)) rfl) ?_)))))))))
 refine aG rfl rfl (fun hc=>Q1 (aD (aa rfl hc) (aD (aa rfl rfl) rfl)) (((mF im.info.inlines 171 [] im.ok (fun _ x=>inB x) (by kernel_rfl) (fun i x _=>(xW i x).pre (fun _ h=>by cases h))).post (fun _ _ _ h=>h.2.2)).pre2 (ps:=[im.ok]) (cW.f_inlines (an.f_info (.of (aF 0 rfl)))) (.of (aF 0 rfl))) 2 rfl) ?_
 refine aU rfl (aT rfl rfl (fun h=>gt rfl h)) (aA rfl (aNn (aSR (UD 0 tk40 1 rfl rfl rfl rfl (UO 4 rfl rfl (UD 4 tk34 0 rfl rfl rfl rfl (aU rfl (Q1 rfl ((rp im im.info.vars).pre1 (ps:=[im.ok]) (cW.f_vars (an.f_info (.of (aF 0 rfl))))) 2 rfl) (aM rfl (GO 4 rfl rfl rfl (aG rfl rfl (fun hc=>aS (o:=4) tk34 (aa rfl hc) (.of (aF 0 rfl)) rfl) (aG rfl rfl (fun hc=>dy (l:=[.tmp 1]) rfl) (aG rfl rfl (fun hc=>QC (aD (aa rfl hc) (aD (aa rfl hc) rfl)) (fun w S fp hst=>(((qY im.info.vars 175 [.pointer (some ⟨b0_0,0,none⟩)] (At b0_0 0 im.row) (fun _ x=>vaB im x) (by kernel_rfl) (fun i x _=>xY im hS b0_0 i x)).post (fun _ _ _ h=>h.2.2)).pre2 (ps:=[At b0_0 0 im.row,im.ok]) (cW.f_vars (an.f_info (.of (aF 1 rfl)))) (.of (aF 0 rfl))).quiet2 (aF 1 rfl) (aF 2 rfl) hst)) ?_))))))))))))
 refine aU rfl (aT rfl rfl (fun h=>gt rfl h)) (aA rfl (aNn (aSR (UD 0 tk40 1 rfl rfl rfl rfl (UO 5 rfl rfl (UD 5 tk35 0 rfl rfl rfl rfl (aU rfl (Q1 rfl ((n4 im im.info.depths).pre1 (ps:=[im.ok]) (cW.f_depths (an.f_info (.of (aF 0 rfl))))) 2 rfl) (aM rfl (GO 5 rfl rfl rfl (aG rfl rfl (fun hc=>aS (o:=5) tk35 (aa rfl hc) (.of (aF 0 rfl)) rfl) ?_))))))))))
 refine aG rfl rfl (fun hc=>Q1 (aD (aa rfl hc) (aD (aa rfl rfl) rfl)) (((nz im.info.depths 179 [] im.ok (fun _ x=>deB x) (by kernel_rfl) (fun i x _=>(ya i x).pre (fun _ h=>by cases h))).post (fun _ _ _ h=>h.2.2)).pre2 (ps:=[im.ok]) (cW.f_depths (an.f_info (.of (aF 0 rfl)))) (.of (aF 0 rfl))) 2 rfl) ?_
 refine aU rfl (aT rfl rfl (fun h=>gt rfl h)) (aA rfl (aNn (aSR (aM rfl (aM rfl (aG rfl rfl (fun hc=>ax rfl) (aU rfl (aT rfl rfl (fun h=>gt rfl h)) (aM rfl (aG rfl rfl (fun hc=>ax rfl) (aU rfl (aT rfl rfl (fun h=>gt rfl h)) (aM rfl (aG rfl rfl (fun hc=>ax rfl) (aU rfl (aT rfl rfl (fun h=>gt rfl h)) ?_)))))))))))))
 refine aM rfl (aG rfl rfl (fun hc=>ax rfl) (aU rfl (aT rfl rfl (fun h=>gt rfl h)) (aM rfl (aG rfl rfl (fun hc=>ax rfl) (aU rfl (aT rfl rfl (fun h=>gt rfl h)) (aA rfl (aNn (aj (FZ1 [] Tryz.results72 rfl ?_)))))))))
 rfl
end Go.Proofs.YtfkcmbonmpcbfaaGreat

