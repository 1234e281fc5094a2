/- Parts of the proof, in build order. No condition. -/
import Derived.Test.YtfkcmbonmpcbfaaGreatTa23
import Derived.Test.YtfkcmbonmpcbfaaGreatTa05
import Derived.Test.YtfkcmbonmpcbfaaGreatTa10
import Derived.Test.YtfkcmbonmpcbfaaGreatTa21
import Derived.Test.YtfkcmbonmpcbfaaGreatProg
import Derived.Ground.SlmcProg
import Derived.Shelf.SlMaps.Clone
import Derived.Test.YtfkcmbonmpcbfaaGreatTa08
set_option linter.unusedSimpArgs false
set_option linter.unusedVariables false
set_option maxHeartbeats 1000000
set_option maxRecDepth 20000
namespace Go.Proofs.YtfkcmbonmpcbfaaGreat
open Go.RowKit Go.Lp Go.Sy Go.Lv
open Go.Proofs.Tryz
attribute [local irreducible] aL aB awp aC fwp Quiet
theorem rH{im:an}(h:ib im=true):im.imports.l.length≤4096∧im.slots.l.length=im.imports.l.length:=by
 unfold ib at h
 split at h
 · cases h
 · rename_i hh
   rw [Bool.not_eq_true] at hh
   unfold tB at hh
   simp only [Bool.or_eq_false_iff,Bool.not_eq_false',decide_eq_false_iff_not,decide_eq_true_eq] at hh
   omega
def fY(im:an):Bool:=((((((((lU im && lL im) && tq im) && ib im) && mn im) && xl im) && oN im true) && acA im) && sC im)
theorem mf(im:an)(hi:I64 im.code∧I64 im.data∧I64 im.zero):Con Tryz.prog 16 [im.val] [im.ok] [] (YN Value.bool fun b=>(b=true→VOk im.versions.l∧fY im=true)∧(gF im.versions.l→fY im=true→b=true)):=by
 refine EN1 Tryz.func16 rfl (eE (an.f_name (.of (aF 0 rfl))) (fun hsn=>(aSR (LT rfl (bC rfl rfl rfl (fun b0_0=>(aHN ?_)))))))
 refine aA rfl (aNs (bj 0 rfl rfl ?_))
 show awp _ _ _ _ ⟨_,At _ 0 _::_,_⟩
 refine ae (UD 0 tk40 0 rfl rfl rfl rfl (aU rfl (Q0 rfl (yj im hsn hi)) (aM rfl (aG rfl rfl (fun hc=>aS (o:=0) tk40 rfl (.of (aF 0 rfl)) rfl) ?_))))
 refine aG rfl rfl (fun hc=>Q1 (aD (aa rfl hc) rfl) (yh im (fc.1 (by simpa using hc))) 1 rfl) ?_
 refine aU rfl (aT rfl rfl (fun h=>gt rfl h)) (aM rfl (aG rfl rfl (fun hc=>aS (o:=0) tk40 rfl (.of (aF 0 rfl)) rfl) (aG rfl rfl (fun hc=>Q1 (aD (aa rfl hc) rfl) (sP im) 1 rfl) (aU rfl (aT rfl rfl (fun h=>gt rfl h)) (aM rfl (aG rfl rfl (fun hc=>aS (o:=0) tk40 rfl (.of (aF 0 rfl)) rfl) ?_))))))
 refine aG rfl rfl (fun hc=>Q1 (aD (aa rfl hc) rfl) (sQ im (fc.1 (by simp at hc;exact hc.1.1))) 1 rfl) ?_
 refine aU rfl (aT rfl rfl (fun h=>gt rfl h)) (aM rfl (aG rfl rfl (fun hc=>aS (o:=0) tk40 rfl (.of (aF 0 rfl)) rfl) ?_))
 refine aG rfl rfl (fun hc=>Q1 (aD (aa rfl hc) rfl) (zW im (fc.1 (by simp at hc;exact hc.1.1.1)) (rH (by simp at hc;exact hc.2)).2) 1 rfl) ?_
 refine aU rfl (aT rfl rfl (fun h=>gt rfl h)) (aM rfl (aG rfl rfl (fun hc=>aS (o:=0) tk40 rfl (.of (aF 0 rfl)) rfl) ?_))
 refine aG rfl rfl (fun hc=>Q1 (aD (aa rfl hc) rfl) (vg im (fc.1 (by simp at hc;exact hc.1.1.1.1))) 1 rfl) ?_
 refine aU rfl (aT rfl rfl (fun h=>gt rfl h)) (aM rfl (aG rfl rfl (fun hc=>aS (o:=0) tk40 rfl (.of (aF 0 rfl)) rfl) ?_))
 refine iP (caps:=[]) [0] (false) (by kernel_rfl) _ rfl rfl (fun _=>rfl) (fun hc=>(aD (aa rfl hc) rfl)) (fun hc=>by rw [List.append_nil];exact yg im) (fun v8 hv8 => ?_)
 refine aU rfl (aT rfl rfl (fun h=>gt rfl h)) (aM rfl (aG rfl rfl (fun hc=>aS (o:=0) tk40 rfl (.of (aF 0 rfl)) rfl) ?_))
 refine aG rfl rfl (fun hc=>Q1 (aD (aa rfl hc) rfl) (z7 im (fc.1 (by simp at hc;exact hc.1.1.1.1.1.1))) 1 rfl) ?_
 refine aU rfl (aT rfl rfl (fun h=>gt rfl h)) (aM rfl (aG rfl rfl (fun hc=>aS (o:=0) tk40 rfl (.of (aF 0 rfl)) rfl) ?_))
 refine aG rfl rfl (fun hc=>Q1 (aD (aa rfl hc) rfl) (sH im (fc.1 (by simp at hc;exact hc.1.1.1.1.1.1.1))) 1 rfl) ?_
 refine aU rfl (aT rfl rfl (fun h=>gt rfl h)) (aA rfl (aNn (aj (FZ1 [] Tryz.results16 rfl ?_))))
 refine ⟨⟨rfl,rfl⟩,_,rfl,fun h => ?_,fun hs h => ?_⟩
 · simp only [Bool.and_eq_true] at h
   have h8:=(hv8 (by simp;exact h.1.1.1)).1 h.1.1.2
   refine ⟨h8.1,?_⟩
   unfold fY;simp only [Bool.and_eq_true]
   exact ⟨⟨⟨h.1.1.1,h8.2⟩,h.1.2⟩,h.2⟩
 · unfold fY at h
   simp only [Bool.and_eq_true] at h ⊢
   exact ⟨⟨⟨h.1.1.1,(hv8 (by simp;exact h.1.1.1)).2 hs h.1.1.2⟩,h.1.2⟩,h.2⟩
end Go.Proofs.YtfkcmbonmpcbfaaGreat

namespace Go.Proofs.YtfkcmbonmpcbfaaGreat
open Go.RowKit Go.Lp Go.Sy Go.Lv Go.Sort
open Go.Proofs.Tryz
attribute [local irreducible] aL aB awp aC fwp Quiet
def zB (s:bk) (M:Mem) (m:Int) (im:an) (br:Bool) (x:bk × Mem) (e:Int):Prop :=
 ((m<0∨br=false)∧x=(s,M)∧e=1)∨(0≤m∧br=true∧(s.mods m).isSome=true∧x=(s,M)∧e=4) ∨
 (0 ≤ m∧br=true∧(s.mods m).isSome=false∧∃ ks,dq s.thr ks∧ks.Pairwise (fun a b=>a<b) ∧
   (((cV (gA m) ({ s with mods:=bw s.mods m im },M) ks).2=true∧x=(cV (gA m) ({ s with mods:=bw s.mods m im },M) ks).1∧e=0) ∨
    ((cV (gA m) ({ s with mods:=bw s.mods m im },M) ks).2=false∧e=7∧∃ y ds,y=(cV (gA m) ({ s with mods:=bw s.mods m im },M) ks).1∧dq y.1.at_ ds∧ds.Pairwise jE∧x=goR y.1 y.2 m ds)))
abbrev fM(im:an)(b:Bool):Prop:=(b=true→VOk im.versions.l∧fY im=true)∧(gF im.versions.l→fY im=true→b=true)
structure j8 (im:an):Prop where
 r:I64 im.code∧I64 im.data∧I64 im.zero
 f:gU im
theorem iW(b p mb tb ab:Nat)(s:bk)(hs:∀ k im,s.mods k=some im→gU im){A C:Nat}(hA:fk s.at_ A)(hC:fk s.thr C)(hAC:A+C≤1000000)(M:Mem)(hM:cS M)(m:Int)(im:an)(him:j8 im) :
   Con Tryz.prog 19 [.pointer (some ⟨b,0,none⟩),.int .i64 m,im.val] [im.ok] (eo b p mb tb ab s M) fun r ps hp=>ps=[]∧∃ br x e,(0≤m→fM im br)∧zB s M m im br x e∧r=.int .i64 e∧hp=eo b p mb tb ab x.1 x.2:=by
 refine EN3 Tryz.func19 rfl (aSR (LT rfl (bC rfl rfl rfl (fun b0_0=>(aHN ?_)))))
 refine aA rfl (aNs (aSR (aM rfl (aU rfl (bd rfl rfl) (aM rfl (aG rfl rfl (fun hc=>bS 5 tk40 rfl rfl rfl) ?_))))))
 refine iP (caps:=[]) [0] (false) (by kernel_rfl) _ rfl rfl (fun _=>rfl) (fun hc=>(aD (aa rfl hc) rfl)) (fun hc=>by rw [List.append_nil];exact mf im him.r) (fun br hbr => ?_)
 refine aG rfl rfl (fun hc=>bX (aa rfl hc)) (aU rfl (cC rfl rfl (fun h=>gf rfl h)) (aNn ?_))
 refine ah _ rfl (fun h1 => ?_) (fun h1 => ?_)
 ·skip
  refine aSR (aA rfl (aNn (aj (aK (FZ1 [0,1,2,3,4] Tryz.results19 rfl ?_)))))
  exact ⟨rfl,br,(s,M),1,fun h=>hbr (by simp;omega),.inl ⟨by simpa using h1,rfl,rfl⟩,rfl,rfl⟩
 ·skip
  have hm0:0≤m∧br=true:=by simp at h1;exact ⟨by omega,h1.2⟩
  have hR:0≤m→fM im br:=fun h=>hbr (by simp;omega)
  refine ai (ak (aq (aSR (aM rfl (UN rfl rfl (UO 1 rfl rfl (UL 0 tk118 rfl rfl rfl rfl (aM rfl (aU rfl (ja (k:=m) (v0:=(default:an)) 1 Tryz.underlying118 (keI) (by kernel_rfl) rfl rfl rfl) ?_)))))))))
  generalize hg0:(s.mods m).getD default=im0
  refine aM rfl (aU rfl (aI rfl rfl) (aU rfl (aI rfl rfl) (LT rfl (bg (zs:=ZI) (by kernel_rfl) rfl (fun b3_9=>(aHN ?_))))))
  refine aJ rfl (aV 6 tk40 rfl rfl rfl rfl (aHK ?_))
  refine aA rfl (aNn (aSR (aM rfl (aNn ?_))))
  refine ah _ rfl (fun h2 => ?_) (fun h2 => ?_)
  ·skip
   refine aSR (aA rfl (aNn (aj (aK (FZ1 [0,1,2,3,4] Tryz.results19 rfl ?_)))))
   exact ⟨rfl,br,(s,M),4,hR,.inr (.inl ⟨hm0.1,hm0.2,h2,rfl,rfl⟩),rfl,rfl⟩
  ·skip
   refine ai (ak (aq (DR [6] 7 (VM 0 rfl rfl (VN 1 rfl rfl rfl (VO 2 1 rfl rfl rfl (VL 3 0 tk118 rfl rfl rfl rfl rfl (VM 4 rfl rfl (VL 5 5 tk40 rfl rfl rfl rfl rfl (iO 6 rfl (by kernel_rfl) rfl rfl (cO (k:=m) (v:=im) 1 Tryz.underlying118 (keI) rfl rfl rfl rfl (bST rfl ?_))))))))))))
   refine BN (ak (aq (aSR (aM rfl (UN rfl rfl (UO 2 rfl rfl (UL 0 tk119 rfl rfl rfl rfl (LT rfl (EC [] [] rfl (yd tb) ?_)))))))))
   rintro _ _ _ ⟨rfl,bx2,rfl,rfl⟩
   refine aST ?_
   refine LF rfl (EC [1] [2] rfl (mj (by kernel_rfl) (aec tb bx2 s.thr) (hC.toK (by omega))) ?_)
   rintro r7 _ _ ⟨rfl,ks,hk,hlt,rfl⟩
   refine aST ?_
   have hkl:ks.length≤C:=hC ks hk.nd fun k h=>(hk.iff k).1 h
   have hs2:∀ k im',bw s.mods m im k=some im'→gU im':=fun k im' h=>by
     unfold bw at h
     split at h
     · cases h;exact him.f
     · exact hs k im' h
   refine aU rfl (dA 7 Tryz.underlying26 rfl rfl) (aM rfl (aNn (ao ?_)))
   refine aP [0,1,39,40,41] [] [0,1,2,3,4,7] (fun (q:Nat × (bk × Mem)) s'=>q.1≤ks.length∧cV (gA m) ({ s with mods:=bw s.mods m im },M) ks=cV (gA m) q.2 (ks.drop q.1)∧q.2.1.mods=bw s.mods m im∧cS q.2.2∧fk q.2.1.at_ (A+q.1)∧s'=⟨[(0,true,.pointer (some ⟨b,0,none⟩)),(1,true,.int .i64 m),(39,true,r7),(40,true,.int .i64 ks.length),(41,true,.int .i64 q.1)],[],eo b p mb tb ab q.2.1 q.2.2++[az r7 3 1 (ks.map gy)]⟩) (fun q=>ks.length-q.1) rfl (⟨(0,({ s with mods:=bw s.mods m im },M)),Nat.zero_le _,rfl,rfl,hM,hA,by rw [List.length_map];rfl⟩) ?_
   rintro ⟨j,x⟩ s' ⟨hj,hmk,hmo,hMx,hAx,rfl⟩
   dsimp only at hj hmk hmo hMx hAx
   refine aSR (aU rfl (bd rfl rfl) (aNs ?_))
   refine ah _ rfl (fun h3 => ?_) (fun h3 => ?_)
   ·skip
    have hj':j<ks.length:=by simpa using h3
    obtain ⟨k,hkj⟩:∃ k,ks[j]? = some k:=⟨ks[j]'hj',by simp⟩
    have hrow:(ks.map gy)[j]? = some (gy k):=by rw [List.getElem?_map,hkj];rfl
    have hdr:ks.drop j=k::ks.drop (j+1):=by rw [List.drop_eq_getElem_cons hj'];congr 1;rw [List.getElem?_eq_getElem hj'] at hkj;exact Option.some.inj hkj
    rw [hdr] at hmk
    refine ai (ak (aq (ao (aSR ?_))))
    refine aU rfl (bA 5 j el26 rfl rfl rfl rfl (by rw [List.length_map];exact hj')) ?_
    refine aU rfl (ba 5 j 0 tk3 rfl rfl hrow rfl rfl) (aA rfl (aNn (aSR (aM rfl (aM rfl (aM rfl (LF rfl (EC [] [0,1,2,3,4] rfl (qh b p mb tb ab x.1 (fun k im h=>hs2 k im (hmo ▸ h)) x.2 hMx k m) ?_))))))))
    rintro _ _ _ ⟨rfl,rfl,rfl⟩
    refine aST ?_
    refine aU rfl (bX rfl) (aNn ?_)
    refine ah _ rfl (fun h4 => ?_) (fun h4 => ?_)
    ·skip
     have hno:(mkT x.1 x.2 k m).2.2=false:=by simpa using h4
     have hmk2:cV (gA m) ({ s with mods:=bw s.mods m im },M) ks=(((mkT x.1 x.2 k m).1,(mkT x.1 x.2 k m).2.1),false):=hmk.trans (oI (f:=gA m) hno)
     refine aSR (aM rfl (aM rfl (LF rfl (EC [] [0,1,2,3,4] rfl (wI b p mb tb ab (mkT x.1 x.2 k m).1 ((mV hAx k m).toK (by omega)) (mkT x.1 x.2 k m).2.1 (rI hMx k m) m) ?_))))
     rintro _ _ _ ⟨rfl,ds,hd,hdl,rfl⟩
     refine aST ?_
     refine aNn (aSR (aA rfl (aNn (aj (bF (aK (aK (bF (aK (FZ1 [0,1,2,3,4] Tryz.results19 rfl ?_))))))))))
     exact ⟨rfl,br,goR (mkT x.1 x.2 k m).1 (mkT x.1 x.2 k m).2.1 m ds,7,hR,.inr (.inr ⟨hm0.1,hm0.2,by simpa using h2,ks,hk,hlt,.inr ⟨by rw [hmk2],rfl,((mkT x.1 x.2 k m).1,(mkT x.1 x.2 k m).2.1),ds,by rw [hmk2],hd,hdl,rfl⟩⟩),rfl,rfl⟩
    ·skip
     have hyes:(mkT x.1 x.2 k m).2.2=true:=by simpa using h4
     have hmk2:cV (gA m) ({ s with mods:=bw s.mods m im },M) ks=cV (gA m) ((mkT x.1 x.2 k m).1,(mkT x.1 x.2 k m).2.1) (ks.drop (j+1)):=hmk.trans (ig (f:=gA m) hyes)
     refine ai (bb (ak (ae (aU rfl (aO rfl rfl (by omega)) (aM rfl (aNn ?_))))))
     refine ⟨[0,1,39,40,41],[],[0,1,2,3,4,5],rfl,?_⟩
     refine ⟨(j+1,((mkT x.1 x.2 k m).1,(mkT x.1 x.2 k m).2.1)),⟨by omega,hmk2,(tH _ _ _ _).trans hmo,rI hMx k m,mV hAx k m,rfl⟩,by dsimp only;omega⟩
   ·skip
    have hdr:ks.drop j=[]:=List.drop_of_length_le (by simp at h3;omega)
    rw [hdr] at hmk
    refine aQ (aR (aR (aX (ak (aSR (aA rfl (aNn (aj (FZ1 [0,1,2,3,4] Tryz.results19 rfl ?_)))))))))
    exact ⟨rfl,br,x,0,hR,.inr (.inr ⟨hm0.1,hm0.2,by simpa using h2,ks,hk,hlt,.inl ⟨by rw [hmk];rfl,by rw [hmk];rfl,rfl⟩⟩),rfl,rfl⟩
def zF(s:bk)(m:Int)(im:an)(br:Bool)(s':bk)(e:Int):Prop :=
 (s.mods m=none∧s'=s∧e=9)∨(∃ old,s.mods m=some old∧((br=false∨im.block≠old.block)∧s'=s∧e=1∨br=true∧im.block=old.block∧s' = { s with mods:=bw s.mods m im } ∧ e=0))
theorem ob(b p mb tb ab:Nat)(s:bk)(M:Mem)(m:Int)(im:an)(him:j8 im) :
   Con Tryz.prog 20 [.pointer (some ⟨b,0,none⟩),.int .i64 m,im.val] [im.ok] (eo b p mb tb ab s M) fun r ps hp=>ps=[]∧∃ br s' e,((s.mods m).isSome=true→fM im br)∧zF s m im br s' e∧r=.int .i64 e∧hp=eo b p mb tb ab s' M:=by
 obtain ⟨im0,hg0⟩:∃ im0,(s.mods m).getD default=im0:=⟨_,rfl⟩
 refine EN3 Tryz.func20 rfl (aSR (LT rfl (bC rfl rfl rfl (fun b0_0=>(aHN ?_)))))
 refine aA rfl (aNn (aSR (aM rfl (UN rfl rfl (UO 1 rfl rfl (UL 0 tk118 rfl rfl rfl rfl (aM rfl (aU rfl (ja (k:=m) (v0:=(default:an)) 1 Tryz.underlying118 (keI) (by kernel_rfl) rfl rfl rfl) ?_))))))))
 rw [hg0]
 refine aM rfl (aU rfl (aI rfl rfl) (aU rfl (aI rfl rfl) (LT rfl (bg (zs:=ZI) (by kernel_rfl) rfl (fun b1_9=>(aHN ?_))))))
 refine aJ rfl (aV 6 tk40 rfl rfl rfl rfl (aHK ?_))
 refine aA rfl (aNs (ao (aSR (aM rfl (aU rfl (bX rfl) (aA rfl (aNn ?_)))))))
 refine ah _ rfl (fun h1 => ?_) (fun h1 => ?_)
 ·skip
  refine aSR (aA rfl (aNn (aj (bF (aK (FZ1 [0,1,2,3,4] Tryz.results20 rfl ?_))))))
  exact ⟨rfl,false,s,9,fun h=>by rw [h] at h1;simp at h1,.inl ⟨by simpa using h1,rfl,rfl⟩,rfl,rfl⟩
 ·skip
  have hsm:s.mods m=some im0:=by
    cases hmm:s.mods m with
    | none=>rw [hmm] at h1;simp at h1
    | some x=>rw [hmm] at hg0;exact congrArg some hg0
  refine aSR (UL 5 tk40 rfl rfl rfl rfl ?_)
  refine iP (caps:=[]) [0] (false) (by kernel_rfl) true rfl rfl (fun _=>rfl) (fun hc=>rfl) (fun hc=>by rw [List.append_nil];exact mf im him.r) (fun br hbr => ?_)
  refine aU rfl (bX rfl) (aM rfl (GO 7 rfl rfl rfl (GL 5 tk3 rfl rfl rfl rfl rfl (GO 7 rfl rfl rfl (GL 6 tk3 rfl rfl rfl rfl rfl (aG rfl rfl (fun hc=>dE (aa rfl hc) (aa rfl hc)) (aU rfl (cC rfl rfl (fun h=>gf rfl h)) (aA rfl (aNn ?_)))))))))
  refine ah _ rfl (fun h2 => ?_) (fun h2 => ?_)
  ·skip
   refine aSR (aA rfl (aNn (aj (bF (aK (FZ1 [0,1,2,3,4] Tryz.results20 rfl ?_))))))
   exact ⟨rfl,br,s,1,fun _=>(by first | exact hbr | exact hbr rfl),.inr ⟨im0,hsm,.inl ⟨by simpa using h2,rfl,rfl⟩⟩,rfl,rfl⟩
  ·skip
   refine ai (bb (ak (aq (DR [6] 7 (VM 0 rfl rfl (VN 1 rfl rfl rfl (VO 2 1 rfl rfl rfl (VL 3 0 tk118 rfl rfl rfl rfl rfl (VM 4 rfl rfl (VL 5 5 tk40 rfl rfl rfl rfl rfl (iO 6 rfl (by kernel_rfl) rfl rfl (cO (k:=m) (v:=im) 1 Tryz.underlying118 (keI) rfl rfl rfl rfl (bST rfl ?_)))))))))))))
   refine BN (ak (aSR (aA rfl (aNn (aj (FZ1 [0,1,2,3,4] Tryz.results20 rfl ?_))))))
   have h3:br=true∧im.block=im0.block:=by simpa using h2
   exact ⟨rfl,br,{ s with mods:=bw s.mods m im },0,fun _=>(by first | exact hbr | exact hbr rfl),.inr ⟨im0,hsm,.inr ⟨h3.1,h3.2,rfl,rfl⟩⟩,rfl,rfl⟩
def jd:bk:=⟨fun _=>none,fun _=>none,fun _=>none⟩
theorem oa(p:Nat):Con Tryz.prog 17 [.pointer (some ⟨p,0,none⟩)] [] [] fun r ps hp=>ps=[]∧∃ b mb tb ab,r=.pointer (some ⟨b,0,none⟩)∧hp=[Box b 122 [.pointer (some ⟨p,0,none⟩),.map (some mb),.map (some tb),.map (some ab)],cr mb kI an.val jd.mods,cr tb kI vBo jd.thr,cr ab ck vI jd.at_]:=by
 refine EN1 Tryz.func17 rfl (aSR (aA rfl (aNn (aSR (aM rfl (LT rfl (dU (kI) (an.val) rfl (fun b1_1=>(aHN ?_)))))))))
 refine LT rfl (dU (kI) (vBo) rfl (fun b1_2=>(aHN ?_)))
 refine LT rfl (dU (ck) (vI) rfl (fun b1_3=>(aHN ?_)))
 refine aU rfl (eH (l:=[(0,.tmp 3),(1,.tmp 4),(2,.tmp 5),(3,.tmp 6)]) (zs:=[.pointer none,.map none,.map none,.map none]) (pl:=[(0,1),(1,1),(2,1),(3,1)]) (by kernel_rfl) (by kernel_rfl) (by kernel_rfl) rfl rfl rfl) (LT rfl (bC rfl rfl rfl (fun b1_5=>(aHN ?_))))
 refine aA rfl (aNn (aj (FZ1 [3,0,1,2] Tryz.results17 rfl ?_)))
 exact ⟨rfl,_,_,_,_,rfl,rfl⟩
end Go.Proofs.YtfkcmbonmpcbfaaGreat

namespace Go.Proofs
open Go.Shelf
def Tryz.cloneI_ren:Go.Shelf.Ren:=⟨fun | 5=>93 | 7=>205 | n=>n,fun | 23=>118 | 25=>3 | 3=>40 | 4=>4 | 20=>20 | n=>n,fun | n=>n⟩
theorem Tryz.cloneI:Go.Proofs.SlLaysW.n5 Tryz.prog Tryz.cloneI_ren := {
 mixed:=by kernel_rfl
 f5:=⟨Tryz.f93.name,by decide,Tryz.func93.trans (congrArg some (by kernel_rfl))⟩
 f7:=Tryz.func205.trans (congrArg some (by kernel_rfl))
 t4:=Tryz.underlying4
 a4:=Tryz.isAgg4
 z4:=Tryz.sizeOf4
 v4:=Tryz.zeroValue4
 t20:=Tryz.underlying20
 a20:=Tryz.isAgg20
 z20:=Tryz.sizeOf20
 v20:=Tryz.zeroValue20
 t23:=Tryz.underlying118
 a23:=Tryz.isAgg118
 z23:=Tryz.sizeOf118
 v23:=Tryz.zeroValue118 }
def Tryz.cloneB_ren:Go.Shelf.Ren:=⟨fun | 5=>94 | 7=>205 | n=>n,fun | 23=>119 | 25=>3 | 3=>4 | 4=>4 | 20=>20 | n=>n,fun | n=>n⟩
theorem Tryz.cloneB:Go.Proofs.SlLaysW.n5 Tryz.prog Tryz.cloneB_ren := {
 mixed:=by kernel_rfl
 f5:=⟨Tryz.f94.name,by decide,Tryz.func94.trans (congrArg some (by kernel_rfl))⟩
 f7:=Tryz.func205.trans (congrArg some (by kernel_rfl))
 t4:=Tryz.underlying4
 a4:=Tryz.isAgg4
 z4:=Tryz.sizeOf4
 v4:=Tryz.zeroValue4
 t20:=Tryz.underlying20
 a20:=Tryz.isAgg20
 z20:=Tryz.sizeOf20
 v20:=Tryz.zeroValue20
 t23:=Tryz.underlying119
 a23:=Tryz.isAgg119
 z23:=Tryz.sizeOf119
 v23:=Tryz.zeroValue119 }
def Tryz.cloneP_ren:Go.Shelf.Ren:=⟨fun | 5=>95 | 7=>205 | n=>n,fun | 23=>120 | 25=>133 | 3=>3 | 4=>4 | 20=>20 | n=>n,fun | n=>n⟩
theorem Tryz.cloneP:Go.Proofs.SlLaysW.n5 Tryz.prog Tryz.cloneP_ren := {
 mixed:=by kernel_rfl
 f5:=⟨Tryz.f95.name,by decide,Tryz.func95.trans (congrArg some (by kernel_rfl))⟩
 f7:=Tryz.func205.trans (congrArg some (by kernel_rfl))
 t4:=Tryz.underlying4
 a4:=Tryz.isAgg4
 z4:=Tryz.sizeOf4
 v4:=Tryz.zeroValue4
 t20:=Tryz.underlying20
 a20:=Tryz.isAgg20
 z20:=Tryz.sizeOf20
 v20:=Tryz.zeroValue20
 t23:=Tryz.underlying120
 a23:=Tryz.isAgg120
 z23:=Tryz.sizeOf120
 v23:=Tryz.zeroValue120 }
end Go.Proofs

namespace Go.Proofs.YtfkcmbonmpcbfaaGreat
open Go.RowKit Go.Lp Go.Sy Go.Lv Go.Sort
open Go.Proofs.Tryz
attribute [local irreducible] aL aB awp aC fwp Quiet
theorem iA{α β:Type}{κ:α→Value}{ν:β→Value}{m:α→Option β}{ρ:Go.Shelf.Ren}(L:SlLaysW.n5 Tryz.prog ρ)(b:Nat):Con Tryz.prog (ρ.f 5) [.map (some b)] [] [cr b κ ν m] fun r ps hp=>ps=[]∧∃ b',r=.map (some b')∧hp=[cr b κ ν m,cr b' κ ν m]:=fun w S fp hst=>by
 obtain ⟨⟨es,clock,hb,hes,hsm⟩,hF⟩:=hst.res 0 _ rfl
 refine (AnyW.maps_Clone L b es clock w hb).mono fun e w' ⟨he,hw⟩ => ?_
 subst hw
 have hbl:=dR w (.map es clock)
 have hst1:=hst.push hbl (cr w.heap.size κ ν m) (fun k=>k=w.heap.size) ⟨⟨es,clock,gw _ _,hes,hsm⟩,fun _=>Iff.rfl⟩ (fun k hk=>⟨by omega,by rw [hk,World.size_alloc];omega⟩)
 refine ⟨_,[],[cr b κ ν m,cr w.heap.size κ ν m],S,_,he,⟨rfl,_,rfl,rfl⟩,hst1,Evo.of_below _ _ hbl,fun k hk => ?_⟩
 rcases kS (fp:=fp) (m:=1) hk with h | h
 · exact .inl h
 · exact .inr (by omega)
abbrev adw(b p mb tb ab:Nat)(s:bk):List Res:=[Box b 122 [.pointer (some ⟨p,0,none⟩),.map (some mb),.map (some tb),.map (some ab)],cr mb kI an.val s.mods,cr tb kI vBo s.thr,cr ab ck vI s.at_]
theorem yq(b p mb tb ab p2:Nat)(s:bk):Con Tryz.prog 32 [.pointer (some ⟨b,0,none⟩),.pointer (some ⟨p2,0,none⟩)] [] (adw b p mb tb ab s) fun r ps hp=>ps=[]∧∃ b2 mb2 tb2 ab2,r=.pointer (some ⟨b2,0,none⟩)∧hp=adw b p mb tb ab s++adw b2 p2 mb2 tb2 ab2 s:=by
 refine EN2 Tryz.func32 rfl (aSR (aA rfl (aNs (DC [5,10,15] [] [b] 19 (CF 0 rfl rfl rfl (ax rfl) (CF 1 rfl rfl rfl (ax rfl) (CF 2 rfl rfl rfl (b8 rfl) (CF 3 rfl rfl rfl (qFA (off:=1) rfl) ?_))))))))
 refine cq 4 0 rfl (by kernel_rfl) true rfl rfl (by simp) tk118 (fun _=>rfl) rfl rfl ?_
 refine CF 6 rfl rfl rfl (ax rfl) (CF 7 rfl rfl rfl (b8 rfl) (CF 8 rfl rfl rfl (qFA (off:=2) rfl) ?_))
 refine cq 9 0 rfl (by kernel_rfl) true rfl rfl (by simp) tk119 (fun _=>rfl) rfl rfl ?_
 refine CF 11 rfl rfl rfl (ax rfl) (CF 12 rfl rfl rfl (b8 rfl) (CF 13 rfl rfl rfl (qFA (off:=3) rfl) ?_))
 refine cq 14 0 rfl (by kernel_rfl) true rfl rfl (by simp) tk120 (fun _=>rfl) rfl rfl ?_
 refine bP 5 [] (by kernel_rfl) (bo ?_ bD)
 refine cj 5 rfl rfl (Eff.framed (q:=false) [1] rfl rfl (eK 0 rfl rfl iK) (id (EC [] [0] rfl (iA Tryz.cloneI mb) ?_)))
 rintro _ _ _ ⟨rfl,mb2,rfl,rfl⟩
 refine fA (CST ?_)
 refine bP 10 [] (by kernel_rfl) (bo ?_ bD)
 refine cj 10 rfl rfl (Eff.framed (q:=false) [2] rfl rfl (eK 0 rfl rfl iK) (id (EC [] [0] rfl (iA Tryz.cloneB tb) ?_)))
 rintro _ _ _ ⟨rfl,tb2,rfl,rfl⟩
 refine fA (CST ?_)
 refine bP 15 [] (by kernel_rfl) (bo ?_ bD)
 refine cj 15 rfl rfl (Eff.framed (q:=false) [3] rfl rfl (eK 0 rfl rfl iK) (id (EC [] [0] rfl (iA Tryz.cloneP ab) ?_)))
 rintro _ _ _ ⟨rfl,ab2,rfl,rfl⟩
 refine fA (CST ?_)
 refine CF 16 rfl rfl rfl (eH (l:=[(0,.tmp 5),(1,.tmp 10),(2,.tmp 15),(3,.tmp 20)]) (zs:=[.pointer none,.map none,.map none,.map none]) (pl:=[(0,1),(1,1),(2,1),(3,1)]) (by kernel_rfl) (by kernel_rfl) (by kernel_rfl) rfl rfl rfl) ?_
 refine bP 17 [] (by kernel_rfl) (bo ?_ bD)
 refine cj 17 rfl rfl (Eff.x (id (bC rfl rfl rfl (fun b1_17=>(CST ?_)))))
 refine CF 18 rfl rfl rfl (bz rfl) (ec (by kernel_rfl) (ak (aj (FZ1 [0,1,2,3,7,4,5,6] Tryz.results32 rfl ?_))))
 exact ⟨rfl,_,mb2,tb2,ab2,rfl,rfl⟩
theorem jQ(n m:Int)(hm:1≤m∧m≤1000):Con Tryz.prog 23 [.int .i64 n,.int .i64 m] [] [] fun r _ _=>r=.int .i64 (n % m):=by
 have hm1:=Int.emod_nonneg n (show m≠0 by omega)
 have hm2:=Int.emod_lt_of_pos n (show 0<m by omega)
 have ht:n.tmod m=n % m∨n.tmod m=n % m-m:=by rw [Int.tmod_eq_emod];split<;>omega
 refine EN2 Tryz.func23 rfl (aSR (aA rfl (aNn (aSR (aM rfl (aM rfl (aU rfl (mz rfl rfl (by omega)) (aA rfl (aNs (aSR (aM rfl (aU rfl (bd rfl rfl) (aNn ?_)))))))))))))
 refine ah _ rfl (fun h1 => ?_) (fun h1 => ?_)
 ·skip
  have ht2:n.tmod m+m=n % m:=by simp at h1;omega
  refine ae (aM rfl (aM rfl (aU rfl (aO rfl rfl (by omega)) (aA rfl (aNn (aSR (aM rfl (aA rfl (aNn (aj (FZ1 [] Tryz.results23 rfl ?_)))))))))))
  rw [ht2]
 ·skip
  have ht2:n.tmod m=n % m:=by simp at h1;omega
  refine ai (ak (aSR (aM rfl (aA rfl (aNn (aj (FZ1 [] Tryz.results23 rfl ?_)))))))
  rw [ht2]
def bI(l:List an)(i:Int):an:=if l=[] then default else elt l (i % l.length)
theorem jP(ims:Sl an)(hl:ims.l.length≤1000)(i:Int):Con Tryz.prog 24 [.slice ims.ad ims.l.length ims.cap,.int .i64 i] [ShF an.row ims] [] fun r _ _=>r=(bI ims.l i).val:=by
 refine EN2 Tryz.func24 rfl (aSR (LT rfl (bg (zs:=ZI) (by kernel_rfl) rfl (fun b0_0=>(aHN ?_)))))
 refine aNs (aSR (aM rfl (aU rfl (aY Tryz.underlying49 rfl) (aU rfl (bp rfl rfl) (aNn ?_)))))
 refine ah _ rfl (fun h1 => ?_) (fun h1 => ?_)
 ·skip
  have he:ims.l=[]:=List.length_eq_zero_iff.1 (by simp at h1;simpa using h1)
  refine aSR (aU rfl (eH (l:=[]) (zs:=ZI) (pl:=[(0,1),(1,1),(2,1),(3,1),(4,1),(5,1),(6,1),(7,1),(8,1),(9,1),(10,1),(11,1),(12,1),(13,1),(14,1),(15,1),(16,1),(17,1),(18,1),(19,6),(25,1)]) (by kernel_rfl) (by kernel_rfl) (by kernel_rfl) rfl rfl rfl) (aJ rfl (aV 0 tk40 rfl rfl rfl rfl (aHK ?_))))
  refine aNn (aj (aK ?_))
  refine wP [] [] rfl Tryz.results24 (fE 0 tk40 rfl rfl rfl) ?_ (.inr rfl)
  unfold bI;rw [if_pos he];rfl
 ·skip
  have hne:ims.l≠[]:=fun he=>by rw [he] at h1;simp at h1
  have hlp:0<ims.l.length:=List.length_pos_iff.2 hne
  have hi1:=Int.emod_nonneg i (show (ims.l.length:Int)≠0 by omega)
  have hi2:=Int.emod_lt_of_pos i (show 0<(ims.l.length:Int) by omega)
  refine ai (ak (aSR (aM rfl (aM rfl (aM rfl (aU rfl (aY Tryz.underlying49 rfl) (aU rfl (Q0 rfl (jQ i ims.l.length (by omega))) (gb true rfl rfl (fun _=>aZ Tryz.underlying49 tk40 rfl ((.of (aF 0 rfl))) rfl (et (i:=i % ims.l.length) (by omega) (by omega)) (by omega) rfl) (fun h=>absurd h (by decide)) (fun ⟨b3_5,o3_5⟩=>(US 0 tk40 0 rfl rfl rfl rfl rfl (aJ rfl (aV 0 tk40 rfl rfl rfl rfl (aHK ?_)))))))))))))
  refine aNn (aj ?_)
  refine wP [] [] rfl Tryz.results24 (fE 0 tk40 rfl rfl rfl) ?_ (.inr rfl)
  unfold bI;rw [if_neg hne]
def fQ(l:List an):Bool:=l.all fun x => !(decide (4096<x.data) || decide (4096<x.block))
theorem qc(acts:Sl dP)(ims:Sl an):Con Tryz.prog 15 [.slice acts.ad acts.l.length acts.cap,.slice ims.ad ims.l.length ims.cap] [ShF an.row ims] [] fun r _ _=>r=.bool (fQ ims.l && (decide ((acts.l.length:Int)≤30) && decide ((ims.l.length:Int)≤6))):=by
 refine EN2 Tryz.func15 rfl (aSR (aA rfl (aNs (aSR (aA rfl (aNn (ao (ct (.of (aF 0 rfl)) (fun hlx=>(aP [0,1,5] [0] [] (fun (k:Nat) s=>(k≤ims.l.length∧fQ (ims.l.take k)=true)∧s=⟨[(0,true,.slice acts.ad acts.l.length acts.cap),(1,true,.slice ims.ad ims.l.length ims.cap),(5,true,.int .i64 k)],[ShF an.row ims],[]⟩) (fun k=>ims.l.length-k) rfl (⟨0,⟨Nat.zero_le _,rfl⟩,rfl⟩) ?_))))))))))
 rintro k s ⟨⟨hk,hf⟩,rfl⟩
 refine aq (aSR (aM rfl (aM rfl (aU rfl (aY Tryz.underlying49 rfl) (aU rfl (bd rfl rfl) (aNn ?_))))))
 refine ah _ rfl (fun h1 => ?_) (fun h1 => ?_)
 ·skip
  have hk':k<ims.l.length:=by simpa using h1
  obtain ⟨x,hx⟩:∃ x,ims.l[k]? = some x:=⟨ims.l[k]'hk',by simp⟩
  have hsn:fQ (ims.l.take (k+1))=(fQ (ims.l.take k) && !(decide (4096<x.data) || decide (4096<x.block))):=by unfold fQ;rw [List.take_add_one,hx];simp
  refine ai (ak (aq (ao (aSR (aM rfl (aM rfl (UI Tryz.underlying49 tk40 0 rfl rfl rfl rfl rfl (aH hx) rfl rfl (fun ⟨b4_2,o4_2⟩=>(UO 3 rfl rfl (US 3 tk3 0 rfl rfl rfl rfl rfl (aU rfl (db rfl rfl) (aM rfl (aG rfl rfl (fun hc=>ax rfl) (aG rfl rfl (fun hc=>ax rfl) ?_))))))))))))))
  refine gb _ rfl rfl (fun hc=>aZ Tryz.underlying49 tk40 (aa rfl hc) ((.of (aF 1 rfl))) (aa rfl hc) (aH hx) rfl rfl) (fun _=>⟨(0,0)⟩) (fun ⟨b4_9,o4_9⟩=>(aG rfl rfl (fun hc=>qFA (off:=7) (aa rfl hc)) (aG rfl rfl (fun hc=>ei (o:=7) tk3 (aa rfl hc) (aF 0 rfl) hc rfl) (aG rfl rfl (fun hc=>db (aa rfl hc) rfl) (aU rfl (cC rfl rfl (fun h=>gf rfl h)) (aNn ?_))))))
  refine ah _ rfl (fun h2 => ?_) (fun h2 => ?_)
  ·skip
   refine aSR (aA rfl (aNn (aj (bF (aK (aK (bF (aK (FZ1 [] Tryz.results15 rfl ?_)))))))))
   have hno:fQ ims.l=false:=by
     unfold fQ
     rw [List.all_eq_false]
     exact ⟨x,List.mem_of_getElem? hx,by rw [h2];decide⟩
   rw [hno];rfl
  ·skip
   refine ai (bb (ak (ae (aM rfl (aU rfl (aO rfl rfl (by omega)) (aA rfl (aNn ?_)))))))
   refine ⟨[0,1,5],[0],[],rfl,?_⟩
   refine ⟨k+1,⟨⟨by omega,by rw [hsn,hf,h2];rfl⟩,rfl⟩,by omega⟩
 ·skip
  have hf2:fQ ims.l=true:=by rw [List.take_of_length_le (by simp at h1;omega)] at hf;exact hf
  refine aQ (aR (aR (aX (ak (aSR (aM rfl (aU rfl (aY Tryz.underlying58 rfl) (aU rfl (di rfl rfl) (aM rfl (aG rfl rfl (fun hc=>ax rfl) (aG rfl rfl (fun hc=>aY Tryz.underlying49 (aa rfl hc)) (aG rfl rfl (fun hc=>di (aa rfl hc) rfl) (aU rfl (aT rfl rfl (fun h=>gt rfl h)) (aA rfl (aNn (aj ?_))))))))))))))))
  refine FZ1 [] Tryz.results15 rfl ?_
  rw [hf2];simp
theorem acG{ps:List Per} : Ent ps (ea ByteArray.empty):=fun _ _ _=>(by decide:ByteArray.empty.size≤maxLen)
theorem adW{α:Type}{row:α→List D}{ps:List Per} : Ent ps (ShF row (default:Sl α)):=fun _ _ _=>er.e none 0 (Nat.zero_le _)
theorem acs{α:Type}{f:α→Per}{ps:List Per} : Ent ps (bN f []):=fun _ _ _ x hx=>by cases hx
theorem vM{ps:List Per} : Ent ps (default:an).ok:=by
 unfold an.ok
 repeat' (first | exact acG | exact adW | exact acs | refine Ent.mk2 ?_ ?_)
theorem p8{ps:List Per}{l:List an}{i:Int}(h:Ent ps (bN an.ok l)):Ent ps (bI l i).ok:=by
 unfold bI
 split
 · exact vM
 · rename_i hne
   have hlp:0<l.length:=List.length_pos_iff.2 hne
   have hi1:=Int.emod_nonneg i (show (l.length:Int)≠0 by omega)
   have hi2:=Int.emod_lt_of_pos i (show 0<(l.length:Int) by omega)
   exact h.elt (by omega) (by omega)
def DoR(ims:List an)(a:dP)(s:bk)(M:Mem)(x:bk × Mem)(e:Int):Prop :=
 (a.do_ % 7=0∧∃ br,(0≤a.n→fM (bI ims a.i) br)∧zB s M a.n (bI ims a.i) br x e) ∨
 (a.do_ % 7=1∧abA s M a.n x e) ∨
 (a.do_ % 7=2∧∃ br s',((s.mods a.n).isSome=true→fM (bI ims a.i) br)∧zF s a.n (bI ims a.i) br s' e∧x=(s',M)) ∨
 (a.do_ % 7=3∧e=0∧∃ ds,dq s.at_ ds∧ds.Pairwise jE∧x=goR s M a.n ds) ∨
 (a.do_ % 7=4∧e=0∧∃ ds,dq s.at_ ds∧ds.Pairwise jE∧x=lC s M a.n ds) ∨
 (a.do_ % 7=5∧x=(s,(mapM M ⟨dM M a.size,a.size,3,0,0⟩).1)∧e=(mapM M ⟨dM M a.size,a.size,3,0,0⟩).2) ∨
 (a.do_ % 7=6∧(((s.at_ (a.n,a.m)).isSome=true∧x=(s,(dJ M ((s.at_ (a.n,a.m)).getD 0) 1 a.size).1)∧e=(dJ M ((s.at_ (a.n,a.m)).getD 0) 1 a.size).2)∨((s.at_ (a.n,a.m)).isSome=false∧x=(s,M)∧e=0)))
structure acr (s:bk) (A B C:Nat):Prop where
 fit:∀ k im,s.mods k=some im→gU im
 fa:fk s.at_ A
 fm:fk s.mods B
 ft:fk s.thr C
 at_:∀ k a,s.at_ k=some a→I64 a
 few:A+B+C≤1000000
theorem n1 (b p mb tb ab:Nat) (ims:Sl an) (hl:ims.l.length≤1000) (hi:∀ i,j8 (bI ims.l i)) (a:dP) (hz:I64 a.size) (s:bk) {A B C:Nat} (hs:acr s A B C) (M:Mem) (hM:cS M) :
   Con Tryz.prog 22 [.pointer (some ⟨b,0,none⟩),.pointer (some ⟨p,0,none⟩),.slice ims.ad ims.l.length ims.cap,a.val] [ShF an.row ims,bN an.ok ims.l] (eo b p mb tb ab s M) fun r ps hp=>ps=[]∧∃ x e,DoR ims.l a s M x e∧r=.int .i64 e∧hp=eo b p mb tb ab x.1 x.2:=by
 have hAC:=hs.few
 have hm7:=Int.emod_nonneg a.do_ (show (7:Int)≠0 by omega)
 have hm8:=Int.emod_lt_of_pos a.do_ (show 0<(7:Int) by omega)
 have hat:I64 ((s.at_ (a.n,a.m)).getD 0):=by
   cases h:s.at_ (a.n,a.m) with
   | none=>unfold I64;decide
   | some z=>exact hs.at_ _ z h
 refine EN4 Tryz.func22 rfl (aSR (LT rfl (bC rfl rfl rfl (fun b0_0=>(aHN ?_)))))
 refine aA rfl (aNs (aSR (UO 0 rfl rfl (UL 5 tk3 rfl rfl rfl rfl (aU rfl (Q0 rfl (jQ a.do_ 7 (by omega))) (aNn (ao (aSR (aU rfl (bp rfl rfl) (aA rfl (aNn ?_)))))))))))
 refine ah _ rfl (fun h1 => ?_) (fun h1 => ?_)
 ·skip
  refine aq (bK (bI ims.l a.i).ok (p8 (.of (aF 1 rfl))) (DC [7] [] [b0_0] 9 (CF 0 rfl rfl rfl (ax rfl) (CF 1 rfl rfl rfl (qFA (off:=1) rfl) ?_))))
  refine cq 2 5 rfl (by kernel_rfl) true rfl rfl (by simp) tk3 (fun _=>rfl) rfl rfl ?_
  refine CF 3 rfl rfl rfl (ax rfl) (CF 4 rfl rfl rfl (qFA (off:=3) rfl) ?_)
  refine cq 5 5 rfl (by kernel_rfl) true rfl rfl (by simp) tk3 (fun _=>rfl) rfl rfl ?_
  refine CF 6 rfl rfl rfl (Q1 rfl (jP ims hl a.i) 1 rfl) ?_
  refine bP 7 [] (by kernel_rfl) (bo ?_ bD)
  refine cj 7 rfl rfl (Eff.framed (q:=false) [0,1,2,3,4] rfl rfl (eK 5 rfl rfl iK) (id (EC [2] [0,1,2,3,4] rfl (iW b p mb tb ab s hs.fit hs.fa hs.ft (by omega) M hM a.n (bI ims.l a.i) (hi a.i)) ?_)))
  rintro _ _ _ ⟨rfl,br,x,e,hbr,hR,rfl,rfl⟩
  refine fA (CST ?_)
  refine CF 8 rfl rfl rfl (bz rfl) (ec (by kernel_rfl) (ak (aj (bF (aK (FZ1 [0,1,2,3,4] Tryz.results22 rfl ?_))))))
  exact ⟨rfl,x,e,.inl ⟨by simpa using h1,br,hbr,hR⟩,rfl,rfl⟩
 ·skip
  refine aSR (aU rfl (bp rfl rfl) (aA rfl (aNn ?_)))
  refine ah _ rfl (fun h2 => ?_) (fun h2 => ?_)
  ·skip
   refine aSR (aM rfl (UO 1 rfl rfl (UL 5 tk3 rfl rfl rfl rfl (LF rfl (EC [] [0,1,2,3,4] rfl (iX b p mb tb ab s hs.fit hs.fa hs.fm (by omega) M hM a.n) ?_)))))
   rintro _ _ _ ⟨rfl,x,e,hR,rfl,rfl⟩
   refine aST ?_
   refine aA rfl (aNn (aj (bF (aK (FZ1 [0,1,2,3,4] Tryz.results22 rfl ?_)))))
   exact ⟨rfl,x,e,.inr (.inl ⟨by simpa using h2,hR⟩),rfl,rfl⟩
  ·skip
   refine aSR (aU rfl (bp rfl rfl) (aA rfl (aNn ?_)))
   refine ah _ rfl (fun h3 => ?_) (fun h3 => ?_)
   ·skip
    refine aq (bK (bI ims.l a.i).ok (p8 (.of (aF 1 rfl))) (DC [7] [] [b0_0] 9 (CF 0 rfl rfl rfl (ax rfl) (CF 1 rfl rfl rfl (qFA (off:=1) rfl) ?_))))
    refine cq 2 5 rfl (by kernel_rfl) true rfl rfl (by simp) tk3 (fun _=>rfl) rfl rfl ?_
    refine CF 3 rfl rfl rfl (ax rfl) (CF 4 rfl rfl rfl (qFA (off:=3) rfl) ?_)
    refine cq 5 5 rfl (by kernel_rfl) true rfl rfl (by simp) tk3 (fun _=>rfl) rfl rfl ?_
    refine CF 6 rfl rfl rfl (Q1 rfl (jP ims hl a.i) 1 rfl) ?_
    refine bP 7 [] (by kernel_rfl) (bo ?_ bD)
    refine cj 7 rfl rfl (Eff.framed (q:=false) [0,1,2,3,4] rfl rfl (eK 5 rfl rfl iK) (id (EC [2] [0,1,2,3,4] rfl (ob b p mb tb ab s M a.n (bI ims.l a.i) (hi a.i)) ?_)))
    rintro _ _ _ ⟨rfl,br,s',e,hbr,hR,rfl,rfl⟩
    refine fA (CST ?_)
    refine CF 8 rfl rfl rfl (bz rfl) (ec (by kernel_rfl) (ak (aj (bF (aK (FZ1 [0,1,2,3,4] Tryz.results22 rfl ?_))))))
    exact ⟨rfl,(s',M),e,.inr (.inr (.inl ⟨by simpa using h3,br,s',hbr,hR,rfl⟩)),rfl,rfl⟩
   ·skip
    refine aSR (aU rfl (bp rfl rfl) (aA rfl (aNn ?_)))
    refine ah _ rfl (fun h4 => ?_) (fun h4 => ?_)
    ·skip
     refine ae (aM rfl (UO 1 rfl rfl (UL 5 tk3 rfl rfl rfl rfl (LF rfl (EC [] [0,1,2,3,4] rfl (wI b p mb tb ab s (hs.fa.toK (by omega)) M hM a.n) ?_)))))
     rintro _ _ _ ⟨rfl,ds,hd,hdl,rfl⟩
     refine aST ?_
     refine bE (bb (ak (aSR (aA rfl (aNn (aj (FZ1 [0,1,2,3,4] Tryz.results22 rfl ?_)))))))
     exact ⟨rfl,goR s M a.n ds,0,.inr (.inr (.inr (.inl ⟨by simpa using h4,rfl,ds,hd,hdl,rfl⟩))),rfl,rfl⟩
    ·skip
     refine aSR (aU rfl (bp rfl rfl) (aA rfl (aNn ?_)))
     refine ah _ rfl (fun h5 => ?_) (fun h5 => ?_)
     ·skip
      refine ae (aM rfl (UO 1 rfl rfl (UL 5 tk3 rfl rfl rfl rfl (LF rfl (EC [] [0,1,2,3,4] rfl (n9 b p mb tb ab s (hs.fa.toK (by omega)) M hM a.n) ?_)))))
      rintro _ _ _ ⟨rfl,ds,hd,hdl,rfl⟩
      refine aST ?_
      refine bE (bb (ak (aSR (aA rfl (aNn (aj (FZ1 [0,1,2,3,4] Tryz.results22 rfl ?_)))))))
      exact ⟨rfl,lC s M a.n ds,0,.inr (.inr (.inr (.inr (.inl ⟨by simpa using h5,rfl,ds,hd,hdl,rfl⟩)))),rfl,rfl⟩
     ·skip
      refine aSR (aU rfl (bp rfl rfl) (aA rfl (aNn ?_)))
      refine ah _ rfl (fun h6 => ?_) (fun h6 => ?_)
      ·skip
       refine aq (DC [4,8] [] [b0_0] 10 (CF 0 rfl rfl rfl (ax rfl) (CF 1 rfl rfl rfl (ax rfl) (CF 2 rfl rfl rfl (qFA (off:=4) rfl) ?_))))
       refine cq 3 5 rfl (by kernel_rfl) true rfl rfl (by simp) tk3 (fun _=>rfl) rfl rfl ?_
       refine CF 5 rfl rfl rfl (qFA (off:=4) rfl) ?_
       refine cq 6 5 rfl (by kernel_rfl) true rfl rfl (by simp) tk3 (fun _=>rfl) rfl rfl ?_
       refine bP 4 [] (by kernel_rfl) (bo ?_ bD)
       refine cj 4 rfl rfl (Eff.framed (q:=false) [4] rfl rfl (eK 5 rfl rfl iK) (id (EC [] [0] rfl (uj p M hM a.size hz) ?_)))
       rintro _ _ _ ⟨rfl,rfl,rfl⟩
       refine fA (CST ?_)
       refine CF 7 rfl rfl rfl (eH (l:=[(0,.tmp 58),(1,.tmp 60),(2,.const (.int .i64 3))]) (zs:=[.int .i64 0,.int .i64 0,.int .i64 0,.int .i64 0,.int .i64 0]) (pl:=[(0,1),(1,1),(2,1),(3,1),(4,1)]) (by kernel_rfl) (by kernel_rfl) (by kernel_rfl) rfl rfl rfl) ?_
       refine bP 8 [] (by kernel_rfl) (bo ?_ bD)
       refine cj 8 rfl rfl (Eff.framed (q:=false) [4] rfl rfl (eK 5 rfl rfl iK) (id (EC [] [0] rfl (xj p M hM ⟨dM M a.size,a.size,3,0,0⟩ (qq hM hz)) ?_)))
       rintro _ _ _ ⟨rfl,rfl,rfl⟩
       refine fA (CST ?_)
       refine CF 9 rfl rfl rfl (bz rfl) (ec (by kernel_rfl) (ak (aj (bF (aK (FZ1 [0,1,2,3,4] Tryz.results22 rfl ?_))))))
       exact ⟨rfl,(s,_),_,.inr (.inr (.inr (.inr (.inr (.inl ⟨by simpa using h6,rfl,rfl⟩))))),rfl,rfl⟩
      ·skip
       refine aSR (aU rfl (bp rfl rfl) (aA rfl (aNn ?_)))
       refine ah _ rfl (fun h7 => ?_) (fun h7 => ?_)
       ·skip
        refine aSR (aM rfl (UO 1 rfl rfl (UL 5 tk3 rfl rfl rfl rfl (UO 2 rfl rfl (UL 5 tk3 rfl rfl rfl rfl (LF rfl (EC [] [0,1,2,3,4] rfl (mP b p mb tb ab s M a.n a.m) ?_)))))))
        rintro _ _ _ ⟨rfl,rfl,rfl⟩
        refine aST ?_
        refine aM rfl (aU rfl (aI rfl rfl) (aU rfl (aI rfl rfl) (aA rfl (aA rfl (aNn (aSR (aM rfl (aNn ?_))))))))
        refine ah _ rfl (fun h8 => ?_) (fun h8 => ?_)
        ·skip
         refine aSR (aM rfl (aM rfl (UO 4 rfl rfl (UL 5 tk3 rfl rfl rfl rfl (LF rfl (EC [] [4] rfl (zi p M hM ((s.at_ (a.n,a.m)).getD 0) 1 a.size hat) ?_))))))
         rintro _ _ _ ⟨rfl,rfl,rfl⟩
         refine aST ?_
         refine aA rfl (aNn (aj (bF (aK (FZ1 [0,1,2,3,4] Tryz.results22 rfl ?_)))))
         exact ⟨rfl,(s,_),_,.inr (.inr (.inr (.inr (.inr (.inr ⟨by simpa using h7,.inl ⟨h8,rfl,rfl⟩⟩))))),rfl,rfl⟩
        ·skip
         refine ai (bb (ak (aSR (aA rfl (aNn (aj (FZ1 [0,1,2,3,4] Tryz.results22 rfl ?_)))))))
         exact ⟨rfl,(s,M),0,.inr (.inr (.inr (.inr (.inr (.inr ⟨by simpa using h7,.inr ⟨h8,rfl,rfl⟩⟩))))),rfl,rfl⟩
       ·skip
        refine ai (bb (ak (aSR (aA rfl (aNn (aj (FZ1 [0,1,2,3,4] Tryz.results22 rfl ?_)))))))
        exfalso
        simp at h1 h2 h3 h4 h5 h6 h7
        omega
end Go.Proofs.YtfkcmbonmpcbfaaGreat

namespace Go.Proofs.YtfkcmbonmpcbfaaGreat
open Go.RowKit Go.Lp Go.Sy Go.Lv Go.Sort
def ars(M:Mem):List Ar:=M.map (·.1)
theorem wD(M:Mem)(t:Int)(b:List UInt8):ars (pO M t b)=ars M:=by
 unfold ars pO
 rw [List.map_map]
 refine List.map_congr_left fun x _ => ?_
 simp only [Function.comp_apply]
 split<;>rfl
theorem lg(M:Mem)(t:Int)(b:List UInt8):ars (dZ M t b).1=ars M:=by
 unfold dZ
 split
 · rfl
 · split
   · exact wD _ _ _
   · rfl
theorem xC(M:Mem)(t z n:Int):ars (dJ M t z n).1=ars M:=by
 unfold dJ
 split
 · rfl
 · split
   · split
     · rfl
     · exact wD _ _ _
   · rfl
theorem oH{M:Mem}{a:Ar}(h:(mapM M a).2≠0):(mapM M a).1=M:=by
 unfold mapM at h ⊢
 split
 · rfl
 · split
   · rfl
   · split
     · rfl
     · rename_i h1 h2 h3
       rw [if_neg h1,if_neg h2,if_neg h3] at h
       exact absurd rfl h
theorem mU {M:Mem} {a:Ar} (h:(mapM M a).2=0) (x:Cell):x∈(mapM M a).1↔x=(a,List.replicate a.size.toNat 0)∨x∈M:=by
 unfold mapM at h ⊢
 split
 · rename_i h1;rw [if_pos h1] at h;simp at h
 · split
   · rename_i h1 h2;rw [if_neg h1,if_pos h2] at h;simp at h
   · split
     · rename_i h1 h2 h3;rw [if_neg h1,if_neg h2,if_pos h3] at h;simp at h
     · dsimp only
       simp only [List.mem_append,List.mem_filter,List.mem_singleton,Bool.not_eq_true',decide_eq_true_eq,decide_eq_false_iff_not]
       constructor
       · rintro ((⟨h,_⟩ | h) | ⟨h,_⟩)
         · exact .inr h
         · exact .inl h
         · exact .inr h
       · rintro (h | h)
         · exact .inl (.inr h)
         · by_cases hc:x.1.at_<a.at_
           · exact .inl (.inl ⟨h,hc⟩)
           · exact .inr ⟨h,hc⟩
theorem yK{M:Mem}{a:Ar}(h:(mapM M a).2=0):eJ a=true:=by
 cases hr:eJ a with
 | true=>rfl
 | false=>unfold mapM at h;rw [if_pos hr] at h;simp at h
theorem gh{M:Mem}{r:Ar} : r∈ars M↔∃ x∈M,x.1=r:=List.mem_map
theorem kh{M:Mem}{a:Ar}(h:(mapM M a).2=0)(r:Ar):r∈ars (mapM M a).1↔r=a∨r∈ars M:=by
 rw [gh,gh]
 constructor
 · rintro ⟨x,hx,rfl⟩
   rcases (mU h x).1 hx with rfl | hx
   · exact .inl rfl
   · exact .inr ⟨x,hx,rfl⟩
 · rintro (rfl | ⟨x,hx,rfl⟩)
   · exact ⟨_,(mU h _).2 (.inl rfl),rfl⟩
   · exact ⟨x,(mU h x).2 (.inr hx),rfl⟩
theorem lf(M:Mem)(t:Int)(r:Ar):r∈ars (fe M t).1↔r∈ars M∧r.at_≠t:=by
 unfold fe
 split
 · rw [gh,gh]
   constructor
   · rintro ⟨x,hx,rfl⟩
     have:=List.mem_filter.1 hx
     exact ⟨⟨x,this.1,rfl⟩,by simpa using this.2⟩
   · rintro ⟨⟨x,hx,rfl⟩,h⟩
     exact ⟨x,List.mem_filter.2 ⟨hx,by simpa using h⟩,rfl⟩
 · rename_i h
   refine ⟨fun hr=>⟨hr,fun e=>h ?_⟩,fun hr=>hr.1⟩
   obtain ⟨x,hx,rfl⟩:=gh.1 hr
   exact List.any_eq_true.2 ⟨x,hx,by simpa using e⟩
theorem acP{M:Mem}(h:cS M){x y:Cell}(hx:x∈M)(hy:y∈M)(e:x.1.at_=y.1.at_):x=y:=by
 obtain ⟨i,hi⟩:=List.mem_iff_getElem?.1 hx
 obtain ⟨j,hj⟩:=List.mem_iff_getElem?.1 hy
 have h1:=h.inv.ok hi
 have h2:=h.inv.ok hj
 rcases Nat.lt_trichotomy i j with hlt | rfl | hlt
 · have:=h.inv.lt hi hj hlt;omega
 · rw [hi] at hj;exact Option.some.inj hj
 · have:=h.inv.lt hj hi hlt;omega
theorem uB{M:Mem}(h:cS M){r q:Ar}(hr:r∈ars M)(hq:q∈ars M)(e:r.at_=q.at_):r=q:=by
 obtain ⟨x,hx,rfl⟩:=gh.1 hr
 obtain ⟨y,hy,rfl⟩:=gh.1 hq
 rw [acP h hx hy e]
structure qQ (s:bk) (M:Mem):Prop where
 ok:cS M
 own:∀ t m a,s.at_ (t,m)=some a→∃ im,s.mods m=some im∧(s.thr t).isSome=true∧0<im.block∧(⟨a,im.block,4,t,m⟩:Ar)∈ars M
 all:∀ r∈ars M,r.kind=4→s.at_ (r.owner,r.mod)=some r.at_
 rt:∀ m im,s.mods m=some im→0≤im.block∧((c7 im.tls).length:Int)≤im.block
theorem zA{M:Mem}{a:Ar}(h:(mapM M a).2=0){b:List UInt8}(hb:(b.length:Int)≤a.size):(dZ (mapM M a).1 a.at_ b).2=0:=by
 have hr:=cU.1 (yK h)
 unfold dZ
 split
 · rfl
 · have:(dW (mapM M a).1 a.at_ b.length).isSome=true:=by
     unfold dW
     rw [List.find?_isSome]
     refine ⟨_,(mU h _).2 (.inl rfl),?_⟩
     unfold holds
     simp only [Bool.and_eq_true,decide_eq_true_eq]
     omega
   obtain ⟨x,hx⟩:=Option.isSome_iff_exists.1 this
   rw [hx]
theorem yP{s:bk}{M:Mem}{t m:Int}{im:an}(hI:qQ s M)(hm:s.mods m=some im)(ht:(s.thr t).isSome=true)(hn:s.at_ (t,m)=none) :
   (im.block=0∧mkT s M t m=(s,M,true))∨(0<im.block∧mkT s M t m=(s,M,false)) ∨
   (0<im.block∧∃ a M',mkT s M t m=({ s with at_:=bw s.at_ (t,m) a },M',true)∧qQ { s with at_:=bw s.at_ (t,m) a } M'∧∀ r,r∈ars M'↔r=⟨a,im.block,4,t,m⟩∨r∈ars M):=by
 have hg:(s.mods m).getD default=im:=by rw [hm];rfl
 obtain ⟨h0,hl⟩:=hI.rt m im hm
 unfold mkT
 dsimp only
 rw [hg]
 by_cases hb:im.block=0
 · exact .inl ⟨hb,by rw [if_pos hb]⟩
 · rw [if_neg hb]
   have hb0:0<im.block:=by omega
   by_cases he:(mapM M ⟨dM M im.block,im.block,4,t,m⟩).2=0
   · rw [if_neg (by rw [he];simp)]
     have hw:=zA he hl
     refine .inr (.inr ⟨hb0,dM M im.block,_,by rw [hw];rfl,?_,fun r=>by rw [lg];exact kh he r⟩)
     refine ⟨(hI.ok.map _).write _ _,fun t' m' a h => ?_,fun r hr hk => ?_,hI.rt⟩
     · dsimp only at h ⊢
       rw [lg]
       unfold bw at h
       split at h
       · rename_i e
         simp only [Prod.mk.injEq] at e
         obtain ⟨rfl,rfl⟩:=e
         cases h
         exact ⟨im,hm,ht,hb0,(kh he _).2 (.inl rfl)⟩
       · obtain ⟨im',h1,h2,h3,h4⟩:=hI.own t' m' a h
         exact ⟨im',h1,h2,h3,(kh he _).2 (.inr h4)⟩
     · rw [lg] at hr
       dsimp only
       unfold bw
       rcases (kh he r).1 hr with rfl | hr
       · rw [if_pos rfl]
       · have:=hI.all r hr hk
         rw [if_neg (fun e=>by rw [e,hn] at this;cases this)]
         exact this
   · rw [if_pos he,oH he]
     exact .inr (.inl ⟨hb0,rfl⟩)
def mkG(g:Int→Int × Int)(x:bk × Mem)(k:Int):bk × Mem × Bool:=mkT x.1 x.2 (g k).1 (g k).2
structure acq (g:Int→Int × Int) (ks:List Int) (x y:bk × Mem) (b:Bool):Prop where
 inv:qQ y.1 y.2
 mods:y.1.mods=x.1.mods
 thr:y.1.thr=x.1.thr
 at_:∀ p,(∀ k∈ks,p≠g k)→y.1.at_ p=x.1.at_ p
 ar:∀ r:Ar,(r.kind≠4∨∀ k∈ks,(r.owner,r.mod)≠g k)→(r∈ars y.2↔r∈ars x.2)
 all:b=true→∀ k∈ks,∀ im,x.1.mods (g k).2=some im→0<im.block→(y.1.at_ (g k)).isSome=true
theorem iE{g:Int→Int × Int}(hg:∀ a b,g a=g b→a=b):∀ (ks:List Int) (x:bk × Mem),qQ x.1 x.2→ks.Nodup→(∀ k∈ks,(x.1.mods (g k).2).isSome=true)→(∀ k∈ks,(x.1.thr (g k).1).isSome=true)→(∀ k∈ks,x.1.at_ (g k)=none) →
   acq g ks x (cV (mkG g) x ks).1 (cV (mkG g) x ks).2
 | [],x,hI,_,_,_,_=>⟨hI,rfl,rfl,fun _ _=>rfl,fun _ _=>Iff.rfl,fun _ k hk=>by cases hk⟩
 | k :: ks,x,hI,hnd,hm,ht,hn=>by
   obtain ⟨im,him⟩:=Option.isSome_iff_exists.1 (hm k List.mem_cons_self)
   have hnk:=(List.nodup_cons.1 hnd).1
   rcases yP hI him (ht k List.mem_cons_self) (hn k List.mem_cons_self) with ⟨hb,he⟩ | ⟨hb,he⟩ | ⟨hb,a,M',he,hI',har⟩
   · have e:cV (mkG g) x (k::ks)=cV (mkG g) x ks:=by
       rw [ig (f:=mkG g) (show (mkG g x k).2.2=true by unfold mkG;rw [he])]
       unfold mkG;rw [he]
     rw [e]
     have ih:=iE hg ks x hI (List.nodup_cons.1 hnd).2 (fun j hj=>hm j (List.mem_cons_of_mem _ hj)) (fun j hj=>ht j (List.mem_cons_of_mem _ hj)) (fun j hj=>hn j (List.mem_cons_of_mem _ hj))
     refine ⟨ih.inv,ih.mods,ih.thr,fun p hp=>ih.at_ p fun j hj=>hp j (List.mem_cons_of_mem _ hj),fun r hr=>ih.ar r (hr.imp id fun h j hj=>h j (List.mem_cons_of_mem _ hj)),fun hbt j hj im' him' hb' => ?_⟩
     rcases List.mem_cons.1 hj with rfl | hj
     · rw [him] at him';cases him';omega
     · exact ih.all hbt j hj im' him' hb'
   · have e:cV (mkG g) x (k::ks)=(x,false):=by
       rw [oI (f:=mkG g) (show (mkG g x k).2.2=false by unfold mkG;rw [he])]
       unfold mkG;rw [he]
     rw [e]
     exact ⟨hI,rfl,rfl,fun _ _=>rfl,fun _ _=>Iff.rfl,fun h=>by cases h⟩
   · have e:cV (mkG g) x (k::ks)=cV (mkG g) ({ x.1 with at_:=bw x.1.at_ (g k) a },M') ks:=by
       rw [ig (f:=mkG g) (show (mkG g x k).2.2=true by unfold mkG;rw [he])]
       unfold mkG;rw [he]
     rw [e]
     have hne:∀ j∈ks,g j≠g k:=fun j hj h=>hnk (hg _ _ h ▸ hj)
     have ih:=iE hg ks ({ x.1 with at_:=bw x.1.at_ (g k) a },M') hI' (List.nodup_cons.1 hnd).2 (fun j hj=>hm j (List.mem_cons_of_mem _ hj)) (fun j hj=>ht j (List.mem_cons_of_mem _ hj)) (fun j hj=>by
       show bw x.1.at_ (g k) a (g j)=none
       unfold bw;rw [if_neg (hne j hj)];exact hn j (List.mem_cons_of_mem _ hj))
     refine ⟨ih.inv,ih.mods,ih.thr,fun p hp => ?_,fun r hr => ?_,fun hbt j hj im' him' hb' => ?_⟩
     · rw [ih.at_ p fun j hj=>hp j (List.mem_cons_of_mem _ hj)]
       show bw x.1.at_ (g k) a p=_
       unfold bw;rw [if_neg (hp k List.mem_cons_self)]
     · rw [ih.ar r (hr.imp id fun h j hj=>h j (List.mem_cons_of_mem _ hj))]
       refine (har r).trans ⟨fun h=>h.elim (fun h => ?_) id,.inr⟩
       subst h
       rcases hr with hr | hr
       · exact absurd rfl hr
       · exact absurd rfl (hr k List.mem_cons_self)
     · rcases List.mem_cons.1 hj with rfl | hj
       · rw [ih.at_ (g j) fun i hi=>(hne i hi).symm]
         show (bw x.1.at_ (g j) a (g j)).isSome=true
         unfold bw;rw [if_pos rfl];rfl
       · exact ih.all hbt j hj im' him' hb'
structure AtI (s:bk) (M:Mem):Prop where
 ok:cS M
 own:∀ p a,s.at_ p=some a→∃ z,(⟨a,z,4,p.1,p.2⟩:Ar)∈ars M
 all:∀ r∈ars M,r.kind=4→s.at_ (r.owner,r.mod)=some r.at_
theorem qQ.toAt{s:bk}{M:Mem}(h:qQ s M):AtI s M:=⟨h.ok,fun p a hp=>let ⟨im,_,_,_,h4⟩:=h.own p.1 p.2 a hp; ⟨im.block,h4⟩,h.all⟩
theorem yA{c:Int × Int→Bool}{x:bk × Mem}{k:Int × Int}{a:Int}(hI:AtI x.1 x.2)(hc:c k=true)(ha:x.1.at_ k=some a) :
   iY c x k=({ x.1 with at_:=cT x.1.at_ k },(fe x.2 a).1)∧AtI { x.1 with at_:=cT x.1.at_ k } (fe x.2 a).1∧∀ r,r∈ars (fe x.2 a).1↔r∈ars x.2∧¬ (r.kind=4∧(r.owner,r.mod)=k):=by
 obtain ⟨z,hz⟩:=hI.own k a ha
 have key:∀ r,r∈ars x.2→(r.at_=a↔r.kind=4∧(r.owner,r.mod)=k):=fun r hr=>by
   constructor
   · intro e
     have:=uB hI.ok hr hz e
     subst this
     exact ⟨rfl,rfl⟩
   · rintro ⟨h1,h2⟩
     have:=hI.all r hr h1
     rw [h2,ha] at this
     exact (Option.some.inj this).symm
 refine ⟨by unfold iY;rw [if_pos hc,ha];rfl,⟨hI.ok.unmap _,fun p b hp => ?_,fun r hr hk => ?_⟩,fun r => ?_⟩
 · dsimp only at hp
   unfold cT at hp
   split at hp
   · cases hp
   · rename_i hpk
     obtain ⟨y,hy⟩:=hI.own p b hp
     exact ⟨y,(lf _ _ _).2 ⟨hy,fun e=>hpk ((key _ hy).1 e).2⟩⟩
 · obtain ⟨h1,h2⟩:=(lf _ _ _).1 hr
   dsimp only
   unfold cT
   rw [if_neg fun e=>h2 ((key r h1).2 ⟨hk,e⟩)]
   exact hI.all r h1 hk
 · rw [lf]
   exact and_congr_right fun hr=>not_congr (key r hr)
structure adA (c:Int × Int→Bool) (ds:List (Int × Int)) (x y:bk × Mem):Prop where
 inv:AtI y.1 y.2
 mods:y.1.mods=x.1.mods
 thr:y.1.thr=x.1.thr
 at_:∀ p,y.1.at_ p=if p∈ds∧c p=true then none else x.1.at_ p
 ar:∀ r,r∈ars y.2↔r∈ars x.2∧¬ (r.kind=4∧(r.owner,r.mod)∈ds∧c (r.owner,r.mod)=true)
theorem gq{c:Int × Int→Bool} : ∀ (ds:List (Int × Int)) (x:bk × Mem),AtI x.1 x.2→ds.Nodup→(∀ k∈ds,(x.1.at_ k).isSome=true)→adA c ds x (eF c x ds)
 | [],x,hI,_,_=>⟨hI,rfl,rfl,fun p=>by rw [if_neg (fun h=>by cases h.1)];rfl,fun r=>⟨fun h=>⟨h,fun e=>by cases e.2.1⟩,fun h=>h.1⟩⟩
 | k :: ds,x,hI,hnd,hs=>by
   have hnk:=(List.nodup_cons.1 hnd).1
   have e:eF c x (k::ds)=eF c (iY c x k) ds:=rfl
   rw [e]
   by_cases hc:c k=true
   · obtain ⟨a,ha⟩:=Option.isSome_iff_exists.1 (hs k List.mem_cons_self)
     obtain ⟨e1,hI',har⟩:=yA hI hc ha
     rw [e1]
     have ih:=gq (c:=c) ds ({ x.1 with at_:=cT x.1.at_ k },(fe x.2 a).1) hI' (List.nodup_cons.1 hnd).2 (fun j hj=>by
       show (cT x.1.at_ k j).isSome=true
       unfold cT;rw [if_neg (show ¬ j=k from fun e=>hnk (e ▸ hj))];exact hs j (List.mem_cons_of_mem _ hj))
     refine ⟨ih.inv,ih.mods,ih.thr,fun p => ?_,fun r => ?_⟩
     · rw [ih.at_ p]
       show (if p∈ds∧c p=true then none else cT x.1.at_ k p)=_
       unfold cT
       by_cases h1:p∈ds∧c p=true
       · rw [if_pos h1,if_pos ⟨List.mem_cons_of_mem _ h1.1,h1.2⟩]
       · rw [if_neg h1]
         by_cases h2:p=k
         · subst h2;rw [if_pos rfl,if_pos ⟨List.mem_cons_self,hc⟩]
         · rw [if_neg h2,if_neg fun h=>h1 ⟨(List.mem_cons.1 h.1).resolve_left h2,h.2⟩]
     · rw [ih.ar r,har r]
       constructor
       · rintro ⟨⟨h1,h2⟩,h3⟩
         refine ⟨h1,fun ⟨h4,h5,h6⟩ => ?_⟩
         rcases List.mem_cons.1 h5 with h5 | h5
         · exact h2 ⟨h4,h5⟩
         · exact h3 ⟨h4,h5,h6⟩
       · rintro ⟨h1,h2⟩
         exact ⟨⟨h1,fun ⟨h3,h4⟩=>h2 ⟨h3,h4 ▸ List.mem_cons_self,h4 ▸ hc⟩⟩,fun ⟨h3,h4,h5⟩=>h2 ⟨h3,List.mem_cons_of_mem _ h4,h5⟩⟩
   · have e1:iY c x k=x:=by unfold iY;rw [if_neg hc]
     rw [e1]
     have ih:=gq (c:=c) ds x hI (List.nodup_cons.1 hnd).2 (fun j hj=>hs j (List.mem_cons_of_mem _ hj))
     have hiff:∀ p,(p∈k::ds∧c p=true)↔(p∈ds∧c p=true):=fun p=>⟨fun ⟨h1,h2⟩=>⟨(List.mem_cons.1 h1).resolve_left (fun e=>hc (e ▸ h2)),h2⟩,fun ⟨h1,h2⟩=>⟨List.mem_cons_of_mem _ h1,h2⟩⟩
     refine ⟨ih.inv,ih.mods,ih.thr,fun p => ?_,fun r => ?_⟩
     · rw [ih.at_ p]
       by_cases h1:p∈ds∧c p=true
       · rw [if_pos h1,if_pos ((hiff p).2 h1)]
       · rw [if_neg h1,if_neg fun h=>h1 ((hiff p).1 h)]
     · rw [ih.ar r]
       exact and_congr_right fun _=>not_congr (and_congr_right fun _=>(hiff _).symm)
end Go.Proofs.YtfkcmbonmpcbfaaGreat

