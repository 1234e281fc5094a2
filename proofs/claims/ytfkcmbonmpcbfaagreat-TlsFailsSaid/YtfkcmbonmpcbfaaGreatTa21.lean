/- Parts of the proof, in build order. No condition. -/
import Derived.Test.YtfkcmbonmpcbfaaGreatTa17
import Derived.Test.YtfkcmbonmpcbfaaGreatTa20
import Derived.Test.YtfkcmbonmpcbfaaGreatTa05
import Derived.Test.YtfkcmbonmpcbfaaGreatTa10
import Derived.Test.YtfkcmbonmpcbfaaGreatTa19
import Derived.Test.YtfkcmbonmpcbfaaGreatTa16
import Derived.Test.YtfkcmbonmpcbfaaGreatTa18
import Derived.Test.YtfkcmbonmpcbfaaGreatProg
import Derived.Ground.SlsfProg
import Derived.Shelf.SlSortCmp.WholeK
set_option linter.unusedSimpArgs false
set_option linter.unusedVariables false
set_option maxHeartbeats 1000000
set_option maxRecDepth 20000
namespace Go.Proofs.YtfkcmbonmpcbfaaGreat
open Go.RowKit Go.Lp Go.Sy Go.Lv Go.Sort
open Go.Proofs.Tryz
attribute [local irreducible] aL aB awp aC fwp Quiet
structure bk where
 mods:Int→Option an
 thr:Int→Option Bool
 at_:Int × Int→Option Int
abbrev eo(b p mb tb ab:Nat)(s:bk)(M:Mem):List Res:=[Box b 122 [.pointer (some ⟨p,0,none⟩),.map (some mb),.map (some tb),.map (some ab)],cr mb kI an.val s.mods,cr tb kI vBo s.thr,cr ab ck vI s.at_,SpR p M]
structure gU (im:an):Prop where
 b:I64 im.block
 t:im.tls.size≤maxLen
theorem jG:gU (default:an):=⟨by unfold I64;decide,by decide⟩
theorem oA{size al until_:Int}(hal:al=256)(hs:0≤size)(hu:until_≤1099511627776):∀ (l:List Span),(∀ p∈l,0≤p.1∧p.1≤1099511627776)→∀ a,lE size al 0 until_ l=(a,true)→0≤a∧a+size≤until_
 | [],_,a,h=>by simp [lE] at h
 | p :: l,hl,a,h=>by
   unfold lE at h
   have hp:=hl p List.mem_cons_self
   split at h
   · rename_i hc
     have := @qI (max p.1 0) (by omega)
     subst hal
     simp only [Prod.mk.injEq,and_true] at h
     subst h
     omega
   · exact oA hal hs hu l (fun q hq=>hl q (List.mem_cons_of_mem _ hq)) a h
theorem tv{M:Mem}(hM:cS M){size:Int} : dM M size = -1∨(0≤dM M size∧dM M size+upI (max 1 size) 256≤1099511627776):=by
 unfold dM
 split
 · exact .inl rfl
 · rename_i h
   have hu := @qI (max 1 size) (by omega)
   split
   · rename_i a hf
     exact .inr (oA rfl (by omega) (Int.le_refl _) _ (fun p hp=>by have:=(mq M fun x hx=>hM.inv.right x hx).1.ok p hp;omega) a hf)
   · exact .inl rfl
theorem qq{M:Mem}(hM:cS M){size:Int}(hs:I64 size):I64 (dM M size):=by
 unfold I64 at *
 rcases Int.lt_or_le 1099511627776 size with h | h
 · have:dM M size = -1:=by unfold dM;rw [if_pos h]
   omega
 · have hu := @qI (max 1 size) (by omega)
   rcases @tv M hM size with h | h<;>omega
def mkT(s:bk)(M:Mem)(t m:Int):bk × Mem × Bool :=
 let im:=(s.mods m).getD default
 if im.block=0 then (s,M,true) else
 let a:=dM M im.block
 let r:=mapM M ⟨a,im.block,4,t,m⟩
 if r.2≠0 then (s,r.1,false) else
 let w:=dZ r.1 a (c7 im.tls)
 ({ s with at_:=bw s.at_ (t,m) a },w.1,decide (w.2=0))
theorem mP(b p mb tb ab:Nat)(s:bk)(M:Mem)(t m:Int):Con Tryz.prog 25 [.pointer (some ⟨b,0,none⟩),.int .i64 t,.int .i64 m] [] (eo b p mb tb ab s M) fun r ps hp=>ps=[]∧hp=eo b p mb tb ab s M∧r=.tuple #[.int .i64 ((s.at_ (t,m)).getD 0),.bool (s.at_ (t,m)).isSome]:=by
 refine EN3 Tryz.func25 rfl (aSR (aA rfl (aA rfl (aNn (aSR (aM rfl (UN rfl rfl (UO 3 rfl rfl (UL 0 tk120 rfl rfl rfl rfl (aM rfl (aM rfl (aU rfl (iG (l:=[(0,.tmp 15),(1,.tmp 16)]) (zs:=[.int .i64 0,.int .i64 0]) (sz:=1) (m:=2) (by kernel_rfl) (by kernel_rfl) rfl rfl rfl) (aU rfl (ja (k:=(t,m)) (v0:=(0:Int)) 3 Tryz.underlying120 (lI) (by kernel_rfl) rfl rfl rfl) ?_)))))))))))))
 refine aM rfl (aU rfl (aI rfl rfl) (aU rfl (aI rfl rfl) (aA rfl (aA rfl (aNn (aSR (aM rfl (aM rfl (aA rfl (aA rfl (aNn (aj (FZ2 [0,1,2,3,4] Tryz.results25 rfl rfl ?_)))))))))))))
 exact ⟨rfl,rfl,rfl⟩
theorem qh(b p mb tb ab:Nat)(s:bk)(hs:∀ k im,s.mods k=some im→gU im)(M:Mem)(hM:cS M)(t m:Int):Con Tryz.prog 76 [.pointer (some ⟨b,0,none⟩),.int .i64 t,.int .i64 m] [] (eo b p mb tb ab s M) fun r ps hp=>ps=[]∧hp=eo b p mb tb ab (mkT s M t m).1 (mkT s M t m).2.1∧r=.bool (mkT s M t m).2.2:=by
 obtain ⟨im,him⟩:∃ im,(s.mods m).getD default=im:=⟨_,rfl⟩
 have hif:gU im:=by
   subst him
   cases h:s.mods m with
   | none=>exact jG
   | some x=>exact hs m x h
 have hai:=qq hM hif.b
 have hmk:mkT s M t m=if im.block=0 then (s,M,true) else if (mapM M ⟨dM M im.block,im.block,4,t,m⟩).2≠0 then (s,(mapM M ⟨dM M im.block,im.block,4,t,m⟩).1,false) else ({ s with at_:=bw s.at_ (t,m) (dM M im.block) },(dZ (mapM M ⟨dM M im.block,im.block,4,t,m⟩).1 (dM M im.block) (c7 im.tls)).1,decide ((dZ (mapM M ⟨dM M im.block,im.block,4,t,m⟩).1 (dM M im.block) (c7 im.tls)).2=0)):=by
   unfold mkT;rw [him]
 refine EN3 Tryz.func76 rfl (aSR (aA rfl (aNn (aSR (aM rfl (UN rfl rfl (UO 1 rfl rfl (UL 0 tk118 rfl rfl rfl rfl (aM rfl (aU rfl (gQ (k:=m) (v0:=(default:an)) 1 Tryz.underlying118 (keI) (by kernel_rfl) rfl rfl rfl) ?_))))))))))
 rw [him]
 refine LT rfl (bg (zs:=ZI) (by kernel_rfl) rfl (fun b1_6=>(aHN ?_)))
 refine aJ rfl (aV 5 tk40 rfl rfl rfl rfl (aHK ?_))
 refine aNs (aSR (UO 7 rfl rfl (UL 5 tk3 rfl rfl rfl rfl (aU rfl (bp rfl rfl) (aNn ?_)))))
 refine ah _ rfl (fun h1 => ?_) (fun h1 => ?_)
 ·skip
  refine aSR (aA rfl (aNn (aj (aK (FZ1 [0,1,2,3,4] Tryz.results76 rfl ?_)))))
  rw [hmk,if_pos (by simpa using h1)];exact ⟨rfl,rfl,rfl⟩
 ·skip
  refine ai (ak (aq (DC [6] [] [b,b1_6] 8 (CF 0 rfl rfl rfl (ax rfl) (CF 1 rfl rfl rfl (b8 rfl) (CF 2 rfl rfl rfl (qFA (off:=0) rfl) ?_))))))
  refine cq 3 0 rfl (by kernel_rfl) true rfl rfl (by simp) tk46 (fun _=>rfl) rfl rfl ?_
  refine CF 4 rfl rfl rfl (qFA (off:=7) rfl) ?_
  refine cq 5 5 rfl (by kernel_rfl) true rfl rfl (by simp) tk3 (fun _=>rfl) rfl rfl ?_
  refine bP 6 [] (by kernel_rfl) (bo ?_ bD)
  refine cj 6 rfl rfl (Eff.framed (q:=false) [4] rfl rfl (eK 0 rfl rfl (eK 5 rfl rfl iK)) (id (EC [] [0] rfl (uj p M hM im.block hif.b) ?_)))
  rintro _ _ _ ⟨rfl,rfl,rfl⟩
  refine fA (CST ?_)
  refine CF 7 rfl rfl rfl (bz rfl) (ec (by kernel_rfl) (ak (aq (aq (DC [10] [] [b,b1_6] 12 (CF 0 rfl rfl rfl (ax rfl) (CF 1 rfl rfl rfl (b8 rfl) (CF 2 rfl rfl rfl (qFA (off:=0) rfl) ?_))))))))
  refine cq 3 0 rfl (by kernel_rfl) true rfl rfl (by simp) tk46 (fun _=>rfl) rfl rfl ?_
  refine CF 4 rfl rfl rfl (ax rfl) (CF 5 rfl rfl rfl (qFA (off:=7) rfl) ?_)
  refine cq 6 5 rfl (by kernel_rfl) true rfl rfl (by simp) tk3 (fun _=>rfl) rfl rfl ?_
  refine CF 7 rfl rfl rfl (ax rfl) (CF 8 rfl rfl rfl (ax rfl) (CF 9 rfl rfl rfl (eH (l:=[(0,.tmp 29),(1,.tmp 31),(2,.const (.int .i64 4)),(3,.tmp 32),(4,.tmp 33)]) (zs:=[.int .i64 0,.int .i64 0,.int .i64 0,.int .i64 0,.int .i64 0]) (pl:=[(0,1),(1,1),(2,1),(3,1),(4,1)]) (by kernel_rfl) (by kernel_rfl) (by kernel_rfl) rfl rfl rfl) ?_))
  refine bP 10 [] (by kernel_rfl) (bo ?_ bD)
  refine cj 10 rfl rfl (Eff.framed (q:=false) [4] rfl rfl (eK 0 rfl rfl (eK 5 rfl rfl iK)) (id (EC [] [0] rfl (xj p M hM ⟨dM M im.block,im.block,4,t,m⟩ hai) ?_)))
  rintro _ _ _ ⟨rfl,rfl,rfl⟩
  refine fA (CST ?_)
  refine CF 11 rfl rfl rfl (dE rfl rfl) (ec (by kernel_rfl) (ak ?_))
  refine ah _ rfl (fun h2 => ?_) (fun h2 => ?_)
  ·skip
   refine aSR (aA rfl (aNn (aj (aK (FZ1 [0,1,2,3,4] Tryz.results76 rfl ?_)))))
   rw [hmk,if_neg (by simpa using h1),if_pos (by simpa using h2)];exact ⟨rfl,rfl,rfl⟩
  ·skip
   refine ai (ak (aSR (aM rfl (UN rfl rfl (UO 3 rfl rfl (UL 0 tk120 rfl rfl rfl rfl (aM rfl (aM rfl (aU rfl (iG (l:=[(0,.tmp 41),(1,.tmp 42)]) (zs:=[.int .i64 0,.int .i64 0]) (sz:=1) (m:=2) (by kernel_rfl) (by kernel_rfl) rfl rfl rfl) (aM rfl (aJ rfl (cO (k:=(t,m)) (v:=dM M im.block) 3 Tryz.underlying120 (lI) rfl rfl rfl rfl (aHK ?_)))))))))))))
   refine aNs (DC [7] [] [b,b1_6] 10 (CF 0 rfl rfl rfl (ax rfl) (CF 1 rfl rfl rfl (b8 rfl) (CF 2 rfl rfl rfl (qFA (off:=0) rfl) ?_))))
   refine cq 3 0 rfl (by kernel_rfl) true rfl rfl (by simp) tk46 (fun _=>rfl) rfl rfl ?_
   refine CF 4 rfl rfl rfl (ax rfl) (CF 5 rfl rfl rfl (qFA (off:=6) rfl) ?_)
   refine cq 6 5 rfl (by kernel_rfl) true rfl rfl (by simp) tk9 (fun _=>rfl) rfl rfl ?_
   refine bP 7 [] (by kernel_rfl) (bo ?_ bD)
   refine cj 7 rfl rfl (Eff.framed (q:=false) [4] rfl rfl (eK 0 rfl rfl (eK 5 rfl rfl iK)) (id (EC [] [0] rfl (zk p _ (hM.map _) (dM M im.block) im.tls hif.t hai) ?_)))
   rintro _ _ _ ⟨rfl,rfl,rfl⟩
   refine fA (CST ?_)
   refine CF 8 rfl rfl rfl (bp rfl rfl) (CF 9 rfl rfl rfl (bz rfl) (ec (by kernel_rfl) (ak (aj (FZ1 [0,1,2,3,4] Tryz.results76 rfl ?_)))))
   rw [hmk,if_neg (by simpa using h1),if_neg (by simpa using h2)];exact ⟨rfl,rfl,rfl⟩
def iY(c:Int × Int→Bool)(x:bk × Mem)(k:Int × Int):bk × Mem:=if c k=true then ({ x.1 with at_:=cT x.1.at_ k },(fe x.2 ((x.1.at_ k).getD 0)).1) else x
def eF(c:Int × Int→Bool)(x:bk × Mem)(ks:List (Int × Int)):bk × Mem:=ks.foldl (iY c) x
theorem vt{c:Int × Int→Bool}{x:bk × Mem}{ks:List (Int × Int)}{j:Nat}{k:Int × Int}(h:ks[j]? = some k):eF c x (ks.take (j+1))=iY c (eF c x (ks.take j)) k:=by
 unfold eF;rw [List.take_add_one,h];simp
theorem aae{c:Int × Int→Bool}{x:bk × Mem}(h:cS x.2)(k:Int × Int):cS (iY c x k).2:=by
 unfold iY;split
 · exact h.unmap _
 · exact h
theorem te{c:Int × Int→Bool} : ∀ (ks:List (Int × Int)) (x:bk × Mem),cS x.2→cS (eF c x ks).2
 | [],x,h=>h
 | k::ks,x,h=>te ks _ (aae h k)
def aby{α β:Type}(m:α→Option β):Prop:=∀ l:List α,l.Nodup→(∀ k∈l,(m k).isSome=true)→l.length≤1000000
theorem qg(b p mb tb ab:Nat)(s:bk)(hB:aby s.at_)(M:Mem)(hM:cS M)(g:FuncId)(hg:cL Tryz.prog g=true)(bx:Nat)(pc:Per)(c:Int × Int→Bool)(hc:∀ k,Con Tryz.prog g [ck k,.pointer (some ⟨bx,0,none⟩)] [pc] [] fun r _ _=>r=.bool (c k)) :
   Con Tryz.prog 137 [.pointer (some ⟨b,0,none⟩),.func (.func g) #[] #[.pointer (some ⟨bx,0,none⟩)]] [pc] (eo b p mb tb ab s M) fun _ ps hp=>ps=[]∧∃ ks,dq s.at_ ks∧ks.Pairwise jE∧hp=eo b p mb tb ab (eF c (s,M) ks).1 (eF c (s,M) ks).2:=by
 refine EN2 Tryz.func137 rfl (aSR (aM rfl (UN rfl rfl (UO 3 rfl rfl (UL 0 tk120 rfl rfl rfl rfl (LT rfl (EC [] [] rfl (yf ab) ?_)))))))
 rintro _ _ _ ⟨rfl,bx2,rfl,rfl⟩
 refine aST ?_
 refine LF rfl (EC [1] [3] rfl (s3 (by kernel_rfl) (aee ab bx2 s.at_) hB) ?_)
 rintro r0 _ _ ⟨rfl,ks,hk,hlt,rfl⟩
 refine aST ?_
 refine aA rfl (aNn (aSR ?_))
 have hkl:ks.length≤1000000:=hB ks hk.nd fun k h=>(hk.iff k).1 h
 refine aM rfl (aU rfl (dA 5 Tryz.underlying340 rfl rfl) (aM rfl (aNn (ao ?_))))
 refine aP [0,1,13,14,15] [0] [0,1,2,3,4,5] (fun (j:Nat) s'=>j≤ks.length∧s'=⟨[(0,true,.pointer (some ⟨b,0,none⟩)),(1,true,.func (.func g) #[] #[.pointer (some ⟨bx,0,none⟩)]),(13,true,r0),(14,true,.int .i64 ks.length),(15,true,.int .i64 j)],[pc],eo b p mb tb ab (eF c (s,M) (ks.take j)).1 (eF c (s,M) (ks.take j)).2++[az r0 133 2 (ks.map oO)]⟩) (fun j=>ks.length-j) rfl (⟨0,Nat.zero_le _,by rw [List.length_map];rfl⟩) ?_
 rintro j s' ⟨hj,rfl⟩
 refine aSR (aU rfl (bd rfl rfl) (aNs ?_))
 refine ah _ rfl (fun h1 => ?_) (fun h1 => ?_)
 ·skip
  have hj':j<ks.length:=by simpa using h1
  obtain ⟨k,hkj⟩:∃ k,ks[j]? = some k:=⟨ks[j]'hj',by simp⟩
  have hrow:(ks.map oO)[j]? = some (oO k):=by rw [List.getElem?_map,hkj];rfl
  have hsu:=vt (c:=c) (x:=(s,M)) hkj
  have hMj:=te (c:=c) (ks.take j) (s,M) hM
  generalize eF c (s,M) (ks.take j)=x at hsu hMj
  refine ai (ak (aq (ao (aSR ?_))))
  refine aU rfl (bA 5 j el340 rfl rfl rfl rfl (by rw [List.length_map];exact hj')) ?_
  refine aU rfl (ba 5 j 0 tk133 rfl rfl hrow rfl rfl) (LT rfl (bg (zs:=[.int .i64 0,.int .i64 0]) (by kernel_rfl) rfl (fun b3_2=>(aHN ?_))))
  refine aJ rfl (aV 6 tk133 rfl rfl rfl rfl (aHK ?_))
  refine aNn (aSR (aM rfl (UL 6 tk133 rfl rfl rfl rfl (aU rfl (fD hg rfl rfl (fun w S fp hst=>(hc k).quiet1 (aF 0 rfl) hst)) (aNn ?_)))))
  refine ah _ rfl (fun h2 => ?_) (fun h2 => ?_)
  ·skip
   refine aq (DC [10] [] [b,b3_2] 11 (CF 0 rfl rfl rfl (ax rfl) (CF 1 rfl rfl rfl (b8 rfl) (CF 2 rfl rfl rfl (qFA (off:=0) rfl) ?_))))
   refine cq 3 0 rfl (by kernel_rfl) true rfl rfl (by simp) tk46 (fun _=>rfl) rfl rfl ?_
   refine CF 4 rfl rfl rfl (ax rfl) (CF 5 rfl rfl rfl (b8 rfl) (CF 6 rfl rfl rfl (qFA (off:=3) rfl) ?_))
   refine cq 7 0 rfl (by kernel_rfl) true rfl rfl (by simp) tk120 (fun _=>rfl) rfl rfl ?_
   refine cq 8 6 rfl (by kernel_rfl) true rfl rfl (by simp) tk133 (fun _=>rfl) rfl rfl ?_
   refine CQ 9 rfl rfl rfl (gQ (k:=k) (v0:=(0:Int)) 3 Tryz.underlying120 (lI) (by kernel_rfl) rfl rfl rfl) ?_
   refine bP 10 [] (by kernel_rfl) (bo ?_ bD)
   refine cj 10 rfl rfl (Eff.framed (q:=false) [4] rfl rfl (eK 0 rfl rfl (eK 6 rfl rfl iK)) (id (EC [] [0] rfl (zj p _ hMj _) ?_)))
   rintro _ _ _ ⟨rfl,rfl,rfl⟩
   refine fA (CST ?_)
   refine ec (by kernel_rfl) (ak (DR [5] 6 (VM 0 rfl rfl (VN 1 rfl rfl rfl (VO 2 3 rfl rfl rfl (VL 3 0 tk120 rfl rfl rfl rfl rfl (VL 4 6 tk133 rfl rfl rfl rfl rfl (VE 5 rfl rfl (om (k:=k) 3 Tryz.underlying120 lI rfl rfl rfl (bST rfl ?_))))))))))
   refine BN (bb (ak (ae (aU rfl (aO rfl rfl (by omega)) (aM rfl (aNn ?_))))))
   refine ⟨[0,1,13,14,15],[0],[0,1,2,3,4,5],rfl,?_⟩
   refine ⟨j+1,⟨by omega,?_⟩,by omega⟩
   rw [hsu,show iY c x k=_ from if_pos (by simpa using h2)];rfl
  ·skip
   refine ai (bb (ak (ae (aU rfl (aO rfl rfl (by omega)) (aM rfl (aNn ?_))))))
   refine ⟨[0,1,13,14,15],[0],[0,1,2,3,4,5],rfl,?_⟩
   refine ⟨j+1,⟨by omega,?_⟩,by omega⟩
   rw [hsu,show iY c x k=_ from if_neg (by simpa using h2)];rfl
 ·skip
  have hjk:ks.take j=ks:=List.take_of_length_le (by simp at h1;omega)
  rw [hjk]
  refine aQ (aR (aR (aX (FZ0 [0,1,2,3,4] Tryz.results137 ?_))))
  exact ⟨rfl,ks,hk,hlt,rfl⟩
def isT(t:Int)(k:Int × Int):Bool:=decide (k.1=t)
def isM(m:Int)(k:Int × Int):Bool:=decide (k.2=m)
theorem zX(bx:Nat)(t:Int)(k:Int × Int):Con Tryz.prog 138 [ck k,.pointer (some ⟨bx,0,none⟩)] [At bx 0 [.v (.int .i64 t)]] [] fun r _ _=>r=.bool (isT t k):=by
 refine EN2 Tryz.func138 rfl ?_
 unfold ck
 refine aSR (LT rfl (bC rfl rfl rfl (fun b0_0=>(aHN ?_))))
 refine aA rfl (aNn (aSR (aU rfl (kN (0) Tryz.underlying133 tk3 rfl rfl (rfl) (by decide)) (UL 0 tk3 rfl rfl rfl rfl (UD 0 tk3 0 rfl rfl rfl rfl (aU rfl (bp rfl rfl) (aA rfl (aNn (aj (FZ1 [] Tryz.results138 rfl ?_))))))))))
 rfl
theorem vh(bx:Nat)(t:Int)(k:Int × Int):Con Tryz.prog 189 [ck k,.pointer (some ⟨bx,0,none⟩)] [At bx 0 [.v (.int .i64 t)]] [] fun r _ _=>r=.bool (isM t k):=by
 refine EN2 Tryz.func189 rfl ?_
 unfold ck
 refine aSR (LT rfl (bC rfl rfl rfl (fun b0_0=>(aHN ?_))))
 refine aA rfl (aNn (aSR (aU rfl (kN (1) Tryz.underlying133 tk3 rfl rfl (rfl) (by decide)) (UL 0 tk3 rfl rfl rfl rfl (UD 0 tk3 0 rfl rfl rfl rfl (aU rfl (bp rfl rfl) (aA rfl (aNn (aj (FZ1 [] Tryz.results189 rfl ?_))))))))))
 rfl
def lC(s:bk)(M:Mem)(t:Int)(ks:List (Int × Int)):bk × Mem:=eF (isT t) ({ s with thr:=cT s.thr t },M) ks
def goR(s:bk)(M:Mem)(m:Int)(ks:List (Int × Int)):bk × Mem:=eF (isM m) ({ s with mods:=cT s.mods m },M) ks
theorem n9(b p mb tb ab:Nat)(s:bk)(hB:aby s.at_)(M:Mem)(hM:cS M)(t:Int) :
   Con Tryz.prog 64 [.pointer (some ⟨b,0,none⟩),.int .i64 t] [] (eo b p mb tb ab s M) fun _ ps hp=>ps=[]∧∃ ks,dq s.at_ ks∧ks.Pairwise jE∧hp=eo b p mb tb ab (lC s M t ks).1 (lC s M t ks).2:=by
 refine EN2 Tryz.func64 rfl (aSR (LT rfl (bC rfl rfl rfl (fun b0_0=>(aHN ?_)))))
 refine aNs (DR [5] 6 (VM 0 rfl rfl (VN 1 rfl rfl rfl (VO 2 2 rfl rfl rfl (VL 3 0 tk119 rfl rfl rfl rfl rfl (VL 4 5 tk3 rfl rfl rfl rfl rfl (VE 5 rfl rfl (om (k:=t) 2 Tryz.underlying119 keI rfl rfl rfl (bST rfl ?_)))))))))
 refine BN (ak (bj 5 rfl rfl ?_))
 show awp _ _ _ _ ⟨_,At _ 0 _::_,_⟩
 refine ae (aM rfl (aU rfl (dy (l:=[.tmp 3]) rfl) (LF rfl (EC [0] [0,1,2,3,4] rfl (qg b p mb tb ab { s with thr:=cT s.thr t } hB M hM 138 (by kernel_rfl) b0_0 _ (isT t) (fun k=>zX b0_0 t k)) ?_))))
 rintro _ _ _ ⟨rfl,ks,hk,hlt,rfl⟩
 refine aST ?_
 refine bE (FZ0 [0,1,2,3,4] Tryz.results64 ?_)
 exact ⟨rfl,ks,hk,hlt,rfl⟩
theorem wI(b p mb tb ab:Nat)(s:bk)(hB:aby s.at_)(M:Mem)(hM:cS M)(m:Int) :
   Con Tryz.prog 78 [.pointer (some ⟨b,0,none⟩),.int .i64 m] [] (eo b p mb tb ab s M) fun _ ps hp=>ps=[]∧∃ ks,dq s.at_ ks∧ks.Pairwise jE∧hp=eo b p mb tb ab (goR s M m ks).1 (goR s M m ks).2:=by
 refine EN2 Tryz.func78 rfl (aSR (LT rfl (bC rfl rfl rfl (fun b0_0=>(aHN ?_)))))
 refine aNs (DR [5] 6 (VM 0 rfl rfl (VN 1 rfl rfl rfl (VO 2 1 rfl rfl rfl (VL 3 0 tk118 rfl rfl rfl rfl rfl (VL 4 5 tk3 rfl rfl rfl rfl rfl (VE 5 rfl rfl (om (k:=m) 1 Tryz.underlying118 keI rfl rfl rfl (bST rfl ?_)))))))))
 refine BN (ak (bj 5 rfl rfl ?_))
 show awp _ _ _ _ ⟨_,At _ 0 _::_,_⟩
 refine ae (aM rfl (aU rfl (dy (l:=[.tmp 3]) rfl) (LF rfl (EC [0] [0,1,2,3,4] rfl (qg b p mb tb ab { s with mods:=cT s.mods m } hB M hM 189 (by kernel_rfl) b0_0 _ (isM m) (fun k=>vh b0_0 m k)) ?_))))
 rintro _ _ _ ⟨rfl,ks,hk,hlt,rfl⟩
 refine aST ?_
 refine bE (FZ0 [0,1,2,3,4] Tryz.results78 ?_)
 exact ⟨rfl,ks,hk,hlt,rfl⟩
def fk{α β:Type}(m:α→Option β)(N:Nat):Prop:=∀ l:List α,l.Nodup→(∀ k∈l,(m k).isSome=true)→l.length≤N
theorem fk.toK{α β:Type}{m:α→Option β}{N:Nat}(h:fk m N)(hN:N≤1000000):aby m:=fun l h1 h2=>Nat.le_trans (h l h1 h2) hN
theorem fk.put{α β:Type}[DecidableEq α]{m:α→Option β}{N:Nat}(h:fk m N)(k:α)(v:β):fk (bw m k v) (N+1):=fun l h1 h2=>by
 have h3:=h (l.erase k) (h1.erase k) fun a ha=>by
   have ha2:=(List.Nodup.mem_erase_iff h1).1 ha
   have:=h2 a ha2.2
   unfold bw at this;rw [if_neg ha2.1] at this;exact this
 have:l.length≤(l.erase k).length+1:=by rw [List.length_erase];split<;>omega
 omega
theorem fk.del{α β:Type}[DecidableEq α]{m:α→Option β}{N:Nat}(h:fk m N)(k:α):fk (cT m k) N:=fun l h1 h2=>h l h1 fun a ha=>by
 have:=h2 a ha
 unfold cT at this
 split at this
 · cases this
 · exact this
theorem fk.mono{α β:Type}{m:α→Option β}{N K:Nat}(h:fk m N)(hN:N≤K):fk m K:=fun l h1 h2=>Nat.le_trans (h l h1 h2) hN
def cV(f:bk × Mem→Int→bk × Mem × Bool):bk × Mem→List Int→(bk × Mem) × Bool
 | x,[]=>(x,true)
 | x,k::ks=>if (f x k).2.2=true then cV f ((f x k).1,(f x k).2.1) ks else (((f x k).1,(f x k).2.1),false)
theorem ig{f:bk × Mem→Int→bk × Mem × Bool}{x:bk × Mem}{k:Int}{ks:List Int}(h:(f x k).2.2=true):cV f x (k::ks)=cV f ((f x k).1,(f x k).2.1) ks:=if_pos h
theorem oI{f:bk × Mem→Int→bk × Mem × Bool}{x:bk × Mem}{k:Int}{ks:List Int}(h:(f x k).2.2=false):cV f x (k::ks)=(((f x k).1,(f x k).2.1),false):=if_neg (by rw [h];decide)
def fB(t:Int)(x:bk × Mem)(m:Int):bk × Mem × Bool:=mkT x.1 x.2 t m
def gA(m:Int)(x:bk × Mem)(t:Int):bk × Mem × Bool:=mkT x.1 x.2 t m
theorem tH(s:bk)(M:Mem)(t m:Int):(mkT s M t m).1.mods=s.mods:=by unfold mkT;dsimp only;repeat (first | rfl | split)
theorem mV{s:bk}{M:Mem}{N:Nat}(h:fk s.at_ N)(t m:Int):fk (mkT s M t m).1.at_ (N+1):=by
 unfold mkT;dsimp only
 split
 · exact h.mono (by omega)
 · split
   · exact h.mono (by omega)
   · exact h.put _ _
theorem cS.write{M:Mem}(h:cS M)(t:Int)(b:List UInt8):cS (dZ M t b).1:=by
 unfold dZ
 split
 · exact h
 · split
   · rename_i x hx
     obtain ⟨h1,h2,h3,h4⟩:=fb hx
     have hl:=h.inv.len x h1
     exact h.upd h1 (gL (by omega))
   · exact h
theorem rI{s:bk}{M:Mem}(h:cS M)(t m:Int):cS (mkT s M t m).2.1:=by
 unfold mkT;dsimp only
 split
 · exact h
 · split
   · exact h.map _
   · exact (h.map _).write _ _
def abA (s:bk) (M:Mem) (t:Int) (x:bk × Mem) (e:Int):Prop :=
 (t<0∧x=(s,M)∧e=1)∨(0≤t∧(s.thr t).getD false=true∧x=(s,M)∧e=4) ∨
 (0 ≤ t∧(s.thr t).getD false=false∧∃ ks,dq s.mods ks∧ks.Pairwise (fun a b=>a<b) ∧
   (((cV (fB t) ({ s with thr:=bw s.thr t true },M) ks).2=true∧x=(cV (fB t) ({ s with thr:=bw s.thr t true },M) ks).1∧e=0) ∨
    ((cV (fB t) ({ s with thr:=bw s.thr t true },M) ks).2=false∧e=7∧∃ y ds,y=(cV (fB t) ({ s with thr:=bw s.thr t true },M) ks).1∧dq y.1.at_ ds∧ds.Pairwise jE∧x=lC y.1 y.2 t ds)))
theorem iX(b p mb tb ab:Nat)(s:bk)(hs:∀ k im,s.mods k=some im→gU im){A B:Nat}(hA:fk s.at_ A)(hB:fk s.mods B)(hAB:A+B≤1000000)(M:Mem)(hM:cS M)(t:Int) :
   Con Tryz.prog 18 [.pointer (some ⟨b,0,none⟩),.int .i64 t] [] (eo b p mb tb ab s M) fun r ps hp=>ps=[]∧∃ x e,abA s M t x e∧r=.int .i64 e∧hp=eo b p mb tb ab x.1 x.2:=by
 refine EN2 Tryz.func18 rfl (aSR (aA rfl (aNs (aSR (aM rfl (aU rfl (bd rfl rfl) (aNn ?_)))))))
 refine ah _ rfl (fun h1 => ?_) (fun h1 => ?_)
 ·skip
  refine aSR (aA rfl (aNn (aj (aK (FZ1 [0,1,2,3,4] Tryz.results18 rfl ?_)))))
  exact ⟨rfl,(s,M),1,.inl ⟨by simpa using h1,rfl,rfl⟩,rfl,rfl⟩
 ·skip
  have ht0:0≤t:=by simp at h1;omega
  refine ai (ak (aq (aSR (aM rfl (UN rfl rfl (UO 2 rfl rfl (UL 0 tk119 rfl rfl rfl rfl (aM rfl (aU rfl (gQ (k:=t) (v0:=false) 2 Tryz.underlying119 (keI) (by kernel_rfl) rfl rfl rfl) (aNn ?_))))))))))
  refine ah _ rfl (fun h2 => ?_) (fun h2 => ?_)
  ·skip
   refine aSR (aA rfl (aNn (aj (aK (FZ1 [0,1,2,3,4] Tryz.results18 rfl ?_)))))
   exact ⟨rfl,(s,M),4,.inr (.inl ⟨ht0,h2,rfl,rfl⟩),rfl,rfl⟩
  ·skip
   refine ai (ak (aSR (aM rfl (UN rfl rfl (UO 2 rfl rfl (UL 0 tk119 rfl rfl rfl rfl (aM rfl (aJ rfl (cO (k:=t) (v:=true) 2 Tryz.underlying119 (keI) rfl rfl rfl rfl (aHK ?_))))))))))
   refine aNs (aSR (aM rfl (UN rfl rfl (UO 1 rfl rfl (UL 0 tk118 rfl rfl rfl rfl (LT rfl (EC [] [] rfl (ye mb) ?_)))))))
   rintro _ _ _ ⟨rfl,bx2,rfl,rfl⟩
   refine aST ?_
   refine LF rfl (EC [0] [1] rfl (mj (by kernel_rfl) (aed mb bx2 s.mods) (hB.toK (by omega))) ?_)
   rintro r6 _ _ ⟨rfl,ks,hk,hlt,rfl⟩
   refine aST ?_
   have hkl:ks.length≤B:=hB ks hk.nd fun k h=>(hk.iff k).1 h
   refine aU rfl (dA 5 Tryz.underlying26 rfl rfl) (aM rfl (aNn (ao ?_)))
   refine aP [0,1,25,26,27] [] [0,1,2,3,4,5] (fun (q:Nat × (bk × Mem)) s'=>q.1≤ks.length∧cV (fB t) ({ s with thr:=bw s.thr t true },M) ks=cV (fB t) q.2 (ks.drop q.1)∧q.2.1.mods=s.mods∧cS q.2.2∧fk q.2.1.at_ (A+q.1)∧s'=⟨[(0,true,.pointer (some ⟨b,0,none⟩)),(1,true,.int .i64 t),(25,true,r6),(26,true,.int .i64 ks.length),(27,true,.int .i64 q.1)],[],eo b p mb tb ab q.2.1 q.2.2++[az r6 3 1 (ks.map gy)]⟩) (fun q=>ks.length-q.1) rfl (⟨(0,({ s with thr:=bw s.thr t true },M)),Nat.zero_le _,rfl,rfl,hM,hA,by rw [List.length_map];rfl⟩) ?_
   rintro ⟨j,x⟩ s' ⟨hj,hmk,hmo,hMx,hAx,rfl⟩
   dsimp only at hj hmk hmo hMx hAx
   refine aSR (aU rfl (bd rfl rfl) (aNs ?_))
   refine ah _ rfl (fun h3 => ?_) (fun h3 => ?_)
   ·skip
    have hj':j<ks.length:=by simpa using h3
    obtain ⟨k,hkj⟩:∃ k,ks[j]? = some k:=⟨ks[j]'hj',by simp⟩
    have hrow:(ks.map gy)[j]? = some (gy k):=by rw [List.getElem?_map,hkj];rfl
    have hdr:ks.drop j=k::ks.drop (j+1):=by rw [List.drop_eq_getElem_cons hj'];congr 1;rw [List.getElem?_eq_getElem hj'] at hkj;exact Option.some.inj hkj
    rw [hdr] at hmk
    refine ai (ak (aq (ao (aSR ?_))))
    refine aU rfl (bA 5 j el26 rfl rfl rfl rfl (by rw [List.length_map];exact hj')) ?_
    refine aU rfl (ba 5 j 0 tk3 rfl rfl hrow rfl rfl) (aA rfl (aNn (aSR (aM rfl (aM rfl (aM rfl (LF rfl (EC [] [0,1,2,3,4] rfl (qh b p mb tb ab x.1 (fun k im h=>hs k im (hmo ▸ h)) x.2 hMx t k) ?_))))))))
    rintro _ _ _ ⟨rfl,rfl,rfl⟩
    refine aST ?_
    refine aU rfl (bX rfl) (aNn ?_)
    refine ah _ rfl (fun h4 => ?_) (fun h4 => ?_)
    ·skip
     have hno:(mkT x.1 x.2 t k).2.2=false:=by simpa using h4
     have hmk2:cV (fB t) ({ s with thr:=bw s.thr t true },M) ks=(((mkT x.1 x.2 t k).1,(mkT x.1 x.2 t k).2.1),false):=hmk.trans (oI (f:=fB t) hno)
     refine aSR (aM rfl (aM rfl (LF rfl (EC [] [0,1,2,3,4] rfl (n9 b p mb tb ab (mkT x.1 x.2 t k).1 ((mV hAx t k).toK (by omega)) (mkT x.1 x.2 t k).2.1 (rI hMx t k) t) ?_))))
     rintro _ _ _ ⟨rfl,ds,hd,hdl,rfl⟩
     refine aST ?_
     refine aNn (aSR (aA rfl (aNn (aj (bF (aK (aK (bF (aK (FZ1 [0,1,2,3,4] Tryz.results18 rfl ?_))))))))))
     exact ⟨rfl,lC (mkT x.1 x.2 t k).1 (mkT x.1 x.2 t k).2.1 t ds,7,.inr (.inr ⟨ht0,by simpa using h2,ks,hk,hlt,.inr ⟨by rw [hmk2],rfl,((mkT x.1 x.2 t k).1,(mkT x.1 x.2 t k).2.1),ds,by rw [hmk2],hd,hdl,rfl⟩⟩),rfl,rfl⟩
    ·skip
     have hyes:(mkT x.1 x.2 t k).2.2=true:=by simpa using h4
     have hmk2:cV (fB t) ({ s with thr:=bw s.thr t true },M) ks=cV (fB t) ((mkT x.1 x.2 t k).1,(mkT x.1 x.2 t k).2.1) (ks.drop (j+1)):=hmk.trans (ig (f:=fB t) hyes)
     refine ai (bb (ak (ae (aU rfl (aO rfl rfl (by omega)) (aM rfl (aNn ?_))))))
     refine ⟨[0,1,25,26,27],[],[0,1,2,3,4,5],rfl,?_⟩
     refine ⟨(j+1,((mkT x.1 x.2 t k).1,(mkT x.1 x.2 t k).2.1)),⟨by omega,hmk2,(tH _ _ _ _).trans hmo,rI hMx t k,mV hAx t k,rfl⟩,by dsimp only;omega⟩
   ·skip
    have hdr:ks.drop j=[]:=List.drop_of_length_le (by simp at h3;omega)
    rw [hdr] at hmk
    refine aQ (aR (aR (aX (ak (aSR (aA rfl (aNn (aj (FZ1 [0,1,2,3,4] Tryz.results18 rfl ?_)))))))))
    exact ⟨rfl,x,0,.inr (.inr ⟨ht0,by simpa using h2,ks,hk,hlt,.inl ⟨by rw [hmk];rfl,by rw [hmk];rfl,rfl⟩⟩),rfl,rfl⟩
end Go.Proofs.YtfkcmbonmpcbfaaGreat

namespace Go.Proofs.YtfkcmbonmpcbfaaGreat
open Go.RowKit Go.Lp Go.Sy Go.Lv
theorem xe{α:Type}[DecidableEq α]{l:List α}{a:α} : (eB l a).getD false=true↔a∈l:=by unfold eB;by_cases h:a∈l<;>simp [h]
def oe(a b:bt):Bool:=decide (a.at_+a.size≤b.at_) || decide (b.at_+b.size≤a.at_)
theorem vr{a b:bt}(h:oe a b=true):oe b a=true:=by unfold oe at *;rw [Bool.or_comm];exact h
def i6:List bt→Bool
 | []=>true
 | a::l=>l.all (oe a) && i6 l
theorem lN:∀ {l:List bt},i6 l=true↔l.Pairwise fun a b=>oe a b=true
 | []=>by simp [i6]
 | a::l=>by rw [i6,Bool.and_eq_true,List.all_eq_true,List.pairwise_cons,lN]
def fh(s:bt):Bool := !decide (s.size≤0)
def nk(l:List bt):Bool:=i6 (l.filter fh)
def zO(q:List bt)(i:Nat)(a:bt):Bool:=decide ((i:Int)=0) || decide ((elt q ((i:Int)-1)).at_+(elt q ((i:Int)-1)).size≤a.at_)
theorem vN{l m:List bt}(h:l.Perm m):i6 l=i6 m:=by
 rw [Bool.eq_iff_iff,lN,lN]
 exact h.pairwise_iff fun h=>vr h
theorem nq:∀ {q:List bt},(∀ s∈q,fh s=true)→(q.Pairwise fun a b=>a.at_≤b.at_)→((∀ k a b,q[k]? = some a→q[k+1]? = some b→a.at_+a.size≤b.at_)↔i6 q=true)
 | [],_,_=>by simp [i6]
 | [a],_,_=>by simp [i6]
 | a :: b::q,hf,hs=>by
   have ih:=nq (q:=b::q) (fun s hs=>hf s (List.mem_cons_of_mem _ hs)) (List.pairwise_cons.1 hs).2
   have ha:¬ a.size≤0:=by have:=hf a (by simp);simpa [fh] using this
   have hb:¬ b.size≤0:=by have:=hf b (by simp);simpa [fh] using this
   rw [List.pairwise_cons] at hs
   have hab:=hs.1 b (by simp)
   have hbc:=(List.pairwise_cons.1 hs.2).1
   rw [i6,Bool.and_eq_true,← ih,List.all_eq_true]
   constructor
   · intro h
     have h0:=h 0 a b rfl rfl
     refine ⟨fun s hm => ?_,fun k x y hx hy=>h (k+1) x y (by simpa using hx) (by simpa using hy)⟩
     unfold oe
     rw [Bool.or_eq_true,decide_eq_true_eq]
     rcases List.mem_cons.1 hm with rfl | hm
     · exact .inl h0
     · have:=hbc s hm;left;omega
   · rintro ⟨h1,h2⟩ k x y hx hy
     cases k with
     | zero =>
       simp at hx hy;subst hx;subst hy
       have:=h1 b (by simp)
       unfold oe at this
       rw [Bool.or_eq_true,decide_eq_true_eq,decide_eq_true_eq] at this
       rcases this with h | h
       · exact h
       · omega
     | succ k=>exact h2 k x y (by simpa using hx) (by simpa using hy)
theorem sA{l q:List bt}(hp:q.Perm (l.filter fh))(hs:q.Pairwise fun a b=>¬ jO b.at_ a.at_<0):allI (zO q) 0 q=nk l:=by
 unfold nk
 rw [← vN hp,Bool.eq_iff_iff,gV,← nq (fun s h=>(List.mem_filter.1 (hp.mem_iff.1 h)).2) (hs.imp fun h=>by rw [kq] at h;omega)]
 constructor
 · intro h k a b ha hb
   have:=h (k+1) b hb
   have hk:=(List.getElem?_eq_some_iff.1 ha).1
   have he:elt q (((0+(k+1):Nat):Int)-1)=a:=by
     rw [show (((0+(k+1):Nat):Int)-1)=(k:Int) by omega]
     unfold elt;rw [List.getD_eq_getElem?_getD,Int.toNat_natCast,ha];rfl
   unfold zO at this
   rw [he,Bool.or_eq_true,decide_eq_true_eq,decide_eq_true_eq] at this
   rcases this with h | h
   · omega
   · exact h
 · intro h k b hb
   unfold zO
   rw [Bool.or_eq_true,decide_eq_true_eq,decide_eq_true_eq]
   cases k with
   | zero=>left;rfl
   | succ k =>
     right
     have hk:=(List.getElem?_eq_some_iff.1 hb).1
     have ha:q[k]? = some q[k]:=List.getElem?_eq_getElem (by omega)
     have he:elt q (((0+(k+1):Nat):Int)-1)=q[k]:=by
       rw [show (((0+(k+1):Nat):Int)-1)=(k:Int) by omega]
       unfold elt;rw [List.getD_eq_getElem?_getD,Int.toNat_natCast,ha];rfl
     rw [he];exact h k _ b ha hb
structure j7 (g:bt→Bool) (zs ys:List bt) (w r:Nat):Prop where
 ln:ys.length=zs.length
 wr:w<r
 rl:r≤zs.length
 kp:ys.take w=(zs.take r).filter fun a => !g a
 rs:ys.drop r=zs.drop r
section
variable {g:bt→Bool} {zs ys:List bt} {w r i:Nat} {a:bt}
theorem j7.start(ha:zs[i]? = some a)(hg:g a=true)(h:∀ b∈zs.take i,g b=false):j7 g zs zs i (i+1):=by
 have hi:=(List.getElem?_eq_some_iff.1 ha).1
 refine ⟨rfl,Nat.lt_succ_self _,hi,?_,rfl⟩
 rw [List.take_add_one,ha,Option.toList_some,List.filter_append,List.filter_eq_self.2 fun b hb=>by rw [h b hb];rfl]
 simp [hg]
theorem j7.get(h:j7 g zs ys w r)(hr:r<zs.length):ys[r]? = zs[r]? := by
 have:=congrArg (·[0]?) h.rs
 simpa [List.getElem?_drop] using this
theorem j7.keep(h:j7 g zs ys w r)(ha:zs[r]? = some a)(hg:g a=false):j7 g zs (ys.set w a) (w+1) (r+1):=by
 have hr:=(List.getElem?_eq_some_iff.1 ha).1
 have hln:=h.ln
 have hwr:=h.wr
 refine ⟨by rw [List.length_set];exact hln,by omega,hr,?_,?_⟩
 · rw [List.take_add_one,List.getElem?_set_self (by omega),List.take_set_of_le (Nat.le_refl _),h.kp,List.take_add_one,ha]
   simp [hg]
 · rw [List.drop_set_of_lt (by omega)]
   have:=congrArg (List.drop 1) h.rs
   rwa [List.drop_drop,List.drop_drop] at this
theorem j7.drop(h:j7 g zs ys w r)(ha:zs[r]? = some a)(hg:g a=true):j7 g zs ys w (r+1):=by
 have hr:=(List.getElem?_eq_some_iff.1 ha).1
 have hwr:=h.wr
 refine ⟨h.ln,by omega,hr,?_,?_⟩
 · rw [h.kp,List.take_add_one,ha];simp [hg]
 · have:=congrArg (List.drop 1) h.rs
   rwa [List.drop_drop,List.drop_drop] at this
theorem j7.all(h:j7 g zs ys w r)(hr:zs.length≤r):ys.take w=zs.filter fun a => !g a:=by rw [h.kp,List.take_of_length_le hr]
end

abbrev pV(p:Int × Int):Value:=.agg #[.int .i64 p.1,.int .i64 p.2]
def vQ(im:an)(k:Int):Int:=if k=1 then im.code else if k=2 then im.data else 0
def vP(im:an)(k:Int):Int:=if k=0 then im.code else if k=1 then im.data else if k=2 then im.zero else im.block
theorem aaP(im:an){k:Int}(h:0≤k∧k≤4):(bw (bw (bw (bw (bw (fun _=>none) 0 ((0:Int),im.code)) 1 (im.code,im.data)) 2 (im.data,im.zero)) 3 ((0:Int),im.block)) 4 ((0:Int),im.block) k).getD ((0:Int),(0:Int))=(vQ im k,vP im k):=by
 unfold bw vQ vP
 rcases (by omega:k=0∨k=1∨k=2∨k=3∨k=4) with rfl | rfl | rfl | rfl | rfl<;>simp
def kJ(x:bu):Bool:=((((((!gg x.kind 0 4) || (!ee x.sec)) || (!kH x.obj)) || (!decide ((x.digest.size:Int)=32))) || ((!decide ((x.form.size:Int)=0)) && (!decide ((x.form.size:Int)=32)))) || (!gg x.size 0 1048576)) || (!gg x.at_ 0 1048576)
def ac9(im:an)(x:bu):Bool:=(decide (vQ im x.kind≤x.at_) && decide (x.at_+x.size≤vP im x.kind)) && ((!decide (x.kind=0)) || decide (x.at_.tmod 8=0))
def jH(im:an)(x:bu):Bool:=(!kJ x) && ac9 im x
theorem my{x:bu}(h:kJ x=false):(0≤x.kind∧x.kind≤4)∧(0≤x.size∧x.size≤1048576)∧(0≤x.at_∧x.at_≤1048576):=by
 unfold kJ at h
 simp only [Bool.or_eq_false_iff,Bool.not_eq_false',km] at h
 exact ⟨h.1.1.1.1.1.1,h.1.2,h.2⟩
open Go.Proofs.Tryz
attribute [local irreducible] aL aB awp aC fwp Quiet
theorem s5(l:Sl bt)(hl:l.l.length≤1000000):Con Tryz.prog 246 [l.val] [ShF bt.row l] [] fun r ps hp=>ps=[]∧∃ (ad:Option Addr) (c:Nat),r=.slice ad l.l.length c∧hp=[az (.slice ad l.l.length c) 222 2 (l.l.map bt.row)]:=by
 refine EN1 Tryz.func246 rfl ?_
 refine gl (φ:=l.ad=none→l.l=[]) (fun w S fp hst => ?_) (fun hnil => ?_)
 · intro hn
   have hrep:er w S (.slice l.ad l.l.length l.cap) (.sl (l.l.map bt.row)):=hst.per _ (aF 0 rfl)
   rw [hn] at hrep
   generalize hrw:l.l.map bt.row=rows at hrep
   generalize l.l.length=m at hrep
   cases hrep with
   | e=>exact List.map_eq_nil_iff.1 hrw
 refine aSR (aA rfl (aNs (aSR (aM rfl (aU rfl (iH Tryz.underlying32 rfl) (aNn ?_))))))
 refine ah _ rfl (fun h1 => ?_) (fun h1 => ?_)
 ·skip
  have hl0:l.l=[]:=hnil (by simpa using h1)
  refine aq (dO 222 2 ?_)
  show awp _ _ _ _ ⟨_,_,[_]⟩
  refine ae (aA rfl (aNn (aj (aK (FZ1 [0] Tryz.results246 rfl ?_)))))
  exact ⟨rfl,none,0,by rw [hl0];rfl,by rw [hl0];rfl⟩
 ·skip
  refine ai (ak (aSR (LT rfl (j6 el32 rfl (fun v3_0=>(aHN ?_))))))
  refine aM rfl ?_
  refine aJ rfl (qN 0 el32 el32 rfl rfl rfl rfl (aF 0 rfl) ((fun r hr=>by obtain ⟨z,_,rfl⟩:=List.mem_map.1 hr;rfl)) (by show ([]:List (List D)).length+(l.l.map bt.row).length≤_;rw [List.length_map];exact Nat.le_trans (show 0+l.l.length≤1000000 by omega) (by decide)) (l.l.length) (by simp;try omega) (fun v3_2 c3_2 => ?_))
  refine aHK ?_
  refine aA rfl (aNn (aj (FZ1 [0] Tryz.results246 rfl ?_)))
  exact ⟨rfl,v3_2,c3_2,rfl,rfl⟩
theorem nY(a:bt):Con Tryz.prog 247 [a.val] [] [] fun r _ _=>r=.bool (!fh a):=by
 refine EN1 Tryz.func247 rfl (aSR (LT rfl (bC rfl rfl rfl (fun b0_0=>(aHN ?_)))))
 refine aA rfl (aNn (aSR (UO 1 rfl rfl (UL 0 tk3 rfl rfl rfl rfl (aU rfl (di rfl rfl) (aA rfl (aNn (aj (FZ1 [] Tryz.results247 rfl ?_)))))))))
 unfold fh;rw [Bool.not_not]
theorem yo(v:Value)(zs:List bt)(hz:zs.length≤1000000):Con Tryz.prog 300 [v,.func (.func 247) #[] #[]] [] [az v 222 2 (zs.map bt.row)]
   fun r ps hp=>ps=[]∧hp=[az v 222 2 (zs.map bt.row)]∧∃ z:Int,r=.int .i64 z∧((z = -1∧∀ b∈zs,(!fh b)=false)∨∃ (i:Nat) (a:bt),z=i∧zs[i]? = some a∧(!fh a)=true∧∀ b∈zs.take i,(!fh b)=false):=by
 refine EN2 Tryz.func300 rfl (aSR (aA rfl (aNs (aSR (aM rfl (aU rfl (dA 0 Tryz.underlying32 rfl rfl) (aM rfl (aNn (ao ?_)))))))))
 refine aP [0,1,7,8] [] [0] (fun (k:Nat) s=>(k≤zs.length∧∀ b∈zs.take k,(!fh b)=false)∧s=⟨[(0,true,v),(1,true,.func (.func 247) #[] #[]),(7,true,.int .i64 zs.length),(8,true,.int .i64 k)],[],[az v 222 2 (zs.map bt.row)]⟩) (fun k=>zs.length-k) rfl (⟨0,⟨Nat.zero_le _,fun b h=>by cases h⟩,by rw [List.length_map];rfl⟩) ?_
 rintro k s ⟨⟨hk,hpre⟩,rfl⟩
 refine aSR (aU rfl (bd rfl rfl) (aNs ?_))
 refine ah _ rfl (fun h1 => ?_) (fun h1 => ?_)
 ·skip
  have hk':k<zs.length:=by simpa using h1
  obtain ⟨a,ha⟩:∃ a,zs[k]? = some a:=⟨zs[k]'hk',by simp⟩
  refine ai (ak (aq (ao (aSR (aM rfl (aA rfl (aNn (aSR (aM rfl (aM rfl (aM rfl ?_)))))))))))
  refine aU rfl (bA 0 k el32 rfl rfl rfl rfl (by rw [List.length_map];exact hk')) ?_
  refine aU rfl (ba (u:=a.val) 0 k 0 tk222 rfl rfl (aH ha) rfl rfl) (aU rfl (fD (by kernel_rfl) rfl rfl (fun w S fp hst=>(nY a).quiet0 hst)) (aNn ?_))
  refine ah _ rfl (fun h2 => ?_) (fun h2 => ?_)
  ·skip
   refine aSR (aM rfl (aA rfl (aNn (aj (bF (aK (aK (bF (aK (FZ1 [0] Tryz.results300 rfl ?_))))))))))
   exact ⟨rfl,rfl,k,rfl,.inr ⟨k,a,rfl,ha,h2,hpre⟩⟩
  ·skip
   refine ai (bb (ak (ae (aU rfl (aO rfl rfl (by omega)) (aM rfl (aNn ?_))))))
   refine ⟨[0,1,7,8],[],[0],rfl,?_⟩
   refine ⟨k+1,⟨⟨by omega,fun b hb => ?_⟩,rfl⟩,by omega⟩
   rw [List.take_add_one,ha,Option.toList_some] at hb
   rcases List.mem_append.1 hb with h | h
   · exact hpre b h
   · rw [List.mem_singleton.1 h];exact h2
 ·skip
  refine aQ (aR (aR (aX (ak (aSR (aA rfl (aNn (aj (FZ1 [0] Tryz.results300 rfl ?_)))))))))
  exact ⟨rfl,rfl,-1,rfl,.inl ⟨rfl,fun b hb=>hpre b (by rw [List.take_of_length_le (by simp at h1;omega)];exact hb)⟩⟩
theorem ym(v:Value)(zs:List bt)(hz:zs.length≤1000000):Con Tryz.prog 245 [v,.func (.func 247) #[] #[]] [] [az v 222 2 (zs.map bt.row)]
   fun r ps hp=>ps=[]∧hp=[az r 222 2 ((zs.filter fh).map bt.row)]:=by
 have hff:(zs.filter fun a => !(!fh a))=zs.filter fh:=List.filter_congr fun a _=>Bool.not_not _
 refine EN2 Tryz.func245 rfl (aSR (aA rfl (aNn (aSR (aM rfl (aM rfl (LF rfl (EC [] [0] rfl (yo v zs hz) ?_))))))))
 rintro _ _ _ ⟨rfl,rfl,z,rfl,hres⟩
 refine aST ?_
 refine aA rfl (aNs (aSR (aM rfl (aU rfl (bp rfl rfl) (aNn ?_)))))
 refine ah _ rfl (fun h1 => ?_) (fun h1 => ?_)
 ·skip
  have hz1:z = -1:=by simpa using h1
  have hall:∀ b∈zs,(!fh b)=false:=by
    rcases hres with ⟨_,h⟩ | ⟨i,_,h,_⟩
    · exact h
    · omega
  refine aSR (aM rfl (aA rfl (aNn (aj (aK (FZ1 [0] Tryz.results245 rfl ?_))))))
  exact ⟨rfl,by rw [List.filter_eq_self.2 fun b hb=>by have:=hall b hb;simpa using this];rfl⟩
 ·skip
  have hz1:¬ z = -1:=by simpa using h1
  obtain ⟨i,a0,rfl,ha0,hg0,hpre⟩:=hres.resolve_left fun h=>hz1 h.1
  have hil:=(List.getElem?_eq_some_iff.1 ha0).1
  refine ai (ak (aq (aSR (aM rfl (aU rfl (aO rfl rfl (by omega)) (aA rfl (aNn (ao ?_))))))))
  refine dQ 0 rfl (by intro h;rw [List.map_eq_nil_iff] at h;rw [h] at hil;cases hil) (fun B cp hv hcp => ?_)
  rw [List.length_map] at hv hcp
  subst hv
  refine aP [0,1,5,6] [] [0] (fun (q:(Nat × Nat) × List bt) st=>j7 (fun a => !fh a) zs q.2 q.1.1 q.1.2∧st=⟨[(0,true,.slice (some ⟨B,0,none⟩) zs.length cp),(1,true,.func (.func 247) #[] #[]),(5,true,.int .i64 q.1.1),(6,true,.int .i64 q.1.2)],[],[az (.slice (some ⟨B,0,none⟩) zs.length cp) 222 2 (q.2.map bt.row)]⟩) (fun q=>zs.length-q.1.2) rfl (⟨((i,i+1),zs),j7.start ha0 hg0 hpre,rfl⟩) ?_
  rintro ⟨⟨w,r⟩,ys⟩ st ⟨hI,rfl⟩
  dsimp only at hI ⊢
  have hln:=hI.ln
  have hwr:=hI.wr
  have hrl:=hI.rl
  refine aq (aSR (aM rfl (aM rfl (aU rfl (aY Tryz.underlying32 rfl) (aU rfl (bd rfl rfl) (aNn ?_))))))
  refine ah _ rfl (fun h2 => ?_) (fun h2 => ?_)
  ·skip
   have hr':r<zs.length:=by simpa using h2
   obtain ⟨a,ha⟩:∃ a,zs[r]? = some a:=⟨_,List.getElem?_eq_getElem hr'⟩
   have hya:ys[r]? = some a:=(hI.get hr').trans ha
   obtain ⟨yw,hyw⟩:∃ yw,ys[w]? = some yw:=⟨_,List.getElem?_eq_getElem (by omega)⟩
   refine ai (ak (aq (ao (aSR (aM rfl (aM rfl ?_))))))
   refine aU rfl (bA 0 r el32 rfl rfl rfl rfl (by rw [List.length_map];omega)) ?_
   refine aU rfl (ba (u:=a.val) 0 r 0 tk222 rfl rfl (aH hya) rfl rfl) (LT rfl (bg (zs:=[.int .i64 0,.int .i64 0]) (by kernel_rfl) rfl (fun b7_4=>(aHN ?_))))
   refine aJ rfl (aV 1 tk222 rfl rfl rfl rfl (aHK ?_))
   refine aNn (aSR (aM rfl (UL 1 tk222 rfl rfl rfl rfl (aU rfl (fD (by kernel_rfl) rfl rfl (fun w S fp hst=>(nY a).quiet0 hst)) (aU rfl (bX rfl) (aNn ?_))))))
   refine ah _ rfl (fun h3 => ?_) (fun h3 => ?_)
   ·skip
    have hga:(!fh a)=false:=by simpa using h3
    refine aSR (aM rfl (aM rfl (UL 1 tk222 rfl rfl rfl rfl ?_)))
    refine aU rfl (bA 0 w el32 rfl rfl rfl rfl (by rw [List.length_map];omega)) ?_
    refine LF rfl (cA 0 w 0 tk222 rfl rfl rfl (aH hyw) rfl (.v rfl (.v rfl .nil)) rfl (by decide) (aHK ?_))
    refine aNn (ae (aM rfl (aU rfl (aO rfl rfl (by omega)) (aA rfl (bE (bb (ak (ae (aM rfl (aU rfl (aO rfl rfl (by omega)) (aA rfl (aNn ?_))))))))))))
    refine ⟨[0,1,5,6],[],[0],rfl,?_⟩
    refine ⟨((w+1,r+1),ys.set w a),⟨hI.keep ha hga,?_⟩,by dsimp only;omega⟩
    dsimp only
    rw [List.map_set];rfl
   ·skip
    have hga:(!fh a)=true:=by simpa using h3
    refine ai (bb (ak (ae (aM rfl (aU rfl (aO rfl rfl (by omega)) (aA rfl (aNn ?_)))))))
    refine ⟨[0,1,5,6],[],[0],rfl,?_⟩
    exact ⟨((w,r+1),ys),⟨hI.drop ha hga,rfl⟩,by dsimp only;omega⟩
  ·skip
   have hr':zs.length≤r:=by simp at h2;omega
   refine aQ (aR (aR (aX (ak (aSR (aM rfl (aM rfl ?_)))))))
   refine aU rfl (jx w (zs.length-w) (w*2) el32 rfl rfl rfl (by omega) hcp rfl (by rw [Nat.zero_add])) ?_
   refine LF rfl (oh (k:=w) 0 el32 (zs:=[.int .i64 0,.int .i64 0]) (by kernel_rfl) (by decide) rfl rfl rfl rfl rfl (by rw [List.length_map];exact hln) (by omega) ?_)
   refine aHK ?_
   refine aNn (aSR (aM rfl (aM rfl (aU rfl (fJ w el32 rfl rfl rfl (by omega) hcp) (aA rfl (aNn (aj (FZ1 [0] Tryz.results245 rfl ?_))))))))
   exact ⟨rfl,by rw [← hff,← hI.all hr',List.map_take];rfl⟩
abbrev kZ(z:Int):Value:=.int .i64 z
theorem kyI:eC Tryz.prog 3 kZ:=aau Tryz.underlying3
theorem yc(im:an)(x:bu)(hs:x.sec.size≤maxLen)(ho:x.obj.size≤maxLen):Con Tryz.prog 146 [im.val,x.val] [] [] fun r _ _=>r=.bool (jH im x):=by
 refine EN2 Tryz.func146 rfl (aSR (LT rfl (bC rfl rfl rfl (fun b0_0=>(aHN ?_)))))
 refine LT rfl (bC rfl rfl rfl (fun b0_1=>(aHN ?_)))
 refine aA rfl (aNs (aSR (UO 2 rfl rfl (UL 1 tk3 rfl rfl rfl rfl (aU rfl (Q0 rfl (cE _ _ _)) (aU rfl (bX rfl) (aM rfl (GO 1 rfl rfl rfl (GL 1 tk9 rfl rfl rfl rfl rfl (aG rfl rfl (fun hc=>Q0 (aD (aa rfl hc) rfl) (fH _ hs)) (aG rfl rfl (fun hc=>bX (aa rfl hc)) (aU rfl (cC rfl rfl (fun h=>gf rfl h)) (aM rfl (GO 0 rfl rfl rfl (GL 1 tk9 rfl rfl rfl rfl rfl ?_)))))))))))))))
 refine aG rfl rfl (fun hc=>Q0 (aD (aa rfl hc) rfl) (iz _ ho)) (aG rfl rfl (fun hc=>bX (aa rfl hc)) (aU rfl (cC rfl rfl (fun h=>gf rfl h)) (aM rfl (GO 5 rfl rfl rfl (GL 1 tk9 rfl rfl rfl rfl rfl (aG rfl rfl (fun hc=>eY Tryz.underlying9 (aa rfl hc)) (aG rfl rfl (fun hc=>dE (aa rfl hc) rfl) (aU rfl (cC rfl rfl (fun h=>gf rfl h)) (aM rfl (GO 6 rfl rfl rfl (GL 1 tk9 rfl rfl rfl rfl rfl (aG rfl rfl (fun hc=>eY Tryz.underlying9 (aa rfl hc)) (aG rfl rfl (fun hc=>dE (aa rfl hc) rfl) (aG rfl rfl (fun hc=>ax (aa rfl hc)) (GO 6 rfl rfl rfl ?_)))))))))))))))
 refine GL 1 tk9 rfl rfl rfl rfl rfl (aG rfl rfl (fun hc=>eY Tryz.underlying9 (aa rfl hc)) (aG rfl rfl (fun hc=>dE (aa rfl hc) rfl) (aG rfl rfl (fun hc=>aT (aa rfl hc) rfl (fun h=>gt hc h)) (aU rfl (cC rfl rfl (fun h=>gf rfl h)) (aM rfl (GO 4 rfl rfl rfl (GL 1 tk3 rfl rfl rfl rfl rfl (aG rfl rfl (fun hc=>dX (by kernel_rfl) (aD (aa rfl hc) (aD (aa rfl rfl) (aD (aa rfl rfl) rfl))) (fun w S fp hst=>(cE _ _ _).quiet0 hst)) (aG rfl rfl (fun hc=>bX (aa rfl hc)) (aU rfl (cC rfl rfl (fun h=>gf rfl h)) (aM rfl (GO 3 rfl rfl rfl (GL 1 tk3 rfl rfl rfl rfl rfl (aG rfl rfl (fun hc=>dX (by kernel_rfl) (aD (aa rfl hc) (aD (aa rfl rfl) (aD (aa rfl rfl) rfl))) (fun w S fp hst=>(cE _ _ _).quiet0 hst)) ?_))))))))))))))
 refine aG rfl rfl (fun hc=>bX (aa rfl hc)) (aU rfl (cC rfl rfl (fun h=>gf rfl h)) (aNn ?_))
 refine ah _ rfl (fun h1 => ?_) (fun h1 => ?_)
 ·skip
  have hbad:kJ x=true:=h1
  refine aSR (aA rfl (aNn (aj (aK (FZ1 [] Tryz.results146 rfl ?_)))))
  unfold jH;rw [hbad];rfl
 ·skip
  have hbad:kJ x=false:=h1
  obtain ⟨hk,hsz,hat⟩:=my hbad
  refine ai (ak (aSR (LT rfl (dU (kZ) (pV) rfl (fun b3_0=>(aHN ?_))))))
  refine UO 2 rfl rfl (UL 0 tk3 rfl rfl rfl rfl (aU rfl (iG (l:=[(0,.const (.int .i64 0)),(1,.tmp 55)]) (zs:=[.int .i64 0,.int .i64 0]) (sz:=1) (m:=2) (by kernel_rfl) (by kernel_rfl) rfl rfl rfl) (aJ rfl (gZ (k:=(0:Int)) (v:=((0:Int),im.code)) 2 Tryz.underlying346 (kyI) rfl rfl rfl rfl (aHK ?_)))))
  refine UO 2 rfl rfl (UL 0 tk3 rfl rfl rfl rfl (UO 3 rfl rfl (UL 0 tk3 rfl rfl rfl rfl (aU rfl (iG (l:=[(0,.tmp 58),(1,.tmp 60)]) (zs:=[.int .i64 0,.int .i64 0]) (sz:=1) (m:=2) (by kernel_rfl) (by kernel_rfl) rfl rfl rfl) (aJ rfl (gZ (k:=(1:Int)) (v:=(im.code,im.data)) 2 Tryz.underlying346 (kyI) rfl rfl rfl rfl (aHK ?_)))))))
  refine UO 3 rfl rfl (UL 0 tk3 rfl rfl rfl rfl (UO 4 rfl rfl (UL 0 tk3 rfl rfl rfl rfl (aU rfl (iG (l:=[(0,.tmp 63),(1,.tmp 65)]) (zs:=[.int .i64 0,.int .i64 0]) (sz:=1) (m:=2) (by kernel_rfl) (by kernel_rfl) rfl rfl rfl) (aJ rfl (gZ (k:=(2:Int)) (v:=(im.data,im.zero)) 2 Tryz.underlying346 (kyI) rfl rfl rfl rfl (aHK ?_)))))))
  refine UO 7 rfl rfl (UL 0 tk3 rfl rfl rfl rfl (aU rfl (iG (l:=[(0,.const (.int .i64 0)),(1,.tmp 68)]) (zs:=[.int .i64 0,.int .i64 0]) (sz:=1) (m:=2) (by kernel_rfl) (by kernel_rfl) rfl rfl rfl) (aJ rfl (gZ (k:=(3:Int)) (v:=((0:Int),im.block)) 2 Tryz.underlying346 (kyI) rfl rfl rfl rfl (aHK ?_)))))
  refine UO 7 rfl rfl (UL 0 tk3 rfl rfl rfl rfl (aU rfl (iG (l:=[(0,.const (.int .i64 0)),(1,.tmp 71)]) (zs:=[.int .i64 0,.int .i64 0]) (sz:=1) (m:=2) (by kernel_rfl) (by kernel_rfl) rfl rfl rfl) (aJ rfl (gZ (k:=(4:Int)) (v:=((0:Int),im.block)) 2 Tryz.underlying346 (kyI) rfl rfl rfl rfl (aHK ?_)))))
  refine aM rfl (aA rfl (aNn (aSR (aM rfl (UO 2 rfl rfl (UL 1 tk3 rfl rfl rfl rfl (aU rfl (gQ (k:=x.kind) (v0:=((0:Int),(0:Int))) 2 Tryz.underlying346 (kyI) (by kernel_rfl) rfl rfl rfl) (LT rfl (bg (zs:=[.int .i64 0,.int .i64 0]) (by kernel_rfl) rfl (fun b4_4=>(aHN ?_)))))))))))
  refine aJ rfl (aV 3 tk132 rfl rfl rfl rfl (aHK ?_))
  refine aNs ?_
  rw [aaP im hk]
  refine ae (UO 3 rfl rfl (UL 1 tk3 rfl rfl rfl rfl (aU rfl (kN (0) Tryz.underlying132 tk3 rfl rfl (rfl) (by decide)) (UL 3 tk3 rfl rfl rfl rfl (aU rfl (dY rfl rfl) (aM rfl (GO 3 rfl rfl rfl (GL 1 tk3 rfl rfl rfl rfl rfl (GO 4 rfl rfl rfl (GL 1 tk3 rfl rfl rfl rfl rfl ?_))))))))))
  refine aG rfl rfl (fun hc=>aO (aa rfl hc) (aa rfl hc) (by (first | omega | (simp at hc;omega)))) ?_
  refine aG rfl rfl (fun hc=>kN (1) Tryz.underlying132 tk3 rfl rfl (rfl) (by decide)) (GL 3 tk3 rfl rfl rfl rfl rfl (aG rfl rfl (fun hc=>di (aa rfl hc) (aa rfl hc)) (aU rfl (aT rfl rfl (fun h=>gt rfl h)) (aM rfl (GO 2 rfl rfl rfl (GL 1 tk3 rfl rfl rfl rfl rfl (aG rfl rfl (fun hc=>dE (aa rfl hc) rfl) (aG rfl rfl (fun hc=>ax (aa rfl hc)) (GO 3 rfl rfl rfl (GL 1 tk3 rfl rfl rfl rfl rfl (aG rfl rfl (fun hc=>mz (aa rfl hc) rfl (by decide)) ?_)))))))))))
  refine aG rfl rfl (fun hc=>bp (aa rfl hc) rfl) (aG rfl rfl (fun hc=>cC (aa rfl hc) rfl (fun h=>gf hc h)) (aU rfl (aT rfl rfl (fun h=>gt rfl h)) (aA rfl (aNn (aj (FZ1 [] Tryz.results146 rfl ?_))))))
  unfold jH;rw [hbad];rfl
end Go.Proofs.YtfkcmbonmpcbfaaGreat

namespace Go.Proofs.YtfkcmbonmpcbfaaGreat
open Go.RowKit Go.Lp Go.Sy Go.Lv
abbrev keyOf(x:bu):ByteArray × ByteArray:=(x.obj,x.sec)
abbrev gE(x:bu):bt:=⟨x.at_,x.size⟩
abbrev ui(s:Int):bt:=⟨s,8⟩
def pJ(l:List bu):List bt:=(l.filter fun x=>gz x.kind).map gE
def su(l:List bu):List bt:=(l.filter fun x => !gz x.kind).map gE
def jJ(im:an)(i:Nat)(s:Int):Bool := !((!instrB im.code s) || (decide ((i:Int)>0) && decide (elt im.stubs.l ((i:Int)-1)≥s)))
def mW(im:an):Bool:=(decide ((im.nodes.l.length:Int)>4096) || decide ((im.stubs.l.length:Int)>4096)) || !allI (fun _ x=>jH im x) 0 im.nodes.l
def lL(im:an):Bool:=(!mW im) &&
 (decide ((im.nodes.l.map keyOf).Nodup) && (allI (jJ im) 0 im.stubs.l && (nk (pJ im.nodes.l++im.stubs.l.map ui) && nk (su im.nodes.l))))
structure NdI (im:an) (k:Nat) (mem blk:List bt):Prop where
 le:k≤im.nodes.l.length
 m:mem=pJ (im.nodes.l.take k)
 b:blk=su (im.nodes.l.take k)
 nd:((im.nodes.l.take k).map keyOf).Nodup
section
variable {im:an} {k:Nat} {mem blk:List bt} {x:bu}
theorem yM(l:List bu)(x:bu):pJ (l++[x])=if gz x.kind=true then pJ l++[gE x] else pJ l:=by
 unfold pJ;rw [List.filter_append,List.map_append]
 by_cases h:gz x.kind=true
 · rw [if_pos h];simp [h]
 · rw [if_neg h];simp [h]
theorem xH(l:List bu)(x:bu):su (l++[x])=if gz x.kind=true then su l else su l++[gE x]:=by
 unfold su;rw [List.filter_append,List.map_append]
 by_cases h:gz x.kind=true
 · rw [if_pos h];simp [h]
 · rw [if_neg h];simp [h]
theorem NdI.len(h:NdI im k mem blk):mem.length≤k∧blk.length≤k:=by
 have hk:=h.le
 rw [h.m,h.b]
 unfold pJ su
 rw [List.length_map,List.length_map]
 have h1:=List.length_filter_le (fun x:bu=>gz x.kind) (im.nodes.l.take k)
 have h2:=List.length_filter_le (fun x:bu => !gz x.kind) (im.nodes.l.take k)
 rw [List.length_take] at h1 h2
 omega
theorem NdI.start(im:an):NdI im 0 [] []:=⟨Nat.zero_le _,rfl,rfl,List.nodup_nil⟩
theorem NdI.step(h:NdI im k mem blk)(hx:im.nodes.l[k]? = some x)(hn:keyOf x ∉ (im.nodes.l.take k).map keyOf):NdI im (k+1) (if gz x.kind=true then mem++[gE x] else mem) (if gz x.kind=true then blk else blk++[gE x]):=by
 have ht:im.nodes.l.take (k+1)=im.nodes.l.take k++[x]:=by rw [List.take_add_one,hx];rfl
 refine ⟨(List.getElem?_eq_some_iff.1 hx).1,?_,?_,?_⟩
 · rw [ht,yM,h.m]
 · rw [ht,xH,h.b]
 · rw [ht,List.map_append,List.nodup_append]
   exact ⟨h.nd,by simp,fun a ha b hb e=>hn (by rw [List.map_cons,List.map_nil,List.mem_singleton] at hb;rw [hb] at e;exact e ▸ ha)⟩
theorem NdI.dup(hx:im.nodes.l[k]? = some x)(hn:keyOf x∈(im.nodes.l.take k).map keyOf):¬ (im.nodes.l.map keyOf).Nodup:=fun h=>by
 have ht:im.nodes.l=im.nodes.l.take k++x::im.nodes.l.drop (k+1):=by
   obtain ⟨hk,he⟩:=List.getElem?_eq_some_iff.1 hx
   rw [← he,← List.drop_eq_getElem_cons hk,List.take_append_drop]
 rw [ht,List.map_append,List.nodup_append] at h
 exact h.2.2 _ hn (keyOf x) (by simp) rfl
end
def se(l:List bt):Prop:=∀ s∈l,(0≤s.at_∧s.at_≤1048576)∧0≤s.size∧s.size≤1048576
theorem yR{im:an}{x:bu}(h:jH im x=true):(0≤x.at_∧x.at_≤1048576)∧(0≤x.size∧x.size≤1048576):=by
 unfold jH at h
 rw [Bool.and_eq_true,Bool.not_eq_true'] at h
 have:=my h.1
 exact ⟨this.2.2,this.2.1⟩
theorem qB{im:an}(h:allI (fun _ x=>jH im x) 0 im.nodes.l=true){p:bu→Bool}{s:bt}(hs:s∈(im.nodes.l.filter p).map gE):(0≤s.at_∧s.at_≤1048576)∧0≤s.size∧s.size≤1048576:=by
 obtain ⟨x,hx,rfl⟩:=List.mem_map.1 hs
 obtain ⟨k,hk⟩:=List.mem_iff_getElem?.1 (List.mem_filter.1 hx).1
 have:=yR (gV.1 h k x hk)
 exact this
end Go.Proofs.YtfkcmbonmpcbfaaGreat

namespace Go.Proofs
open Go.Shelf
def Tryz.sortSp_ren:Go.Shelf.Ren:=⟨fun | 6=>248 | 15=>261 | 14=>301 | 28=>316 | 29=>317 | 20=>331 | 21=>332 | 22=>333 | 23=>334 | 24=>335 | 25=>336 | 26=>337 | 27=>338 | 46=>368 | 47=>351 | 48=>352 | 49=>369 | 50=>370 | 57=>380 | n=>n,fun | 22=>32 | 24=>222 | 25=>351 | 3=>3 | 39=>305 | 0=>0 | 53=>369 | 55=>301 | 4=>4 | 46=>388 | 45=>387 | 50=>65 | 5=>5 | 9=>9 | 66=>417 | 70=>165 | 76=>443 | 77=>444 | n=>n,fun | n=>n⟩
theorem Tryz.sortSp:Go.Proofs.SlLaysF0.n6 Tryz.prog Tryz.sortSp_ren := {
 mixed:=by kernel_rfl
 f6:=⟨Tryz.f248.name,by decide,Tryz.func248.trans (congrArg some (by kernel_rfl))⟩
 f14:=⟨Tryz.f301.name,by decide,Tryz.func301.trans (congrArg some (by kernel_rfl))⟩
 f15:=Tryz.func261.trans (congrArg some (by kernel_rfl))
 f20:=⟨Tryz.f331.name,by decide,Tryz.func331.trans (congrArg some (by kernel_rfl))⟩
 f21:=⟨Tryz.f332.name,by decide,Tryz.func332.trans (congrArg some (by kernel_rfl))⟩
 f22:=⟨Tryz.f333.name,by decide,Tryz.func333.trans (congrArg some (by kernel_rfl))⟩
 f23:=⟨Tryz.f334.name,by decide,Tryz.func334.trans (congrArg some (by kernel_rfl))⟩
 f24:=⟨Tryz.f335.name,by decide,Tryz.func335.trans (congrArg some (by kernel_rfl))⟩
 f25:=⟨Tryz.f336.name,by decide,Tryz.func336.trans (congrArg some (by kernel_rfl))⟩
 f26:=⟨Tryz.f337.name,by decide,Tryz.func337.trans (congrArg some (by kernel_rfl))⟩
 f27:=⟨Tryz.f338.name,by decide,Tryz.func338.trans (congrArg some (by kernel_rfl))⟩
 f28:=Tryz.func316.trans (congrArg some (by kernel_rfl))
 f29:=Tryz.func317.trans (congrArg some (by kernel_rfl))
 f46:=⟨Tryz.f368.name,by decide,Tryz.func368.trans (congrArg some (by kernel_rfl))⟩
 f47:=Tryz.func351.trans (congrArg some (by kernel_rfl))
 f48:=Tryz.func352.trans (congrArg some (by kernel_rfl))
 f49:=⟨Tryz.f369.name,by decide,Tryz.func369.trans (congrArg some (by kernel_rfl))⟩
 f50:=⟨Tryz.f370.name,by decide,Tryz.func370.trans (congrArg some (by kernel_rfl))⟩
 f57:=⟨Tryz.f380.name,by decide,Tryz.func380.trans (congrArg some (by kernel_rfl))⟩
 t0:=Tryz.underlying0
 a0:=Tryz.isAgg0
 z0:=Tryz.sizeOf0
 v0:=Tryz.zeroValue0
 t3:=Tryz.underlying3
 a3:=Tryz.isAgg3
 z3:=Tryz.sizeOf3
 v3:=Tryz.zeroValue3
 t4:=Tryz.underlying4
 a4:=Tryz.isAgg4
 z4:=Tryz.sizeOf4
 v4:=Tryz.zeroValue4
 t5:=Tryz.underlying5
 a5:=Tryz.isAgg5
 z5:=Tryz.sizeOf5
 v5:=Tryz.zeroValue5
 t9:=Tryz.underlying9
 a9:=Tryz.isAgg9
 z9:=Tryz.sizeOf9
 v9:=Tryz.zeroValue9
 t22:=Tryz.underlying32
 a22:=Tryz.isAgg32
 z22:=Tryz.sizeOf32
 v22:=Tryz.zeroValue32
 t25:=Tryz.underlying351
 a25:=Tryz.isAgg351
 z25:=Tryz.sizeOf351
 v25:=Tryz.zeroValue351
 t39:=Tryz.underlying305
 a39:=Tryz.isAgg305
 z39:=Tryz.sizeOf305
 v39:=Tryz.zeroValue305
 t45:=Tryz.underlying387
 a45:=Tryz.isAgg387
 z45:=Tryz.sizeOf387
 v45:=Tryz.zeroValue387
 t46:=Tryz.underlying388
 a46:=Tryz.isAgg388
 z46:=Tryz.sizeOf388
 v46:=Tryz.zeroValue388
 t50:=Tryz.underlying65
 a50:=Tryz.isAgg65
 z50:=Tryz.sizeOf65
 v50:=Tryz.zeroValue65
 t53:=Tryz.underlying369
 a53:=Tryz.isAgg369
 z53:=Tryz.sizeOf369
 v53:=Tryz.zeroValue369
 t55:=Tryz.underlying301
 a55:=Tryz.isAgg301
 z55:=Tryz.sizeOf301
 v55:=Tryz.zeroValue301
 t66:=Tryz.underlying417
 a66:=Tryz.isAgg417
 z66:=Tryz.sizeOf417
 v66:=Tryz.zeroValue417
 t70:=Tryz.underlying165
 a70:=Tryz.isAgg165
 z70:=Tryz.sizeOf165
 v70:=Tryz.zeroValue165
 t76:=Tryz.underlying443
 a76:=Tryz.isAgg443
 z76:=Tryz.sizeOf443
 v76:=Tryz.zeroValue443
 t77:=Tryz.underlying444
 a77:=Tryz.isAgg444
 z77:=Tryz.sizeOf444
 v77:=Tryz.zeroValue444 }
end Go.Proofs

