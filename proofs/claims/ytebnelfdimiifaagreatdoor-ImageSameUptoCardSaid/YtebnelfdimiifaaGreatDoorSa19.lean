/- Parts of the proof, in build order. No condition. -/
import Derived.Test.YtebnelfdimiifaaGreatDoorSa18
import Derived.Test.YtebnelfdimiifaaGreatDoorSa05
import Derived.Test.YtebnelfdimiifaaGreatDoorSa07
set_option linter.unusedSimpArgs false
set_option linter.unusedVariables false
set_option maxHeartbeats 1000000
set_option maxRecDepth 20000
namespace Go.Proofs.YtebnelfdimiifaaGreatDoor
open Go.RowKit Go.Lp Go.Sy Go.Lv
open Go.Proofs.Tryz
attribute [local irreducible] aL aB awp aC fwp Quiet
theorem uz(im:aD)(hlen:im.exports.l.length≤4096)(b bm b3:Nat)(s:List ByteArray)(i:Nat)(x:bQ)(hx:im.exports.l[i]? = some x) :
   Con Tryz.prog 83 [.int .i64 i,x.val,.pointer (some ⟨b,0,none⟩),.pointer (some ⟨b3,0,none⟩)] [cF (At b 0 im.row) (cF (At b3 0 [.v (.map (some bm))]) im.ok)] [fy bm jr vBo (fw s)]
     fun r ps hp=>ps=[]∧r=.bool (yJ im s i x).1∧hp=[fy bm jr vBo (fw (yJ im s i x).2)]:=by
 have hil:=(List.getElem?_eq_some_iff.1 hx).1
 refine EN4 Tryz.func83 rfl (aZ _ (Ent.left (.of (aH 0 rfl))) (aZ _ (Ent.left (Ent.right (.of (aH 1 rfl)))) (aZ _ (Ent.right (Ent.right (.of (aH 2 rfl)))) (fC (bQ.f_name (Ent.all (f:=bQ.ok) (aD.f_exportsA (.of (aH 0 rfl))) hx)) (fun hsn=>(fC (bQ.f_version (Ent.all (f:=bQ.ok) (aD.f_exportsA (.of (aH 0 rfl))) hx)) (fun hsv=>(aSR (LT rfl (cx rfl rfl rfl (fun b0_0=>(aHN ?_))))))))))))
 refine aA rfl (aNn (aSR (UO 4 rfl rfl (UD 4 tk3 2 rfl rfl rfl rfl (aA rfl (aNs ?_))))))
 refine jw (X := {z:Int // z=aad im x}) (fun q=>⟨[(0,true,.int .i64 i),(2,true,.pointer (some ⟨b,0,none⟩)),(3,true,.pointer (some ⟨b3,0,none⟩)),(5,true,.pointer (some ⟨b0_0,0,none⟩)),(7,true,.int .i64 q.1)],[im.ok,At b3 0 [.v (.map (some bm))],At b 0 im.row,cF (At b 0 im.row) (cF (At b3 0 [.v (.map (some bm))]) im.ok)],[fy bm jr vBo (fw s),Box b0_0 77 x.vs]⟩) ?_ ?_
 ·skip
  refine aSR (UO 3 rfl rfl (UL 1 tk3 rfl rfl rfl rfl (aU rfl (cA rfl rfl) (aNn ?_))))
  refine ao _ rfl (fun h1 => ?_) (fun h1 => ?_)
  ·skip
   refine aa (UO 7 rfl rfl (UD 7 tk3 2 rfl rfl rfl rfl (aA rfl (aNn ?_))))
   first
   | exact ⟨[0,2,3,5,7],[3,2,1,0],[0,1],⟨im.block,(if_pos (of_decide_eq_true h1)).symm⟩,rfl,rfl⟩
   | exact ⟨[0,2,3,5,7],[3,2,1,0],[0,1],⟨im.zero,(if_neg (of_decide_eq_false h1)).symm⟩,rfl,rfl⟩
  ·skip
   refine ax (an ?_)
   first
   | exact ⟨[0,2,3,5,7],[3,2,1,0],[0,1],⟨im.block,(if_pos (of_decide_eq_true h1)).symm⟩,rfl,rfl⟩
   | exact ⟨[0,2,3,5,7],[3,2,1,0],[0,1],⟨im.zero,(if_neg (of_decide_eq_false h1)).symm⟩,rfl,rfl⟩
 ·skip
  rintro ⟨_,rfl⟩
  refine ai ?_
  refine jw (X := {z:Unit // kQ im i x=false}) (fun _=>⟨[(0,true,.int .i64 i),(2,true,.pointer (some ⟨b,0,none⟩)),(3,true,.pointer (some ⟨b3,0,none⟩)),(5,true,.pointer (some ⟨b0_0,0,none⟩)),(7,true,.int .i64 (aad im x))],[im.ok,At b3 0 [.v (.map (some bm))],At b 0 im.row,cF (At b 0 im.row) (cF (At b3 0 [.v (.map (some bm))]) im.ok)],[fy bm jr vBo (fw s),Box b0_0 77 x.vs]⟩) ?_ ?_
  ·skip
   refine aSR (aM rfl (aU rfl (cN rfl rfl) (aNn ?_)))
   refine ao _ rfl (fun h2 => ?_) (fun h2 => ?_)
   ·skip
    refine aSR (UO 9 rfl rfl (UD 9 tk23 2 rfl rfl rfl rfl (aM rfl ?_)))
    refine aU rfl (cZ rfl rfl (by (simp at h2;omega))) ?_
    refine jo true rfl rfl (fun _=>bI Tryz.underlying23 tk77 rfl ((aD.f_exports (.of (aH 0 rfl)))) rfl (fJ (i:=(i:Int)-1) (by omega) (by simp at h2;omega)) ((Int.toNat_of_nonneg (by simp at h2;omega)).symm) rfl) (fun h=>absurd h (by decide)) (fun ⟨b5_4,o5_4⟩ => ?_)
    refine US 0 tk77 0 rfl rfl rfl rfl rfl (LT rfl (bJ (zs:=[.string .empty,.string .empty,.bool false,.int .i64 0,.int .i64 0,.int .i64 0]) (by kernel_rfl) rfl (fun b5_6=>(aHN ?_))))
    refine aW rfl (ba 2 tk77 rfl rfl rfl rfl (aHK ?_))
    refine aNs (DR [11] 13 (VO 0 0 rfl rfl rfl (VL 1 2 tk9 rfl rfl rfl rfl rfl (VO 2 0 rfl rfl rfl (VL 3 1 tk9 rfl rfl rfl rfl rfl (bV 4 rfl rfl (Q0 rfl (vX _ _)) (VO 5 1 rfl rfl rfl (VL 6 2 tk9 rfl rfl rfl rfl rfl (VO 7 1 rfl rfl rfl (VL 8 1 tk9 rfl rfl rfl rfl rfl (bV 9 rfl rfl (Q0 rfl (vX _ _)) (eQ (q:=true) 10 rfl (by kernel_rfl) rfl rfl (WL (zs:=[.int .i64 0]) el25 rfl rfl rfl (.more rfl (.v rfl .nil) (.more rfl (.v rfl .nil) .nil)) rfl rfl (fun v6_10=>(bST rfl ?_)))))))))))))))
    refine VE 11 rfl rfl (EC [] [3] rfl ((aeD (.slice v6_10 2 2) _ _).clean (φ:=fun r=>r=_) (fun _ _ _ h=>h)) ?_)
    rintro _ _ _ ⟨rfl,rfl,rfl⟩
    refine bST rfl ?_
    refine bV 12 rfl rfl (fH rfl rfl) (BN (an ?_))
    refine ao _ rfl (fun h3 => ?_) (fun h3 => ?_)
    ·skip
     refine aSR (aA rfl (aNn (az (bw (FZ1 [0] Tryz.results83 rfl ?_)))))
     have hb:kQ im i x=true:=by unfold kQ;rw [decide_eq_true (by simp at h2;omega)];exact h3
     unfold yJ;rw [if_pos hb];exact ⟨rfl,rfl,rfl⟩
    ·skip
     refine ax (an ?_)
     first
     | exact ⟨[0,2,3,5,7],[3,2,1,0],[0,1],⟨(),by unfold kQ;rw [decide_eq_false (by simp at h2;omega)];rfl⟩,rfl,rfl⟩
     | exact ⟨[0,2,3,5,7],[3,2,1,0],[0,1],⟨(),by unfold kQ;rw [decide_eq_true (by simp at h2;omega)];exact h3⟩,rfl,rfl⟩
   ·skip
    refine ax (an ?_)
    first
    | exact ⟨[0,2,3,5,7],[3,2,1,0],[0,1],⟨(),by unfold kQ;rw [decide_eq_false (by simp at h2;omega)];rfl⟩,rfl,rfl⟩
    | exact ⟨[0,2,3,5,7],[3,2,1,0],[0,1],⟨(),by unfold kQ;rw [decide_eq_true (by simp at h2;omega)];exact h3⟩,rfl,rfl⟩
  ·skip
   rintro ⟨_,hbad⟩
   refine ai ?_
   refine jw (X := {q:List ByteArray // ((p5 x=true∧(fw s x.name).getD false=false)∧q=s++[x.name])∨(p5 x=false∧q=s)}) (fun q=>⟨[(0,true,.int .i64 i),(2,true,.pointer (some ⟨b,0,none⟩)),(3,true,.pointer (some ⟨b3,0,none⟩)),(5,true,.pointer (some ⟨b0_0,0,none⟩)),(7,true,.int .i64 (aad im x))],[im.ok,At b3 0 [.v (.map (some bm))],At b 0 im.row,cF (At b 0 im.row) (cF (At b3 0 [.v (.map (some bm))]) im.ok)],[fy bm jr vBo (fw q.1),Box b0_0 77 x.vs]⟩) ?_ ?_
   ·skip
    refine aSR (UO 2 rfl rfl (UL 1 tk4 rfl rfl rfl rfl (aM rfl (GO 1 rfl rfl rfl (GL 1 tk9 rfl rfl rfl rfl rfl (aG rfl rfl (fun hc=>jm (ae rfl hc) rfl) (aU rfl (dp rfl rfl (fun h=>gf rfl h)) (aNn ?_))))))))
    refine ao _ rfl (fun h4 => ?_) (fun h4 => ?_)
    ·skip
     refine ai (aSR (UD 0 tk162 1 rfl rfl rfl rfl (UO 0 rfl rfl (UL 1 tk9 rfl rfl rfl rfl (aU rfl (mz (k:=x.name) (v0:=false) 0 Tryz.underlying162 (kyT) (by kernel_rfl) rfl rfl rfl) (aNn ?_))))))
     refine ao _ rfl (fun h5 => ?_) (fun h5 => ?_)
     ·skip
      refine aSR (aA rfl (aNn (az (bw (bw (FZ1 [0] Tryz.results83 rfl ?_))))))
      have hm:p5 x=true:=h4
      have hd:(fw s x.name).getD false=true:=h5
      unfold yJ;rw [if_neg (by rw [hbad];decide),if_pos hm,if_pos hd];exact ⟨rfl,rfl,rfl⟩
     ·skip
      refine ax (an (aa (UD 0 tk162 1 rfl rfl rfl rfl (UO 0 rfl rfl (UL 1 tk9 rfl rfl rfl rfl (aW rfl (fe (k:=x.name) (v:=true) 0 Tryz.underlying162 (kyT) rfl rfl rfl rfl (aHK ?_))))))))
      refine bP ?_
      rw [← ig]
      refine an ?_
      first
      | exact ⟨[0,2,3,5,7],[3,2,1,0],[0,1],⟨s,.inr ⟨h4,rfl⟩⟩,rfl,rfl⟩
      | exact ⟨[0,2,3,5,7],[3,2,1,0],[0,1],⟨s++[x.name],.inl ⟨⟨h4,h5⟩,rfl⟩⟩,rfl,rfl⟩
    ·skip
     refine ax (an ?_)
     first
     | exact ⟨[0,2,3,5,7],[3,2,1,0],[0,1],⟨s,.inr ⟨h4,rfl⟩⟩,rfl,rfl⟩
     | exact ⟨[0,2,3,5,7],[3,2,1,0],[0,1],⟨s++[x.name],.inl ⟨⟨h4,h5⟩,rfl⟩⟩,rfl,rfl⟩
   ·skip
    rintro ⟨s2,hs2⟩
    refine aSR (UO 0 rfl rfl (UL 1 tk9 rfl rfl rfl rfl (aU rfl (Q0 rfl (gF _ hsn)) (aM rfl (GO 1 rfl rfl rfl (GL 1 tk9 rfl rfl rfl rfl rfl (aG rfl rfl (fun hc=>Q0 (aK (ae rfl hc) rfl) (j5 _ hsv)) (aU rfl (bB rfl rfl (fun h=>gt rfl h)) (aM rfl (GO 3 rfl rfl rfl (GL 1 tk3 rfl rfl rfl rfl rfl (aG rfl rfl (fun hc=>fb (by kernel_rfl) (aK (ae rfl hc) (aK (ae rfl rfl) (aK (ae rfl rfl) rfl))) (fun w S fp hst=>(dt _ _ _).quiet0 hst)) (aU rfl (bB rfl rfl (fun h=>gt rfl h)) (aM rfl (GO 5 rfl rfl rfl ?_)))))))))))))))
    refine GL 1 tk3 rfl rfl rfl rfl rfl (aG rfl rfl (fun hc=>fH (ae rfl hc) rfl) (aU rfl (bB rfl rfl (fun h=>gt rfl h)) (aM rfl (GO 4 rfl rfl rfl (GL 1 tk3 rfl rfl rfl rfl rfl (aG rfl rfl (fun hc=>aT rfl) (aG rfl rfl (fun hc=>fb (by kernel_rfl) (aK (ae rfl hc) (aK (ae rfl rfl) (aK (ae rfl hc) rfl))) (fun w S fp hst=>(dt _ _ _).quiet0 hst)) (aU rfl (bB rfl rfl (fun h=>gt rfl h)) (aA rfl (aNn (az (FZ1 [0] Tryz.results83 rfl ?_))))))))))))
    unfold yJ;rw [if_neg (by rw [hbad];decide)]
    rcases hs2 with ⟨⟨hm,hd⟩,rfl⟩ | ⟨hm,rfl⟩
    · rw [if_pos hm,if_neg (by rw [hd];decide)];exact ⟨rfl,rfl,rfl⟩
    · rw [if_neg (by rw [hm];decide)];exact ⟨rfl,rfl,rfl⟩
theorem vZ(im:aD):Con Tryz.prog 27 [im.val] [im.ok] [] fun r _ _=>r=.bool (ri im):=by
 refine EN1 Tryz.func27 rfl (aSR (LT rfl (cx rfl rfl rfl (fun b0_0=>(aHN ?_)))))
 refine aA rfl (aNn (aSR (LT rfl (gi (jr) (vBo) rfl (fun b1_0=>(aHN ?_))))))
 refine LT rfl (bJ (zs:=[.map none]) (by kernel_rfl) rfl (fun b1_1=>(aHN ?_)))
 refine aW rfl (ba 2 tk162 rfl rfl rfl rfl (aHK ?_))
 refine aNs (bT 2 rfl rfl ?_)
 show awp _ _ _ _ ⟨_,At b1_1 0 [.v (.map (some b1_0))]::_,_⟩
 refine bT 0 rfl rfl ?_
 show awp _ _ _ _ ⟨_,At _ 0 _::_,_⟩
 refine aa (UO 9 rfl rfl (UD 9 tk23 0 rfl rfl rfl rfl (aU rfl (aX Tryz.underlying23 rfl) (aU rfl (eY rfl rfl) (aM rfl (GO 9 rfl rfl rfl (aG rfl rfl (fun hc=>bk (o:=9) tk23 (ae rfl hc) (.of (aH 0 rfl)) rfl) (aG rfl rfl (fun hc=>cq (l:=[.tmp 1,.tmp 3]) rfl) ?_))))))))
 refine sN (caps:=[]) [2,1,0] 1 (by kernel_rfl) _ rfl rfl (Nat.le_of_ble_eq_true rfl) (fun _=>rfl) (fun hc=>(aK (ae rfl hc) (aK (ae rfl hc) rfl))) (fun hc=>by rw [List.append_nil];exact (Con.clH (((ql im.exports 83 [.pointer (some ⟨b0_0,0,none⟩),.pointer (some ⟨b1_1,0,none⟩)] (cF (At b0_0 0 im.row) (cF (At b1_1 0 [.v (.map (some b1_0))]) im.ok)) (fun s=>fy b1_0 jr vBo (fw s)) (yJ im) [] (by kernel_rfl) (fun s i x hx=>uz im (by simp at hc;omega) b0_0 b1_0 b1_1 s i x hx)).pre2 (aD.f_exports (.of (aH 2 rfl))) (Ent.mk2 (.of (aH 0 rfl)) (Ent.mk2 (.of (aH 1 rfl)) (.of (aH 2 rfl)))))) (fun _ _ _ h=>h.2.1))) ?_
 refine aHK ?_
 refine aU rfl (bB rfl rfl (fun h=>gt rfl h)) (aA rfl (aNn (az (FZ1 [] Tryz.results27 rfl ?_))))
 rfl
abbrev afZ(b1 b2:Nat)(st:List (ByteArray × ByteArray) × List Int):List Res:=[fy b1 dM vBo (fw st.1),fy b2 kZ vBo (fw st.2)]
abbrev agS(im:aD)(b b1 b2 b3 b4:Nat):Per:=cF (At b 0 im.row) (cF (At b3 0 [.v (.map (some b1))]) (cF (At b4 0 [.v (.map (some b2))]) im.ok))
theorem uC(im:aD)(hS:fZ im)(hlen:im.imports.l.length≤4096)(hsl:im.slots.l.length=im.imports.l.length)(b b1 b2 b3 b4:Nat)(st:List (ByteArray × ByteArray) × List Int)(i:Nat)(x:b7)(hx:im.imports.l[i]? = some x) :
   Con Tryz.prog 88 [.int .i64 i,x.val,.pointer (some ⟨b,0,none⟩),.pointer (some ⟨b3,0,none⟩),.pointer (some ⟨b4,0,none⟩)] [agS im b b1 b2 b3 b4] (afZ b1 b2 st)
     fun r ps hp=>ps=[]∧r=.bool (yM im st i x).1∧hp=afZ b1 b2 (yM im st i x).2:=by
 have hil:=(List.getElem?_eq_some_iff.1 hx).1
 have hc0:=hS.c0
 have hcd:=hS.cd
 have hdz:=hS.dz
 have hzm:=hS.zm
 have hs:im.slots.l[i]? = some (nS im i):=dU (by omega)
 refine EN5 Tryz.func88 rfl (aZ _ (Ent.left (.of (aH 0 rfl))) (aZ _ (Ent.left (Ent.right (.of (aH 1 rfl)))) (aZ _ (Ent.left (Ent.right (Ent.right (.of (aH 2 rfl))))) (aZ _ (Ent.right (Ent.right (Ent.right (.of (aH 3 rfl))))) (fC (b7.f_name (Ent.all (f:=b7.ok) (aD.f_importsA (.of (aH 0 rfl))) hx)) (fun hsn=>(fC (b7.f_version (Ent.all (f:=b7.ok) (aD.f_importsA (.of (aH 0 rfl))) hx)) (fun hsv=>(aSR (LT rfl (cx rfl rfl rfl (fun b0_0=>(aHN ?_)))))))))))))
 refine aA rfl (aNs (DC [11] [11] [] 13 (CF 0 rfl rfl rfl (qFA (off:=0) rfl) (CQ 1 rfl rfl rfl (bj 2 tk9 rfl rfl rfl) (CF 2 rfl rfl rfl (qFA (off:=1) rfl) (CQ 3 rfl rfl rfl (bj 2 tk9 rfl rfl rfl) (CF 4 rfl rfl rfl (my (l:=[(0,.tmp 11),(1,.tmp 13)]) (zs:=[.string .empty,.string .empty]) (sz:=1) (m:=2) (by kernel_rfl) (by kernel_rfl) rfl rfl rfl) (CF 5 rfl rfl rfl (qFA (off:=11) rfl) (CF 6 rfl rfl rfl (bk (o:=11) tk25 rfl (.of (aH 3 rfl)) rfl) (CF 7 rfl rfl rfl (aT rfl) (vk 8 rfl (by kernel_rfl) rfl rfl (eX Tryz.underlying25 tk3 rfl ((aD.f_slots (.of (aH 0 rfl)))) rfl (aI hs) rfl rfl) (fun ⟨b1_8,o1_8⟩=>(CF 9 rfl rfl rfl (bk (o:=0) tk3 rfl (.of (aH 0 rfl)) rfl) ?_)))))))))))))
 refine dg 10 [] (by kernel_rfl) (cj ?_ cM)
 refine dA 10 rfl rfl (Eff.x (id (bJ (zs:=[.string .empty,.string .empty]) (by kernel_rfl) rfl (fun b1_10=>(CST ?_)))))
 refine dg 11 [] (by kernel_rfl) (cj ?_ cM)
 refine dA 11 rfl rfl (Eff.wild (q:=false) (id (ba 3 tk157 rfl rfl rfl rfl (CST ?_))))
 refine CF 12 rfl rfl rfl (bo rfl) (gb (by kernel_rfl) (an (ai (aSR (UD 0 tk156 3 rfl rfl rfl rfl (UL 3 tk157 rfl rfl rfl rfl (aU rfl (mz (k:=(x.name,x.version)) (v0:=false) 0 Tryz.underlying156 (kyP) (by kernel_rfl) rfl rfl rfl) (aM rfl (aG rfl rfl (fun hc=>aT rfl) (aG rfl rfl (fun hc=>fI (ae rfl hc) rfl) (aG rfl rfl (fun hc=>aT (ae rfl hc)) (aG rfl rfl (fun hc=>bk (o:=0) tk167 rfl (.of (aH 2 rfl)) rfl) (aG rfl rfl (fun hc=>aT rfl) (aG rfl rfl (fun hc=>mz (k:=nS im i) (v0:=false) 1 Tryz.underlying167 (kyI) (by kernel_rfl) (ae rfl hc) (ae rfl hc) rfl) ?_))))))))))))))
 refine aG rfl rfl (fun hc=>aT (ae rfl hc)) (aG rfl rfl (fun hc=>aT rfl) (GO 2 rfl rfl rfl (aG rfl rfl (fun hc=>bk (o:=2) tk3 (ae rfl hc) (.of (aH 4 rfl)) rfl) (GO 3 rfl rfl rfl (aG rfl rfl (fun hc=>bk (o:=3) tk3 (ae rfl hc) (.of (aH 4 rfl)) rfl) ?_)))))
 refine aG rfl rfl (fun hc=>cZ (ae rfl hc) rfl (by (first | omega | (simp at hc;omega)))) ?_
 refine aG rfl rfl (fun hc=>fb (by kernel_rfl) (aK (ae rfl hc) (aK (ae rfl hc) (aK (ae rfl hc) rfl))) (fun w S fp hst=>(dt _ _ _).quiet0 hst)) (aG rfl rfl (fun hc=>dO (ae rfl hc)) (aG rfl rfl (fun hc=>dp (ae rfl hc) rfl (fun h=>gf hc h)) (aG rfl rfl (fun hc=>aT (ae rfl hc)) (aG rfl rfl (fun hc=>aT rfl) (aG rfl rfl (fun hc=>fl (ae rfl hc) rfl (by decide)) (aG rfl rfl (fun hc=>fI (ae rfl hc) rfl) (aG rfl rfl (fun hc=>dp (ae rfl hc) rfl (fun h=>gf hc h)) (aG rfl rfl (fun hc=>bB (ae rfl hc) rfl (fun h=>gt hc h)) (aU rfl (dp rfl rfl (fun h=>gf rfl h)) (aNn ?_))))))))))
 refine ao _ rfl (fun h1 => ?_) (fun h1 => ?_)
 ·skip
  refine aSR (aA rfl (aNn (az (bw (FZ1 [0,1] Tryz.results88 rfl ?_)))))
  have hb:yL im st i x=true:=h1
  unfold yM;rw [if_pos hb];exact ⟨rfl,rfl,rfl⟩
 ·skip
  have hb:yL im st i x=false:=h1
  refine ax (an (ai (DC [4,5] [] [] 6 (CF 0 rfl rfl rfl (bk (o:=0) tk156 rfl (.of (aH 3 rfl)) rfl) (CQ 1 rfl rfl rfl (bj 3 tk157 rfl rfl rfl) (CF 2 rfl rfl rfl (bk (o:=0) tk167 rfl (.of (aH 2 rfl)) rfl) (CF 3 rfl rfl rfl (aT rfl) ?_)))))))
  refine dg 4 [] (by kernel_rfl) (cj ?_ cM)
  refine dA 4 rfl rfl (Eff.framed (q:=false) [0] rfl rfl afs (id (fe (k:=(x.name,x.version)) (v:=true) 0 Tryz.underlying156 (kyP) rfl rfl rfl rfl (zW (CST ?_)))))
  refine dg 5 [] (by kernel_rfl) (cj ?_ cM)
  refine dA 5 rfl rfl (Eff.framed (q:=false) [1] rfl rfl afs (id (fe (k:=nS im i) (v:=true) 0 Tryz.underlying167 (kyI) rfl rfl rfl rfl (zW (CST ?_)))))
  refine gb (by kernel_rfl) (an (aSR (UO 0 rfl rfl (UL 2 tk9 rfl rfl rfl rfl (aU rfl (Q0 rfl (gF _ hsn)) (aM rfl (GO 1 rfl rfl rfl (GL 2 tk9 rfl rfl rfl rfl rfl (aG rfl rfl (fun hc=>Q0 (aK (ae rfl hc) rfl) (j5 _ hsv)) (aU rfl (bB rfl rfl (fun h=>gt rfl h)) (aM rfl (GO 2 rfl rfl rfl (GL 2 tk3 rfl rfl rfl rfl rfl (aG rfl rfl (fun hc=>fb (by kernel_rfl) (aK (ae rfl hc) (aK (ae rfl rfl) (aK (ae rfl rfl) rfl))) (fun w S fp hst=>(dt _ _ _).quiet0 hst)) ?_))))))))))))))
  refine aU rfl (bB rfl rfl (fun h=>gt rfl h)) (aA rfl (aNn (az (FZ1 [0,1] Tryz.results88 rfl ?_))))
  unfold yM;rw [if_neg (by rw [hb];decide)]
  refine ⟨rfl,rfl,?_⟩
  show _=[fy b1 dM vBo (fw (st.1++[af0 x])),fy b2 kZ vBo (fw (st.2++[nS im i]))]
  rw [ig,ig];rfl
theorem we(im:aD)(hS:fZ im):Con Tryz.prog 28 [im.val] [im.ok] [] fun r _ _=>r=.bool (iT im):=by
 refine EN1 Tryz.func28 rfl (aSR (LT rfl (cx rfl rfl rfl (fun b0_0=>(aHN ?_)))))
 refine aA rfl (aNs (ai (bT 0 rfl rfl ?_)))
 show awp _ _ _ _ ⟨_,At _ 0 _::_,_⟩
 refine aa (UO 10 rfl rfl (UD 10 tk24 0 rfl rfl rfl rfl (aU rfl (aX Tryz.underlying24 rfl) (aU rfl (cN rfl rfl) (aM rfl (GO 11 rfl rfl rfl (aG rfl rfl (fun hc=>bk (o:=11) tk25 (ae rfl hc) (.of (aH 0 rfl)) rfl) (aG rfl rfl (fun hc=>aX Tryz.underlying25 (ae rfl hc)) (GO 10 rfl rfl rfl (aG rfl rfl (fun hc=>bk (o:=10) tk24 (ae rfl hc) (.of (aH 0 rfl)) rfl) (aG rfl rfl (fun hc=>aX Tryz.underlying24 (ae rfl hc)) (aG rfl rfl (fun hc=>fI (ae rfl hc) (ae rfl hc)) (aU rfl (dp rfl rfl (fun h=>gf rfl h)) (aNn ?_))))))))))))))
 refine ao _ rfl (fun h1 => ?_) (fun h1 => ?_)
 ·skip
  refine aSR (aA rfl (aNn (az (bw (FZ1 [] Tryz.results28 rfl ?_)))))
  have hh:wO im=true:=h1
  unfold iT;rw [if_pos hh]
 ·skip
  have hh:wO im=false:=h1
  have hh2:im.imports.l.length≤4096∧im.slots.l.length=im.imports.l.length:=by
    unfold wO at hh
    simp only [Bool.or_eq_false_iff,Bool.not_eq_false',decide_eq_false_iff_not,decide_eq_true_eq] at hh
    omega
  refine ax (an (aSR (LT rfl (gi (dM) (vBo) rfl (fun b3_0=>(aHN ?_))))))
  refine LT rfl (bJ (zs:=[.map none]) (by kernel_rfl) rfl (fun b3_1=>(aHN ?_)))
  refine aW rfl (ba 2 tk156 rfl rfl rfl rfl (aHK ?_))
  refine aNn (aSR (LT rfl (gi (kZ) (vBo) rfl (fun b4_0=>(aHN ?_)))))
  refine LT rfl (bJ (zs:=[.map none]) (by kernel_rfl) rfl (fun b4_1=>(aHN ?_)))
  refine aW rfl (ba 4 tk167 rfl rfl rfl rfl (aHK ?_))
  refine aNs (bT 2 rfl rfl (bT 4 rfl rfl ?_))
  show awp _ _ _ _ ⟨_,At b4_1 0 [.v (.map (some b4_0))]::At b3_1 0 [.v (.map (some b3_0))]::_,_⟩
  refine aa (UO 10 rfl rfl (UD 10 tk24 2 rfl rfl rfl rfl (aU rfl (cq (l:=[.tmp 1,.tmp 3,.tmp 4]) rfl) ?_)))
  refine LF rfl (EC [1,2,3,0] [1,3] rfl (Con.clH (aeC (R:=fun r _ _=>r=.bool (fU (yM im) ([],[]) 0 im.imports.l).1) (((qo im.imports 88 [.pointer (some ⟨b0_0,0,none⟩),.pointer (some ⟨b3_1,0,none⟩),.pointer (some ⟨b4_1,0,none⟩)] (agS im b0_0 b3_0 b4_0 b3_1 b4_1) (fun st=>Bun (afZ b3_0 b4_0 st)) (yM im) ([],[]) (by kernel_rfl) (fun st i x hx=>(aey (uC im hS hh2.1 hh2.2 b0_0 b3_0 b4_0 b3_1 b4_1 st i x hx)).post fun _ _ _ ⟨_,h1,h2,h3,h4⟩=>⟨h2,h3,by rw [h1,h4]⟩)).pre2 (aD.f_imports (.of (aH 3 rfl))) (Ent.mk2 (.of (aH 0 rfl)) (Ent.mk2 (.of (aH 1 rfl)) (Ent.mk2 (.of (aH 2 rfl)) (.of (aH 3 rfl)))))).post fun r ps' hp' ⟨_,h2,h3⟩=>⟨_,h3,h2⟩)) (fun _ _ _ h=>h)) ?_)
  rintro _ _ _ ⟨rfl,rfl,rfl⟩
  refine aST ?_
  refine aA rfl (aNn (az (FZ1 [] Tryz.results28 rfl ?_)))
  unfold iT;rw [if_neg (by rw [hh];decide)]
theorem acG (im:aD) (hS:fZ im) (hsl:im.slots.l.length=im.imports.l.length):Con Tryz.prog 29 [im.val] [im.ok] [] fun r _ _=>r=.bool (mY im):=by
 have hc0:=hS.c0
 have hcd:=hS.cd
 have hdz:=hS.dz
 have hzm:=hS.zm
 obtain ⟨w0,hw0⟩:∃ w0,fU (ij im) (0,0) 0 im.dyns.l=w0:=⟨_,rfl⟩
 refine EN1 Tryz.func29 rfl (bS (aD.f_dyns (.of (aH 0 rfl))) (fun hdl=>(bS (aD.f_slots (.of (aH 0 rfl))) (fun hsll=>(bS (aD.f_imports (.of (aH 0 rfl))) (fun hill=>(aSR (LT rfl (cx rfl rfl rfl (fun b0_0=>(aHN ?_)))))))))))
 refine aA rfl (aNn (aSR (aA rfl (aA rfl (bP (an (ai (ai (bT 0 rfl rfl ?_)))))))))
 show awp _ _ _ _ ⟨_,At _ 0 _::_,_⟩
 refine aa (UO 13 rfl rfl (UD 13 tk26 0 rfl rfl rfl rfl (aU rfl (aX Tryz.underlying26 rfl) (aM rfl (aNn (aq (aP [1,3,4,10,11,12] [1,0] [] (fun (q:Nat × (Int × Int)) st=>(q.1≤im.dyns.l.length∧fU (ij im) q.2 q.1 (im.dyns.l.drop q.1)=w0∧(0≤q.2.1∧q.2.1≤1048576)∧0≤q.2.2∧q.2.2≤q.1)∧st=⟨[(1,true,.pointer (some ⟨b0_0,0,none⟩)),(3,true,.int .i64 q.2.1),(4,true,.int .i64 q.2.2),(10,true,im.dyns.val),(11,true,.int .i64 im.dyns.l.length),(12,true,.int .i64 q.1)],[At b0_0 0 im.row,im.ok],[]⟩) (fun q=>im.dyns.l.length-q.1) rfl (⟨(0,(0,0)),⟨Nat.zero_le _,hw0,⟨by decide,by decide⟩,by decide,by decide⟩,rfl⟩) ?_)))))))
 rintro ⟨k,e,n⟩ st ⟨⟨hk,hw,⟨he0,he1⟩,hn0,hn1⟩,rfl⟩
 dsimp only at hk hw he0 he1 hn0 hn1 ⊢
 refine aSR (aU rfl (bC rfl rfl) (aNs ?_))
 refine ao _ rfl (fun h1 => ?_) (fun h1 => ?_)
 ·skip
  have hk':k<im.dyns.l.length:=by simpa using h1
  obtain ⟨x,hx⟩:∃ x,im.dyns.l[k]? = some x:=⟨_,List.getElem?_eq_getElem hk'⟩
  rw [pW (ij im) hx] at hw
  have hwd:=abw x.kind
  refine ax (an (ai (aq (aSR (jo true rfl rfl (fun _=>bI Tryz.underlying26 tk75 rfl ((aD.f_dyns (.of (aH 1 rfl)))) rfl (aI hx) rfl rfl) (fun h=>absurd h (by decide)) (fun ⟨b4_0,o4_0⟩=>(US 0 tk75 0 rfl rfl rfl rfl rfl (LT rfl (bJ (zs:=[.int .i64 0,.int .i64 0,.int .i64 0,.int .i64 0]) (by kernel_rfl) rfl (fun b4_2=>(aHN ?_)))))))))))
  refine aW rfl (ba 0 tk75 rfl rfl rfl rfl (aHK ?_))
  refine aNs (ai (DR [] 27 (VO 0 1 rfl rfl rfl (VL 1 0 tk3 rfl rfl rfl rfl rfl (bV 2 rfl rfl (Q0 rfl (dt _ _ _)) (bV 3 rfl rfl (dO rfl) (VM 4 rfl rfl (bW 5 rfl rfl rfl (fun hc=>qFA (off:=0) rfl) (bW 6 rfl rfl rfl (fun hc=>bj 0 tk3 (ae rfl hc) rfl rfl) (bW 7 rfl rfl rfl (fun hc=>aT rfl) (bW 8 rfl rfl rfl (fun hc=>qFA (off:=3) rfl) (bW 9 rfl rfl rfl (fun hc=>bk (o:=3) tk3 (ae rfl hc) (.of (aH 1 rfl)) rfl) (bW 10 rfl rfl rfl (fun hc=>qFA (off:=1) rfl) (bW 11 rfl rfl rfl (fun hc=>bj 0 tk3 (ae rfl hc) rfl rfl) (bW 12 rfl rfl rfl (fun hc=>Q0 (aK (ae rfl hc) rfl) (qN _)) ?_)))))))))))))))
  refine bW 13 rfl rfl rfl (fun hc=>cZ (ae rfl hc) (ae rfl hc) (by (first | omega | (simp at hc;omega)))) ?_
  refine bW 14 rfl rfl rfl (fun hc=>fb (by kernel_rfl) (aK (ae rfl hc) (aK (ae rfl hc) (aK (ae rfl hc) rfl))) (fun w S fp hst=>(dt _ _ _).quiet0 hst)) (bW 15 rfl rfl rfl (fun hc=>dO (ae rfl hc)) (bV 16 rfl rfl (dp rfl rfl (fun h=>gf rfl h)) (VM 17 rfl rfl (bW 18 rfl rfl rfl (fun hc=>qFA (off:=2) rfl) (bW 19 rfl rfl rfl (fun hc=>bj 0 tk3 (ae rfl hc) rfl rfl) (bW 20 rfl rfl rfl (fun hc=>qFA (off:=10) rfl) (bW 21 rfl rfl rfl (fun hc=>bk (o:=10) tk24 (ae rfl hc) (.of (aH 1 rfl)) rfl) (bW 22 rfl rfl rfl (fun hc=>aX Tryz.underlying24 (ae rfl hc)) ?_))))))))
  refine bW 23 rfl rfl rfl (fun hc=>cZ (ae rfl hc) rfl (by (first | omega | (simp at hc;omega)))) ?_
  refine bW 24 rfl rfl rfl (fun hc=>fb (by kernel_rfl) (aK (ae rfl hc) (aK (ae rfl rfl) (aK (ae rfl hc) rfl))) (fun w S fp hst=>(dt _ _ _).quiet0 hst)) (bW 25 rfl rfl rfl (fun hc=>dO (ae rfl hc)) (bV 26 rfl rfl (dp rfl rfl (fun h=>gf rfl h)) (BN (an ?_))))
  refine ao _ rfl (fun h2 => ?_) (fun h2 => ?_)
  ·skip
   have hb:q8 im e x=true:=h2
   have hd:ij im (e,n) k x=(false,(e,n)):=by unfold ij;rw [if_pos hb]
   refine aSR (aA rfl (aNn (az (bw (cH (bw (bw (cH (bw (FZ1 [] Tryz.results29 rfl ?_))))))))))
   rw [hd] at hw
   unfold mY;rw [hw0,← hw];rfl
  ·skip
   have hb:q8 im e x=false:=h2
   obtain ⟨hkr,har,hir⟩:=yD hb
   refine ax (an (ai (DR [] 7 (VO 0 0 rfl rfl rfl (VL 1 0 tk3 rfl rfl rfl rfl rfl (VO 2 1 rfl rfl rfl (VL 3 0 tk3 rfl rfl rfl rfl rfl (bV 4 rfl rfl (Q0 rfl (qN _)) (bV 5 rfl rfl (aV rfl rfl (by omega)) (bV 6 rfl rfl (bo rfl) (BN (an (aSR (UO 1 rfl rfl ?_))))))))))))))
   refine UL 0 tk3 rfl rfl rfl rfl (aNn (aq (aSR (aU rfl (cA rfl rfl) (aA rfl (aNn ?_))))))
   refine ao _ rfl (fun h3 => ?_) (fun h3 => ?_)
   ·skip
    have hk3:x.kind=3:=by simpa using h3
    refine ai (ai (DR [] 14 (VO 0 2 rfl rfl rfl (VL 1 0 tk3 rfl rfl rfl rfl rfl (bV 2 rfl rfl (bC rfl rfl) (VM 3 rfl rfl (bW 4 rfl rfl rfl (fun hc=>qFA (off:=11) rfl) (bW 5 rfl rfl rfl (fun hc=>bk (o:=11) tk25 (ae rfl hc) (.of (aH 1 rfl)) rfl) (bW 6 rfl rfl rfl (fun hc=>qFA (off:=2) rfl) (bW 7 rfl rfl rfl (fun hc=>bj 0 tk3 (ae rfl hc) rfl rfl) ?_))))))))))
    refine sd 8 rfl (by kernel_rfl) _ rfl rfl (fun hc=>bI Tryz.underlying25 tk3 (ae rfl hc) ((aD.f_slots (.of (aH 2 rfl)))) (ae rfl hc) (fJ (i:=x.import_) (by omega) (by simp at hc;omega)) ((Int.toNat_of_nonneg (by simp at hc;omega)).symm) rfl) (fun _=>⟨(0,0)⟩) (fun ⟨b10_8,o10_8⟩ => ?_)
    refine bW 9 rfl rfl rfl (fun hc=>gz (o:=0) tk3 (ae rfl hc) (aH 0 rfl) hc rfl) (bW 10 rfl rfl rfl (fun hc=>qFA (off:=0) rfl) (bW 11 rfl rfl rfl (fun hc=>bj 0 tk3 (ae rfl hc) rfl rfl) (bW 12 rfl rfl rfl (fun hc=>fI (ae rfl hc) (ae rfl hc)) (bV 13 rfl rfl (dp rfl rfl (fun h=>gf rfl h)) (BN (an ?_))))))
    refine ao _ rfl (fun h4 => ?_) (fun h4 => ?_)
    ·skip
     have hs4:uF im x=true:=h4
     have hd:ij im (e,n) k x=(false,(e,n)):=by unfold ij;rw [if_neg (by rw [hb];decide),if_pos hk3,if_pos hs4]
     refine aSR (aA rfl (aNn (az (bw (cH (cH (bw (bw (cH (bw (FZ1 [] Tryz.results29 rfl ?_)))))))))))
     rw [hd] at hw
     unfold mY;rw [hw0,← hw];rfl
    ·skip
     have hs4:uF im x=false:=h4
     have hd:ij im (e,n) k x=(true,(x.at_+dX x.kind,n+1)):=by unfold ij;rw [if_neg (by rw [hb];decide),if_pos hk3,if_neg (by rw [hs4];decide)]
     refine ax (an (aa (aM rfl (aU rfl (aV rfl rfl (by omega)) (aA rfl (bP (bu (bu (an (aa (aU rfl (aV rfl rfl (by omega)) (aM rfl (aNn ?_)))))))))))))
     refine ⟨[1,3,4,10,11,12],[1,0],[],rfl,?_⟩
     rw [hd] at hw
     refine ⟨(k+1,(x.at_+dX x.kind,n+1)),⟨⟨hk',hw,⟨?_,?_⟩,?_,?_⟩,rfl⟩,?_⟩<;>dsimp only<;>omega
   ·skip
    have hk3:¬ x.kind=3:=by simpa using h3
    refine ai (aSR (aU rfl (cA rfl rfl) (aA rfl (aNn ?_))))
    refine ao _ rfl (fun h5 => ?_) (fun h5 => ?_)
    ·skip
     refine ax (an ?_)
     refine ao _ rfl (fun _ => ?_) (fun h=>absurd (h5.symm.trans h) (by decide))
     refine aSR (UO 2 rfl rfl (UL 0 tk3 rfl rfl rfl rfl (aU rfl (bC rfl rfl) (aNn ?_))))
     refine ao _ rfl (fun h6 => ?_) (fun h6 => ?_)
     ·skip
      have hki:x.import_<0:=by simpa using h6
      have hd:ij im (e,n) k x=(false,(e,n)):=by unfold ij;rw [if_neg (by rw [hb];decide),if_neg hk3,if_pos ⟨by simp at h5;omega,hki⟩]
      refine aSR (aA rfl (aNn (az (cH (cH (bw (bw (cH (bw (FZ1 [] Tryz.results29 rfl ?_))))))))))
      rw [hd] at hw
      unfold mY;rw [hw0,← hw];rfl
     ·skip
      have hki:¬ x.import_<0:=by simpa using h6
      have hd:ij im (e,n) k x=(true,(x.at_+dX x.kind,n)):=by unfold ij;rw [if_neg (by rw [hb];decide),if_neg hk3,if_neg (fun h=>hki h.2)]
      refine ax (bu (bu (an (aa (aU rfl (aV rfl rfl (by omega)) (aM rfl (aNn ?_)))))))
      refine ⟨[1,3,4,10,11,12],[1,0],[],rfl,?_⟩
      rw [hd] at hw
      refine ⟨(k+1,(x.at_+dX x.kind,n)),⟨⟨hk',hw,⟨?_,?_⟩,?_,?_⟩,rfl⟩,?_⟩<;>dsimp only<;>omega
    ·skip
     refine aSR (aU rfl (cA rfl rfl) (aA rfl (aNn ?_)))
     refine ao _ rfl (fun h7 => ?_) (fun h7 => ?_)
     ·skip
      refine ax (an ?_)
      refine ao _ rfl (fun _ => ?_) (fun h=>absurd (h7.symm.trans h) (by decide))
      refine aSR (UO 2 rfl rfl (UL 0 tk3 rfl rfl rfl rfl (aU rfl (bC rfl rfl) (aNn ?_))))
      refine ao _ rfl (fun h8 => ?_) (fun h8 => ?_)
      ·skip
       have hki:x.import_<0:=by simpa using h8
       have hd:ij im (e,n) k x=(false,(e,n)):=by unfold ij;rw [if_neg (by rw [hb];decide),if_neg hk3,if_pos ⟨by simp at h7;omega,hki⟩]
       refine aSR (aA rfl (aNn (az (cH (cH (bw (bw (cH (bw (FZ1 [] Tryz.results29 rfl ?_))))))))))
       rw [hd] at hw
       unfold mY;rw [hw0,← hw];rfl
      ·skip
       have hki:¬ x.import_<0:=by simpa using h8
       have hd:ij im (e,n) k x=(true,(x.at_+dX x.kind,n)):=by unfold ij;rw [if_neg (by rw [hb];decide),if_neg hk3,if_neg (fun h=>hki h.2)]
       refine ax (bu (bu (an (aa (aU rfl (aV rfl rfl (by omega)) (aM rfl (aNn ?_)))))))
       refine ⟨[1,3,4,10,11,12],[1,0],[],rfl,?_⟩
       rw [hd] at hw
       refine ⟨(k+1,(x.at_+dX x.kind,n)),⟨⟨hk',hw,⟨?_,?_⟩,?_,?_⟩,rfl⟩,?_⟩<;>dsimp only<;>omega
     ·skip
      refine aa (aU rfl (cA rfl rfl) (aA rfl (aNn ?_)))
      refine ao _ rfl (fun h9 => ?_) (fun h9 => ?_)
      ·skip
       refine aSR (UO 2 rfl rfl (UL 0 tk3 rfl rfl rfl rfl (aU rfl (bC rfl rfl) (aNn ?_))))
       refine ao _ rfl (fun h10 => ?_) (fun h10 => ?_)
       ·skip
        have hki:x.import_<0:=by simpa using h10
        have hd:ij im (e,n) k x=(false,(e,n)):=by unfold ij;rw [if_neg (by rw [hb];decide),if_neg hk3,if_pos ⟨by simp at h9;omega,hki⟩]
        refine aSR (aA rfl (aNn (az (cH (cH (bw (bw (cH (bw (FZ1 [] Tryz.results29 rfl ?_))))))))))
        rw [hd] at hw
        unfold mY;rw [hw0,← hw];rfl
       ·skip
        have hki:¬ x.import_<0:=by simpa using h10
        have hd:ij im (e,n) k x=(true,(x.at_+dX x.kind,n)):=by unfold ij;rw [if_neg (by rw [hb];decide),if_neg hk3,if_neg (fun h=>hki h.2)]
        refine ax (bu (bu (an (aa (aU rfl (aV rfl rfl (by omega)) (aM rfl (aNn ?_)))))))
        refine ⟨[1,3,4,10,11,12],[1,0],[],rfl,?_⟩
        rw [hd] at hw
        refine ⟨(k+1,(x.at_+dX x.kind,n)),⟨⟨hk',hw,⟨?_,?_⟩,?_,?_⟩,rfl⟩,?_⟩<;>dsimp only<;>omega
      ·skip
       have hkn:¬ (x.kind=5∨x.kind=6∨x.kind=7):=by simp at h5 h7 h9;omega
       have hd:ij im (e,n) k x=(true,(x.at_+dX x.kind,n)):=by unfold ij;rw [if_neg (by rw [hb];decide),if_neg hk3,if_neg (fun h=>hkn h.1)]
       refine ax (bu (bu (an (aa (aU rfl (aV rfl rfl (by omega)) (aM rfl (aNn ?_)))))))
       refine ⟨[1,3,4,10,11,12],[1,0],[],rfl,?_⟩
       rw [hd] at hw
       refine ⟨(k+1,(x.at_+dX x.kind,n)),⟨⟨hk',hw,⟨?_,?_⟩,?_,?_⟩,rfl⟩,?_⟩<;>dsimp only<;>omega
 ·skip
  have hke:k=im.dyns.l.length:=by have:=of_decide_eq_false h1;omega
  subst hke
  have hwe:(true,(e,n))=w0:=by rw [← hw,List.drop_length];rfl
  refine aR (aS (aS (aY (an (ai (aSR (UO 11 rfl rfl (UD 11 tk25 0 rfl rfl rfl rfl (aU rfl (aX Tryz.underlying25 rfl) (aM rfl (aNn (aq ?_))))))))))))
  refine aP [4,78,79,80] [1,0] [] (fun (j:Nat) st=>j≤im.slots.l.length∧st=⟨[(4,true,.int .i64 (n-nT (im.slots.l.take j))),(78,true,im.slots.val),(79,true,.int .i64 im.slots.l.length),(80,true,.int .i64 j)],[At b0_0 0 im.row,im.ok],[]⟩) (fun j=>im.slots.l.length-j) rfl (⟨0,⟨Nat.zero_le _,by rw [List.take_zero];show _=(⟨[(4,true,.int .i64 (n-0)),_,_,_],_,_⟩:Sta);rw [Int.sub_zero];rfl⟩⟩) ?_
  rintro j st ⟨hj,rfl⟩
  have hsn:=xy (im.slots.l.take j)
  have hsm:=List.length_take_le j im.slots.l
  refine aSR (aU rfl (bC rfl rfl) (aNs ?_))
  refine ao _ rfl (fun h11 => ?_) (fun h11 => ?_)
  ·skip
   have hj':j<im.slots.l.length:=by simpa using h11
   obtain ⟨s,hs⟩:∃ s,im.slots.l[j]? = some s:=⟨_,List.getElem?_eq_getElem hj'⟩
   have htk:=zk (im.slots.l.take j) s
   have hta:im.slots.l.take (j+1)=im.slots.l.take j++[s]:=by rw [List.take_add_one,hs];rfl
   rw [← hta] at htk
   have hsn2:=xy (im.slots.l.take (j+1))
   have hsm2:=List.length_take_le (j+1) im.slots.l
   refine ax (an (ai (aq (aSR (jo true rfl rfl (fun _=>bI Tryz.underlying25 tk3 rfl ((aD.f_slots (.of (aH 1 rfl)))) rfl (aI hs) rfl rfl) (fun h=>absurd h (by decide)) (fun ⟨b21_0,o21_0⟩=>(US 0 tk3 0 rfl rfl rfl rfl rfl (aA rfl (aNn (aSR (aM rfl (aU rfl (fI rfl rfl) (aNn ?_)))))))))))))
   refine ao _ rfl (fun h12 => ?_) (fun h12 => ?_)
   ·skip
    have hs1:¬ s = -1:=by simpa using h12
    rw [if_neg hs1] at htk
    refine aa (aM rfl (aU rfl (cZ rfl rfl (by omega)) (aA rfl (bP (bu (an (aa (aU rfl (aV rfl rfl (by omega)) (aM rfl (aNn ?_))))))))))
    refine ⟨[4,78,79,80],[1,0],[],rfl,?_⟩
    exact ⟨j+1,⟨hj',by rw [htk,← Int.sub_sub];rfl⟩,by omega⟩
   ·skip
    have hs1:s = -1:=by simpa using h12
    rw [if_pos hs1] at htk
    refine ax (bu (an (aa (aU rfl (aV rfl rfl (by omega)) (aM rfl (aNn ?_))))))
    refine ⟨[4,78,79,80],[1,0],[],rfl,?_⟩
    exact ⟨j+1,⟨hj',by rw [htk];rfl⟩,by omega⟩
  ·skip
   have hje:j=im.slots.l.length:=by have:=of_decide_eq_false h11;omega
   subst hje
   refine aR (aS (aS (aY (an (aSR (aM rfl (aU rfl (cA rfl rfl) (aA rfl (aNn (az (FZ1 [] Tryz.results29 rfl ?_)))))))))))
   unfold mY;rw [hw0,← hwe,List.take_length];rfl
end Go.Proofs.YtebnelfdimiifaaGreatDoor

namespace Go.Proofs.YtebnelfdimiifaaGreatDoor
open Go.RowKit Go.Lp Go.Sy Go.Lv
def uZ(im:aD):Bool:=(((decide ((im.inits.l.length:Int)≤4096) && decide ((im.lasts.l.length:Int)≤4096)) && allI (fun _ n=>instrB im.code n) 0 im.inits.l) && allI (fun _ n=>instrB im.code n) 0 im.lasts.l) && (decide (im.entry = -1) || (instrB im.code im.entry && !im.lib))
def aae(s:List ByteArray)(_:Nat)(n:ByteArray):Bool × List ByteArray:=(fg n && !(fw s n).getD false,s++[n])
def rC(im:aD)(v:Bool):Bool:=(decide ((im.needs.l.length:Int)≤64) && v) && (fU aae [im.name] 0 im.needs.l).1
def adj(im:aD)(i:Nat)(x:dI):Bool:=(((oP x.name && (decide (x.kind=0) || decide (x.kind=1))) && iy x.at_ 0 im.zero) && decide (x.size≥0)) && (decide ((i:Int)=0) || decide ((elt im.info.marks.l ((i:Int)-1)).at_≤x.at_))
def adg(im:aD)(i:Nat)(x:dH):Bool:=(((decide (x.sec=0) && oP x.file) && iy x.at_ 0 (im.code-1)) && decide (x.line≥0)) && (decide ((i:Int)=0) || decide ((elt im.info.lines.l ((i:Int)-1)).at_≤x.at_))
def y8(x:dJ):Bool:=(iy x.from_ 0 1048576 && iy x.size 0 1048576) && iy x.to_ 0 1048576
def acQ(im:aD)(x:cr):Bool:=((((allI (fun _ p=>y8 p) 0 x.pieces.l && fg x.sec) && ni x.obj) && decide ((x.from_.size:Int)=32)) && (decide (x.code = -1) || instrB im.code x.code)) && decide ((x.pieces.l.length:Int)≤64)
def qi(im:aD):Bool:=decide ((im.changes.l.length:Int)≤4096) && allI (fun _ x=>acQ im x) 0 im.changes.l
open Go.Proofs.Tryz
attribute [local irreducible] aL aB awp aC fwp Quiet
theorem pf(im:aD)(hS:fZ im)(b i:Nat)(x:Int):Con Tryz.prog 90 [.int .i64 i,.int .i64 x,.pointer (some ⟨b,0,none⟩)] [At b 0 im.row] [] fun r _ _=>r=.bool (instrB im.code x):=by
 have hc0:=hS.c0
 have hcd:=hS.cd
 have hdz:=hS.dz
 have hzm:=hS.zm
 refine EN3 Tryz.func90 rfl (aSR (aA rfl (aNn (aSR (UD 0 tk39 0 rfl rfl rfl rfl (aM rfl (aU rfl (Q0 rfl (con_instr im ⟨hc0,by omega⟩ x)) (aA rfl (aNn (az (FZ1 [] Tryz.results90 rfl ?_)))))))))))
 rfl
theorem yx(im:aD)(hS:fZ im):Con Tryz.prog 30 [im.val] [im.ok] [] fun r _ _=>r=.bool (uZ im):=by
 have hc0:=hS.c0
 have hcd:=hS.cd
 have hdz:=hS.dz
 have hzm:=hS.zm
 refine EN1 Tryz.func30 rfl (aSR (LT rfl (cx rfl rfl rfl (fun b0_0=>(aHN ?_)))))
 refine aA rfl (aNs (bT 0 rfl rfl ?_))
 show awp _ _ _ _ ⟨_,At _ 0 _::_,_⟩
 refine aa (aU rfl (cq (l:=[.tmp 1]) rfl) (aA rfl (aNn (aSR (UO 14 rfl rfl (UD 14 tk25 0 rfl rfl rfl rfl (aU rfl (aX Tryz.underlying25 rfl) (aU rfl (eY rfl rfl) (aM rfl (GO 15 rfl rfl rfl (aG rfl rfl (fun hc=>bk (o:=15) tk25 (ae rfl hc) (.of (aH 0 rfl)) rfl) (aG rfl rfl (fun hc=>aX Tryz.underlying25 (ae rfl hc)) (aG rfl rfl (fun hc=>eY (ae rfl hc) rfl) (aU rfl (bB rfl rfl (fun h=>gt rfl h)) (aM rfl ?_)))))))))))))))
 refine GO 14 rfl rfl rfl (aG rfl rfl (fun hc=>bk (o:=14) tk25 (ae rfl hc) (.of (aH 0 rfl)) rfl) (aG rfl rfl (fun hc=>aT rfl) (aG rfl rfl (fun hc=>QC (aK (ae rfl hc) (aK (ae rfl hc) rfl)) (fun w S fp hst=>(((j4 im.inits 90 [.pointer (some ⟨b0_0,0,none⟩)] (At b0_0 0 im.row) (fun _ n=>instrB im.code n) (by kernel_rfl) (fun i x _=>pf im hS b0_0 i x)).post (fun _ _ _ h=>h.2.2)).pre2 (ps:=[At b0_0 0 im.row,im.ok]) (aD.f_inits (.of (aH 1 rfl))) (.of (aH 0 rfl))).quiet2 (aH 0 rfl) (aH 1 rfl) hst)) (aU rfl (bB rfl rfl (fun h=>gt rfl h)) (aM rfl (GO 15 rfl rfl rfl (aG rfl rfl (fun hc=>bk (o:=15) tk25 (ae rfl hc) (.of (aH 0 rfl)) rfl) (aG rfl rfl (fun hc=>aT rfl) (aG rfl rfl (fun hc=>QC (aK (ae rfl hc) (aK (ae rfl hc) rfl)) (fun w S fp hst=>(((j4 im.lasts 90 [.pointer (some ⟨b0_0,0,none⟩)] (At b0_0 0 im.row) (fun _ n=>instrB im.code n) (by kernel_rfl) (fun i x _=>pf im hS b0_0 i x)).post (fun _ _ _ h=>h.2.2)).pre2 (ps:=[At b0_0 0 im.row,im.ok]) (aD.f_lasts (.of (aH 1 rfl))) (.of (aH 0 rfl))).quiet2 (aH 0 rfl) (aH 1 rfl) hst)) (aU rfl (bB rfl rfl (fun h=>gt rfl h)) (aM rfl (GO 16 rfl rfl rfl ?_))))))))))))
 refine aG rfl rfl (fun hc=>bk (o:=16) tk3 (ae rfl hc) (.of (aH 0 rfl)) rfl) (aG rfl rfl (fun hc=>cA (ae rfl hc) rfl) (aG rfl rfl (fun hc=>aT (ae rfl hc)) (aG rfl rfl (fun hc=>bk (o:=0) tk39 rfl (.of (aH 0 rfl)) rfl) (GO 16 rfl rfl rfl (aG rfl rfl (fun hc=>bk (o:=16) tk3 (ae rfl hc) (.of (aH 0 rfl)) rfl) (aG rfl rfl (fun hc=>Q0 (aK (ae rfl hc) (aK (ae rfl hc) rfl)) (con_instr im ⟨hc0,by omega⟩ im.entry)) (aG rfl rfl (fun hc=>aT (ae rfl hc)) (GO 1 rfl rfl rfl ?_))))))))
 refine aG rfl rfl (fun hc=>bk (o:=1) tk4 (ae rfl hc) (.of (aH 0 rfl)) rfl) (aG rfl rfl (fun hc=>dO (ae rfl hc)) (aG rfl rfl (fun hc=>bB (ae rfl hc) rfl (fun h=>gt hc h)) (aG rfl rfl (fun hc=>dp (ae rfl hc) rfl (fun h=>gf hc h)) (aU rfl (bB rfl rfl (fun h=>gt rfl h)) (aA rfl (aNn (az (FZ1 [] Tryz.results30 rfl ?_))))))))
 rfl
theorem ym(im:aD)(bm b2:Nat)(s:List ByteArray)(i:Nat)(x:ByteArray)(hx:im.needs.l[i]? = some x) :
   Con Tryz.prog 93 [.int .i64 i,.string x,.pointer (some ⟨b2,0,none⟩)] [cF (At b2 0 [.v (.map (some bm))]) im.ok] [fy bm jr vBo (fw s)]
     fun r ps hp=>ps=[]∧r=.bool (aae s i x).1∧hp=[fy bm jr vBo (fw (aae s i x).2)]:=by
 refine EN3 Tryz.func93 rfl (aZ _ (Ent.left (.of (aH 0 rfl))) (fC (Ent.all (f:=ek) (aD.f_needsA (Ent.right (.of (aH 1 rfl)))) hx) (fun hsx=>(aSR (aA rfl (aNn (aSR (aM rfl (aU rfl (Q0 rfl (gF _ hsx)) (aM rfl (aG rfl rfl (fun hc=>bk (o:=0) tk162 rfl (.of (aH 0 rfl)) rfl) (aG rfl rfl (fun hc=>aT rfl) (aG rfl rfl (fun hc=>mz (k:=x) (v0:=false) 0 Tryz.underlying162 (kyT) (by kernel_rfl) (ae rfl hc) (ae rfl hc) rfl) ?_)))))))))))))
 refine aG rfl rfl (fun hc=>dO (ae rfl hc)) (aU rfl (bB rfl rfl (fun h=>gt rfl h)) (aA rfl (aNn (aSR (UD 0 tk162 0 rfl rfl rfl rfl (aM rfl (aW rfl (fe (k:=x) (v:=true) 0 Tryz.underlying162 (kyT) rfl rfl rfl rfl (aHK ?_)))))))))
 refine bP ?_
 rw [← ig]
 refine an (aSR (aM rfl (aA rfl (aNn (az (FZ1 [0] Tryz.results93 rfl ?_))))))
 exact ⟨rfl,rfl,rfl⟩
theorem aa7(im:aD):Con Tryz.prog 31 [im.val] [im.ok] [] (YN Value.bool fun b=>b=true↔aew im.versions.l∧rC im true=true):=by
 refine EN1 Tryz.func31 rfl (aSR (LT rfl (cx rfl rfl rfl (fun b0_0=>(aHN ?_)))))
 refine aA rfl (aNs (bT 0 rfl rfl ?_))
 show awp _ _ _ _ ⟨_,At _ 0 _::_,_⟩
 refine aa (LT rfl (gi (jr) (vBo) rfl (fun b1_0=>(aHN ?_))))
 refine UO 0 rfl rfl (UD 0 tk9 0 rfl rfl rfl rfl (aW rfl (jG (k:=im.name) (v:=true) 1 Tryz.underlying162 (kyT) rfl rfl rfl rfl (aHK ?_))))
 refine aM rfl (LT rfl (bJ (zs:=[.map none]) (by kernel_rfl) rfl (fun b1_5=>(aHN ?_))))
 refine aW rfl (ba 2 tk162 rfl rfl rfl rfl (aHK ?_))
 refine aNs ?_
 rw [rT,← ig]
 refine bT 2 rfl rfl ?_
 show awp _ _ _ _ ⟨_,At b1_5 0 [.v (.map (some b1_0))]::_,_⟩
 refine aa (UO 17 rfl rfl (UD 17 tk27 1 rfl rfl rfl rfl (aU rfl (aX Tryz.underlying27 rfl) (aU rfl (eY rfl rfl) (aM rfl (GO 18 rfl rfl rfl (aG rfl rfl (fun hc=>bk (o:=18) tk28 (ae rfl hc) (.of (aH 1 rfl)) rfl) ?_)))))))
 refine fB (caps:=[]) [0] (false) (by kernel_rfl) _ rfl rfl (fun _=>rfl) (fun hc=>(aK (ae rfl hc) rfl)) (fun hc=>by rw [List.append_nil];exact (q5 im.versions).pre2 (aD.f_versions (.of (aH 0 rfl))) (aD.f_versionsA (.of (aH 0 rfl)))) (fun v1 hv1 => ?_)
 refine aU rfl (bB rfl rfl (fun h=>gt rfl h)) (aM rfl (GO 17 rfl rfl rfl (aG rfl rfl (fun hc=>bk (o:=17) tk27 (ae rfl hc) (.of (aH 1 rfl)) rfl) (aG rfl rfl (fun hc=>cq (l:=[.tmp 3]) rfl) ?_))))
 refine sN (caps:=[]) [2,1,0] 1 (by kernel_rfl) _ rfl rfl (Nat.le_of_ble_eq_true rfl) (fun _=>rfl) (fun hc=>(aK (ae rfl hc) (aK (ae rfl hc) rfl))) (fun hc=>by rw [List.append_nil];exact (Con.clH (((qq im.needs 93 [.pointer (some ⟨b1_5,0,none⟩)] (cF (At b1_5 0 [.v (.map (some b1_0))]) im.ok) (fun s=>fy b1_0 jr vBo (fw s)) aae [im.name] (by kernel_rfl) (fun s i x hx=>ym im b1_0 b1_5 s i x hx)).pre2 (aD.f_needs (.of (aH 2 rfl))) (Ent.mk2 (.of (aH 0 rfl)) (.of (aH 2 rfl))))) (fun _ _ _ h=>h.2.1))) ?_
 refine aHK ?_
 refine aU rfl (bB rfl rfl (fun h=>gt rfl h)) (aA rfl (aNn (az (FZ1 [] Tryz.results31 rfl ?_))))
 refine ⟨⟨rfl,rfl⟩,_,rfl,fun h => ?_,fun ⟨hs,h⟩ => ?_⟩
 · rw [Bool.and_eq_true,Bool.and_eq_true] at h
   refine ⟨(hv1 (by rw [h.1.1];rfl)).1 h.1.2,?_⟩
   unfold rC;rw [h.1.1,h.2];rfl
 · unfold rC at h
   rw [Bool.and_eq_true,Bool.and_eq_true] at h
   rw [h.1.1,h.2,(hv1 (by rw [h.1.1];rfl)).2 hs];rfl
theorem sr(i:Nat)(x:dJ):Con Tryz.prog 116 [.int .i64 i,x.val] [] [] fun r _ _=>r=.bool (y8 x):=by
 refine EN2 Tryz.func116 rfl (aSR (LT rfl (cx rfl rfl rfl (fun b0_0=>(aHN ?_)))))
 refine aA rfl (aNn (aSR (UO 0 rfl rfl (UL 0 tk3 rfl rfl rfl rfl (aU rfl (Q0 rfl (dt _ _ _)) (aM rfl (GO 1 rfl rfl rfl (GL 0 tk3 rfl rfl rfl rfl rfl (aG rfl rfl (fun hc=>fb (by kernel_rfl) (aK (ae rfl hc) (aK (ae rfl rfl) (aK (ae rfl rfl) rfl))) (fun w S fp hst=>(dt _ _ _).quiet0 hst)) (aU rfl (bB rfl rfl (fun h=>gt rfl h)) (aM rfl (GO 2 rfl rfl rfl (GL 0 tk3 rfl rfl rfl rfl rfl (aG rfl rfl (fun hc=>fb (by kernel_rfl) (aK (ae rfl hc) (aK (ae rfl rfl) (aK (ae rfl rfl) rfl))) (fun w S fp hst=>(dt _ _ _).quiet0 hst)) ?_))))))))))))))
 refine aU rfl (bB rfl rfl (fun h=>gt rfl h)) (aA rfl (aNn (az (FZ1 [] Tryz.results116 rfl ?_))))
 rfl
theorem ue(im:aD)(hS:fZ im)(b i:Nat)(x:cr)(hx:im.changes.l[i]? = some x):Con Tryz.prog 114 [.int .i64 i,x.val,.pointer (some ⟨b,0,none⟩)] [cF (At b 0 im.row) im.ok] [] fun r _ _=>r=.bool (acQ im x):=by
 have hc0:=hS.c0
 have hcd:=hS.cd
 have hdz:=hS.dz
 have hzm:=hS.zm
 refine EN3 Tryz.func114 rfl (aZ _ (Ent.left (.of (aH 0 rfl))) (aZ _ (Ent.all (f:=cr.ok) (aD.f_changesA (Ent.right (.of (aH 1 rfl)))) hx) (fC (cr.f_sec (.of (aH 0 rfl))) (fun hss=>(fC (cr.f_obj (.of (aH 0 rfl))) (fun hso=>(aSR (LT rfl (cx rfl rfl rfl (fun b0_0=>(aHN ?_)))))))))))
 refine aA rfl (aNn (aSR (UO 3 rfl rfl (UL 0 tk56 rfl rfl rfl rfl ?_))))
 refine aU rfl (Q1 rfl (((qk x.pieces 116 [] x.ok (fun _ p=>y8 p) (by kernel_rfl) (fun i p _=>(sr i p).pre (fun _ h=>by cases h))).post (fun _ _ _ h=>h.2.2)).pre2 (ps:=[x.ok]) (cr.f_pieces (.of (aH 0 rfl))) (.of (aH 0 rfl))) 0 rfl) ?_
 refine aA rfl (aNn (aSR (aM rfl (aM rfl (GO 1 rfl rfl rfl (GL 0 tk9 rfl rfl rfl rfl rfl (aG rfl rfl (fun hc=>Q0 (aK (ae rfl hc) rfl) (gF _ hss)) (aU rfl (bB rfl rfl (fun h=>gt rfl h)) (aM rfl (GO 0 rfl rfl rfl (GL 0 tk9 rfl rfl rfl rfl rfl (aG rfl rfl (fun hc=>Q0 (aK (ae rfl hc) rfl) (j5 _ hso)) (aU rfl (bB rfl rfl (fun h=>gt rfl h)) (aM rfl (GO 2 rfl rfl rfl ?_)))))))))))))))
 refine GL 0 tk9 rfl rfl rfl rfl rfl (aG rfl rfl (fun hc=>cB Tryz.underlying9 (ae rfl hc)) (aG rfl rfl (fun hc=>cA (ae rfl hc) rfl) (aU rfl (bB rfl rfl (fun h=>gt rfl h)) (aM rfl (GO 4 rfl rfl rfl (GL 0 tk3 rfl rfl rfl rfl rfl (aG rfl rfl (fun hc=>cA (ae rfl hc) rfl) (aG rfl rfl (fun hc=>aT (ae rfl hc)) (aG rfl rfl (fun hc=>bk (o:=0) tk39 rfl (.of (aH 1 rfl)) rfl) (GO 4 rfl rfl rfl (GL 0 tk3 rfl rfl rfl rfl rfl (aG rfl rfl (fun hc=>Q0 (aK (ae rfl hc) (aK (ae rfl hc) rfl)) (con_instr im ⟨hc0,by omega⟩ x.code)) (aG rfl rfl (fun hc=>dp (ae rfl hc) rfl (fun h=>gf hc h)) (aU rfl (bB rfl rfl (fun h=>gt rfl h)) (aM rfl ?_)))))))))))))))
 refine GO 3 rfl rfl rfl (GL 0 tk56 rfl rfl rfl rfl rfl (aG rfl rfl (fun hc=>aX Tryz.underlying56 (ae rfl hc)) (aG rfl rfl (fun hc=>eY (ae rfl hc) rfl) (aU rfl (bB rfl rfl (fun h=>gt rfl h)) (aA rfl (aNn (az (FZ1 [] Tryz.results114 rfl ?_))))))))
 rfl
theorem vP(im:aD)(hS:fZ im):Con Tryz.prog 33 [im.val] [im.ok] [] fun r _ _=>r=.bool (qi im):=by
 refine EN1 Tryz.func33 rfl (aSR (LT rfl (cx rfl rfl rfl (fun b0_0=>(aHN ?_)))))
 refine aA rfl (aNs (bT 0 rfl rfl ?_))
 show awp _ _ _ _ ⟨_,At _ 0 _::_,_⟩
 refine aa (UO 25 rfl rfl (UD 25 tk37 0 rfl rfl rfl rfl (aU rfl (aX Tryz.underlying37 rfl) (aU rfl (eY rfl rfl) (aM rfl (GO 25 rfl rfl rfl (aG rfl rfl (fun hc=>bk (o:=25) tk37 (ae rfl hc) (.of (aH 0 rfl)) rfl) (aG rfl rfl (fun hc=>cq (l:=[.tmp 1]) rfl) (aG rfl rfl (fun hc=>QC (aK (ae rfl hc) (aK (ae rfl hc) rfl)) (fun w S fp hst=>(((sg im.changes 114 [.pointer (some ⟨b0_0,0,none⟩)] (cF (At b0_0 0 im.row) im.ok) (fun _ x=>acQ im x) (by kernel_rfl) (fun i x hx=>ue im hS b0_0 i x hx)).post (fun _ _ _ h=>h.2.2)).pre2 (ps:=[At b0_0 0 im.row,im.ok]) (aD.f_changes (.of (aH 1 rfl))) (Ent.mk2 (.of (aH 0 rfl)) (.of (aH 1 rfl)))).quiet2 (aH 0 rfl) (aH 1 rfl) hst)) (aU rfl (bB rfl rfl (fun h=>gt rfl h)) (aA rfl (aNn (az (FZ1 [] Tryz.results33 rfl ?_))))))))))))))
 rfl
abbrev aeQ(im:aD)(b b3:Nat):Per:=cF (At b 0 im.row) (cF (At b3 0 im.info.row) im.ok)
theorem aaU(im:aD)(b b3 i:Nat)(x:dI)(hx:im.info.marks.l[i]? = some x):Con Tryz.prog 95 [.int .i64 i,x.val,.pointer (some ⟨b,0,none⟩),.pointer (some ⟨b3,0,none⟩)] [aeQ im b b3] [] fun r _ _=>r=.bool (adj im i x):=by
 have hil:=(List.getElem?_eq_some_iff.1 hx).1
 refine EN4 Tryz.func95 rfl (aZ _ (Ent.left (.of (aH 0 rfl))) (aZ _ (Ent.left (Ent.right (.of (aH 1 rfl)))) (aZ _ (Ent.right (Ent.right (.of (aH 2 rfl)))) (bS (cC.f_marks (aD.f_info (.of (aH 0 rfl)))) (fun hml=>(aSR (LT rfl (cx rfl rfl rfl (fun b0_0=>(aHN ?_))))))))))
 refine aA rfl (aNs (DR [] 42 (VO 0 0 rfl rfl rfl (VL 1 0 tk9 rfl rfl rfl rfl rfl (bV 2 rfl rfl (Q0 rfl (jC _)) (VM 3 rfl rfl (bW 4 rfl rfl rfl (fun hc=>qFA (off:=1) rfl) (bW 5 rfl rfl rfl (fun hc=>bj 0 tk3 (ae rfl hc) rfl rfl) (bW 6 rfl rfl rfl (fun hc=>cA (ae rfl hc) rfl) (bW 7 rfl rfl rfl (fun hc=>aT (ae rfl hc)) (bW 8 rfl rfl rfl (fun hc=>qFA (off:=1) rfl) (bW 9 rfl rfl rfl (fun hc=>bj 0 tk3 (ae rfl hc) rfl rfl) (bW 10 rfl rfl rfl (fun hc=>cA (ae rfl hc) rfl) (bW 11 rfl rfl rfl (fun hc=>dp (ae rfl hc) rfl (fun h=>gf hc h)) (bV 12 rfl rfl (bB rfl rfl (fun h=>gt rfl h)) ?_)))))))))))))))
 refine VM 13 rfl rfl (bW 14 rfl rfl rfl (fun hc=>qFA (off:=2) rfl) (bW 15 rfl rfl rfl (fun hc=>bj 0 tk3 (ae rfl hc) rfl rfl) (bW 16 rfl rfl rfl (fun hc=>qFA (off:=4) rfl) (bW 17 rfl rfl rfl (fun hc=>bk (o:=4) tk3 (ae rfl hc) (.of (aH 2 rfl)) rfl) (bW 18 rfl rfl rfl (fun hc=>fb (by kernel_rfl) (aK (ae rfl hc) (aK (ae rfl rfl) (aK (ae rfl hc) rfl))) (fun w S fp hst=>(dt _ _ _).quiet0 hst)) (bV 19 rfl rfl (bB rfl rfl (fun h=>gt rfl h)) (VM 20 rfl rfl (bW 21 rfl rfl rfl (fun hc=>qFA (off:=3) rfl) (bW 22 rfl rfl rfl (fun hc=>bj 0 tk3 (ae rfl hc) rfl rfl) (bW 23 rfl rfl rfl (fun hc=>fH (ae rfl hc) rfl) (bV 24 rfl rfl (bB rfl rfl (fun h=>gt rfl h)) (VM 25 rfl rfl (bW 26 rfl rfl rfl (fun hc=>aT rfl) (bW 27 rfl rfl rfl (fun hc=>cA (ae rfl hc) rfl) (bW 28 rfl rfl rfl (fun hc=>aT (ae rfl hc)) ?_)))))))))))))))
 refine bW 29 rfl rfl rfl (fun hc=>qFA (off:=0) rfl) (bW 30 rfl rfl rfl (fun hc=>bk (o:=0) tk29 (ae rfl hc) (.of (aH 1 rfl)) rfl) (bW 31 rfl rfl rfl (fun hc=>aT rfl) ?_))
 refine bW 32 rfl rfl rfl (fun hc=>cZ (ae rfl hc) rfl (by (first | omega | (simp at hc;omega)))) ?_
 refine sd 33 rfl (by kernel_rfl) _ rfl rfl (fun hc=>bI Tryz.underlying29 tk176 (ae rfl hc) ((cC.f_marks (aD.f_info (.of (aH 0 rfl))))) (ae rfl hc) (fJ (i:=(i:Int)-1) (by simp at hc;omega) (by simp at hc;omega)) ((Int.toNat_of_nonneg (by simp at hc;omega)).symm) rfl) (fun _=>⟨(0,0)⟩) (fun ⟨b1_33,o1_33⟩ => ?_)
 refine bW 34 rfl rfl rfl (fun hc=>qFA (off:=2) (ae rfl hc)) (bW 35 rfl rfl rfl (fun hc=>gz (o:=2) tk3 (ae rfl hc) (aH 0 rfl) hc rfl) (bW 36 rfl rfl rfl (fun hc=>qFA (off:=2) rfl) (bW 37 rfl rfl rfl (fun hc=>bj 0 tk3 (ae rfl hc) rfl rfl) (bW 38 rfl rfl rfl (fun hc=>eY (ae rfl hc) (ae rfl hc)) (bW 39 rfl rfl rfl (fun hc=>dp (ae rfl hc) rfl (fun h=>gf hc h)) (bV 40 rfl rfl (bB rfl rfl (fun h=>gt rfl h)) (bV 41 rfl rfl (bo rfl) (BN (an (az (FZ1 [] Tryz.results95 rfl ?_)))))))))))
 rfl
theorem aaV(im:aD)(hS:fZ im)(b b3 i:Nat)(x:dH)(hx:im.info.lines.l[i]? = some x):Con Tryz.prog 98 [.int .i64 i,x.val,.pointer (some ⟨b,0,none⟩),.pointer (some ⟨b3,0,none⟩)] [aeQ im b b3] [] fun r _ _=>r=.bool (adg im i x):=by
 have hil:=(List.getElem?_eq_some_iff.1 hx).1
 have hc0:=hS.c0
 have hcd:=hS.cd
 have hdz:=hS.dz
 have hzm:=hS.zm
 refine EN4 Tryz.func98 rfl (aZ _ (Ent.left (.of (aH 0 rfl))) (aZ _ (Ent.left (Ent.right (.of (aH 1 rfl)))) (aZ _ (Ent.right (Ent.right (.of (aH 2 rfl)))) (bS (cC.f_lines (aD.f_info (.of (aH 0 rfl)))) (fun hml=>(aSR (LT rfl (cx rfl rfl rfl (fun b0_0=>(aHN ?_))))))))))
 refine aA rfl (aNs (DR [] 38 (VO 0 0 rfl rfl rfl (VL 1 0 tk3 rfl rfl rfl rfl rfl (bV 2 rfl rfl (cA rfl rfl) (VM 3 rfl rfl (bW 4 rfl rfl rfl (fun hc=>qFA (off:=2) rfl) (bW 5 rfl rfl rfl (fun hc=>bj 0 tk9 (ae rfl hc) rfl rfl) (bW 6 rfl rfl rfl (fun hc=>Q0 (aK (ae rfl hc) rfl) (jC _)) (bV 7 rfl rfl (bB rfl rfl (fun h=>gt rfl h)) (VM 8 rfl rfl (bW 9 rfl rfl rfl (fun hc=>qFA (off:=1) rfl) (bW 10 rfl rfl rfl (fun hc=>bj 0 tk3 (ae rfl hc) rfl rfl) (bW 11 rfl rfl rfl (fun hc=>qFA (off:=2) rfl) (bW 12 rfl rfl rfl (fun hc=>bk (o:=2) tk3 (ae rfl hc) (.of (aH 2 rfl)) rfl) ?_)))))))))))))))
 refine bW 13 rfl rfl rfl (fun hc=>cZ (ae rfl hc) rfl (by (first | omega | (simp at hc;omega)))) ?_
 refine bW 14 rfl rfl rfl (fun hc=>fb (by kernel_rfl) (aK (ae rfl hc) (aK (ae rfl rfl) (aK (ae rfl hc) rfl))) (fun w S fp hst=>(dt _ _ _).quiet0 hst)) (bV 15 rfl rfl (bB rfl rfl (fun h=>gt rfl h)) (VM 16 rfl rfl (bW 17 rfl rfl rfl (fun hc=>qFA (off:=3) rfl) (bW 18 rfl rfl rfl (fun hc=>bj 0 tk3 (ae rfl hc) rfl rfl) (bW 19 rfl rfl rfl (fun hc=>fH (ae rfl hc) rfl) (bV 20 rfl rfl (bB rfl rfl (fun h=>gt rfl h)) (VM 21 rfl rfl (bW 22 rfl rfl rfl (fun hc=>aT rfl) (bW 23 rfl rfl rfl (fun hc=>cA (ae rfl hc) rfl) (bW 24 rfl rfl rfl (fun hc=>aT (ae rfl hc)) (bW 25 rfl rfl rfl (fun hc=>qFA (off:=1) rfl) (bW 26 rfl rfl rfl (fun hc=>bk (o:=1) tk30 (ae rfl hc) (.of (aH 1 rfl)) rfl) (bW 27 rfl rfl rfl (fun hc=>aT rfl) ?_)))))))))))))
 refine bW 28 rfl rfl rfl (fun hc=>cZ (ae rfl hc) rfl (by (first | omega | (simp at hc;omega)))) ?_
 refine sd 29 rfl (by kernel_rfl) _ rfl rfl (fun hc=>bI Tryz.underlying30 tk180 (ae rfl hc) ((cC.f_lines (aD.f_info (.of (aH 0 rfl))))) (ae rfl hc) (fJ (i:=(i:Int)-1) (by simp at hc;omega) (by simp at hc;omega)) ((Int.toNat_of_nonneg (by simp at hc;omega)).symm) rfl) (fun _=>⟨(0,0)⟩) (fun ⟨b1_29,o1_29⟩ => ?_)
 refine bW 30 rfl rfl rfl (fun hc=>qFA (off:=1) (ae rfl hc)) (bW 31 rfl rfl rfl (fun hc=>gz (o:=1) tk3 (ae rfl hc) (aH 0 rfl) hc rfl) (bW 32 rfl rfl rfl (fun hc=>qFA (off:=1) rfl) (bW 33 rfl rfl rfl (fun hc=>bj 0 tk3 (ae rfl hc) rfl rfl) (bW 34 rfl rfl rfl (fun hc=>eY (ae rfl hc) (ae rfl hc)) (bW 35 rfl rfl rfl (fun hc=>dp (ae rfl hc) rfl (fun h=>gf hc h)) (bV 36 rfl rfl (bB rfl rfl (fun h=>gt rfl h)) (bV 37 rfl rfl (bo rfl) (BN (an (az (FZ1 [] Tryz.results98 rfl ?_)))))))))))
 rfl
end Go.Proofs.YtebnelfdimiifaaGreatDoor

namespace Go.Proofs.YtebnelfdimiifaaGreatDoor
open Go.RowKit Go.Lp Go.Sy Go.Lv
def aeK(im:aD)(e:Int)(_:Nat)(x:bK):Bool × Int:=(iy x.at_ e im.code && iy x.size 1 (IntKind.i64.wrap (im.code-x.at_)),IntKind.i64.wrap (x.at_+x.size))
def ahi(im:aD)(e:Int)(g:Int × Int × Int):Bool:=((decide (g.1=0) && decide (g.2.1≥e)) && decide (g.2.1≤g.2.2)) && decide (g.2.2≤im.code)
def mB{α:Type}(im:aD)(g:α→Int × Int × Int)(e:Int)(_:Nat)(x:α):Bool × Int:=(ahi im e (g x),(g x).2.1)
abbrev v3(g:Int × Int × Int):Value:=.tuple #[.int .i64 g.1,.int .i64 g.2.1,.int .i64 g.2.2]
abbrev inG(x:ca):Int × Int × Int:=(x.sec,x.from_,x.to_)
abbrev vaG(x:eE):Int × Int × Int:=(x.sec,x.from_,x.to_)
abbrev deG(x:cG):Int × Int × Int:=(x.sec,x.from_,x.to_)
def inB(x:ca):Bool:=(oP x.name && oP x.file) && decide (x.line≥0)
def vaB(im:aD)(x:eE):Bool:=oP x.name && ((decide (x.where_=1) || (decide (x.where_=0) && iy x.n 0 15)) || (decide (x.where_=2) && iy x.n (-1) (im.zero-1)))
def deB(x:cG):Bool:=decide (x.bytes≥0) && decide (x.bytes.tmod 8=0)
def ada(im:aD):Bool:=((((allI (adj im) 0 im.info.marks.l && allI (adg im) 0 im.info.lines.l) && (fU (aeK im) 0 0 im.info.ends.l).1)
 && ((fU (mB im inG) 0 0 im.info.inlines.l).1 && allI (fun _ x=>inB x) 0 im.info.inlines.l))
 && ((fU (mB im vaG) 0 0 im.info.vars.l).1 && allI (fun _ x=>vaB im x) 0 im.info.vars.l))
 && ((fU (mB im deG) 0 0 im.info.depths.l).1 && allI (fun _ x=>deB x) 0 im.info.depths.l)
end Go.Proofs.YtebnelfdimiifaaGreatDoor

