/- Parts of the proof, in build order. No condition. -/
import Derived.Test.YtfkcmbonmpcbfaaGreatRa16
import Derived.Test.YtfkcmbonmpcbfaaGreatRa05
import Derived.Test.YtfkcmbonmpcbfaaGreatRa09
set_option linter.unusedSimpArgs false
set_option linter.unusedVariables false
set_option maxHeartbeats 1000000
set_option maxRecDepth 20000
namespace Go.Proofs.YtfkcmbonmpcbfaaGreat
open Go.RowKit Go.Lp Go.Sy Go.Lv
open Go.Proofs.Tryz
attribute [local irreducible] aL aB awp aC fwp Quiet
theorem sW(im:az)(hlen:im.exports.l.length≤4096)(b bm b3:Nat)(s:List ByteArray)(i:Nat)(x:bA)(hx:im.exports.l[i]? = some x) :
   Con Tryz.prog 150 [.int .i64 i,x.val,.pointer (some ⟨b,0,none⟩),.pointer (some ⟨b3,0,none⟩)] [cM (At b 0 im.row) (cM (At b3 0 [.v (.map (some bm))]) im.ok)] [fv bm jn vBo (fu s)]
     fun r ps hp=>ps=[]∧r=.bool (wX im s i x).1∧hp=[fv bm jn vBo (fu (wX im s i x).2)]:=by
 have hil:=(List.getElem?_eq_some_iff.1 hx).1
 refine EN4 Tryz.func150 rfl (aR _ (Ent.left (.of (aI 0 rfl))) (aR _ (Ent.left (Ent.right (.of (aI 1 rfl)))) (aR _ (Ent.right (Ent.right (.of (aI 2 rfl)))) (fy (bA.f_name (Ent.all (f:=bA.ok) (az.f_exportsA (.of (aI 0 rfl))) hx)) (fun hsn=>(fy (bA.f_version (Ent.all (f:=bA.ok) (az.f_exportsA (.of (aI 0 rfl))) hx)) (fun hsv=>(aSR (LT rfl (cK rfl rfl rfl (fun b0_0=>(aHN ?_))))))))))))
 refine aA rfl (aNn (aSR (UO 4 rfl rfl (UD 4 tk3 2 rfl rfl rfl rfl (aA rfl (aNs ?_))))))
 refine jt (X := {z:Int // z=xX im x}) (fun q=>⟨[(0,true,.int .i64 i),(2,true,.pointer (some ⟨b,0,none⟩)),(3,true,.pointer (some ⟨b3,0,none⟩)),(5,true,.pointer (some ⟨b0_0,0,none⟩)),(7,true,.int .i64 q.1)],[im.ok,At b3 0 [.v (.map (some bm))],At b 0 im.row,cM (At b 0 im.row) (cM (At b3 0 [.v (.map (some bm))]) im.ok)],[fv bm jn vBo (fu s),Box b0_0 159 x.vs]⟩) ?_ ?_
 ·skip
  refine aSR (UO 3 rfl rfl (UL 1 tk3 rfl rfl rfl rfl (aU rfl (cJ rfl rfl) (aNn ?_))))
  refine ao _ rfl (fun h1 => ?_) (fun h1 => ?_)
  ·skip
   refine aa (UO 7 rfl rfl (UD 7 tk3 2 rfl rfl rfl rfl (aA rfl (aNn ?_))))
   first
   | exact ⟨[0,2,3,5,7],[3,2,1,0],[0,1],⟨im.block,(if_pos (of_decide_eq_true h1)).symm⟩,rfl,rfl⟩
   | exact ⟨[0,2,3,5,7],[3,2,1,0],[0,1],⟨im.zero,(if_neg (of_decide_eq_false h1)).symm⟩,rfl,rfl⟩
  ·skip
   refine ar (aj ?_)
   first
   | exact ⟨[0,2,3,5,7],[3,2,1,0],[0,1],⟨im.block,(if_pos (of_decide_eq_true h1)).symm⟩,rfl,rfl⟩
   | exact ⟨[0,2,3,5,7],[3,2,1,0],[0,1],⟨im.zero,(if_neg (of_decide_eq_false h1)).symm⟩,rfl,rfl⟩
 ·skip
  rintro ⟨_,rfl⟩
  refine ah ?_
  refine jt (X := {z:Unit // kx im i x=false}) (fun _=>⟨[(0,true,.int .i64 i),(2,true,.pointer (some ⟨b,0,none⟩)),(3,true,.pointer (some ⟨b3,0,none⟩)),(5,true,.pointer (some ⟨b0_0,0,none⟩)),(7,true,.int .i64 (xX im x))],[im.ok,At b3 0 [.v (.map (some bm))],At b 0 im.row,cM (At b 0 im.row) (cM (At b3 0 [.v (.map (some bm))]) im.ok)],[fv bm jn vBo (fu s),Box b0_0 159 x.vs]⟩) ?_ ?_
  ·skip
   refine aSR (aM rfl (aU rfl (eA rfl rfl) (aNn ?_)))
   refine ao _ rfl (fun h2 => ?_) (fun h2 => ?_)
   ·skip
    refine aSR (UO 9 rfl rfl (UD 9 tk24 2 rfl rfl rfl rfl (aM rfl ?_)))
    refine aU rfl (dp rfl rfl (by (simp at h2;omega))) ?_
    refine iJ true rfl rfl (fun _=>bI Tryz.underlying24 tk159 rfl ((az.f_exports (.of (aI 0 rfl)))) rfl (fF (i:=(i:Int)-1) (by omega) (by simp at h2;omega)) ((Int.toNat_of_nonneg (by simp at h2;omega)).symm) rfl) (fun h=>absurd h (by decide)) (fun ⟨b5_4,o5_4⟩ => ?_)
    refine US 0 tk159 0 rfl rfl rfl rfl rfl (LT rfl (bk (zs:=[.string .empty,.string .empty,.bool false,.int .i64 0,.int .i64 0,.int .i64 0]) (by kernel_rfl) rfl (fun b5_6=>(aHN ?_))))
    refine aD rfl (aF 2 tk159 rfl rfl rfl rfl (aHK ?_))
    refine aNs (DR [11] 13 (VO 0 0 rfl rfl rfl (VL 1 2 tk9 rfl rfl rfl rfl rfl (VO 2 0 rfl rfl rfl (VL 3 1 tk9 rfl rfl rfl rfl rfl (bV 4 rfl rfl (Q0 rfl (ux _ _)) (VO 5 1 rfl rfl rfl (VL 6 2 tk9 rfl rfl rfl rfl rfl (VO 7 1 rfl rfl rfl (VL 8 1 tk9 rfl rfl rfl rfl rfl (bV 9 rfl rfl (Q0 rfl (ux _ _)) (fx (q:=true) 10 rfl (by kernel_rfl) rfl rfl (WL (zs:=[.int .i64 0]) el26 rfl rfl rfl (.more rfl (.v rfl .nil) (.more rfl (.v rfl .nil) .nil)) rfl rfl (fun v6_10=>(bST rfl ?_)))))))))))))))
    refine VE 11 rfl rfl (EC [] [3] rfl ((acm (.slice v6_10 2 2) _ _).clean (φ:=fun r=>r=_) (fun _ _ _ h=>h)) ?_)
    rintro _ _ _ ⟨rfl,rfl,rfl⟩
    refine bST rfl ?_
    refine bV 12 rfl rfl (fi rfl rfl) (BN (aj ?_))
    refine ao _ rfl (fun h3 => ?_) (fun h3 => ?_)
    ·skip
     refine aSR (aA rfl (aNn (ax (bB (FZ1 [0] Tryz.results150 rfl ?_)))))
     have hb:kx im i x=true:=by unfold kx;rw [decide_eq_true (by simp at h2;omega)];exact h3
     unfold wX;rw [if_pos hb];exact ⟨rfl,rfl,rfl⟩
    ·skip
     refine ar (aj ?_)
     first
     | exact ⟨[0,2,3,5,7],[3,2,1,0],[0,1],⟨(),by unfold kx;rw [decide_eq_false (by simp at h2;omega)];rfl⟩,rfl,rfl⟩
     | exact ⟨[0,2,3,5,7],[3,2,1,0],[0,1],⟨(),by unfold kx;rw [decide_eq_true (by simp at h2;omega)];exact h3⟩,rfl,rfl⟩
   ·skip
    refine ar (aj ?_)
    first
    | exact ⟨[0,2,3,5,7],[3,2,1,0],[0,1],⟨(),by unfold kx;rw [decide_eq_false (by simp at h2;omega)];rfl⟩,rfl,rfl⟩
    | exact ⟨[0,2,3,5,7],[3,2,1,0],[0,1],⟨(),by unfold kx;rw [decide_eq_true (by simp at h2;omega)];exact h3⟩,rfl,rfl⟩
  ·skip
   rintro ⟨_,hbad⟩
   refine ah ?_
   refine jt (X := {q:List ByteArray // ((oS x=true∧(fu s x.name).getD false=false)∧q=s++[x.name])∨(oS x=false∧q=s)}) (fun q=>⟨[(0,true,.int .i64 i),(2,true,.pointer (some ⟨b,0,none⟩)),(3,true,.pointer (some ⟨b3,0,none⟩)),(5,true,.pointer (some ⟨b0_0,0,none⟩)),(7,true,.int .i64 (xX im x))],[im.ok,At b3 0 [.v (.map (some bm))],At b 0 im.row,cM (At b 0 im.row) (cM (At b3 0 [.v (.map (some bm))]) im.ok)],[fv bm jn vBo (fu q.1),Box b0_0 159 x.vs]⟩) ?_ ?_
   ·skip
    refine aSR (UO 2 rfl rfl (UL 1 tk4 rfl rfl rfl rfl (aM rfl (GO 1 rfl rfl rfl (GL 1 tk9 rfl rfl rfl rfl rfl (aG rfl rfl (fun hc=>jh (ae rfl hc) rfl) (aU rfl (eu rfl rfl (fun h=>gf rfl h)) (aNn ?_))))))))
    refine ao _ rfl (fun h4 => ?_) (fun h4 => ?_)
    ·skip
     refine ah (aSR (UD 0 tk244 1 rfl rfl rfl rfl (UO 0 rfl rfl (UL 1 tk9 rfl rfl rfl rfl (aU rfl (lZ (k:=x.name) (v0:=false) 0 Tryz.underlying244 (kyT) (by kernel_rfl) rfl rfl rfl) (aNn ?_))))))
     refine ao _ rfl (fun h5 => ?_) (fun h5 => ?_)
     ·skip
      refine aSR (aA rfl (aNn (ax (bB (bB (FZ1 [0] Tryz.results150 rfl ?_))))))
      have hm:oS x=true:=h4
      have hd:(fu s x.name).getD false=true:=h5
      unfold wX;rw [if_neg (by rw [hbad];decide),if_pos hm,if_pos hd];exact ⟨rfl,rfl,rfl⟩
     ·skip
      refine ar (aj (aa (UD 0 tk244 1 rfl rfl rfl rfl (UO 0 rfl rfl (UL 1 tk9 rfl rfl rfl rfl (aD rfl (fg (k:=x.name) (v:=true) 0 Tryz.underlying244 (kyT) rfl rfl rfl rfl (aHK ?_))))))))
      refine bj ?_
      rw [← hY]
      refine aj ?_
      first
      | exact ⟨[0,2,3,5,7],[3,2,1,0],[0,1],⟨s,.inr ⟨h4,rfl⟩⟩,rfl,rfl⟩
      | exact ⟨[0,2,3,5,7],[3,2,1,0],[0,1],⟨s++[x.name],.inl ⟨⟨h4,h5⟩,rfl⟩⟩,rfl,rfl⟩
    ·skip
     refine ar (aj ?_)
     first
     | exact ⟨[0,2,3,5,7],[3,2,1,0],[0,1],⟨s,.inr ⟨h4,rfl⟩⟩,rfl,rfl⟩
     | exact ⟨[0,2,3,5,7],[3,2,1,0],[0,1],⟨s++[x.name],.inl ⟨⟨h4,h5⟩,rfl⟩⟩,rfl,rfl⟩
   ·skip
    rintro ⟨s2,hs2⟩
    refine aSR (UO 0 rfl rfl (UL 1 tk9 rfl rfl rfl rfl (aU rfl (Q0 rfl (gG _ hsn)) (aM rfl (GO 1 rfl rfl rfl (GL 1 tk9 rfl rfl rfl rfl rfl (aG rfl rfl (fun hc=>Q0 (aN (ae rfl hc) rfl) (jU _ hsv)) (aU rfl (bo rfl rfl (fun h=>gt rfl h)) (aM rfl (GO 3 rfl rfl rfl (GL 1 tk3 rfl rfl rfl rfl rfl (aG rfl rfl (fun hc=>fe (by kernel_rfl) (aN (ae rfl hc) (aN (ae rfl rfl) (aN (ae rfl rfl) rfl))) (fun w S fp hst=>(dA _ _ _).quiet0 hst)) (aU rfl (bo rfl rfl (fun h=>gt rfl h)) (aM rfl (GO 5 rfl rfl rfl ?_)))))))))))))))
    refine GL 1 tk3 rfl rfl rfl rfl rfl (aG rfl rfl (fun hc=>fi (ae rfl hc) rfl) (aU rfl (bo rfl rfl (fun h=>gt rfl h)) (aM rfl (GO 4 rfl rfl rfl (GL 1 tk3 rfl rfl rfl rfl rfl (aG rfl rfl (fun hc=>aS rfl) (aG rfl rfl (fun hc=>fe (by kernel_rfl) (aN (ae rfl hc) (aN (ae rfl rfl) (aN (ae rfl hc) rfl))) (fun w S fp hst=>(dA _ _ _).quiet0 hst)) (aU rfl (bo rfl rfl (fun h=>gt rfl h)) (aA rfl (aNn (ax (FZ1 [0] Tryz.results150 rfl ?_))))))))))))
    unfold wX;rw [if_neg (by rw [hbad];decide)]
    rcases hs2 with ⟨⟨hm,hd⟩,rfl⟩ | ⟨hm,rfl⟩
    · rw [if_pos hm,if_neg (by rw [hd];decide)];exact ⟨rfl,rfl,rfl⟩
    · rw [if_neg (by rw [hm];decide)];exact ⟨rfl,rfl,rfl⟩
theorem uz(im:az):Con Tryz.prog 67 [im.val] [im.ok] [] fun r _ _=>r=.bool (qo im):=by
 refine EN1 Tryz.func67 rfl (aSR (LT rfl (cK rfl rfl rfl (fun b0_0=>(aHN ?_)))))
 refine aA rfl (aNn (aSR (LT rfl (gh (jn) (vBo) rfl (fun b1_0=>(aHN ?_))))))
 refine LT rfl (bk (zs:=[.map none]) (by kernel_rfl) rfl (fun b1_1=>(aHN ?_)))
 refine aD rfl (aF 2 tk244 rfl rfl rfl rfl (aHK ?_))
 refine aNs (bS 2 rfl rfl ?_)
 show awp _ _ _ _ ⟨_,At b1_1 0 [.v (.map (some b1_0))]::_,_⟩
 refine bS 0 rfl rfl ?_
 show awp _ _ _ _ ⟨_,At _ 0 _::_,_⟩
 refine aa (UO 9 rfl rfl (UD 9 tk24 0 rfl rfl rfl rfl (aU rfl (aZ Tryz.underlying24 rfl) (aU rfl (ff rfl rfl) (aM rfl (GO 9 rfl rfl rfl (aG rfl rfl (fun hc=>bg (o:=9) tk24 (ae rfl hc) (.of (aI 0 rfl)) rfl) (aG rfl rfl (fun hc=>cF (l:=[.tmp 1,.tmp 3]) rfl) ?_))))))))
 refine ru (caps:=[]) [2,1,0] 1 (by kernel_rfl) _ rfl rfl (Nat.le_of_ble_eq_true rfl) (fun _=>rfl) (fun hc=>(aN (ae rfl hc) (aN (ae rfl hc) rfl))) (fun hc=>by rw [List.append_nil];exact (Con.clH (((pg im.exports 150 [.pointer (some ⟨b0_0,0,none⟩),.pointer (some ⟨b1_1,0,none⟩)] (cM (At b0_0 0 im.row) (cM (At b1_1 0 [.v (.map (some b1_0))]) im.ok)) (fun s=>fv b1_0 jn vBo (fu s)) (wX im) [] (by kernel_rfl) (fun s i x hx=>sW im (by simp at hc;omega) b0_0 b1_0 b1_1 s i x hx)).pre2 (az.f_exports (.of (aI 2 rfl))) (Ent.mk2 (.of (aI 0 rfl)) (Ent.mk2 (.of (aI 1 rfl)) (.of (aI 2 rfl)))))) (fun _ _ _ h=>h.2.1))) ?_
 refine aHK ?_
 refine aU rfl (bo rfl rfl (fun h=>gt rfl h)) (aA rfl (aNn (ax (FZ1 [] Tryz.results67 rfl ?_))))
 rfl
abbrev adr(b1 b2:Nat)(st:List (ByteArray × ByteArray) × List Int):List Res:=[fv b1 dU vBo (fu st.1),fv b2 kZ vBo (fu st.2)]
abbrev aec(im:az)(b b1 b2 b3 b4:Nat):Per:=cM (At b 0 im.row) (cM (At b3 0 [.v (.map (some b1))]) (cM (At b4 0 [.v (.map (some b2))]) im.ok))
theorem sZ(im:az)(hS:fV im)(hlen:im.imports.l.length≤4096)(hsl:im.slots.l.length=im.imports.l.length)(b b1 b2 b3 b4:Nat)(st:List (ByteArray × ByteArray) × List Int)(i:Nat)(x:bK)(hx:im.imports.l[i]? = some x) :
   Con Tryz.prog 155 [.int .i64 i,x.val,.pointer (some ⟨b,0,none⟩),.pointer (some ⟨b3,0,none⟩),.pointer (some ⟨b4,0,none⟩)] [aec im b b1 b2 b3 b4] (adr b1 b2 st)
     fun r ps hp=>ps=[]∧r=.bool (w6 im st i x).1∧hp=adr b1 b2 (w6 im st i x).2:=by
 have hil:=(List.getElem?_eq_some_iff.1 hx).1
 have hc0:=hS.c0
 have hcd:=hS.cd
 have hdz:=hS.dz
 have hzm:=hS.zm
 have hs:im.slots.l[i]? = some (mL im i):=eO (by omega)
 refine EN5 Tryz.func155 rfl (aR _ (Ent.left (.of (aI 0 rfl))) (aR _ (Ent.left (Ent.right (.of (aI 1 rfl)))) (aR _ (Ent.left (Ent.right (Ent.right (.of (aI 2 rfl))))) (aR _ (Ent.right (Ent.right (Ent.right (.of (aI 3 rfl))))) (fy (bK.f_name (Ent.all (f:=bK.ok) (az.f_importsA (.of (aI 0 rfl))) hx)) (fun hsn=>(fy (bK.f_version (Ent.all (f:=bK.ok) (az.f_importsA (.of (aI 0 rfl))) hx)) (fun hsv=>(aSR (LT rfl (cK rfl rfl rfl (fun b0_0=>(aHN ?_)))))))))))))
 refine aA rfl (aNs (DC [11] [11] [] 13 (CF 0 rfl rfl rfl (qFA (off:=0) rfl) (CQ 1 rfl rfl rfl (bJ 2 tk9 rfl rfl rfl) (CF 2 rfl rfl rfl (qFA (off:=1) rfl) (CQ 3 rfl rfl rfl (bJ 2 tk9 rfl rfl rfl) (CF 4 rfl rfl rfl (lY (l:=[(0,.tmp 11),(1,.tmp 13)]) (zs:=[.string .empty,.string .empty]) (sz:=1) (m:=2) (by kernel_rfl) (by kernel_rfl) rfl rfl rfl) (CF 5 rfl rfl rfl (qFA (off:=11) rfl) (CF 6 rfl rfl rfl (bg (o:=11) tk26 rfl (.of (aI 3 rfl)) rfl) (CF 7 rfl rfl rfl (aS rfl) (tU 8 rfl (by kernel_rfl) rfl rfl (fa Tryz.underlying26 tk3 rfl ((az.f_slots (.of (aI 0 rfl)))) rfl (aK hs) rfl rfl) (fun ⟨b1_8,o1_8⟩=>(CF 9 rfl rfl rfl (bg (o:=0) tk3 rfl (.of (aI 0 rfl)) rfl) ?_)))))))))))))
 refine dt 10 [] (by kernel_rfl) (cm ?_ cU)
 refine dC 10 rfl rfl (Eff.x (id (bk (zs:=[.string .empty,.string .empty]) (by kernel_rfl) rfl (fun b1_10=>(CST ?_)))))
 refine dt 11 [] (by kernel_rfl) (cm ?_ cU)
 refine dC 11 rfl rfl (Eff.wild (q:=false) (id (aF 3 tk241 rfl rfl rfl rfl (CST ?_))))
 refine CF 12 rfl rfl rfl (bE rfl) (fX (by kernel_rfl) (aj (ah (aSR (UD 0 tk240 3 rfl rfl rfl rfl (UL 3 tk241 rfl rfl rfl rfl (aU rfl (lZ (k:=(x.name,x.version)) (v0:=false) 0 Tryz.underlying240 (kyP) (by kernel_rfl) rfl rfl rfl) (aM rfl (aG rfl rfl (fun hc=>aS rfl) (aG rfl rfl (fun hc=>ft (ae rfl hc) rfl) (aG rfl rfl (fun hc=>aS (ae rfl hc)) (aG rfl rfl (fun hc=>bg (o:=0) tk119 rfl (.of (aI 2 rfl)) rfl) (aG rfl rfl (fun hc=>aS rfl) (aG rfl rfl (fun hc=>lZ (k:=mL im i) (v0:=false) 1 Tryz.underlying119 (kyI) (by kernel_rfl) (ae rfl hc) (ae rfl hc) rfl) ?_))))))))))))))
 refine aG rfl rfl (fun hc=>aS (ae rfl hc)) (aG rfl rfl (fun hc=>aS rfl) (GO 2 rfl rfl rfl (aG rfl rfl (fun hc=>bg (o:=2) tk3 (ae rfl hc) (.of (aI 4 rfl)) rfl) (GO 3 rfl rfl rfl (aG rfl rfl (fun hc=>bg (o:=3) tk3 (ae rfl hc) (.of (aI 4 rfl)) rfl) ?_)))))
 refine aG rfl rfl (fun hc=>dp (ae rfl hc) rfl (by (first | omega | (simp at hc;omega)))) ?_
 refine aG rfl rfl (fun hc=>fe (by kernel_rfl) (aN (ae rfl hc) (aN (ae rfl hc) (aN (ae rfl hc) rfl))) (fun w S fp hst=>(dA _ _ _).quiet0 hst)) (aG rfl rfl (fun hc=>cV (ae rfl hc)) (aG rfl rfl (fun hc=>eu (ae rfl hc) rfl (fun h=>gf hc h)) (aG rfl rfl (fun hc=>aS (ae rfl hc)) (aG rfl rfl (fun hc=>aS rfl) (aG rfl rfl (fun hc=>gZ (ae rfl hc) rfl (by decide)) (aG rfl rfl (fun hc=>ft (ae rfl hc) rfl) (aG rfl rfl (fun hc=>eu (ae rfl hc) rfl (fun h=>gf hc h)) (aG rfl rfl (fun hc=>bo (ae rfl hc) rfl (fun h=>gt hc h)) (aU rfl (eu rfl rfl (fun h=>gf rfl h)) (aNn ?_))))))))))
 refine ao _ rfl (fun h1 => ?_) (fun h1 => ?_)
 ·skip
  refine aSR (aA rfl (aNn (ax (bB (FZ1 [0,1] Tryz.results155 rfl ?_)))))
  have hb:wZ im st i x=true:=h1
  unfold w6;rw [if_pos hb];exact ⟨rfl,rfl,rfl⟩
 ·skip
  have hb:wZ im st i x=false:=h1
  refine ar (aj (ah (DC [4,5] [] [] 6 (CF 0 rfl rfl rfl (bg (o:=0) tk240 rfl (.of (aI 3 rfl)) rfl) (CQ 1 rfl rfl rfl (bJ 3 tk241 rfl rfl rfl) (CF 2 rfl rfl rfl (bg (o:=0) tk119 rfl (.of (aI 2 rfl)) rfl) (CF 3 rfl rfl rfl (aS rfl) ?_)))))))
  refine dt 4 [] (by kernel_rfl) (cm ?_ cU)
  refine dC 4 rfl rfl (Eff.framed (q:=false) [0] rfl rfl acW (id (fg (k:=(x.name,x.version)) (v:=true) 0 Tryz.underlying240 (kyP) rfl rfl rfl rfl (xP (CST ?_)))))
  refine dt 5 [] (by kernel_rfl) (cm ?_ cU)
  refine dC 5 rfl rfl (Eff.framed (q:=false) [1] rfl rfl acW (id (fg (k:=mL im i) (v:=true) 0 Tryz.underlying119 (kyI) rfl rfl rfl rfl (xP (CST ?_)))))
  refine fX (by kernel_rfl) (aj (aSR (UO 0 rfl rfl (UL 2 tk9 rfl rfl rfl rfl (aU rfl (Q0 rfl (gG _ hsn)) (aM rfl (GO 1 rfl rfl rfl (GL 2 tk9 rfl rfl rfl rfl rfl (aG rfl rfl (fun hc=>Q0 (aN (ae rfl hc) rfl) (jU _ hsv)) (aU rfl (bo rfl rfl (fun h=>gt rfl h)) (aM rfl (GO 2 rfl rfl rfl (GL 2 tk3 rfl rfl rfl rfl rfl (aG rfl rfl (fun hc=>fe (by kernel_rfl) (aN (ae rfl hc) (aN (ae rfl rfl) (aN (ae rfl rfl) rfl))) (fun w S fp hst=>(dA _ _ _).quiet0 hst)) ?_))))))))))))))
  refine aU rfl (bo rfl rfl (fun h=>gt rfl h)) (aA rfl (aNn (ax (FZ1 [0,1] Tryz.results155 rfl ?_))))
  unfold w6;rw [if_neg (by rw [hb];decide)]
  refine ⟨rfl,rfl,?_⟩
  show _=[fv b1 dU vBo (fu (st.1++[ads x])),fv b2 kZ vBo (fu (st.2++[mL im i]))]
  rw [hY,hY];rfl
theorem uD(im:az)(hS:fV im):Con Tryz.prog 68 [im.val] [im.ok] [] fun r _ _=>r=.bool (iR im):=by
 refine EN1 Tryz.func68 rfl (aSR (LT rfl (cK rfl rfl rfl (fun b0_0=>(aHN ?_)))))
 refine aA rfl (aNs (ah (bS 0 rfl rfl ?_)))
 show awp _ _ _ _ ⟨_,At _ 0 _::_,_⟩
 refine aa (UO 10 rfl rfl (UD 10 tk25 0 rfl rfl rfl rfl (aU rfl (aZ Tryz.underlying25 rfl) (aU rfl (eA rfl rfl) (aM rfl (GO 11 rfl rfl rfl (aG rfl rfl (fun hc=>bg (o:=11) tk26 (ae rfl hc) (.of (aI 0 rfl)) rfl) (aG rfl rfl (fun hc=>aZ Tryz.underlying26 (ae rfl hc)) (GO 10 rfl rfl rfl (aG rfl rfl (fun hc=>bg (o:=10) tk25 (ae rfl hc) (.of (aI 0 rfl)) rfl) (aG rfl rfl (fun hc=>aZ Tryz.underlying25 (ae rfl hc)) (aG rfl rfl (fun hc=>ft (ae rfl hc) (ae rfl hc)) (aU rfl (eu rfl rfl (fun h=>gf rfl h)) (aNn ?_))))))))))))))
 refine ao _ rfl (fun h1 => ?_) (fun h1 => ?_)
 ·skip
  refine aSR (aA rfl (aNn (ax (bB (FZ1 [] Tryz.results68 rfl ?_)))))
  have hh:vd im=true:=h1
  unfold iR;rw [if_pos hh]
 ·skip
  have hh:vd im=false:=h1
  have hh2:im.imports.l.length≤4096∧im.slots.l.length=im.imports.l.length:=by
    unfold vd at hh
    simp only [Bool.or_eq_false_iff,Bool.not_eq_false',decide_eq_false_iff_not,decide_eq_true_eq] at hh
    omega
  refine ar (aj (aSR (LT rfl (gh (dU) (vBo) rfl (fun b3_0=>(aHN ?_))))))
  refine LT rfl (bk (zs:=[.map none]) (by kernel_rfl) rfl (fun b3_1=>(aHN ?_)))
  refine aD rfl (aF 2 tk240 rfl rfl rfl rfl (aHK ?_))
  refine aNn (aSR (LT rfl (gh (kZ) (vBo) rfl (fun b4_0=>(aHN ?_)))))
  refine LT rfl (bk (zs:=[.map none]) (by kernel_rfl) rfl (fun b4_1=>(aHN ?_)))
  refine aD rfl (aF 4 tk119 rfl rfl rfl rfl (aHK ?_))
  refine aNs (bS 2 rfl rfl (bS 4 rfl rfl ?_))
  show awp _ _ _ _ ⟨_,At b4_1 0 [.v (.map (some b4_0))]::At b3_1 0 [.v (.map (some b3_0))]::_,_⟩
  refine aa (UO 10 rfl rfl (UD 10 tk25 2 rfl rfl rfl rfl (aU rfl (cF (l:=[.tmp 1,.tmp 3,.tmp 4]) rfl) ?_)))
  refine LF rfl (EC [1,2,3,0] [1,3] rfl (Con.clH (ack (R:=fun r _ _=>r=.bool (fQ (w6 im) ([],[]) 0 im.imports.l).1) (((ph im.imports 155 [.pointer (some ⟨b0_0,0,none⟩),.pointer (some ⟨b3_1,0,none⟩),.pointer (some ⟨b4_1,0,none⟩)] (aec im b0_0 b3_0 b4_0 b3_1 b4_1) (fun st=>Bun (adr b3_0 b4_0 st)) (w6 im) ([],[]) (by kernel_rfl) (fun st i x hx=>(acg (sZ im hS hh2.1 hh2.2 b0_0 b3_0 b4_0 b3_1 b4_1 st i x hx)).post fun _ _ _ ⟨_,h1,h2,h3,h4⟩=>⟨h2,h3,by rw [h1,h4]⟩)).pre2 (az.f_imports (.of (aI 3 rfl))) (Ent.mk2 (.of (aI 0 rfl)) (Ent.mk2 (.of (aI 1 rfl)) (Ent.mk2 (.of (aI 2 rfl)) (.of (aI 3 rfl)))))).post fun r ps' hp' ⟨_,h2,h3⟩=>⟨_,h3,h2⟩)) (fun _ _ _ h=>h)) ?_)
  rintro _ _ _ ⟨rfl,rfl,rfl⟩
  refine aST ?_
  refine aA rfl (aNn (ax (FZ1 [] Tryz.results68 rfl ?_)))
  unfold iR;rw [if_neg (by rw [hh];decide)]
theorem aaH (im:az) (hS:fV im) (hsl:im.slots.l.length=im.imports.l.length):Con Tryz.prog 69 [im.val] [im.ok] [] fun r _ _=>r=.bool (mr im):=by
 have hc0:=hS.c0
 have hcd:=hS.cd
 have hdz:=hS.dz
 have hzm:=hS.zm
 obtain ⟨w0,hw0⟩:∃ w0,fQ (ia im) (0,0) 0 im.dyns.l=w0:=⟨_,rfl⟩
 refine EN1 Tryz.func69 rfl (bY (az.f_dyns (.of (aI 0 rfl))) (fun hdl=>(bY (az.f_slots (.of (aI 0 rfl))) (fun hsll=>(bY (az.f_imports (.of (aI 0 rfl))) (fun hill=>(aSR (LT rfl (cK rfl rfl rfl (fun b0_0=>(aHN ?_)))))))))))
 refine aA rfl (aNn (aSR (aA rfl (aA rfl (bj (aj (ah (ah (bS 0 rfl rfl ?_)))))))))
 show awp _ _ _ _ ⟨_,At _ 0 _::_,_⟩
 refine aa (UO 13 rfl rfl (UD 13 tk27 0 rfl rfl rfl rfl (aU rfl (aZ Tryz.underlying27 rfl) (aM rfl (aNn (aq (aQ [1,3,4,10,11,12] [1,0] [] (fun (q:Nat × (Int × Int)) st=>(q.1≤im.dyns.l.length∧fQ (ia im) q.2 q.1 (im.dyns.l.drop q.1)=w0∧(0≤q.2.1∧q.2.1≤1048576)∧0≤q.2.2∧q.2.2≤q.1)∧st=⟨[(1,true,.pointer (some ⟨b0_0,0,none⟩)),(3,true,.int .i64 q.2.1),(4,true,.int .i64 q.2.2),(10,true,im.dyns.val),(11,true,.int .i64 im.dyns.l.length),(12,true,.int .i64 q.1)],[At b0_0 0 im.row,im.ok],[]⟩) (fun q=>im.dyns.l.length-q.1) rfl (⟨(0,(0,0)),⟨Nat.zero_le _,hw0,⟨by decide,by decide⟩,by decide,by decide⟩,rfl⟩) ?_)))))))
 rintro ⟨k,e,n⟩ st ⟨⟨hk,hw,⟨he0,he1⟩,hn0,hn1⟩,rfl⟩
 dsimp only at hk hw he0 he1 hn0 hn1 ⊢
 refine aSR (aU rfl (bu rfl rfl) (aNs ?_))
 refine ao _ rfl (fun h1 => ?_) (fun h1 => ?_)
 ·skip
  have hk':k<im.dyns.l.length:=by simpa using h1
  obtain ⟨x,hx⟩:∃ x,im.dyns.l[k]? = some x:=⟨_,List.getElem?_eq_getElem hk'⟩
  rw [oK (ia im) hx] at hw
  have hwd:=zB x.kind
  refine ar (aj (ah (aq (aSR (iJ true rfl rfl (fun _=>bI Tryz.underlying27 tk157 rfl ((az.f_dyns (.of (aI 1 rfl)))) rfl (aK hx) rfl rfl) (fun h=>absurd h (by decide)) (fun ⟨b4_0,o4_0⟩=>(US 0 tk157 0 rfl rfl rfl rfl rfl (LT rfl (bk (zs:=[.int .i64 0,.int .i64 0,.int .i64 0,.int .i64 0]) (by kernel_rfl) rfl (fun b4_2=>(aHN ?_)))))))))))
  refine aD rfl (aF 0 tk157 rfl rfl rfl rfl (aHK ?_))
  refine aNs (ah (DR [] 27 (VO 0 1 rfl rfl rfl (VL 1 0 tk3 rfl rfl rfl rfl rfl (bV 2 rfl rfl (Q0 rfl (dA _ _ _)) (bV 3 rfl rfl (cV rfl) (VM 4 rfl rfl (bW 5 rfl rfl rfl (fun hc=>qFA (off:=0) rfl) (bW 6 rfl rfl rfl (fun hc=>bJ 0 tk3 (ae rfl hc) rfl rfl) (bW 7 rfl rfl rfl (fun hc=>aS rfl) (bW 8 rfl rfl rfl (fun hc=>qFA (off:=3) rfl) (bW 9 rfl rfl rfl (fun hc=>bg (o:=3) tk3 (ae rfl hc) (.of (aI 1 rfl)) rfl) (bW 10 rfl rfl rfl (fun hc=>qFA (off:=1) rfl) (bW 11 rfl rfl rfl (fun hc=>bJ 0 tk3 (ae rfl hc) rfl rfl) (bW 12 rfl rfl rfl (fun hc=>Q0 (aN (ae rfl hc) rfl) (pN _)) ?_)))))))))))))))
  refine bW 13 rfl rfl rfl (fun hc=>dp (ae rfl hc) (ae rfl hc) (by (first | omega | (simp at hc;omega)))) ?_
  refine bW 14 rfl rfl rfl (fun hc=>fe (by kernel_rfl) (aN (ae rfl hc) (aN (ae rfl hc) (aN (ae rfl hc) rfl))) (fun w S fp hst=>(dA _ _ _).quiet0 hst)) (bW 15 rfl rfl rfl (fun hc=>cV (ae rfl hc)) (bV 16 rfl rfl (eu rfl rfl (fun h=>gf rfl h)) (VM 17 rfl rfl (bW 18 rfl rfl rfl (fun hc=>qFA (off:=2) rfl) (bW 19 rfl rfl rfl (fun hc=>bJ 0 tk3 (ae rfl hc) rfl rfl) (bW 20 rfl rfl rfl (fun hc=>qFA (off:=10) rfl) (bW 21 rfl rfl rfl (fun hc=>bg (o:=10) tk25 (ae rfl hc) (.of (aI 1 rfl)) rfl) (bW 22 rfl rfl rfl (fun hc=>aZ Tryz.underlying25 (ae rfl hc)) ?_))))))))
  refine bW 23 rfl rfl rfl (fun hc=>dp (ae rfl hc) rfl (by (first | omega | (simp at hc;omega)))) ?_
  refine bW 24 rfl rfl rfl (fun hc=>fe (by kernel_rfl) (aN (ae rfl hc) (aN (ae rfl rfl) (aN (ae rfl hc) rfl))) (fun w S fp hst=>(dA _ _ _).quiet0 hst)) (bW 25 rfl rfl rfl (fun hc=>cV (ae rfl hc)) (bV 26 rfl rfl (eu rfl rfl (fun h=>gf rfl h)) (BN (aj ?_))))
  refine ao _ rfl (fun h2 => ?_) (fun h2 => ?_)
  ·skip
   have hb:qe im e x=true:=h2
   have hd:ia im (e,n) k x=(false,(e,n)):=by unfold ia;rw [if_pos hb]
   refine aSR (aA rfl (aNn (ax (bB (dr (bB (bB (dr (bB (FZ1 [] Tryz.results69 rfl ?_))))))))))
   rw [hd] at hw
   unfold mr;rw [hw0,← hw];rfl
  ·skip
   have hb:qe im e x=false:=h2
   obtain ⟨hkr,har,hir⟩:=wT hb
   refine ar (aj (ah (DR [] 7 (VO 0 0 rfl rfl rfl (VL 1 0 tk3 rfl rfl rfl rfl rfl (VO 2 1 rfl rfl rfl (VL 3 0 tk3 rfl rfl rfl rfl rfl (bV 4 rfl rfl (Q0 rfl (pN _)) (bV 5 rfl rfl (aX rfl rfl (by omega)) (bV 6 rfl rfl (bE rfl) (BN (aj (aSR (UO 1 rfl rfl ?_))))))))))))))
   refine UL 0 tk3 rfl rfl rfl rfl (aNn (aq (aSR (aU rfl (cJ rfl rfl) (aA rfl (aNn ?_))))))
   refine ao _ rfl (fun h3 => ?_) (fun h3 => ?_)
   ·skip
    have hk3:x.kind=3:=by simpa using h3
    refine ah (ah (DR [] 14 (VO 0 2 rfl rfl rfl (VL 1 0 tk3 rfl rfl rfl rfl rfl (bV 2 rfl rfl (bu rfl rfl) (VM 3 rfl rfl (bW 4 rfl rfl rfl (fun hc=>qFA (off:=11) rfl) (bW 5 rfl rfl rfl (fun hc=>bg (o:=11) tk26 (ae rfl hc) (.of (aI 1 rfl)) rfl) (bW 6 rfl rfl rfl (fun hc=>qFA (off:=2) rfl) (bW 7 rfl rfl rfl (fun hc=>bJ 0 tk3 (ae rfl hc) rfl rfl) ?_))))))))))
    refine qU 8 rfl (by kernel_rfl) _ rfl rfl (fun hc=>bI Tryz.underlying26 tk3 (ae rfl hc) ((az.f_slots (.of (aI 2 rfl)))) (ae rfl hc) (fF (i:=x.import_) (by omega) (by simp at hc;omega)) ((Int.toNat_of_nonneg (by simp at hc;omega)).symm) rfl) (fun _=>⟨(0,0)⟩) (fun ⟨b10_8,o10_8⟩ => ?_)
    refine bW 9 rfl rfl rfl (fun hc=>gz (o:=0) tk3 (ae rfl hc) (aI 0 rfl) hc rfl) (bW 10 rfl rfl rfl (fun hc=>qFA (off:=0) rfl) (bW 11 rfl rfl rfl (fun hc=>bJ 0 tk3 (ae rfl hc) rfl rfl) (bW 12 rfl rfl rfl (fun hc=>ft (ae rfl hc) (ae rfl hc)) (bV 13 rfl rfl (eu rfl rfl (fun h=>gf rfl h)) (BN (aj ?_))))))
    refine ao _ rfl (fun h4 => ?_) (fun h4 => ?_)
    ·skip
     have hs4:tb im x=true:=h4
     have hd:ia im (e,n) k x=(false,(e,n)):=by unfold ia;rw [if_neg (by rw [hb];decide),if_pos hk3,if_pos hs4]
     refine aSR (aA rfl (aNn (ax (bB (dr (dr (bB (bB (dr (bB (FZ1 [] Tryz.results69 rfl ?_)))))))))))
     rw [hd] at hw
     unfold mr;rw [hw0,← hw];rfl
    ·skip
     have hs4:tb im x=false:=h4
     have hd:ia im (e,n) k x=(true,(x.at_+ea x.kind,n+1)):=by unfold ia;rw [if_neg (by rw [hb];decide),if_pos hk3,if_neg (by rw [hs4];decide)]
     refine ar (aj (aa (aM rfl (aU rfl (aX rfl rfl (by omega)) (aA rfl (bj (bp (bp (aj (aa (aU rfl (aX rfl rfl (by omega)) (aM rfl (aNn ?_)))))))))))))
     refine ⟨[1,3,4,10,11,12],[1,0],[],rfl,?_⟩
     rw [hd] at hw
     refine ⟨(k+1,(x.at_+ea x.kind,n+1)),⟨⟨hk',hw,⟨?_,?_⟩,?_,?_⟩,rfl⟩,?_⟩<;>dsimp only<;>omega
   ·skip
    have hk3:¬ x.kind=3:=by simpa using h3
    refine ah (aSR (aU rfl (cJ rfl rfl) (aA rfl (aNn ?_))))
    refine ao _ rfl (fun h5 => ?_) (fun h5 => ?_)
    ·skip
     refine ar (aj ?_)
     refine ao _ rfl (fun _ => ?_) (fun h=>absurd (h5.symm.trans h) (by decide))
     refine aSR (UO 2 rfl rfl (UL 0 tk3 rfl rfl rfl rfl (aU rfl (bu rfl rfl) (aNn ?_))))
     refine ao _ rfl (fun h6 => ?_) (fun h6 => ?_)
     ·skip
      have hki:x.import_<0:=by simpa using h6
      have hd:ia im (e,n) k x=(false,(e,n)):=by unfold ia;rw [if_neg (by rw [hb];decide),if_neg hk3,if_pos ⟨by simp at h5;omega,hki⟩]
      refine aSR (aA rfl (aNn (ax (dr (dr (bB (bB (dr (bB (FZ1 [] Tryz.results69 rfl ?_))))))))))
      rw [hd] at hw
      unfold mr;rw [hw0,← hw];rfl
     ·skip
      have hki:¬ x.import_<0:=by simpa using h6
      have hd:ia im (e,n) k x=(true,(x.at_+ea x.kind,n)):=by unfold ia;rw [if_neg (by rw [hb];decide),if_neg hk3,if_neg (fun h=>hki h.2)]
      refine ar (bp (bp (aj (aa (aU rfl (aX rfl rfl (by omega)) (aM rfl (aNn ?_)))))))
      refine ⟨[1,3,4,10,11,12],[1,0],[],rfl,?_⟩
      rw [hd] at hw
      refine ⟨(k+1,(x.at_+ea x.kind,n)),⟨⟨hk',hw,⟨?_,?_⟩,?_,?_⟩,rfl⟩,?_⟩<;>dsimp only<;>omega
    ·skip
     refine aSR (aU rfl (cJ rfl rfl) (aA rfl (aNn ?_)))
     refine ao _ rfl (fun h7 => ?_) (fun h7 => ?_)
     ·skip
      refine ar (aj ?_)
      refine ao _ rfl (fun _ => ?_) (fun h=>absurd (h7.symm.trans h) (by decide))
      refine aSR (UO 2 rfl rfl (UL 0 tk3 rfl rfl rfl rfl (aU rfl (bu rfl rfl) (aNn ?_))))
      refine ao _ rfl (fun h8 => ?_) (fun h8 => ?_)
      ·skip
       have hki:x.import_<0:=by simpa using h8
       have hd:ia im (e,n) k x=(false,(e,n)):=by unfold ia;rw [if_neg (by rw [hb];decide),if_neg hk3,if_pos ⟨by simp at h7;omega,hki⟩]
       refine aSR (aA rfl (aNn (ax (dr (dr (bB (bB (dr (bB (FZ1 [] Tryz.results69 rfl ?_))))))))))
       rw [hd] at hw
       unfold mr;rw [hw0,← hw];rfl
      ·skip
       have hki:¬ x.import_<0:=by simpa using h8
       have hd:ia im (e,n) k x=(true,(x.at_+ea x.kind,n)):=by unfold ia;rw [if_neg (by rw [hb];decide),if_neg hk3,if_neg (fun h=>hki h.2)]
       refine ar (bp (bp (aj (aa (aU rfl (aX rfl rfl (by omega)) (aM rfl (aNn ?_)))))))
       refine ⟨[1,3,4,10,11,12],[1,0],[],rfl,?_⟩
       rw [hd] at hw
       refine ⟨(k+1,(x.at_+ea x.kind,n)),⟨⟨hk',hw,⟨?_,?_⟩,?_,?_⟩,rfl⟩,?_⟩<;>dsimp only<;>omega
     ·skip
      refine aa (aU rfl (cJ rfl rfl) (aA rfl (aNn ?_)))
      refine ao _ rfl (fun h9 => ?_) (fun h9 => ?_)
      ·skip
       refine aSR (UO 2 rfl rfl (UL 0 tk3 rfl rfl rfl rfl (aU rfl (bu rfl rfl) (aNn ?_))))
       refine ao _ rfl (fun h10 => ?_) (fun h10 => ?_)
       ·skip
        have hki:x.import_<0:=by simpa using h10
        have hd:ia im (e,n) k x=(false,(e,n)):=by unfold ia;rw [if_neg (by rw [hb];decide),if_neg hk3,if_pos ⟨by simp at h9;omega,hki⟩]
        refine aSR (aA rfl (aNn (ax (dr (dr (bB (bB (dr (bB (FZ1 [] Tryz.results69 rfl ?_))))))))))
        rw [hd] at hw
        unfold mr;rw [hw0,← hw];rfl
       ·skip
        have hki:¬ x.import_<0:=by simpa using h10
        have hd:ia im (e,n) k x=(true,(x.at_+ea x.kind,n)):=by unfold ia;rw [if_neg (by rw [hb];decide),if_neg hk3,if_neg (fun h=>hki h.2)]
        refine ar (bp (bp (aj (aa (aU rfl (aX rfl rfl (by omega)) (aM rfl (aNn ?_)))))))
        refine ⟨[1,3,4,10,11,12],[1,0],[],rfl,?_⟩
        rw [hd] at hw
        refine ⟨(k+1,(x.at_+ea x.kind,n)),⟨⟨hk',hw,⟨?_,?_⟩,?_,?_⟩,rfl⟩,?_⟩<;>dsimp only<;>omega
      ·skip
       have hkn:¬ (x.kind=5∨x.kind=6∨x.kind=7):=by simp at h5 h7 h9;omega
       have hd:ia im (e,n) k x=(true,(x.at_+ea x.kind,n)):=by unfold ia;rw [if_neg (by rw [hb];decide),if_neg hk3,if_neg (fun h=>hkn h.1)]
       refine ar (bp (bp (aj (aa (aU rfl (aX rfl rfl (by omega)) (aM rfl (aNn ?_)))))))
       refine ⟨[1,3,4,10,11,12],[1,0],[],rfl,?_⟩
       rw [hd] at hw
       refine ⟨(k+1,(x.at_+ea x.kind,n)),⟨⟨hk',hw,⟨?_,?_⟩,?_,?_⟩,rfl⟩,?_⟩<;>dsimp only<;>omega
 ·skip
  have hke:k=im.dyns.l.length:=by have:=of_decide_eq_false h1;omega
  subst hke
  have hwe:(true,(e,n))=w0:=by rw [← hw,List.drop_length];rfl
  refine aT (aW (aW (aY (aj (ah (aSR (UO 11 rfl rfl (UD 11 tk26 0 rfl rfl rfl rfl (aU rfl (aZ Tryz.underlying26 rfl) (aM rfl (aNn (aq ?_))))))))))))
  refine aQ [4,78,79,80] [1,0] [] (fun (j:Nat) st=>j≤im.slots.l.length∧st=⟨[(4,true,.int .i64 (n-mM (im.slots.l.take j))),(78,true,im.slots.val),(79,true,.int .i64 im.slots.l.length),(80,true,.int .i64 j)],[At b0_0 0 im.row,im.ok],[]⟩) (fun j=>im.slots.l.length-j) rfl (⟨0,⟨Nat.zero_le _,by rw [List.take_zero];show _=(⟨[(4,true,.int .i64 (n-0)),_,_,_],_,_⟩:Sta);rw [Int.sub_zero];rfl⟩⟩) ?_
  rintro j st ⟨hj,rfl⟩
  have hsn:=vQ (im.slots.l.take j)
  have hsm:=List.length_take_le j im.slots.l
  refine aSR (aU rfl (bu rfl rfl) (aNs ?_))
  refine ao _ rfl (fun h11 => ?_) (fun h11 => ?_)
  ·skip
   have hj':j<im.slots.l.length:=by simpa using h11
   obtain ⟨s,hs⟩:∃ s,im.slots.l[j]? = some s:=⟨_,List.getElem?_eq_getElem hj'⟩
   have htk:=xu (im.slots.l.take j) s
   have hta:im.slots.l.take (j+1)=im.slots.l.take j++[s]:=by rw [List.take_add_one,hs];rfl
   rw [← hta] at htk
   have hsn2:=vQ (im.slots.l.take (j+1))
   have hsm2:=List.length_take_le (j+1) im.slots.l
   refine ar (aj (ah (aq (aSR (iJ true rfl rfl (fun _=>bI Tryz.underlying26 tk3 rfl ((az.f_slots (.of (aI 1 rfl)))) rfl (aK hs) rfl rfl) (fun h=>absurd h (by decide)) (fun ⟨b21_0,o21_0⟩=>(US 0 tk3 0 rfl rfl rfl rfl rfl (aA rfl (aNn (aSR (aM rfl (aU rfl (ft rfl rfl) (aNn ?_)))))))))))))
   refine ao _ rfl (fun h12 => ?_) (fun h12 => ?_)
   ·skip
    have hs1:¬ s = -1:=by simpa using h12
    rw [if_neg hs1] at htk
    refine aa (aM rfl (aU rfl (dp rfl rfl (by omega)) (aA rfl (bj (bp (aj (aa (aU rfl (aX rfl rfl (by omega)) (aM rfl (aNn ?_))))))))))
    refine ⟨[4,78,79,80],[1,0],[],rfl,?_⟩
    exact ⟨j+1,⟨hj',by rw [htk,← Int.sub_sub];rfl⟩,by omega⟩
   ·skip
    have hs1:s = -1:=by simpa using h12
    rw [if_pos hs1] at htk
    refine ar (bp (aj (aa (aU rfl (aX rfl rfl (by omega)) (aM rfl (aNn ?_))))))
    refine ⟨[4,78,79,80],[1,0],[],rfl,?_⟩
    exact ⟨j+1,⟨hj',by rw [htk];rfl⟩,by omega⟩
  ·skip
   have hje:j=im.slots.l.length:=by have:=of_decide_eq_false h11;omega
   subst hje
   refine aT (aW (aW (aY (aj (aSR (aM rfl (aU rfl (cJ rfl rfl) (aA rfl (aNn (ax (FZ1 [] Tryz.results69 rfl ?_)))))))))))
   unfold mr;rw [hw0,← hwe,List.take_length];rfl
end Go.Proofs.YtfkcmbonmpcbfaaGreat

namespace Go.Proofs.YtfkcmbonmpcbfaaGreat
open Go.RowKit Go.Lp Go.Sy Go.Lv
def tF(im:az):Bool:=(((decide ((im.inits.l.length:Int)≤4096) && decide ((im.lasts.l.length:Int)≤4096)) && allI (fun _ n=>instrB im.code n) 0 im.inits.l) && allI (fun _ n=>instrB im.code n) 0 im.lasts.l) && (decide (im.entry = -1) || (instrB im.code im.entry && !im.lib))
def xY(s:List ByteArray)(_:Nat)(n:ByteArray):Bool × List ByteArray:=(fj n && !(fu s n).getD false,s++[n])
def nu(im:az)(v:Bool):Bool:=(decide ((im.needs.l.length:Int)≤64) && v) && (fQ xY [im.name] 0 im.needs.l).1
def abd(im:az)(i:Nat)(x:cN):Bool:=(((nS x.name && (decide (x.kind=0) || decide (x.kind=1))) && il x.at_ 0 im.zero) && decide (x.size≥0)) && (decide ((i:Int)=0) || decide ((elt im.info.marks.l ((i:Int)-1)).at_≤x.at_))
def abc(im:az)(i:Nat)(x:cS):Bool:=(((decide (x.sec=0) && nS x.file) && il x.at_ 0 (im.code-1)) && decide (x.line≥0)) && (decide ((i:Int)=0) || decide ((elt im.info.lines.l ((i:Int)-1)).at_≤x.at_))
def xk(x:dw):Bool:=(il x.from_ 0 1048576 && il x.size 0 1048576) && il x.to_ 0 1048576
def aaQ(im:az)(x:cq):Bool:=((((allI (fun _ p=>xk p) 0 x.pieces.l && fj x.sec) && mB x.obj) && decide ((x.from_.size:Int)=32)) && (decide (x.code = -1) || instrB im.code x.code)) && decide ((x.pieces.l.length:Int)≤64)
def pd(im:az):Bool:=decide ((im.changes.l.length:Int)≤4096) && allI (fun _ x=>aaQ im x) 0 im.changes.l
open Go.Proofs.Tryz
attribute [local irreducible] aL aB awp aC fwp Quiet
theorem ob(im:az)(hS:fV im)(b i:Nat)(x:Int):Con Tryz.prog 157 [.int .i64 i,.int .i64 x,.pointer (some ⟨b,0,none⟩)] [At b 0 im.row] [] fun r _ _=>r=.bool (instrB im.code x):=by
 have hc0:=hS.c0
 have hcd:=hS.cd
 have hdz:=hS.dz
 have hzm:=hS.zm
 refine EN3 Tryz.func157 rfl (aSR (aA rfl (aNn (aSR (UD 0 tk40 0 rfl rfl rfl rfl (aM rfl (aU rfl (Q0 rfl (con_instr im ⟨hc0,by omega⟩ x)) (aA rfl (aNn (ax (FZ1 [] Tryz.results157 rfl ?_)))))))))))
 rfl
theorem wO(im:az)(hS:fV im):Con Tryz.prog 70 [im.val] [im.ok] [] fun r _ _=>r=.bool (tF im):=by
 have hc0:=hS.c0
 have hcd:=hS.cd
 have hdz:=hS.dz
 have hzm:=hS.zm
 refine EN1 Tryz.func70 rfl (aSR (LT rfl (cK rfl rfl rfl (fun b0_0=>(aHN ?_)))))
 refine aA rfl (aNs (bS 0 rfl rfl ?_))
 show awp _ _ _ _ ⟨_,At _ 0 _::_,_⟩
 refine aa (aU rfl (cF (l:=[.tmp 1]) rfl) (aA rfl (aNn (aSR (UO 14 rfl rfl (UD 14 tk26 0 rfl rfl rfl rfl (aU rfl (aZ Tryz.underlying26 rfl) (aU rfl (ff rfl rfl) (aM rfl (GO 15 rfl rfl rfl (aG rfl rfl (fun hc=>bg (o:=15) tk26 (ae rfl hc) (.of (aI 0 rfl)) rfl) (aG rfl rfl (fun hc=>aZ Tryz.underlying26 (ae rfl hc)) (aG rfl rfl (fun hc=>ff (ae rfl hc) rfl) (aU rfl (bo rfl rfl (fun h=>gt rfl h)) (aM rfl ?_)))))))))))))))
 refine GO 14 rfl rfl rfl (aG rfl rfl (fun hc=>bg (o:=14) tk26 (ae rfl hc) (.of (aI 0 rfl)) rfl) (aG rfl rfl (fun hc=>aS rfl) (aG rfl rfl (fun hc=>QC (aN (ae rfl hc) (aN (ae rfl hc) rfl)) (fun w S fp hst=>(((jT im.inits 157 [.pointer (some ⟨b0_0,0,none⟩)] (At b0_0 0 im.row) (fun _ n=>instrB im.code n) (by kernel_rfl) (fun i x _=>ob im hS b0_0 i x)).post (fun _ _ _ h=>h.2.2)).pre2 (ps:=[At b0_0 0 im.row,im.ok]) (az.f_inits (.of (aI 1 rfl))) (.of (aI 0 rfl))).quiet2 (aI 0 rfl) (aI 1 rfl) hst)) (aU rfl (bo rfl rfl (fun h=>gt rfl h)) (aM rfl (GO 15 rfl rfl rfl (aG rfl rfl (fun hc=>bg (o:=15) tk26 (ae rfl hc) (.of (aI 0 rfl)) rfl) (aG rfl rfl (fun hc=>aS rfl) (aG rfl rfl (fun hc=>QC (aN (ae rfl hc) (aN (ae rfl hc) rfl)) (fun w S fp hst=>(((jT im.lasts 157 [.pointer (some ⟨b0_0,0,none⟩)] (At b0_0 0 im.row) (fun _ n=>instrB im.code n) (by kernel_rfl) (fun i x _=>ob im hS b0_0 i x)).post (fun _ _ _ h=>h.2.2)).pre2 (ps:=[At b0_0 0 im.row,im.ok]) (az.f_lasts (.of (aI 1 rfl))) (.of (aI 0 rfl))).quiet2 (aI 0 rfl) (aI 1 rfl) hst)) (aU rfl (bo rfl rfl (fun h=>gt rfl h)) (aM rfl (GO 16 rfl rfl rfl ?_))))))))))))
 refine aG rfl rfl (fun hc=>bg (o:=16) tk3 (ae rfl hc) (.of (aI 0 rfl)) rfl) (aG rfl rfl (fun hc=>cJ (ae rfl hc) rfl) (aG rfl rfl (fun hc=>aS (ae rfl hc)) (aG rfl rfl (fun hc=>bg (o:=0) tk40 rfl (.of (aI 0 rfl)) rfl) (GO 16 rfl rfl rfl (aG rfl rfl (fun hc=>bg (o:=16) tk3 (ae rfl hc) (.of (aI 0 rfl)) rfl) (aG rfl rfl (fun hc=>Q0 (aN (ae rfl hc) (aN (ae rfl hc) rfl)) (con_instr im ⟨hc0,by omega⟩ im.entry)) (aG rfl rfl (fun hc=>aS (ae rfl hc)) (GO 1 rfl rfl rfl ?_))))))))
 refine aG rfl rfl (fun hc=>bg (o:=1) tk4 (ae rfl hc) (.of (aI 0 rfl)) rfl) (aG rfl rfl (fun hc=>cV (ae rfl hc)) (aG rfl rfl (fun hc=>bo (ae rfl hc) rfl (fun h=>gt hc h)) (aG rfl rfl (fun hc=>eu (ae rfl hc) rfl (fun h=>gf hc h)) (aU rfl (bo rfl rfl (fun h=>gt rfl h)) (aA rfl (aNn (ax (FZ1 [] Tryz.results70 rfl ?_))))))))
 rfl
theorem wD(im:az)(bm b2:Nat)(s:List ByteArray)(i:Nat)(x:ByteArray)(hx:im.needs.l[i]? = some x) :
   Con Tryz.prog 160 [.int .i64 i,.string x,.pointer (some ⟨b2,0,none⟩)] [cM (At b2 0 [.v (.map (some bm))]) im.ok] [fv bm jn vBo (fu s)]
     fun r ps hp=>ps=[]∧r=.bool (xY s i x).1∧hp=[fv bm jn vBo (fu (xY s i x).2)]:=by
 refine EN3 Tryz.func160 rfl (aR _ (Ent.left (.of (aI 0 rfl))) (fy (Ent.all (f:=ef) (az.f_needsA (Ent.right (.of (aI 1 rfl)))) hx) (fun hsx=>(aSR (aA rfl (aNn (aSR (aM rfl (aU rfl (Q0 rfl (gG _ hsx)) (aM rfl (aG rfl rfl (fun hc=>bg (o:=0) tk244 rfl (.of (aI 0 rfl)) rfl) (aG rfl rfl (fun hc=>aS rfl) (aG rfl rfl (fun hc=>lZ (k:=x) (v0:=false) 0 Tryz.underlying244 (kyT) (by kernel_rfl) (ae rfl hc) (ae rfl hc) rfl) ?_)))))))))))))
 refine aG rfl rfl (fun hc=>cV (ae rfl hc)) (aU rfl (bo rfl rfl (fun h=>gt rfl h)) (aA rfl (aNn (aSR (UD 0 tk244 0 rfl rfl rfl rfl (aM rfl (aD rfl (fg (k:=x) (v:=true) 0 Tryz.underlying244 (kyT) rfl rfl rfl rfl (aHK ?_)))))))))
 refine bj ?_
 rw [← hY]
 refine aj (aSR (aM rfl (aA rfl (aNn (ax (FZ1 [0] Tryz.results160 rfl ?_))))))
 exact ⟨rfl,rfl,rfl⟩
theorem y8(im:az):Con Tryz.prog 71 [im.val] [im.ok] [] (YN Value.bool fun b=>(b=true→VOk im.versions.l∧nu im true=true)∧(iY im.versions.l→nu im true=true→b=true)):=by
 refine EN1 Tryz.func71 rfl (aSR (LT rfl (cK rfl rfl rfl (fun b0_0=>(aHN ?_)))))
 refine aA rfl (aNs (bS 0 rfl rfl ?_))
 show awp _ _ _ _ ⟨_,At _ 0 _::_,_⟩
 refine aa (LT rfl (gh (jn) (vBo) rfl (fun b1_0=>(aHN ?_))))
 refine UO 0 rfl rfl (UD 0 tk9 0 rfl rfl rfl rfl (aD rfl (jD (k:=im.name) (v:=true) 1 Tryz.underlying244 (kyT) rfl rfl rfl rfl (aHK ?_))))
 refine aM rfl (LT rfl (bk (zs:=[.map none]) (by kernel_rfl) rfl (fun b1_5=>(aHN ?_))))
 refine aD rfl (aF 2 tk244 rfl rfl rfl rfl (aHK ?_))
 refine aNs ?_
 rw [qL,← hY]
 refine bS 2 rfl rfl ?_
 show awp _ _ _ _ ⟨_,At b1_5 0 [.v (.map (some b1_0))]::_,_⟩
 refine aa (UO 17 rfl rfl (UD 17 tk28 1 rfl rfl rfl rfl (aU rfl (aZ Tryz.underlying28 rfl) (aU rfl (ff rfl rfl) (aM rfl (GO 18 rfl rfl rfl (aG rfl rfl (fun hc=>bg (o:=18) tk29 (ae rfl hc) (.of (aI 1 rfl)) rfl) ?_)))))))
 refine gm (caps:=[]) [0] (false) (by kernel_rfl) _ rfl rfl (fun _=>rfl) (fun hc=>(aN (ae rfl hc) rfl)) (fun hc=>by rw [List.append_nil];exact (qb im.versions).pre2 (az.f_versions (.of (aI 0 rfl))) (az.f_versionsA (.of (aI 0 rfl)))) (fun v1 hv1 => ?_)
 refine aU rfl (bo rfl rfl (fun h=>gt rfl h)) (aM rfl (GO 17 rfl rfl rfl (aG rfl rfl (fun hc=>bg (o:=17) tk28 (ae rfl hc) (.of (aI 1 rfl)) rfl) (aG rfl rfl (fun hc=>cF (l:=[.tmp 3]) rfl) ?_))))
 refine ru (caps:=[]) [2,1,0] 1 (by kernel_rfl) _ rfl rfl (Nat.le_of_ble_eq_true rfl) (fun _=>rfl) (fun hc=>(aN (ae rfl hc) (aN (ae rfl hc) rfl))) (fun hc=>by rw [List.append_nil];exact (Con.clH (((pk im.needs 160 [.pointer (some ⟨b1_5,0,none⟩)] (cM (At b1_5 0 [.v (.map (some b1_0))]) im.ok) (fun s=>fv b1_0 jn vBo (fu s)) xY [im.name] (by kernel_rfl) (fun s i x hx=>wD im b1_0 b1_5 s i x hx)).pre2 (az.f_needs (.of (aI 2 rfl))) (Ent.mk2 (.of (aI 0 rfl)) (.of (aI 2 rfl))))) (fun _ _ _ h=>h.2.1))) ?_
 refine aHK ?_
 refine aU rfl (bo rfl rfl (fun h=>gt rfl h)) (aA rfl (aNn (ax (FZ1 [] Tryz.results71 rfl ?_))))
 refine ⟨⟨rfl,rfl⟩,_,rfl,fun h => ?_,fun hs h => ?_⟩
 · rw [Bool.and_eq_true,Bool.and_eq_true] at h
   refine ⟨(hv1 (by rw [h.1.1];rfl)).1 h.1.2,?_⟩
   unfold nu;rw [h.1.1,h.2];rfl
 · unfold nu at h
   rw [Bool.and_eq_true,Bool.and_eq_true] at h
   rw [h.1.1,h.2,(hv1 (by rw [h.1.1];rfl)).2 hs];rfl
theorem q4(i:Nat)(x:dw):Con Tryz.prog 183 [.int .i64 i,x.val] [] [] fun r _ _=>r=.bool (xk x):=by
 refine EN2 Tryz.func183 rfl (aSR (LT rfl (cK rfl rfl rfl (fun b0_0=>(aHN ?_)))))
 refine aA rfl (aNn (aSR (UO 0 rfl rfl (UL 0 tk3 rfl rfl rfl rfl (aU rfl (Q0 rfl (dA _ _ _)) (aM rfl (GO 1 rfl rfl rfl (GL 0 tk3 rfl rfl rfl rfl rfl (aG rfl rfl (fun hc=>fe (by kernel_rfl) (aN (ae rfl hc) (aN (ae rfl rfl) (aN (ae rfl rfl) rfl))) (fun w S fp hst=>(dA _ _ _).quiet0 hst)) (aU rfl (bo rfl rfl (fun h=>gt rfl h)) (aM rfl (GO 2 rfl rfl rfl (GL 0 tk3 rfl rfl rfl rfl rfl (aG rfl rfl (fun hc=>fe (by kernel_rfl) (aN (ae rfl hc) (aN (ae rfl rfl) (aN (ae rfl rfl) rfl))) (fun w S fp hst=>(dA _ _ _).quiet0 hst)) ?_))))))))))))))
 refine aU rfl (bo rfl rfl (fun h=>gt rfl h)) (aA rfl (aNn (ax (FZ1 [] Tryz.results183 rfl ?_))))
 rfl
theorem sI(im:az)(hS:fV im)(b i:Nat)(x:cq)(hx:im.changes.l[i]? = some x):Con Tryz.prog 181 [.int .i64 i,x.val,.pointer (some ⟨b,0,none⟩)] [cM (At b 0 im.row) im.ok] [] fun r _ _=>r=.bool (aaQ im x):=by
 have hc0:=hS.c0
 have hcd:=hS.cd
 have hdz:=hS.dz
 have hzm:=hS.zm
 refine EN3 Tryz.func181 rfl (aR _ (Ent.left (.of (aI 0 rfl))) (aR _ (Ent.all (f:=cq.ok) (az.f_changesA (Ent.right (.of (aI 1 rfl)))) hx) (fy (cq.f_sec (.of (aI 0 rfl))) (fun hss=>(fy (cq.f_obj (.of (aI 0 rfl))) (fun hso=>(aSR (LT rfl (cK rfl rfl rfl (fun b0_0=>(aHN ?_)))))))))))
 refine aA rfl (aNn (aSR (UO 3 rfl rfl (UL 0 tk202 rfl rfl rfl rfl ?_))))
 refine aU rfl (Q1 rfl (((pf x.pieces 183 [] x.ok (fun _ p=>xk p) (by kernel_rfl) (fun i p _=>(q4 i p).pre (fun _ h=>by cases h))).post (fun _ _ _ h=>h.2.2)).pre2 (ps:=[x.ok]) (cq.f_pieces (.of (aI 0 rfl))) (.of (aI 0 rfl))) 0 rfl) ?_
 refine aA rfl (aNn (aSR (aM rfl (aM rfl (GO 1 rfl rfl rfl (GL 0 tk9 rfl rfl rfl rfl rfl (aG rfl rfl (fun hc=>Q0 (aN (ae rfl hc) rfl) (gG _ hss)) (aU rfl (bo rfl rfl (fun h=>gt rfl h)) (aM rfl (GO 0 rfl rfl rfl (GL 0 tk9 rfl rfl rfl rfl rfl (aG rfl rfl (fun hc=>Q0 (aN (ae rfl hc) rfl) (jU _ hso)) (aU rfl (bo rfl rfl (fun h=>gt rfl h)) (aM rfl (GO 2 rfl rfl rfl ?_)))))))))))))))
 refine GL 0 tk9 rfl rfl rfl rfl rfl (aG rfl rfl (fun hc=>cP Tryz.underlying9 (ae rfl hc)) (aG rfl rfl (fun hc=>cJ (ae rfl hc) rfl) (aU rfl (bo rfl rfl (fun h=>gt rfl h)) (aM rfl (GO 4 rfl rfl rfl (GL 0 tk3 rfl rfl rfl rfl rfl (aG rfl rfl (fun hc=>cJ (ae rfl hc) rfl) (aG rfl rfl (fun hc=>aS (ae rfl hc)) (aG rfl rfl (fun hc=>bg (o:=0) tk40 rfl (.of (aI 1 rfl)) rfl) (GO 4 rfl rfl rfl (GL 0 tk3 rfl rfl rfl rfl rfl (aG rfl rfl (fun hc=>Q0 (aN (ae rfl hc) (aN (ae rfl hc) rfl)) (con_instr im ⟨hc0,by omega⟩ x.code)) (aG rfl rfl (fun hc=>eu (ae rfl hc) rfl (fun h=>gf hc h)) (aU rfl (bo rfl rfl (fun h=>gt rfl h)) (aM rfl ?_)))))))))))))))
 refine GO 3 rfl rfl rfl (GL 0 tk202 rfl rfl rfl rfl rfl (aG rfl rfl (fun hc=>aZ Tryz.underlying202 (ae rfl hc)) (aG rfl rfl (fun hc=>ff (ae rfl hc) rfl) (aU rfl (bo rfl rfl (fun h=>gt rfl h)) (aA rfl (aNn (ax (FZ1 [] Tryz.results181 rfl ?_))))))))
 rfl
theorem ui(im:az)(hS:fV im):Con Tryz.prog 73 [im.val] [im.ok] [] fun r _ _=>r=.bool (pd im):=by
 refine EN1 Tryz.func73 rfl (aSR (LT rfl (cK rfl rfl rfl (fun b0_0=>(aHN ?_)))))
 refine aA rfl (aNs (bS 0 rfl rfl ?_))
 show awp _ _ _ _ ⟨_,At _ 0 _::_,_⟩
 refine aa (UO 25 rfl rfl (UD 25 tk38 0 rfl rfl rfl rfl (aU rfl (aZ Tryz.underlying38 rfl) (aU rfl (ff rfl rfl) (aM rfl (GO 25 rfl rfl rfl (aG rfl rfl (fun hc=>bg (o:=25) tk38 (ae rfl hc) (.of (aI 0 rfl)) rfl) (aG rfl rfl (fun hc=>cF (l:=[.tmp 1]) rfl) (aG rfl rfl (fun hc=>QC (aN (ae rfl hc) (aN (ae rfl hc) rfl)) (fun w S fp hst=>(((qV im.changes 181 [.pointer (some ⟨b0_0,0,none⟩)] (cM (At b0_0 0 im.row) im.ok) (fun _ x=>aaQ im x) (by kernel_rfl) (fun i x hx=>sI im hS b0_0 i x hx)).post (fun _ _ _ h=>h.2.2)).pre2 (ps:=[At b0_0 0 im.row,im.ok]) (az.f_changes (.of (aI 1 rfl))) (Ent.mk2 (.of (aI 0 rfl)) (.of (aI 1 rfl)))).quiet2 (aI 0 rfl) (aI 1 rfl) hst)) (aU rfl (bo rfl rfl (fun h=>gt rfl h)) (aA rfl (aNn (ax (FZ1 [] Tryz.results73 rfl ?_))))))))))))))
 rfl
abbrev acB(im:az)(b b3:Nat):Per:=cM (At b 0 im.row) (cM (At b3 0 im.info.row) im.ok)
theorem yR(im:az)(b b3 i:Nat)(x:cN)(hx:im.info.marks.l[i]? = some x):Con Tryz.prog 162 [.int .i64 i,x.val,.pointer (some ⟨b,0,none⟩),.pointer (some ⟨b3,0,none⟩)] [acB im b b3] [] fun r _ _=>r=.bool (abd im i x):=by
 have hil:=(List.getElem?_eq_some_iff.1 hx).1
 refine EN4 Tryz.func162 rfl (aR _ (Ent.left (.of (aI 0 rfl))) (aR _ (Ent.left (Ent.right (.of (aI 1 rfl)))) (aR _ (Ent.right (Ent.right (.of (aI 2 rfl)))) (bY (cG.f_marks (az.f_info (.of (aI 0 rfl)))) (fun hml=>(aSR (LT rfl (cK rfl rfl rfl (fun b0_0=>(aHN ?_))))))))))
 refine aA rfl (aNs (DR [] 42 (VO 0 0 rfl rfl rfl (VL 1 0 tk9 rfl rfl rfl rfl rfl (bV 2 rfl rfl (Q0 rfl (jy _)) (VM 3 rfl rfl (bW 4 rfl rfl rfl (fun hc=>qFA (off:=1) rfl) (bW 5 rfl rfl rfl (fun hc=>bJ 0 tk3 (ae rfl hc) rfl rfl) (bW 6 rfl rfl rfl (fun hc=>cJ (ae rfl hc) rfl) (bW 7 rfl rfl rfl (fun hc=>aS (ae rfl hc)) (bW 8 rfl rfl rfl (fun hc=>qFA (off:=1) rfl) (bW 9 rfl rfl rfl (fun hc=>bJ 0 tk3 (ae rfl hc) rfl rfl) (bW 10 rfl rfl rfl (fun hc=>cJ (ae rfl hc) rfl) (bW 11 rfl rfl rfl (fun hc=>eu (ae rfl hc) rfl (fun h=>gf hc h)) (bV 12 rfl rfl (bo rfl rfl (fun h=>gt rfl h)) ?_)))))))))))))))
 refine VM 13 rfl rfl (bW 14 rfl rfl rfl (fun hc=>qFA (off:=2) rfl) (bW 15 rfl rfl rfl (fun hc=>bJ 0 tk3 (ae rfl hc) rfl rfl) (bW 16 rfl rfl rfl (fun hc=>qFA (off:=4) rfl) (bW 17 rfl rfl rfl (fun hc=>bg (o:=4) tk3 (ae rfl hc) (.of (aI 2 rfl)) rfl) (bW 18 rfl rfl rfl (fun hc=>fe (by kernel_rfl) (aN (ae rfl hc) (aN (ae rfl rfl) (aN (ae rfl hc) rfl))) (fun w S fp hst=>(dA _ _ _).quiet0 hst)) (bV 19 rfl rfl (bo rfl rfl (fun h=>gt rfl h)) (VM 20 rfl rfl (bW 21 rfl rfl rfl (fun hc=>qFA (off:=3) rfl) (bW 22 rfl rfl rfl (fun hc=>bJ 0 tk3 (ae rfl hc) rfl rfl) (bW 23 rfl rfl rfl (fun hc=>fi (ae rfl hc) rfl) (bV 24 rfl rfl (bo rfl rfl (fun h=>gt rfl h)) (VM 25 rfl rfl (bW 26 rfl rfl rfl (fun hc=>aS rfl) (bW 27 rfl rfl rfl (fun hc=>cJ (ae rfl hc) rfl) (bW 28 rfl rfl rfl (fun hc=>aS (ae rfl hc)) ?_)))))))))))))))
 refine bW 29 rfl rfl rfl (fun hc=>qFA (off:=0) rfl) (bW 30 rfl rfl rfl (fun hc=>bg (o:=0) tk30 (ae rfl hc) (.of (aI 1 rfl)) rfl) (bW 31 rfl rfl rfl (fun hc=>aS rfl) ?_))
 refine bW 32 rfl rfl rfl (fun hc=>dp (ae rfl hc) rfl (by (first | omega | (simp at hc;omega)))) ?_
 refine qU 33 rfl (by kernel_rfl) _ rfl rfl (fun hc=>bI Tryz.underlying30 tk218 (ae rfl hc) ((cG.f_marks (az.f_info (.of (aI 0 rfl))))) (ae rfl hc) (fF (i:=(i:Int)-1) (by simp at hc;omega) (by simp at hc;omega)) ((Int.toNat_of_nonneg (by simp at hc;omega)).symm) rfl) (fun _=>⟨(0,0)⟩) (fun ⟨b1_33,o1_33⟩ => ?_)
 refine bW 34 rfl rfl rfl (fun hc=>qFA (off:=2) (ae rfl hc)) (bW 35 rfl rfl rfl (fun hc=>gz (o:=2) tk3 (ae rfl hc) (aI 0 rfl) hc rfl) (bW 36 rfl rfl rfl (fun hc=>qFA (off:=2) rfl) (bW 37 rfl rfl rfl (fun hc=>bJ 0 tk3 (ae rfl hc) rfl rfl) (bW 38 rfl rfl rfl (fun hc=>ff (ae rfl hc) (ae rfl hc)) (bW 39 rfl rfl rfl (fun hc=>eu (ae rfl hc) rfl (fun h=>gf hc h)) (bV 40 rfl rfl (bo rfl rfl (fun h=>gt rfl h)) (bV 41 rfl rfl (bE rfl) (BN (aj (ax (FZ1 [] Tryz.results162 rfl ?_)))))))))))
 rfl
theorem yS(im:az)(hS:fV im)(b b3 i:Nat)(x:cS)(hx:im.info.lines.l[i]? = some x):Con Tryz.prog 165 [.int .i64 i,x.val,.pointer (some ⟨b,0,none⟩),.pointer (some ⟨b3,0,none⟩)] [acB im b b3] [] fun r _ _=>r=.bool (abc im i x):=by
 have hil:=(List.getElem?_eq_some_iff.1 hx).1
 have hc0:=hS.c0
 have hcd:=hS.cd
 have hdz:=hS.dz
 have hzm:=hS.zm
 refine EN4 Tryz.func165 rfl (aR _ (Ent.left (.of (aI 0 rfl))) (aR _ (Ent.left (Ent.right (.of (aI 1 rfl)))) (aR _ (Ent.right (Ent.right (.of (aI 2 rfl)))) (bY (cG.f_lines (az.f_info (.of (aI 0 rfl)))) (fun hml=>(aSR (LT rfl (cK rfl rfl rfl (fun b0_0=>(aHN ?_))))))))))
 refine aA rfl (aNs (DR [] 38 (VO 0 0 rfl rfl rfl (VL 1 0 tk3 rfl rfl rfl rfl rfl (bV 2 rfl rfl (cJ rfl rfl) (VM 3 rfl rfl (bW 4 rfl rfl rfl (fun hc=>qFA (off:=2) rfl) (bW 5 rfl rfl rfl (fun hc=>bJ 0 tk9 (ae rfl hc) rfl rfl) (bW 6 rfl rfl rfl (fun hc=>Q0 (aN (ae rfl hc) rfl) (jy _)) (bV 7 rfl rfl (bo rfl rfl (fun h=>gt rfl h)) (VM 8 rfl rfl (bW 9 rfl rfl rfl (fun hc=>qFA (off:=1) rfl) (bW 10 rfl rfl rfl (fun hc=>bJ 0 tk3 (ae rfl hc) rfl rfl) (bW 11 rfl rfl rfl (fun hc=>qFA (off:=2) rfl) (bW 12 rfl rfl rfl (fun hc=>bg (o:=2) tk3 (ae rfl hc) (.of (aI 2 rfl)) rfl) ?_)))))))))))))))
 refine bW 13 rfl rfl rfl (fun hc=>dp (ae rfl hc) rfl (by (first | omega | (simp at hc;omega)))) ?_
 refine bW 14 rfl rfl rfl (fun hc=>fe (by kernel_rfl) (aN (ae rfl hc) (aN (ae rfl rfl) (aN (ae rfl hc) rfl))) (fun w S fp hst=>(dA _ _ _).quiet0 hst)) (bV 15 rfl rfl (bo rfl rfl (fun h=>gt rfl h)) (VM 16 rfl rfl (bW 17 rfl rfl rfl (fun hc=>qFA (off:=3) rfl) (bW 18 rfl rfl rfl (fun hc=>bJ 0 tk3 (ae rfl hc) rfl rfl) (bW 19 rfl rfl rfl (fun hc=>fi (ae rfl hc) rfl) (bV 20 rfl rfl (bo rfl rfl (fun h=>gt rfl h)) (VM 21 rfl rfl (bW 22 rfl rfl rfl (fun hc=>aS rfl) (bW 23 rfl rfl rfl (fun hc=>cJ (ae rfl hc) rfl) (bW 24 rfl rfl rfl (fun hc=>aS (ae rfl hc)) (bW 25 rfl rfl rfl (fun hc=>qFA (off:=1) rfl) (bW 26 rfl rfl rfl (fun hc=>bg (o:=1) tk31 (ae rfl hc) (.of (aI 1 rfl)) rfl) (bW 27 rfl rfl rfl (fun hc=>aS rfl) ?_)))))))))))))
 refine bW 28 rfl rfl rfl (fun hc=>dp (ae rfl hc) rfl (by (first | omega | (simp at hc;omega)))) ?_
 refine qU 29 rfl (by kernel_rfl) _ rfl rfl (fun hc=>bI Tryz.underlying31 tk220 (ae rfl hc) ((cG.f_lines (az.f_info (.of (aI 0 rfl))))) (ae rfl hc) (fF (i:=(i:Int)-1) (by simp at hc;omega) (by simp at hc;omega)) ((Int.toNat_of_nonneg (by simp at hc;omega)).symm) rfl) (fun _=>⟨(0,0)⟩) (fun ⟨b1_29,o1_29⟩ => ?_)
 refine bW 30 rfl rfl rfl (fun hc=>qFA (off:=1) (ae rfl hc)) (bW 31 rfl rfl rfl (fun hc=>gz (o:=1) tk3 (ae rfl hc) (aI 0 rfl) hc rfl) (bW 32 rfl rfl rfl (fun hc=>qFA (off:=1) rfl) (bW 33 rfl rfl rfl (fun hc=>bJ 0 tk3 (ae rfl hc) rfl rfl) (bW 34 rfl rfl rfl (fun hc=>ff (ae rfl hc) (ae rfl hc)) (bW 35 rfl rfl rfl (fun hc=>eu (ae rfl hc) rfl (fun h=>gf hc h)) (bV 36 rfl rfl (bo rfl rfl (fun h=>gt rfl h)) (bV 37 rfl rfl (bE rfl) (BN (aj (ax (FZ1 [] Tryz.results165 rfl ?_)))))))))))
 rfl
end Go.Proofs.YtfkcmbonmpcbfaaGreat

namespace Go.Proofs.YtfkcmbonmpcbfaaGreat
open Go.RowKit Go.Lp Go.Sy Go.Lv
def acv(im:az)(e:Int)(_:Nat)(x:bC):Bool × Int:=(il x.at_ e im.code && il x.size 1 (IntKind.i64.wrap (im.code-x.at_)),IntKind.i64.wrap (x.at_+x.size))
def aev(im:az)(e:Int)(g:Int × Int × Int):Bool:=((decide (g.1=0) && decide (g.2.1≥e)) && decide (g.2.1≤g.2.2)) && decide (g.2.2≤im.code)
def l0{α:Type}(im:az)(g:α→Int × Int × Int)(e:Int)(_:Nat)(x:α):Bool × Int:=(aev im e (g x),(g x).2.1)
abbrev v3(g:Int × Int × Int):Value:=.tuple #[.int .i64 g.1,.int .i64 g.2.1,.int .i64 g.2.2]
abbrev inG(x:bF):Int × Int × Int:=(x.sec,x.from_,x.to_)
abbrev vaG(x:dJ):Int × Int × Int:=(x.sec,x.from_,x.to_)
abbrev deG(x:cC):Int × Int × Int:=(x.sec,x.from_,x.to_)
def inB(x:bF):Bool:=(nS x.name && nS x.file) && decide (x.line≥0)
def vaB(im:az)(x:dJ):Bool:=nS x.name && ((decide (x.where_=1) || (decide (x.where_=0) && il x.n 0 15)) || (decide (x.where_=2) && il x.n (-1) (im.zero-1)))
def deB(x:cC):Bool:=decide (x.bytes≥0) && decide (x.bytes.tmod 8=0)
def aa9(im:az):Bool:=((((allI (abd im) 0 im.info.marks.l && allI (abc im) 0 im.info.lines.l) && (fQ (acv im) 0 0 im.info.ends.l).1)
 && ((fQ (l0 im inG) 0 0 im.info.inlines.l).1 && allI (fun _ x=>inB x) 0 im.info.inlines.l))
 && ((fQ (l0 im vaG) 0 0 im.info.vars.l).1 && allI (fun _ x=>vaB im x) 0 im.info.vars.l))
 && ((fQ (l0 im deG) 0 0 im.info.depths.l).1 && allI (fun _ x=>deB x) 0 im.info.depths.l)
end Go.Proofs.YtfkcmbonmpcbfaaGreat

