/- Parts of the proof, in build order. No condition. -/
import Derived.Test.YtfkcmbonmpcbfaaGreatTb22
import Derived.Test.YtfkcmbonmpcbfaaGreatTb05
import Derived.Test.YtfkcmbonmpcbfaaGreatTb10
set_option linter.unusedSimpArgs false
set_option linter.unusedVariables false
set_option maxHeartbeats 1000000
set_option maxRecDepth 20000
namespace Go.Proofs.YtfkcmbonmpcbfaaGreat
open Go.RowKit Go.Lp Go.Sy Go.Lv
open Go.Proofs.Tryz
attribute [local irreducible] aL aB awp aC fwp Quiet
theorem qW(im:ak)(hlen:im.exports.l.length≤4096)(b bm b3:Nat)(s:List ByteArray)(i:Nat)(x:bO)(hx:im.exports.l[i]? = some x) :
   Con Tryz.prog 150 [.int .i64 i,x.val,.pointer (some ⟨b,0,none⟩),.pointer (some ⟨b3,0,none⟩)] [b7 (At b 0 im.row) (b7 (At b3 0 [.v (.map (some bm))]) im.ok)] [cN bm gH vBo (ee s)]
     fun r ps hp=>ps=[]∧r=.bool (ve im s i x).1∧hp=[cN bm gH vBo (ee (ve im s i x).2)]:=by
 have hil:=(List.getElem?_eq_some_iff.1 hx).1
 refine EN4 Tryz.func150 rfl (bF _ (Ent.left (.of (aF 0 rfl))) (bF _ (Ent.left (Ent.right (.of (aF 1 rfl)))) (bF _ (Ent.right (Ent.right (.of (aF 2 rfl)))) (ei (bO.f_name (Ent.all (f:=bO.ok) (ak.f_exportsA (.of (aF 0 rfl))) hx)) (fun hsn=>(ei (bO.f_version (Ent.all (f:=bO.ok) (ak.f_exportsA (.of (aF 0 rfl))) hx)) (fun hsv=>(aSR (LT rfl (bz rfl rfl rfl (fun b0_0=>(aHN ?_))))))))))))
 refine aA rfl (aNn (aSR (UO 4 rfl rfl (UD 4 tk3 2 rfl rfl rfl rfl (aA rfl (aNs ?_))))))
 refine gQ (X := {z:Int // z=wE im x}) (fun q=>⟨[(0,true,.int .i64 i),(2,true,.pointer (some ⟨b,0,none⟩)),(3,true,.pointer (some ⟨b3,0,none⟩)),(5,true,.pointer (some ⟨b0_0,0,none⟩)),(7,true,.int .i64 q.1)],[im.ok,At b3 0 [.v (.map (some bm))],At b 0 im.row,b7 (At b 0 im.row) (b7 (At b3 0 [.v (.map (some bm))]) im.ok)],[cN bm gH vBo (ee s),Box b0_0 159 x.vs]⟩) ?_ ?_
 ·skip
  refine aSR (UO 3 rfl rfl (UL 1 tk3 rfl rfl rfl rfl (aU rfl (bw rfl rfl) (aNn ?_))))
  refine ah _ rfl (fun h1 => ?_) (fun h1 => ?_)
  ·skip
   refine ae (UO 7 rfl rfl (UD 7 tk3 2 rfl rfl rfl rfl (aA rfl (aNn ?_))))
   first
   | exact ⟨[0,2,3,5,7],[3,2,1,0],[0,1],⟨im.block,(if_pos (of_decide_eq_true h1)).symm⟩,rfl,rfl⟩
   | exact ⟨[0,2,3,5,7],[3,2,1,0],[0,1],⟨im.zero,(if_neg (of_decide_eq_false h1)).symm⟩,rfl,rfl⟩
  ·skip
   refine ai (an ?_)
   first
   | exact ⟨[0,2,3,5,7],[3,2,1,0],[0,1],⟨im.block,(if_pos (of_decide_eq_true h1)).symm⟩,rfl,rfl⟩
   | exact ⟨[0,2,3,5,7],[3,2,1,0],[0,1],⟨im.zero,(if_neg (of_decide_eq_false h1)).symm⟩,rfl,rfl⟩
 ·skip
  rintro ⟨_,rfl⟩
  refine aq ?_
  refine gQ (X := {z:Unit // i1 im i x=false}) (fun _=>⟨[(0,true,.int .i64 i),(2,true,.pointer (some ⟨b,0,none⟩)),(3,true,.pointer (some ⟨b3,0,none⟩)),(5,true,.pointer (some ⟨b0_0,0,none⟩)),(7,true,.int .i64 (wE im x))],[im.ok,At b3 0 [.v (.map (some bm))],At b 0 im.row,b7 (At b 0 im.row) (b7 (At b3 0 [.v (.map (some bm))]) im.ok)],[cN bm gH vBo (ee s),Box b0_0 159 x.vs]⟩) ?_ ?_
  ·skip
   refine aSR (aM rfl (aU rfl (dy rfl rfl) (aNn ?_)))
   refine ah _ rfl (fun h2 => ?_) (fun h2 => ?_)
   ·skip
    refine aSR (UO 9 rfl rfl (UD 9 tk24 2 rfl rfl rfl rfl (aM rfl ?_)))
    refine aU rfl (bN rfl rfl (by (simp at h2;omega))) ?_
    refine fZ true rfl rfl (fun _=>aX Tryz.underlying24 tk159 rfl ((ak.f_exports (.of (aF 0 rfl)))) rfl (er (i:=(i:Int)-1) (by omega) (by simp at h2;omega)) ((Int.toNat_of_nonneg (by simp at h2;omega)).symm) rfl) (fun h=>absurd h (by decide)) (fun ⟨b5_4,o5_4⟩ => ?_)
    refine US 0 tk159 0 rfl rfl rfl rfl rfl (LT rfl (bt (zs:=[.string .empty,.string .empty,.bool false,.int .i64 0,.int .i64 0,.int .i64 0]) (by kernel_rfl) rfl (fun b5_6=>(aHN ?_))))
    refine aI rfl (aW 2 tk159 rfl rfl rfl rfl (aHK ?_))
    refine aNs (DR [11] 13 (VO 0 0 rfl rfl rfl (VL 1 2 tk9 rfl rfl rfl rfl rfl (VO 2 0 rfl rfl rfl (VL 3 1 tk9 rfl rfl rfl rfl rfl (bV 4 rfl rfl (Q0 rfl (su _ _)) (VO 5 1 rfl rfl rfl (VL 6 2 tk9 rfl rfl rfl rfl rfl (VO 7 1 rfl rfl rfl (VL 8 1 tk9 rfl rfl rfl rfl rfl (bV 9 rfl rfl (Q0 rfl (su _ _)) (iR (q:=true) 10 rfl (by kernel_rfl) rfl rfl (WL (zs:=[.int .i64 0]) el26 rfl rfl rfl (.more rfl (.v rfl .nil) (.more rfl (.v rfl .nil) .nil)) rfl rfl (fun v6_10=>(bST rfl ?_)))))))))))))))
    refine VE 11 rfl rfl (EC [] [3] rfl ((abf (.slice v6_10 2 2) _ _).clean (φ:=fun r=>r=_) (fun _ _ _ h=>h)) ?_)
    rintro _ _ _ ⟨rfl,rfl,rfl⟩
    refine bST rfl ?_
    refine bV 12 rfl rfl (dR rfl rfl) (BN (an ?_))
    refine ah _ rfl (fun h3 => ?_) (fun h3 => ?_)
    ·skip
     refine aSR (aA rfl (aNn (aj (aN (FZ1 [0] Tryz.results150 rfl ?_)))))
     have hb:i1 im i x=true:=by unfold i1;rw [decide_eq_true (by simp at h2;omega)];exact h3
     unfold ve;rw [if_pos hb];exact ⟨rfl,rfl,rfl⟩
    ·skip
     refine ai (an ?_)
     first
     | exact ⟨[0,2,3,5,7],[3,2,1,0],[0,1],⟨(),by unfold i1;rw [decide_eq_false (by simp at h2;omega)];rfl⟩,rfl,rfl⟩
     | exact ⟨[0,2,3,5,7],[3,2,1,0],[0,1],⟨(),by unfold i1;rw [decide_eq_true (by simp at h2;omega)];exact h3⟩,rfl,rfl⟩
   ·skip
    refine ai (an ?_)
    first
    | exact ⟨[0,2,3,5,7],[3,2,1,0],[0,1],⟨(),by unfold i1;rw [decide_eq_false (by simp at h2;omega)];rfl⟩,rfl,rfl⟩
    | exact ⟨[0,2,3,5,7],[3,2,1,0],[0,1],⟨(),by unfold i1;rw [decide_eq_true (by simp at h2;omega)];exact h3⟩,rfl,rfl⟩
  ·skip
   rintro ⟨_,hbad⟩
   refine aq ?_
   refine gQ (X := {q:List ByteArray // ((mH x=true∧(ee s x.name).getD false=false)∧q=s++[x.name])∨(mH x=false∧q=s)}) (fun q=>⟨[(0,true,.int .i64 i),(2,true,.pointer (some ⟨b,0,none⟩)),(3,true,.pointer (some ⟨b3,0,none⟩)),(5,true,.pointer (some ⟨b0_0,0,none⟩)),(7,true,.int .i64 (wE im x))],[im.ok,At b3 0 [.v (.map (some bm))],At b 0 im.row,b7 (At b 0 im.row) (b7 (At b3 0 [.v (.map (some bm))]) im.ok)],[cN bm gH vBo (ee q.1),Box b0_0 159 x.vs]⟩) ?_ ?_
   ·skip
    refine aSR (UO 2 rfl rfl (UL 1 tk4 rfl rfl rfl rfl (aM rfl (GO 1 rfl rfl rfl (GL 1 tk9 rfl rfl rfl rfl rfl (aG rfl rfl (fun hc=>rH (aa rfl hc) rfl) (aU rfl (cm rfl rfl (fun h=>gf rfl h)) (aNn ?_))))))))
    refine ah _ rfl (fun h4 => ?_) (fun h4 => ?_)
    ·skip
     refine aq (aSR (UD 0 tk244 1 rfl rfl rfl rfl (UO 0 rfl rfl (UL 1 tk9 rfl rfl rfl rfl (aU rfl (gJ (k:=x.name) (v0:=false) 0 Tryz.underlying244 (kyT) (by kernel_rfl) rfl rfl rfl) (aNn ?_))))))
     refine ah _ rfl (fun h5 => ?_) (fun h5 => ?_)
     ·skip
      refine aSR (aA rfl (aNn (aj (aN (aN (FZ1 [0] Tryz.results150 rfl ?_))))))
      have hm:mH x=true:=h4
      have hd:(ee s x.name).getD false=true:=h5
      unfold ve;rw [if_neg (by rw [hbad];decide),if_pos hm,if_pos hd];exact ⟨rfl,rfl,rfl⟩
     ·skip
      refine ai (an (ae (UD 0 tk244 1 rfl rfl rfl rfl (UO 0 rfl rfl (UL 1 tk9 rfl rfl rfl rfl (aI rfl (cP (k:=x.name) (v:=true) 0 Tryz.underlying244 (kyT) rfl rfl rfl rfl (aHK ?_))))))))
      refine bK ?_
      rw [← fL]
      refine an ?_
      first
      | exact ⟨[0,2,3,5,7],[3,2,1,0],[0,1],⟨s,.inr ⟨h4,rfl⟩⟩,rfl,rfl⟩
      | exact ⟨[0,2,3,5,7],[3,2,1,0],[0,1],⟨s++[x.name],.inl ⟨⟨h4,h5⟩,rfl⟩⟩,rfl,rfl⟩
    ·skip
     refine ai (an ?_)
     first
     | exact ⟨[0,2,3,5,7],[3,2,1,0],[0,1],⟨s,.inr ⟨h4,rfl⟩⟩,rfl,rfl⟩
     | exact ⟨[0,2,3,5,7],[3,2,1,0],[0,1],⟨s++[x.name],.inl ⟨⟨h4,h5⟩,rfl⟩⟩,rfl,rfl⟩
   ·skip
    rintro ⟨s2,hs2⟩
    refine aSR (UO 0 rfl rfl (UL 1 tk9 rfl rfl rfl rfl (aU rfl (Q0 rfl (fw _ hsn)) (aM rfl (GO 1 rfl rfl rfl (GL 1 tk9 rfl rfl rfl rfl rfl (aG rfl rfl (fun hc=>Q0 (ax (aa rfl hc) rfl) (iy _ hsv)) (aU rfl (aQ rfl rfl (fun h=>gt rfl h)) (aM rfl (GO 3 rfl rfl rfl (GL 1 tk3 rfl rfl rfl rfl rfl (aG rfl rfl (fun hc=>dQ (by kernel_rfl) (ax (aa rfl hc) (ax (aa rfl rfl) (ax (aa rfl rfl) rfl))) (fun w S fp hst=>(cB _ _ _).quiet0 hst)) (aU rfl (aQ rfl rfl (fun h=>gt rfl h)) (aM rfl (GO 5 rfl rfl rfl ?_)))))))))))))))
    refine GL 1 tk3 rfl rfl rfl rfl rfl (aG rfl rfl (fun hc=>dR (aa rfl hc) rfl) (aU rfl (aQ rfl rfl (fun h=>gt rfl h)) (aM rfl (GO 4 rfl rfl rfl (GL 1 tk3 rfl rfl rfl rfl rfl (aG rfl rfl (fun hc=>az rfl) (aG rfl rfl (fun hc=>dQ (by kernel_rfl) (ax (aa rfl hc) (ax (aa rfl rfl) (ax (aa rfl hc) rfl))) (fun w S fp hst=>(cB _ _ _).quiet0 hst)) (aU rfl (aQ rfl rfl (fun h=>gt rfl h)) (aA rfl (aNn (aj (FZ1 [0] Tryz.results150 rfl ?_))))))))))))
    unfold ve;rw [if_neg (by rw [hbad];decide)]
    rcases hs2 with ⟨⟨hm,hd⟩,rfl⟩ | ⟨hm,rfl⟩
    · rw [if_pos hm,if_neg (by rw [hd];decide)];exact ⟨rfl,rfl,rfl⟩
    · rw [if_neg (by rw [hm];decide)];exact ⟨rfl,rfl,rfl⟩
theorem sw(im:ak):Con Tryz.prog 67 [im.val] [im.ok] [] fun r _ _=>r=.bool (s7 im):=by
 refine EN1 Tryz.func67 rfl (aSR (LT rfl (bz rfl rfl rfl (fun b0_0=>(aHN ?_)))))
 refine aA rfl (aNn (aSR (LT rfl (dO (gH) (vBo) rfl (fun b1_0=>(aHN ?_))))))
 refine LT rfl (bt (zs:=[.map none]) (by kernel_rfl) rfl (fun b1_1=>(aHN ?_)))
 refine aI rfl (aW 2 tk244 rfl rfl rfl rfl (aHK ?_))
 refine aNs (bd 2 rfl rfl ?_)
 show awp _ _ _ _ ⟨_,At b1_1 0 [.v (.map (some b1_0))]::_,_⟩
 refine bd 0 rfl rfl ?_
 show awp _ _ _ _ ⟨_,At _ 0 _::_,_⟩
 refine ae (UO 9 rfl rfl (UD 9 tk24 0 rfl rfl rfl rfl (aU rfl (aY Tryz.underlying24 rfl) (aU rfl (dq rfl rfl) (aM rfl (GO 9 rfl rfl rfl (aG rfl rfl (fun hc=>aP (o:=9) tk24 (aa rfl hc) (.of (aF 0 rfl)) rfl) (aG rfl rfl (fun hc=>dB (l:=[.tmp 1,.tmp 3]) rfl) ?_))))))))
 refine pC (caps:=[]) [2,1,0] 1 (by kernel_rfl) _ rfl rfl (Nat.le_of_ble_eq_true rfl) (fun _=>rfl) (fun hc=>(ax (aa rfl hc) (ax (aa rfl hc) rfl))) (fun hc=>by rw [List.append_nil];exact (Con.clH (((ng im.exports 150 [.pointer (some ⟨b0_0,0,none⟩),.pointer (some ⟨b1_1,0,none⟩)] (b7 (At b0_0 0 im.row) (b7 (At b1_1 0 [.v (.map (some b1_0))]) im.ok)) (fun s=>cN b1_0 gH vBo (ee s)) (ve im) [] (by kernel_rfl) (fun s i x hx=>qW im (by simp at hc;omega) b0_0 b1_0 b1_1 s i x hx)).pre2 (ak.f_exports (.of (aF 2 rfl))) (Ent.mk2 (.of (aF 0 rfl)) (Ent.mk2 (.of (aF 1 rfl)) (.of (aF 2 rfl)))))) (fun _ _ _ h=>h.2.1))) ?_
 refine aHK ?_
 refine aU rfl (aQ rfl rfl (fun h=>gt rfl h)) (aA rfl (aNn (aj (FZ1 [] Tryz.results67 rfl ?_))))
 rfl
abbrev acw(b1 b2:Nat)(st:List (ByteArray × ByteArray) × List Int):List Res:=[cN b1 cU vBo (ee st.1),cN b2 kZ vBo (ee st.2)]
abbrev adl(im:ak)(b b1 b2 b3 b4:Nat):Per:=b7 (At b 0 im.row) (b7 (At b3 0 [.v (.map (some b1))]) (b7 (At b4 0 [.v (.map (some b2))]) im.ok))
theorem qX(im:ak)(hS:eK im)(hlen:im.imports.l.length≤4096)(hsl:im.slots.l.length=im.imports.l.length)(b b1 b2 b3 b4:Nat)(st:List (ByteArray × ByteArray) × List Int)(i:Nat)(x:bR)(hx:im.imports.l[i]? = some x) :
   Con Tryz.prog 155 [.int .i64 i,x.val,.pointer (some ⟨b,0,none⟩),.pointer (some ⟨b3,0,none⟩),.pointer (some ⟨b4,0,none⟩)] [adl im b b1 b2 b3 b4] (acw b1 b2 st)
     fun r ps hp=>ps=[]∧r=.bool (vi im st i x).1∧hp=acw b1 b2 (vi im st i x).2:=by
 have hil:=(List.getElem?_eq_some_iff.1 hx).1
 have hc0:=hS.c0
 have hcd:=hS.cd
 have hdz:=hS.dz
 have hzm:=hS.zm
 have hs:im.slots.l[i]? = some (kR im i):=cW (by omega)
 refine EN5 Tryz.func155 rfl (bF _ (Ent.left (.of (aF 0 rfl))) (bF _ (Ent.left (Ent.right (.of (aF 1 rfl)))) (bF _ (Ent.left (Ent.right (Ent.right (.of (aF 2 rfl))))) (bF _ (Ent.right (Ent.right (Ent.right (.of (aF 3 rfl))))) (ei (bR.f_name (Ent.all (f:=bR.ok) (ak.f_importsA (.of (aF 0 rfl))) hx)) (fun hsn=>(ei (bR.f_version (Ent.all (f:=bR.ok) (ak.f_importsA (.of (aF 0 rfl))) hx)) (fun hsv=>(aSR (LT rfl (bz rfl rfl rfl (fun b0_0=>(aHN ?_)))))))))))))
 refine aA rfl (aNs (DC [11] [11] [] 13 (CF 0 rfl rfl rfl (qFA (off:=0) rfl) (CQ 1 rfl rfl rfl (bJ 2 tk9 rfl rfl rfl) (CF 2 rfl rfl rfl (qFA (off:=1) rfl) (CQ 3 rfl rfl rfl (bJ 2 tk9 rfl rfl rfl) (CF 4 rfl rfl rfl (iF (l:=[(0,.tmp 11),(1,.tmp 13)]) (zs:=[.string .empty,.string .empty]) (sz:=1) (m:=2) (by kernel_rfl) (by kernel_rfl) rfl rfl rfl) (CF 5 rfl rfl rfl (qFA (off:=11) rfl) (CF 6 rfl rfl rfl (aP (o:=11) tk26 rfl (.of (aF 3 rfl)) rfl) (CF 7 rfl rfl rfl (az rfl) (ada 8 rfl (by kernel_rfl) rfl rfl (gI Tryz.underlying26 tk3 rfl ((ak.f_slots (.of (aF 0 rfl)))) rfl (aJ hs) rfl rfl) (fun ⟨b1_8,o1_8⟩=>(CF 9 rfl rfl rfl (aP (o:=0) tk3 rfl (.of (aF 0 rfl)) rfl) ?_)))))))))))))
 refine cr 10 [] (by kernel_rfl) (bD ?_ bX)
 refine c7 10 rfl rfl (Eff.x (id (bt (zs:=[.string .empty,.string .empty]) (by kernel_rfl) rfl (fun b1_10=>(CST ?_)))))
 refine cr 11 [] (by kernel_rfl) (bD ?_ bX)
 refine c7 11 rfl rfl (Eff.wild (q:=false) (id (aW 3 tk241 rfl rfl rfl rfl (CST ?_))))
 refine CF 12 rfl rfl rfl (bB rfl) (fg (by kernel_rfl) (an (aq (aSR (UD 0 tk240 3 rfl rfl rfl rfl (UL 3 tk241 rfl rfl rfl rfl (aU rfl (gJ (k:=(x.name,x.version)) (v0:=false) 0 Tryz.underlying240 (kyP) (by kernel_rfl) rfl rfl rfl) (aM rfl (aG rfl rfl (fun hc=>az rfl) (aG rfl rfl (fun hc=>dS (aa rfl hc) rfl) (aG rfl rfl (fun hc=>az (aa rfl hc)) (aG rfl rfl (fun hc=>aP (o:=0) tk119 rfl (.of (aF 2 rfl)) rfl) (aG rfl rfl (fun hc=>az rfl) (aG rfl rfl (fun hc=>gJ (k:=kR im i) (v0:=false) 1 Tryz.underlying119 (kyI) (by kernel_rfl) (aa rfl hc) (aa rfl hc) rfl) ?_))))))))))))))
 refine aG rfl rfl (fun hc=>az (aa rfl hc)) (aG rfl rfl (fun hc=>az rfl) (GO 2 rfl rfl rfl (aG rfl rfl (fun hc=>aP (o:=2) tk3 (aa rfl hc) (.of (aF 4 rfl)) rfl) (GO 3 rfl rfl rfl (aG rfl rfl (fun hc=>aP (o:=3) tk3 (aa rfl hc) (.of (aF 4 rfl)) rfl) ?_)))))
 refine aG rfl rfl (fun hc=>bN (aa rfl hc) rfl (by (first | omega | (simp at hc;omega)))) ?_
 refine aG rfl rfl (fun hc=>dQ (by kernel_rfl) (ax (aa rfl hc) (ax (aa rfl hc) (ax (aa rfl hc) rfl))) (fun w S fp hst=>(cB _ _ _).quiet0 hst)) (aG rfl rfl (fun hc=>bY (aa rfl hc)) (aG rfl rfl (fun hc=>cm (aa rfl hc) rfl (fun h=>gf hc h)) (aG rfl rfl (fun hc=>az (aa rfl hc)) (aG rfl rfl (fun hc=>az rfl) (aG rfl rfl (fun hc=>qq (aa rfl hc) rfl (by decide)) (aG rfl rfl (fun hc=>dS (aa rfl hc) rfl) (aG rfl rfl (fun hc=>cm (aa rfl hc) rfl (fun h=>gf hc h)) (aG rfl rfl (fun hc=>aQ (aa rfl hc) rfl (fun h=>gt hc h)) (aU rfl (cm rfl rfl (fun h=>gf rfl h)) (aNn ?_))))))))))
 refine ah _ rfl (fun h1 => ?_) (fun h1 => ?_)
 ·skip
  refine aSR (aA rfl (aNn (aj (aN (FZ1 [0,1] Tryz.results155 rfl ?_)))))
  have hb:vh im st i x=true:=h1
  unfold vi;rw [if_pos hb];exact ⟨rfl,rfl,rfl⟩
 ·skip
  have hb:vh im st i x=false:=h1
  refine ai (an (aq (DC [4,5] [] [] 6 (CF 0 rfl rfl rfl (aP (o:=0) tk240 rfl (.of (aF 3 rfl)) rfl) (CQ 1 rfl rfl rfl (bJ 3 tk241 rfl rfl rfl) (CF 2 rfl rfl rfl (aP (o:=0) tk119 rfl (.of (aF 2 rfl)) rfl) (CF 3 rfl rfl rfl (az rfl) ?_)))))))
  refine cr 4 [] (by kernel_rfl) (bD ?_ bX)
  refine c7 4 rfl rfl (Eff.framed (q:=false) [0] rfl rfl oX (id (cP (k:=(x.name,x.version)) (v:=true) 0 Tryz.underlying240 (kyP) rfl rfl rfl rfl (i7 (CST ?_)))))
  refine cr 5 [] (by kernel_rfl) (bD ?_ bX)
  refine c7 5 rfl rfl (Eff.framed (q:=false) [1] rfl rfl oX (id (cP (k:=kR im i) (v:=true) 0 Tryz.underlying119 (kyI) rfl rfl rfl rfl (i7 (CST ?_)))))
  refine fg (by kernel_rfl) (an (aSR (UO 0 rfl rfl (UL 2 tk9 rfl rfl rfl rfl (aU rfl (Q0 rfl (fw _ hsn)) (aM rfl (GO 1 rfl rfl rfl (GL 2 tk9 rfl rfl rfl rfl rfl (aG rfl rfl (fun hc=>Q0 (ax (aa rfl hc) rfl) (iy _ hsv)) (aU rfl (aQ rfl rfl (fun h=>gt rfl h)) (aM rfl (GO 2 rfl rfl rfl (GL 2 tk3 rfl rfl rfl rfl rfl (aG rfl rfl (fun hc=>dQ (by kernel_rfl) (ax (aa rfl hc) (ax (aa rfl rfl) (ax (aa rfl rfl) rfl))) (fun w S fp hst=>(cB _ _ _).quiet0 hst)) ?_))))))))))))))
  refine aU rfl (aQ rfl rfl (fun h=>gt rfl h)) (aA rfl (aNn (aj (FZ1 [0,1] Tryz.results155 rfl ?_))))
  unfold vi;rw [if_neg (by rw [hb];decide)]
  refine ⟨rfl,rfl,?_⟩
  show _=[cN b1 cU vBo (ee (st.1++[acy x])),cN b2 kZ vBo (ee (st.2++[kR im i]))]
  rw [fL,fL];rfl
theorem sx(im:ak)(hS:eK im):Con Tryz.prog 68 [im.val] [im.ok] [] fun r _ _=>r=.bool (gY im):=by
 refine EN1 Tryz.func68 rfl (aSR (LT rfl (bz rfl rfl rfl (fun b0_0=>(aHN ?_)))))
 refine aA rfl (aNs (aq (bd 0 rfl rfl ?_)))
 show awp _ _ _ _ ⟨_,At _ 0 _::_,_⟩
 refine ae (UO 10 rfl rfl (UD 10 tk25 0 rfl rfl rfl rfl (aU rfl (aY Tryz.underlying25 rfl) (aU rfl (dy rfl rfl) (aM rfl (GO 11 rfl rfl rfl (aG rfl rfl (fun hc=>aP (o:=11) tk26 (aa rfl hc) (.of (aF 0 rfl)) rfl) (aG rfl rfl (fun hc=>aY Tryz.underlying26 (aa rfl hc)) (GO 10 rfl rfl rfl (aG rfl rfl (fun hc=>aP (o:=10) tk25 (aa rfl hc) (.of (aF 0 rfl)) rfl) (aG rfl rfl (fun hc=>aY Tryz.underlying25 (aa rfl hc)) (aG rfl rfl (fun hc=>dS (aa rfl hc) (aa rfl hc)) (aU rfl (cm rfl rfl (fun h=>gf rfl h)) (aNn ?_))))))))))))))
 refine ah _ rfl (fun h1 => ?_) (fun h1 => ?_)
 ·skip
  refine aSR (aA rfl (aNn (aj (aN (FZ1 [] Tryz.results68 rfl ?_)))))
  have hh:te im=true:=h1
  unfold gY;rw [if_pos hh]
 ·skip
  have hh:te im=false:=h1
  have hh2:im.imports.l.length≤4096∧im.slots.l.length=im.imports.l.length:=by
    unfold te at hh
    simp only [Bool.or_eq_false_iff,Bool.not_eq_false',decide_eq_false_iff_not,decide_eq_true_eq] at hh
    omega
  refine ai (an (aSR (LT rfl (dO (cU) (vBo) rfl (fun b3_0=>(aHN ?_))))))
  refine LT rfl (bt (zs:=[.map none]) (by kernel_rfl) rfl (fun b3_1=>(aHN ?_)))
  refine aI rfl (aW 2 tk240 rfl rfl rfl rfl (aHK ?_))
  refine aNn (aSR (LT rfl (dO (kZ) (vBo) rfl (fun b4_0=>(aHN ?_)))))
  refine LT rfl (bt (zs:=[.map none]) (by kernel_rfl) rfl (fun b4_1=>(aHN ?_)))
  refine aI rfl (aW 4 tk119 rfl rfl rfl rfl (aHK ?_))
  refine aNs (bd 2 rfl rfl (bd 4 rfl rfl ?_))
  show awp _ _ _ _ ⟨_,At b4_1 0 [.v (.map (some b4_0))]::At b3_1 0 [.v (.map (some b3_0))]::_,_⟩
  refine ae (UO 10 rfl rfl (UD 10 tk25 2 rfl rfl rfl rfl (aU rfl (dB (l:=[.tmp 1,.tmp 3,.tmp 4]) rfl) ?_)))
  refine LF rfl (EC [1,2,3,0] [1,3] rfl (Con.clH (abe (R:=fun r _ _=>r=.bool (eE (vi im) ([],[]) 0 im.imports.l).1) (((nh im.imports 155 [.pointer (some ⟨b0_0,0,none⟩),.pointer (some ⟨b3_1,0,none⟩),.pointer (some ⟨b4_1,0,none⟩)] (adl im b0_0 b3_0 b4_0 b3_1 b4_1) (fun st=>Bun (acw b3_0 b4_0 st)) (vi im) ([],[]) (by kernel_rfl) (fun st i x hx=>(aa9 (qX im hS hh2.1 hh2.2 b0_0 b3_0 b4_0 b3_1 b4_1 st i x hx)).post fun _ _ _ ⟨_,h1,h2,h3,h4⟩=>⟨h2,h3,by rw [h1,h4]⟩)).pre2 (ak.f_imports (.of (aF 3 rfl))) (Ent.mk2 (.of (aF 0 rfl)) (Ent.mk2 (.of (aF 1 rfl)) (Ent.mk2 (.of (aF 2 rfl)) (.of (aF 3 rfl)))))).post fun r ps' hp' ⟨_,h2,h3⟩=>⟨_,h3,h2⟩)) (fun _ _ _ h=>h)) ?_)
  rintro _ _ _ ⟨rfl,rfl,rfl⟩
  refine aST ?_
  refine aA rfl (aNn (aj (FZ1 [] Tryz.results68 rfl ?_)))
  unfold gY;rw [if_neg (by rw [hh];decide)]
theorem zw (im:ak) (hS:eK im) (hsl:im.slots.l.length=im.imports.l.length):Con Tryz.prog 69 [im.val] [im.ok] [] fun r _ _=>r=.bool (l9 im):=by
 have hc0:=hS.c0
 have hcd:=hS.cd
 have hdz:=hS.dz
 have hzm:=hS.zm
 obtain ⟨w0,hw0⟩:∃ w0,eE (fN im) (0,0) 0 im.dyns.l=w0:=⟨_,rfl⟩
 refine EN1 Tryz.func69 rfl (cA (ak.f_dyns (.of (aF 0 rfl))) (fun hdl=>(cA (ak.f_slots (.of (aF 0 rfl))) (fun hsll=>(cA (ak.f_imports (.of (aF 0 rfl))) (fun hill=>(aSR (LT rfl (bz rfl rfl rfl (fun b0_0=>(aHN ?_)))))))))))
 refine aA rfl (aNn (aSR (aA rfl (aA rfl (bK (an (aq (aq (bd 0 rfl rfl ?_)))))))))
 show awp _ _ _ _ ⟨_,At _ 0 _::_,_⟩
 refine ae (UO 13 rfl rfl (UD 13 tk27 0 rfl rfl rfl rfl (aU rfl (aY Tryz.underlying27 rfl) (aM rfl (aNn (ao (aR [1,3,4,10,11,12] [1,0] [] (fun (q:Nat × (Int × Int)) st=>(q.1≤im.dyns.l.length∧eE (fN im) q.2 q.1 (im.dyns.l.drop q.1)=w0∧(0≤q.2.1∧q.2.1≤1048576)∧0≤q.2.2∧q.2.2≤q.1)∧st=⟨[(1,true,.pointer (some ⟨b0_0,0,none⟩)),(3,true,.int .i64 q.2.1),(4,true,.int .i64 q.2.2),(10,true,im.dyns.val),(11,true,.int .i64 im.dyns.l.length),(12,true,.int .i64 q.1)],[At b0_0 0 im.row,im.ok],[]⟩) (fun q=>im.dyns.l.length-q.1) rfl (⟨(0,(0,0)),⟨Nat.zero_le _,hw0,⟨by decide,by decide⟩,by decide,by decide⟩,rfl⟩) ?_)))))))
 rintro ⟨k,e,n⟩ st ⟨⟨hk,hw,⟨he0,he1⟩,hn0,hn1⟩,rfl⟩
 dsimp only at hk hw he0 he1 hn0 hn1 ⊢
 refine aSR (aU rfl (bg rfl rfl) (aNs ?_))
 refine ah _ rfl (fun h1 => ?_) (fun h1 => ?_)
 ·skip
  have hk':k<im.dyns.l.length:=by simpa using h1
  obtain ⟨x,hx⟩:∃ x,im.dyns.l[k]? = some x:=⟨_,List.getElem?_eq_getElem hk'⟩
  rw [mD (fN im) hx] at hw
  have hwd:=yd x.kind
  refine ai (an (aq (ao (aSR (fZ true rfl rfl (fun _=>aX Tryz.underlying27 tk157 rfl ((ak.f_dyns (.of (aF 1 rfl)))) rfl (aJ hx) rfl rfl) (fun h=>absurd h (by decide)) (fun ⟨b4_0,o4_0⟩=>(US 0 tk157 0 rfl rfl rfl rfl rfl (LT rfl (bt (zs:=[.int .i64 0,.int .i64 0,.int .i64 0,.int .i64 0]) (by kernel_rfl) rfl (fun b4_2=>(aHN ?_)))))))))))
  refine aI rfl (aW 0 tk157 rfl rfl rfl rfl (aHK ?_))
  refine aNs (aq (DR [] 27 (VO 0 1 rfl rfl rfl (VL 1 0 tk3 rfl rfl rfl rfl rfl (bV 2 rfl rfl (Q0 rfl (cB _ _ _)) (bV 3 rfl rfl (bY rfl) (VM 4 rfl rfl (bW 5 rfl rfl rfl (fun hc=>qFA (off:=0) rfl) (bW 6 rfl rfl rfl (fun hc=>bJ 0 tk3 (aa rfl hc) rfl rfl) (bW 7 rfl rfl rfl (fun hc=>az rfl) (bW 8 rfl rfl rfl (fun hc=>qFA (off:=3) rfl) (bW 9 rfl rfl rfl (fun hc=>aP (o:=3) tk3 (aa rfl hc) (.of (aF 1 rfl)) rfl) (bW 10 rfl rfl rfl (fun hc=>qFA (off:=1) rfl) (bW 11 rfl rfl rfl (fun hc=>bJ 0 tk3 (aa rfl hc) rfl rfl) (bW 12 rfl rfl rfl (fun hc=>Q0 (ax (aa rfl hc) rfl) (ns _)) ?_)))))))))))))))
  refine bW 13 rfl rfl rfl (fun hc=>bN (aa rfl hc) (aa rfl hc) (by (first | omega | (simp at hc;omega)))) ?_
  refine bW 14 rfl rfl rfl (fun hc=>dQ (by kernel_rfl) (ax (aa rfl hc) (ax (aa rfl hc) (ax (aa rfl hc) rfl))) (fun w S fp hst=>(cB _ _ _).quiet0 hst)) (bW 15 rfl rfl rfl (fun hc=>bY (aa rfl hc)) (bV 16 rfl rfl (cm rfl rfl (fun h=>gf rfl h)) (VM 17 rfl rfl (bW 18 rfl rfl rfl (fun hc=>qFA (off:=2) rfl) (bW 19 rfl rfl rfl (fun hc=>bJ 0 tk3 (aa rfl hc) rfl rfl) (bW 20 rfl rfl rfl (fun hc=>qFA (off:=10) rfl) (bW 21 rfl rfl rfl (fun hc=>aP (o:=10) tk25 (aa rfl hc) (.of (aF 1 rfl)) rfl) (bW 22 rfl rfl rfl (fun hc=>aY Tryz.underlying25 (aa rfl hc)) ?_))))))))
  refine bW 23 rfl rfl rfl (fun hc=>bN (aa rfl hc) rfl (by (first | omega | (simp at hc;omega)))) ?_
  refine bW 24 rfl rfl rfl (fun hc=>dQ (by kernel_rfl) (ax (aa rfl hc) (ax (aa rfl rfl) (ax (aa rfl hc) rfl))) (fun w S fp hst=>(cB _ _ _).quiet0 hst)) (bW 25 rfl rfl rfl (fun hc=>bY (aa rfl hc)) (bV 26 rfl rfl (cm rfl rfl (fun h=>gf rfl h)) (BN (an ?_))))
  refine ah _ rfl (fun h2 => ?_) (fun h2 => ?_)
  ·skip
   have hb:nT im e x=true:=h2
   have hd:fN im (e,n) k x=(false,(e,n)):=by unfold fN;rw [if_pos hb]
   refine aSR (aA rfl (aNn (aj (aN (bH (aN (aN (bH (aN (FZ1 [] Tryz.results69 rfl ?_))))))))))
   rw [hd] at hw
   unfold l9;rw [hw0,← hw];rfl
  ·skip
   have hb:nT im e x=false:=h2
   obtain ⟨hkr,har,hir⟩:=u6 hb
   refine ai (an (aq (DR [] 7 (VO 0 0 rfl rfl rfl (VL 1 0 tk3 rfl rfl rfl rfl rfl (VO 2 1 rfl rfl rfl (VL 3 0 tk3 rfl rfl rfl rfl rfl (bV 4 rfl rfl (Q0 rfl (ns _)) (bV 5 rfl rfl (aO rfl rfl (by omega)) (bV 6 rfl rfl (bB rfl) (BN (an (aSR (UO 1 rfl rfl ?_))))))))))))))
   refine UL 0 tk3 rfl rfl rfl rfl (aNn (ao (aSR (aU rfl (bw rfl rfl) (aA rfl (aNn ?_))))))
   refine ah _ rfl (fun h3 => ?_) (fun h3 => ?_)
   ·skip
    have hk3:x.kind=3:=by simpa using h3
    refine aq (aq (DR [] 14 (VO 0 2 rfl rfl rfl (VL 1 0 tk3 rfl rfl rfl rfl rfl (bV 2 rfl rfl (bg rfl rfl) (VM 3 rfl rfl (bW 4 rfl rfl rfl (fun hc=>qFA (off:=11) rfl) (bW 5 rfl rfl rfl (fun hc=>aP (o:=11) tk26 (aa rfl hc) (.of (aF 1 rfl)) rfl) (bW 6 rfl rfl rfl (fun hc=>qFA (off:=2) rfl) (bW 7 rfl rfl rfl (fun hc=>bJ 0 tk3 (aa rfl hc) rfl rfl) ?_))))))))))
    refine mP 8 rfl (by kernel_rfl) _ rfl rfl (fun hc=>aX Tryz.underlying26 tk3 (aa rfl hc) ((ak.f_slots (.of (aF 2 rfl)))) (aa rfl hc) (er (i:=x.import_) (by omega) (by simp at hc;omega)) ((Int.toNat_of_nonneg (by simp at hc;omega)).symm) rfl) (fun _=>⟨(0,0)⟩) (fun ⟨b10_8,o10_8⟩ => ?_)
    refine bW 9 rfl rfl rfl (fun hc=>dW (o:=0) tk3 (aa rfl hc) (aF 0 rfl) hc rfl) (bW 10 rfl rfl rfl (fun hc=>qFA (off:=0) rfl) (bW 11 rfl rfl rfl (fun hc=>bJ 0 tk3 (aa rfl hc) rfl rfl) (bW 12 rfl rfl rfl (fun hc=>dS (aa rfl hc) (aa rfl hc)) (bV 13 rfl rfl (cm rfl rfl (fun h=>gf rfl h)) (BN (an ?_))))))
    refine ah _ rfl (fun h4 => ?_) (fun h4 => ?_)
    ·skip
     have hs4:re im x=true:=h4
     have hd:fN im (e,n) k x=(false,(e,n)):=by unfold fN;rw [if_neg (by rw [hb];decide),if_pos hk3,if_pos hs4]
     refine aSR (aA rfl (aNn (aj (aN (bH (bH (aN (aN (bH (aN (FZ1 [] Tryz.results69 rfl ?_)))))))))))
     rw [hd] at hw
     unfold l9;rw [hw0,← hw];rfl
    ·skip
     have hs4:re im x=false:=h4
     have hd:fN im (e,n) k x=(true,(x.at_+dg x.kind,n+1)):=by unfold fN;rw [if_neg (by rw [hb];decide),if_pos hk3,if_neg (by rw [hs4];decide)]
     refine ai (an (ae (aM rfl (aU rfl (aO rfl rfl (by omega)) (aA rfl (bK (bo (bo (an (ae (aU rfl (aO rfl rfl (by omega)) (aM rfl (aNn ?_)))))))))))))
     refine ⟨[1,3,4,10,11,12],[1,0],[],rfl,?_⟩
     rw [hd] at hw
     refine ⟨(k+1,(x.at_+dg x.kind,n+1)),⟨⟨hk',hw,⟨?_,?_⟩,?_,?_⟩,rfl⟩,?_⟩<;>dsimp only<;>omega
   ·skip
    have hk3:¬ x.kind=3:=by simpa using h3
    refine aq (aSR (aU rfl (bw rfl rfl) (aA rfl (aNn ?_))))
    refine ah _ rfl (fun h5 => ?_) (fun h5 => ?_)
    ·skip
     refine ai (an ?_)
     refine ah _ rfl (fun _ => ?_) (fun h=>absurd (h5.symm.trans h) (by decide))
     refine aSR (UO 2 rfl rfl (UL 0 tk3 rfl rfl rfl rfl (aU rfl (bg rfl rfl) (aNn ?_))))
     refine ah _ rfl (fun h6 => ?_) (fun h6 => ?_)
     ·skip
      have hki:x.import_<0:=by simpa using h6
      have hd:fN im (e,n) k x=(false,(e,n)):=by unfold fN;rw [if_neg (by rw [hb];decide),if_neg hk3,if_pos ⟨by simp at h5;omega,hki⟩]
      refine aSR (aA rfl (aNn (aj (bH (bH (aN (aN (bH (aN (FZ1 [] Tryz.results69 rfl ?_))))))))))
      rw [hd] at hw
      unfold l9;rw [hw0,← hw];rfl
     ·skip
      have hki:¬ x.import_<0:=by simpa using h6
      have hd:fN im (e,n) k x=(true,(x.at_+dg x.kind,n)):=by unfold fN;rw [if_neg (by rw [hb];decide),if_neg hk3,if_neg (fun h=>hki h.2)]
      refine ai (bo (bo (an (ae (aU rfl (aO rfl rfl (by omega)) (aM rfl (aNn ?_)))))))
      refine ⟨[1,3,4,10,11,12],[1,0],[],rfl,?_⟩
      rw [hd] at hw
      refine ⟨(k+1,(x.at_+dg x.kind,n)),⟨⟨hk',hw,⟨?_,?_⟩,?_,?_⟩,rfl⟩,?_⟩<;>dsimp only<;>omega
    ·skip
     refine aSR (aU rfl (bw rfl rfl) (aA rfl (aNn ?_)))
     refine ah _ rfl (fun h7 => ?_) (fun h7 => ?_)
     ·skip
      refine ai (an ?_)
      refine ah _ rfl (fun _ => ?_) (fun h=>absurd (h7.symm.trans h) (by decide))
      refine aSR (UO 2 rfl rfl (UL 0 tk3 rfl rfl rfl rfl (aU rfl (bg rfl rfl) (aNn ?_))))
      refine ah _ rfl (fun h8 => ?_) (fun h8 => ?_)
      ·skip
       have hki:x.import_<0:=by simpa using h8
       have hd:fN im (e,n) k x=(false,(e,n)):=by unfold fN;rw [if_neg (by rw [hb];decide),if_neg hk3,if_pos ⟨by simp at h7;omega,hki⟩]
       refine aSR (aA rfl (aNn (aj (bH (bH (aN (aN (bH (aN (FZ1 [] Tryz.results69 rfl ?_))))))))))
       rw [hd] at hw
       unfold l9;rw [hw0,← hw];rfl
      ·skip
       have hki:¬ x.import_<0:=by simpa using h8
       have hd:fN im (e,n) k x=(true,(x.at_+dg x.kind,n)):=by unfold fN;rw [if_neg (by rw [hb];decide),if_neg hk3,if_neg (fun h=>hki h.2)]
       refine ai (bo (bo (an (ae (aU rfl (aO rfl rfl (by omega)) (aM rfl (aNn ?_)))))))
       refine ⟨[1,3,4,10,11,12],[1,0],[],rfl,?_⟩
       rw [hd] at hw
       refine ⟨(k+1,(x.at_+dg x.kind,n)),⟨⟨hk',hw,⟨?_,?_⟩,?_,?_⟩,rfl⟩,?_⟩<;>dsimp only<;>omega
     ·skip
      refine ae (aU rfl (bw rfl rfl) (aA rfl (aNn ?_)))
      refine ah _ rfl (fun h9 => ?_) (fun h9 => ?_)
      ·skip
       refine aSR (UO 2 rfl rfl (UL 0 tk3 rfl rfl rfl rfl (aU rfl (bg rfl rfl) (aNn ?_))))
       refine ah _ rfl (fun h10 => ?_) (fun h10 => ?_)
       ·skip
        have hki:x.import_<0:=by simpa using h10
        have hd:fN im (e,n) k x=(false,(e,n)):=by unfold fN;rw [if_neg (by rw [hb];decide),if_neg hk3,if_pos ⟨by simp at h9;omega,hki⟩]
        refine aSR (aA rfl (aNn (aj (bH (bH (aN (aN (bH (aN (FZ1 [] Tryz.results69 rfl ?_))))))))))
        rw [hd] at hw
        unfold l9;rw [hw0,← hw];rfl
       ·skip
        have hki:¬ x.import_<0:=by simpa using h10
        have hd:fN im (e,n) k x=(true,(x.at_+dg x.kind,n)):=by unfold fN;rw [if_neg (by rw [hb];decide),if_neg hk3,if_neg (fun h=>hki h.2)]
        refine ai (bo (bo (an (ae (aU rfl (aO rfl rfl (by omega)) (aM rfl (aNn ?_)))))))
        refine ⟨[1,3,4,10,11,12],[1,0],[],rfl,?_⟩
        rw [hd] at hw
        refine ⟨(k+1,(x.at_+dg x.kind,n)),⟨⟨hk',hw,⟨?_,?_⟩,?_,?_⟩,rfl⟩,?_⟩<;>dsimp only<;>omega
      ·skip
       have hkn:¬ (x.kind=5∨x.kind=6∨x.kind=7):=by simp at h5 h7 h9;omega
       have hd:fN im (e,n) k x=(true,(x.at_+dg x.kind,n)):=by unfold fN;rw [if_neg (by rw [hb];decide),if_neg hk3,if_neg (fun h=>hkn h.1)]
       refine ai (bo (bo (an (ae (aU rfl (aO rfl rfl (by omega)) (aM rfl (aNn ?_)))))))
       refine ⟨[1,3,4,10,11,12],[1,0],[],rfl,?_⟩
       rw [hd] at hw
       refine ⟨(k+1,(x.at_+dg x.kind,n)),⟨⟨hk',hw,⟨?_,?_⟩,?_,?_⟩,rfl⟩,?_⟩<;>dsimp only<;>omega
 ·skip
  have hke:k=im.dyns.l.length:=by have:=of_decide_eq_false h1;omega
  subst hke
  have hwe:(true,(e,n))=w0:=by rw [← hw,List.drop_length];rfl
  refine aS (aV (aV (ba (an (aq (aSR (UO 11 rfl rfl (UD 11 tk26 0 rfl rfl rfl rfl (aU rfl (aY Tryz.underlying26 rfl) (aM rfl (aNn (ao ?_))))))))))))
  refine aR [4,78,79,80] [1,0] [] (fun (j:Nat) st=>j≤im.slots.l.length∧st=⟨[(4,true,.int .i64 (n-kS (im.slots.l.take j))),(78,true,im.slots.val),(79,true,.int .i64 im.slots.l.length),(80,true,.int .i64 j)],[At b0_0 0 im.row,im.ok],[]⟩) (fun j=>im.slots.l.length-j) rfl (⟨0,⟨Nat.zero_le _,by rw [List.take_zero];show _=(⟨[(4,true,.int .i64 (n-0)),_,_,_],_,_⟩:Sta);rw [Int.sub_zero];rfl⟩⟩) ?_
  rintro j st ⟨hj,rfl⟩
  have hsn:=tS (im.slots.l.take j)
  have hsm:=List.length_take_le j im.slots.l
  refine aSR (aU rfl (bg rfl rfl) (aNs ?_))
  refine ah _ rfl (fun h11 => ?_) (fun h11 => ?_)
  ·skip
   have hj':j<im.slots.l.length:=by simpa using h11
   obtain ⟨s,hs⟩:∃ s,im.slots.l[j]? = some s:=⟨_,List.getElem?_eq_getElem hj'⟩
   have htk:=vS (im.slots.l.take j) s
   have hta:im.slots.l.take (j+1)=im.slots.l.take j++[s]:=by rw [List.take_add_one,hs];rfl
   rw [← hta] at htk
   have hsn2:=tS (im.slots.l.take (j+1))
   have hsm2:=List.length_take_le (j+1) im.slots.l
   refine ai (an (aq (ao (aSR (fZ true rfl rfl (fun _=>aX Tryz.underlying26 tk3 rfl ((ak.f_slots (.of (aF 1 rfl)))) rfl (aJ hs) rfl rfl) (fun h=>absurd h (by decide)) (fun ⟨b21_0,o21_0⟩=>(US 0 tk3 0 rfl rfl rfl rfl rfl (aA rfl (aNn (aSR (aM rfl (aU rfl (dS rfl rfl) (aNn ?_)))))))))))))
   refine ah _ rfl (fun h12 => ?_) (fun h12 => ?_)
   ·skip
    have hs1:¬ s = -1:=by simpa using h12
    rw [if_neg hs1] at htk
    refine ae (aM rfl (aU rfl (bN rfl rfl (by omega)) (aA rfl (bK (bo (an (ae (aU rfl (aO rfl rfl (by omega)) (aM rfl (aNn ?_))))))))))
    refine ⟨[4,78,79,80],[1,0],[],rfl,?_⟩
    exact ⟨j+1,⟨hj',by rw [htk,← Int.sub_sub];rfl⟩,by omega⟩
   ·skip
    have hs1:s = -1:=by simpa using h12
    rw [if_pos hs1] at htk
    refine ai (bo (an (ae (aU rfl (aO rfl rfl (by omega)) (aM rfl (aNn ?_))))))
    refine ⟨[4,78,79,80],[1,0],[],rfl,?_⟩
    exact ⟨j+1,⟨hj',by rw [htk];rfl⟩,by omega⟩
  ·skip
   have hje:j=im.slots.l.length:=by have:=of_decide_eq_false h11;omega
   subst hje
   refine aS (aV (aV (ba (an (aSR (aM rfl (aU rfl (bw rfl rfl) (aA rfl (aNn (aj (FZ1 [] Tryz.results69 rfl ?_)))))))))))
   unfold l9;rw [hw0,← hwe,List.take_length];rfl
end Go.Proofs.YtfkcmbonmpcbfaaGreat

namespace Go.Proofs.YtfkcmbonmpcbfaaGreat
open Go.RowKit Go.Lp Go.Sy Go.Lv
def wQ(im:ak):Bool:=(((decide ((im.inits.l.length:Int)≤4096) && decide ((im.lasts.l.length:Int)≤4096)) && allI (fun _ n=>instrB im.code n) 0 im.inits.l) && allI (fun _ n=>instrB im.code n) 0 im.lasts.l) && (decide (im.entry = -1) || (instrB im.code im.entry && !im.lib))
def wF(s:List ByteArray)(_:Nat)(n:ByteArray):Bool × List ByteArray:=(dV n && !(ee s n).getD false,s++[n])
def ry(im:ak)(v:Bool):Bool:=(decide ((im.needs.l.length:Int)≤64) && v) && (eE wF [im.name] 0 im.needs.l).1
def aai(im:ak)(i:Nat)(x:fc):Bool:=(((lN x.name && (decide (x.kind=0) || decide (x.kind=1))) && fV x.at_ 0 im.zero) && decide (x.size≥0)) && (decide ((i:Int)=0) || decide ((elt im.info.marks.l ((i:Int)-1)).at_≤x.at_))
def aad(im:ak)(i:Nat)(x:fb):Bool:=(((decide (x.sec=0) && lN x.file) && fV x.at_ 0 (im.code-1)) && decide (x.line≥0)) && (decide ((i:Int)=0) || decide ((elt im.info.lines.l ((i:Int)-1)).at_≤x.at_))
def vB(x:eD):Bool:=(fV x.from_ 0 1048576 && fV x.size 0 1048576) && fV x.to_ 0 1048576
def zH(im:ak)(x:dC):Bool:=((((allI (fun _ p=>vB p) 0 x.pieces.l && dV x.sec) && kJ x.obj) && decide ((x.from_.size:Int)=32)) && (decide (x.code = -1) || instrB im.code x.code)) && decide ((x.pieces.l.length:Int)≤64)
def si(im:ak):Bool:=decide ((im.changes.l.length:Int)≤4096) && allI (fun _ x=>zH im x) 0 im.changes.l
open Go.Proofs.Tryz
attribute [local irreducible] aL aB awp aC fwp Quiet
theorem l8(im:ak)(hS:eK im)(b i:Nat)(x:Int):Con Tryz.prog 157 [.int .i64 i,.int .i64 x,.pointer (some ⟨b,0,none⟩)] [At b 0 im.row] [] fun r _ _=>r=.bool (instrB im.code x):=by
 have hc0:=hS.c0
 have hcd:=hS.cd
 have hdz:=hS.dz
 have hzm:=hS.zm
 refine EN3 Tryz.func157 rfl (aSR (aA rfl (aNn (aSR (UD 0 tk40 0 rfl rfl rfl rfl (aM rfl (aU rfl (Q0 rfl (con_instr im ⟨hc0,by omega⟩ x)) (aA rfl (aNn (aj (FZ1 [] Tryz.results157 rfl ?_)))))))))))
 rfl
theorem uQ(im:ak)(hS:eK im):Con Tryz.prog 70 [im.val] [im.ok] [] fun r _ _=>r=.bool (wQ im):=by
 have hc0:=hS.c0
 have hcd:=hS.cd
 have hdz:=hS.dz
 have hzm:=hS.zm
 refine EN1 Tryz.func70 rfl (aSR (LT rfl (bz rfl rfl rfl (fun b0_0=>(aHN ?_)))))
 refine aA rfl (aNs (bd 0 rfl rfl ?_))
 show awp _ _ _ _ ⟨_,At _ 0 _::_,_⟩
 refine ae (aU rfl (dB (l:=[.tmp 1]) rfl) (aA rfl (aNn (aSR (UO 14 rfl rfl (UD 14 tk26 0 rfl rfl rfl rfl (aU rfl (aY Tryz.underlying26 rfl) (aU rfl (dq rfl rfl) (aM rfl (GO 15 rfl rfl rfl (aG rfl rfl (fun hc=>aP (o:=15) tk26 (aa rfl hc) (.of (aF 0 rfl)) rfl) (aG rfl rfl (fun hc=>aY Tryz.underlying26 (aa rfl hc)) (aG rfl rfl (fun hc=>dq (aa rfl hc) rfl) (aU rfl (aQ rfl rfl (fun h=>gt rfl h)) (aM rfl ?_)))))))))))))))
 refine GO 14 rfl rfl rfl (aG rfl rfl (fun hc=>aP (o:=14) tk26 (aa rfl hc) (.of (aF 0 rfl)) rfl) (aG rfl rfl (fun hc=>az rfl) (aG rfl rfl (fun hc=>QC (ax (aa rfl hc) (ax (aa rfl hc) rfl)) (fun w S fp hst=>(((ix im.inits 157 [.pointer (some ⟨b0_0,0,none⟩)] (At b0_0 0 im.row) (fun _ n=>instrB im.code n) (by kernel_rfl) (fun i x _=>l8 im hS b0_0 i x)).post (fun _ _ _ h=>h.2.2)).pre2 (ps:=[At b0_0 0 im.row,im.ok]) (ak.f_inits (.of (aF 1 rfl))) (.of (aF 0 rfl))).quiet2 (aF 0 rfl) (aF 1 rfl) hst)) (aU rfl (aQ rfl rfl (fun h=>gt rfl h)) (aM rfl (GO 15 rfl rfl rfl (aG rfl rfl (fun hc=>aP (o:=15) tk26 (aa rfl hc) (.of (aF 0 rfl)) rfl) (aG rfl rfl (fun hc=>az rfl) (aG rfl rfl (fun hc=>QC (ax (aa rfl hc) (ax (aa rfl hc) rfl)) (fun w S fp hst=>(((ix im.lasts 157 [.pointer (some ⟨b0_0,0,none⟩)] (At b0_0 0 im.row) (fun _ n=>instrB im.code n) (by kernel_rfl) (fun i x _=>l8 im hS b0_0 i x)).post (fun _ _ _ h=>h.2.2)).pre2 (ps:=[At b0_0 0 im.row,im.ok]) (ak.f_lasts (.of (aF 1 rfl))) (.of (aF 0 rfl))).quiet2 (aF 0 rfl) (aF 1 rfl) hst)) (aU rfl (aQ rfl rfl (fun h=>gt rfl h)) (aM rfl (GO 16 rfl rfl rfl ?_))))))))))))
 refine aG rfl rfl (fun hc=>aP (o:=16) tk3 (aa rfl hc) (.of (aF 0 rfl)) rfl) (aG rfl rfl (fun hc=>bw (aa rfl hc) rfl) (aG rfl rfl (fun hc=>az (aa rfl hc)) (aG rfl rfl (fun hc=>aP (o:=0) tk40 rfl (.of (aF 0 rfl)) rfl) (GO 16 rfl rfl rfl (aG rfl rfl (fun hc=>aP (o:=16) tk3 (aa rfl hc) (.of (aF 0 rfl)) rfl) (aG rfl rfl (fun hc=>Q0 (ax (aa rfl hc) (ax (aa rfl hc) rfl)) (con_instr im ⟨hc0,by omega⟩ im.entry)) (aG rfl rfl (fun hc=>az (aa rfl hc)) (GO 1 rfl rfl rfl ?_))))))))
 refine aG rfl rfl (fun hc=>aP (o:=1) tk4 (aa rfl hc) (.of (aF 0 rfl)) rfl) (aG rfl rfl (fun hc=>bY (aa rfl hc)) (aG rfl rfl (fun hc=>aQ (aa rfl hc) rfl (fun h=>gt hc h)) (aG rfl rfl (fun hc=>cm (aa rfl hc) rfl (fun h=>gf hc h)) (aU rfl (aQ rfl rfl (fun h=>gt rfl h)) (aA rfl (aNn (aj (FZ1 [] Tryz.results70 rfl ?_))))))))
 rfl
theorem uF(im:ak)(bm b2:Nat)(s:List ByteArray)(i:Nat)(x:ByteArray)(hx:im.needs.l[i]? = some x) :
   Con Tryz.prog 160 [.int .i64 i,.string x,.pointer (some ⟨b2,0,none⟩)] [b7 (At b2 0 [.v (.map (some bm))]) im.ok] [cN bm gH vBo (ee s)]
     fun r ps hp=>ps=[]∧r=.bool (wF s i x).1∧hp=[cN bm gH vBo (ee (wF s i x).2)]:=by
 refine EN3 Tryz.func160 rfl (bF _ (Ent.left (.of (aF 0 rfl))) (ei (Ent.all (f:=dU) (ak.f_needsA (Ent.right (.of (aF 1 rfl)))) hx) (fun hsx=>(aSR (aA rfl (aNn (aSR (aM rfl (aU rfl (Q0 rfl (fw _ hsx)) (aM rfl (aG rfl rfl (fun hc=>aP (o:=0) tk244 rfl (.of (aF 0 rfl)) rfl) (aG rfl rfl (fun hc=>az rfl) (aG rfl rfl (fun hc=>gJ (k:=x) (v0:=false) 0 Tryz.underlying244 (kyT) (by kernel_rfl) (aa rfl hc) (aa rfl hc) rfl) ?_)))))))))))))
 refine aG rfl rfl (fun hc=>bY (aa rfl hc)) (aU rfl (aQ rfl rfl (fun h=>gt rfl h)) (aA rfl (aNn (aSR (UD 0 tk244 0 rfl rfl rfl rfl (aM rfl (aI rfl (cP (k:=x) (v:=true) 0 Tryz.underlying244 (kyT) rfl rfl rfl rfl (aHK ?_)))))))))
 refine bK ?_
 rw [← fL]
 refine an (aSR (aM rfl (aA rfl (aNn (aj (FZ1 [0] Tryz.results160 rfl ?_))))))
 exact ⟨rfl,rfl,rfl⟩
theorem xI(im:ak):Con Tryz.prog 71 [im.val] [im.ok] [] (YN Value.bool fun b=>b=true↔y7 im.versions.l∧ry im true=true):=by
 refine EN1 Tryz.func71 rfl (aSR (LT rfl (bz rfl rfl rfl (fun b0_0=>(aHN ?_)))))
 refine aA rfl (aNs (bd 0 rfl rfl ?_))
 show awp _ _ _ _ ⟨_,At _ 0 _::_,_⟩
 refine ae (LT rfl (dO (gH) (vBo) rfl (fun b1_0=>(aHN ?_))))
 refine UO 0 rfl rfl (UD 0 tk9 0 rfl rfl rfl rfl (aI rfl (gU (k:=im.name) (v:=true) 1 Tryz.underlying244 (kyT) rfl rfl rfl rfl (aHK ?_))))
 refine aM rfl (LT rfl (bt (zs:=[.map none]) (by kernel_rfl) rfl (fun b1_5=>(aHN ?_))))
 refine aI rfl (aW 2 tk244 rfl rfl rfl rfl (aHK ?_))
 refine aNs ?_
 rw [oI,← fL]
 refine bd 2 rfl rfl ?_
 show awp _ _ _ _ ⟨_,At b1_5 0 [.v (.map (some b1_0))]::_,_⟩
 refine ae (UO 17 rfl rfl (UD 17 tk28 1 rfl rfl rfl rfl (aU rfl (aY Tryz.underlying28 rfl) (aU rfl (dq rfl rfl) (aM rfl (GO 18 rfl rfl rfl (aG rfl rfl (fun hc=>aP (o:=18) tk29 (aa rfl hc) (.of (aF 1 rfl)) rfl) ?_)))))))
 refine ga (caps:=[]) [0] (false) (by kernel_rfl) _ rfl rfl (fun _=>rfl) (fun hc=>(ax (aa rfl hc) rfl)) (fun hc=>by rw [List.append_nil];exact (ny im.versions).pre2 (ak.f_versions (.of (aF 0 rfl))) (ak.f_versionsA (.of (aF 0 rfl)))) (fun v1 hv1 => ?_)
 refine aU rfl (aQ rfl rfl (fun h=>gt rfl h)) (aM rfl (GO 17 rfl rfl rfl (aG rfl rfl (fun hc=>aP (o:=17) tk28 (aa rfl hc) (.of (aF 1 rfl)) rfl) (aG rfl rfl (fun hc=>dB (l:=[.tmp 3]) rfl) ?_))))
 refine pC (caps:=[]) [2,1,0] 1 (by kernel_rfl) _ rfl rfl (Nat.le_of_ble_eq_true rfl) (fun _=>rfl) (fun hc=>(ax (aa rfl hc) (ax (aa rfl hc) rfl))) (fun hc=>by rw [List.append_nil];exact (Con.clH (((nj im.needs 160 [.pointer (some ⟨b1_5,0,none⟩)] (b7 (At b1_5 0 [.v (.map (some b1_0))]) im.ok) (fun s=>cN b1_0 gH vBo (ee s)) wF [im.name] (by kernel_rfl) (fun s i x hx=>uF im b1_0 b1_5 s i x hx)).pre2 (ak.f_needs (.of (aF 2 rfl))) (Ent.mk2 (.of (aF 0 rfl)) (.of (aF 2 rfl))))) (fun _ _ _ h=>h.2.1))) ?_
 refine aHK ?_
 refine aU rfl (aQ rfl rfl (fun h=>gt rfl h)) (aA rfl (aNn (aj (FZ1 [] Tryz.results71 rfl ?_))))
 refine ⟨⟨rfl,rfl⟩,_,rfl,fun h => ?_,fun ⟨hs,h⟩ => ?_⟩
 · rw [Bool.and_eq_true,Bool.and_eq_true] at h
   refine ⟨(hv1 (by rw [h.1.1];rfl)).1 h.1.2,?_⟩
   unfold ry;rw [h.1.1,h.2];rfl
 · unfold ry at h
   rw [Bool.and_eq_true,Bool.and_eq_true] at h
   rw [h.1.1,h.2,(hv1 (by rw [h.1.1];rfl)).2 hs];rfl
theorem pd(i:Nat)(x:eD):Con Tryz.prog 183 [.int .i64 i,x.val] [] [] fun r _ _=>r=.bool (vB x):=by
 refine EN2 Tryz.func183 rfl (aSR (LT rfl (bz rfl rfl rfl (fun b0_0=>(aHN ?_)))))
 refine aA rfl (aNn (aSR (UO 0 rfl rfl (UL 0 tk3 rfl rfl rfl rfl (aU rfl (Q0 rfl (cB _ _ _)) (aM rfl (GO 1 rfl rfl rfl (GL 0 tk3 rfl rfl rfl rfl rfl (aG rfl rfl (fun hc=>dQ (by kernel_rfl) (ax (aa rfl hc) (ax (aa rfl rfl) (ax (aa rfl rfl) rfl))) (fun w S fp hst=>(cB _ _ _).quiet0 hst)) (aU rfl (aQ rfl rfl (fun h=>gt rfl h)) (aM rfl (GO 2 rfl rfl rfl (GL 0 tk3 rfl rfl rfl rfl rfl (aG rfl rfl (fun hc=>dQ (by kernel_rfl) (ax (aa rfl hc) (ax (aa rfl rfl) (ax (aa rfl rfl) rfl))) (fun w S fp hst=>(cB _ _ _).quiet0 hst)) ?_))))))))))))))
 refine aU rfl (aQ rfl rfl (fun h=>gt rfl h)) (aA rfl (aNn (aj (FZ1 [] Tryz.results183 rfl ?_))))
 rfl
theorem qQ(im:ak)(hS:eK im)(b i:Nat)(x:dC)(hx:im.changes.l[i]? = some x):Con Tryz.prog 181 [.int .i64 i,x.val,.pointer (some ⟨b,0,none⟩)] [b7 (At b 0 im.row) im.ok] [] fun r _ _=>r=.bool (zH im x):=by
 have hc0:=hS.c0
 have hcd:=hS.cd
 have hdz:=hS.dz
 have hzm:=hS.zm
 refine EN3 Tryz.func181 rfl (bF _ (Ent.left (.of (aF 0 rfl))) (bF _ (Ent.all (f:=dC.ok) (ak.f_changesA (Ent.right (.of (aF 1 rfl)))) hx) (ei (dC.f_sec (.of (aF 0 rfl))) (fun hss=>(ei (dC.f_obj (.of (aF 0 rfl))) (fun hso=>(aSR (LT rfl (bz rfl rfl rfl (fun b0_0=>(aHN ?_)))))))))))
 refine aA rfl (aNn (aSR (UO 3 rfl rfl (UL 0 tk202 rfl rfl rfl rfl ?_))))
 refine aU rfl (Q1 rfl (((nf x.pieces 183 [] x.ok (fun _ p=>vB p) (by kernel_rfl) (fun i p _=>(pd i p).pre (fun _ h=>by cases h))).post (fun _ _ _ h=>h.2.2)).pre2 (ps:=[x.ok]) (dC.f_pieces (.of (aF 0 rfl))) (.of (aF 0 rfl))) 0 rfl) ?_
 refine aA rfl (aNn (aSR (aM rfl (aM rfl (GO 1 rfl rfl rfl (GL 0 tk9 rfl rfl rfl rfl rfl (aG rfl rfl (fun hc=>Q0 (ax (aa rfl hc) rfl) (fw _ hss)) (aU rfl (aQ rfl rfl (fun h=>gt rfl h)) (aM rfl (GO 0 rfl rfl rfl (GL 0 tk9 rfl rfl rfl rfl rfl (aG rfl rfl (fun hc=>Q0 (ax (aa rfl hc) rfl) (iy _ hso)) (aU rfl (aQ rfl rfl (fun h=>gt rfl h)) (aM rfl (GO 2 rfl rfl rfl ?_)))))))))))))))
 refine GL 0 tk9 rfl rfl rfl rfl rfl (aG rfl rfl (fun hc=>ep Tryz.underlying9 (aa rfl hc)) (aG rfl rfl (fun hc=>bw (aa rfl hc) rfl) (aU rfl (aQ rfl rfl (fun h=>gt rfl h)) (aM rfl (GO 4 rfl rfl rfl (GL 0 tk3 rfl rfl rfl rfl rfl (aG rfl rfl (fun hc=>bw (aa rfl hc) rfl) (aG rfl rfl (fun hc=>az (aa rfl hc)) (aG rfl rfl (fun hc=>aP (o:=0) tk40 rfl (.of (aF 1 rfl)) rfl) (GO 4 rfl rfl rfl (GL 0 tk3 rfl rfl rfl rfl rfl (aG rfl rfl (fun hc=>Q0 (ax (aa rfl hc) (ax (aa rfl hc) rfl)) (con_instr im ⟨hc0,by omega⟩ x.code)) (aG rfl rfl (fun hc=>cm (aa rfl hc) rfl (fun h=>gf hc h)) (aU rfl (aQ rfl rfl (fun h=>gt rfl h)) (aM rfl ?_)))))))))))))))
 refine GO 3 rfl rfl rfl (GL 0 tk202 rfl rfl rfl rfl rfl (aG rfl rfl (fun hc=>aY Tryz.underlying202 (aa rfl hc)) (aG rfl rfl (fun hc=>dq (aa rfl hc) rfl) (aU rfl (aQ rfl rfl (fun h=>gt rfl h)) (aA rfl (aNn (aj (FZ1 [] Tryz.results181 rfl ?_))))))))
 rfl
theorem ss(im:ak)(hS:eK im):Con Tryz.prog 73 [im.val] [im.ok] [] fun r _ _=>r=.bool (si im):=by
 refine EN1 Tryz.func73 rfl (aSR (LT rfl (bz rfl rfl rfl (fun b0_0=>(aHN ?_)))))
 refine aA rfl (aNs (bd 0 rfl rfl ?_))
 show awp _ _ _ _ ⟨_,At _ 0 _::_,_⟩
 refine ae (UO 25 rfl rfl (UD 25 tk38 0 rfl rfl rfl rfl (aU rfl (aY Tryz.underlying38 rfl) (aU rfl (dq rfl rfl) (aM rfl (GO 25 rfl rfl rfl (aG rfl rfl (fun hc=>aP (o:=25) tk38 (aa rfl hc) (.of (aF 0 rfl)) rfl) (aG rfl rfl (fun hc=>dB (l:=[.tmp 1]) rfl) (aG rfl rfl (fun hc=>QC (ax (aa rfl hc) (ax (aa rfl hc) rfl)) (fun w S fp hst=>(((oY im.changes 181 [.pointer (some ⟨b0_0,0,none⟩)] (b7 (At b0_0 0 im.row) im.ok) (fun _ x=>zH im x) (by kernel_rfl) (fun i x hx=>qQ im hS b0_0 i x hx)).post (fun _ _ _ h=>h.2.2)).pre2 (ps:=[At b0_0 0 im.row,im.ok]) (ak.f_changes (.of (aF 1 rfl))) (Ent.mk2 (.of (aF 0 rfl)) (.of (aF 1 rfl)))).quiet2 (aF 0 rfl) (aF 1 rfl) hst)) (aU rfl (aQ rfl rfl (fun h=>gt rfl h)) (aA rfl (aNn (aj (FZ1 [] Tryz.results73 rfl ?_))))))))))))))
 rfl
abbrev abq(im:ak)(b b3:Nat):Per:=b7 (At b 0 im.row) (b7 (At b3 0 im.info.row) im.ok)
theorem xu(im:ak)(b b3 i:Nat)(x:fc)(hx:im.info.marks.l[i]? = some x):Con Tryz.prog 162 [.int .i64 i,x.val,.pointer (some ⟨b,0,none⟩),.pointer (some ⟨b3,0,none⟩)] [abq im b b3] [] fun r _ _=>r=.bool (aai im i x):=by
 have hil:=(List.getElem?_eq_some_iff.1 hx).1
 refine EN4 Tryz.func162 rfl (bF _ (Ent.left (.of (aF 0 rfl))) (bF _ (Ent.left (Ent.right (.of (aF 1 rfl)))) (bF _ (Ent.right (Ent.right (.of (aF 2 rfl)))) (cA (cY.f_marks (ak.f_info (.of (aF 0 rfl)))) (fun hml=>(aSR (LT rfl (bz rfl rfl rfl (fun b0_0=>(aHN ?_))))))))))
 refine aA rfl (aNs (DR [] 42 (VO 0 0 rfl rfl rfl (VL 1 0 tk9 rfl rfl rfl rfl rfl (bV 2 rfl rfl (Q0 rfl (gS _)) (VM 3 rfl rfl (bW 4 rfl rfl rfl (fun hc=>qFA (off:=1) rfl) (bW 5 rfl rfl rfl (fun hc=>bJ 0 tk3 (aa rfl hc) rfl rfl) (bW 6 rfl rfl rfl (fun hc=>bw (aa rfl hc) rfl) (bW 7 rfl rfl rfl (fun hc=>az (aa rfl hc)) (bW 8 rfl rfl rfl (fun hc=>qFA (off:=1) rfl) (bW 9 rfl rfl rfl (fun hc=>bJ 0 tk3 (aa rfl hc) rfl rfl) (bW 10 rfl rfl rfl (fun hc=>bw (aa rfl hc) rfl) (bW 11 rfl rfl rfl (fun hc=>cm (aa rfl hc) rfl (fun h=>gf hc h)) (bV 12 rfl rfl (aQ rfl rfl (fun h=>gt rfl h)) ?_)))))))))))))))
 refine VM 13 rfl rfl (bW 14 rfl rfl rfl (fun hc=>qFA (off:=2) rfl) (bW 15 rfl rfl rfl (fun hc=>bJ 0 tk3 (aa rfl hc) rfl rfl) (bW 16 rfl rfl rfl (fun hc=>qFA (off:=4) rfl) (bW 17 rfl rfl rfl (fun hc=>aP (o:=4) tk3 (aa rfl hc) (.of (aF 2 rfl)) rfl) (bW 18 rfl rfl rfl (fun hc=>dQ (by kernel_rfl) (ax (aa rfl hc) (ax (aa rfl rfl) (ax (aa rfl hc) rfl))) (fun w S fp hst=>(cB _ _ _).quiet0 hst)) (bV 19 rfl rfl (aQ rfl rfl (fun h=>gt rfl h)) (VM 20 rfl rfl (bW 21 rfl rfl rfl (fun hc=>qFA (off:=3) rfl) (bW 22 rfl rfl rfl (fun hc=>bJ 0 tk3 (aa rfl hc) rfl rfl) (bW 23 rfl rfl rfl (fun hc=>dR (aa rfl hc) rfl) (bV 24 rfl rfl (aQ rfl rfl (fun h=>gt rfl h)) (VM 25 rfl rfl (bW 26 rfl rfl rfl (fun hc=>az rfl) (bW 27 rfl rfl rfl (fun hc=>bw (aa rfl hc) rfl) (bW 28 rfl rfl rfl (fun hc=>az (aa rfl hc)) ?_)))))))))))))))
 refine bW 29 rfl rfl rfl (fun hc=>qFA (off:=0) rfl) (bW 30 rfl rfl rfl (fun hc=>aP (o:=0) tk30 (aa rfl hc) (.of (aF 1 rfl)) rfl) (bW 31 rfl rfl rfl (fun hc=>az rfl) ?_))
 refine bW 32 rfl rfl rfl (fun hc=>bN (aa rfl hc) rfl (by (first | omega | (simp at hc;omega)))) ?_
 refine mP 33 rfl (by kernel_rfl) _ rfl rfl (fun hc=>aX Tryz.underlying30 tk218 (aa rfl hc) ((cY.f_marks (ak.f_info (.of (aF 0 rfl))))) (aa rfl hc) (er (i:=(i:Int)-1) (by simp at hc;omega) (by simp at hc;omega)) ((Int.toNat_of_nonneg (by simp at hc;omega)).symm) rfl) (fun _=>⟨(0,0)⟩) (fun ⟨b1_33,o1_33⟩ => ?_)
 refine bW 34 rfl rfl rfl (fun hc=>qFA (off:=2) (aa rfl hc)) (bW 35 rfl rfl rfl (fun hc=>dW (o:=2) tk3 (aa rfl hc) (aF 0 rfl) hc rfl) (bW 36 rfl rfl rfl (fun hc=>qFA (off:=2) rfl) (bW 37 rfl rfl rfl (fun hc=>bJ 0 tk3 (aa rfl hc) rfl rfl) (bW 38 rfl rfl rfl (fun hc=>dq (aa rfl hc) (aa rfl hc)) (bW 39 rfl rfl rfl (fun hc=>cm (aa rfl hc) rfl (fun h=>gf hc h)) (bV 40 rfl rfl (aQ rfl rfl (fun h=>gt rfl h)) (bV 41 rfl rfl (bB rfl) (BN (an (aj (FZ1 [] Tryz.results162 rfl ?_)))))))))))
 rfl
theorem xv(im:ak)(hS:eK im)(b b3 i:Nat)(x:fb)(hx:im.info.lines.l[i]? = some x):Con Tryz.prog 165 [.int .i64 i,x.val,.pointer (some ⟨b,0,none⟩),.pointer (some ⟨b3,0,none⟩)] [abq im b b3] [] fun r _ _=>r=.bool (aad im i x):=by
 have hil:=(List.getElem?_eq_some_iff.1 hx).1
 have hc0:=hS.c0
 have hcd:=hS.cd
 have hdz:=hS.dz
 have hzm:=hS.zm
 refine EN4 Tryz.func165 rfl (bF _ (Ent.left (.of (aF 0 rfl))) (bF _ (Ent.left (Ent.right (.of (aF 1 rfl)))) (bF _ (Ent.right (Ent.right (.of (aF 2 rfl)))) (cA (cY.f_lines (ak.f_info (.of (aF 0 rfl)))) (fun hml=>(aSR (LT rfl (bz rfl rfl rfl (fun b0_0=>(aHN ?_))))))))))
 refine aA rfl (aNs (DR [] 38 (VO 0 0 rfl rfl rfl (VL 1 0 tk3 rfl rfl rfl rfl rfl (bV 2 rfl rfl (bw rfl rfl) (VM 3 rfl rfl (bW 4 rfl rfl rfl (fun hc=>qFA (off:=2) rfl) (bW 5 rfl rfl rfl (fun hc=>bJ 0 tk9 (aa rfl hc) rfl rfl) (bW 6 rfl rfl rfl (fun hc=>Q0 (ax (aa rfl hc) rfl) (gS _)) (bV 7 rfl rfl (aQ rfl rfl (fun h=>gt rfl h)) (VM 8 rfl rfl (bW 9 rfl rfl rfl (fun hc=>qFA (off:=1) rfl) (bW 10 rfl rfl rfl (fun hc=>bJ 0 tk3 (aa rfl hc) rfl rfl) (bW 11 rfl rfl rfl (fun hc=>qFA (off:=2) rfl) (bW 12 rfl rfl rfl (fun hc=>aP (o:=2) tk3 (aa rfl hc) (.of (aF 2 rfl)) rfl) ?_)))))))))))))))
 refine bW 13 rfl rfl rfl (fun hc=>bN (aa rfl hc) rfl (by (first | omega | (simp at hc;omega)))) ?_
 refine bW 14 rfl rfl rfl (fun hc=>dQ (by kernel_rfl) (ax (aa rfl hc) (ax (aa rfl rfl) (ax (aa rfl hc) rfl))) (fun w S fp hst=>(cB _ _ _).quiet0 hst)) (bV 15 rfl rfl (aQ rfl rfl (fun h=>gt rfl h)) (VM 16 rfl rfl (bW 17 rfl rfl rfl (fun hc=>qFA (off:=3) rfl) (bW 18 rfl rfl rfl (fun hc=>bJ 0 tk3 (aa rfl hc) rfl rfl) (bW 19 rfl rfl rfl (fun hc=>dR (aa rfl hc) rfl) (bV 20 rfl rfl (aQ rfl rfl (fun h=>gt rfl h)) (VM 21 rfl rfl (bW 22 rfl rfl rfl (fun hc=>az rfl) (bW 23 rfl rfl rfl (fun hc=>bw (aa rfl hc) rfl) (bW 24 rfl rfl rfl (fun hc=>az (aa rfl hc)) (bW 25 rfl rfl rfl (fun hc=>qFA (off:=1) rfl) (bW 26 rfl rfl rfl (fun hc=>aP (o:=1) tk31 (aa rfl hc) (.of (aF 1 rfl)) rfl) (bW 27 rfl rfl rfl (fun hc=>az rfl) ?_)))))))))))))
 refine bW 28 rfl rfl rfl (fun hc=>bN (aa rfl hc) rfl (by (first | omega | (simp at hc;omega)))) ?_
 refine mP 29 rfl (by kernel_rfl) _ rfl rfl (fun hc=>aX Tryz.underlying31 tk220 (aa rfl hc) ((cY.f_lines (ak.f_info (.of (aF 0 rfl))))) (aa rfl hc) (er (i:=(i:Int)-1) (by simp at hc;omega) (by simp at hc;omega)) ((Int.toNat_of_nonneg (by simp at hc;omega)).symm) rfl) (fun _=>⟨(0,0)⟩) (fun ⟨b1_29,o1_29⟩ => ?_)
 refine bW 30 rfl rfl rfl (fun hc=>qFA (off:=1) (aa rfl hc)) (bW 31 rfl rfl rfl (fun hc=>dW (o:=1) tk3 (aa rfl hc) (aF 0 rfl) hc rfl) (bW 32 rfl rfl rfl (fun hc=>qFA (off:=1) rfl) (bW 33 rfl rfl rfl (fun hc=>bJ 0 tk3 (aa rfl hc) rfl rfl) (bW 34 rfl rfl rfl (fun hc=>dq (aa rfl hc) (aa rfl hc)) (bW 35 rfl rfl rfl (fun hc=>cm (aa rfl hc) rfl (fun h=>gf hc h)) (bV 36 rfl rfl (aQ rfl rfl (fun h=>gt rfl h)) (bV 37 rfl rfl (bB rfl) (BN (an (aj (FZ1 [] Tryz.results165 rfl ?_)))))))))))
 rfl
end Go.Proofs.YtfkcmbonmpcbfaaGreat

namespace Go.Proofs.YtfkcmbonmpcbfaaGreat
open Go.RowKit Go.Lp Go.Sy Go.Lv
def abp(im:ak)(e:Int)(_:Nat)(x:bj):Bool × Int:=(fV x.at_ e im.code && fV x.size 1 (IntKind.i64.wrap (im.code-x.at_)),IntKind.i64.wrap (x.at_+x.size))
def adI(im:ak)(e:Int)(g:Int × Int × Int):Bool:=((decide (g.1=0) && decide (g.2.1≥e)) && decide (g.2.1≤g.2.2)) && decide (g.2.2≤im.code)
def j8{α:Type}(im:ak)(g:α→Int × Int × Int)(e:Int)(_:Nat)(x:α):Bool × Int:=(adI im e (g x),(g x).2.1)
abbrev v3(g:Int × Int × Int):Value:=.tuple #[.int .i64 g.1,.int .i64 g.2.1,.int .i64 g.2.2]
abbrev inG(x:cK):Int × Int × Int:=(x.sec,x.from_,x.to_)
abbrev vaG(x:fT):Int × Int × Int:=(x.sec,x.from_,x.to_)
abbrev deG(x:dH):Int × Int × Int:=(x.sec,x.from_,x.to_)
def inB(x:cK):Bool:=(lN x.name && lN x.file) && decide (x.line≥0)
def vaB(im:ak)(x:fT):Bool:=lN x.name && ((decide (x.where_=1) || (decide (x.where_=0) && fV x.n 0 15)) || (decide (x.where_=2) && fV x.n (-1) (im.zero-1)))
def deB(x:dH):Bool:=decide (x.bytes≥0) && decide (x.bytes.tmod 8=0)
def ab6(im:ak):Bool:=((((allI (aai im) 0 im.info.marks.l && allI (aad im) 0 im.info.lines.l) && (eE (abp im) 0 0 im.info.ends.l).1)
 && ((eE (j8 im inG) 0 0 im.info.inlines.l).1 && allI (fun _ x=>inB x) 0 im.info.inlines.l))
 && ((eE (j8 im vaG) 0 0 im.info.vars.l).1 && allI (fun _ x=>vaB im x) 0 im.info.vars.l))
 && ((eE (j8 im deG) 0 0 im.info.depths.l).1 && allI (fun _ x=>deB x) 0 im.info.depths.l)
end Go.Proofs.YtfkcmbonmpcbfaaGreat

