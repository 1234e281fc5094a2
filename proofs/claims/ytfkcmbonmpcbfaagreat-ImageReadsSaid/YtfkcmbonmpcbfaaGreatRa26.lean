/- Parts of the proof, in build order. No condition. -/
import Derived.Test.YtfkcmbonmpcbfaaGreatRa25
import Derived.Test.YtfkcmbonmpcbfaaGreatRa24
import Derived.Test.YtfkcmbonmpcbfaaGreatRa05
import Derived.Test.YtfkcmbonmpcbfaaGreatRa09
set_option linter.unusedSimpArgs false
set_option linter.unusedVariables false
set_option maxHeartbeats 1000000
set_option maxRecDepth 20000
namespace Go.Sy
open Go.RowKit Go.Lp Go.Lv
theorem bH{P:Program}{n:Fr}{d:Option Tmp}{ty:TypeId}{pos:String}{af:Array Edge}{gd:Option (Nat × Bool)}{s:Sta}{x y:Operand}{t t':TypeId}{a b:List UInt8}(hx:ev s.env x=some (true,.string (bytesOf a)))(hy:ev s.env y=some (true,.string (bytesOf b)))(h:(a++b).length≤1000000000):Quiet P n ⟨d,.binOp .add t x y t',ty,pos,af,gd⟩ s (.string (bytesOf (a++b))):=fM hx hy (by rw [List.length_append] at h;exact h)
theorem j5{α:Type}{e:α→List UInt8}{S:List UInt8}{l:List α}{N:Nat}(k:Nat)(h:(S++aP e l).length≤N):(S++aP e (l.take k)).length≤N:=by
 rw [List.length_append] at h ⊢;have:=iu (e:=e) l k;omega
end Go.Sy
namespace Go.Proofs.YtfkcmbonmpcbfaaGreat
open Go.RowKit Go.Lp Go.Sy Go.Lv
open Go.Proofs.Tryz
attribute [local irreducible] aL aB awp aC fwp Quiet
theorem uK (x:cG) (hW:mF x) (hl:(fq.enc (eZ x)).length≤1000000000):Con Tryz.prog 135 [x.val] [x.ok] [] fun r ps hp=>ps=[]∧hp=[]∧r=.string (bytesOf (fq.enc (eZ x))):=by
 obtain ⟨i_marks,i_lines,i_ends,i_inlines,i_vars,i_depths⟩:=hW
 have he:fq.enc (eZ x)=(aV x.marks.l.length++aP iN x.marks.l)++((aV x.lines.l.length++aP iM x.lines.l)++((aV x.ends.l.length++aP jB x.ends.l)++((aV x.inlines.l.length++aP fJ x.inlines.l)++((aV x.vars.l.length++aP oF x.vars.l)++((aV x.depths.l.length++aP jm x.depths.l)))))):=by
   rw [← cH fB gb x.marks.l,← cH fA ga x.lines.l,← cH fT gy x.ends.l,← cH dH er x.inlines.l,← cH ir ik x.vars.l,← cH eH fk x.depths.l];rfl
 obtain ⟨S0,s0⟩:∃ S,S=aV x.marks.l.length:=⟨_,rfl⟩
 obtain ⟨T0,t0⟩:∃ S,S=S0++aP iN x.marks.l:=⟨_,rfl⟩
 obtain ⟨S1,s1⟩:∃ S,S=T0++aV x.lines.l.length:=⟨_,rfl⟩
 obtain ⟨T1,t1⟩:∃ S,S=S1++aP iM x.lines.l:=⟨_,rfl⟩
 obtain ⟨S2,s2⟩:∃ S,S=T1++aV x.ends.l.length:=⟨_,rfl⟩
 obtain ⟨T2,t2⟩:∃ S,S=S2++aP jB x.ends.l:=⟨_,rfl⟩
 obtain ⟨S3,s3⟩:∃ S,S=T2++aV x.inlines.l.length:=⟨_,rfl⟩
 obtain ⟨T3,t3⟩:∃ S,S=S3++aP fJ x.inlines.l:=⟨_,rfl⟩
 obtain ⟨S4,s4⟩:∃ S,S=T3++aV x.vars.l.length:=⟨_,rfl⟩
 obtain ⟨T4,t4⟩:∃ S,S=S4++aP oF x.vars.l:=⟨_,rfl⟩
 obtain ⟨S5,s5⟩:∃ S,S=T4++aV x.depths.l.length:=⟨_,rfl⟩
 obtain ⟨T5,t5⟩:∃ S,S=S5++aP jm x.depths.l:=⟨_,rfl⟩
 have hT:fq.enc (eZ x)=T5:=by rw [he,t5,s5,t4,s4,t3,s3,t2,s2,t1,s1,t0,s0];simp only [List.append_assoc]
 rw [hT] at hl ⊢
 have b5:=hl
 rw [t5] at b5
 have c5:=(ai b5).1
 rw [s5] at c5
 have b4:=(ai c5).1
 rw [t4] at b4
 have c4:=(ai b4).1
 rw [s4] at c4
 have b3:=(ai c4).1
 rw [t3] at b3
 have c3:=(ai b3).1
 rw [s3] at c3
 have b2:=(ai c3).1
 rw [t2] at b2
 have c2:=(ai b2).1
 rw [s2] at c2
 have b1:=(ai c2).1
 rw [t1] at b1
 have c1:=(ai b1).1
 rw [s1] at c1
 have b0:=(ai c1).1
 rw [t0] at b0
 have c0:=(ai b0).1
 rw [s0] at c0
 refine EN1 Tryz.func135 rfl (aR _ (cG.f_marks (.of (aI 0 rfl))) (aR _ (cG.f_lines (.of (aI 1 rfl))) (aR _ (cG.f_ends (.of (aI 2 rfl))) (aR _ (cG.f_inlines (.of (aI 3 rfl))) (aR _ (cG.f_vars (.of (aI 4 rfl))) (aR _ (cG.f_depths (.of (aI 5 rfl))) (bY (.of (aI 5 rfl)) (fun hl_marks=>(bY (.of (aI 4 rfl)) (fun hl_lines=>(bY (.of (aI 3 rfl)) (fun hl_ends=>(bY (.of (aI 2 rfl)) (fun hl_inlines => ?_))))))))))))))
 refine bY (.of (aI 1 rfl)) (fun hl_vars=>(bY (.of (aI 0 rfl)) (fun hl_depths => ?_)))
 show awp _ _ _ _ ⟨_,[_,_,_,_,_,_,x.ok],_⟩
 refine aSR (LT rfl (cK rfl rfl rfl (fun b0_0=>(aHN ?_))))
 refine aA rfl (aNn (aSR (UO 0 rfl rfl (UL 0 tk30 rfl rfl rfl rfl (aU rfl (aZ Tryz.underlying30 rfl) (aU rfl (Q0 rfl (dg x.marks.l.length hl_marks)) (aA rfl (aNs (aSR (aA rfl (aNn (aq ?_))))))))))))
 rw [← s0]
 refine aQ [1,3,4] [6,5,4,3,2,1,0] [0] (fun (k:Nat) st=>k≤x.marks.l.length∧st=⟨[(1,true,.pointer (some ⟨b0_0,0,none⟩)),(3,true,.string (bytesOf (S0++aP iN (x.marks.l.take k)))),(4,true,.int .i64 k)],[ShF cC.row x.depths,ShF dJ.row x.vars,ShF bF.row x.inlines,ShF bC.row x.ends,ShF cS.row x.lines,ShF cN.row x.marks,x.ok],[Box b0_0 37 x.vs]⟩) (fun k=>x.marks.l.length-k) rfl (⟨0,Nat.zero_le _,by rw [List.take_zero];show _=(⟨[_,(3,true,.string (bytesOf (S0++[]))),_],_,_⟩:Sta);rw [List.append_nil];rfl⟩) ?_
 rintro k st ⟨hk,rfl⟩
 refine ah (aSR (aM rfl (UO 0 rfl rfl (UL 0 tk30 rfl rfl rfl rfl (aU rfl (aZ Tryz.underlying30 rfl) (aU rfl (bu rfl rfl) (aNn ?_)))))))
 refine ao _ rfl (fun h1 => ?_) (fun h1 => ?_)
 ·skip
  have hk':k<x.marks.l.length:=by simpa using h1
  obtain ⟨y,hx⟩:∃ y,x.marks.l[k]? = some y:=⟨_,List.getElem?_eq_getElem hk'⟩
  obtain ⟨w0,w1,w2⟩:=i_marks y (List.mem_of_getElem? hx)
  have hst:S0++aP iN (x.marks.l.take (k+1))=(((S0++aP iN (x.marks.l.take k))++an.enc y.name)++aP ak.enc [y.kind,y.at_,y.size]):=by rw [eQ hx];simp only [aP,List.map_cons,List.map_nil,List.flatten_cons,List.flatten_nil,List.append_nil,List.append_assoc];rfl
  have d2:=j5 (k+1) b0
  rw [hst] at d2
  have d1:=(ai d2).1
  refine ar (aj (ah (aq (DR [] 31 (VM 0 rfl rfl (VO 1 0 rfl rfl rfl (VL 2 0 tk30 rfl rfl rfl rfl rfl (VM 3 rfl rfl (XI 4 Tryz.underlying30 tk218 5 rfl rfl rfl rfl rfl rfl (aK hx) rfl rfl (fun ⟨b5_4,o5_4⟩=>(VO 5 0 rfl rfl rfl (VT 6 0 tk9 0 rfl rfl rfl rfl rfl rfl (bV 7 rfl rfl (Q0 rfl (ca y.name (dv (ai d1).2))) (bV 8 rfl rfl (bH rfl rfl d1) (VO 9 0 rfl rfl rfl ?_)))))))))))))))
  refine VL 10 0 tk30 rfl rfl rfl rfl rfl (VM 11 rfl rfl (XI 12 Tryz.underlying30 tk218 6 rfl rfl rfl rfl rfl rfl (aK hx) rfl rfl (fun ⟨b5_12,o5_12⟩=>(VO 13 1 rfl rfl rfl (VT 14 1 tk3 0 rfl rfl rfl rfl rfl rfl (VO 15 0 rfl rfl rfl (VL 16 0 tk30 rfl rfl rfl rfl rfl (VM 17 rfl rfl (XI 18 Tryz.underlying30 tk218 7 rfl rfl rfl rfl rfl rfl (aK hx) rfl rfl (fun ⟨b5_18,o5_18⟩=>(VO 19 2 rfl rfl rfl (VT 20 2 tk3 0 rfl rfl rfl rfl rfl rfl (VO 21 0 rfl rfl rfl (VL 22 0 tk30 rfl rfl rfl rfl rfl (VM 23 rfl rfl ?_)))))))))))))))
  refine XI 24 Tryz.underlying30 tk218 8 rfl rfl rfl rfl rfl rfl (aK hx) rfl rfl (fun ⟨b5_24,o5_24⟩=>(VO 25 3 rfl rfl rfl (VT 26 3 tk3 0 rfl rfl rfl rfl rfl rfl (VB (zs:=[.int .i64 0]) 27 rfl el26 rfl rfl rfl rfl (.more rfl (.v rfl .nil) (.more rfl (.v rfl .nil) (.more rfl (.v rfl .nil) .nil))) rfl rfl (fun v5_27 => ?_)))))
  refine bV 28 rfl rfl (Q1 rfl ((bZ ⟨v5_27,3,[y.kind,y.at_,y.size]⟩ (by intro y hy;simp only [List.mem_cons,List.not_mem_nil,or_false] at hy;rcases hy with rfl | rfl | rfl<;>assumption) ((ai d2).2)).post (fun _ _ _ h=>h.2.2)) 0 rfl) ?_
  refine bV 29 rfl rfl (bH rfl rfl d2) (bV 30 rfl rfl (bE rfl) (BN (bp (aj (aa (aM rfl (aU rfl (aX rfl rfl (by omega)) (aA rfl (aNn ?_)))))))))
  refine ⟨[1,3,4],[6,5,4,3,2,1,0],[0],rfl,?_⟩
  refine ⟨k+1,⟨hk',?_⟩,by omega⟩
  rw [hst]
  rfl
 ·skip
  have hke:k=x.marks.l.length:=by simp at h1;omega
  subst hke
  rw [List.take_length,← t0]
  refine aT (aW (aW (aY (aj (aSR (aM rfl (UO 1 rfl rfl (UL 0 tk31 rfl rfl rfl rfl (aU rfl (aZ Tryz.underlying31 rfl) (aU rfl (Q0 rfl (dg x.lines.l.length hl_lines)) ?_))))))))))
  refine aU rfl (bH rfl rfl c1) (aA rfl (aNs (aSR (aA rfl (aNn (aq ?_))))))
  rw [← s1]
  refine aQ [1,3,5] [6,5,4,3,2,1,0] [0] (fun (k:Nat) st=>k≤x.lines.l.length∧st=⟨[(1,true,.pointer (some ⟨b0_0,0,none⟩)),(3,true,.string (bytesOf (S1++aP iM (x.lines.l.take k)))),(5,true,.int .i64 k)],[ShF cC.row x.depths,ShF dJ.row x.vars,ShF bF.row x.inlines,ShF bC.row x.ends,ShF cS.row x.lines,ShF cN.row x.marks,x.ok],[Box b0_0 37 x.vs]⟩) (fun k=>x.lines.l.length-k) rfl (⟨0,Nat.zero_le _,by rw [List.take_zero];show _=(⟨[_,(3,true,.string (bytesOf (S1++[]))),_],_,_⟩:Sta);rw [List.append_nil];rfl⟩) ?_
  rintro k st ⟨hk,rfl⟩
  refine ah (aSR (aM rfl (UO 1 rfl rfl (UL 0 tk31 rfl rfl rfl rfl (aU rfl (aZ Tryz.underlying31 rfl) (aU rfl (bu rfl rfl) (aNn ?_)))))))
  refine ao _ rfl (fun h2 => ?_) (fun h2 => ?_)
  ·skip
   have hk':k<x.lines.l.length:=by simpa using h2
   obtain ⟨y,hx⟩:∃ y,x.lines.l[k]? = some y:=⟨_,List.getElem?_eq_getElem hk'⟩
   obtain ⟨w0,w1,w2⟩:=i_lines y (List.mem_of_getElem? hx)
   have hst:S1++aP iM (x.lines.l.take (k+1))=((((S1++aP iM (x.lines.l.take k))++aP ak.enc [y.sec,y.at_])++an.enc y.file)++aP ak.enc [y.line]):=by rw [eQ hx];simp only [aP,List.map_cons,List.map_nil,List.flatten_cons,List.flatten_nil,List.append_nil,List.append_assoc];rfl
   have d3:=j5 (k+1) b1
   rw [hst] at d3
   have d2:=(ai d3).1
   have d1:=(ai d2).1
   refine ar (aj (ah (aq (DC [] [] [] 34 ?_))))
   refine mc (X:=Unit) (fun _=>⟨[(1,true,.pointer (some ⟨b0_0,0,none⟩)),(3,true,.string (bytesOf ((((S1++aP iM (x.lines.l.take k))++aP ak.enc [y.sec,y.at_])++an.enc y.file)++aP ak.enc [y.line]))),(5,true,.int .i64 k)],[ShF cC.row x.depths,ShF dJ.row x.vars,ShF bF.row x.inlines,ShF bC.row x.ends,ShF cS.row x.lines,ShF cN.row x.marks,x.ok],[Box b0_0 37 x.vs]⟩) ?_ ?_
   ·skip
    refine CF 0 rfl rfl rfl (aS rfl) (CF 1 rfl rfl rfl (qFA (off:=1) rfl) (CQ 2 rfl rfl rfl (bJ 0 tk31 rfl rfl rfl) (CF 3 rfl rfl rfl (aS rfl) (tU 4 rfl (by kernel_rfl) rfl rfl (fa Tryz.underlying31 tk220 rfl ((.of (aI 4 rfl))) rfl (aK hx) rfl rfl) (fun ⟨b10_4,o10_4⟩=>(CF 5 rfl rfl rfl (qFA (off:=0) rfl) (CF 6 rfl rfl rfl (bg (o:=0) tk3 rfl (.of (aI 0 rfl)) rfl) (CF 7 rfl rfl rfl (qFA (off:=1) rfl) (CQ 8 rfl rfl rfl (bJ 0 tk31 rfl rfl rfl) (CF 9 rfl rfl rfl (aS rfl) (tU 10 rfl (by kernel_rfl) rfl rfl (fa Tryz.underlying31 tk220 rfl ((.of (aI 5 rfl))) rfl (aK hx) rfl rfl) (fun ⟨b10_10,o10_10⟩=>(CF 11 rfl rfl rfl (qFA (off:=1) rfl) (CF 12 rfl rfl rfl (bg (o:=1) tk3 rfl (.of (aI 0 rfl)) rfl) (CF 16 rfl rfl rfl (qFA (off:=1) rfl) ?_)))))))))))))))
    refine CQ 17 rfl rfl rfl (bJ 0 tk31 rfl rfl rfl) (CF 18 rfl rfl rfl (aS rfl) (tU 19 rfl (by kernel_rfl) rfl rfl (fa Tryz.underlying31 tk220 rfl ((.of (aI 6 rfl))) rfl (aK hx) rfl rfl) (fun ⟨b10_19,o10_19⟩=>(CF 20 rfl rfl rfl (qFA (off:=2) rfl) (CF 21 rfl rfl rfl (bg (o:=2) tk9 rfl (.of (aI 0 rfl)) rfl) (CF 24 rfl rfl rfl (qFA (off:=1) rfl) (CQ 25 rfl rfl rfl (bJ 0 tk31 rfl rfl rfl) (CF 26 rfl rfl rfl (aS rfl) (tU 27 rfl (by kernel_rfl) rfl rfl (fa Tryz.underlying31 tk220 rfl ((.of (aI 7 rfl))) rfl (aK hx) rfl rfl) (fun ⟨b10_27,o10_27⟩=>(CF 28 rfl rfl rfl (qFA (off:=3) rfl) (CF 29 rfl rfl rfl (bg (o:=3) tk3 rfl (.of (aI 0 rfl)) rfl) ?_))))))))))))
    refine dt 13 [30] (by kernel_rfl) (cm ?_ (cm ?_ cU))
    ·skip
     refine dC 13 rfl rfl (Eff.x (id (WL (zs:=[.int .i64 0]) el26 rfl rfl rfl (.more rfl (.v rfl .nil) (.more rfl (.v rfl .nil) .nil)) rfl rfl (fun v10_13=>(CST ?_)))))
     refine eh 1 rfl (CST ?_)
     refine CF 14 rfl rfl rfl (Q1 rfl ((bZ ⟨v10_13,2,[y.sec,y.at_]⟩ (by intro y hy;simp only [List.mem_cons,List.not_mem_nil,or_false] at hy;rcases hy with rfl | rfl<;>assumption) ((ai d1).2)).post (fun _ _ _ h=>h.2.2)) 0 rfl) ?_
     refine CF 15 rfl rfl rfl (bH rfl rfl d1) (CF 22 rfl rfl rfl (Q0 rfl (ca y.file (dv (ai d2).2))) (CF 23 rfl rfl rfl (bH rfl rfl d2) ?_))
     refine dt 30 [] (by kernel_rfl) (cm ?_ cU)
     refine dC 30 rfl rfl (Eff.x (id (WL (zs:=[.int .i64 0]) el26 rfl rfl rfl (.more rfl (.v rfl .nil) .nil) rfl rfl (fun v10_30=>(CST ?_)))))
     refine eh 2 rfl (CST ?_)
     refine CF 31 rfl rfl rfl (Q1 rfl ((bZ ⟨v10_30,1,[y.line]⟩ (by intro y hy;simp only [List.mem_cons,List.not_mem_nil,or_false] at hy;rw [hy];assumption) ((ai d3).2)).post (fun _ _ _ h=>h.2.2)) 0 rfl) ?_
     refine CF 32 rfl rfl rfl (bH rfl rfl d3) (CF 33 rfl rfl rfl (bE rfl) (fX (by kernel_rfl) ?_))
     exact ⟨rfl,[1,3,5],[6,5,4,3,2,1,0],[0],(),rfl,rfl⟩
    ·skip
     refine dC 30 rfl rfl (Eff.x (id (WL (zs:=[.int .i64 0]) el26 rfl rfl rfl (.more rfl (.v rfl .nil) .nil) rfl rfl (fun v10_30=>(CST ?_)))))
     refine dt 13 [] (by kernel_rfl) (cm ?_ cU)
     refine dC 13 rfl rfl (Eff.x (id (WL (zs:=[.int .i64 0]) el26 rfl rfl rfl (.more rfl (.v rfl .nil) (.more rfl (.v rfl .nil) .nil)) rfl rfl (fun v10_13=>(CST ?_)))))
     refine eh 2 rfl (CST ?_)
     refine CF 14 rfl rfl rfl (Q1 rfl ((bZ ⟨v10_13,2,[y.sec,y.at_]⟩ (by intro y hy;simp only [List.mem_cons,List.not_mem_nil,or_false] at hy;rcases hy with rfl | rfl<;>assumption) ((ai d1).2)).post (fun _ _ _ h=>h.2.2)) 0 rfl) ?_
     refine CF 15 rfl rfl rfl (bH rfl rfl d1) (CF 22 rfl rfl rfl (Q0 rfl (ca y.file (dv (ai d2).2))) (CF 23 rfl rfl rfl (bH rfl rfl d2) (eh 1 rfl (CST ?_))))
     refine CF 31 rfl rfl rfl (Q1 rfl ((bZ ⟨v10_30,1,[y.line]⟩ (by intro y hy;simp only [List.mem_cons,List.not_mem_nil,or_false] at hy;rw [hy];assumption) ((ai d3).2)).post (fun _ _ _ h=>h.2.2)) 0 rfl) ?_
     refine CF 32 rfl rfl rfl (bH rfl rfl d3) (CF 33 rfl rfl rfl (bE rfl) (fX (by kernel_rfl) ?_))
     exact ⟨rfl,[1,3,5],[6,5,4,3,2,1,0],[0],(),rfl,rfl⟩
   ·skip
    rintro ⟨⟩
    refine bp (aj (aa (aM rfl (aU rfl (aX rfl rfl (by omega)) (aA rfl (aNn ?_))))))
    refine ⟨[1,3,5],[6,5,4,3,2,1,0],[0],rfl,?_⟩
    refine ⟨k+1,⟨hk',?_⟩,by omega⟩
    rw [hst]
    rfl
  ·skip
   have hke:k=x.lines.l.length:=by simp at h2;omega
   subst hke
   rw [List.take_length,← t1]
   refine aT (aW (aW (aY (aj (aSR (aM rfl (UO 2 rfl rfl (UL 0 tk32 rfl rfl rfl rfl (aU rfl (aZ Tryz.underlying32 rfl) (aU rfl (Q0 rfl (dg x.ends.l.length hl_ends)) ?_))))))))))
   refine aU rfl (bH rfl rfl c2) (aA rfl (aNs (aSR (aA rfl (aNn (aq ?_))))))
   rw [← s2]
   refine aQ [1,3,6] [6,5,4,3,2,1,0] [0] (fun (k:Nat) st=>k≤x.ends.l.length∧st=⟨[(1,true,.pointer (some ⟨b0_0,0,none⟩)),(3,true,.string (bytesOf (S2++aP jB (x.ends.l.take k)))),(6,true,.int .i64 k)],[ShF cC.row x.depths,ShF dJ.row x.vars,ShF bF.row x.inlines,ShF bC.row x.ends,ShF cS.row x.lines,ShF cN.row x.marks,x.ok],[Box b0_0 37 x.vs]⟩) (fun k=>x.ends.l.length-k) rfl (⟨0,Nat.zero_le _,by rw [List.take_zero];show _=(⟨[_,(3,true,.string (bytesOf (S2++[]))),_],_,_⟩:Sta);rw [List.append_nil];rfl⟩) ?_
   rintro k st ⟨hk,rfl⟩
   refine ah (aSR (aM rfl (UO 2 rfl rfl (UL 0 tk32 rfl rfl rfl rfl (aU rfl (aZ Tryz.underlying32 rfl) (aU rfl (bu rfl rfl) (aNn ?_)))))))
   refine ao _ rfl (fun h3 => ?_) (fun h3 => ?_)
   ·skip
    have hk':k<x.ends.l.length:=by simpa using h3
    obtain ⟨y,hx⟩:∃ y,x.ends.l[k]? = some y:=⟨_,List.getElem?_eq_getElem hk'⟩
    obtain ⟨w0,w1⟩:=i_ends y (List.mem_of_getElem? hx)
    have hst:S2++aP jB (x.ends.l.take (k+1))=((S2++aP jB (x.ends.l.take k))++aP ak.enc [y.at_,y.size]):=by rw [eQ hx];simp only [aP,List.map_cons,List.map_nil,List.flatten_cons,List.flatten_nil,List.append_nil,List.append_assoc];rfl
    have d1:=j5 (k+1) b2
    rw [hst] at d1
    refine ar (aj (ah (aq (DR [] 17 (VM 0 rfl rfl (VO 1 2 rfl rfl rfl (VL 2 0 tk32 rfl rfl rfl rfl rfl (VM 3 rfl rfl (XI 4 Tryz.underlying32 tk222 3 rfl rfl rfl rfl rfl rfl (aK hx) rfl rfl (fun ⟨b15_4,o15_4⟩=>(VO 5 0 rfl rfl rfl (VT 6 0 tk3 0 rfl rfl rfl rfl rfl rfl (VO 7 2 rfl rfl rfl (VL 8 0 tk32 rfl rfl rfl rfl rfl (VM 9 rfl rfl ?_)))))))))))))))
    refine XI 10 Tryz.underlying32 tk222 4 rfl rfl rfl rfl rfl rfl (aK hx) rfl rfl (fun ⟨b15_10,o15_10⟩=>(VO 11 1 rfl rfl rfl (VT 12 1 tk3 0 rfl rfl rfl rfl rfl rfl (VB (zs:=[.int .i64 0]) 13 rfl el26 rfl rfl rfl rfl (.more rfl (.v rfl .nil) (.more rfl (.v rfl .nil) .nil)) rfl rfl (fun v15_13 => ?_)))))
    refine bV 14 rfl rfl (Q1 rfl ((bZ ⟨v15_13,2,[y.at_,y.size]⟩ (by intro y hy;simp only [List.mem_cons,List.not_mem_nil,or_false] at hy;rcases hy with rfl | rfl<;>assumption) ((ai d1).2)).post (fun _ _ _ h=>h.2.2)) 0 rfl) ?_
    refine bV 15 rfl rfl (bH rfl rfl d1) (bV 16 rfl rfl (bE rfl) (BN (bp (aj (aa (aM rfl (aU rfl (aX rfl rfl (by omega)) (aA rfl (aNn ?_)))))))))
    refine ⟨[1,3,6],[6,5,4,3,2,1,0],[0],rfl,?_⟩
    refine ⟨k+1,⟨hk',?_⟩,by omega⟩
    rw [hst]
    rfl
   ·skip
    have hke:k=x.ends.l.length:=by simp at h3;omega
    subst hke
    rw [List.take_length,← t2]
    refine aT (aW (aW (aY (aj (aSR (aM rfl (UO 3 rfl rfl (UL 0 tk33 rfl rfl rfl rfl (aU rfl (aZ Tryz.underlying33 rfl) (aU rfl (Q0 rfl (dg x.inlines.l.length hl_inlines)) ?_))))))))))
    refine aU rfl (bH rfl rfl c3) (aA rfl (aNs (aSR (aA rfl (aNn (aq ?_))))))
    rw [← s3]
    refine aQ [1,3,7] [6,5,4,3,2,1,0] [0] (fun (k:Nat) st=>k≤x.inlines.l.length∧st=⟨[(1,true,.pointer (some ⟨b0_0,0,none⟩)),(3,true,.string (bytesOf (S3++aP fJ (x.inlines.l.take k)))),(7,true,.int .i64 k)],[ShF cC.row x.depths,ShF dJ.row x.vars,ShF bF.row x.inlines,ShF bC.row x.ends,ShF cS.row x.lines,ShF cN.row x.marks,x.ok],[Box b0_0 37 x.vs]⟩) (fun k=>x.inlines.l.length-k) rfl (⟨0,Nat.zero_le _,by rw [List.take_zero];show _=(⟨[_,(3,true,.string (bytesOf (S3++[]))),_],_,_⟩:Sta);rw [List.append_nil];rfl⟩) ?_
    rintro k st ⟨hk,rfl⟩
    refine ah (aSR (aM rfl (UO 3 rfl rfl (UL 0 tk33 rfl rfl rfl rfl (aU rfl (aZ Tryz.underlying33 rfl) (aU rfl (bu rfl rfl) (aNn ?_)))))))
    refine ao _ rfl (fun h4 => ?_) (fun h4 => ?_)
    ·skip
     have hk':k<x.inlines.l.length:=by simpa using h4
     obtain ⟨y,hx⟩:∃ y,x.inlines.l[k]? = some y:=⟨_,List.getElem?_eq_getElem hk'⟩
     obtain ⟨w0,w1,w2,w3⟩:=i_inlines y (List.mem_of_getElem? hx)
     have hst:S3++aP fJ (x.inlines.l.take (k+1))=(((((S3++aP fJ (x.inlines.l.take k))++aP ak.enc [y.sec,y.from_,y.to_])++an.enc y.name)++an.enc y.file)++aP ak.enc [y.line]):=by rw [eQ hx];simp only [aP,List.map_cons,List.map_nil,List.flatten_cons,List.flatten_nil,List.append_nil,List.append_assoc];rfl
     have d4:=j5 (k+1) b3
     rw [hst] at d4
     have d3:=(ai d4).1
     have d2:=(ai d3).1
     have d1:=(ai d2).1
     refine ar (aj (ah (aq (aSR (UO 3 rfl rfl (UL 0 tk33 rfl rfl rfl rfl (aM rfl (UI Tryz.underlying33 tk262 2 rfl rfl rfl rfl rfl (aK hx) rfl rfl (fun ⟨b20_3,o20_3⟩=>(US 0 tk262 0 rfl rfl rfl rfl rfl (LT rfl (bk (zs:=[.int .i64 0,.int .i64 0,.int .i64 0,.string .empty,.string .empty,.int .i64 0]) (by kernel_rfl) rfl (fun b20_5=>(aHN ?_))))))))))))))
     refine aD rfl (aF 1 tk262 rfl rfl rfl rfl (aHK ?_))
     refine aNn (DC [] [] [] 24 ?_)
     refine mc (X:=Unit) (fun _=>⟨[(1,true,.pointer (some ⟨b0_0,0,none⟩)),(3,true,.string (bytesOf (((((S3++aP fJ (x.inlines.l.take k))++aP ak.enc [y.sec,y.from_,y.to_])++an.enc y.name)++an.enc y.file)++aP ak.enc [y.line]))),(7,true,.int .i64 k)],[ShF cC.row x.depths,ShF dJ.row x.vars,ShF bF.row x.inlines,ShF bC.row x.ends,ShF cS.row x.lines,ShF cN.row x.marks,x.ok],[Box b0_0 37 x.vs]⟩) ?_ ?_
     ·skip
      refine CF 0 rfl rfl rfl (aS rfl) (CF 1 rfl rfl rfl (qFA (off:=0) rfl) (CQ 2 rfl rfl rfl (bJ 1 tk3 rfl rfl rfl) (CF 3 rfl rfl rfl (qFA (off:=1) rfl) (CQ 4 rfl rfl rfl (bJ 1 tk3 rfl rfl rfl) (CF 5 rfl rfl rfl (qFA (off:=2) rfl) (CQ 6 rfl rfl rfl (bJ 1 tk3 rfl rfl rfl) (CF 10 rfl rfl rfl (qFA (off:=3) rfl) (CQ 11 rfl rfl rfl (bJ 1 tk9 rfl rfl rfl) (CF 14 rfl rfl rfl (qFA (off:=4) rfl) (CQ 15 rfl rfl rfl (bJ 1 tk9 rfl rfl rfl) (CF 18 rfl rfl rfl (qFA (off:=5) rfl) (CQ 19 rfl rfl rfl (bJ 1 tk3 rfl rfl rfl) ?_))))))))))))
      refine dt 7 [20] (by kernel_rfl) (cm ?_ (cm ?_ cU))
      ·skip
       refine dC 7 rfl rfl (Eff.x (id (WL (zs:=[.int .i64 0]) el26 rfl rfl rfl (.more rfl (.v rfl .nil) (.more rfl (.v rfl .nil) (.more rfl (.v rfl .nil) .nil))) rfl rfl (fun v21_7=>(CST ?_)))))
       refine eh 2 rfl (CST ?_)
       refine CF 8 rfl rfl rfl (Q1 rfl ((bZ ⟨v21_7,3,[y.sec,y.from_,y.to_]⟩ (by intro y hy;simp only [List.mem_cons,List.not_mem_nil,or_false] at hy;rcases hy with rfl | rfl | rfl<;>assumption) ((ai d1).2)).post (fun _ _ _ h=>h.2.2)) 0 rfl) ?_
       refine CF 9 rfl rfl rfl (bH rfl rfl d1) (CF 12 rfl rfl rfl (Q0 rfl (ca y.name (dv (ai d2).2))) (CF 13 rfl rfl rfl (bH rfl rfl d2) (CF 16 rfl rfl rfl (Q0 rfl (ca y.file (dv (ai d3).2))) (CF 17 rfl rfl rfl (bH rfl rfl d3) ?_))))
       refine dt 20 [] (by kernel_rfl) (cm ?_ cU)
       refine dC 20 rfl rfl (Eff.x (id (WL (zs:=[.int .i64 0]) el26 rfl rfl rfl (.more rfl (.v rfl .nil) .nil) rfl rfl (fun v21_20=>(CST ?_)))))
       refine eh 3 rfl (CST ?_)
       refine CF 21 rfl rfl rfl (Q1 rfl ((bZ ⟨v21_20,1,[y.line]⟩ (by intro y hy;simp only [List.mem_cons,List.not_mem_nil,or_false] at hy;rw [hy];assumption) ((ai d4).2)).post (fun _ _ _ h=>h.2.2)) 0 rfl) ?_
       refine CF 22 rfl rfl rfl (bH rfl rfl d4) (CF 23 rfl rfl rfl (bE rfl) (fX (by kernel_rfl) ?_))
       exact ⟨rfl,[1,3,7],[6,5,4,3,2,1,0],[0],(),rfl,rfl⟩
      ·skip
       refine dC 20 rfl rfl (Eff.x (id (WL (zs:=[.int .i64 0]) el26 rfl rfl rfl (.more rfl (.v rfl .nil) .nil) rfl rfl (fun v21_20=>(CST ?_)))))
       refine dt 7 [] (by kernel_rfl) (cm ?_ cU)
       refine dC 7 rfl rfl (Eff.x (id (WL (zs:=[.int .i64 0]) el26 rfl rfl rfl (.more rfl (.v rfl .nil) (.more rfl (.v rfl .nil) (.more rfl (.v rfl .nil) .nil))) rfl rfl (fun v21_7=>(CST ?_)))))
       refine eh 3 rfl (CST ?_)
       refine CF 8 rfl rfl rfl (Q1 rfl ((bZ ⟨v21_7,3,[y.sec,y.from_,y.to_]⟩ (by intro y hy;simp only [List.mem_cons,List.not_mem_nil,or_false] at hy;rcases hy with rfl | rfl | rfl<;>assumption) ((ai d1).2)).post (fun _ _ _ h=>h.2.2)) 0 rfl) ?_
       refine CF 9 rfl rfl rfl (bH rfl rfl d1) (CF 12 rfl rfl rfl (Q0 rfl (ca y.name (dv (ai d2).2))) (CF 13 rfl rfl rfl (bH rfl rfl d2) (CF 16 rfl rfl rfl (Q0 rfl (ca y.file (dv (ai d3).2))) (CF 17 rfl rfl rfl (bH rfl rfl d3) (eh 2 rfl (CST ?_))))))
       refine CF 21 rfl rfl rfl (Q1 rfl ((bZ ⟨v21_20,1,[y.line]⟩ (by intro y hy;simp only [List.mem_cons,List.not_mem_nil,or_false] at hy;rw [hy];assumption) ((ai d4).2)).post (fun _ _ _ h=>h.2.2)) 0 rfl) ?_
       refine CF 22 rfl rfl rfl (bH rfl rfl d4) (CF 23 rfl rfl rfl (bE rfl) (fX (by kernel_rfl) ?_))
       exact ⟨rfl,[1,3,7],[6,5,4,3,2,1,0],[0],(),rfl,rfl⟩
     ·skip
      rintro ⟨⟩
      refine bp (aj (aa (aM rfl (aU rfl (aX rfl rfl (by omega)) (aA rfl (aNn ?_))))))
      refine ⟨[1,3,7],[6,5,4,3,2,1,0],[0],rfl,?_⟩
      refine ⟨k+1,⟨hk',?_⟩,by omega⟩
      rw [hst]
      rfl
    ·skip
     have hke:k=x.inlines.l.length:=by simp at h4;omega
     subst hke
     rw [List.take_length,← t3]
     refine aT (aW (aW (aY (aj (aSR (aM rfl (UO 4 rfl rfl (UL 0 tk34 rfl rfl rfl rfl (aU rfl (aZ Tryz.underlying34 rfl) (aU rfl (Q0 rfl (dg x.vars.l.length hl_vars)) ?_))))))))))
     refine aU rfl (bH rfl rfl c4) (aA rfl (aNs (aSR (aA rfl (aNn (aq ?_))))))
     rw [← s4]
     refine aQ [1,3,9] [6,5,4,3,2,1,0] [0] (fun (k:Nat) st=>k≤x.vars.l.length∧st=⟨[(1,true,.pointer (some ⟨b0_0,0,none⟩)),(3,true,.string (bytesOf (S4++aP oF (x.vars.l.take k)))),(9,true,.int .i64 k)],[ShF cC.row x.depths,ShF dJ.row x.vars,ShF bF.row x.inlines,ShF bC.row x.ends,ShF cS.row x.lines,ShF cN.row x.marks,x.ok],[Box b0_0 37 x.vs]⟩) (fun k=>x.vars.l.length-k) rfl (⟨0,Nat.zero_le _,by rw [List.take_zero];show _=(⟨[_,(3,true,.string (bytesOf (S4++[]))),_],_,_⟩:Sta);rw [List.append_nil];rfl⟩) ?_
     rintro k st ⟨hk,rfl⟩
     refine ah (aSR (aM rfl (UO 4 rfl rfl (UL 0 tk34 rfl rfl rfl rfl (aU rfl (aZ Tryz.underlying34 rfl) (aU rfl (bu rfl rfl) (aNn ?_)))))))
     refine ao _ rfl (fun h5 => ?_) (fun h5 => ?_)
     ·skip
      have hk':k<x.vars.l.length:=by simpa using h5
      obtain ⟨y,hx⟩:∃ y,x.vars.l[k]? = some y:=⟨_,List.getElem?_eq_getElem hk'⟩
      obtain ⟨w0,w1,w2,w3,w4⟩:=i_vars y (List.mem_of_getElem? hx)
      have hst:S4++aP oF (x.vars.l.take (k+1))=((((S4++aP oF (x.vars.l.take k))++aP ak.enc [y.sec,y.from_,y.to_])++an.enc y.name)++aP ak.enc [y.where_,y.n]):=by rw [eQ hx];simp only [aP,List.map_cons,List.map_nil,List.flatten_cons,List.flatten_nil,List.append_nil,List.append_assoc];rfl
      have d3:=j5 (k+1) b4
      rw [hst] at d3
      have d2:=(ai d3).1
      have d1:=(ai d2).1
      refine ar (aj (ah (aq (aSR (UO 4 rfl rfl (UL 0 tk34 rfl rfl rfl rfl (aM rfl (UI Tryz.underlying34 tk268 1 rfl rfl rfl rfl rfl (aK hx) rfl rfl (fun ⟨b26_3,o26_3⟩=>(US 0 tk268 0 rfl rfl rfl rfl rfl (LT rfl (bk (zs:=[.int .i64 0,.int .i64 0,.int .i64 0,.string .empty,.int .i64 0,.int .i64 0]) (by kernel_rfl) rfl (fun b26_5=>(aHN ?_))))))))))))))
      refine aD rfl (aF 1 tk268 rfl rfl rfl rfl (aHK ?_))
      refine aNn (DC [] [] [] 22 ?_)
      refine mc (X:=Unit) (fun _=>⟨[(1,true,.pointer (some ⟨b0_0,0,none⟩)),(3,true,.string (bytesOf ((((S4++aP oF (x.vars.l.take k))++aP ak.enc [y.sec,y.from_,y.to_])++an.enc y.name)++aP ak.enc [y.where_,y.n]))),(9,true,.int .i64 k)],[ShF cC.row x.depths,ShF dJ.row x.vars,ShF bF.row x.inlines,ShF bC.row x.ends,ShF cS.row x.lines,ShF cN.row x.marks,x.ok],[Box b0_0 37 x.vs]⟩) ?_ ?_
      ·skip
       refine CF 0 rfl rfl rfl (aS rfl) (CF 1 rfl rfl rfl (qFA (off:=0) rfl) (CQ 2 rfl rfl rfl (bJ 1 tk3 rfl rfl rfl) (CF 3 rfl rfl rfl (qFA (off:=1) rfl) (CQ 4 rfl rfl rfl (bJ 1 tk3 rfl rfl rfl) (CF 5 rfl rfl rfl (qFA (off:=2) rfl) (CQ 6 rfl rfl rfl (bJ 1 tk3 rfl rfl rfl) (CF 10 rfl rfl rfl (qFA (off:=3) rfl) (CQ 11 rfl rfl rfl (bJ 1 tk9 rfl rfl rfl) (CF 14 rfl rfl rfl (qFA (off:=4) rfl) (CQ 15 rfl rfl rfl (bJ 1 tk3 rfl rfl rfl) (CF 16 rfl rfl rfl (qFA (off:=5) rfl) (CQ 17 rfl rfl rfl (bJ 1 tk3 rfl rfl rfl) ?_))))))))))))
       refine dt 7 [18] (by kernel_rfl) (cm ?_ (cm ?_ cU))
       ·skip
        refine dC 7 rfl rfl (Eff.x (id (WL (zs:=[.int .i64 0]) el26 rfl rfl rfl (.more rfl (.v rfl .nil) (.more rfl (.v rfl .nil) (.more rfl (.v rfl .nil) .nil))) rfl rfl (fun v27_7=>(CST ?_)))))
        refine eh 2 rfl (CST ?_)
        refine CF 8 rfl rfl rfl (Q1 rfl ((bZ ⟨v27_7,3,[y.sec,y.from_,y.to_]⟩ (by intro y hy;simp only [List.mem_cons,List.not_mem_nil,or_false] at hy;rcases hy with rfl | rfl | rfl<;>assumption) ((ai d1).2)).post (fun _ _ _ h=>h.2.2)) 0 rfl) ?_
        refine CF 9 rfl rfl rfl (bH rfl rfl d1) (CF 12 rfl rfl rfl (Q0 rfl (ca y.name (dv (ai d2).2))) (CF 13 rfl rfl rfl (bH rfl rfl d2) ?_))
        refine dt 18 [] (by kernel_rfl) (cm ?_ cU)
        refine dC 18 rfl rfl (Eff.x (id (WL (zs:=[.int .i64 0]) el26 rfl rfl rfl (.more rfl (.v rfl .nil) (.more rfl (.v rfl .nil) .nil)) rfl rfl (fun v27_18=>(CST ?_)))))
        refine eh 3 rfl (CST ?_)
        refine CF 19 rfl rfl rfl (Q1 rfl ((bZ ⟨v27_18,2,[y.where_,y.n]⟩ (by intro y hy;simp only [List.mem_cons,List.not_mem_nil,or_false] at hy;rcases hy with rfl | rfl<;>assumption) ((ai d3).2)).post (fun _ _ _ h=>h.2.2)) 0 rfl) ?_
        refine CF 20 rfl rfl rfl (bH rfl rfl d3) (CF 21 rfl rfl rfl (bE rfl) (fX (by kernel_rfl) ?_))
        exact ⟨rfl,[1,3,9],[6,5,4,3,2,1,0],[0],(),rfl,rfl⟩
       ·skip
        refine dC 18 rfl rfl (Eff.x (id (WL (zs:=[.int .i64 0]) el26 rfl rfl rfl (.more rfl (.v rfl .nil) (.more rfl (.v rfl .nil) .nil)) rfl rfl (fun v27_18=>(CST ?_)))))
        refine dt 7 [] (by kernel_rfl) (cm ?_ cU)
        refine dC 7 rfl rfl (Eff.x (id (WL (zs:=[.int .i64 0]) el26 rfl rfl rfl (.more rfl (.v rfl .nil) (.more rfl (.v rfl .nil) (.more rfl (.v rfl .nil) .nil))) rfl rfl (fun v27_7=>(CST ?_)))))
        refine eh 3 rfl (CST ?_)
        refine CF 8 rfl rfl rfl (Q1 rfl ((bZ ⟨v27_7,3,[y.sec,y.from_,y.to_]⟩ (by intro y hy;simp only [List.mem_cons,List.not_mem_nil,or_false] at hy;rcases hy with rfl | rfl | rfl<;>assumption) ((ai d1).2)).post (fun _ _ _ h=>h.2.2)) 0 rfl) ?_
        refine CF 9 rfl rfl rfl (bH rfl rfl d1) (CF 12 rfl rfl rfl (Q0 rfl (ca y.name (dv (ai d2).2))) (CF 13 rfl rfl rfl (bH rfl rfl d2) (eh 2 rfl (CST ?_))))
        refine CF 19 rfl rfl rfl (Q1 rfl ((bZ ⟨v27_18,2,[y.where_,y.n]⟩ (by intro y hy;simp only [List.mem_cons,List.not_mem_nil,or_false] at hy;rcases hy with rfl | rfl<;>assumption) ((ai d3).2)).post (fun _ _ _ h=>h.2.2)) 0 rfl) ?_
        refine CF 20 rfl rfl rfl (bH rfl rfl d3) (CF 21 rfl rfl rfl (bE rfl) (fX (by kernel_rfl) ?_))
        exact ⟨rfl,[1,3,9],[6,5,4,3,2,1,0],[0],(),rfl,rfl⟩
      ·skip
       rintro ⟨⟩
       refine bp (aj (aa (aM rfl (aU rfl (aX rfl rfl (by omega)) (aA rfl (aNn ?_))))))
       refine ⟨[1,3,9],[6,5,4,3,2,1,0],[0],rfl,?_⟩
       refine ⟨k+1,⟨hk',?_⟩,by omega⟩
       rw [hst]
       rfl
     ·skip
      have hke:k=x.vars.l.length:=by simp at h5;omega
      subst hke
      rw [List.take_length,← t4]
      refine aT (aW (aW (aY (aj (aSR (aM rfl (UO 5 rfl rfl (UL 0 tk35 rfl rfl rfl rfl (aU rfl (aZ Tryz.underlying35 rfl) (aU rfl (Q0 rfl (dg x.depths.l.length hl_depths)) ?_))))))))))
      refine aU rfl (bH rfl rfl c5) (aA rfl (aNs (aSR (aA rfl (aNn (aq ?_))))))
      rw [← s5]
      refine aQ [1,3,11] [6,5,4,3,2,1,0] [0] (fun (k:Nat) st=>k≤x.depths.l.length∧st=⟨[(1,true,.pointer (some ⟨b0_0,0,none⟩)),(3,true,.string (bytesOf (S5++aP jm (x.depths.l.take k)))),(11,true,.int .i64 k)],[ShF cC.row x.depths,ShF dJ.row x.vars,ShF bF.row x.inlines,ShF bC.row x.ends,ShF cS.row x.lines,ShF cN.row x.marks,x.ok],[Box b0_0 37 x.vs]⟩) (fun k=>x.depths.l.length-k) rfl (⟨0,Nat.zero_le _,by rw [List.take_zero];show _=(⟨[_,(3,true,.string (bytesOf (S5++[]))),_],_,_⟩:Sta);rw [List.append_nil];rfl⟩) ?_
      rintro k st ⟨hk,rfl⟩
      refine ah (aSR (aM rfl (UO 5 rfl rfl (UL 0 tk35 rfl rfl rfl rfl (aU rfl (aZ Tryz.underlying35 rfl) (aU rfl (bu rfl rfl) (aNn ?_)))))))
      refine ao _ rfl (fun h6 => ?_) (fun h6 => ?_)
      ·skip
       have hk':k<x.depths.l.length:=by simpa using h6
       obtain ⟨y,hx⟩:∃ y,x.depths.l[k]? = some y:=⟨_,List.getElem?_eq_getElem hk'⟩
       obtain ⟨w0,w1,w2,w3⟩:=i_depths y (List.mem_of_getElem? hx)
       have hst:S5++aP jm (x.depths.l.take (k+1))=((S5++aP jm (x.depths.l.take k))++aP ak.enc [y.sec,y.from_,y.to_,y.bytes]):=by rw [eQ hx];simp only [aP,List.map_cons,List.map_nil,List.flatten_cons,List.flatten_nil,List.append_nil,List.append_assoc];rfl
       have d1:=j5 (k+1) b5
       rw [hst] at d1
       refine ar (aj (ah (aq (aSR (UO 5 rfl rfl (UL 0 tk35 rfl rfl rfl rfl (aM rfl (UI Tryz.underlying35 tk274 0 rfl rfl rfl rfl rfl (aK hx) rfl rfl (fun ⟨b32_3,o32_3⟩=>(US 0 tk274 0 rfl rfl rfl rfl rfl (LT rfl (bk (zs:=[.int .i64 0,.int .i64 0,.int .i64 0,.int .i64 0]) (by kernel_rfl) rfl (fun b32_5=>(aHN ?_))))))))))))))
       refine aD rfl (aF 1 tk274 rfl rfl rfl rfl (aHK ?_))
       refine aNn (aa (aM rfl (UO 0 rfl rfl (UL 1 tk3 rfl rfl rfl rfl (UO 1 rfl rfl (UL 1 tk3 rfl rfl rfl rfl (UO 2 rfl rfl (UL 1 tk3 rfl rfl rfl rfl (UO 3 rfl rfl (UL 1 tk3 rfl rfl rfl rfl (LT rfl (WL (zs:=[.int .i64 0]) el26 rfl rfl rfl (.more rfl (.v rfl .nil) (.more rfl (.v rfl .nil) (.more rfl (.v rfl .nil) (.more rfl (.v rfl .nil) .nil)))) rfl rfl (fun v33_9=>(aHN ?_))))))))))))))
       refine eN 2 rfl ?_
       refine aU rfl (Q1 rfl ((bZ ⟨v33_9,4,[y.sec,y.from_,y.to_,y.bytes]⟩ (by intro y hy;simp only [List.mem_cons,List.not_mem_nil,or_false] at hy;rcases hy with rfl | rfl | rfl | rfl<;>assumption) ((ai d1).2)).post (fun _ _ _ h=>h.2.2)) 0 rfl) ?_
       refine aU rfl (bH rfl rfl d1) (aA rfl (bj (bp (aj (aa (aM rfl (aU rfl (aX rfl rfl (by omega)) (aA rfl (aNn ?_)))))))))
       refine ⟨[1,3,11],[6,5,4,3,2,1,0],[0],rfl,?_⟩
       refine ⟨k+1,⟨hk',?_⟩,by omega⟩
       rw [hst]
       rfl
      ·skip
       have hke:k=x.depths.l.length:=by simp at h6;omega
       subst hke
       rw [List.take_length,← t5]
       refine aT (aW (aW (aY (aj (aSR (aM rfl (aA rfl (aNn (ax (FZ1 [] Tryz.results135 rfl ?_))))))))))
       exact ⟨rfl,rfl,rfl⟩
theorem ac1(x:az):cg.enc (bQ x)=an.enc x.name++(bP.enc x.lib++(ak.enc x.code++(ak.enc x.data++(ak.enc x.zero++(an.enc x.bytes++(an.enc x.tls++(ak.enc x.block++((aV x.nodes.l.length++aP dq x.nodes.l)++((aV x.exports.l.length++aP cT x.exports.l)++((aV x.imports.l.length++aP dR x.imports.l)++((aV x.slots.l.length++aP ak.enc x.slots.l)++((aV x.stubs.l.length++aP ak.enc x.stubs.l)++((aV x.dyns.l.length++aP j0 x.dyns.l)++((aV x.inits.l.length++aP ak.enc x.inits.l)++((aV x.lasts.l.length++aP ak.enc x.lasts.l)++(ak.enc x.entry++((aV x.needs.l.length++aP an.enc x.needs.l)++((aV x.versions.l.length++aP cE x.versions.l)++(fq.enc (eZ x.info)++((aV x.changes.l.length++aP gX x.changes.l))))))))))))))))))))):=by
 rw [← cH dN et x.nodes.l,← cH dL eo x.exports.l,← cH dM ep x.imports.l,← cH jl iT x.dyns.l,← cH cI di x.versions.l,← cH fS fZ x.changes.l];rfl
theorem jX(x:az)(hW:eE x)(hl:(cg.enc (bQ x)).length≤1000000000):Con Tryz.prog 60 [x.val] [x.ok] [] fun r ps hp=>ps=[]∧hp=[]∧r=.string (bytesOf (cg.enc (bQ x))):=by
 obtain ⟨w_code,w_data,w_zero,w_block,w_entry,i_nodes,i_exports,i_imports,i_slots,i_stubs,i_dyns,i_inits,i_lasts,i_info,i_changes⟩:=hW
 have he:=ac1 x
 obtain ⟨A0,a0⟩:∃ S,S=((((((an.enc x.name++bP.enc x.lib)++aP ak.enc [x.code,x.data,x.zero])++an.enc x.bytes)++an.enc x.tls)++aP ak.enc [x.block])++aV x.nodes.l.length):=⟨_,rfl⟩
 obtain ⟨B0,b0⟩:∃ S,S=A0++aP dq x.nodes.l:=⟨_,rfl⟩
 obtain ⟨A1,a1⟩:∃ S,S=((B0++(aV x.exports.l.length++aP cT x.exports.l))++aV x.imports.l.length):=⟨_,rfl⟩
 obtain ⟨B1,b1⟩:∃ S,S=A1++aP dR x.imports.l:=⟨_,rfl⟩
 obtain ⟨A2,a2⟩:∃ S,S=(((B1++(aV x.slots.l.length++aP ak.enc x.slots.l))++(aV x.stubs.l.length++aP ak.enc x.stubs.l))++aV x.dyns.l.length):=⟨_,rfl⟩
 obtain ⟨B2,b2⟩:∃ S,S=A2++aP j0 x.dyns.l:=⟨_,rfl⟩
 obtain ⟨A3,a3⟩:∃ S,S=((((B2++(aV x.inits.l.length++aP ak.enc x.inits.l))++(aV x.lasts.l.length++aP ak.enc x.lasts.l))++aP ak.enc [x.entry])++(aV x.needs.l.length++aP an.enc x.needs.l)):=⟨_,rfl⟩
 obtain ⟨A4,a4⟩:∃ S,S=(((A3++(aV x.versions.l.length++aP cE x.versions.l))++fq.enc (eZ x.info))++(aV x.changes.l.length++aP gX x.changes.l)):=⟨_,rfl⟩
 have hT:cg.enc (bQ x)=A4:=by rw [he,a4,a3,b2,a2,b1,a1,b0,a0];simp only [aP,List.map_cons,List.map_nil,List.flatten_cons,List.flatten_nil,List.append_nil,List.append_assoc]
 rw [hT] at hl ⊢
 have dA4_3:=hl
 rw [a4] at dA4_3
 have dA4_2:=(ai dA4_3).1
 have dA4_1:=(ai dA4_2).1
 have dA3_4:=(ai dA4_1).1
 rw [a3] at dA3_4
 have dA3_3:=(ai dA3_4).1
 have dA3_2:=(ai dA3_3).1
 have dA3_1:=(ai dA3_2).1
 have dB2_1:=(ai dA3_1).1
 rw [b2] at dB2_1
 have dA2_3:=(ai dB2_1).1
 rw [a2] at dA2_3
 have dA2_2:=(ai dA2_3).1
 have dA2_1:=(ai dA2_2).1
 have dB1_1:=(ai dA2_1).1
 rw [b1] at dB1_1
 have dA1_2:=(ai dB1_1).1
 rw [a1] at dA1_2
 have dA1_1:=(ai dA1_2).1
 have dB0_1:=(ai dA1_1).1
 rw [b0] at dB0_1
 have dA0_7:=(ai dB0_1).1
 rw [a0] at dA0_7
 have dA0_6:=(ai dA0_7).1
 have dA0_5:=(ai dA0_6).1
 have dA0_4:=(ai dA0_5).1
 have dA0_3:=(ai dA0_4).1
 have dA0_2:=(ai dA0_3).1
 have dA0_1:=(ai dA0_2).1
 refine EN1 Tryz.func60 rfl (aR _ (az.f_nodes (.of (aI 0 rfl))) (aR _ (az.f_exports (.of (aI 1 rfl))) (aR _ (az.f_imports (.of (aI 2 rfl))) (aR _ (az.f_slots (.of (aI 3 rfl))) (aR _ (az.f_stubs (.of (aI 4 rfl))) (aR _ (az.f_dyns (.of (aI 5 rfl))) (aR _ (az.f_inits (.of (aI 6 rfl))) (aR _ (az.f_lasts (.of (aI 7 rfl))) (aR _ (az.f_needs (.of (aI 8 rfl))) (aR _ (az.f_versions (.of (aI 9 rfl))) (aR _ (az.f_versionsA (.of (aI 10 rfl))) (aR _ (az.f_info (.of (aI 11 rfl))) (aR _ (az.f_changes (.of (aI 12 rfl))) (aR _ (az.f_changesA (.of (aI 13 rfl))) ?_))))))))))))))
 refine bY (.of (aI 13 rfl)) (fun hl_nodes=>(bY (.of (aI 11 rfl)) (fun hl_imports=>(bY (.of (aI 8 rfl)) (fun hl_dyns => ?_)))))
 show awp _ _ _ _ ⟨_,[_,_,_,_,_,_,_,_,_,_,_,_,_,_,x.ok],_⟩
 refine aSR (LT rfl (cK rfl rfl rfl (fun b0_0=>(aHN ?_))))
 refine aA rfl (aNs (DC [] [] [] 35 ?_))
 refine mc (X:=Unit) (fun _=>⟨[(1,true,.pointer (some ⟨b0_0,0,none⟩)),(3,true,.string (bytesOf ((((((an.enc x.name++bP.enc x.lib)++aP ak.enc [x.code,x.data,x.zero])++an.enc x.bytes)++an.enc x.tls)++aP ak.enc [x.block])++aV x.nodes.l.length)))],[bz cq.ok x.changes.l,ShF cq.row x.changes,cG.ok x.info,bz aH.ok x.versions.l,ShF aH.row x.versions,ShF (fun s=>[.v (.string s)]) x.needs,ShF (fun z=>[.v (.int .i64 z)]) x.lasts,ShF (fun z=>[.v (.int .i64 z)]) x.inits,ShF fb.row x.dyns,ShF (fun z=>[.v (.int .i64 z)]) x.stubs,ShF (fun z=>[.v (.int .i64 z)]) x.slots,ShF bK.row x.imports,ShF bA.row x.exports,ShF ba.row x.nodes,x.ok],[Box b0_0 40 x.vs]⟩) ?_ ?_
 ·skip
  refine CF 0 rfl rfl rfl (qFA (off:=0) rfl) (CQ 1 rfl rfl rfl (bJ 0 tk9 rfl rfl rfl) (CF 2 rfl rfl rfl (Q0 rfl (ca x.name (dv dA0_1))) (CF 3 rfl rfl rfl (qFA (off:=1) rfl) (CQ 4 rfl rfl rfl (bJ 0 tk4 rfl rfl rfl) (CF 5 rfl rfl rfl (Q0 rfl (jW x.lib)) (CF 6 rfl rfl rfl (bH rfl rfl dA0_2) (CF 7 rfl rfl rfl (qFA (off:=2) rfl) (CQ 8 rfl rfl rfl (bJ 0 tk3 rfl rfl rfl) (CF 9 rfl rfl rfl (qFA (off:=3) rfl) (CQ 10 rfl rfl rfl (bJ 0 tk3 rfl rfl rfl) (CF 11 rfl rfl rfl (qFA (off:=4) rfl) (CQ 12 rfl rfl rfl (bJ 0 tk3 rfl rfl rfl) (CF 16 rfl rfl rfl (qFA (off:=5) rfl) (CQ 17 rfl rfl rfl (bJ 0 tk9 rfl rfl rfl) (CF 20 rfl rfl rfl (qFA (off:=6) rfl) ?_)))))))))))))))
  refine CQ 21 rfl rfl rfl (bJ 0 tk9 rfl rfl rfl) (CF 24 rfl rfl rfl (qFA (off:=7) rfl) (CQ 25 rfl rfl rfl (bJ 0 tk3 rfl rfl rfl) (CF 29 rfl rfl rfl (qFA (off:=8) rfl) (CQ 30 rfl rfl rfl (bJ 0 tk23 rfl rfl rfl) (CF 31 rfl rfl rfl (aZ Tryz.underlying23 rfl) ?_)))))
  refine dt 13 [26] (by kernel_rfl) (cm ?_ (cm ?_ cU))
  ·skip
   refine dC 13 rfl rfl (Eff.x (id (WL (zs:=[.int .i64 0]) el26 rfl rfl rfl (.more rfl (.v rfl .nil) (.more rfl (.v rfl .nil) (.more rfl (.v rfl .nil) .nil))) rfl rfl (fun v1_13=>(CST ?_)))))
   refine eh 1 rfl (CST ?_)
   refine CF 14 rfl rfl rfl (Q1 rfl ((bZ ⟨v1_13,3,[x.code,x.data,x.zero]⟩ (by intro y hy;simp only [List.mem_cons,List.not_mem_nil,or_false] at hy;rcases hy with rfl | rfl | rfl<;>assumption) ((ai dA0_3).2)).post (fun _ _ _ h=>h.2.2)) 0 rfl) ?_
   refine CF 15 rfl rfl rfl (bH rfl rfl dA0_3) (CF 18 rfl rfl rfl (Q0 rfl (ca x.bytes (dv (ai dA0_4).2))) (CF 19 rfl rfl rfl (bH rfl rfl dA0_4) (CF 22 rfl rfl rfl (Q0 rfl (ca x.tls (dv (ai dA0_5).2))) (CF 23 rfl rfl rfl (bH rfl rfl dA0_5) ?_))))
   refine dt 26 [] (by kernel_rfl) (cm ?_ cU)
   refine dC 26 rfl rfl (Eff.x (id (WL (zs:=[.int .i64 0]) el26 rfl rfl rfl (.more rfl (.v rfl .nil) .nil) rfl rfl (fun v1_26=>(CST ?_)))))
   refine eh 2 rfl (CST ?_)
   refine CF 27 rfl rfl rfl (Q1 rfl ((bZ ⟨v1_26,1,[x.block]⟩ (by intro y hy;simp only [List.mem_cons,List.not_mem_nil,or_false] at hy;rw [hy];assumption) ((ai dA0_6).2)).post (fun _ _ _ h=>h.2.2)) 0 rfl) ?_
   refine CF 28 rfl rfl rfl (bH rfl rfl dA0_6) (CF 32 rfl rfl rfl (Q0 rfl (dg x.nodes.l.length hl_nodes)) (CF 33 rfl rfl rfl (bH rfl rfl dA0_7) (CF 34 rfl rfl rfl (bE rfl) (fX (by kernel_rfl) ?_))))
   exact ⟨rfl,[1,3],[14,13,12,11,10,9,8,7,6,5,4,3,2,1,0],[0],(),rfl,rfl⟩
  ·skip
   refine dC 26 rfl rfl (Eff.x (id (WL (zs:=[.int .i64 0]) el26 rfl rfl rfl (.more rfl (.v rfl .nil) .nil) rfl rfl (fun v1_26=>(CST ?_)))))
   refine dt 13 [] (by kernel_rfl) (cm ?_ cU)
   refine dC 13 rfl rfl (Eff.x (id (WL (zs:=[.int .i64 0]) el26 rfl rfl rfl (.more rfl (.v rfl .nil) (.more rfl (.v rfl .nil) (.more rfl (.v rfl .nil) .nil))) rfl rfl (fun v1_13=>(CST ?_)))))
   refine eh 2 rfl (CST ?_)
   refine CF 14 rfl rfl rfl (Q1 rfl ((bZ ⟨v1_13,3,[x.code,x.data,x.zero]⟩ (by intro y hy;simp only [List.mem_cons,List.not_mem_nil,or_false] at hy;rcases hy with rfl | rfl | rfl<;>assumption) ((ai dA0_3).2)).post (fun _ _ _ h=>h.2.2)) 0 rfl) ?_
   refine CF 15 rfl rfl rfl (bH rfl rfl dA0_3) (CF 18 rfl rfl rfl (Q0 rfl (ca x.bytes (dv (ai dA0_4).2))) (CF 19 rfl rfl rfl (bH rfl rfl dA0_4) (CF 22 rfl rfl rfl (Q0 rfl (ca x.tls (dv (ai dA0_5).2))) (CF 23 rfl rfl rfl (bH rfl rfl dA0_5) (eh 1 rfl (CST ?_))))))
   refine CF 27 rfl rfl rfl (Q1 rfl ((bZ ⟨v1_26,1,[x.block]⟩ (by intro y hy;simp only [List.mem_cons,List.not_mem_nil,or_false] at hy;rw [hy];assumption) ((ai dA0_6).2)).post (fun _ _ _ h=>h.2.2)) 0 rfl) ?_
   refine CF 28 rfl rfl rfl (bH rfl rfl dA0_6) (CF 32 rfl rfl rfl (Q0 rfl (dg x.nodes.l.length hl_nodes)) (CF 33 rfl rfl rfl (bH rfl rfl dA0_7) (CF 34 rfl rfl rfl (bE rfl) (fX (by kernel_rfl) ?_))))
   exact ⟨rfl,[1,3],[14,13,12,11,10,9,8,7,6,5,4,3,2,1,0],[0],(),rfl,rfl⟩
 ·skip
  rintro ⟨⟩
  refine aj (ah (aSR (aA rfl (aNn (aq ?_)))))
  rw [← a0]
  refine aQ [1,3,4] [14,13,12,11,10,9,8,7,6,5,4,3,2,1,0] [0] (fun (k:Nat) st=>k≤x.nodes.l.length∧st=⟨[(1,true,.pointer (some ⟨b0_0,0,none⟩)),(3,true,.string (bytesOf (A0++aP dq (x.nodes.l.take k)))),(4,true,.int .i64 k)],[bz cq.ok x.changes.l,ShF cq.row x.changes,cG.ok x.info,bz aH.ok x.versions.l,ShF aH.row x.versions,ShF (fun s=>[.v (.string s)]) x.needs,ShF (fun z=>[.v (.int .i64 z)]) x.lasts,ShF (fun z=>[.v (.int .i64 z)]) x.inits,ShF fb.row x.dyns,ShF (fun z=>[.v (.int .i64 z)]) x.stubs,ShF (fun z=>[.v (.int .i64 z)]) x.slots,ShF bK.row x.imports,ShF bA.row x.exports,ShF ba.row x.nodes,x.ok],[Box b0_0 40 x.vs]⟩) (fun k=>x.nodes.l.length-k) rfl (⟨0,Nat.zero_le _,by rw [List.take_zero];show _=(⟨[_,(3,true,.string (bytesOf (A0++[]))),_],_,_⟩:Sta);rw [List.append_nil];rfl⟩) ?_
  rintro k st ⟨hk,rfl⟩
  refine ah (aSR (aM rfl (UO 8 rfl rfl (UL 0 tk23 rfl rfl rfl rfl (aU rfl (aZ Tryz.underlying23 rfl) (aU rfl (bu rfl rfl) (aNn ?_)))))))
  refine ao _ rfl (fun h1 => ?_) (fun h1 => ?_)
  ·skip
   have hk':k<x.nodes.l.length:=by simpa using h1
   obtain ⟨y,hx⟩:∃ y,x.nodes.l[k]? = some y:=⟨_,List.getElem?_eq_getElem hk'⟩
   obtain ⟨w0,w1,w2⟩:=i_nodes y (List.mem_of_getElem? hx)
   have hst:A0++aP dq (x.nodes.l.take (k+1))=((((((A0++aP dq (x.nodes.l.take k))++an.enc y.obj)++an.enc y.sec)++aP ak.enc [y.kind,y.at_,y.size])++an.enc y.digest)++an.enc y.form):=by rw [eQ hx];simp only [aP,List.map_cons,List.map_nil,List.flatten_cons,List.flatten_nil,List.append_nil,List.append_assoc];rfl
   have e5:=j5 (k+1) dB0_1
   rw [hst] at e5
   have e4:=(ai e5).1
   have e3:=(ai e4).1
   have e2:=(ai e3).1
   have e1:=(ai e2).1
   refine ar (aj (ah (aq (aSR (UO 8 rfl rfl (UL 0 tk23 rfl rfl rfl rfl (aM rfl (UI Tryz.underlying23 tk153 13 rfl rfl rfl rfl rfl (aK hx) rfl rfl (fun ⟨b5_3,o5_3⟩=>(US 0 tk153 0 rfl rfl rfl rfl rfl (LT rfl (bk (zs:=[.string .empty,.string .empty,.int .i64 0,.int .i64 0,.int .i64 0,.string .empty,.string .empty]) (by kernel_rfl) rfl (fun b5_5=>(aHN ?_))))))))))))))
   refine aD rfl (aF 1 tk153 rfl rfl rfl rfl (aHK ?_))
   refine aNn (DR [] 27 (VM 0 rfl rfl (VO 1 0 rfl rfl rfl (VL 2 1 tk9 rfl rfl rfl rfl rfl (bV 3 rfl rfl (Q0 rfl (ca y.obj (dv (ai e1).2))) (bV 4 rfl rfl (bH rfl rfl e1) (VO 5 1 rfl rfl rfl (VL 6 1 tk9 rfl rfl rfl rfl rfl (bV 7 rfl rfl (Q0 rfl (ca y.sec (dv (ai e2).2))) (bV 8 rfl rfl (bH rfl rfl e2) (VO 9 2 rfl rfl rfl (VL 10 1 tk3 rfl rfl rfl rfl rfl (VO 11 3 rfl rfl rfl (VL 12 1 tk3 rfl rfl rfl rfl rfl (VO 13 4 rfl rfl rfl ?_)))))))))))))))
   refine VL 14 1 tk3 rfl rfl rfl rfl rfl (VO 18 5 rfl rfl rfl (VL 19 1 tk9 rfl rfl rfl rfl rfl (VO 22 6 rfl rfl rfl (VL 23 1 tk9 rfl rfl rfl rfl rfl (VB (zs:=[.int .i64 0]) 15 rfl el26 rfl rfl rfl rfl (.more rfl (.v rfl .nil) (.more rfl (.v rfl .nil) (.more rfl (.v rfl .nil) .nil))) rfl rfl (fun v6_15 => ?_))))))
   refine bV 16 rfl rfl (Q1 rfl ((bZ ⟨v6_15,3,[y.kind,y.at_,y.size]⟩ (by intro y hy;simp only [List.mem_cons,List.not_mem_nil,or_false] at hy;rcases hy with rfl | rfl | rfl<;>assumption) ((ai e3).2)).post (fun _ _ _ h=>h.2.2)) 0 rfl) ?_
   refine bV 17 rfl rfl (bH rfl rfl e3) (bV 20 rfl rfl (Q0 rfl (ca y.digest (dv (ai e4).2))) (bV 21 rfl rfl (bH rfl rfl e4) (bV 24 rfl rfl (Q0 rfl (ca y.form (dv (ai e5).2))) (bV 25 rfl rfl (bH rfl rfl e5) (bV 26 rfl rfl (bE rfl) (BN (bp (aj (aa (aM rfl (aU rfl (aX rfl rfl (by omega)) (aA rfl (aNn ?_)))))))))))))
   refine ⟨[1,3,4],[14,13,12,11,10,9,8,7,6,5,4,3,2,1,0],[0],rfl,?_⟩
   refine ⟨k+1,⟨hk',?_⟩,by omega⟩
   rw [hst]
   rfl
  ·skip
   have hke:k=x.nodes.l.length:=by simp at h1;omega
   subst hke
   rw [List.take_length,← b0]
   refine aT (aW (aW (aY (aj (ah (DR [] 11 (VM 0 rfl rfl (VO 1 9 rfl rfl rfl (VL 2 0 tk24 rfl rfl rfl rfl rfl (bV 3 rfl rfl (Q1 rfl ((pZ x.exports i_exports ((ai dA1_1).2)).post (fun _ _ _ h=>h.2.2)) 12 rfl) (bV 4 rfl rfl (bH rfl rfl dA1_1) (VO 5 10 rfl rfl rfl (VL 6 0 tk25 rfl rfl rfl rfl rfl (bV 7 rfl rfl (aZ Tryz.underlying25 rfl) (bV 8 rfl rfl (Q0 rfl (dg x.imports.l.length hl_imports)) ?_)))))))))))))))
   refine bV 9 rfl rfl (bH rfl rfl dA1_2) (bV 10 rfl rfl (bE rfl) (BN (aj (ah (aSR (aA rfl (aNn (aq ?_))))))))
   rw [← a1]
   refine aQ [1,3,6] [14,13,12,11,10,9,8,7,6,5,4,3,2,1,0] [0] (fun (k:Nat) st=>k≤x.imports.l.length∧st=⟨[(1,true,.pointer (some ⟨b0_0,0,none⟩)),(3,true,.string (bytesOf (A1++aP dR (x.imports.l.take k)))),(6,true,.int .i64 k)],[bz cq.ok x.changes.l,ShF cq.row x.changes,cG.ok x.info,bz aH.ok x.versions.l,ShF aH.row x.versions,ShF (fun s=>[.v (.string s)]) x.needs,ShF (fun z=>[.v (.int .i64 z)]) x.lasts,ShF (fun z=>[.v (.int .i64 z)]) x.inits,ShF fb.row x.dyns,ShF (fun z=>[.v (.int .i64 z)]) x.stubs,ShF (fun z=>[.v (.int .i64 z)]) x.slots,ShF bK.row x.imports,ShF bA.row x.exports,ShF ba.row x.nodes,x.ok],[Box b0_0 40 x.vs]⟩) (fun k=>x.imports.l.length-k) rfl (⟨0,Nat.zero_le _,by rw [List.take_zero];show _=(⟨[_,(3,true,.string (bytesOf (A1++[]))),_],_,_⟩:Sta);rw [List.append_nil];rfl⟩) ?_
   rintro k st ⟨hk,rfl⟩
   refine ah (aSR (aM rfl (UO 10 rfl rfl (UL 0 tk25 rfl rfl rfl rfl (aU rfl (aZ Tryz.underlying25 rfl) (aU rfl (bu rfl rfl) (aNn ?_)))))))
   refine ao _ rfl (fun h2 => ?_) (fun h2 => ?_)
   ·skip
    have hk':k<x.imports.l.length:=by simpa using h2
    obtain ⟨y,hx⟩:∃ y,x.imports.l[k]? = some y:=⟨_,List.getElem?_eq_getElem hk'⟩
    have w0:=i_imports y (List.mem_of_getElem? hx)
    have hst:A1++aP dR (x.imports.l.take (k+1))=((((((A1++aP dR (x.imports.l.take k))++an.enc y.name)++an.enc y.version)++aP ak.enc [y.kind])++bP.enc y.weak)++bP.enc y.own):=by rw [eQ hx];simp only [aP,List.map_cons,List.map_nil,List.flatten_cons,List.flatten_nil,List.append_nil,List.append_assoc];rfl
    have e5:=j5 (k+1) dB1_1
    rw [hst] at e5
    have e4:=(ai e5).1
    have e3:=(ai e4).1
    have e2:=(ai e3).1
    have e1:=(ai e2).1
    refine ar (aj (ah (aq (aSR (UO 10 rfl rfl (UL 0 tk25 rfl rfl rfl rfl (aM rfl (UI Tryz.underlying25 tk155 11 rfl rfl rfl rfl rfl (aK hx) rfl rfl (fun ⟨b11_3,o11_3⟩=>(US 0 tk155 0 rfl rfl rfl rfl rfl (LT rfl (bk (zs:=[.string .empty,.string .empty,.int .i64 0,.bool false,.bool false]) (by kernel_rfl) rfl (fun b11_5=>(aHN ?_))))))))))))))
    refine aD rfl (aF 1 tk155 rfl rfl rfl rfl (aHK ?_))
    refine aNn (DR [] 23 (VM 0 rfl rfl (VO 1 0 rfl rfl rfl (VL 2 1 tk9 rfl rfl rfl rfl rfl (bV 3 rfl rfl (Q0 rfl (ca y.name (dv (ai e1).2))) (bV 4 rfl rfl (bH rfl rfl e1) (VO 5 1 rfl rfl rfl (VL 6 1 tk9 rfl rfl rfl rfl rfl (bV 7 rfl rfl (Q0 rfl (ca y.version (dv (ai e2).2))) (bV 8 rfl rfl (bH rfl rfl e2) (VO 9 2 rfl rfl rfl (VL 10 1 tk3 rfl rfl rfl rfl rfl (VO 14 3 rfl rfl rfl (VL 15 1 tk4 rfl rfl rfl rfl rfl (VO 18 4 rfl rfl rfl ?_)))))))))))))))
    refine VL 19 1 tk4 rfl rfl rfl rfl rfl (VB (zs:=[.int .i64 0]) 11 rfl el26 rfl rfl rfl rfl (.more rfl (.v rfl .nil) .nil) rfl rfl (fun v12_11 => ?_))
    refine bV 12 rfl rfl (Q1 rfl ((bZ ⟨v12_11,1,[y.kind]⟩ (by intro y hy;simp only [List.mem_cons,List.not_mem_nil,or_false] at hy;rw [hy];assumption) ((ai e3).2)).post (fun _ _ _ h=>h.2.2)) 0 rfl) ?_
    refine bV 13 rfl rfl (bH rfl rfl e3) (bV 16 rfl rfl (Q0 rfl (jW y.weak)) (bV 17 rfl rfl (bH rfl rfl e4) (bV 20 rfl rfl (Q0 rfl (jW y.own)) (bV 21 rfl rfl (bH rfl rfl e5) (bV 22 rfl rfl (bE rfl) (BN (bp (aj (aa (aM rfl (aU rfl (aX rfl rfl (by omega)) (aA rfl (aNn ?_)))))))))))))
    refine ⟨[1,3,6],[14,13,12,11,10,9,8,7,6,5,4,3,2,1,0],[0],rfl,?_⟩
    refine ⟨k+1,⟨hk',?_⟩,by omega⟩
    rw [hst]
    rfl
   ·skip
    have hke:k=x.imports.l.length:=by simp at h2;omega
    subst hke
    rw [List.take_length,← b1]
    refine aT (aW (aW (aY (aj (ah (DR [] 15 (VM 0 rfl rfl (VO 1 11 rfl rfl rfl (VL 2 0 tk26 rfl rfl rfl rfl rfl (bV 3 rfl rfl (Q1 rfl ((jZ x.slots i_slots ((ai dA2_1).2)).post (fun _ _ _ h=>h.2.2)) 10 rfl) (bV 4 rfl rfl (bH rfl rfl dA2_1) (VO 5 12 rfl rfl rfl (VL 6 0 tk26 rfl rfl rfl rfl rfl (bV 7 rfl rfl (Q1 rfl ((jZ x.stubs i_stubs ((ai dA2_2).2)).post (fun _ _ _ h=>h.2.2)) 9 rfl) (bV 8 rfl rfl (bH rfl rfl dA2_2) ?_)))))))))))))))
    refine VO 9 13 rfl rfl rfl (VL 10 0 tk27 rfl rfl rfl rfl rfl (bV 11 rfl rfl (aZ Tryz.underlying27 rfl) (bV 12 rfl rfl (Q0 rfl (dg x.dyns.l.length hl_dyns)) (bV 13 rfl rfl (bH rfl rfl dA2_3) (bV 14 rfl rfl (bE rfl) (BN (aj (ah (aSR (aA rfl (aNn (aq ?_))))))))))))
    rw [← a2]
    refine aQ [1,3,8] [14,13,12,11,10,9,8,7,6,5,4,3,2,1,0] [0] (fun (k:Nat) st=>k≤x.dyns.l.length∧st=⟨[(1,true,.pointer (some ⟨b0_0,0,none⟩)),(3,true,.string (bytesOf (A2++aP j0 (x.dyns.l.take k)))),(8,true,.int .i64 k)],[bz cq.ok x.changes.l,ShF cq.row x.changes,cG.ok x.info,bz aH.ok x.versions.l,ShF aH.row x.versions,ShF (fun s=>[.v (.string s)]) x.needs,ShF (fun z=>[.v (.int .i64 z)]) x.lasts,ShF (fun z=>[.v (.int .i64 z)]) x.inits,ShF fb.row x.dyns,ShF (fun z=>[.v (.int .i64 z)]) x.stubs,ShF (fun z=>[.v (.int .i64 z)]) x.slots,ShF bK.row x.imports,ShF bA.row x.exports,ShF ba.row x.nodes,x.ok],[Box b0_0 40 x.vs]⟩) (fun k=>x.dyns.l.length-k) rfl (⟨0,Nat.zero_le _,by rw [List.take_zero];show _=(⟨[_,(3,true,.string (bytesOf (A2++[]))),_],_,_⟩:Sta);rw [List.append_nil];rfl⟩) ?_
    rintro k st ⟨hk,rfl⟩
    refine ah (aSR (aM rfl (UO 13 rfl rfl (UL 0 tk27 rfl rfl rfl rfl (aU rfl (aZ Tryz.underlying27 rfl) (aU rfl (bu rfl rfl) (aNn ?_)))))))
    refine ao _ rfl (fun h3 => ?_) (fun h3 => ?_)
    ·skip
     have hk':k<x.dyns.l.length:=by simpa using h3
     obtain ⟨y,hx⟩:∃ y,x.dyns.l[k]? = some y:=⟨_,List.getElem?_eq_getElem hk'⟩
     obtain ⟨w0,w1,w2,w3⟩:=i_dyns y (List.mem_of_getElem? hx)
     have hst:A2++aP j0 (x.dyns.l.take (k+1))=((A2++aP j0 (x.dyns.l.take k))++aP ak.enc [y.at_,y.kind,y.import_,y.add]):=by rw [eQ hx];simp only [aP,List.map_cons,List.map_nil,List.flatten_cons,List.flatten_nil,List.append_nil,List.append_assoc];rfl
     have e1:=j5 (k+1) dB2_1
     rw [hst] at e1
     refine ar (aj (ah (aq (aSR (UO 13 rfl rfl (UL 0 tk27 rfl rfl rfl rfl (aM rfl (UI Tryz.underlying27 tk157 8 rfl rfl rfl rfl rfl (aK hx) rfl rfl (fun ⟨b17_3,o17_3⟩=>(US 0 tk157 0 rfl rfl rfl rfl rfl (LT rfl (bk (zs:=[.int .i64 0,.int .i64 0,.int .i64 0,.int .i64 0]) (by kernel_rfl) rfl (fun b17_5=>(aHN ?_))))))))))))))
     refine aD rfl (aF 1 tk157 rfl rfl rfl rfl (aHK ?_))
     refine aNn (aa (aM rfl (UO 0 rfl rfl (UL 1 tk3 rfl rfl rfl rfl (UO 1 rfl rfl (UL 1 tk3 rfl rfl rfl rfl (UO 2 rfl rfl (UL 1 tk3 rfl rfl rfl rfl (UO 3 rfl rfl (UL 1 tk3 rfl rfl rfl rfl (LT rfl (WL (zs:=[.int .i64 0]) el26 rfl rfl rfl (.more rfl (.v rfl .nil) (.more rfl (.v rfl .nil) (.more rfl (.v rfl .nil) (.more rfl (.v rfl .nil) .nil)))) rfl rfl (fun v18_9=>(aHN ?_))))))))))))))
     refine eN 2 rfl ?_
     refine aU rfl (Q1 rfl ((bZ ⟨v18_9,4,[y.at_,y.kind,y.import_,y.add]⟩ (by intro y hy;simp only [List.mem_cons,List.not_mem_nil,or_false] at hy;rcases hy with rfl | rfl | rfl | rfl<;>assumption) ((ai e1).2)).post (fun _ _ _ h=>h.2.2)) 0 rfl) ?_
     refine aU rfl (bH rfl rfl e1) (aA rfl (bj (bp (aj (aa (aM rfl (aU rfl (aX rfl rfl (by omega)) (aA rfl (aNn ?_)))))))))
     refine ⟨[1,3,8],[14,13,12,11,10,9,8,7,6,5,4,3,2,1,0],[0],rfl,?_⟩
     refine ⟨k+1,⟨hk',?_⟩,by omega⟩
     rw [hst]
     rfl
    ·skip
     have hke:k=x.dyns.l.length:=by simp at h3;omega
     subst hke
     rw [List.take_length,← b2]
     refine aT (aW (aW (aY (aj (ah (DR [] 19 (VM 0 rfl rfl (VO 1 14 rfl rfl rfl (VL 2 0 tk26 rfl rfl rfl rfl rfl (bV 3 rfl rfl (Q1 rfl ((jZ x.inits i_inits ((ai dA3_1).2)).post (fun _ _ _ h=>h.2.2)) 7 rfl) (bV 4 rfl rfl (bH rfl rfl dA3_1) (VO 5 15 rfl rfl rfl (VL 6 0 tk26 rfl rfl rfl rfl rfl (bV 7 rfl rfl (Q1 rfl ((jZ x.lasts i_lasts ((ai dA3_2).2)).post (fun _ _ _ h=>h.2.2)) 6 rfl) (bV 8 rfl rfl (bH rfl rfl dA3_2) ?_)))))))))))))))
     refine VO 9 16 rfl rfl rfl (VL 10 0 tk3 rfl rfl rfl rfl rfl (VO 14 17 rfl rfl rfl (VL 15 0 tk28 rfl rfl rfl rfl rfl (VB (zs:=[.int .i64 0]) 11 rfl el26 rfl rfl rfl rfl (.more rfl (.v rfl .nil) .nil) rfl rfl (fun v19_11 => ?_)))))
     refine bV 12 rfl rfl (Q1 rfl ((bZ ⟨v19_11,1,[x.entry]⟩ (by intro y hy;simp only [List.mem_cons,List.not_mem_nil,or_false] at hy;rw [hy];assumption) ((ai dA3_3).2)).post (fun _ _ _ h=>h.2.2)) 0 rfl) ?_
     refine bV 13 rfl rfl (bH rfl rfl dA3_3) (bV 16 rfl rfl (Q1 rfl ((n9 x.needs ((ai dA3_4).2)).post (fun _ _ _ h=>h.2.2)) 6 rfl) (bV 17 rfl rfl (bH rfl rfl dA3_4) (bV 18 rfl rfl (bE rfl) (BN (aj (ah ?_))))))
     rw [← a3]
     refine DR [] 14 (VM 0 rfl rfl (VO 1 18 rfl rfl rfl (VL 2 0 tk29 rfl rfl rfl rfl rfl (bV 3 rfl rfl (QC rfl (fun w S fp hst=>((oC x.versions ((ai dA4_1).2)).post (fun _ _ _ h=>h.2.2)).quiet2 (aI 5 rfl) (aI 4 rfl) hst)) (bV 4 rfl rfl (bH rfl rfl dA4_1) (VO 5 19 rfl rfl rfl (VL 6 0 tk37 rfl rfl rfl rfl rfl (bV 7 rfl rfl (Q1 rfl ((uK x.info i_info ((ai dA4_2).2)).post (fun _ _ _ h=>h.2.2)) 3 rfl) (bV 8 rfl rfl (bH rfl rfl dA4_2) (VO 9 25 rfl rfl rfl (VL 10 0 tk38 rfl rfl rfl rfl rfl (bV 11 rfl rfl (QC rfl (fun w S fp hst=>((pY x.changes i_changes ((ai dA4_3).2)).post (fun _ _ _ h=>h.2.2)).quiet2 (aI 2 rfl) (aI 1 rfl) hst)) (bV 12 rfl rfl (bH rfl rfl dA4_3) (bV 13 rfl rfl (bE rfl) (BN ?_)))))))))))))))
     refine aj (ax (FZ1 [] Tryz.results60 rfl ?_))
     rw [a4]
     exact ⟨rfl,rfl,rfl⟩
end Go.Proofs.YtfkcmbonmpcbfaaGreat

