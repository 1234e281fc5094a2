/- Parts of the proof, in build order. No condition. -/
import Derived.Test.YtebnelfdimiifaaGreatDoorSa25
import Derived.Test.YtebnelfdimiifaaGreatDoorSa05
import Derived.Test.YtebnelfdimiifaaGreatDoorSa07
set_option linter.unusedSimpArgs false
set_option linter.unusedVariables false
set_option maxHeartbeats 1000000
set_option maxRecDepth 20000
namespace Go.Proofs.YtebnelfdimiifaaGreatDoor
open Go.RowKit Go.Lp Go.Sy Go.Lv
open Go.Proofs.Tryz
attribute [local irreducible] aL aB awp aC fwp Quiet
theorem zQ(y:dJ):eP y=aO aj.enc [y.from_,y.size,y.to_]:=by
 show aj.enc y.from_++(aj.enc y.size++aj.enc y.to_)=_
 simp only [aO,List.map_cons,List.map_nil,List.flatten_cons,List.flatten_nil,List.append_nil]
theorem qW(l:Sl cr)(hI:∀ y∈l.l,lO y)(hl:(aQ l.l.length++aO gY l.l).length≤1000000000):Con Tryz.prog 44 [l.val] [ShF cr.row l,b6 cr.ok l.l] [] fun r ps hp=>ps=[]∧hp=[]∧r=.string (bytesOf (aQ l.l.length++aO gY l.l)):=by
 rw [List.length_append] at hl
 refine EN1 Tryz.func44 rfl (bS (.of (aH 0 rfl)) (fun hlen=>(aSR (aA rfl (aNn (aSR (aM rfl (aU rfl (aX Tryz.underlying37 rfl) (aU rfl (Q0 rfl (cT l.l.length hlen)) (aA rfl (aNs (aSR (aA rfl (aNn (aq ?_)))))))))))))))
 refine aP [0,3,4] [1,0] [] (fun (k:Nat) st=>k≤l.l.length∧st=⟨[(0,true,l.val),(3,true,.string (bytesOf (aQ l.l.length++aO gY (l.l.take k)))),(4,true,.int .i64 k)],[ShF cr.row l,b6 cr.ok l.l],[]⟩) (fun k=>l.l.length-k) rfl (⟨0,Nat.zero_le _,by rw [List.take_zero];show _=(⟨[_,(3,true,.string (bytesOf (aQ l.l.length++[]))),_],_,_⟩:Sta);rw [List.append_nil];rfl⟩) ?_
 rintro k st ⟨hk,rfl⟩
 refine ai (aSR (aM rfl (aM rfl (aU rfl (aX Tryz.underlying37 rfl) (aU rfl (bC rfl rfl) (aNn ?_))))))
 refine ao _ rfl (fun h1 => ?_) (fun h1 => ?_)
 ·skip
  have hk':k<l.l.length:=by simpa using h1
  obtain ⟨x,hx⟩:∃ x,l.l[k]? = some x:=⟨_,List.getElem?_eq_getElem hk'⟩
  have hw:=hI x (List.mem_of_getElem? hx)
  have hen:=eH (e:=gY) hx
  have hle:=iz (e:=gY) l.l (k+1)
  have hxe:gY x=ak.enc x.obj++(ak.enc x.sec++(ak.enc x.from_++((aQ x.pieces.l.length++aO eP x.pieces.l)++aj.enc x.code))):=by
    rw [← ct fo fu x.pieces.l];rfl
  have ht1:=gN x.obj
  have ht2:=gN x.sec
  have ht3:=gN x.from_
  obtain ⟨S,hS⟩:∃ S,S=aQ l.l.length++aO gY (l.l.take k):=⟨_,rfl⟩
  have hst:aQ l.l.length++aO gY (l.l.take (k+1))=(((((S++ak.enc x.obj)++ak.enc x.sec)++ak.enc x.from_)++aQ x.pieces.l.length)++aO eP x.pieces.l)++aj.enc x.code:=by rw [hen,hxe,hS];simp only [List.append_assoc]
  have hSl:S.length+((ak.enc x.obj).length+((ak.enc x.sec).length+((ak.enc x.from_).length+((aQ x.pieces.l.length).length+((aO eP x.pieces.l).length+(aj.enc x.code).length)))))≤1000000000:=by
    rw [hen,hxe] at hle
    rw [hS]
    simp only [List.length_append] at hle ⊢
    omega
  rw [← hS]
  clear hle hl hen hxe
  refine aZ _ (cr.f_pieces (Ent.all (f:=cr.ok) (.of (aH 1 rfl)) hx)) (bS (.of (aH 0 rfl)) (fun hpl=>(ax (an (ai (aq (aSR (aM rfl (aM rfl (UI Tryz.underlying37 tk58 1 rfl rfl rfl rfl rfl (aI hx) rfl rfl (fun ⟨b5_2,o5_2⟩=>(US 0 tk58 0 rfl rfl rfl rfl rfl (LT rfl (bJ (zs:=[.string .empty,.string .empty,.string .empty,.slice none 0 0,.int .i64 0]) (by kernel_rfl) rfl (fun b5_4 => ?_)))))))))))))))
  refine aHN ?_
  refine aW rfl (ba 0 tk58 rfl rfl rfl rfl (aHK ?_))
  refine aNs (DR [] 19 (VM 0 rfl rfl (VO 1 0 rfl rfl rfl (VL 2 0 tk9 rfl rfl rfl rfl rfl (bV 3 rfl rfl (Q0 rfl (b9 x.obj (by omega))) ?_)))))
  refine bV 4 rfl rfl (fQ rfl rfl (by show S.length+(ak.enc x.obj).length≤_;omega)) ?_
  refine VO 5 1 rfl rfl rfl (VL 6 0 tk9 rfl rfl rfl rfl rfl (bV 7 rfl rfl (Q0 rfl (b9 x.sec (by omega))) ?_))
  refine bV 8 rfl rfl (fQ rfl rfl (by show (S++ak.enc x.obj).length+(ak.enc x.sec).length≤_;simp only [List.length_append];omega)) ?_
  refine VO 9 2 rfl rfl rfl (VL 10 0 tk9 rfl rfl rfl rfl rfl (bV 11 rfl rfl (Q0 rfl (b9 x.from_ (by omega))) ?_))
  refine bV 12 rfl rfl (fQ rfl rfl (by show ((S++ak.enc x.obj)++ak.enc x.sec).length+(ak.enc x.from_).length≤_;simp only [List.length_append];omega)) ?_
  refine VO 13 3 rfl rfl rfl (VL 14 0 tk56 rfl rfl rfl rfl rfl (bV 15 rfl rfl (aX Tryz.underlying56 rfl) (bV 16 rfl rfl (Q0 rfl (cT x.pieces.l.length hpl)) ?_)))
  refine bV 17 rfl rfl (fQ rfl rfl (by show (((S++ak.enc x.obj)++ak.enc x.sec)++ak.enc x.from_).length+(aQ x.pieces.l.length).length≤_;simp only [List.length_append];omega)) ?_
  refine bV 18 rfl rfl (bo rfl) (BN (an (ai (aSR (aA rfl (aNn (aq ?_)))))))
  refine aP [0,3,4,5,6] [2,1,0] [0] (fun (j:Nat) st=>j≤x.pieces.l.length∧st=⟨[(0,true,l.val),(3,true,.string (bytesOf (((((S++ak.enc x.obj)++ak.enc x.sec)++ak.enc x.from_)++aQ x.pieces.l.length)++aO eP (x.pieces.l.take j)))),(4,true,.int .i64 k),(5,true,.pointer (some ⟨b5_4,0,none⟩)),(6,true,.int .i64 j)],[ShF dJ.row x.pieces,ShF cr.row l,b6 cr.ok l.l],[Box b5_4 58 x.vs]⟩) (fun j=>x.pieces.l.length-j) rfl (⟨0,Nat.zero_le _,by rw [List.take_zero];show _=(⟨[_,(3,true,.string (bytesOf (((((S++ak.enc x.obj)++ak.enc x.sec)++ak.enc x.from_)++aQ x.pieces.l.length)++[]))),_,_,_],_,_⟩:Sta);rw [List.append_nil];rfl⟩) ?_
  rintro j st ⟨hj,rfl⟩
  refine ai (aSR (aM rfl (UO 3 rfl rfl (UL 0 tk56 rfl rfl rfl rfl (aU rfl (aX Tryz.underlying56 rfl) (aU rfl (bC rfl rfl) (aNn ?_)))))))
  refine ao _ rfl (fun h2 => ?_) (fun h2 => ?_)
  ·skip
   have hj':j<x.pieces.l.length:=by simpa using h2
   obtain ⟨y,hy⟩:∃ y,x.pieces.l[j]? = some y:=⟨_,List.getElem?_eq_getElem hj'⟩
   have hwy:=hw.1 y (List.mem_of_getElem? hy)
   have hi3:∀ z∈[y.from_,y.size,y.to_],Go.Lv.I64 z:=fun z hz=>by
     simp only [List.mem_cons,List.not_mem_nil,or_false] at hz
     rcases hz with rfl | rfl | rfl
     · exact hwy.1
     · exact hwy.2.1
     · exact hwy.2.2
   have hen:=eH (e:=eP) hy
   have hle:=iz (e:=eP) x.pieces.l (j+1)
   rw [hen,zQ,List.length_append] at hle
   refine ax (an (ai (aq (DR [] 23 (VM 0 rfl rfl (VO 1 3 rfl rfl rfl (VL 2 0 tk56 rfl rfl rfl rfl rfl (VM 3 rfl rfl (XI 4 Tryz.underlying56 tk129 0 rfl rfl rfl rfl rfl rfl (aI hy) rfl rfl (fun ⟨b10_4,o10_4⟩=>(VO 5 0 rfl rfl rfl (VT 6 0 tk3 0 rfl rfl rfl rfl rfl rfl (VO 7 3 rfl rfl rfl (VL 8 0 tk56 rfl rfl rfl rfl rfl (VM 9 rfl rfl ?_)))))))))))))))
   refine XI 10 Tryz.underlying56 tk129 1 rfl rfl rfl rfl rfl rfl (aI hy) rfl rfl (fun ⟨b10_10,o10_10⟩=>(VO 11 1 rfl rfl rfl (VT 12 1 tk3 0 rfl rfl rfl rfl rfl rfl (VO 13 3 rfl rfl rfl (VL 14 0 tk56 rfl rfl rfl rfl rfl (VM 15 rfl rfl (XI 16 Tryz.underlying56 tk129 2 rfl rfl rfl rfl rfl rfl (aI hy) rfl rfl (fun ⟨b10_16,o10_16⟩=>(VO 17 2 rfl rfl rfl (VT 18 2 tk3 0 rfl rfl rfl rfl rfl rfl (VB (zs:=[.int .i64 0]) 19 rfl el25 rfl rfl rfl rfl (.more rfl (.v rfl .nil) (.more rfl (.v rfl .nil) (.more rfl (.v rfl .nil) .nil))) rfl rfl (fun v10_19 => ?_))))))))))))
   refine eQ (q:=true) 20 rfl (by kernel_rfl) rfl rfl (EC [6] [] rfl (b8 ⟨v10_19,3,[y.from_,y.size,y.to_]⟩ hi3 (by show (aO aj.enc [y.from_,y.size,y.to_]).length≤_;omega)) ?_)
   rintro _ _ _ ⟨rfl,rfl,rfl⟩
   refine bST rfl ?_
   refine bV 21 rfl rfl (fQ rfl rfl (by show (((((S++ak.enc x.obj)++ak.enc x.sec)++ak.enc x.from_)++aQ x.pieces.l.length)++aO eP (x.pieces.l.take j)).length+(aO aj.enc [y.from_,y.size,y.to_]).length≤_;simp only [List.length_append];omega)) ?_
   refine bV 22 rfl rfl (bo rfl) (BN (bu (an (aa (aM rfl (aU rfl (aV rfl rfl (by omega)) (aA rfl (aNn ?_))))))))
   refine ⟨[0,3,4,5,6],[2,1,0],[0],rfl,?_⟩
   refine ⟨j+1,⟨hj',?_⟩,by omega⟩
   rw [hen,zQ,← List.append_assoc]
   rfl
  ·skip
   have hje:j=x.pieces.l.length:=by simp at h2;omega
   subst hje
   rw [List.take_length]
   refine aR (aS (aS (aY (an (aa (aM rfl (UO 4 rfl rfl (UL 0 tk3 rfl rfl rfl rfl (LT rfl (WL (zs:=[.int .i64 0]) el25 rfl rfl rfl (.more rfl (.v rfl .nil) .nil) rfl rfl (fun v11_3=>(aHN ?_))))))))))))
   refine eG 1 rfl ?_
   refine LT rfl (EC [3] [] rfl (b8 ⟨v11_3,1,[x.code]⟩ (fun z hz=>by rw [List.mem_singleton.1 hz];exact hw.2) (by show (aj.enc x.code++[]).length≤_;rw [List.append_nil];omega)) ?_)
   rintro _ _ _ ⟨rfl,rfl,rfl⟩
   refine aST ?_
   refine aU rfl (fQ rfl rfl (by show ((((((S++ak.enc x.obj)++ak.enc x.sec)++ak.enc x.from_)++aQ x.pieces.l.length)++aO eP x.pieces.l)).length+(aj.enc x.code++[]).length≤_;simp only [List.length_append,List.length_nil];omega)) ?_
   refine aA rfl (bP (bu (an (aa (aM rfl (aU rfl (aV rfl rfl (by omega)) (aA rfl (aNn ?_))))))))
   refine ⟨[0,3,4],[1,0],[],rfl,?_⟩
   refine ⟨k+1,⟨hk',?_⟩,by omega⟩
   rw [hst]
   show _=(⟨[_,(3,true,.string (bytesOf ((((((S++ak.enc x.obj)++ak.enc x.sec)++ak.enc x.from_)++aQ x.pieces.l.length)++aO eP x.pieces.l)++aj.enc x.code))),_],_,_⟩:Sta)
   rw [← List.append_nil (aj.enc x.code)]
   rfl
 ·skip
  have hke:k=l.l.length:=by simp at h1;omega
  subst hke
  refine aR (aS (aS (aY (an (aSR (aM rfl (aA rfl (aNn (az (FZ1 [] Tryz.results44 rfl ?_))))))))))
  exact ⟨rfl,rfl,by rw [List.take_length]⟩
end Go.Proofs.YtebnelfdimiifaaGreatDoor

namespace Go.Sy
open Go.RowKit Go.Lp Go.Lv
theorem bF{P:Program}{n:Fr}{d:Option Tmp}{ty:TypeId}{pos:String}{af:Array Edge}{gd:Option (Nat × Bool)}{s:Sta}{x y:Operand}{t t':TypeId}{a b:List UInt8}(hx:ev s.env x=some (true,.string (bytesOf a)))(hy:ev s.env y=some (true,.string (bytesOf b)))(h:(a++b).length≤1000000000):Quiet P n ⟨d,.binOp .add t x y t',ty,pos,af,gd⟩ s (.string (bytesOf (a++b))):=fQ hx hy (by rw [List.length_append] at h;exact h)
theorem kj{α:Type}{e:α→List UInt8}{S:List UInt8}{l:List α}{N:Nat}(k:Nat)(h:(S++aO e l).length≤N):(S++aO e (l.take k)).length≤N:=by
 rw [List.length_append] at h ⊢;have:=iz (e:=e) l k;omega
end Go.Sy
namespace Go.Proofs.YtebnelfdimiifaaGreatDoor
open Go.RowKit Go.Lp Go.Sy Go.Lv
open Go.Proofs.Tryz
attribute [local irreducible] aL aB awp aC fwp Quiet
theorem wm (x:cC) (hW:lP x) (hl:(ft.enc (eV x)).length≤1000000000):Con Tryz.prog 43 [x.val] [x.ok] [] fun r ps hp=>ps=[]∧hp=[]∧r=.string (bytesOf (ft.enc (eV x))):=by
 obtain ⟨i_marks,i_lines,i_ends,i_inlines,i_vars,i_depths⟩:=hW
 have he:ft.enc (eV x)=(aQ x.marks.l.length++aO iR x.marks.l)++((aQ x.lines.l.length++aO iQ x.lines.l)++((aQ x.ends.l.length++aO jE x.ends.l)++((aQ x.inlines.l.length++aO fM x.inlines.l)++((aQ x.vars.l.length++aO pQ x.vars.l)++((aQ x.depths.l.length++aO jq x.depths.l)))))):=by
   rw [← ct gq gy x.marks.l,← ct gp gw x.lines.l,← ct gX gJ x.ends.l,← ct eh eN x.inlines.l,← ct jZ ji x.vars.l,← ct fD fP x.depths.l];rfl
 obtain ⟨S0,s0⟩:∃ S,S=aQ x.marks.l.length:=⟨_,rfl⟩
 obtain ⟨T0,t0⟩:∃ S,S=S0++aO iR x.marks.l:=⟨_,rfl⟩
 obtain ⟨S1,s1⟩:∃ S,S=T0++aQ x.lines.l.length:=⟨_,rfl⟩
 obtain ⟨T1,t1⟩:∃ S,S=S1++aO iQ x.lines.l:=⟨_,rfl⟩
 obtain ⟨S2,s2⟩:∃ S,S=T1++aQ x.ends.l.length:=⟨_,rfl⟩
 obtain ⟨T2,t2⟩:∃ S,S=S2++aO jE x.ends.l:=⟨_,rfl⟩
 obtain ⟨S3,s3⟩:∃ S,S=T2++aQ x.inlines.l.length:=⟨_,rfl⟩
 obtain ⟨T3,t3⟩:∃ S,S=S3++aO fM x.inlines.l:=⟨_,rfl⟩
 obtain ⟨S4,s4⟩:∃ S,S=T3++aQ x.vars.l.length:=⟨_,rfl⟩
 obtain ⟨T4,t4⟩:∃ S,S=S4++aO pQ x.vars.l:=⟨_,rfl⟩
 obtain ⟨S5,s5⟩:∃ S,S=T4++aQ x.depths.l.length:=⟨_,rfl⟩
 obtain ⟨T5,t5⟩:∃ S,S=S5++aO jq x.depths.l:=⟨_,rfl⟩
 have hT:ft.enc (eV x)=T5:=by rw [he,t5,s5,t4,s4,t3,s3,t2,s2,t1,s1,t0,s0];simp only [List.append_assoc]
 rw [hT] at hl ⊢
 have b5:=hl
 rw [t5] at b5
 have c5:=(ah b5).1
 rw [s5] at c5
 have b4:=(ah c5).1
 rw [t4] at b4
 have c4:=(ah b4).1
 rw [s4] at c4
 have b3:=(ah c4).1
 rw [t3] at b3
 have c3:=(ah b3).1
 rw [s3] at c3
 have b2:=(ah c3).1
 rw [t2] at b2
 have c2:=(ah b2).1
 rw [s2] at c2
 have b1:=(ah c2).1
 rw [t1] at b1
 have c1:=(ah b1).1
 rw [s1] at c1
 have b0:=(ah c1).1
 rw [t0] at b0
 have c0:=(ah b0).1
 rw [s0] at c0
 refine EN1 Tryz.func43 rfl (aZ _ (cC.f_marks (.of (aH 0 rfl))) (aZ _ (cC.f_lines (.of (aH 1 rfl))) (aZ _ (cC.f_ends (.of (aH 2 rfl))) (aZ _ (cC.f_inlines (.of (aH 3 rfl))) (aZ _ (cC.f_vars (.of (aH 4 rfl))) (aZ _ (cC.f_depths (.of (aH 5 rfl))) (bS (.of (aH 5 rfl)) (fun hl_marks=>(bS (.of (aH 4 rfl)) (fun hl_lines=>(bS (.of (aH 3 rfl)) (fun hl_ends=>(bS (.of (aH 2 rfl)) (fun hl_inlines => ?_))))))))))))))
 refine bS (.of (aH 1 rfl)) (fun hl_vars=>(bS (.of (aH 0 rfl)) (fun hl_depths => ?_)))
 show awp _ _ _ _ ⟨_,[_,_,_,_,_,_,x.ok],_⟩
 refine aSR (LT rfl (cx rfl rfl rfl (fun b0_0=>(aHN ?_))))
 refine aA rfl (aNn (aSR (UO 0 rfl rfl (UL 0 tk29 rfl rfl rfl rfl (aU rfl (aX Tryz.underlying29 rfl) (aU rfl (Q0 rfl (cT x.marks.l.length hl_marks)) (aA rfl (aNs (aSR (aA rfl (aNn (aq ?_))))))))))))
 rw [← s0]
 refine aP [1,3,4] [6,5,4,3,2,1,0] [0] (fun (k:Nat) st=>k≤x.marks.l.length∧st=⟨[(1,true,.pointer (some ⟨b0_0,0,none⟩)),(3,true,.string (bytesOf (S0++aO iR (x.marks.l.take k)))),(4,true,.int .i64 k)],[ShF cG.row x.depths,ShF eE.row x.vars,ShF ca.row x.inlines,ShF bK.row x.ends,ShF dH.row x.lines,ShF dI.row x.marks,x.ok],[Box b0_0 36 x.vs]⟩) (fun k=>x.marks.l.length-k) rfl (⟨0,Nat.zero_le _,by rw [List.take_zero];show _=(⟨[_,(3,true,.string (bytesOf (S0++[]))),_],_,_⟩:Sta);rw [List.append_nil];rfl⟩) ?_
 rintro k st ⟨hk,rfl⟩
 refine ai (aSR (aM rfl (UO 0 rfl rfl (UL 0 tk29 rfl rfl rfl rfl (aU rfl (aX Tryz.underlying29 rfl) (aU rfl (bC rfl rfl) (aNn ?_)))))))
 refine ao _ rfl (fun h1 => ?_) (fun h1 => ?_)
 ·skip
  have hk':k<x.marks.l.length:=by simpa using h1
  obtain ⟨y,hx⟩:∃ y,x.marks.l[k]? = some y:=⟨_,List.getElem?_eq_getElem hk'⟩
  obtain ⟨w0,w1,w2⟩:=i_marks y (List.mem_of_getElem? hx)
  have hst:S0++aO iR (x.marks.l.take (k+1))=(((S0++aO iR (x.marks.l.take k))++ak.enc y.name)++aO aj.enc [y.kind,y.at_,y.size]):=by rw [eH hx];simp only [aO,List.map_cons,List.map_nil,List.flatten_cons,List.flatten_nil,List.append_nil,List.append_assoc];rfl
  have d2:=kj (k+1) b0
  rw [hst] at d2
  have d1:=(ah d2).1
  refine ax (an (ai (aq (DR [] 31 (VM 0 rfl rfl (VO 1 0 rfl rfl rfl (VL 2 0 tk29 rfl rfl rfl rfl rfl (VM 3 rfl rfl (XI 4 Tryz.underlying29 tk176 5 rfl rfl rfl rfl rfl rfl (aI hx) rfl rfl (fun ⟨b5_4,o5_4⟩=>(VO 5 0 rfl rfl rfl (VT 6 0 tk9 0 rfl rfl rfl rfl rfl rfl (bV 7 rfl rfl (Q0 rfl (b9 y.name (dh (ah d1).2))) (bV 8 rfl rfl (bF rfl rfl d1) (VO 9 0 rfl rfl rfl ?_)))))))))))))))
  refine VL 10 0 tk29 rfl rfl rfl rfl rfl (VM 11 rfl rfl (XI 12 Tryz.underlying29 tk176 6 rfl rfl rfl rfl rfl rfl (aI hx) rfl rfl (fun ⟨b5_12,o5_12⟩=>(VO 13 1 rfl rfl rfl (VT 14 1 tk3 0 rfl rfl rfl rfl rfl rfl (VO 15 0 rfl rfl rfl (VL 16 0 tk29 rfl rfl rfl rfl rfl (VM 17 rfl rfl (XI 18 Tryz.underlying29 tk176 7 rfl rfl rfl rfl rfl rfl (aI hx) rfl rfl (fun ⟨b5_18,o5_18⟩=>(VO 19 2 rfl rfl rfl (VT 20 2 tk3 0 rfl rfl rfl rfl rfl rfl (VO 21 0 rfl rfl rfl (VL 22 0 tk29 rfl rfl rfl rfl rfl (VM 23 rfl rfl ?_)))))))))))))))
  refine XI 24 Tryz.underlying29 tk176 8 rfl rfl rfl rfl rfl rfl (aI hx) rfl rfl (fun ⟨b5_24,o5_24⟩=>(VO 25 3 rfl rfl rfl (VT 26 3 tk3 0 rfl rfl rfl rfl rfl rfl (VB (zs:=[.int .i64 0]) 27 rfl el25 rfl rfl rfl rfl (.more rfl (.v rfl .nil) (.more rfl (.v rfl .nil) (.more rfl (.v rfl .nil) .nil))) rfl rfl (fun v5_27 => ?_)))))
  refine bV 28 rfl rfl (Q1 rfl ((b8 ⟨v5_27,3,[y.kind,y.at_,y.size]⟩ (by intro y hy;simp only [List.mem_cons,List.not_mem_nil,or_false] at hy;rcases hy with rfl | rfl | rfl<;>assumption) ((ah d2).2)).post (fun _ _ _ h=>h.2.2)) 0 rfl) ?_
  refine bV 29 rfl rfl (bF rfl rfl d2) (bV 30 rfl rfl (bo rfl) (BN (bu (an (aa (aM rfl (aU rfl (aV rfl rfl (by omega)) (aA rfl (aNn ?_)))))))))
  refine ⟨[1,3,4],[6,5,4,3,2,1,0],[0],rfl,?_⟩
  refine ⟨k+1,⟨hk',?_⟩,by omega⟩
  rw [hst]
  rfl
 ·skip
  have hke:k=x.marks.l.length:=by simp at h1;omega
  subst hke
  rw [List.take_length,← t0]
  refine aR (aS (aS (aY (an (aSR (aM rfl (UO 1 rfl rfl (UL 0 tk30 rfl rfl rfl rfl (aU rfl (aX Tryz.underlying30 rfl) (aU rfl (Q0 rfl (cT x.lines.l.length hl_lines)) ?_))))))))))
  refine aU rfl (bF rfl rfl c1) (aA rfl (aNs (aSR (aA rfl (aNn (aq ?_))))))
  rw [← s1]
  refine aP [1,3,5] [6,5,4,3,2,1,0] [0] (fun (k:Nat) st=>k≤x.lines.l.length∧st=⟨[(1,true,.pointer (some ⟨b0_0,0,none⟩)),(3,true,.string (bytesOf (S1++aO iQ (x.lines.l.take k)))),(5,true,.int .i64 k)],[ShF cG.row x.depths,ShF eE.row x.vars,ShF ca.row x.inlines,ShF bK.row x.ends,ShF dH.row x.lines,ShF dI.row x.marks,x.ok],[Box b0_0 36 x.vs]⟩) (fun k=>x.lines.l.length-k) rfl (⟨0,Nat.zero_le _,by rw [List.take_zero];show _=(⟨[_,(3,true,.string (bytesOf (S1++[]))),_],_,_⟩:Sta);rw [List.append_nil];rfl⟩) ?_
  rintro k st ⟨hk,rfl⟩
  refine ai (aSR (aM rfl (UO 1 rfl rfl (UL 0 tk30 rfl rfl rfl rfl (aU rfl (aX Tryz.underlying30 rfl) (aU rfl (bC rfl rfl) (aNn ?_)))))))
  refine ao _ rfl (fun h2 => ?_) (fun h2 => ?_)
  ·skip
   have hk':k<x.lines.l.length:=by simpa using h2
   obtain ⟨y,hx⟩:∃ y,x.lines.l[k]? = some y:=⟨_,List.getElem?_eq_getElem hk'⟩
   obtain ⟨w0,w1,w2⟩:=i_lines y (List.mem_of_getElem? hx)
   have hst:S1++aO iQ (x.lines.l.take (k+1))=((((S1++aO iQ (x.lines.l.take k))++aO aj.enc [y.sec,y.at_])++ak.enc y.file)++aO aj.enc [y.line]):=by rw [eH hx];simp only [aO,List.map_cons,List.map_nil,List.flatten_cons,List.flatten_nil,List.append_nil,List.append_assoc];rfl
   have d3:=kj (k+1) b1
   rw [hst] at d3
   have d2:=(ah d3).1
   have d1:=(ah d2).1
   refine ax (an (ai (aq (DC [] [] [] 34 ?_))))
   refine mL (X:=Unit) (fun _=>⟨[(1,true,.pointer (some ⟨b0_0,0,none⟩)),(3,true,.string (bytesOf ((((S1++aO iQ (x.lines.l.take k))++aO aj.enc [y.sec,y.at_])++ak.enc y.file)++aO aj.enc [y.line]))),(5,true,.int .i64 k)],[ShF cG.row x.depths,ShF eE.row x.vars,ShF ca.row x.inlines,ShF bK.row x.ends,ShF dH.row x.lines,ShF dI.row x.marks,x.ok],[Box b0_0 36 x.vs]⟩) ?_ ?_
   ·skip
    refine CF 0 rfl rfl rfl (aT rfl) (CF 1 rfl rfl rfl (qFA (off:=1) rfl) (CQ 2 rfl rfl rfl (bj 0 tk30 rfl rfl rfl) (CF 3 rfl rfl rfl (aT rfl) (vk 4 rfl (by kernel_rfl) rfl rfl (eX Tryz.underlying30 tk180 rfl ((.of (aH 4 rfl))) rfl (aI hx) rfl rfl) (fun ⟨b10_4,o10_4⟩=>(CF 5 rfl rfl rfl (qFA (off:=0) rfl) (CF 6 rfl rfl rfl (bk (o:=0) tk3 rfl (.of (aH 0 rfl)) rfl) (CF 7 rfl rfl rfl (qFA (off:=1) rfl) (CQ 8 rfl rfl rfl (bj 0 tk30 rfl rfl rfl) (CF 9 rfl rfl rfl (aT rfl) (vk 10 rfl (by kernel_rfl) rfl rfl (eX Tryz.underlying30 tk180 rfl ((.of (aH 5 rfl))) rfl (aI hx) rfl rfl) (fun ⟨b10_10,o10_10⟩=>(CF 11 rfl rfl rfl (qFA (off:=1) rfl) (CF 12 rfl rfl rfl (bk (o:=1) tk3 rfl (.of (aH 0 rfl)) rfl) (CF 16 rfl rfl rfl (qFA (off:=1) rfl) ?_)))))))))))))))
    refine CQ 17 rfl rfl rfl (bj 0 tk30 rfl rfl rfl) (CF 18 rfl rfl rfl (aT rfl) (vk 19 rfl (by kernel_rfl) rfl rfl (eX Tryz.underlying30 tk180 rfl ((.of (aH 6 rfl))) rfl (aI hx) rfl rfl) (fun ⟨b10_19,o10_19⟩=>(CF 20 rfl rfl rfl (qFA (off:=2) rfl) (CF 21 rfl rfl rfl (bk (o:=2) tk9 rfl (.of (aH 0 rfl)) rfl) (CF 24 rfl rfl rfl (qFA (off:=1) rfl) (CQ 25 rfl rfl rfl (bj 0 tk30 rfl rfl rfl) (CF 26 rfl rfl rfl (aT rfl) (vk 27 rfl (by kernel_rfl) rfl rfl (eX Tryz.underlying30 tk180 rfl ((.of (aH 7 rfl))) rfl (aI hx) rfl rfl) (fun ⟨b10_27,o10_27⟩=>(CF 28 rfl rfl rfl (qFA (off:=3) rfl) (CF 29 rfl rfl rfl (bk (o:=3) tk3 rfl (.of (aH 0 rfl)) rfl) ?_))))))))))))
    refine dg 13 [30] (by kernel_rfl) (cj ?_ (cj ?_ cM))
    ·skip
     refine dA 13 rfl rfl (Eff.x (id (WL (zs:=[.int .i64 0]) el25 rfl rfl rfl (.more rfl (.v rfl .nil) (.more rfl (.v rfl .nil) .nil)) rfl rfl (fun v10_13=>(CST ?_)))))
     refine ea 1 rfl (CST ?_)
     refine CF 14 rfl rfl rfl (Q1 rfl ((b8 ⟨v10_13,2,[y.sec,y.at_]⟩ (by intro y hy;simp only [List.mem_cons,List.not_mem_nil,or_false] at hy;rcases hy with rfl | rfl<;>assumption) ((ah d1).2)).post (fun _ _ _ h=>h.2.2)) 0 rfl) ?_
     refine CF 15 rfl rfl rfl (bF rfl rfl d1) (CF 22 rfl rfl rfl (Q0 rfl (b9 y.file (dh (ah d2).2))) (CF 23 rfl rfl rfl (bF rfl rfl d2) ?_))
     refine dg 30 [] (by kernel_rfl) (cj ?_ cM)
     refine dA 30 rfl rfl (Eff.x (id (WL (zs:=[.int .i64 0]) el25 rfl rfl rfl (.more rfl (.v rfl .nil) .nil) rfl rfl (fun v10_30=>(CST ?_)))))
     refine ea 2 rfl (CST ?_)
     refine CF 31 rfl rfl rfl (Q1 rfl ((b8 ⟨v10_30,1,[y.line]⟩ (by intro y hy;simp only [List.mem_cons,List.not_mem_nil,or_false] at hy;rw [hy];assumption) ((ah d3).2)).post (fun _ _ _ h=>h.2.2)) 0 rfl) ?_
     refine CF 32 rfl rfl rfl (bF rfl rfl d3) (CF 33 rfl rfl rfl (bo rfl) (gb (by kernel_rfl) ?_))
     exact ⟨rfl,[1,3,5],[6,5,4,3,2,1,0],[0],(),rfl,rfl⟩
    ·skip
     refine dA 30 rfl rfl (Eff.x (id (WL (zs:=[.int .i64 0]) el25 rfl rfl rfl (.more rfl (.v rfl .nil) .nil) rfl rfl (fun v10_30=>(CST ?_)))))
     refine dg 13 [] (by kernel_rfl) (cj ?_ cM)
     refine dA 13 rfl rfl (Eff.x (id (WL (zs:=[.int .i64 0]) el25 rfl rfl rfl (.more rfl (.v rfl .nil) (.more rfl (.v rfl .nil) .nil)) rfl rfl (fun v10_13=>(CST ?_)))))
     refine ea 2 rfl (CST ?_)
     refine CF 14 rfl rfl rfl (Q1 rfl ((b8 ⟨v10_13,2,[y.sec,y.at_]⟩ (by intro y hy;simp only [List.mem_cons,List.not_mem_nil,or_false] at hy;rcases hy with rfl | rfl<;>assumption) ((ah d1).2)).post (fun _ _ _ h=>h.2.2)) 0 rfl) ?_
     refine CF 15 rfl rfl rfl (bF rfl rfl d1) (CF 22 rfl rfl rfl (Q0 rfl (b9 y.file (dh (ah d2).2))) (CF 23 rfl rfl rfl (bF rfl rfl d2) (ea 1 rfl (CST ?_))))
     refine CF 31 rfl rfl rfl (Q1 rfl ((b8 ⟨v10_30,1,[y.line]⟩ (by intro y hy;simp only [List.mem_cons,List.not_mem_nil,or_false] at hy;rw [hy];assumption) ((ah d3).2)).post (fun _ _ _ h=>h.2.2)) 0 rfl) ?_
     refine CF 32 rfl rfl rfl (bF rfl rfl d3) (CF 33 rfl rfl rfl (bo rfl) (gb (by kernel_rfl) ?_))
     exact ⟨rfl,[1,3,5],[6,5,4,3,2,1,0],[0],(),rfl,rfl⟩
   ·skip
    rintro ⟨⟩
    refine bu (an (aa (aM rfl (aU rfl (aV rfl rfl (by omega)) (aA rfl (aNn ?_))))))
    refine ⟨[1,3,5],[6,5,4,3,2,1,0],[0],rfl,?_⟩
    refine ⟨k+1,⟨hk',?_⟩,by omega⟩
    rw [hst]
    rfl
  ·skip
   have hke:k=x.lines.l.length:=by simp at h2;omega
   subst hke
   rw [List.take_length,← t1]
   refine aR (aS (aS (aY (an (aSR (aM rfl (UO 2 rfl rfl (UL 0 tk31 rfl rfl rfl rfl (aU rfl (aX Tryz.underlying31 rfl) (aU rfl (Q0 rfl (cT x.ends.l.length hl_ends)) ?_))))))))))
   refine aU rfl (bF rfl rfl c2) (aA rfl (aNs (aSR (aA rfl (aNn (aq ?_))))))
   rw [← s2]
   refine aP [1,3,6] [6,5,4,3,2,1,0] [0] (fun (k:Nat) st=>k≤x.ends.l.length∧st=⟨[(1,true,.pointer (some ⟨b0_0,0,none⟩)),(3,true,.string (bytesOf (S2++aO jE (x.ends.l.take k)))),(6,true,.int .i64 k)],[ShF cG.row x.depths,ShF eE.row x.vars,ShF ca.row x.inlines,ShF bK.row x.ends,ShF dH.row x.lines,ShF dI.row x.marks,x.ok],[Box b0_0 36 x.vs]⟩) (fun k=>x.ends.l.length-k) rfl (⟨0,Nat.zero_le _,by rw [List.take_zero];show _=(⟨[_,(3,true,.string (bytesOf (S2++[]))),_],_,_⟩:Sta);rw [List.append_nil];rfl⟩) ?_
   rintro k st ⟨hk,rfl⟩
   refine ai (aSR (aM rfl (UO 2 rfl rfl (UL 0 tk31 rfl rfl rfl rfl (aU rfl (aX Tryz.underlying31 rfl) (aU rfl (bC rfl rfl) (aNn ?_)))))))
   refine ao _ rfl (fun h3 => ?_) (fun h3 => ?_)
   ·skip
    have hk':k<x.ends.l.length:=by simpa using h3
    obtain ⟨y,hx⟩:∃ y,x.ends.l[k]? = some y:=⟨_,List.getElem?_eq_getElem hk'⟩
    obtain ⟨w0,w1⟩:=i_ends y (List.mem_of_getElem? hx)
    have hst:S2++aO jE (x.ends.l.take (k+1))=((S2++aO jE (x.ends.l.take k))++aO aj.enc [y.at_,y.size]):=by rw [eH hx];simp only [aO,List.map_cons,List.map_nil,List.flatten_cons,List.flatten_nil,List.append_nil,List.append_assoc];rfl
    have d1:=kj (k+1) b2
    rw [hst] at d1
    refine ax (an (ai (aq (DR [] 17 (VM 0 rfl rfl (VO 1 2 rfl rfl rfl (VL 2 0 tk31 rfl rfl rfl rfl rfl (VM 3 rfl rfl (XI 4 Tryz.underlying31 tk159 3 rfl rfl rfl rfl rfl rfl (aI hx) rfl rfl (fun ⟨b15_4,o15_4⟩=>(VO 5 0 rfl rfl rfl (VT 6 0 tk3 0 rfl rfl rfl rfl rfl rfl (VO 7 2 rfl rfl rfl (VL 8 0 tk31 rfl rfl rfl rfl rfl (VM 9 rfl rfl ?_)))))))))))))))
    refine XI 10 Tryz.underlying31 tk159 4 rfl rfl rfl rfl rfl rfl (aI hx) rfl rfl (fun ⟨b15_10,o15_10⟩=>(VO 11 1 rfl rfl rfl (VT 12 1 tk3 0 rfl rfl rfl rfl rfl rfl (VB (zs:=[.int .i64 0]) 13 rfl el25 rfl rfl rfl rfl (.more rfl (.v rfl .nil) (.more rfl (.v rfl .nil) .nil)) rfl rfl (fun v15_13 => ?_)))))
    refine bV 14 rfl rfl (Q1 rfl ((b8 ⟨v15_13,2,[y.at_,y.size]⟩ (by intro y hy;simp only [List.mem_cons,List.not_mem_nil,or_false] at hy;rcases hy with rfl | rfl<;>assumption) ((ah d1).2)).post (fun _ _ _ h=>h.2.2)) 0 rfl) ?_
    refine bV 15 rfl rfl (bF rfl rfl d1) (bV 16 rfl rfl (bo rfl) (BN (bu (an (aa (aM rfl (aU rfl (aV rfl rfl (by omega)) (aA rfl (aNn ?_)))))))))
    refine ⟨[1,3,6],[6,5,4,3,2,1,0],[0],rfl,?_⟩
    refine ⟨k+1,⟨hk',?_⟩,by omega⟩
    rw [hst]
    rfl
   ·skip
    have hke:k=x.ends.l.length:=by simp at h3;omega
    subst hke
    rw [List.take_length,← t2]
    refine aR (aS (aS (aY (an (aSR (aM rfl (UO 3 rfl rfl (UL 0 tk32 rfl rfl rfl rfl (aU rfl (aX Tryz.underlying32 rfl) (aU rfl (Q0 rfl (cT x.inlines.l.length hl_inlines)) ?_))))))))))
    refine aU rfl (bF rfl rfl c3) (aA rfl (aNs (aSR (aA rfl (aNn (aq ?_))))))
    rw [← s3]
    refine aP [1,3,7] [6,5,4,3,2,1,0] [0] (fun (k:Nat) st=>k≤x.inlines.l.length∧st=⟨[(1,true,.pointer (some ⟨b0_0,0,none⟩)),(3,true,.string (bytesOf (S3++aO fM (x.inlines.l.take k)))),(7,true,.int .i64 k)],[ShF cG.row x.depths,ShF eE.row x.vars,ShF ca.row x.inlines,ShF bK.row x.ends,ShF dH.row x.lines,ShF dI.row x.marks,x.ok],[Box b0_0 36 x.vs]⟩) (fun k=>x.inlines.l.length-k) rfl (⟨0,Nat.zero_le _,by rw [List.take_zero];show _=(⟨[_,(3,true,.string (bytesOf (S3++[]))),_],_,_⟩:Sta);rw [List.append_nil];rfl⟩) ?_
    rintro k st ⟨hk,rfl⟩
    refine ai (aSR (aM rfl (UO 3 rfl rfl (UL 0 tk32 rfl rfl rfl rfl (aU rfl (aX Tryz.underlying32 rfl) (aU rfl (bC rfl rfl) (aNn ?_)))))))
    refine ao _ rfl (fun h4 => ?_) (fun h4 => ?_)
    ·skip
     have hk':k<x.inlines.l.length:=by simpa using h4
     obtain ⟨y,hx⟩:∃ y,x.inlines.l[k]? = some y:=⟨_,List.getElem?_eq_getElem hk'⟩
     obtain ⟨w0,w1,w2,w3⟩:=i_inlines y (List.mem_of_getElem? hx)
     have hst:S3++aO fM (x.inlines.l.take (k+1))=(((((S3++aO fM (x.inlines.l.take k))++aO aj.enc [y.sec,y.from_,y.to_])++ak.enc y.name)++ak.enc y.file)++aO aj.enc [y.line]):=by rw [eH hx];simp only [aO,List.map_cons,List.map_nil,List.flatten_cons,List.flatten_nil,List.append_nil,List.append_assoc];rfl
     have d4:=kj (k+1) b3
     rw [hst] at d4
     have d3:=(ah d4).1
     have d2:=(ah d3).1
     have d1:=(ah d2).1
     refine ax (an (ai (aq (aSR (UO 3 rfl rfl (UL 0 tk32 rfl rfl rfl rfl (aM rfl (UI Tryz.underlying32 tk186 2 rfl rfl rfl rfl rfl (aI hx) rfl rfl (fun ⟨b20_3,o20_3⟩=>(US 0 tk186 0 rfl rfl rfl rfl rfl (LT rfl (bJ (zs:=[.int .i64 0,.int .i64 0,.int .i64 0,.string .empty,.string .empty,.int .i64 0]) (by kernel_rfl) rfl (fun b20_5=>(aHN ?_))))))))))))))
     refine aW rfl (ba 1 tk186 rfl rfl rfl rfl (aHK ?_))
     refine aNn (DC [] [] [] 24 ?_)
     refine mL (X:=Unit) (fun _=>⟨[(1,true,.pointer (some ⟨b0_0,0,none⟩)),(3,true,.string (bytesOf (((((S3++aO fM (x.inlines.l.take k))++aO aj.enc [y.sec,y.from_,y.to_])++ak.enc y.name)++ak.enc y.file)++aO aj.enc [y.line]))),(7,true,.int .i64 k)],[ShF cG.row x.depths,ShF eE.row x.vars,ShF ca.row x.inlines,ShF bK.row x.ends,ShF dH.row x.lines,ShF dI.row x.marks,x.ok],[Box b0_0 36 x.vs]⟩) ?_ ?_
     ·skip
      refine CF 0 rfl rfl rfl (aT rfl) (CF 1 rfl rfl rfl (qFA (off:=0) rfl) (CQ 2 rfl rfl rfl (bj 1 tk3 rfl rfl rfl) (CF 3 rfl rfl rfl (qFA (off:=1) rfl) (CQ 4 rfl rfl rfl (bj 1 tk3 rfl rfl rfl) (CF 5 rfl rfl rfl (qFA (off:=2) rfl) (CQ 6 rfl rfl rfl (bj 1 tk3 rfl rfl rfl) (CF 10 rfl rfl rfl (qFA (off:=3) rfl) (CQ 11 rfl rfl rfl (bj 1 tk9 rfl rfl rfl) (CF 14 rfl rfl rfl (qFA (off:=4) rfl) (CQ 15 rfl rfl rfl (bj 1 tk9 rfl rfl rfl) (CF 18 rfl rfl rfl (qFA (off:=5) rfl) (CQ 19 rfl rfl rfl (bj 1 tk3 rfl rfl rfl) ?_))))))))))))
      refine dg 7 [20] (by kernel_rfl) (cj ?_ (cj ?_ cM))
      ·skip
       refine dA 7 rfl rfl (Eff.x (id (WL (zs:=[.int .i64 0]) el25 rfl rfl rfl (.more rfl (.v rfl .nil) (.more rfl (.v rfl .nil) (.more rfl (.v rfl .nil) .nil))) rfl rfl (fun v21_7=>(CST ?_)))))
       refine ea 2 rfl (CST ?_)
       refine CF 8 rfl rfl rfl (Q1 rfl ((b8 ⟨v21_7,3,[y.sec,y.from_,y.to_]⟩ (by intro y hy;simp only [List.mem_cons,List.not_mem_nil,or_false] at hy;rcases hy with rfl | rfl | rfl<;>assumption) ((ah d1).2)).post (fun _ _ _ h=>h.2.2)) 0 rfl) ?_
       refine CF 9 rfl rfl rfl (bF rfl rfl d1) (CF 12 rfl rfl rfl (Q0 rfl (b9 y.name (dh (ah d2).2))) (CF 13 rfl rfl rfl (bF rfl rfl d2) (CF 16 rfl rfl rfl (Q0 rfl (b9 y.file (dh (ah d3).2))) (CF 17 rfl rfl rfl (bF rfl rfl d3) ?_))))
       refine dg 20 [] (by kernel_rfl) (cj ?_ cM)
       refine dA 20 rfl rfl (Eff.x (id (WL (zs:=[.int .i64 0]) el25 rfl rfl rfl (.more rfl (.v rfl .nil) .nil) rfl rfl (fun v21_20=>(CST ?_)))))
       refine ea 3 rfl (CST ?_)
       refine CF 21 rfl rfl rfl (Q1 rfl ((b8 ⟨v21_20,1,[y.line]⟩ (by intro y hy;simp only [List.mem_cons,List.not_mem_nil,or_false] at hy;rw [hy];assumption) ((ah d4).2)).post (fun _ _ _ h=>h.2.2)) 0 rfl) ?_
       refine CF 22 rfl rfl rfl (bF rfl rfl d4) (CF 23 rfl rfl rfl (bo rfl) (gb (by kernel_rfl) ?_))
       exact ⟨rfl,[1,3,7],[6,5,4,3,2,1,0],[0],(),rfl,rfl⟩
      ·skip
       refine dA 20 rfl rfl (Eff.x (id (WL (zs:=[.int .i64 0]) el25 rfl rfl rfl (.more rfl (.v rfl .nil) .nil) rfl rfl (fun v21_20=>(CST ?_)))))
       refine dg 7 [] (by kernel_rfl) (cj ?_ cM)
       refine dA 7 rfl rfl (Eff.x (id (WL (zs:=[.int .i64 0]) el25 rfl rfl rfl (.more rfl (.v rfl .nil) (.more rfl (.v rfl .nil) (.more rfl (.v rfl .nil) .nil))) rfl rfl (fun v21_7=>(CST ?_)))))
       refine ea 3 rfl (CST ?_)
       refine CF 8 rfl rfl rfl (Q1 rfl ((b8 ⟨v21_7,3,[y.sec,y.from_,y.to_]⟩ (by intro y hy;simp only [List.mem_cons,List.not_mem_nil,or_false] at hy;rcases hy with rfl | rfl | rfl<;>assumption) ((ah d1).2)).post (fun _ _ _ h=>h.2.2)) 0 rfl) ?_
       refine CF 9 rfl rfl rfl (bF rfl rfl d1) (CF 12 rfl rfl rfl (Q0 rfl (b9 y.name (dh (ah d2).2))) (CF 13 rfl rfl rfl (bF rfl rfl d2) (CF 16 rfl rfl rfl (Q0 rfl (b9 y.file (dh (ah d3).2))) (CF 17 rfl rfl rfl (bF rfl rfl d3) (ea 2 rfl (CST ?_))))))
       refine CF 21 rfl rfl rfl (Q1 rfl ((b8 ⟨v21_20,1,[y.line]⟩ (by intro y hy;simp only [List.mem_cons,List.not_mem_nil,or_false] at hy;rw [hy];assumption) ((ah d4).2)).post (fun _ _ _ h=>h.2.2)) 0 rfl) ?_
       refine CF 22 rfl rfl rfl (bF rfl rfl d4) (CF 23 rfl rfl rfl (bo rfl) (gb (by kernel_rfl) ?_))
       exact ⟨rfl,[1,3,7],[6,5,4,3,2,1,0],[0],(),rfl,rfl⟩
     ·skip
      rintro ⟨⟩
      refine bu (an (aa (aM rfl (aU rfl (aV rfl rfl (by omega)) (aA rfl (aNn ?_))))))
      refine ⟨[1,3,7],[6,5,4,3,2,1,0],[0],rfl,?_⟩
      refine ⟨k+1,⟨hk',?_⟩,by omega⟩
      rw [hst]
      rfl
    ·skip
     have hke:k=x.inlines.l.length:=by simp at h4;omega
     subst hke
     rw [List.take_length,← t3]
     refine aR (aS (aS (aY (an (aSR (aM rfl (UO 4 rfl rfl (UL 0 tk33 rfl rfl rfl rfl (aU rfl (aX Tryz.underlying33 rfl) (aU rfl (Q0 rfl (cT x.vars.l.length hl_vars)) ?_))))))))))
     refine aU rfl (bF rfl rfl c4) (aA rfl (aNs (aSR (aA rfl (aNn (aq ?_))))))
     rw [← s4]
     refine aP [1,3,9] [6,5,4,3,2,1,0] [0] (fun (k:Nat) st=>k≤x.vars.l.length∧st=⟨[(1,true,.pointer (some ⟨b0_0,0,none⟩)),(3,true,.string (bytesOf (S4++aO pQ (x.vars.l.take k)))),(9,true,.int .i64 k)],[ShF cG.row x.depths,ShF eE.row x.vars,ShF ca.row x.inlines,ShF bK.row x.ends,ShF dH.row x.lines,ShF dI.row x.marks,x.ok],[Box b0_0 36 x.vs]⟩) (fun k=>x.vars.l.length-k) rfl (⟨0,Nat.zero_le _,by rw [List.take_zero];show _=(⟨[_,(3,true,.string (bytesOf (S4++[]))),_],_,_⟩:Sta);rw [List.append_nil];rfl⟩) ?_
     rintro k st ⟨hk,rfl⟩
     refine ai (aSR (aM rfl (UO 4 rfl rfl (UL 0 tk33 rfl rfl rfl rfl (aU rfl (aX Tryz.underlying33 rfl) (aU rfl (bC rfl rfl) (aNn ?_)))))))
     refine ao _ rfl (fun h5 => ?_) (fun h5 => ?_)
     ·skip
      have hk':k<x.vars.l.length:=by simpa using h5
      obtain ⟨y,hx⟩:∃ y,x.vars.l[k]? = some y:=⟨_,List.getElem?_eq_getElem hk'⟩
      obtain ⟨w0,w1,w2,w3,w4⟩:=i_vars y (List.mem_of_getElem? hx)
      have hst:S4++aO pQ (x.vars.l.take (k+1))=((((S4++aO pQ (x.vars.l.take k))++aO aj.enc [y.sec,y.from_,y.to_])++ak.enc y.name)++aO aj.enc [y.where_,y.n]):=by rw [eH hx];simp only [aO,List.map_cons,List.map_nil,List.flatten_cons,List.flatten_nil,List.append_nil,List.append_assoc];rfl
      have d3:=kj (k+1) b4
      rw [hst] at d3
      have d2:=(ah d3).1
      have d1:=(ah d2).1
      refine ax (an (ai (aq (aSR (UO 4 rfl rfl (UL 0 tk33 rfl rfl rfl rfl (aM rfl (UI Tryz.underlying33 tk192 1 rfl rfl rfl rfl rfl (aI hx) rfl rfl (fun ⟨b26_3,o26_3⟩=>(US 0 tk192 0 rfl rfl rfl rfl rfl (LT rfl (bJ (zs:=[.int .i64 0,.int .i64 0,.int .i64 0,.string .empty,.int .i64 0,.int .i64 0]) (by kernel_rfl) rfl (fun b26_5=>(aHN ?_))))))))))))))
      refine aW rfl (ba 1 tk192 rfl rfl rfl rfl (aHK ?_))
      refine aNn (DC [] [] [] 22 ?_)
      refine mL (X:=Unit) (fun _=>⟨[(1,true,.pointer (some ⟨b0_0,0,none⟩)),(3,true,.string (bytesOf ((((S4++aO pQ (x.vars.l.take k))++aO aj.enc [y.sec,y.from_,y.to_])++ak.enc y.name)++aO aj.enc [y.where_,y.n]))),(9,true,.int .i64 k)],[ShF cG.row x.depths,ShF eE.row x.vars,ShF ca.row x.inlines,ShF bK.row x.ends,ShF dH.row x.lines,ShF dI.row x.marks,x.ok],[Box b0_0 36 x.vs]⟩) ?_ ?_
      ·skip
       refine CF 0 rfl rfl rfl (aT rfl) (CF 1 rfl rfl rfl (qFA (off:=0) rfl) (CQ 2 rfl rfl rfl (bj 1 tk3 rfl rfl rfl) (CF 3 rfl rfl rfl (qFA (off:=1) rfl) (CQ 4 rfl rfl rfl (bj 1 tk3 rfl rfl rfl) (CF 5 rfl rfl rfl (qFA (off:=2) rfl) (CQ 6 rfl rfl rfl (bj 1 tk3 rfl rfl rfl) (CF 10 rfl rfl rfl (qFA (off:=3) rfl) (CQ 11 rfl rfl rfl (bj 1 tk9 rfl rfl rfl) (CF 14 rfl rfl rfl (qFA (off:=4) rfl) (CQ 15 rfl rfl rfl (bj 1 tk3 rfl rfl rfl) (CF 16 rfl rfl rfl (qFA (off:=5) rfl) (CQ 17 rfl rfl rfl (bj 1 tk3 rfl rfl rfl) ?_))))))))))))
       refine dg 7 [18] (by kernel_rfl) (cj ?_ (cj ?_ cM))
       ·skip
        refine dA 7 rfl rfl (Eff.x (id (WL (zs:=[.int .i64 0]) el25 rfl rfl rfl (.more rfl (.v rfl .nil) (.more rfl (.v rfl .nil) (.more rfl (.v rfl .nil) .nil))) rfl rfl (fun v27_7=>(CST ?_)))))
        refine ea 2 rfl (CST ?_)
        refine CF 8 rfl rfl rfl (Q1 rfl ((b8 ⟨v27_7,3,[y.sec,y.from_,y.to_]⟩ (by intro y hy;simp only [List.mem_cons,List.not_mem_nil,or_false] at hy;rcases hy with rfl | rfl | rfl<;>assumption) ((ah d1).2)).post (fun _ _ _ h=>h.2.2)) 0 rfl) ?_
        refine CF 9 rfl rfl rfl (bF rfl rfl d1) (CF 12 rfl rfl rfl (Q0 rfl (b9 y.name (dh (ah d2).2))) (CF 13 rfl rfl rfl (bF rfl rfl d2) ?_))
        refine dg 18 [] (by kernel_rfl) (cj ?_ cM)
        refine dA 18 rfl rfl (Eff.x (id (WL (zs:=[.int .i64 0]) el25 rfl rfl rfl (.more rfl (.v rfl .nil) (.more rfl (.v rfl .nil) .nil)) rfl rfl (fun v27_18=>(CST ?_)))))
        refine ea 3 rfl (CST ?_)
        refine CF 19 rfl rfl rfl (Q1 rfl ((b8 ⟨v27_18,2,[y.where_,y.n]⟩ (by intro y hy;simp only [List.mem_cons,List.not_mem_nil,or_false] at hy;rcases hy with rfl | rfl<;>assumption) ((ah d3).2)).post (fun _ _ _ h=>h.2.2)) 0 rfl) ?_
        refine CF 20 rfl rfl rfl (bF rfl rfl d3) (CF 21 rfl rfl rfl (bo rfl) (gb (by kernel_rfl) ?_))
        exact ⟨rfl,[1,3,9],[6,5,4,3,2,1,0],[0],(),rfl,rfl⟩
       ·skip
        refine dA 18 rfl rfl (Eff.x (id (WL (zs:=[.int .i64 0]) el25 rfl rfl rfl (.more rfl (.v rfl .nil) (.more rfl (.v rfl .nil) .nil)) rfl rfl (fun v27_18=>(CST ?_)))))
        refine dg 7 [] (by kernel_rfl) (cj ?_ cM)
        refine dA 7 rfl rfl (Eff.x (id (WL (zs:=[.int .i64 0]) el25 rfl rfl rfl (.more rfl (.v rfl .nil) (.more rfl (.v rfl .nil) (.more rfl (.v rfl .nil) .nil))) rfl rfl (fun v27_7=>(CST ?_)))))
        refine ea 3 rfl (CST ?_)
        refine CF 8 rfl rfl rfl (Q1 rfl ((b8 ⟨v27_7,3,[y.sec,y.from_,y.to_]⟩ (by intro y hy;simp only [List.mem_cons,List.not_mem_nil,or_false] at hy;rcases hy with rfl | rfl | rfl<;>assumption) ((ah d1).2)).post (fun _ _ _ h=>h.2.2)) 0 rfl) ?_
        refine CF 9 rfl rfl rfl (bF rfl rfl d1) (CF 12 rfl rfl rfl (Q0 rfl (b9 y.name (dh (ah d2).2))) (CF 13 rfl rfl rfl (bF rfl rfl d2) (ea 2 rfl (CST ?_))))
        refine CF 19 rfl rfl rfl (Q1 rfl ((b8 ⟨v27_18,2,[y.where_,y.n]⟩ (by intro y hy;simp only [List.mem_cons,List.not_mem_nil,or_false] at hy;rcases hy with rfl | rfl<;>assumption) ((ah d3).2)).post (fun _ _ _ h=>h.2.2)) 0 rfl) ?_
        refine CF 20 rfl rfl rfl (bF rfl rfl d3) (CF 21 rfl rfl rfl (bo rfl) (gb (by kernel_rfl) ?_))
        exact ⟨rfl,[1,3,9],[6,5,4,3,2,1,0],[0],(),rfl,rfl⟩
      ·skip
       rintro ⟨⟩
       refine bu (an (aa (aM rfl (aU rfl (aV rfl rfl (by omega)) (aA rfl (aNn ?_))))))
       refine ⟨[1,3,9],[6,5,4,3,2,1,0],[0],rfl,?_⟩
       refine ⟨k+1,⟨hk',?_⟩,by omega⟩
       rw [hst]
       rfl
     ·skip
      have hke:k=x.vars.l.length:=by simp at h5;omega
      subst hke
      rw [List.take_length,← t4]
      refine aR (aS (aS (aY (an (aSR (aM rfl (UO 5 rfl rfl (UL 0 tk34 rfl rfl rfl rfl (aU rfl (aX Tryz.underlying34 rfl) (aU rfl (Q0 rfl (cT x.depths.l.length hl_depths)) ?_))))))))))
      refine aU rfl (bF rfl rfl c5) (aA rfl (aNs (aSR (aA rfl (aNn (aq ?_))))))
      rw [← s5]
      refine aP [1,3,11] [6,5,4,3,2,1,0] [0] (fun (k:Nat) st=>k≤x.depths.l.length∧st=⟨[(1,true,.pointer (some ⟨b0_0,0,none⟩)),(3,true,.string (bytesOf (S5++aO jq (x.depths.l.take k)))),(11,true,.int .i64 k)],[ShF cG.row x.depths,ShF eE.row x.vars,ShF ca.row x.inlines,ShF bK.row x.ends,ShF dH.row x.lines,ShF dI.row x.marks,x.ok],[Box b0_0 36 x.vs]⟩) (fun k=>x.depths.l.length-k) rfl (⟨0,Nat.zero_le _,by rw [List.take_zero];show _=(⟨[_,(3,true,.string (bytesOf (S5++[]))),_],_,_⟩:Sta);rw [List.append_nil];rfl⟩) ?_
      rintro k st ⟨hk,rfl⟩
      refine ai (aSR (aM rfl (UO 5 rfl rfl (UL 0 tk34 rfl rfl rfl rfl (aU rfl (aX Tryz.underlying34 rfl) (aU rfl (bC rfl rfl) (aNn ?_)))))))
      refine ao _ rfl (fun h6 => ?_) (fun h6 => ?_)
      ·skip
       have hk':k<x.depths.l.length:=by simpa using h6
       obtain ⟨y,hx⟩:∃ y,x.depths.l[k]? = some y:=⟨_,List.getElem?_eq_getElem hk'⟩
       obtain ⟨w0,w1,w2,w3⟩:=i_depths y (List.mem_of_getElem? hx)
       have hst:S5++aO jq (x.depths.l.take (k+1))=((S5++aO jq (x.depths.l.take k))++aO aj.enc [y.sec,y.from_,y.to_,y.bytes]):=by rw [eH hx];simp only [aO,List.map_cons,List.map_nil,List.flatten_cons,List.flatten_nil,List.append_nil,List.append_assoc];rfl
       have d1:=kj (k+1) b5
       rw [hst] at d1
       refine ax (an (ai (aq (aSR (UO 5 rfl rfl (UL 0 tk34 rfl rfl rfl rfl (aM rfl (UI Tryz.underlying34 tk198 0 rfl rfl rfl rfl rfl (aI hx) rfl rfl (fun ⟨b32_3,o32_3⟩=>(US 0 tk198 0 rfl rfl rfl rfl rfl (LT rfl (bJ (zs:=[.int .i64 0,.int .i64 0,.int .i64 0,.int .i64 0]) (by kernel_rfl) rfl (fun b32_5=>(aHN ?_))))))))))))))
       refine aW rfl (ba 1 tk198 rfl rfl rfl rfl (aHK ?_))
       refine aNn (aa (aM rfl (UO 0 rfl rfl (UL 1 tk3 rfl rfl rfl rfl (UO 1 rfl rfl (UL 1 tk3 rfl rfl rfl rfl (UO 2 rfl rfl (UL 1 tk3 rfl rfl rfl rfl (UO 3 rfl rfl (UL 1 tk3 rfl rfl rfl rfl (LT rfl (WL (zs:=[.int .i64 0]) el25 rfl rfl rfl (.more rfl (.v rfl .nil) (.more rfl (.v rfl .nil) (.more rfl (.v rfl .nil) (.more rfl (.v rfl .nil) .nil)))) rfl rfl (fun v33_9=>(aHN ?_))))))))))))))
       refine eG 2 rfl ?_
       refine aU rfl (Q1 rfl ((b8 ⟨v33_9,4,[y.sec,y.from_,y.to_,y.bytes]⟩ (by intro y hy;simp only [List.mem_cons,List.not_mem_nil,or_false] at hy;rcases hy with rfl | rfl | rfl | rfl<;>assumption) ((ah d1).2)).post (fun _ _ _ h=>h.2.2)) 0 rfl) ?_
       refine aU rfl (bF rfl rfl d1) (aA rfl (bP (bu (an (aa (aM rfl (aU rfl (aV rfl rfl (by omega)) (aA rfl (aNn ?_)))))))))
       refine ⟨[1,3,11],[6,5,4,3,2,1,0],[0],rfl,?_⟩
       refine ⟨k+1,⟨hk',?_⟩,by omega⟩
       rw [hst]
       rfl
      ·skip
       have hke:k=x.depths.l.length:=by simp at h6;omega
       subst hke
       rw [List.take_length,← t5]
       refine aR (aS (aS (aY (an (aSR (aM rfl (aA rfl (aNn (az (FZ1 [] Tryz.results43 rfl ?_))))))))))
       exact ⟨rfl,rfl,rfl⟩
end Go.Proofs.YtebnelfdimiifaaGreatDoor

