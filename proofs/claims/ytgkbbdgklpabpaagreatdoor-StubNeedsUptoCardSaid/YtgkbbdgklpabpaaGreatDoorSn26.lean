/- Parts of the proof, in build order. No condition. -/
import Derived.Test.YtgkbbdgklpabpaaGreatDoorSn25
import Derived.Test.YtgkbbdgklpabpaaGreatDoorSn15
import Derived.Test.YtgkbbdgklpabpaaGreatDoorSn07
import Derived.Test.YtgkbbdgklpabpaaGreatDoorSn05
import Derived.Test.YtgkbbdgklpabpaaGreatDoorSn09
import Derived.Test.YtgkbbdgklpabpaaGreatDoorSn22
import Derived.Test.YtgkbbdgklpabpaaGreatDoorSn24
set_option linter.unusedSimpArgs false
set_option linter.unusedVariables false
set_option maxHeartbeats 20000000
set_option maxRecDepth 20000
namespace Go.Proofs.YtgkbbdgklpabpaaGreatDoor
open Go.RowKit Go.Lp Go.Sy
open Go.Proofs.Tryz
attribute [local irreducible] aL aB awp aC fwp Quiet
def FrR(u:aI)(spare:Int)(L:aS)(e:Int):Prop :=
 (L=⟨bQ,bQ,bQ,0,0,0,0⟩∧e=7∧(1048576<lJ u spare∨1048576<oV u spare)) ∨
 ((lJ u spare≤1048576∧oV u spare≤1048576)∧e=0∧L.nodes.l=(q5P u spare).1∧L.slots.l=(slP u spare).1∧L.stubs=bQ∧L.code=cH u spare∧L.data=gV u spare∧L.zero=lJ u spare∧L.tls=oV u spare)
theorem Con.know{P:Program}{f:FuncId}{args:List Value}{ps:List Per}{hp:List Res}{R:Value→List Per→List Res→Prop}{φ:Value→Prop}(h:Con P f args ps hp R)(hk:∀ v ps' hp',R v ps' hp'→∀ w S fp,St w S fp ps' hp'→φ v):Con P f args ps hp fun v ps' hp'=>R v ps' hp'∧φ v:=fun w S fp hst =>
 (h w S fp hst).mono fun _ _ ⟨v,ps',hp',S',fp',he,hR,hst',hE,hg⟩=>⟨v,ps',hp',S',fp',he,⟨hR,hk _ _ _ hR _ _ _ hst'⟩,hst',hE,hg⟩
theorem rF{ad:Option Addr}{c:Nat}(v:Int)(N:Nat)(hN:N≤100000000):Con Tryz.prog 54 [.slice ad 1 c,.int .i64 N] [] [aK (.slice ad 1 c) 3 1 (bD encI [v])] fun r ps hp=>(ps=[]∧hp=[aK r 3 1 (bD encI (List.replicate N v))])∧∃ ad c,r=.slice ad N c :=
 Con.know (Con.ofOwn (mT v N hN)) fun r ps' hp' ⟨h1,h2⟩ w S fp hst=>by
   subst h2
   obtain ⟨a,c,h⟩:=dx (hst.res 0 _ rfl)
   exact ⟨a,c,by rw [h];simp [bD]⟩
theorem mS(bf:Nat)(u:aI)(nv sv:Value)(code data zero tls sp nx kind:Int)(ns:List Int)(Q:PlS)(hQ:plF sp kind (nzU u) (ns,nx,code)=Q)(hsp:0≤sp∧sp≤10000)(hN:u.nodes.l.length≤100000000)(hx:∀ x∈u.nodes.l,NdZ x)(hl:ns.length=u.nodes.l.length)(h0:0≤nx∧nx≤100000000000000000)(hc:0≤code∧code≤100000000000000000)(hk:0≤kind∧kind<5) :
   Con Tryz.prog 55 [.pointer (some ⟨bf,0,none⟩),.int .i64 kind] [u.ok] [Box bf 100 (frV u nv sv code data zero tls sp nx),aK nv 3 1 (ns.map bd)]
     fun r ps hp=>ps=[]∧hp=[Box bf 100 (frV u nv sv Q.2.2 data zero tls sp Q.2.1),aK nv 3 1 (Q.1.map bd)]:=by
 subst hQ
 exact tu bf u nv sv code data zero tls sp nx kind ns hsp hN hx hl h0 hc hk
theorem tt(u:aI)(spare:Int)(hs:SzU u)(hx:∀ x∈u.nodes.l,NdZ x):Con Tryz.prog 24 [u.val,.int .i64 spare] [u.ok] []
   fun r ps hp=>hp=[]∧∃ L e,(r=.tuple #[L.val,.int .i64 e]∧ps=[ShF bd L.nodes,ShF bd L.slots])∧FrR u spare L e:=by
 have hN:=hs.nodes
 have hI:=hs.imports
 have hsp:=uq spare
 have hF:=yr u spare hx hN hI
 have hnl:=pJ u
 have hex:=(kN (size:=64) hsp (by omega)).2
 have hw:IntKind.i64.wrap ((spI spare).tdiv 100)=(spI spare).tdiv 100:=by rw [IntKind.wrap_i64,Int.tdiv_eq_ediv_of_nonneg hsp.1];omega
 have hd:0≤(spI spare).tdiv 100∧(spI spare).tdiv 100≤100:=by rw [Int.tdiv_eq_ediv_of_nonneg hsp.1];omega
 obtain ⟨Q1,hQ1⟩:∃ Q,q1P u spare=Q:=⟨_,rfl⟩
 obtain ⟨Q2,hQ2⟩:∃ Q,q2P u spare=Q:=⟨_,rfl⟩
 obtain ⟨Q3,hQ3⟩:∃ Q,q3P u spare=Q:=⟨_,rfl⟩
 obtain ⟨Q4,hQ4⟩:∃ Q,q4P u spare=Q:=⟨_,rfl⟩
 obtain ⟨Q5,hQ5⟩:∃ Q,q5P u spare=Q:=⟨_,rfl⟩
 obtain ⟨C,hC⟩:∃ C,cH u spare=C:=⟨_,rfl⟩
 obtain ⟨DD,hDD⟩:∃ C,gV u spare=C:=⟨_,rfl⟩
 obtain ⟨Z,hZ⟩:∃ C,lJ u spare=C:=⟨_,rfl⟩
 have hT5:oV u spare=Q5.2.1:=by unfold oV;rw [hQ5]
 have hFR:FrR u spare=fun L e=>(L=⟨bQ,bQ,bQ,0,0,0,0⟩∧e=7∧(1048576<Z∨1048576<Q5.2.1)) ∨
   ((Z≤1048576∧Q5.2.1≤1048576)∧e=0∧L.nodes.l=Q5.1∧L.slots.l=(slP u spare).1∧L.stubs=bQ∧L.code=C∧L.data=DD∧L.zero=Z∧L.tls=Q5.2.1):=by
   unfold FrR;rw [hQ5,hC,hDD,hZ,hT5]
 rw [hFR]
 have e1:plF (spI spare) 0 (nzU u) (List.replicate u.nodes.l.length 0,0,0)=Q1:=hQ1
 have e2:upI (Q1.2.1+(Q1.2.2+8*(u.imports.l.length:Int)+exI (spI spare) 64)) 256=C:=by rw [← hQ1];exact hC
 have e3:plF (spI spare) 1 (nzU u) (Q1.1,(slP u spare).2+8*(spI spare).tdiv 100,C)=Q2:=by rw [← hQ1,← hC];exact hQ2
 have e4:upI Q2.2.1 256=DD:=by rw [← hQ2];exact hDD
 have e5:plF (spI spare) 2 (nzU u) (Q2.1,DD,C)=Q3:=by rw [← hQ2,← hDD,← hC];exact hQ3
 have e6:upI Q3.2.1 256=Z:=by rw [← hQ3];exact hZ
 have e7:plF (spI spare) 3 (nzU u) (Q3.1,0,C)=Q4:=by rw [← hQ3,← hC];exact hQ4
 have e8:plF (spI spare) 4 (nzU u) (Q4.1,Q4.2.1,C)=Q5:=by rw [← hQ4,← hC];exact hQ5
 rw [hQ1,hQ2,hQ3,hQ4,hQ5,hC,hDD,hZ,hT5] at hF
 obtain ⟨f1,f2,f3,hF⟩:=hF
 have HF:=Lib.hid hF
 clear hF
 have hsl:∀ k,((eE u).take k).foldl slS (List.replicate u.imports.l.length (-1),C)=((eE u).take k).foldl slS (List.replicate u.imports.l.length (-1),C):=fun _=>rfl
 have es:slP u spare=(eE u).foldl slS (List.replicate u.imports.l.length (-1),C):=by rw [← hC];rfl
 clear hQ1 hQ2 hQ3 hQ4 hQ5 hC hDD hZ hT5 hFR hsl
 refine EN2 Tryz.func24 rfl (aSR (LT rfl (aT rfl rfl rfl (fun b0_0=>(aHN ?_)))))
 refine LT rfl (aV (zs:=[.slice none 0 0,.slice none 0 0,.slice none 0 0,.int .i64 0,.int .i64 0,.int .i64 0,.int .i64 0]) (by kernel_rfl) rfl (fun b0_1=>(aHN ?_)))
 refine aA rfl (aNn (aSR (UL 0 tk32 rfl rfl rfl rfl (aM rfl (aU rfl (yX rfl rfl) (aU rfl (aaI rfl rfl) (aU rfl (bO (l:=[(0,.tmp 9),(2,.tmp 12)]) (zs:=[.string .empty,.bool false,.slice none 0 0,.slice none 0 0,.slice none 0 0,.slice none 0 0,.slice none 0 0,.slice none 0 0,.int .i64 0,.int .i64 0,.int .i64 0,.int .i64 0,.slice none 0 0,.slice none 0 0,.slice none 0 0,.slice none 0 0,.slice none 0 0,.int .i64 0,.int .i64 0,.int .i64 0,.int .i64 0,.int .i64 0,.int .i64 0]) (pl:=[(0,14),(14,7),(21,1),(22,1)]) (by kernel_rfl) (by kernel_rfl) (by kernel_rfl) rfl rfl rfl) (LT rfl (aV (zs:=[.string .empty,.bool false,.slice none 0 0,.slice none 0 0,.slice none 0 0,.slice none 0 0,.slice none 0 0,.slice none 0 0,.int .i64 0,.int .i64 0,.int .i64 0,.int .i64 0,.slice none 0 0,.slice none 0 0,.slice none 0 0,.slice none 0 0,.slice none 0 0,.int .i64 0,.int .i64 0,.int .i64 0,.int .i64 0,.int .i64 0,.int .i64 0]) (by kernel_rfl) rfl (fun b1_5=>(aHN ?_)))))))))))
 refine aN rfl (bb 2 tk100 rfl rfl rfl rfl (aHK ?_))
 refine aNn (aSR (UO 2 rfl rfl (UL 0 tk22 rfl rfl rfl rfl (aU rfl (bw Tryz.underlying22 rfl) (LT rfl (fe (m:=u.nodes.l.length) (zs:=[.int .i64 0]) el33 (by kernel_rfl) rfl (by decide) (cV rfl (rfl)) (cV rfl (rfl)) (by omega) rfl (fun v2_3=>(aHN ?_))))))))
 refine UO 14 rfl rfl (UO 0 rfl rfl (aN rfl (bb 2 tk33 rfl rfl rfl rfl (aHK ?_))))
 refine aNn (aSR (LT rfl (WL (zs:=[.int .i64 0]) el33 rfl rfl rfl (.more rfl (.v rfl .nil) .nil) rfl rfl (fun v3_0=>(aHN ?_)))))
 refine UO 3 rfl rfl (UL 0 tk23 rfl rfl rfl rfl (aU rfl (bw Tryz.underlying23 rfl) (LF rfl (EC [] [4] rfl (rF (-1) u.imports.l.length hI) ?_))))
 rintro _ _ _ ⟨⟨rfl,rfl⟩,va,vc,rfl⟩
 refine aST ?_
 refine UO 14 rfl rfl (UO 1 rfl rfl (aN rfl (bb 2 tk33 rfl rfl rfl rfl (aHK ?_))))
 refine aNs ?_
 refine lg (hp':=[_,_,_,aK (.slice v2_3 u.nodes.l.length u.nodes.l.length) 3 1 ((List.replicate u.nodes.l.length 0).map bd),_]) (by rw [List.map_replicate];rfl) ?_
 refine az (LF rfl (EC [0] [2,3] rfl (mS b1_5 u _ (.slice va u.imports.l.length vc) 0 0 0 0 (spI spare) 0 0 _ Q1 e1 hsp hN hx List.length_replicate (by omega) (by omega) (by omega)) ?_))
 rintro _ _ _ ⟨rfl,rfl⟩
 refine aST ?_
 refine aNs (DR [14] 15 (VO 0 22 rfl rfl rfl (VL 1 2 tk3 rfl rfl rfl rfl rfl (VO 2 14 rfl rfl rfl (VO 3 3 rfl rfl rfl (VL 4 2 tk3 rfl rfl rfl rfl rfl (VO 5 3 rfl rfl rfl (VL 6 0 tk23 rfl rfl rfl rfl rfl (bV 7 rfl rfl (bw Tryz.underlying23 rfl) (bV 8 rfl rfl (qM rfl rfl (by omega)) (bV 9 rfl rfl (bp rfl rfl (by omega)) (bV 10 rfl rfl (QC rfl (fun w S fp hst=>(mQ b1_5 (spI spare) 64 hsp (by omega)).quietO 2 rfl hst (rm 21 rfl rfl))) (bV 11 rfl rfl (bp rfl rfl (by omega)) (bV 12 rfl rfl (bp rfl rfl (by omega)) (VO 13 22 rfl rfl rfl ?_)))))))))))))))
 refine dF 14 rfl (by kernel_rfl) rfl rfl (bb 2 tk3 rfl rfl rfl rfl (bST rfl ?_))
 refine BN (ao (aSR ?_))
 refine LF rfl (EC [] [2] rfl (kJ b1_5 u _ (.slice va u.imports.l.length vc) Q1.2.2 0 0 0 (spI spare) _ (by unfold I64;omega)) ?_)
 rintro _ _ _ ⟨rfl,rfl,rfl⟩
 refine aST ?_
 refine UO 14 rfl rfl (UO 3 rfl rfl (aN rfl (bb 2 tk3 rfl rfl rfl rfl (aHK ?_))))
 refine aNs (aSR (UL 0 tk32 rfl rfl rfl rfl (LT rfl (EC [0] [] rfl (pq u hs) ?_))))
 rintro _ _ _ ⟨rfl,L,⟨rfl,rfl⟩,hL⟩
 refine aST ?_
 refine aU rfl (bw Tryz.underlying33 rfl) (aM rfl (aNn (aJ ?_)))
 refine aF [4,6,46,47,48] [1,0] [1,2,3,4] (fun (q:Nat × (List Int × Int)) st=>(q.1≤L.l.length∧q.2=(L.l.take q.1).foldl slS (List.replicate u.imports.l.length (-1),C))∧st=⟨[(4,true,.pointer (some ⟨b0_1,0,none⟩)),(6,true,.pointer (some ⟨b1_5,0,none⟩)),(46,true,L.val),(47,true,.int .i64 L.l.length),(48,true,.int .i64 q.1)],[ShF bd L,u.ok],[Box b0_1 36 (aS.mk bQ bQ bQ 0 0 0 0).vs,Box b1_5 100 (frV u (.slice v2_3 u.nodes.l.length u.nodes.l.length) (.slice va u.imports.l.length vc) C 0 0 0 (spI spare) q.2.2),aK (.slice v2_3 u.nodes.l.length u.nodes.l.length) 3 1 (Q1.1.map bd),aK (.slice va u.imports.l.length vc) 3 1 (q.2.1.map bd)]⟩) (fun q=>L.l.length-q.1) rfl (⟨(0,(List.replicate u.imports.l.length (-1),C)),⟨Nat.zero_le _,rfl⟩,by rw [e2];rfl⟩) ?_
 rintro ⟨k,sl,sx⟩ st ⟨⟨hk,hq⟩,rfl⟩
 dsimp only at hk hq
 show awp _ _ _ _ ⟨_,_,[_,Box b1_5 100 (frV u (.slice v2_3 u.nodes.l.length u.nodes.l.length) (.slice va u.imports.l.length vc) C 0 0 0 (spI spare) sx),_,aK (.slice va u.imports.l.length vc) 3 1 (sl.map bd)]⟩
 have hLl:L.l.length≤u.imports.l.length:=by rw [hL];exact hnl
 have hqo:=j9 (L.l.take k) (List.replicate u.imports.l.length (-1),C)
 rw [← hq,List.length_take,Nat.min_eq_left hk,List.length_replicate] at hqo
 dsimp only at hqo
 obtain ⟨hsll,hsx⟩:=hqo
 refine aSR (aU rfl (cZ rfl rfl) (aNs ?_))
 refine aa _ rfl (fun h1 => ?_) (fun h1 => ?_)
 ·skip
  have hk':k<L.l.length:=by simpa using h1
  obtain ⟨i,hi⟩:∃ i,L.l[k]? = some i:=⟨_,List.getElem?_eq_getElem hk'⟩
  have him:=wD (u:=u) (hL ▸ List.mem_of_getElem? hi)
  have hsn:(L.l.take (k+1)).foldl slS (List.replicate u.imports.l.length (-1),C)=slS (sl,sx) i:=by rw [List.take_add_one,hi,Option.toList_some,List.foldl_append,← hq];rfl
  obtain ⟨y,hy⟩:∃ y,sl[i.toNat]? = some y:=⟨_,List.getElem?_eq_getElem (by omega)⟩
  refine aE (ao (aD (aJ (aSR (UI Tryz.underlying33 tk3 0 rfl rfl rfl rfl rfl (ak hi) rfl rfl (fun ⟨b9_0,o9_0⟩=>(US 0 tk3 0 rfl rfl rfl rfl rfl (aA rfl (aNn (aSR (UO 14 rfl rfl (UO 1 rfl rfl (UL 1 tk33 rfl rfl rfl rfl (aM rfl (UO 22 rfl rfl ?_)))))))))))))))
  refine UL 1 tk3 rfl rfl rfl rfl ?_
  refine aU rfl (bH 3 i.toNat el33 rfl rfl rfl (Int.toNat_of_nonneg him.1).symm (by rw [List.length_map];omega)) ?_
  refine LF rfl (cM 3 i.toNat 0 tk3 rfl rfl rfl (ak hy) rfl (.v rfl .nil) rfl (by decide) (aNn (az (UO 22 rfl rfl (UL 1 tk3 rfl rfl rfl rfl (aU rfl (bp rfl rfl (by omega)) (UO 22 rfl rfl (aN rfl (bb 1 tk3 rfl rfl rfl rfl (aHK ?_))))))))))
  refine dG (cL (ao (az (aU rfl (bp rfl rfl (by omega)) (aM rfl (aNn ?_))))))
  refine ⟨[4,6,46,47,48],[1,0],[0,1,2,3],rfl,?_⟩
  exact ⟨(k+1,(sl.set i.toNat sx,sx+8)),⟨⟨hk',hsn.symm⟩,by dsimp only;rw [List.map_set];rfl⟩,by dsimp only;omega⟩
 ·skip
  have hke:k=L.l.length:=by have:=of_decide_eq_false h1;omega
  subst hke
  rw [List.take_length,hL,← es] at hq
  rw [← hq] at f3 e3 ⊢
  dsimp only at f3 e3 ⊢
  obtain ⟨f4,f5,f6,f7,f8,f9⟩:=HF.out
  refine ba (bg (bg (bk (ao (aSR (UO 22 rfl rfl (UL 1 tk3 rfl rfl rfl rfl (UO 21 rfl rfl (UL 1 tk3 rfl rfl rfl rfl (aU rfl (yY rfl rfl (by decide)) ?_))))))))))
  refine aU rfl (qM rfl rfl (by rw [hw];omega)) ?_
  refine aU rfl (bp rfl rfl (by rw [hw];omega)) ?_
  refine UO 22 rfl rfl (aN rfl (bb 1 tk3 rfl rfl rfl rfl (aHK ?_)))
  refine aNn (aSR ?_)
  refine LF rfl (EC [0] [1,2] rfl (mS b1_5 u _ (.slice va u.imports.l.length vc) C 0 0 0 (spI spare) _ 1 _ Q2 (by rw [hw];exact e3) hsp hN hx f1.1 (by rw [hw];omega) (by omega) (by omega)) ?_)
  rintro _ _ _ ⟨rfl,rfl⟩
  refine aST ?_
  refine aNn (aSR ?_)
  refine LF rfl (EC [] [1] rfl (kJ b1_5 u _ (.slice va u.imports.l.length vc) Q2.2.2 0 0 0 (spI spare) _ (by unfold I64;omega)) ?_)
  rintro _ _ _ ⟨rfl,rfl,rfl⟩
  refine aST ?_
  refine UO 14 rfl rfl (UO 4 rfl rfl (aN rfl (bb 1 tk3 rfl rfl rfl rfl (aHK ?_))))
  refine aNn (aSR ?_)
  refine LF rfl (EC [0] [1,2] rfl (mS b1_5 u _ (.slice va u.imports.l.length vc) Q2.2.2 _ 0 0 (spI spare) _ 2 _ Q3 (by rw [e4,f4.2.2.2];exact e5) hsp hN hx f4.1 (by rw [e4];omega) (by omega) (by omega)) ?_)
  rintro _ _ _ ⟨rfl,rfl⟩
  refine aST ?_
  refine aNn (aSR ?_)
  refine LF rfl (EC [] [1] rfl (kJ b1_5 u _ (.slice va u.imports.l.length vc) Q3.2.2 _ 0 0 (spI spare) _ (by unfold I64;omega)) ?_)
  rintro _ _ _ ⟨rfl,rfl,rfl⟩
  refine aST ?_
  refine UO 14 rfl rfl (UO 5 rfl rfl (aN rfl (bb 1 tk3 rfl rfl rfl rfl (aHK ?_))))
  refine aNn (aSR (UO 22 rfl rfl (aN rfl (bb 1 tk3 rfl rfl rfl rfl (aHK ?_)))))
  refine aNn (aSR ?_)
  refine LF rfl (EC [0] [1,2] rfl (mS b1_5 u _ (.slice va u.imports.l.length vc) Q3.2.2 _ _ 0 (spI spare) _ 3 _ Q4 (by rw [f6.2.2.2];exact e7) hsp hN hx f6.1 (by omega) (by omega) (by omega)) ?_)
  rintro _ _ _ ⟨rfl,rfl⟩
  refine aST ?_
  refine aNn (aSR ?_)
  refine LF rfl (EC [0] [1,2] rfl (mS b1_5 u _ (.slice va u.imports.l.length vc) Q4.2.2 _ _ 0 (spI spare) _ 4 _ Q5 (by rw [f8.2.2.2];exact e8) hsp hN hx f8.1 (by omega) (by omega) (by omega)) ?_)
  rintro _ _ _ ⟨rfl,rfl⟩
  refine aST ?_
  refine aNn (aSR (UO 22 rfl rfl (UL 1 tk3 rfl rfl rfl rfl (UO 14 rfl rfl (UO 6 rfl rfl (aN rfl (bb 1 tk3 rfl rfl rfl rfl (aHK ?_))))))))
  refine aNs (aSR (UO 14 rfl rfl (UO 5 rfl rfl (UL 1 tk3 rfl rfl rfl rfl (aU rfl (fJ rfl rfl) (aM rfl (GO 14 rfl rfl rfl (aG rfl rfl (fun hc=>qFA (off:=6) (ah rfl hc)) (GL 1 tk3 rfl rfl rfl rfl rfl (aG rfl rfl (fun hc=>fJ (ah rfl hc) rfl) (aU rfl (ga rfl rfl (fun h=>gf rfl h)) (aNn ?_))))))))))))
  refine aa _ rfl (fun h2 => ?_) (fun h2 => ?_)
  ·skip
   have hbig:1048576<Z∨1048576<Q5.2.1:=by rw [e6] at h2;simpa using h2
   refine aD (fu (p:=ShF bd bQ) dT (fu (p:=ShF bd bQ) dT (az (aU rfl (bO (l:=[]) (zs:=[.slice none 0 0,.slice none 0 0,.slice none 0 0,.int .i64 0,.int .i64 0,.int .i64 0,.int .i64 0]) (pl:=[(0,1),(1,1),(2,1),(3,1),(4,1),(5,1),(6,1)]) (by kernel_rfl) (by kernel_rfl) (by kernel_rfl) rfl rfl rfl) (aN rfl (bb 0 tk36 rfl rfl rfl rfl (aHK ?_)))))))
   refine aA rfl (aNn (ae (an ?_)))
   refine gm [2,3] [] rfl Tryz.results24 (dq 0 tk36 rfl rfl rfl) (fm rfl) ?_ (.inr rfl)
   exact ⟨rfl,⟨bQ,bQ,bQ,0,0,0,0⟩,7,⟨rfl,rfl⟩,.inl ⟨rfl,rfl,hbig⟩⟩
  ·skip
   have hbig:Z≤1048576∧Q5.2.1≤1048576:=by rw [e6] at h2;simpa using h2
   refine aE (ao (aD ?_))
   refine cQ 2 (ShF bd ⟨v2_3,u.nodes.l.length,Q5.1⟩) rfl (fun _ _ _ h=>by show dJ _ _ (.slice v2_3 Q5.1.length u.nodes.l.length) _;rw [f9.1];exact dm h) ?_
   refine cQ 3 (ShF bd ⟨va,vc,sl⟩) rfl (fun _ _ _ h=>by show dJ _ _ (.slice va sl.length vc) _;rw [f3.1];exact dm h) ?_
   refine az (UO 14 rfl rfl (UL 1 tk36 rfl rfl rfl rfl (aN rfl (bb 0 tk36 rfl rfl rfl rfl (aHK ?_)))))
   refine aA rfl (aNn (ae ?_))
   refine gm [2,3] [] rfl Tryz.results24 (dq 0 tk36 rfl rfl rfl) (fm rfl) ?_ (.inr rfl)
   refine ⟨rfl,⟨⟨v2_3,u.nodes.l.length,Q5.1⟩,⟨va,vc,sl⟩,bQ,C,DD,Z,Q5.2.1⟩,0,⟨?_,rfl⟩,.inr ⟨hbig,rfl,rfl,rfl,rfl,rfl,rfl,rfl,rfl⟩⟩
   show Value.tuple #[.agg #[.slice v2_3 u.nodes.l.length u.nodes.l.length,.slice va u.imports.l.length vc,.slice none 0 0,.int .i64 Q5.2.2,.int .i64 (upI Q2.2.1 256),.int .i64 (upI Q3.2.1 256),.int .i64 Q5.2.1],.int .i64 0]=Value.tuple #[.agg #[.slice v2_3 Q5.1.length u.nodes.l.length,.slice va sl.length vc,.slice none 0 0,.int .i64 C,.int .i64 DD,.int .i64 Z,.int .i64 Q5.2.1],.int .i64 0]
   rw [e4,e6,f9.2.2.2,f9.1,f3.1]
end Go.Proofs.YtgkbbdgklpabpaaGreatDoor

namespace Go.Proofs.YtgkbbdgklpabpaaGreatDoor
open Go.RowKit Go.Lp Go.Sy
theorem wC{u:aI}(hu:mi u):∀ x∈u.nodes.l,NdZ x:=fun x hx=>by
 have h:=(hu.nodes x hx).sec
 have h1:0≤x.size∧x.size≤1048576:=h.size
 have h2:1≤x.align∧x.align≤256:=h.al
 exact ⟨h1,h2⟩
theorem u4:∀ (l:List Int) (q:List Int × Int),∀ z∈(l.foldl slS q).1,z∈q.1∨(q.2≤z∧z≤(l.foldl slS q).2)
 | [],_,_,h=>.inl h
 | i :: l,q,z,h=>by
   rw [List.foldl_cons] at h ⊢
   have hf:=(j9 l (slS q i)).2
   have hq:(slS q i).2=q.2+8:=rfl
   rcases u4 l (slS q i) z h with h | h
   · rcases List.mem_or_eq_of_mem_set h with h | h
     · exact .inl h
     · exact .inr (by omega)
   · exact .inr (by omega)
structure w9 (u:aI) (l:aS):Prop where
 len:l.nodes.l.length=u.nodes.l.length
 slen:l.slots.l.length=u.imports.l.length
 slots:∀ z∈l.slots.l,I64 z
 code:0≤l.code∧l.code≤1048576
 node:∀ (k:Nat) (x:aQ),u.nodes.l[k]? = some x→∃ a,l.nodes.l[k]? = some a∧(0≤a∧a+x.size≤1048576)∧(x.kind=0→a+x.size≤l.code)
theorem abH{u:aI}{spare:Int}{l:aS}(hu:mi u)(hs:SzU u)(h:FrR u spare l 0):w9 u l∧l.stubs=bQ:=by
 have hz:=wC hu
 obtain ⟨f1,f2,f3,f4,f5,f6,f7,f8,f9⟩:=yr u spare hz hs.nodes hs.imports
 rcases h with ⟨_,h,_⟩ | ⟨⟨h1,h2⟩,_,h3,h4,h5,h6,_,_,_⟩
 · cases h
 refine ⟨⟨by rw [h3];exact f9.1,by rw [h4];exact f3.1,fun z hzz => ?_,by rw [h6];omega,?_⟩,h5⟩
 · rw [h4] at hzz
   unfold slP at hzz
   have hm:=u4 _ _ z hzz
   rw [show (eE u).foldl slS (List.replicate u.imports.l.length (-1),cH u spare)=slP u spare from rfl] at hm
   unfold I64
   rcases hm with hm | hm
   · have:=List.eq_of_mem_replicate hm;omega
   · dsimp only at hm;omega
 intro k x hx
 have hk:0≤x.kind∧x.kind<5:=(hu.nodes x (List.mem_of_getElem? hx)).sec.kind
 obtain ⟨a,a1,a2,a3⟩:=aab hz hs.nodes hs.imports h1 h2 hx hk
 exact ⟨a,by rw [h3];exact a1,a2,fun hc=>by rw [h6];exact a3 hc⟩
theorem vu{ns:List aQ}{ln:List Int}{c:bC}(h:c∈bZ ns ln):∃ (k:Nat) (x:aQ) (a:Int) (r:dR),ns[k]? = some x∧ln[k]? = some a∧r∈x.refs.l∧r.kind=6∧c=⟨a+r.at_,r⟩:=by
 obtain ⟨⟨x,a⟩,hp,hc⟩:=List.mem_flatMap.1 h
 obtain ⟨r,hr,rfl⟩:=List.mem_map.1 hc
 obtain ⟨k,hk⟩:=List.mem_iff_getElem?.1 hp
 obtain ⟨h1,h2⟩:=List.getElem?_zip_eq_some.1 hk
 have h3:=List.mem_filter.1 hr
 exact ⟨k,x,a,r,h1,h2,h3.1,by simpa using h3.2,rfl⟩
theorem jJ{u:aI}{l:aS}(hu:mi u)(hf:w9 u l){c:bC}(h:c∈bZ u.nodes.l l.nodes.l):mf l.nodes.l c∧(0≤c.at_∧c.at_+8≤l.code)∧sP u c.r.to_:=by
 obtain ⟨k,x,a,r,h1,h2,h3,h4,rfl⟩:=vu h
 have hx:=hu.nodes x (List.mem_of_getElem? h1)
 obtain ⟨hr,hft⟩:=hx.refs r h3
 obtain ⟨a',e,ha,hc⟩:=hf.node k x h1
 rw [h2] at e
 obtain rfl:=Option.some.inj e
 have hk0:=(hr.code (by rw [h4];decide)).1
 have hat:=hr.at_
 rw [h4,show dI 6=8 from rfl] at hat
 have hca:=hc hk0
 have hcd:=hf.code
 have hkk:r.to_.kind=0∨r.to_.kind=1:=by
   by_cases h0:r.to_.kind=0
   · exact .inl h0
   · by_cases h5:r.to_.kind=1
     · exact .inr h5
     · have:=hft.nul h0 h5
       rw [h4] at this
       exact absurd this (by decide)
 have hz:=wC hu
 refine ⟨⟨hkk,fun h0=>by rw [hf.len];exact (hft.ex.node h0).1,by dsimp only;omega,?_,by have:=hr.add;dsimp only;omega,fun z hzz => ?_⟩,by dsimp only;omega,hft.ex⟩
 · rcases hkk with h0 | h0
   · have h5:=hft.ex.node h0
     have h6:=(hz (elt u.nodes.l r.to_.n) (List.mem_of_getElem? (dS h5.1.2 h5.1.1))).1
     dsimp only;omega
   · have h5:=hft.ex.imp h0
     dsimp only;omega
 · obtain ⟨j,hj⟩:=List.mem_iff_getElem?.1 hzz
   have hjl:=(List.getElem?_eq_some_iff.1 hj).1
   obtain ⟨y,hy⟩:∃ y,u.nodes.l[j]? = some y:=⟨_,List.getElem?_eq_getElem (by rw [← hf.len];exact hjl)⟩
   obtain ⟨b,e,hb,_⟩:=hf.node j y hy
   rw [hj] at e
   obtain rfl:=Option.some.inj e
   have:=(hz y (List.mem_of_getElem? hy)).1
   omega
theorem aaH{u:aI}{l:aS}(hu:mi u)(hs:SzU u)(hR:dL u.nodes.l≤100000000)(hf:w9 u l):ra u l where
 len:=hf.len
 few:=hs.nodes
 refs:=hR
 ln:=fun z hzz=>by
   obtain ⟨j,hj⟩:=List.mem_iff_getElem?.1 hzz
   have hjl:=(List.getElem?_eq_some_iff.1 hj).1
   obtain ⟨y,hy⟩:∃ y,u.nodes.l[j]? = some y:=⟨_,List.getElem?_eq_getElem (by rw [← hf.len];exact hjl)⟩
   obtain ⟨b,e,hb,_⟩:=hf.node j y hy
   rw [hj] at e
   obtain rfl:=Option.some.inj e
   have:=(wC hu y (List.mem_of_getElem? hy)).1
   unfold I64;omega
 size:=fun x hx=>by have:=(wC hu x hx).1;unfold I64;omega
 code:=by have:=hf.code;unfold I64;omega
 at_:=fun k x a hx ha r hr=>by
   obtain ⟨b,e,hb,_⟩:=hf.node k x hx
   rw [ha] at e
   obtain rfl:=Option.some.inj e
   have h1:=(wC hu x (List.mem_of_getElem? hx)).1
   have h2:=((hu.nodes x (List.mem_of_getElem? hx)).refs r hr).1.at_
   have h3:0≤dI r.kind:=by unfold dI;split<;>(try split)<;>omega
   omega
 call:=fun c hc=>by
   obtain ⟨h1,h2,_⟩:=jJ hu hf hc
   have:=hf.code
   exact ⟨h1,by omega,by omega⟩
def qZ(ln:List Int)(c:bC):Prop:=qH ln c=false∧dO ln c=true
structure vl (ln:List Int) (cs done:List bC) (q:StS):Prop where
 by_:∀ s∈q.S,∃ c∈cs,qZ ln c∧s.kind=(ew c).kind∧s.n=(ew c).n
 last:q.S≠[]→∃ c∈cs,qZ ln c∧cF c q.S.dropLast<0
 srv:∀ c∈done,dO ln c=true→∃ s∈q.S,s.kind=(ew c).kind∧s.n=(ew c).n
theorem wm{c:bC}{S:List bt}(h:0≤cF c S):∃ s∈S,s.kind=(ew c).kind∧s.n=(ew c).n:=by
 unfold cF at h
 split at h
 · rename_i i hi
   have hm:=List.findIdx?_eq_some_iff_getElem.1 hi
   obtain ⟨hl,h1,_⟩:=hm
   have h2:=h1
   unfold qR at h2
   rw [Bool.and_eq_true,decide_eq_true_eq] at h2
   exact ⟨S[i],List.getElem_mem hl,h2.1.1,h2.1.2.1⟩
 · omega
theorem vl.step{ln:List Int}{cs done:List bC}{q q':StS}{c:bC}(h:vl ln cs done q)(hc:c∈cs)(he:eG ln q c=some q'):vl ln cs (done++[c]) q':=by
 have key:∀ (q2:StS),(∀ s∈q.S,s∈q2.S)→(∀ s∈q2.S,∃ c∈cs,qZ ln c∧s.kind=(ew c).kind∧s.n=(ew c).n)→(q2.S≠[]→∃ c∈cs,qZ ln c∧cF c q2.S.dropLast<0)→(dO ln c=true→∃ s∈q2.S,s.kind=(ew c).kind∧s.n=(ew c).n)→vl ln cs (done++[c]) q2:=fun q2 h1 h2 h3 h4=>⟨h2,h3,fun d hd hn=>by
   rcases List.mem_append.1 hd with hd | hd
   · obtain ⟨s,hs,h5⟩:=h.srv d hd hn
     exact ⟨s,h1 s hs,h5⟩
   · rw [List.mem_singleton.1 hd] at hn ⊢;exact h4 hn⟩
 unfold eG at he
 split at he
 · cases he
 rename_i hod
 split at he
 · rename_i hn
   cases he
   exact key q (fun _ h=>h) h.by_ h.last fun hh=>by rw [hn] at hh;cases hh
 rename_i hn
 split at he
 · rename_i hf
   cases he
   exact key _ (fun _ h=>h) h.by_ h.last fun _=>wm hf
 rename_i hf
 split at he
 · cases he
   have hfc:qZ ln c:=⟨by simpa using hod,by simpa using hn⟩
   refine key _ (fun s hs=>List.mem_append_left _ hs) (fun s hs => ?_) (fun _ => ?_) fun _=>⟨_,List.mem_append_right _ (List.mem_singleton.2 rfl),rfl,rfl⟩
   · rcases List.mem_append.1 hs with hs | hs
     · exact h.by_ s hs
     · rw [List.mem_singleton.1 hs];exact ⟨c,hc,hfc,rfl,rfl⟩
   · refine ⟨c,hc,hfc,?_⟩
     dsimp only
     rw [List.dropLast_concat]
     omega
 · cases he
theorem runK{ln:List Int}{cs:List bC} : ∀ (l done:List bC) (q q':StS),(∀ c∈l,c∈cs)→vl ln cs done q→gu ln l q=some q'→vl ln cs (done++l) q'
 | [],done,q,q',_,h,he=>by
   unfold gu at he
   rw [List.foldlM_nil] at he
   cases he
   rw [List.append_nil];exact h
 | c :: l,done,q,q',hm,h,he=>by
   unfold gu at he
   rw [List.foldlM_cons] at he
   cases hs:eG ln q c with
   | none=>rw [hs] at he;cases he
   | some q2 =>
     rw [hs] at he
     have:=runK l (done++[c]) q2 q' (fun d hd=>hm d (List.mem_cons_of_mem _ hd)) (h.step (hm c (List.mem_cons_self ..)) hs) he
     rwa [List.append_assoc] at this
theorem aaK{ln:List Int} : ∀ (l:List bC) (B:Nat) (q q':StS),(∀ c∈l,0≤c.at_∧c.at_≤1099511627264)→mh B q→gu ln l q=some q'→∃ B',mh B' q'
 | [],B,q,q',_,h,he=>by
   unfold gu at he
   rw [List.foldlM_nil] at he
   cases he
   exact ⟨B,h⟩
 | c :: l,B,q,q',hm,h,he=>by
   unfold gu at he
   rw [List.foldlM_cons] at he
   cases hs:eG ln q c with
   | none=>rw [hs] at he;cases he
   | some q2 =>
     rw [hs] at he
     exact aaK l (B+1) q2 q' (fun d hd=>hm d (List.mem_cons_of_mem _ hd)) (h.step (hm c (List.mem_cons_self ..)) hs) he
theorem yN(U:List Int)(S:List bt):oR 0 U S=S:=by
 unfold oR
 rw [List.filter_eq_self.2 fun p _=>by simp]
 exact List.zipIdx_map_fst 0 S
theorem ve{ln:List Int}{S:List bt}{c:bC}(hf:cF c S<0)(hn:qZ ln c):∀ (cs:List bC) (U:List Int),c∈cs→cs.foldlM (usS ln S) U=none
 | [],_,h=>by cases h
 | d :: cs,U,h=>by
   rw [List.foldlM_cons]
   rcases List.mem_cons.1 h with rfl | h
   · have:usS ln S U c=none:=by
       unfold usS
       rw [if_neg (by rw [hn.1];exact Bool.false_ne_true),if_neg (by rw [hn.2];decide),if_pos hf]
     rw [this];rfl
   · cases hd:usS ln S U d with
     | none=>rfl
     | some U2=>exact ve hf hn cs U2 h
structure ld (u:aI) (L:aS):Prop where
 right:mi u
 fs:w9 u L
 by_:∀ s∈L.stubs.l,∃ c∈bZ u.nodes.l L.nodes.l,qZ L.nodes.l c∧s.kind=(ew c).kind∧s.n=(ew c).n
 last:L.stubs.l≠[]→∃ c∈bZ u.nodes.l L.nodes.l,qZ L.nodes.l c∧cF c L.stubs.l.dropLast<0
 at_:∀ s∈L.stubs.l,-4398046511104≤s.at_∧s.at_≤4398046511104
 srv:∀ c∈bZ u.nodes.l L.nodes.l,dO L.nodes.l c=true→∃ s∈L.stubs.l,s.kind=(ew c).kind∧s.n=(ew c).n
theorem aaY{u:aI}{P L:aS}(hu:mi u)(hf:w9 u P)(h:zG (bZ u.nodes.l P.nodes.l) (q0S u P) 0 P L 0):ld u L:=by
 rcases h with ⟨_,_,h⟩ | ⟨q,T,h1,h2,h3,_⟩
 · cases h
 have hk:=runK (cs:=bZ u.nodes.l P.nodes.l) _ [] (q0S u P) q (fun _ h=>h) ⟨fun s hs=>absurd (show s∈[] from hs) List.not_mem_nil,fun h=>absurd rfl h,fun c hc=>absurd hc List.not_mem_nil⟩ h1
 rw [List.nil_append] at hk
 rw [yN] at h3
 subst h2
 refine ⟨hu,⟨hf.len,hf.slen,hf.slots,hf.code,hf.node⟩,?_,?_,?_,?_⟩
 · intro s hs;exact hk.by_ s (h3 ▸ hs)
 · intro hs
   obtain ⟨c,h4,h5,h6⟩:=hk.last (h3 ▸ hs)
   exact ⟨c,h4,h5,by show cF c T.l.dropLast<0;rw [h3];exact h6⟩
 · intro s hs
   have hfr:=rV u P
   obtain ⟨B,hB⟩:=aaK _ (pA u P).length (q0S u P) q (fun c hc=>by
     obtain ⟨_,h5,_⟩:=jJ hu hf hc
     have:=hf.code
     exact ⟨h5.1,by omega⟩) ⟨hfr.1,Nat.le_refl _,Nat.zero_le _,fun s hs=>absurd (show s∈[] from hs) List.not_mem_nil⟩ h1
   exact hB.at_ s (h3 ▸ hs)
 · intro c hc hn
   obtain ⟨s,h4,h5⟩:=hk.srv c hc hn
   exact ⟨s,h3.symm ▸ h4,h5⟩
theorem yu{u:aI}{L:aS}(h:ld u L)(hc:L.code≤512)(hg:∀ c∈bZ u.nodes.l L.nodes.l,c.r.to_.kind=0→0≤fi L.nodes.l c∧fi L.nodes.l c<L.code):∀ s∈L.stubs.l,s.kind≠0:=fun s hs hk=>by
 obtain ⟨c,h1,h2,h3,_⟩:=h.by_ s hs
 obtain ⟨hcl,hca,_⟩:=jJ h.right h.fs h1
 rw [hk] at h3
 have h0:c.r.to_.kind=0:=by
   rcases hcl.kind with e | e
   · exact e
   · rw [show ew c=⟨0,1,c.r.to_.n,0⟩ from if_pos e] at h3;cases h3
 have hgo:=hg c h1 h0
 obtain ⟨ho,hn⟩:=h2
 unfold qH at ho
 unfold dO at hn
 rw [decide_eq_true h0,Bool.true_and] at ho
 rw [decide_eq_false (by omega),Bool.false_or] at hn
 unfold rT at hn
 simp at ho hn
 rcases hn with (hn | hn) | hn
 · exact hn ho
 · omega
 · omega
theorem yv{u:aI}{L:aS}(h:ld u L):∀ s∈L.stubs.l,s.kind=1→0≤s.n∧s.n<u.imports.l.length:=fun s hs hk=>by
 obtain ⟨c,h1,_,h3,h4⟩:=h.by_ s hs
 obtain ⟨hcl,_,hex⟩:=jJ h.right h.fs h1
 rw [hk] at h3
 by_cases e:c.r.to_.kind=1
 · rw [show ew c=⟨0,1,c.r.to_.n,0⟩ from if_pos e] at h4
   rw [h4];exact (hex.imp e).1
 · rw [show ew c=⟨0,0,c.r.to_.n,c.r.to_.off+c.r.add⟩ from if_neg e] at h3;cases h3
theorem aac{u:aI}{L:aS}(h:ld u L){c:bC}(hc:c∈bZ u.nodes.l L.nodes.l)(hk:c.r.to_.kind=1):(∃ s∈L.stubs.l,s.kind=1∧s.n=c.r.to_.n)∧sP u c.r.to_:=by
 refine ⟨?_,(jJ h.right h.fs hc).2.2⟩
 have hn:dO L.nodes.l c=true:=by unfold dO;rw [decide_eq_true hk];rfl
 have:=h.srv c hc hn
 rwa [show ew c=⟨0,1,c.r.to_.n,0⟩ from if_pos hk] at this
theorem yt{u:aI}{L:aS}(h:ld u L)(hs:L.stubs.l≠[])(ad:Option Addr)(cap:Nat):srB u { L with stubs:=⟨ad,cap,L.stubs.l.dropLast⟩ } = false:=by
 obtain ⟨c,h1,h2,h3⟩:=h.last hs
 unfold srB
 have:usL L.nodes.l L.stubs.l.dropLast (bZ u.nodes.l L.nodes.l)=none:=ve h3 h2 _ _ h1
 dsimp only
 rw [this,Bool.and_false]
open Go.Proofs.Tryz
attribute [local irreducible] aL aB awp aC fwp Quiet
theorem qF{ps:List Per} : Ent ps vh.ok:=.mk2 dT (.mk2 dT dT)
theorem oM(u:aI)(spare:Int)(hs:SzU u)(hR:dL u.nodes.l≤100000000):Con Tryz.prog 9 [u.val,.int .i64 spare] [u.ok,bl,dp] []
   fun r ps hp=>hp=[]∧∃ L e,(r=.tuple #[L.val,.int .i64 e]∧Ent ps L.ok)∧(e=0→ld u L):=by
 refine EN2 Tryz.func9 rfl (aSR (LT rfl (aT rfl rfl rfl (fun b0_0=>(aHN ?_)))))
 refine LT rfl (aV (zs:=[.slice none 0 0,.slice none 0 0,.slice none 0 0,.int .i64 0,.int .i64 0,.int .i64 0,.int .i64 0]) (by kernel_rfl) rfl (fun b0_1=>(aHN ?_)))
 refine aA rfl (aNs (aSR (UL 0 tk32 rfl rfl rfl rfl ?_)))
 refine aq (caps:=[]) [2,1,0] (false) (by kernel_rfl) true rfl rfl (fun _=>rfl) (fun hc=>rfl) (fun hc=>by rw [List.append_nil];exact m0 u hs) (fun c1 hc1 => ?_)
 refine aU rfl (ft rfl) (aNn ?_)
 refine aa _ rfl (fun h1 => ?_) (fun h1 => ?_)
 ·skip
  refine aSR (aU rfl (bO (l:=[]) (zs:=[.slice none 0 0,.slice none 0 0,.slice none 0 0,.int .i64 0,.int .i64 0,.int .i64 0,.int .i64 0]) (pl:=[(0,1),(1,1),(2,1),(3,1),(4,1),(5,1),(6,1)]) (by kernel_rfl) (by kernel_rfl) (by kernel_rfl) rfl rfl rfl) (aN rfl (bb 1 tk36 rfl rfl rfl rfl (aHK ?_))))
  refine aA rfl (aNn (ae (an ?_)))
  refine gm [] [] rfl Tryz.results9 (dq 1 tk36 rfl rfl rfl) (fm rfl) ?_ (.inr rfl)
  exact ⟨rfl,vh,1,⟨rfl,qF⟩,fun h=>by cases h⟩
 ·skip
  have hur:mi u:=hc1 rfl (by simpa using h1)
  refine aE (ao (aSR (UL 0 tk32 rfl rfl rfl rfl (aM rfl (LT rfl (EC [2] [] rfl (tt u spare hs (wC hur)) ?_))))))
  rintro _ _ _ ⟨rfl,P,e1,⟨rfl,rfl⟩,hP⟩
  refine aST ?_
  refine aM rfl (aU rfl (cD rfl rfl) (aU rfl (cD rfl rfl) (LT rfl (aV (zs:=[.slice none 0 0,.slice none 0 0,.slice none 0 0,.int .i64 0,.int .i64 0,.int .i64 0,.int .i64 0]) (by kernel_rfl) rfl (fun b3_6=>(aHN ?_))))))
  refine aN rfl (bb 2 tk36 rfl rfl rfl rfl (aHK ?_))
  refine aA rfl (aNs (aSR (aM rfl (aU rfl (fq rfl rfl) (aNn ?_)))))
  refine aa _ rfl (fun h2 => ?_) (fun h2 => ?_)
  ·skip
   have he:e1≠0:=by simpa using h2
   refine aSR (UL 2 tk36 rfl rfl rfl rfl (aM rfl (aN rfl (bb 1 tk36 rfl rfl rfl rfl (aHK ?_)))))
   refine aA rfl (aNn (ae (an ?_)))
   refine gm [] [] rfl Tryz.results9 (dq 1 tk36 rfl rfl rfl) (fm rfl) ?_ (.inr rfl)
   refine ⟨rfl,P,e1,⟨rfl,?_⟩,fun h=>absurd h he⟩
   rcases hP with ⟨hz,_⟩ | ⟨_,h0,_⟩
   · rw [hz];exact qF
   · exact absurd h0 he
  ·skip
   have he:e1=0:=by simpa using h2
   subst he
   obtain ⟨hfs,_⟩:=abH hur hs hP
   refine aE (ao (aSR (UL 0 tk32 rfl rfl rfl rfl (UL 2 tk36 rfl rfl rfl rfl (LT rfl (EC [4,2] [] rfl ((mW u P (aaH hur hs hR hfs)).pre (iq (aI.f_nodes (.of (ax 1 rfl))) (aI.f_nodesA (.of (ax 1 rfl))) (.of (ax 0 rfl)))) ?_))))))
   rintro _ _ _ ⟨rfl,L,e2,⟨rfl,rfl⟩,hL⟩
   refine aST ?_
   refine aU rfl (cD rfl rfl) (aU rfl (cD rfl rfl) (aN rfl (bb 1 tk36 rfl rfl rfl rfl (aHK ?_))))
   refine aA rfl (aNn (ae ?_))
   refine gm [5,4,3] [] rfl Tryz.results9 (dq 1 tk36 rfl rfl rfl) (fm rfl) ?_ (.inr rfl)
   refine ⟨rfl,L,e2,⟨rfl,?_⟩,fun h=>by subst h;exact aaY hur hfs hL⟩
   rcases hL with ⟨_,hz,_⟩ | ⟨q,T,_,hz,_,_⟩
   · rw [hz];exact qF
   · rw [hz];exact .mk2 (.of (ax 1 rfl)) (.mk2 (.of (ax 2 rfl)) (by have:=hz ▸ (Ent.of (ax 0 rfl):Ent [ShF bt.row L.stubs,ShF bd P.nodes,ShF bd P.slots] (ShF bt.row L.stubs));exact this))
theorem qo(u:aI)(spare:Int)(hs:SzU u)(hR:dL u.nodes.l≤100000000):Con Tryz.prog 9 [u.val,.int .i64 spare] [u.ok,bl,dp] []
   fun r ps hp=>hp=[]∧∃ L e,(r=.tuple #[L.val,.int .i64 e]∧ps=[L.ok])∧(e=0→ld u L) :=
 Con.conv (oM u spare hs hR) fun v ps' hp' ⟨h1,L,e,⟨h2,h3⟩,h4⟩=>by
   subst h1 h2
   exact ⟨_,_,StE.ents (ps':=[L.ok]) fun p hp=>by rw [List.mem_singleton.1 hp];exact h3,rfl,L,e,⟨rfl,rfl⟩,h4⟩
theorem tl(u:aI)(l:aS)(hs:SzU u):Con Tryz.prog 6 [u.val,l.val] [u.ok,bl,dp] [] (YB (mi u∧l.stubs.l.length≤60)):=by
 have hN:=hs.nodes
 refine EN2 Tryz.func6 rfl (aSR (LT rfl (aT rfl rfl rfl (fun b0_0=>(aHN ?_)))))
 refine LT rfl (aT rfl rfl rfl (fun b0_1=>(aHN ?_)))
 refine aA rfl (aNs (aSR (UO 2 rfl rfl (UL 0 tk22 rfl rfl rfl rfl (aU rfl (bw Tryz.underlying22 rfl) (aU rfl (fJ rfl rfl) (aM rfl (GO 3 rfl rfl rfl (GL 0 tk23 rfl rfl rfl rfl rfl (aG rfl rfl (fun hc=>bw Tryz.underlying23 (ah rfl hc)) (aG rfl rfl (fun hc=>fJ (ah rfl hc) rfl) (aU rfl (ga rfl rfl (fun h=>gf rfl h)) (aM rfl (GO 4 rfl rfl rfl ?_))))))))))))))
 refine GL 0 tk24 rfl rfl rfl rfl rfl (aG rfl rfl (fun hc=>bw Tryz.underlying24 (ah rfl hc)) (aG rfl rfl (fun hc=>fJ (ah rfl hc) rfl) (aU rfl (ga rfl rfl (fun h=>gf rfl h)) (aM rfl (GO 13 rfl rfl rfl (GL 0 tk30 rfl rfl rfl rfl rfl (aG rfl rfl (fun hc=>bw Tryz.underlying30 (ah rfl hc)) (aG rfl rfl (fun hc=>fJ (ah rfl hc) rfl) (aU rfl (ga rfl rfl (fun h=>gf rfl h)) (aM rfl (GO 3 rfl rfl rfl (GL 1 tk3 rfl rfl rfl rfl rfl (aG rfl rfl (fun hc=>fJ (ah rfl hc) rfl) (aU rfl (ga rfl rfl (fun h=>gf rfl h)) (aM rfl ?_)))))))))))))))
 refine GO 2 rfl rfl rfl (GL 1 tk34 rfl rfl rfl rfl rfl (aG rfl rfl (fun hc=>bw Tryz.underlying34 (ah rfl hc)) (aG rfl rfl (fun hc=>fJ (ah rfl hc) rfl) (aU rfl (ga rfl rfl (fun h=>gf rfl h)) (aNn ?_)))))
 refine aa _ rfl (fun h1 => ?_) (fun h1 => ?_)
 ·skip
  refine aSR (aA rfl (aNn (ae (an (FZ1 [] Tryz.results6 rfl ?_)))))
  exact ⟨⟨rfl,rfl⟩,_,rfl,fun h=>by cases h⟩
 ·skip
  have hst:l.stubs.l.length≤60:=by simp at h1;omega
  refine aE (ao (aD (aSR (aA rfl (aNn (aJ (aF [2,5] [2,1,0] [0] (fun (k:Nat) st=>k≤u.nodes.l.length∧st=⟨[(2,true,.pointer (some ⟨b0_0,0,none⟩)),(5,true,.int .i64 k)],[u.ok,bl,dp],[Box b0_0 32 u.vs]⟩) (fun k=>u.nodes.l.length-k) rfl (⟨0,Nat.zero_le _,rfl⟩) ?_)))))))
  rintro k st ⟨hk,rfl⟩
  refine aD (aSR (aM rfl (UO 2 rfl rfl (UL 0 tk22 rfl rfl rfl rfl (aU rfl (bw Tryz.underlying22 rfl) (aU rfl (cZ rfl rfl) (aNn ?_)))))))
  refine aa _ rfl (fun h2 => ?_) (fun h2 => ?_)
  ·skip
   have hk':k<u.nodes.l.length:=by simpa using h2
   obtain ⟨x,hx⟩:∃ x,u.nodes.l[k]? = some x:=⟨_,List.getElem?_eq_getElem hk'⟩
   refine aE (ao (aD (aJ (aSR (UO 2 rfl rfl (UL 0 tk22 rfl rfl rfl rfl (aM rfl (bK true rfl rfl (fun _=>ai Tryz.underlying22 tk52 rfl ((aI.f_nodes (.of (ax 0 rfl)))) rfl (ak hx) rfl rfl) (fun h=>absurd h (by decide)) (fun ⟨b6_3,o6_3⟩=>(UO 6 rfl rfl (US 6 tk45 0 rfl rfl rfl rfl rfl (aU rfl (bw Tryz.underlying45 rfl) (aU rfl (fJ rfl rfl) (aM rfl (GO 2 rfl rfl rfl ?_)))))))))))))))
   refine GL 0 tk22 rfl rfl rfl rfl rfl (aG rfl rfl (fun hc=>bJ rfl) (bK _ rfl rfl (fun hc=>ai Tryz.underlying22 tk52 (ah rfl hc) ((aI.f_nodes (.of (ax 1 rfl)))) (ah rfl hc) (ak hx) rfl rfl) (fun _=>⟨(0,0)⟩) (fun ⟨b6_12,o6_12⟩=>(aG rfl rfl (fun hc=>qFA (off:=5) (ah rfl hc)) (aG rfl rfl (fun hc=>dE (o:=5) tk9 (ah rfl hc) (ax 0 rfl) hc rfl) (aG rfl rfl (fun hc=>sm Tryz.underlying9 (ah rfl hc)) (aG rfl rfl (fun hc=>fJ (ah rfl hc) rfl) (aU rfl (ga rfl rfl (fun h=>gf rfl h)) (aM rfl (GO 2 rfl rfl rfl (GL 0 tk22 rfl rfl rfl rfl rfl (aG rfl rfl (fun hc=>bJ rfl) (bK _ rfl rfl (fun hc=>ai Tryz.underlying22 tk52 (ah rfl hc) ((aI.f_nodes (.of (ax 2 rfl)))) (ah rfl hc) (ak hx) rfl rfl) (fun _=>⟨(0,0)⟩) (fun ⟨b6_22,o6_22⟩=>(aG rfl rfl (fun hc=>qFA (off:=8) (ah rfl hc)) ?_)))))))))))))))
   refine aG rfl rfl (fun hc=>dE (o:=8) tk47 (ah rfl hc) (ax 0 rfl) hc rfl) (aG rfl rfl (fun hc=>bw Tryz.underlying47 (ah rfl hc)) (aG rfl rfl (fun hc=>fJ (ah rfl hc) rfl) (aU rfl (ga rfl rfl (fun h=>gf rfl h)) (aM rfl (GO 2 rfl rfl rfl (GL 0 tk22 rfl rfl rfl rfl rfl (aG rfl rfl (fun hc=>bJ rfl) (bK _ rfl rfl (fun hc=>ai Tryz.underlying22 tk52 (ah rfl hc) ((aI.f_nodes (.of (ax 3 rfl)))) (ah rfl hc) (ak hx) rfl rfl) (fun _=>⟨(0,0)⟩) (fun ⟨b6_32,o6_32⟩=>(aG rfl rfl (fun hc=>qFA (off:=10) (ah rfl hc)) (aG rfl rfl (fun hc=>dE (o:=10) tk49 (ah rfl hc) (ax 0 rfl) hc rfl) (aG rfl rfl (fun hc=>bw Tryz.underlying49 (ah rfl hc)) (aG rfl rfl (fun hc=>fJ (ah rfl hc) rfl) (aU rfl (ga rfl rfl (fun h=>gf rfl h)) (aNn ?_)))))))))))))))
   refine aa _ rfl (fun h3 => ?_) (fun h3 => ?_)
   ·skip
    refine aSR (aA rfl (aNn (ae (aO (an (an (aO (an (FZ1 [] Tryz.results6 rfl ?_)))))))))
    exact ⟨⟨rfl,rfl⟩,_,rfl,fun h=>by cases h⟩
   ·skip
    refine aE (cL (ao (az (aM rfl (aU rfl (bp rfl rfl (by omega)) (aA rfl (aNn ?_)))))))
    refine ⟨[2,5],[2,1,0],[0],rfl,?_⟩
    exact ⟨k+1,⟨hk',rfl⟩,by omega⟩
  ·skip
   refine ba (bg (bg (bk (ao (aSR (UL 0 tk32 rfl rfl rfl rfl ?_))))))
   refine aq (caps:=[]) [2,1,0] (false) (by kernel_rfl) true rfl rfl (fun _=>rfl) (fun hc=>rfl) (fun hc=>by rw [List.append_nil];exact m0 u hs) (fun c1 hc1 => ?_)
   refine aA rfl (aNn (ae (FZ1 [] Tryz.results6 rfl ?_)))
   exact ⟨⟨rfl,rfl⟩,_,rfl,fun h=>⟨hc1 rfl h,hst⟩⟩
theorem qp (u:aI) (l:aS) (hul:ra u l):Con Tryz.prog 10 [u.val,l.val] [u.ok,l.ok] [] (YB (∀ c∈bZ u.nodes.l l.nodes.l,c.r.to_.kind=0→0≤fi l.nodes.l c∧fi l.nodes.l c<l.code)):=by
 have hN:=hul.few
 have hlen:=hul.len
 refine EN2 Tryz.func10 rfl (aSR (LT rfl (aT rfl rfl rfl (fun b0_0=>(aHN ?_)))))
 refine LT rfl (aT rfl rfl rfl (fun b0_1=>(aHN ?_)))
 refine aA rfl (aNs (aSR (aA rfl (dG (ao (aJ (aF [2,3,5] [1,0] [0,1] (fun (k:Nat) st=>(k≤u.nodes.l.length∧∀ c∈bZ (u.nodes.l.take k) (l.nodes.l.take k),c.r.to_.kind=0→0≤fi l.nodes.l c∧fi l.nodes.l c<l.code)∧st=⟨[(2,true,.pointer (some ⟨b0_0,0,none⟩)),(3,true,.pointer (some ⟨b0_1,0,none⟩)),(5,true,.int .i64 k)],[u.ok,l.ok],[Box b0_0 32 u.vs,Box b0_1 36 l.vs]⟩) (fun k=>u.nodes.l.length-k) rfl (⟨0,⟨Nat.zero_le _,fun c hc=>absurd hc List.not_mem_nil⟩,rfl⟩) ?_)))))))
 rintro k st ⟨⟨hk,hd⟩,rfl⟩
 refine aD (aSR (aM rfl (UO 2 rfl rfl (UL 0 tk22 rfl rfl rfl rfl (aU rfl (bw Tryz.underlying22 rfl) (aU rfl (cZ rfl rfl) (aNn ?_)))))))
 refine aa _ rfl (fun h1 => ?_) (fun h1 => ?_)
 ·skip
  have hk':k<u.nodes.l.length:=by simpa using h1
  obtain ⟨x,hx⟩:∃ x,u.nodes.l[k]? = some x:=⟨_,List.getElem?_eq_getElem hk'⟩
  obtain ⟨a,ha⟩:∃ a,l.nodes.l[k]? = some a:=⟨_,List.getElem?_eq_getElem (by omega)⟩
  refine aE (ao (aD (aJ (aSR (aA rfl (aNn (aJ (aP (aQ.f_refs (Ent.all (aI.f_nodesA (.of (ax 0 rfl))) hx)) (fun hrl=>(aF [2,3,5,6] [1,0] [0,1] (fun (j:Nat) st=>(j≤x.refs.l.length∧∀ c∈fW a (x.refs.l.take j),c.r.to_.kind=0→0≤fi l.nodes.l c∧fi l.nodes.l c<l.code)∧st=⟨[(2,true,.pointer (some ⟨b0_0,0,none⟩)),(3,true,.pointer (some ⟨b0_1,0,none⟩)),(5,true,.int .i64 k),(6,true,.int .i64 j)],[u.ok,l.ok],[Box b0_0 32 u.vs,Box b0_1 36 l.vs]⟩) (fun j=>x.refs.l.length-j) rfl (⟨0,⟨Nat.zero_le _,fun c hc=>absurd hc List.not_mem_nil⟩,rfl⟩) ?_))))))))))
  rintro j st ⟨⟨hj,he⟩,rfl⟩
  refine aD (aSR (aM rfl (UO 2 rfl rfl (UL 0 tk22 rfl rfl rfl rfl (aM rfl (bK true rfl rfl (fun _=>ai Tryz.underlying22 tk52 rfl ((aI.f_nodes (.of (ax 0 rfl)))) rfl (ak hx) rfl rfl) (fun h=>absurd h (by decide)) (fun ⟨b5_4,o5_4⟩=>(UO 6 rfl rfl (US 6 tk45 0 rfl rfl rfl rfl rfl (aU rfl (bw Tryz.underlying45 rfl) (aU rfl (cZ rfl rfl) (aNn ?_))))))))))))
  refine aa _ rfl (fun h2 => ?_) (fun h2 => ?_)
  ·skip
   have hj':j<x.refs.l.length:=by simpa using h2
   obtain ⟨r,hr⟩:∃ r,x.refs.l[j]? = some r:=⟨_,List.getElem?_eq_getElem hj'⟩
   have hsn:=lz (a:=a) hr
   refine aE (ao (aD (aJ (aSR (UO 2 rfl rfl (UL 0 tk22 rfl rfl rfl rfl (aM rfl (bK true rfl rfl (fun _=>ai Tryz.underlying22 tk52 rfl ((aI.f_nodes (.of (ax 1 rfl)))) rfl (ak hx) rfl rfl) (fun h=>absurd h (by decide)) (fun ⟨b7_3,o7_3⟩=>(UO 6 rfl rfl (US 6 tk45 0 rfl rfl rfl rfl rfl (aM rfl (bK true rfl rfl (fun _=>ai Tryz.underlying45 tk54 rfl ((aQ.f_refs (Ent.all (aI.f_nodesA (.of (ax 2 rfl))) hx))) rfl (ak hr) rfl rfl) (fun h=>absurd h (by decide)) (fun ⟨b7_7,o7_7⟩=>(US 0 tk54 0 rfl rfl rfl rfl rfl ?_)))))))))))))))
   refine LT rfl (aV (zs:=[.int .i64 0,.int .i64 0,.int .i64 0,.int .i64 0,.int .i64 0,.int .i64 0,.int .i64 0]) (by kernel_rfl) rfl (fun b7_9=>(aHN ?_)))
   refine aN rfl (bb 2 tk54 rfl rfl rfl rfl (aHK ?_))
   refine aNs (aSR (UO 1 rfl rfl (UL 2 tk3 rfl rfl rfl rfl (aU rfl (fq rfl rfl) (aM rfl (GO 2 rfl rfl rfl (aG rfl rfl (fun hc=>qFA (off:=0) (ah rfl hc)) (GL 2 tk3 rfl rfl rfl rfl rfl (aG rfl rfl (fun hc=>fq (ah rfl hc) rfl) (aU rfl (ga rfl rfl (fun h=>gf rfl h)) (aNn ?_)))))))))))
   refine aa _ rfl (fun h3 => ?_) (fun h3 => ?_)
   ·skip
    have hno:¬ (r.kind=6∧r.to_.kind=0):=by rintro ⟨e1,e2⟩;simp [e1,e2] at h3
    refine ba (bg (bk (ao (az (aM rfl (aU rfl (bp rfl rfl (by omega)) (aA rfl (aNn ?_))))))))
    refine ⟨[2,3,5,6],[1,0],[0,1],rfl,?_⟩
    refine ⟨j+1,⟨⟨hj',fun c hc h0 => ?_⟩,rfl⟩,by omega⟩
    rw [hsn] at hc
    rcases List.mem_append.1 hc with hc | hc
    · exact he c hc h0
    · split at hc
      · rename_i h6
        rw [List.mem_singleton.1 hc] at h0;exact absurd ⟨h6,h0⟩ hno
      · cases hc
   ·skip
    have hyes:r.kind=6∧r.to_.kind=0:=by simpa using h3
    have hcm:=jg hx ha (List.mem_of_getElem? hr) hyes.1
    obtain ⟨hcc,hcb⟩:=hul.call _ hcm
    have hii:=hcc.idx hyes.2
    have hel:=hcc.elt hyes.2
    have hof:=hcc.off
    have had:=hcc.add
    dsimp only at hii hel hof had
    refine aE (ao (aD (DR [] 15 (VO 0 0 rfl rfl rfl (VL 1 1 tk33 rfl rfl rfl rfl rfl (VO 2 2 rfl rfl rfl (VO 3 1 rfl rfl rfl (VL 4 2 tk3 rfl rfl rfl rfl rfl (eH 5 rfl (by kernel_rfl) true rfl rfl (fun _=>ai Tryz.underlying33 tk3 rfl ((aS.f_nodes (.of (ax 4 rfl)))) rfl (bX (i:=r.to_.n) hii.2 hii.1) (by omega) rfl) (fun h=>absurd h (by decide)) (fun ⟨b9_5,o9_5⟩=>(VT 6 0 tk3 0 rfl rfl rfl rfl rfl rfl (VO 7 2 rfl rfl rfl (VO 8 2 rfl rfl rfl (VL 9 2 tk3 rfl rfl rfl rfl rfl (bV 10 rfl rfl (bp rfl rfl (by omega)) ?_)))))))))))))))
    refine VO 11 6 rfl rfl rfl (VL 12 2 tk3 rfl rfl rfl rfl rfl (bV 13 rfl rfl (bp rfl rfl (by omega)) (bV 14 rfl rfl (eu rfl) (BN (ao (aSR (aM rfl (aU rfl (cZ rfl rfl) (aM rfl (aG rfl rfl (fun hc=>bJ rfl) (GO 3 rfl rfl rfl (GL 1 tk3 rfl rfl rfl rfl rfl (aG rfl rfl (fun hc=>fj (ah rfl hc) (ah rfl hc)) (aU rfl (ga rfl rfl (fun h=>gf rfl h)) (aNn ?_)))))))))))))))
    refine aa _ rfl (fun h4 => ?_) (fun h4 => ?_)
    ·skip
     refine aSR (aA rfl (aNn (ae (aO (an (an (aO (aO (an (an (aO (an (FZ1 [] Tryz.results10 rfl ?_)))))))))))))
     exact ⟨⟨rfl,rfl⟩,_,rfl,fun h=>by cases h⟩
    ·skip
     have hgo:0≤elt l.nodes.l r.to_.n+r.to_.off+r.add∧elt l.nodes.l r.to_.n+r.to_.off+r.add<l.code:=by simpa using h4
     refine aE (cL (ao (az (aM rfl (aU rfl (bp rfl rfl (by omega)) (aA rfl (aNn ?_)))))))
     refine ⟨[2,3,5,6],[1,0],[0,1],rfl,?_⟩
     refine ⟨j+1,⟨⟨hj',fun c hc h0 => ?_⟩,rfl⟩,by omega⟩
     rw [hsn] at hc
     rcases List.mem_append.1 hc with hc | hc
     · exact he c hc h0
     · rw [if_pos hyes.1] at hc
       rw [List.mem_singleton.1 hc];exact hgo
  ·skip
   have hje:j=x.refs.l.length:=by have:=of_decide_eq_false h2;omega
   subst hje
   rw [List.take_length] at he
   refine ba (bg (bg (bk (cL (ao (az (aM rfl (aU rfl (bp rfl rfl (by omega)) (aA rfl (aNn ?_))))))))))
   refine ⟨[2,3,5],[1,0],[0,1],rfl,?_⟩
   refine ⟨k+1,⟨⟨hk',fun c hc => ?_⟩,rfl⟩,by omega⟩
   rw [ly hx ha] at hc
   exact (List.mem_append.1 hc).elim (hd c) (he c)
 ·skip
  have hke:k=u.nodes.l.length:=by have:=of_decide_eq_false h1;omega
  subst hke
  rw [List.take_length,← hlen,List.take_length] at hd
  refine ba (bg (bg (bk (ao (aSR (aA rfl (aNn (ae (FZ1 [] Tryz.results10 rfl ?_)))))))))
  exact ⟨⟨rfl,rfl⟩,_,rfl,fun _=>hd⟩
theorem vS(u:aI)(t:bS)(h:sP u t)(hk:t.kind=1):Con Tryz.prog 11 [u.val,t.val] [] [] fun r _ _=>r=.bool true:=by
 obtain ⟨h1,h2,h3⟩:=h.imp hk
 obtain ⟨kd,n,off,size⟩:=t
 dsimp only at hk h1 h2 h3
 subst hk h2 h3
 refine EN2 Tryz.func11 rfl (aSR (LT rfl (aT rfl rfl rfl (fun b0_0=>(aHN ?_)))))
 refine LT rfl (aT rfl rfl rfl (fun b0_1=>(aHN ?_)))
 refine aA rfl (aNs (aSR (UO 0 rfl rfl (UL 1 tk3 rfl rfl rfl rfl (aU rfl (cS rfl rfl) (aNn ?_))))))
 refine aa _ rfl (fun h1 => ?_) (fun h1 => ?_)
 ·skip
  exact Bool.noConfusion (show false=true from h1)
 ·skip
  refine aE (ao (aD (aSR (UO 0 rfl rfl (UL 1 tk3 rfl rfl rfl rfl (aU rfl (cS rfl rfl) (aNn ?_)))))))
  refine aa _ rfl (fun h2 => ?_) (fun h2 => ?_)
  ·skip
   refine aSR (UO 1 rfl rfl (UL 1 tk3 rfl rfl rfl rfl (aU rfl (fj rfl rfl) (aM rfl (GO 1 rfl rfl rfl (GL 1 tk3 rfl rfl rfl rfl rfl (GO 3 rfl rfl rfl (GL 0 tk23 rfl rfl rfl rfl rfl (aG rfl rfl (fun hc=>bw Tryz.underlying23 (ah rfl hc)) (aG rfl rfl (fun hc=>cZ (ah rfl hc) (ah rfl hc)) (aU rfl (dK rfl rfl (fun h=>gt rfl h)) (aM rfl (GO 2 rfl rfl rfl ?_)))))))))))))
   refine GL 1 tk3 rfl rfl rfl rfl rfl (aG rfl rfl (fun hc=>cS (ah rfl hc) rfl) (aU rfl (dK rfl rfl (fun h=>gt rfl h)) (aM rfl (GO 3 rfl rfl rfl (GL 1 tk3 rfl rfl rfl rfl rfl (aG rfl rfl (fun hc=>cS (ah rfl hc) rfl) (aU rfl (dK rfl rfl (fun h=>gt rfl h)) (aA rfl (aNn (ae (an (FZ1 [] Tryz.results11 rfl ?_))))))))))))
   exact congrArg Value.bool (by simp;omega)
  ·skip
   exact Bool.noConfusion (show true=false from h2)
end Go.Proofs.YtgkbbdgklpabpaaGreatDoor

