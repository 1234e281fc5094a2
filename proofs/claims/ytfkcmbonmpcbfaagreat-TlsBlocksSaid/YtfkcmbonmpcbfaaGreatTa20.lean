/- Parts of the proof, in build order. No condition. -/
import Derived.Test.YtfkcmbonmpcbfaaGreatTa19
import Derived.Test.YtfkcmbonmpcbfaaGreatTa05
import Derived.Test.YtfkcmbonmpcbfaaGreatTa10
import Derived.Test.YtfkcmbonmpcbfaaGreatTa04
import Derived.Test.YtfkcmbonmpcbfaaGreatTa16
import Derived.Test.YtfkcmbonmpcbfaaGreatTa06
import Derived.Lib.Hide
import Derived.Test.YtfkcmbonmpcbfaaGreatTa09
set_option linter.unusedSimpArgs false
set_option linter.unusedVariables false
set_option maxHeartbeats 1000000
set_option maxRecDepth 20000
namespace Go.Proofs.YtfkcmbonmpcbfaaGreat
open Go.RowKit Go.Lp Go.Sy Go.Lv
open Go.Proofs.Tryz
attribute [local irreducible] aL aB awp aC fwp Quiet
theorem ph{R:Res}{w:World}{S:aW} : ∀ (L:List Res) (F:aW),(dN R (bR L)).holds w S F→(bR (L++[R])).holds w S F
 | [],F,h=>h
 | A::L,F,h=>en (lV h) fun F h'=>ph L F h'
theorem aaL{w:World}{S F:aW}{E:TypeId}{sz:Nat}(h:(az (.slice none 0 0) E sz []).holds w S F):(bR []).holds w S F:=by
 rcases h with ⟨_,_,h⟩ | ⟨B,c,h,_⟩
 · exact h
 · cases h
theorem vW{M:Mem}{vs:List Value}{k:Nat}{x:Cell}{u:Value}(hx:M[k]? = some x):b7 M (vs.set k u)=(b7 M vs).set k (xb x.1 u):=by
 apply List.ext_getElem?
 intro i
 unfold b7
 rw [List.getElem?_zipWith,List.getElem?_set,List.getElem?_set,List.getElem?_zipWith,List.length_zipWith]
 by_cases h:k=i
 · subst h
   have:=(List.getElem?_eq_some_iff.1 hx).1
   rw [if_pos rfl,if_pos rfl,hx]
   by_cases hl:k<vs.length
   · rw [if_pos hl,if_pos (by omega)]
   · rw [if_neg hl,if_neg (by omega)]
 · rw [if_neg h,if_neg h]
theorem xI{M:Mem}{ws:List Value}{k:Nat}{x:Cell}{u:Value}(hx:M[k]? = some x)(hw:ws.length=k):ed (M.take (k+1)) (ws++[u])=ed (M.take k) ws++[yX x u]:=by
 have hk:=(List.getElem?_eq_some_iff.1 hx).1
 unfold ed
 rw [List.take_add_one,hx,List.zipWith_append (by rw [List.length_take,hw];omega)];rfl
theorem va(p:Nat)(M:Mem)(vs:List Value)(hvs:OkV M vs)(v:Value)(hM:dC M)(hl:M.length≤4096) :
   Con Tryz.prog 31 [.pointer (some ⟨p,0,none⟩)] [] (opn p v M vs) fun r ps hp=>ps=[]∧∃ p2 v2 ws,ws.length=M.length∧r=.pointer (some ⟨p2,0,none⟩)∧hp=opn p v M vs++opn p2 v2 M ws:=by
 have hlr:=eh hvs.len
 refine EN1 Tryz.func31 rfl (aSR (aA rfl (aNn (aSR (aM rfl (UN rfl rfl (UO 0 rfl rfl (UL 0 tk115 rfl rfl rfl rfl (LF rfl (EC [] [1] rfl (uN v (b7 M vs) (by omega)) ?_))))))))))
 rintro _ _ _ ⟨rfl,ad1,c1,rfl,rfl⟩
 refine aST ?_
 refine aU rfl (eH (l:=[(0,.tmp 10)]) (zs:=[.slice none 0 0]) (pl:=[(0,1)]) (by kernel_rfl) (by kernel_rfl) (by kernel_rfl) rfl rfl rfl) (LT rfl (bC rfl rfl rfl (fun b1_6=>(aHN ?_))))
 refine aA rfl (aNs (aSR (aM rfl (UN rfl rfl (UO 0 rfl rfl (UL 4 tk115 rfl rfl rfl rfl (aU rfl (dA 3 Tryz.underlying115 rfl rfl) (aM rfl (aNn (ao (dO 5 1 (eV 5 (bR []) rfl (fun w S F h=>aaL h) ?_))))))))))))
 refine aP [3,16,17,18] [] [0,1,2,3,4,5] (fun (k:Nat) s=>k≤M.length∧∃ ws,ws.length=k∧s=⟨[(3,true,.pointer (some ⟨b1_6,0,none⟩)),(16,true,.slice ad1 (b7 M vs).length c1),(17,true,.int .i64 M.length),(18,true,.int .i64 k)],[],opn p v M vs++[az (.slice ad1 (b7 M vs).length c1) 135 6 (b7 M (ws++vs.drop k)),Box b1_6 117 [.slice ad1 (b7 M vs).length c1],bR (ed (M.take k) ws)]⟩) (fun k=>M.length-k) rfl (⟨0,Nat.zero_le _,[],rfl,by rw [hlr];rfl⟩) ?_
 rintro k s ⟨hk,ws,hws,rfl⟩
 refine aSR (aU rfl (bd rfl rfl) (aNs ?_))
 refine ah _ rfl (fun h1 => ?_) (fun h1 => ?_)
 ·skip
  have hk':k<M.length:=by simpa using h1
  obtain ⟨q,hq⟩:∃ q,M[k]? = some q:=⟨M[k]'hk',by simp⟩
  obtain ⟨u,hu⟩:∃ u,vs[k]? = some u:=⟨_,List.getElem?_eq_getElem (by have:=hvs.len;omega)⟩
  obtain ⟨ad0,cu,rfl⟩:=hvs.sl hq hu
  have hqo:=hM.ok hq
  have hql:=hM.len q (List.mem_of_getElem? hq)
  have hfl:(b7 M (ws++vs.drop k)).length=M.length:=eh (by have:=hvs.len;simp;omega)
  have hfu:(ws++vs.drop k)[k]? = some (.slice ad0 q.2.length cu):=by rw [List.getElem?_append_right (by omega),hws,Nat.sub_self,List.getElem?_drop,Nat.add_zero,hu]
  have hrow:=ef hq hfu
  refine dQ 3 rfl (fun h0=>by have h1:=congrArg List.length h0;rw [hfl,List.length_nil] at h1;omega) (fun B2 cp2 hv hcp2 => ?_)
  simp only [Value.slice.injEq] at hv
  obtain ⟨rfl,_,rfl⟩:=hv
  refine ai (ak (aq (ao (aSR (aM rfl ?_)))))
  refine aU rfl (ez k el115 rfl rfl rfl (by rw [hlr];exact hk')) ?_
  refine aU rfl (ba (v:=.slice (some ⟨B2,0,none⟩) (b7 M vs).length c1) 3 k 0 tk135 rfl rfl hrow rfl rfl) (LT rfl (bg (zs:=[.int .i64 0,.int .i64 0,.int .i64 0,.int .i64 0,.int .i64 0,.slice none 0 0]) (by kernel_rfl) rfl (fun b4_3=>(aHN ?_))))
  refine aA rfl (aJ rfl (aV 6 tk135 rfl rfl rfl rfl (aHK ?_)))
  refine aNn (fw (StE.ofStars 2 k rfl (fS hq hu)) ?_)
  show awp _ _ _ _ ⟨_,_,[_,_,_,_,_,_,_,_]⟩
  refine DC [7,10] [10] [b1_6,b4_3] 11 (CF 0 rfl rfl rfl (ax rfl) (CF 1 rfl rfl rfl (b8 rfl) (CF 2 rfl rfl rfl (qFA (off:=0) rfl) ?_)))
  refine cq 3 4 rfl (by kernel_rfl) true rfl rfl (by simp) tk115 (fun _=>rfl) rfl rfl ?_
  refine CF 4 rfl rfl rfl (ax rfl) (CF 5 rfl rfl rfl (qFA (off:=5) rfl) ?_)
  refine cq 6 6 rfl (by kernel_rfl) true rfl rfl (by simp) tk89 (fun _=>rfl) rfl rfl ?_
  refine bP 7 [] (by kernel_rfl) (bo ?_ bD)
  refine cj 7 rfl rfl (Eff.framed (q:=false) [2] rfl rfl (eK 4 rfl rfl (eK 6 rfl rfl iK)) ?_)
  refine id (EC [] [0] rfl (uL _ (q.2.map pL) (by rw [List.length_map];omega)) ?_)
  rintro _ _ _ ⟨rfl,ad5,c5,rfl,rfl⟩
  refine fA (CST ?_)
  refine CF 8 rfl rfl rfl (ez k el115 rfl rfl rfl (by rw [hlr];exact hk')) ?_
  refine CF 9 rfl rfl rfl (qFA (off:=5) rfl) ?_
  refine bP 10 [] (by kernel_rfl) (bo ?_ bD)
  refine cj 10 rfl rfl (Eff.wild (q:=false) (cA 3 k 5 tk89 rfl rfl rfl hrow rfl (.v rfl .nil) rfl (by decide) (CST ?_)))
  refine ec (by kernel_rfl) (bb (ak ?_))
  refine fw (StE.toStars 2 7 k (L:=ed M vs) rfl rfl (by rw [gn hvs.len];exact hk') rfl) ?_
  rw [pa (fS hq hu)]
  refine fw (StE.star 8 5 rfl rfl rfl) ?_
  refine eV 8 (bR (ed (M.take (k+1)) (ws++[.slice ad5 q.2.length c5]))) rfl (fun w S F h=>by rw [xI hq hws];exact ph _ _ (by rw [List.length_map] at h;exact h)) ?_
  refine ae (aU rfl (aO rfl rfl (by omega)) (aM rfl (aNn ?_)))
  refine ⟨[3,16,17,18],[],[0,1,2,3,4,8],rfl,?_⟩
  refine ⟨k+1,⟨by omega,ws++[.slice ad5 q.2.length c5],by simp [hws],?_⟩,by omega⟩
  have hkv:k<vs.length:=by have:=hvs.len;omega
  have e:ws++[.slice ad5 q.2.length c5]++vs.drop (k+1)=(ws++vs.drop k).set k (.slice ad5 q.2.length c5):=by
    rw [List.set_append_right _ _ (by omega),hws,Nat.sub_self,List.drop_eq_getElem_cons hkv,List.set_cons_zero,List.append_assoc];rfl
  rw [e,vW hq,List.length_map];rfl
 ·skip
  refine aQ (aR (aR (aX (ak (aSR (aM rfl (aA rfl (aNn (aj (FZ1 [0,1,2,4,3,5] Tryz.results31 rfl ?_))))))))))
  have e:k=M.length:=by simp at h1;omega
  subst e
  have e2:vs.drop M.length=[]:=List.drop_of_length_le (by have:=hvs.len;omega)
  rw [e2,List.append_nil,List.take_length]
  exact ⟨rfl,b1_6,_,ws,hws,rfl,rfl⟩
def gI(n t:Int):Int:=if ((t<1∨1099511627776<t)∨n < -1152921504606846976)∨1152921504606846976<n then n else n-n % t
def upI(n t:Int):Int:=if gI n t=n then n else gI n t+t
theorem td{n t:Int} : gI n t≤n∧(gI n t=n∨(1≤t∧t≤1099511627776∧n-t<gI n t ∧ -1152921504606846976≤n∧n≤1152921504606846976)):=by
 unfold gI
 split
 · omega
 · have:=Int.emod_nonneg n (show t≠0 by omega)
   have:=Int.emod_lt_of_pos n (show 0<t by omega)
   omega
theorem xP(n t:Int)(hn:I64 n):Con Tryz.prog 244 [.int .i64 n,.int .i64 t] [] [] fun r _ _=>r=.int .i64 (gI n t):=by
 unfold I64 at hn
 refine EN2 Tryz.func244 rfl (aSR (aA rfl (aNs (aSR (aM rfl (aU rfl (bd rfl rfl) (aM rfl (aG rfl rfl (fun hc=>ax rfl) (aG rfl rfl (fun hc=>db (aa rfl hc) rfl) (aU rfl (cC rfl rfl (fun h=>gf rfl h)) (aM rfl (aG rfl rfl (fun hc=>ax rfl) ?_))))))))))))
 refine aG rfl rfl (fun hc=>bd (aa rfl hc) rfl) (aU rfl (cC rfl rfl (fun h=>gf rfl h)) (aM rfl (aG rfl rfl (fun hc=>ax rfl) (aG rfl rfl (fun hc=>db (aa rfl hc) rfl) (aU rfl (cC rfl rfl (fun h=>gf rfl h)) (aNn ?_))))))
 refine ah _ rfl (fun h1 => ?_) (fun h1 => ?_)
 ·skip
  have hb:((t<1∨1099511627776<t)∨n < -1152921504606846976)∨1152921504606846976<n:=by simp at h1;omega
  refine aSR (aM rfl (aA rfl (aNn (aj (aK (FZ1 [] Tryz.results244 rfl ?_))))))
  unfold gI;rw [if_pos hb]
 ·skip
  have hb:¬ (((t<1∨1099511627776<t)∨n < -1152921504606846976)∨1152921504606846976<n):=by simp at h1;omega
  have hm1:=Int.emod_nonneg n (show t≠0 by omega)
  have hm2:=Int.emod_lt_of_pos n (show 0<t by omega)
  have ht:n.tmod t=n % t∨n.tmod t=n % t-t:=by rw [Int.tmod_eq_emod];split<;>omega
  refine ai (ak (aSR (aM rfl (aM rfl (aU rfl (mz rfl rfl (by omega)) (aA rfl (aNs (aSR (aM rfl (aU rfl (bd rfl rfl) (aNn ?_)))))))))))
  refine ah _ rfl (fun h2 => ?_) (fun h2 => ?_)
  ·skip
   have ht2:n.tmod t+t=n % t:=by simp at h2;omega
   refine ae (aM rfl (aM rfl (aU rfl (aO rfl rfl (by omega)) (aA rfl (aNn (aSR (aM rfl (aM rfl (aU rfl (bQ rfl rfl (by omega)) (aA rfl (aNn (aj (FZ1 [] Tryz.results244 rfl ?_)))))))))))))
   unfold gI;rw [if_neg hb,← ht2]
  ·skip
   have ht2:n.tmod t=n % t:=by simp at h2;omega
   refine ai (ak (aSR (aM rfl (aM rfl (aU rfl (bQ rfl rfl (by omega)) (aA rfl (aNn (aj (FZ1 [] Tryz.results244 rfl ?_)))))))))
   unfold gI;rw [if_neg hb,← ht2]
theorem ru(n t:Int)(hn:I64 n):Con Tryz.prog 141 [.int .i64 n,.int .i64 t] [] [] fun r _ _=>r=.int .i64 (upI n t):=by
 have hd := @td n t
 unfold I64 at hn
 refine EN2 Tryz.func141 rfl (aSR (aA rfl (aNs (aSR (aM rfl (aM rfl (aU rfl (Q0 rfl (xP n t hn)) (aA rfl (aNn (aSR (aM rfl (aM rfl (aU rfl (dE rfl rfl) (aNn ?_))))))))))))))
 refine ah _ rfl (fun h1 => ?_) (fun h1 => ?_)
 ·skip
  have hb:gI n t≠n:=by simpa using h1
  refine aSR (aM rfl (aM rfl (aU rfl (aO rfl rfl (by omega)) (aA rfl (aNn (aj (aK (FZ1 [] Tryz.results141 rfl ?_))))))))
  unfold upI;rw [if_neg hb]
 ·skip
  have hb:gI n t=n:=by simpa using h1
  refine ai (ak (aSR (aM rfl (aA rfl (aNn (aj (FZ1 [] Tryz.results141 rfl ?_)))))))
  unfold upI;rw [if_pos hb]
def gS(x n:Int):Bool:=decide (0≤x) && decide (x≤1099511627776) && decide (0≤n) && decide (n≤1099511627776-x)
theorem uq(x n:Int)(hx:I64 x)(hn:I64 n):Con Tryz.prog 267 [.agg #[.int .i64 x,.int .i64 n]] [] [] fun v _ _=>v=.bool (gS x n):=by
 unfold I64 at hx hn
 refine EN1 Tryz.func267 rfl (aSR (LT rfl (bC rfl rfl rfl (fun b0_0=>(aHN ?_)))))
 refine aA rfl (aNn (aSR (UO 0 rfl rfl (UL 0 tk3 rfl rfl rfl rfl (aU rfl (dY rfl rfl) (aM rfl (GO 0 rfl rfl rfl (GL 0 tk3 rfl rfl rfl rfl rfl (aG rfl rfl (fun hc=>di (aa rfl hc) rfl) (aU rfl (aT rfl rfl (fun h=>gt rfl h)) (aM rfl (GO 1 rfl rfl rfl ?_))))))))))))
 refine GL 0 tk3 rfl rfl rfl rfl rfl (aG rfl rfl (fun hc=>dY (aa rfl hc) rfl) (aU rfl (aT rfl rfl (fun h=>gt rfl h)) (aM rfl (GO 1 rfl rfl rfl (GL 0 tk3 rfl rfl rfl rfl rfl (GO 0 rfl rfl rfl (GL 0 tk3 rfl rfl rfl rfl rfl ?_)))))))
 refine aG rfl rfl (fun hc=>bQ rfl (aa rfl hc) (by (first | omega | (simp at hc;omega)))) ?_
 refine aG rfl rfl (fun hc=>di (aa rfl hc) (aa rfl hc)) (aU rfl (aT rfl rfl (fun h=>gt rfl h)) (aA rfl (aNn (aj (FZ1 [] Tryz.results267 rfl ?_)))))
 rfl
theorem ot(x n:Int)(h:I64 (x+n)):Con Tryz.prog 269 [.agg #[.int .i64 x,.int .i64 n]] [] [] fun v _ _=>v=.int .i64 (x+n):=by
 unfold I64 at h
 refine EN1 Tryz.func269 rfl (aSR (LT rfl (bC rfl rfl rfl (fun b0_0=>(aHN ?_)))))
 refine aA rfl (aNn (aSR (UO 0 rfl rfl (UL 0 tk3 rfl rfl rfl rfl (UO 1 rfl rfl (UL 0 tk3 rfl rfl rfl rfl (aU rfl (aO rfl rfl (by omega)) (aA rfl (aNn (aj (FZ1 [] Tryz.results269 rfl ?_)))))))))))
 rfl
abbrev Span:=Int × Int
def ej(p:Span):List D:=[.v (.int .i64 p.1),.v (.int .i64 p.2)]
theorem fK{x n:Int} : gS x n=true↔0≤x∧x≤1099511627776∧0≤n∧n≤1099511627776-x:=by
 simp only [gS,Bool.and_eq_true,decide_eq_true_eq,and_assoc]
def pK(l:List Span)(i:Nat)(p:Span):Bool := !((!gS p.1 p.2 || decide (p.2=0)) || (decide (0<(i:Int)) && decide (p.1≤(l.getD (i-1) (0,0)).1+(l.getD (i-1) (0,0)).2)))
def rgB(l:List Span):Bool:=l.zipIdx.all fun x=>pK l x.2 x.1
theorem kP{l:List Span} : rgB l=true↔∀ (j:Nat) (p:Span),l[j]? = some p→pK l j p=true:=by
 unfold rgB
 rw [List.all_eq_true]
 constructor
 · intro h j p hp
   exact h (p,j) (by rw [List.mem_zipIdx_iff_getElem?];exact hp)
 · rintro h ⟨p,j⟩ hx
   exact h j p (by rw [List.mem_zipIdx_iff_getElem?] at hx;exact hx)
theorem jW{l:List Span}{i:Nat}{p:Span}(h:pK l i p=true):gS p.1 p.2=true:=by
 unfold pK at h
 cases hv:gS p.1 p.2 with
 | true=>rfl
 | false=>rw [hv] at h;simp at h
theorem tZ(l:List Span)(ad:Option Addr)(c:Nat)(hl:∀ p∈l,I64 p.1∧I64 p.2):Con Tryz.prog 266 [.slice ad l.length c] [Sh (.slice ad l.length c) (.sl (l.map ej))] [] fun v _ _=>v=.bool (rgB l):=by
 have HL:=Lib.hid hl
 clear hl
 refine EN1 Tryz.func266 rfl (qW 0 rfl (fun hlen => ?_))
 rw [List.length_map] at hlen
 refine aSR (aA rfl (aNs (aSR (aM rfl (aU rfl (aY Tryz.underlying32 rfl) (aM rfl (aNn (ao (aP [0,5,6,7] [0] [] (fun (k:Nat) s=>(k≤l.length∧∀ j p,j<k→l[j]? = some p→pK l j p=true)∧s=⟨[(0,true,.slice ad l.length c),(5,true,.slice ad l.length c),(6,true,.int .i64 l.length),(7,true,.int .i64 k)],[Sh (.slice ad l.length c) (.sl (l.map ej))],[]⟩) (fun k=>l.length-k) rfl (⟨0,⟨Nat.zero_le _,by omega⟩,rfl⟩) ?_)))))))))
 rintro k s ⟨⟨hk,hok⟩,rfl⟩
 refine aSR (aU rfl (bd rfl rfl) (aNs ?_))
 refine ah _ rfl (fun h1 => ?_) (fun h1 => ?_)
 ·skip
  have hk':k<l.length:=by simpa using h1
  obtain ⟨p,hp⟩:∃ p,l[k]? = some p:=⟨l[k]'hk',by simp⟩
  have hpI:=HL.out p (List.mem_of_getElem? hp)
  have hv0:0<k→gS (l.getD (k-1) (0,0)).1 (l.getD (k-1) (0,0)).2=true:=fun h0=>jW (hok (k-1) _ (by omega) (by simp [List.getD,show k-1<l.length by omega]))
  refine ai (ak (aq (ao (aSR (aM rfl ?_)))))
  refine gb true rfl rfl (fun _=>fT Tryz.underlying32 tk222 rfl (aF 0 rfl) rfl (row:=ej p) (by simp [hp]) rfl rfl) (fun h=>absurd h (by decide)) (fun ⟨b3_1,o3_1⟩ => ?_)
  refine aU rfl (ei (o:=0) (v:=.agg #[.int .i64 p.1,.int .i64 p.2]) tk222 rfl (aF 0 rfl) rfl rfl) (LT rfl (bg (zs:=[.int .i64 0,.int .i64 0]) (by kernel_rfl) rfl (fun b3_3=>(aHN ?_))))
  refine aA rfl (aJ rfl (aV 0 tk222 rfl rfl rfl rfl (aHK ?_)))
  refine aNs (DR [] 23 (VL 0 0 tk222 rfl rfl rfl rfl rfl (bV 1 rfl rfl (Q0 rfl (uq _ _ hpI.1 hpI.2)) (bV 2 rfl rfl (bX rfl) (VM 3 rfl rfl (bW 4 rfl rfl rfl (fun hc=>qFA (off:=1) rfl) (bW 5 rfl rfl rfl (fun hc=>bS 0 tk3 (aa rfl hc) rfl rfl) (bW 6 rfl rfl rfl (fun hc=>bp (aa rfl hc) rfl) (bV 7 rfl rfl (cC rfl rfl (fun h=>gf rfl h)) (VM 8 rfl rfl (bW 9 rfl rfl rfl (fun hc=>ax rfl) (bW 10 rfl rfl rfl (fun hc=>db (aa rfl hc) rfl) (bW 11 rfl rfl rfl (fun hc=>ax (aa rfl hc)) (bW 12 rfl rfl rfl (fun hc=>ax rfl) (bW 13 rfl rfl rfl (fun hc=>ax rfl) ?_)))))))))))))))
  refine bW 14 rfl rfl rfl (fun hc=>bQ (aa rfl hc) rfl (by (first | omega | (simp at hc;omega)))) ?_
  refine nf 15 rfl (by kernel_rfl) _ rfl rfl (fun hc=>fT Tryz.underlying32 tk222 (aa rfl hc) (aF 1 rfl) (aa rfl hc) (i:=k-1) (row:=ej (l.getD (k-1) (0,0))) (by have h:=gT hc;simp at h;simp [List.getD,show k-1<l.length by omega]) (by have h:=gT hc;simp at h;omega) rfl) (fun _=>⟨(0,0)⟩) (fun ⟨b4_15,o4_15⟩ => ?_)
  refine bW 16 rfl rfl rfl (fun hc=>ei (o:=0) (v:=.agg #[.int .i64 (l.getD (k-1) (0,0)).1,.int .i64 (l.getD (k-1) (0,0)).2]) tk222 (aa rfl hc) (aF 0 rfl) hc rfl) ?_
  refine bW 17 rfl rfl rfl (fun hc=>Q0 (aD (aa rfl hc) rfl) (ot _ _ (by have h:=gT hc;simp at h;have:=fK.1 (hv0 h);unfold I64;omega))) ?_
  refine bW 18 rfl rfl rfl (fun hc=>qFA (off:=0) rfl) (bW 19 rfl rfl rfl (fun hc=>bS 0 tk3 (aa rfl hc) rfl rfl) (bW 20 rfl rfl rfl (fun hc=>dY (aa rfl hc) (aa rfl hc)) (bW 21 rfl rfl rfl (fun hc=>aT (aa rfl hc) rfl (fun h=>gt hc h)) (bV 22 rfl rfl (cC rfl rfl (fun h=>gf rfl h)) (BN (ak ?_))))))
  refine ah _ rfl (fun h2 => ?_) (fun h2 => ?_)
  ·skip
   refine aSR (aA rfl (aNn (aj (bF (aK (aK (bF (aK (FZ1 [] Tryz.results266 rfl ?_)))))))))
   have hno:pK l k p=false:=by unfold pK;rw [h2];rfl
   show Value.bool false=.bool (rgB l)
   congr 1;symm
   cases hr:rgB l with
   | false=>rfl
   | true=>rw [kP.1 hr k p hp] at hno;cases hno
  ·skip
   refine ai (bb (ak (ae (aU rfl (aO rfl rfl (by omega)) (aM rfl (aNn ?_))))))
   refine ⟨[0,5,6,7],[0],[],rfl,?_⟩
   refine ⟨k+1,⟨⟨by omega,fun j q hj hq => ?_⟩,rfl⟩,by omega⟩
   rcases Nat.lt_succ_iff_lt_or_eq.1 hj with h | rfl
   · exact hok j q h hq
   · obtain rfl:p=q:=by rw [hp] at hq;injection hq
     unfold pK;rw [h2];rfl
 ·skip
  refine aQ (aR (aR (aX (ak (aSR (aA rfl (aNn (aj (FZ1 [] Tryz.results266 rfl ?_)))))))))
  show Value.bool true=.bool (rgB l)
  rw [kP.2 (fun j p hp=>hok j p (by have:=(List.getElem?_eq_some_iff.1 hp).1;simp at h1;omega) hp)]
def eG(f u:Int):List Span:=if f<u then [(f,u-f)] else []
theorem wV(f u:Int)(b:Nat)(ad:Option Addr)(c:Nat)(rows:List Span)(hI:I64 (u-f))(hlen:rows.length≤999999) :
   Con Tryz.prog 268 [.int .i64 f,.int .i64 u,.pointer (some ⟨b,0,none⟩)] [] [Box b 32 [.slice ad rows.length c],az (.slice ad rows.length c) 222 2 (rows.map ej)]
     fun r ps' hp'=>r=.tuple #[]∧ps'=[]∧∃ ad' c',hp'=[Box b 32 [.slice ad' (rows++eG f u).length c'],az (.slice ad' (rows++eG f u).length c') 222 2 ((rows++eG f u).map ej)]:=by
 unfold I64 at hI
 refine EN3 Tryz.func268 rfl (aSR (aM rfl (aM rfl (aU rfl (bd rfl rfl) (aNn ?_)))))
 refine ah _ rfl (fun h1 => ?_) (fun h1 => ?_)
 ·skip
  refine ae (UL 0 tk32 rfl rfl rfl rfl (aM rfl (aM rfl (aM rfl (aU rfl (bQ rfl rfl (by omega)) (aU rfl (eH (l:=[(0,.tmp 9),(1,.tmp 12)]) (zs:=[.int .i64 0,.int .i64 0]) (pl:=[(0,1),(1,1)]) (by kernel_rfl) (by kernel_rfl) (by kernel_rfl) rfl rfl rfl) (LT rfl (WL (zs:=[.int .i64 0,.int .i64 0]) el32 rfl rfl rfl (.more rfl (.v rfl (.v rfl .nil)) .nil) rfl rfl (fun v1_6=>(aHN ?_))))))))))
  refine aJ rfl (cB 1 el32 rfl rfl rfl rfl (dK 2 el32 rfl (by simp)) (by first | assumption | simp) (by simp;omega) (rows.length+1) (by simp) (fun v1_7 c1_7 => ?_))
  refine aHK ?_
  refine aJ rfl (aV 0 tk32 rfl rfl rfl rfl (aHK ?_))
  refine bE (FZ0 [0,1] Tryz.results268 ?_)
  refine ⟨rfl,rfl,v1_7,c1_7,?_⟩
  have:eG f u=[(f,u-f)]:=by unfold eG;rw [if_pos (by simpa using h1)]
  rw [this,List.map_append,List.length_append];rfl
 ·skip
  refine ai (FZ0 [0,1] Tryz.results268 ?_)
  refine ⟨rfl,rfl,ad,c,?_⟩
  have:eG f u=[]:=by unfold eG;rw [if_neg (by simpa using h1)]
  rw [this,List.append_nil];rfl
def gp(x n:Int)(l:List Span):List Span:=l.flatMap fun p=>eG p.1 (min (p.1+p.2) x)++eG (max p.1 (x+n)) (p.1+p.2)
theorem yx{x n:Int}{l:List Span}{k:Nat}{p:Span}(hp:l[k]? = some p):gp x n (l.take (k+1))=(gp x n (l.take k)++eG p.1 (min (p.1+p.2) x))++eG (max p.1 (x+n)) (p.1+p.2):=by
 unfold gp
 rw [List.take_add_one,hp]
 simp [List.flatMap_append,List.append_assoc]
theorem lJ(f u:Int):(eG f u).length≤1:=by unfold eG;split<;>simp
theorem aad(x n:Int)(l:List Span):(gp x n l).length≤2*l.length:=by
 induction l with
 | nil=>simp [gp]
 | cons p l ih =>
   have e:gp x n (p::l)=(eG p.1 (min (p.1+p.2) x)++eG (max p.1 (x+n)) (p.1+p.2))++gp x n l:=rfl
   have:=lJ p.1 (min (p.1+p.2) x)
   have:=lJ (max p.1 (x+n)) (p.1+p.2)
   rw [e];simp only [List.length_append,List.length_cons];omega
theorem acU(l:List Span)(ad:Option Addr)(c:Nat)(x n:Int)(hr:rgB l=true)(hl:∀ p∈l,I64 p.1∧I64 p.2)(hv:gS x n=true)(hn:n≠0)(hll:l.length≤400000) :
   Con Tryz.prog 193 [.slice ad l.length c,.agg #[.int .i64 x,.int .i64 n]] [Sh (.slice ad l.length c) (.sl (l.map ej))] []
     fun r ps' hp'=>ps'=[]∧∃ ad' c',r=.slice ad' (gp x n l).length c'∧hp'=[az (.slice ad' (gp x n l).length c') 222 2 ((gp x n l).map ej)]:=by
 have HL:=Lib.hid hl
 have HV:=Lib.hid (fK.1 hv)
 have HR:=Lib.hid (kP.1 hr)
 have HVV:=Lib.hid hv
 have HRR:=Lib.hid hr
 have HN:=Lib.hid hn
 clear hl hv hr hn
 refine EN2 Tryz.func193 rfl (qW 0 rfl (fun hlen => ?_))
 rw [List.length_map] at hlen
 refine aSR (LT rfl (bC rfl rfl rfl (fun b0_0=>(aHN ?_))))
 refine aA rfl (aNs (aSR (aM rfl (aU rfl (Q1 rfl (tZ l ad c HL.out) 0 rfl) (aU rfl (bX rfl) (aM rfl (aG rfl rfl (fun hc=>bS 0 tk222 rfl rfl rfl) ?_)))))))
 refine aG rfl rfl (fun hc=>Q0 (aD (aa rfl hc) rfl) (uq _ _ (by have:=HV.out;unfold I64;omega) (by have:=HV.out;unfold I64;omega))) ?_
 refine aG rfl rfl (fun hc=>bX (aa rfl hc)) (aU rfl (cC rfl rfl (fun h=>gf rfl h)) (aM rfl (GO 1 rfl rfl rfl (GL 0 tk3 rfl rfl rfl rfl rfl (aG rfl rfl (fun hc=>bp (aa rfl hc) rfl) (aU rfl (cC rfl rfl (fun h=>gf rfl h)) (aNn ?_)))))))
 refine ah _ rfl (fun h1 => ?_) (fun h1 => ?_)
 ·skip
  exfalso
  rw [HRR.out,HVV.out] at h1
  have:=HN.out
  simp at h1;omega
 ·skip
  refine ai (ak (aSR (LT rfl (bg (zs:=[.slice none 0 0]) (by kernel_rfl) rfl (fun b3_0=>(aHN ?_))))))
  refine aNn (aSR (aU rfl (dy (l:=[.tmp 5]) rfl) (aA rfl (aNs (aSR (aM rfl (aU rfl (aY Tryz.underlying32 rfl) (aM rfl (aNn (ao (dO 222 2 (aP [3,5,6,25,26,27] [0] [0,1,2] (fun (k:Nat) s=>k≤l.length∧∃ ad' c',s=⟨[(3,true,.pointer (some ⟨b0_0,0,none⟩)),(5,true,.pointer (some ⟨b3_0,0,none⟩)),(6,true,.func (.func 268) #[] #[.pointer (some ⟨b3_0,0,none⟩)]),(25,true,.slice ad l.length c),(26,true,.int .i64 l.length),(27,true,.int .i64 k)],[Sh (.slice ad l.length c) (.sl (l.map ej))],[Box b0_0 222 [.int .i64 x,.int .i64 n],Box b3_0 32 [.slice ad' (gp x n (l.take k)).length c'],az (.slice ad' (gp x n (l.take k)).length c') 222 2 ((gp x n (l.take k)).map ej)]⟩) (fun k=>l.length-k) rfl (⟨0,Nat.zero_le _,none,0,rfl⟩) ?_))))))))))))
  rintro k s ⟨hk,ad',c',rfl⟩
  refine aSR (aU rfl (bd rfl rfl) (aNs ?_))
  refine ah _ rfl (fun h2 => ?_) (fun h2 => ?_)
  ·skip
   have hk':k<l.length:=by simpa using h2
   obtain ⟨p,hp⟩:∃ p,l[k]? = some p:=⟨l[k]'hk',by simp⟩
   have hpv:=fK.1 (jW (HR.out k p hp))
   obtain ⟨q1,q2,q3,q4⟩:=hpv
   obtain ⟨q5,q6,q7,q8⟩:=HV.out
   have hcl:=aad x n (l.take k)
   have htl:(l.take k).length≤l.length:=List.length_take_le' _ _
   have hkl:=lJ p.1 (min (p.1+p.2) x)
   refine ai (ak (aq (ao (aSR ?_))))
   refine gb true rfl rfl (fun _=>fT Tryz.underlying32 tk222 rfl (aF 0 rfl) rfl (row:=ej p) (by simp [hp]) rfl rfl) (fun h=>absurd h (by decide)) (fun ⟨b7_0,o7_0⟩ => ?_)
   refine aU rfl (ei (o:=0) (v:=.agg #[.int .i64 p.1,.int .i64 p.2]) tk222 rfl (aF 0 rfl) rfl rfl) (LT rfl (bg (zs:=[.int .i64 0,.int .i64 0]) (by kernel_rfl) rfl (fun b7_2=>(aHN ?_))))
   refine aJ rfl (aV 3 tk222 rfl rfl rfl rfl (aHK ?_))
   refine aNs (DR [8] 9 (VM 0 rfl rfl (VO 1 0 rfl rfl rfl (VL 2 3 tk3 rfl rfl rfl rfl rfl (VL 3 3 tk222 rfl rfl rfl rfl rfl ?_)))))
   refine bV 4 rfl rfl (Q0 rfl (ot _ _ (by unfold I64;omega))) ?_
   refine VO 5 0 rfl rfl rfl (VL 6 0 tk3 rfl rfl rfl rfl rfl (bV 7 rfl rfl (oT rfl rfl) ?_))
   refine VE 8 rfl rfl (fO [] [1,2] (by kernel_rfl) rfl rfl rfl rfl rfl (wV _ _ _ _ _ _ (by unfold I64;omega) (by omega)) ?_)
   rintro v ps' hp' ⟨rfl,rfl,ad2,c2,rfl⟩
   refine bST rfl ?_
   refine BN (ak (DR [8] 9 (VM 0 rfl rfl (VO 1 0 rfl rfl rfl (VL 2 3 tk3 rfl rfl rfl rfl rfl (VL 3 0 tk222 rfl rfl rfl rfl rfl ?_))))))
   refine bV 4 rfl rfl (Q0 rfl (ot _ _ (by unfold I64;omega))) ?_
   refine bV 5 rfl rfl (aaU rfl rfl) (VL 6 3 tk222 rfl rfl rfl rfl rfl ?_)
   refine bV 7 rfl rfl (Q0 rfl (ot _ _ (by unfold I64;omega))) ?_
   refine VE 8 rfl rfl (fO [] [1,2] (by kernel_rfl) rfl rfl rfl rfl rfl (wV _ _ _ _ _ _ (by unfold I64;omega) (by simp only [List.length_append];omega)) ?_)
   rintro v ps' hp' ⟨rfl,rfl,ad3,c3,rfl⟩
   refine bST rfl ?_
   refine BN (bb (ak (ae (aU rfl (aO rfl rfl (by omega)) (aM rfl (aNn ?_))))))
   refine ⟨[3,5,6,25,26,27],[0],[0,1,2],rfl,?_⟩
   refine ⟨k+1,⟨by omega,ad3,c3,?_⟩,by omega⟩
   rw [yx hp];rfl
  ·skip
   refine aQ (aR (aR (aX (ak (aSR (UL 1 tk32 rfl rfl rfl rfl (aA rfl (aNn (aj (FZ1 [2] Tryz.results193 rfl ?_))))))))))
   have e:l.take k=l:=List.take_of_length_le (by simp at h2;omega)
   rw [e]
   exact ⟨rfl,ad',c',rfl,rfl⟩
def lE(size al from_ until_:Int):List Span→Int × Bool
 | []=>(0,false)
 | p::l=>if upI (max p.1 from_) al+size≤min (p.1+p.2) until_ then (upI (max p.1 from_) al,true) else lE size al from_ until_ l
theorem acZ(l:List Span)(ad:Option Addr)(c:Nat)(size al from_ until_:Int)(hr:rgB l=true)(hl:∀ p∈l,I64 p.1∧I64 p.2)(h1:1≤size∧size≤1099511627776)(h2:1≤al∧al≤1099511627776)(h3:0≤from_∧from_≤1099511627776) :
   Con Tryz.prog 194 [.slice ad l.length c,.int .i64 size,.int .i64 al,.int .i64 from_,.int .i64 until_] [Sh (.slice ad l.length c) (.sl (l.map ej))] []
     fun r _ _=>r=.tuple #[.int .i64 (lE size al from_ until_ l).1,.bool (lE size al from_ until_ l).2]:=by
 have HL:=Lib.hid hl
 have HR:=Lib.hid (kP.1 hr)
 have HRR:=Lib.hid hr
 clear hl hr
 refine EN5 Tryz.func194 rfl (qW 0 rfl (fun hlen => ?_))
 rw [List.length_map] at hlen
 refine aSR (aA rfl (aA rfl (aNs (aSR (aM rfl (aU rfl (Q1 rfl (tZ l ad c HL.out) 0 rfl) ?_))))))
 refine aU rfl (bX rfl) (aM rfl (aG rfl rfl (fun hc=>ax rfl) (aG rfl rfl (fun hc=>bd (aa rfl hc) rfl) (aU rfl (cC rfl rfl (fun h=>gf rfl h)) (aM rfl (aG rfl rfl (fun hc=>ax rfl) (aG rfl rfl (fun hc=>db (aa rfl hc) rfl) (aU rfl (cC rfl rfl (fun h=>gf rfl h)) (aM rfl (aG rfl rfl (fun hc=>ax rfl) (aG rfl rfl (fun hc=>bd (aa rfl hc) rfl) (aU rfl (cC rfl rfl (fun h=>gf rfl h)) (aM rfl (aG rfl rfl (fun hc=>ax rfl) (aG rfl rfl (fun hc=>db (aa rfl hc) rfl) ?_)))))))))))))))
 refine aU rfl (cC rfl rfl (fun h=>gf rfl h)) (aM rfl (aG rfl rfl (fun hc=>ax rfl) (aG rfl rfl (fun hc=>db (aa rfl hc) rfl) (aU rfl (cC rfl rfl (fun h=>gf rfl h)) (aNn ?_)))))
 refine ah _ rfl (fun g1 => ?_) (fun g1 => ?_)
 ·skip
  exfalso
  rw [HRR.out] at g1
  simp at g1;omega
 ·skip
  refine ai (ak (aq (aSR (aM rfl (aU rfl (aY Tryz.underlying32 rfl) (aM rfl (aNn (ao (aP [1,2,3,4,38,39,40] [0] [] (fun (k:Nat) s=>(k≤l.length∧lE size al from_ until_ l=lE size al from_ until_ (l.drop k))∧s=⟨[(1,true,.int .i64 size),(2,true,.int .i64 al),(3,true,.int .i64 from_),(4,true,.int .i64 until_),(38,true,.slice ad l.length c),(39,true,.int .i64 l.length),(40,true,.int .i64 k)],[Sh (.slice ad l.length c) (.sl (l.map ej))],[]⟩) (fun k=>l.length-k) rfl (⟨0,⟨Nat.zero_le _,rfl⟩,rfl⟩) ?_)))))))))
  rintro k s ⟨⟨hk,hfit⟩,rfl⟩
  refine aSR (aU rfl (bd rfl rfl) (aNs ?_))
  refine ah _ rfl (fun g2 => ?_) (fun g2 => ?_)
  ·skip
   have hk':k<l.length:=by simpa using g2
   obtain ⟨p,hp⟩:∃ p,l[k]? = some p:=⟨l[k]'hk',by simp⟩
   have hpv:=fK.1 (jW (HR.out k p hp))
   obtain ⟨q1,q2,q3,q4⟩:=hpv
   have hup:max p.1 from_-al<upI (max p.1 from_) al∧upI (max p.1 from_) al≤max p.1 from_+al:=by
     have hd := @td (max p.1 from_) al
     unfold upI
     split<;>omega
   have hdr:l.drop k=p::l.drop (k+1):=by
     rw [List.drop_eq_getElem_cons hk'];congr 1
     rw [List.getElem?_eq_getElem hk'] at hp;injection hp
   refine ai (ak (aq (ao (aSR ?_))))
   refine gb true rfl rfl (fun _=>fT Tryz.underlying32 tk222 rfl (aF 0 rfl) rfl (row:=ej p) (by simp [hp]) rfl rfl) (fun h=>absurd h (by decide)) (fun ⟨b5_0,o5_0⟩ => ?_)
   refine aU rfl (ei (o:=0) (v:=.agg #[.int .i64 p.1,.int .i64 p.2]) tk222 rfl (aF 0 rfl) rfl rfl) (LT rfl (bg (zs:=[.int .i64 0,.int .i64 0]) (by kernel_rfl) rfl (fun b5_2=>(aHN ?_))))
   refine aJ rfl (aV 0 tk222 rfl rfl rfl rfl (aHK ?_))
   refine aNn (aSR (UO 0 rfl rfl (UL 0 tk3 rfl rfl rfl rfl (aM rfl (aU rfl (aaU rfl rfl) (aM rfl ?_))))))
   refine aU rfl (Q0 rfl (ru _ _ (by unfold I64;omega))) ?_
   refine aA rfl (aNn (aSR (aM rfl (aM rfl (aU rfl (aO rfl rfl (by omega)) (UL 0 tk222 rfl rfl rfl rfl ?_))))))
   refine aU rfl (Q0 rfl (ot _ _ (by unfold I64;omega))) ?_
   refine aM rfl (aU rfl (oT rfl rfl) (aU rfl (di rfl rfl) (aNn ?_)))
   refine ah _ rfl (fun g3 => ?_) (fun g3 => ?_)
   ·skip
    refine aSR (aM rfl (aA rfl (aA rfl (aNn (aj (bF (aK (aK (bF (aK (FZ2 [] Tryz.results194 rfl rfl ?_)))))))))))
    rw [hfit,hdr];unfold lE;rw [if_pos (by simpa using g3)]
   ·skip
    refine ai (bb (ak (ae (aU rfl (aO rfl rfl (by omega)) (aM rfl (aNn ?_))))))
    refine ⟨[1,2,3,4,38,39,40],[0],[],rfl,?_⟩
    refine ⟨k+1,⟨⟨by omega,?_⟩,rfl⟩,by omega⟩
    rw [hfit,hdr];conv=>lhs;unfold lE
    rw [if_neg (by simpa using g3)]
  ·skip
   refine aQ (aR (aR (aX (ak (aSR (aA rfl (aA rfl (aNn (aj (FZ2 [] Tryz.results194 rfl rfl ?_))))))))))
   rw [hfit,List.drop_of_length_le (by simp at g2;omega)];rfl
structure fG (l:List Span):Prop where
 ok:∀ p∈l,0≤p.1∧p.1≤1099511627776∧0<p.2∧p.2≤1099511627776-p.1
 gap:l.Pairwise fun p q=>p.1+p.2<q.1
theorem aaG{l:List Span}{i:Nat}{p:Span} : pK l i p=true↔gS p.1 p.2=true∧p.2≠0∧(0<i→(l.getD (i-1) (0,0)).1+(l.getD (i-1) (0,0)).2<p.1):=by
 unfold pK
 cases hv:gS p.1 p.2 with
 | false=>simp
 | true =>
   simp only [Bool.not_true,Bool.false_or,Bool.not_eq_true',Bool.or_eq_false_iff,decide_eq_false_iff_not,Bool.and_eq_false_iff,true_and]
   constructor
   · rintro ⟨h1,h2⟩
     refine ⟨h1,fun hi => ?_⟩
     rcases h2 with h2 | h2
     · omega
     · omega
   · rintro ⟨h1,h2⟩
     refine ⟨h1,?_⟩
     by_cases hi:0<i
     · right;have:=h2 hi;omega
     · left;omega
theorem fG.to{l:List Span}(h:fG l):rgB l=true:=by
 rw [kP]
 intro i p hp
 have hmem:=h.ok p (List.mem_of_getElem? hp)
 rw [aaG]
 refine ⟨fK.2 (by omega),by omega,fun hi => ?_⟩
 have hil:=(List.getElem?_eq_some_iff.1 hp).1
 have:=List.pairwise_iff_getElem.1 h.gap (i-1) i (by omega) hil (by omega)
 have e:l[i]=p:=by rw [List.getElem?_eq_getElem hil] at hp;injection hp
 rw [e] at this
 simpa [List.getD,show i-1<l.length by omega] using this
def pieces(x n:Int)(p:Span):List Span:=eG p.1 (min (p.1+p.2) x)++eG (max p.1 (x+n)) (p.1+p.2)
theorem jt{f u:Int}{p:Span} : p∈eG f u↔f<u∧p=(f,u-f):=by
 unfold eG
 split
 · rename_i h;simp [h]
 · rename_i h;simp [h]
theorem lP{x n:Int}{p q:Span}(h:q∈pieces x n p):0<q.2∧p.1≤q.1∧q.1+q.2≤p.1+p.2∧((q.1+q.2≤x∧q.1=p.1)∨(x+n≤q.1∧q.1+q.2=p.1+p.2)):=by
 unfold pieces at h
 rcases List.mem_append.1 h with h | h
 · obtain ⟨h1,rfl⟩:=jt.1 h;exact ⟨by simp only;omega,by simp only;omega,by simp only;omega,.inl ⟨by simp only;omega,rfl⟩⟩
 · obtain ⟨h1,rfl⟩:=jt.1 h;exact ⟨by simp only;omega,by simp only;omega,by simp only;omega,.inr ⟨by simp only;omega,by simp only;omega⟩⟩
theorem vU{x n:Int}(hn:0<n)(p:Span):(pieces x n p).Pairwise fun a b=>a.1+a.2<b.1:=by
 unfold pieces
 rw [List.pairwise_append]
 refine ⟨?_,?_,fun a ha b hb => ?_⟩
 · unfold eG;split<;>simp
 · unfold eG;split<;>simp
 · obtain ⟨h1,rfl⟩:=jt.1 ha
   obtain ⟨h2,rfl⟩:=jt.1 hb
   simp only;omega
theorem lA(x n:Int)(p:Span)(l:List Span):gp x n (p::l)=pieces x n p++gp x n l:=rfl
theorem tG{x n:Int}{l:List Span}{q:Span} : q∈gp x n l↔∃ p∈l,q∈pieces x n p:=by
 unfold gp;rw [List.mem_flatMap];rfl
theorem vp{x n:Int}{l:List Span}(h:fG l)(hn:0<n):fG (gp x n l):=by
 refine ⟨fun q hq => ?_,?_⟩
 · obtain ⟨p,hp,hqp⟩:=tG.1 hq
   have:=h.ok p hp
   have:=lP hqp
   omega
 · obtain ⟨hok,hgap⟩:=h
   induction l with
   | nil=>exact List.Pairwise.nil
   | cons p l ih =>
     rw [lA,List.pairwise_append]
     obtain ⟨g1,g2⟩:=List.pairwise_cons.1 hgap
     refine ⟨vU hn p,ih (fun q hq=>hok q (by simp [hq])) g2,fun a ha b hb => ?_⟩
     obtain ⟨q,hq,hbq⟩:=tG.1 hb
     have:=g1 q hq
     have:=lP ha
     have:=lP hbq
     omega
theorem vV{x n:Int}{p:Span} : (pieces x n p).length≤1∨((pieces x n p).length=2∧x+n<p.1+p.2):=by
 unfold pieces eG
 split<;>split<;>simp<;>omega
theorem yv {x n:Int} {l:List Span} (h:fG l) (hn:0<n):(gp x n l).length≤l.length+1:=by
 obtain ⟨hok,hgap⟩:=h
 induction l with
 | nil=>simp [gp]
 | cons p l ih =>
   obtain ⟨g1,g2⟩:=List.pairwise_cons.1 hgap
   have ih':=ih (fun q hq=>hok q (by simp [hq])) g2
   rw [lA]
   simp only [List.length_append,List.length_cons]
   rcases @vV x n p with h1 | ⟨h1,h2⟩
   · omega
   · have key:∀ m:List Span,(∀ q∈m,x+n<q.1)→(gp x n m).length≤m.length:=by
       intro m
       induction m with
       | nil=>intro _;simp [gp]
       | cons q m ih2 =>
         intro hm
         have hq:=hm q (by simp)
         have:=ih2 (fun r hr=>hm r (by simp [hr]))
         rw [lA]
         have:(pieces x n q).length≤1:=by
           unfold pieces eG
           rw [if_neg (by omega)]
           split<;>simp
         simp only [List.length_append,List.length_cons];omega
     have:=key l (fun q hq=>by have:=g1 q hq;omega)
     omega
def j5(a:Ar):Int:=min 1099511627776 (upI (a.at_+a.size) 256+256)
def vk(a:Ar)(l:List Span):List Span:=gp (a.at_-256) (j5 a-(a.at_-256)) l
def dV(M:Mem):List Span:=M.foldl (fun l x=>vk x.1 l) [(512,1099511627264)]
def dM(M:Mem)(size:Int):Int :=
 if 1099511627776<size then -1 else
   match lE (upI (max 1 size) 256) 256 0 1099511627776 (dV M) with
   | (a,true)=>a
   | (_,false) => -1
theorem qI{n:Int}(h : -1152921504606846976≤n∧n≤1152921504606846976):n≤upI n 256∧upI n 256<n+256∧upI n 256 % 256=0:=by
 have e:gI n 256=n-n % 256:=by unfold gI;rw [if_neg (by omega)]
 unfold upI
 rw [e]
 split<;>omega
theorem lZ{a:Ar}(h:eJ a=true):a.at_+a.size≤j5 a∧j5 a≤1099511627776∧j5 a<a.at_+a.size+512:=by
 obtain ⟨r1,r2,r3,r4,r5,r6,r7,r8⟩:=cU.1 h
 have := @qI (a.at_+a.size) (by omega)
 unfold j5;omega
theorem vm{a:Ar}(h:eJ a=true){l:List Span}(hl:fG l):fG (vk a l):=by
 obtain ⟨r1,r2,r3,r4,r5,r6,r7,r8⟩:=cU.1 h
 have:=lZ h
 exact vp hl (by omega)
theorem aac{a:Ar}(h:eJ a=true){l:List Span}(hl:fG l):(vk a l).length≤l.length+1:=by
 obtain ⟨r1,r2,r3,r4,r5,r6,r7,r8⟩:=cU.1 h
 have:=lZ h
 exact yv hl (by omega)
theorem mq(M:Mem)(h:∀ x∈M,eJ x.1=true):fG (dV M)∧(dV M).length≤M.length+1:=by
 have key:∀ (M:Mem) (l:List Span),(∀ x∈M,eJ x.1=true)→fG l→fG (M.foldl (fun l x=>vk x.1 l) l)∧(M.foldl (fun l x=>vk x.1 l) l).length≤M.length+l.length:=by
   intro M
   induction M with
   | nil=>intro l _ hl;exact ⟨hl,by simp⟩
   | cons x M ih =>
     intro l hM hl
     have hx:=hM x (by simp)
     obtain ⟨h1,h2⟩:=ih (vk x.1 l) (fun y hy=>hM y (by simp [hy])) (vm hx hl)
     have:=aac hx hl
     exact ⟨h1,by simp only [List.foldl_cons,List.length_cons];omega⟩
 have:=key M [(512,1099511627264)] h ⟨by simp,by simp⟩
 exact ⟨this.1,this.2⟩
theorem pI{M:Mem}{k:Nat}{x:Cell}(h:M[k]? = some x):dV (M.take (k+1))=vk x.1 (dV (M.take k)):=by
 unfold dV;rw [List.take_add_one,h];simp
theorem fG.i64{l:List Span}(h:fG l):∀ p∈l,I64 p.1∧I64 p.2:=fun p hp=>by have:=h.ok p hp;unfold I64;omega
theorem vd(p:Nat)(M:Mem)(vs:List Value)(hvs:OkV M vs)(v:Value)(size:Int)(hs:I64 size)(hM:dC M)(hl:M.length≤4096) :
   Con Tryz.prog 80 [.pointer (some ⟨p,0,none⟩),.int .i64 size] [] (op2 p v M vs) fun r ps hp=>ps=[]∧hp=op2 p v M vs∧r=.int .i64 (dM M size):=by
 have hlr:=eh hvs.len
 unfold I64 at hs
 refine EN2 Tryz.func80 rfl (aSR (aA rfl (aNs (aSR (aM rfl (aU rfl (db rfl rfl) (aNn ?_)))))))
 refine ah _ rfl (fun h1 => ?_) (fun h1 => ?_)
 ·skip
  refine aSR (aA rfl (aNn (aj (aK (FZ1 [0,1] Tryz.results80 rfl ?_)))))
  refine ⟨rfl,rfl,?_⟩
  unfold dM;rw [if_pos (of_decide_eq_true h1)]
 ·skip
  have hs':size≤1099511627776:=by simpa using h1
  have hup := @qI (max 1 size) (by omega)
  refine ai (ak (aSR (aM rfl (aU rfl (aaU rfl rfl) ?_))))
  refine aU rfl (Q0 rfl (ru _ _ (by unfold I64;omega))) ?_
  refine aA rfl (aNn (aSR (aU rfl (eH (l:=[(0,.const (.int .i64 512)),(1,.const (.int .i64 1099511627264))]) (zs:=[.int .i64 0,.int .i64 0]) (pl:=[(0,1),(1,1)]) (by kernel_rfl) (by kernel_rfl) (by kernel_rfl) rfl rfl rfl) (LT rfl (WL (zs:=[.int .i64 0,.int .i64 0]) el32 rfl rfl rfl (.more rfl (.v rfl (.v rfl .nil)) .nil) rfl rfl (fun v4_1=>(aHN ?_)))))))
  refine aA rfl (aNs (aSR (aM rfl (UN rfl rfl (UO 0 rfl rfl (UL 0 tk115 rfl rfl rfl rfl (aU rfl (dA 1 Tryz.underlying115 rfl rfl) (aM rfl (aNn (ao (eu 2 rfl ?_)))))))))))
  refine aP [0,1,5,22,23,24] [0] [0,1] (fun (k:Nat) s=>k≤M.length∧∃ ad c,s=⟨[(0,true,.pointer (some ⟨p,0,none⟩)),(1,true,.int .i64 (upI (max 1 size) 256)),(5,true,.slice ad (dV (M.take k)).length c),(22,true,v),(23,true,.int .i64 M.length),(24,true,.int .i64 k)],[Sh (.slice ad (dV (M.take k)).length c) (.sl ((dV (M.take k)).map ej))],op2 p v M vs⟩) (fun k=>M.length-k) rfl (⟨0,Nat.zero_le _,v4_1,1,by rw [hlr];rfl⟩) ?_
  rintro k s ⟨hk,ad,c,rfl⟩
  obtain ⟨hfr,hfl⟩:=mq (M.take k) (fun x hx=>hM.right x (List.mem_of_mem_take hx))
  have htl:(M.take k).length≤M.length:=List.length_take_le' _ _
  refine aSR (aU rfl (bd rfl rfl) (aNs ?_))
  refine ah _ rfl (fun h2 => ?_) (fun h2 => ?_)
  ·skip
   have hk':k<M.length:=by simpa using h2
   obtain ⟨q,hq⟩:∃ q,M[k]? = some q:=⟨M[k]'hk',by simp⟩
   obtain ⟨u,hu⟩:∃ u,vs[k]? = some u:=⟨_,List.getElem?_eq_getElem (by have:=hvs.len;omega)⟩
   have hqr:eJ q.1=true:=hM.right _ (List.mem_of_getElem? hq)
   obtain ⟨ad0,cu,rfl⟩:=hvs.sl hq hu
   obtain ⟨r1,r2,r3,r4,r5,r6,r7,r8⟩:=cU.1 hqr
   have hqu:=lZ hqr
   have hqp := @qI (q.1.at_+q.1.size) (by omega)
   have hum:min 1099511627776 (upI (q.1.at_+q.1.size) 256+256)=j5 q.1:=rfl
   refine ai (ak (aq (ao (aSR ?_))))
   refine aU rfl (bA 1 k el115 rfl rfl rfl rfl (by rw [hlr];exact hk')) ?_
   refine aU rfl (ba 1 k 0 tk135 rfl rfl (ef hq hu) rfl rfl) (LT rfl (bg (zs:=[.int .i64 0,.int .i64 0,.int .i64 0,.int .i64 0,.int .i64 0,.slice none 0 0]) (by kernel_rfl) rfl (fun b7_2=>(aHN ?_))))
   refine aJ rfl (aV 2 tk135 rfl rfl rfl rfl (aHK ?_))
   refine aNn (aSR (UO 0 rfl rfl (UO 0 rfl rfl (UL 2 tk3 rfl rfl rfl rfl (aU rfl (bQ rfl rfl (by omega)) (aA rfl (aNn (aSR (UO 0 rfl rfl (UO 0 rfl rfl (UL 2 tk3 rfl rfl rfl rfl (UO 0 rfl rfl (UO 1 rfl rfl (UL 2 tk3 rfl rfl rfl rfl (aU rfl (aO rfl rfl (by omega)) ?_)))))))))))))))
   refine aU rfl (Q0 rfl (ru _ _ (by unfold I64;omega))) ?_
   refine aU rfl (aO rfl rfl (by omega)) (aU rfl (oT rfl rfl) (aA rfl (aNn (ae (aM rfl (aM rfl (aM rfl (aM rfl (aU rfl (bQ rfl rfl (by omega)) (aU rfl (eH (l:=[(0,.tmp 43),(1,.tmp 46)]) (zs:=[.int .i64 0,.int .i64 0]) (pl:=[(0,1),(1,1)]) (by kernel_rfl) (by kernel_rfl) (by kernel_rfl) rfl rfl rfl) (LT rfl (EC [0] [] rfl (acU (dV (M.take k)) ad c (q.1.at_-256) (j5 q.1-(q.1.at_-256)) hfr.to hfr.i64 (fK.2 (by omega)) (by omega) (by omega)) ?_))))))))))))
   rintro v' ps' hp' ⟨rfl,ad2,c2,rfl,rfl⟩
   refine aST ?_
   refine aA rfl (bE (bb (ak (eu 3 rfl (ae (aU rfl (aO rfl rfl (by omega)) (aM rfl (aNn ?_))))))))
   refine ⟨[0,1,5,22,23,24],[1],[0,1],rfl,?_⟩
   refine ⟨k+1,⟨by omega,ad2,c2,?_⟩,by omega⟩
   rw [pI hq];rfl
  ·skip
   have eT:M.take k=M:=List.take_of_length_le (by simp at h2;omega)
   rw [eT]
   rw [eT] at hfr
   have hfM:=hfr
   refine aQ (aR (aR (aX (ak (aSR (aM rfl (aM rfl (aU rfl (Q1 rfl (acZ (dV M) ad c _ _ _ _ hfM.to hfM.i64 (by omega) (by omega) (by omega)) 0 rfl) ?_))))))))
   refine aM rfl (aU rfl (aI rfl rfl) (aU rfl (aI rfl rfl) (aA rfl (aA rfl (aNs (aSR (aM rfl (aU rfl (bX rfl) (aNn ?_)))))))))
   refine ah _ rfl (fun h3 => ?_) (fun h3 => ?_)
   ·skip
    refine aSR (aA rfl (aNn (aj (aK (FZ1 [0,1] Tryz.results80 rfl ?_)))))
    refine ⟨rfl,rfl,?_⟩
    unfold dM
    rw [if_neg (by omega)]
    cases hf:lE (upI (max 1 size) 256) 256 0 1099511627776 (dV M) with
    | mk x b =>
      rw [hf] at h3
      cases b with
      | true=>simp at h3
      | false=>rfl
   ·skip
    refine ai (ak (aSR (aM rfl (aA rfl (aNn (aj (FZ1 [0,1] Tryz.results80 rfl ?_)))))))
    refine ⟨rfl,rfl,?_⟩
    unfold dM
    rw [if_neg (by omega)]
    cases hf:lE (upI (max 1 size) 256) 256 0 1099511627776 (dV M) with
    | mk x b =>
      rw [hf] at h3
      cases b with
      | true=>rfl
      | false=>simp at h3
end Go.Proofs.YtfkcmbonmpcbfaaGreat

namespace Go.Sy
open Go.RowKit Go.Lp
theorem Con.frame{P:Program}{f:FuncId}{args:List Value}{ps:List Per}{l:List Res}{A:Res}{R:Value→List Per→List Res→Prop}(h:Con P f args ps l R):Con P f args ps (l++[A]) fun r ps' hp'=>∃ l',hp'=l'++[A]∧R r ps' l':=fun w S fp hst=>by
 have hl:(l++[A]).length=l.length+1:=by simp
 have hA:=hst.res l.length A (by rw [List.getElem?_append_right (Nat.le_refl _),Nat.sub_self];rfl)
 have hst0:St w S fp ps l:=⟨hst.per,fun i R hR=>hst.res i R (by rw [List.getElem?_append_left (List.getElem?_eq_some_iff.1 hR).1];exact hR),fun i hi=>hst.lt i (by omega),fun i j hi hj=>hst.dj i j (by omega) (by omega),hst.slt⟩
 refine (h w S fp hst0).mono fun e w' ⟨v,ps',hp',S',fp',he,hR,hst',hE,hg⟩ => ?_
 have hAo:∀ b,fp l.length b→b<w.heap.size∧¬ S b:=hst.lt l.length (by omega)
 have hAx:∀ b,fp l.length b→¬ tot fp l.length b:=fun b hb ⟨j,hj,hjb⟩=>hst.dj l.length j (by omega) (by omega) (by omega) b hb hjb
 have hl2:(hp'++[A]).length=hp'.length+1:=by simp
 have hno:∀ i b,i<hp'.length→fp' i b→¬ fp l.length b:=fun i b hi hb hb2=>(hg b ⟨i,hi,hb⟩).elim (hAx b hb2) (fun h=>by have:=(hAo b hb2).1;omega)
 refine ⟨v,ps',hp'++[A],S',fun i=>if i<hp'.length then fp' i else fp l.length,he,⟨hp',rfl,hR⟩,⟨hst'.per,fun i R hR => ?_,fun i hi b hb => ?_,fun i j hi hj hne b hb hb2 => ?_,hst'.slt⟩,hE.wider (fun b ⟨j,hj,hb⟩=>⟨j,by omega,hb⟩),fun b hb => ?_⟩
 · skip
   split
   · rename_i hi
     rw [List.getElem?_append_left hi] at hR;exact hst'.res i R hR
   · rename_i hi
     rw [List.getElem?_append_right (by omega)] at hR
     have e:=(List.getElem?_eq_some_iff.1 hR).1
     simp only [List.length_singleton] at e
     rw [show i-hp'.length=0 by omega] at hR
     simp only [List.getElem?_cons_zero,Option.some.injEq] at hR;subst hR
     exact A.mono hA (fun b hb=>hE.block b (hAo b hb).1 (hAx b hb)) (fun b hb=>hE.block b (hst.slt b hb) (fun ⟨j,hj,hjb⟩=>(hst.lt j (by omega) b hjb).2 hb)) hE.more
 · skip
   split at hb
   · rename_i hi';exact hst'.lt i hi' b hb
   · exact ⟨Nat.lt_of_lt_of_le (hAo b hb).1 hE.size,fun hS=>(hE.new b hS).elim (hAo b hb).2 fun h=>h.elim (hAx b hb) fun h=>by have:=(hAo b hb).1;omega⟩
 · skip
   split at hb<;>split at hb2
   · rename_i a1 a2;exact hst'.dj i j a1 a2 hne b hb hb2
   · rename_i a1 a2;exact hno i b a1 hb hb2
   · rename_i a1 a2;exact hno j b a2 hb2 hb
   · omega
 · obtain ⟨i,hi,hb⟩:=hb
   split at hb
   · rename_i hi';exact (hg b ⟨i,hi',hb⟩).imp (fun ⟨j,hj,hjb⟩=>⟨j,by omega,hjb⟩) id
   · exact .inl ⟨l.length,by omega,hb⟩
end Go.Sy

namespace Go.Proofs.YtfkcmbonmpcbfaaGreat
open Go.RowKit Go.Lp Go.Sy Go.Lv
open Go.Proofs.Tryz
theorem ac7{M:Mem}(h:dC M)(t:Int):∃ k,LoM M t k:=by
 have key:∀ n,n≤M.length→(∀ (i:Nat) (x:Cell),i<n→M[i]? = some x→x.1.at_<t)∨∃ k,LoM M t k:=by
   intro n
   induction n with
   | zero=>intro _;left;intro i x hi;omega
   | succ n ih =>
     intro hn
     rcases ih (by omega) with h1 | h1
     · have hx:M[n]? = some M[n]:=List.getElem?_eq_getElem (by omega)
       by_cases hc:(M[n]).1.at_<t
       · left
         intro i x hi hix
         rcases Nat.lt_succ_iff_lt_or_eq.1 hi with h2 | rfl
         · exact h1 i x h2 hix
         · rw [hx] at hix;cases hix;exact hc
       · right
         exact ⟨n,by omega,h1,fun i x hi hix=>by have:=h.mono hx hix hi;omega⟩
     · exact .inr h1
 rcases key M.length (Nat.le_refl _) with h1 | h1
 · exact ⟨M.length,Nat.le_refl _,fun i x hi=>h1 i x hi,fun i x hi hx=>by have:=(List.getElem?_eq_some_iff.1 hx).1;omega⟩
 · exact h1
structure cS (M:Mem):Prop where
 inv:dC M
 few:M.length≤4096
theorem cS.nil:cS []:=⟨dC.nil,Nat.zero_le _⟩
theorem cS.map{M:Mem}(h:cS M)(a:Ar):cS (mapM M a).1:=by
 unfold mapM
 split
 · exact h
 · split
   · exact h
   · split
     · exact h
     · rename_i h1 h2 h3
       have hr:eJ a=true:=by simpa using h1
       obtain ⟨k,hk⟩:∃ k,LoM M a.at_ k:=ac7 h.inv a.at_
       obtain ⟨c1,c2⟩:=dC.cut hk
       refine ⟨by rw [c1,c2];exact h.inv.put hr hk h2,?_⟩
       rw [c1,c2];have:=h.few;simp;omega
theorem cS.unmap{M:Mem}(h:cS M)(t:Int):cS (fe M t).1:=by
 unfold fe
 split
 · exact ⟨h.inv.sub List.filter_sublist,Nat.le_trans (List.length_filter_le _ _) h.few⟩
 · exact h
theorem cS.upd{M:Mem}(h:cS M){x:Cell}(hx:x∈M){bs:List UInt8}(hb:bs.length=x.2.length):cS (pO M x.1.at_ bs):=⟨abq h.inv hx hb,by unfold pO;rw [List.length_map];exact h.few⟩
section
variable {p:Nat} {M:Mem} {f:FuncId} {args:List Value} {u:Value}
theorem pd{N:Mem}(h:∀ v vs,OkV M vs→Con Tryz.prog f args [] (opn p v M vs) fun r ps hp=>∃ (M':Mem) (v':Value) (vs':List Value) (L:List Res),vs'.length=M'.length∧hp=opn p v' M' vs'++L∧(ps=[]∧L=[]∧M'=N∧r=u)) :
   Con Tryz.prog f args [] [SpR p M] fun r ps hp=>ps=[]∧hp=[SpR p N]∧r=u :=
 (u6 (R:=fun M' r ps L=>ps=[]∧L=[]∧M'=N∧r=u) h).post fun r ps hp ⟨M',L,e,h1,h2,h3,h4⟩=>by subst h2 h3;exact ⟨h1,e,h4⟩
theorem xi{N:Mem}(hl:N.length=M.length)(h:∀ v vs,OkV M vs→Con Tryz.prog f args [] (opn p v M vs) fun r ps hp=>ps=[]∧hp=opn p v N vs∧r=u):Con Tryz.prog f args [] [SpR p M] fun r ps hp=>ps=[]∧hp=[SpR p N]∧r=u :=
 pd fun v vs hvs=>(h v vs hvs).post fun r ps hp ⟨h1,h2,h3⟩=>⟨N,v,vs,[],by rw [hvs.len,hl],by rw [h2];rfl,h1,rfl,rfl,h3⟩
theorem xh(h:∀ v vs,OkV M vs→Con Tryz.prog f args [] (op2 p v M vs) fun r ps hp=>ps=[]∧hp=op2 p v M vs∧r=u):Con Tryz.prog f args [] [SpR p M] fun r ps hp=>ps=[]∧hp=[SpR p M]∧r=u :=
 xi rfl fun v vs hvs=>((h v vs hvs).frame (A:=bR (ed M vs))).post fun r ps hp ⟨l',e,h1,h2,h3⟩=>⟨h1,by rw [e,h2];rfl,h3⟩
end
section
variable (p:Nat) (M:Mem) (hM:cS M)
include hM
theorem uj(size:Int)(hs:I64 size):Con Tryz.prog 80 [.pointer (some ⟨p,0,none⟩),.int .i64 size] [] [SpR p M] fun r ps hp=>ps=[]∧hp=[SpR p M]∧r=.int .i64 (dM M size) :=
 xh fun v vs hvs=>vd p M vs hvs v size hs hM.inv hM.few
theorem abf(t:Int)(ht:I64 t):Con Tryz.prog 26 [.pointer (some ⟨p,0,none⟩),.int .i64 t] [] [SpR p M] fun r ps hp=>ps=[]∧hp=[SpR p M]∧r=.tuple #[sg (kg M t).1,.bool (kg M t).2] :=
 xh fun v vs hvs=>u9 p M vs hvs v t ht hM.inv hM.few
theorem abh(t size:Int)(ht:I64 t):Con Tryz.prog 63 [.pointer (some ⟨p,0,none⟩),.int .i64 t,.int .i64 size] [] [SpR p M] fun r ps hp=>ps=[]∧hp=[SpR p M]∧r=.tuple #[.string (bytesOf (kO M t size).1),.int .i64 (kO M t size).2] :=
 xi rfl fun v vs hvs=>ve p M vs hvs v t size ht hM.inv hM.few
theorem xj(a:Ar)(ha:I64 a.at_):Con Tryz.prog 79 [.pointer (some ⟨p,0,none⟩),sg a] [] [SpR p M] fun r ps hp=>ps=[]∧hp=[SpR p (mapM M a).1]∧r=.int .i64 (mapM M a).2 :=
 pd fun v vs hvs=>yp p M vs hvs v a ha hM.inv hM.few
theorem zj(t:Int):Con Tryz.prog 243 [.pointer (some ⟨p,0,none⟩),.int .i64 t] [] [SpR p M] fun r ps hp=>ps=[]∧hp=[SpR p (fe M t).1]∧r=.int .i64 (fe M t).2 :=
 pd fun v vs hvs=>s7 p M vs hvs v t hM.inv hM.few
theorem zk(t:Int)(s:ByteArray)(hs:s.size≤maxLen)(ht:I64 t):Con Tryz.prog 187 [.pointer (some ⟨p,0,none⟩),.int .i64 t,.string s] [] [SpR p M] fun r ps hp=>ps=[]∧hp=[SpR p (dZ M t (c7 s)).1]∧r=.int .i64 (dZ M t (c7 s)).2 :=
 pd fun v vs hvs=>(s8 p M vs hvs v t s hs ht hM.inv hM.few).post fun r ps hp ⟨h1,h2,h3,h4⟩=>⟨_,v,vs,[],by rw [hvs.len,h3],by rw [h2];rfl,h1,rfl,rfl,h4⟩
theorem zi(t size n:Int)(ht:I64 t):Con Tryz.prog 81 [.pointer (some ⟨p,0,none⟩),.int .i64 t,.int .i64 size,.int .i64 n] [] [SpR p M] fun r ps hp=>ps=[]∧hp=[SpR p (dJ M t size n).1]∧r=.int .i64 (dJ M t size n).2 :=
 pd fun v vs hvs=>(s6 p M vs hvs v t size n ht hM.inv hM.few).post fun r ps hp ⟨h1,h2,h3,h4⟩=>⟨_,v,vs,[],by rw [hvs.len,h3],by rw [h2];rfl,h1,rfl,rfl,h4⟩
theorem qF:Con Tryz.prog 27 [.pointer (some ⟨p,0,none⟩)] [] [SpR p M] fun r ps hp=>ps=[]∧∃ ad c,r=.slice ad M.length c∧hp=[SpR p M,az (.slice ad M.length c) 68 5 (gk M)] :=
 (u6 (R:=fun M' r ps L=>ps=[]∧M'=M∧∃ ad c,r=.slice ad M.length c∧L=[az (.slice ad M.length c) 68 5 (gk M)]) fun v vs hvs =>
   ((s4 p M vs hvs v hM.inv hM.few).frame (A:=bR (ed M vs))).conv fun r ps hp ⟨l',e,h1,ad,c,h2,h3⟩=>by
     subst e h1 h3
     exact ⟨[],opn p v M vs++[az (.slice ad M.length c) 68 5 (gk M)],StE.keep (ps:=[]) [] [0,1,3,2] rfl,M,v,vs,_,hvs.len,rfl,rfl,rfl,ad,c,h2,rfl⟩).post fun r ps hp ⟨M',L,e,h1,h2,ad,c,h3,h4⟩=>by subst h2 h4;exact ⟨h1,ad,c,h3,e⟩
theorem abg:Con Tryz.prog 31 [.pointer (some ⟨p,0,none⟩)] [] [SpR p M] fun r ps hp=>ps=[]∧∃ p2,r=.pointer (some ⟨p2,0,none⟩)∧hp=[SpR p M,SpR p2 M] :=
 (u6 (R:=fun M' r ps L=>ps=[]∧M'=M∧∃ p2 v2 ws,ws.length=M.length∧r=.pointer (some ⟨p2,0,none⟩)∧L=opn p2 v2 M ws) fun v vs hvs =>
   (va p M vs hvs v hM.inv hM.few).post fun r ps hp ⟨h1,p2,v2,ws,h2,h3,h4⟩=>⟨M,v,vs,_,hvs.len,h4,h1,rfl,p2,v2,ws,h2,h3,rfl⟩).conv fun r ps hp ⟨M',L,e,h1,h2,p2,v2,ws,h3,h4,h5⟩=>by
     subst h1 h2 h5 e
     exact ⟨[],[SpR p M',SpR p2 M'],(uh 1 2 3 rfl rfl rfl rfl rfl rfl h3).trans (StE.keep (ps:=[]) [] [0,1] rfl),rfl,p2,h4,rfl⟩
end
end Go.Proofs.YtfkcmbonmpcbfaaGreat

