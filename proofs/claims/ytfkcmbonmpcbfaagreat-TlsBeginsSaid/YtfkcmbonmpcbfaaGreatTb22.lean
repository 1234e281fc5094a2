/- Parts of the proof, in build order. No condition. -/
import Derived.Test.YtfkcmbonmpcbfaaGreatTb20
import Derived.Test.YtfkcmbonmpcbfaaGreatTb21
import Derived.Test.YtfkcmbonmpcbfaaGreatTb19
import Derived.Test.YtfkcmbonmpcbfaaGreatTb05
import Derived.Test.YtfkcmbonmpcbfaaGreatTb10
import Derived.Test.YtfkcmbonmpcbfaaGreatProg
import Derived.Ground.SlsfProg
import Derived.Shelf.SlSortCmp.WholeK
import Derived.Test.YtfkcmbonmpcbfaaGreatTb17
set_option linter.unusedSimpArgs false
set_option linter.unusedVariables false
set_option maxHeartbeats 1000000
set_option maxRecDepth 20000
namespace Go.Proofs.YtfkcmbonmpcbfaaGreat
open Go.RowKit Go.Lp Go.Sy Go.Lv
open Go.Proofs.Tryz
attribute [local irreducible] aL aB awp aC fwp Quiet
theorem sJ(l:Sl bj)(hl:l.l.length≤1000000):Con Tryz.prog 246 [l.val] [ShF bj.row l] [] fun r ps hp=>ps=[]∧∃ (ad:Option Addr) (c:Nat),r=.slice ad l.l.length c∧hp=[aD (.slice ad l.l.length c) 222 2 (l.l.map bj.row)]:=by
 refine EN1 Tryz.func246 rfl ?_
 refine gg (φ:=l.ad=none→l.l=[]) (fun w S fp hst => ?_) (fun hnil => ?_)
 · intro hn
   have hrep:ea w S (.slice l.ad l.l.length l.cap) (.sl (l.l.map bj.row)):=hst.per _ (aF 0 rfl)
   rw [hn] at hrep
   generalize hrw:l.l.map bj.row=rows at hrep
   generalize l.l.length=m at hrep
   cases hrep with
   | e=>exact List.map_eq_nil_iff.1 hrw
 refine aSR (aA rfl (aNs (aSR (aM rfl (aU rfl (vM Tryz.underlying32 rfl) (aNn ?_))))))
 refine ah _ rfl (fun h1 => ?_) (fun h1 => ?_)
 ·skip
  have hl0:l.l=[]:=hnil (by simpa using h1)
  refine aq (ew 222 2 ?_)
  show awp _ _ _ _ ⟨_,_,[_]⟩
  refine ae (aA rfl (aNn (aj (aN (FZ1 [0] Tryz.results246 rfl ?_)))))
  exact ⟨rfl,none,0,by rw [hl0];rfl,by rw [hl0];rfl⟩
 ·skip
  refine ai (an (aSR (LT rfl (vZ el32 rfl (fun v3_0=>(aHN ?_))))))
  refine aM rfl ?_
  refine aI rfl (qC 0 el32 el32 rfl rfl rfl rfl (aF 0 rfl) ((fun r hr=>by obtain ⟨z,_,rfl⟩:=List.mem_map.1 hr;rfl)) (by show ([]:List (List D)).length+(l.l.map bj.row).length≤_;rw [List.length_map];exact Nat.le_trans (show 0+l.l.length≤1000000 by omega) (by decide)) (l.l.length) (by simp;try omega) (fun v3_2 c3_2 => ?_))
  refine aHK ?_
  refine aA rfl (aNn (aj (FZ1 [0] Tryz.results246 rfl ?_)))
  exact ⟨rfl,v3_2,c3_2,rfl,rfl⟩
theorem nk(a:bj):Con Tryz.prog 247 [a.val] [] [] fun r _ _=>r=.bool (!eX a):=by
 refine EN1 Tryz.func247 rfl (aSR (LT rfl (bz rfl rfl rfl (fun b0_0=>(aHN ?_)))))
 refine aA rfl (aNn (aSR (UO 1 rfl rfl (UL 0 tk3 rfl rfl rfl rfl (aU rfl (dq rfl rfl) (aA rfl (aNn (aj (FZ1 [] Tryz.results247 rfl ?_)))))))))
 unfold eX;rw [Bool.not_not]
theorem xN(v:Value)(zs:List bj)(hz:zs.length≤1000000):Con Tryz.prog 300 [v,.func (.func 247) #[] #[]] [] [aD v 222 2 (zs.map bj.row)]
   fun r ps hp=>ps=[]∧hp=[aD v 222 2 (zs.map bj.row)]∧∃ z:Int,r=.int .i64 z∧((z = -1∧∀ b∈zs,(!eX b)=false)∨∃ (i:Nat) (a:bj),z=i∧zs[i]? = some a∧(!eX a)=true∧∀ b∈zs.take i,(!eX b)=false):=by
 refine EN2 Tryz.func300 rfl (aSR (aA rfl (aNs (aSR (aM rfl (aU rfl (dF 0 Tryz.underlying32 rfl rfl) (aM rfl (aNn (ao ?_)))))))))
 refine aR [0,1,7,8] [] [0] (fun (k:Nat) s=>(k≤zs.length∧∀ b∈zs.take k,(!eX b)=false)∧s=⟨[(0,true,v),(1,true,.func (.func 247) #[] #[]),(7,true,.int .i64 zs.length),(8,true,.int .i64 k)],[],[aD v 222 2 (zs.map bj.row)]⟩) (fun k=>zs.length-k) rfl (⟨0,⟨Nat.zero_le _,fun b h=>by cases h⟩,by rw [List.length_map];rfl⟩) ?_
 rintro k s ⟨⟨hk,hpre⟩,rfl⟩
 refine aSR (aU rfl (bg rfl rfl) (aNs ?_))
 refine ah _ rfl (fun h1 => ?_) (fun h1 => ?_)
 ·skip
  have hk':k<zs.length:=by simpa using h1
  obtain ⟨a,ha⟩:∃ a,zs[k]? = some a:=⟨zs[k]'hk',by simp⟩
  refine ai (an (aq (ao (aSR (aM rfl (aA rfl (aNn (aSR (aM rfl (aM rfl (aM rfl ?_)))))))))))
  refine aU rfl (bE 0 k el32 rfl rfl rfl rfl (by rw [List.length_map];exact hk')) ?_
  refine aU rfl (bb (u:=a.val) 0 k 0 tk222 rfl rfl (aJ ha) rfl rfl) (aU rfl (fl (by kernel_rfl) rfl rfl (fun w S fp hst=>(nk a).quiet0 hst)) (aNn ?_))
  refine ah _ rfl (fun h2 => ?_) (fun h2 => ?_)
  ·skip
   refine aSR (aM rfl (aA rfl (aNn (aj (bH (aN (aN (bH (aN (FZ1 [0] Tryz.results300 rfl ?_))))))))))
   exact ⟨rfl,rfl,k,rfl,.inr ⟨k,a,rfl,ha,h2,hpre⟩⟩
  ·skip
   refine ai (bo (an (ae (aU rfl (aO rfl rfl (by omega)) (aM rfl (aNn ?_))))))
   refine ⟨[0,1,7,8],[],[0],rfl,?_⟩
   refine ⟨k+1,⟨⟨by omega,fun b hb => ?_⟩,rfl⟩,by omega⟩
   rw [List.take_add_one,ha,Option.toList_some] at hb
   rcases List.mem_append.1 hb with h | h
   · exact hpre b h
   · rw [List.mem_singleton.1 h];exact h2
 ·skip
  refine aS (aV (aV (ba (an (aSR (aA rfl (aNn (aj (FZ1 [0] Tryz.results300 rfl ?_)))))))))
  exact ⟨rfl,rfl,-1,rfl,.inl ⟨rfl,fun b hb=>hpre b (by rw [List.take_of_length_le (by simp at h1;omega)];exact hb)⟩⟩
theorem xM(v:Value)(zs:List bj)(hz:zs.length≤1000000):Con Tryz.prog 245 [v,.func (.func 247) #[] #[]] [] [aD v 222 2 (zs.map bj.row)]
   fun r ps hp=>ps=[]∧hp=[aD r 222 2 ((zs.filter eX).map bj.row)]:=by
 have hff:(zs.filter fun a => !(!eX a))=zs.filter eX:=List.filter_congr fun a _=>Bool.not_not _
 refine EN2 Tryz.func245 rfl (aSR (aA rfl (aNn (aSR (aM rfl (aM rfl (LF rfl (EC [] [0] rfl (xN v zs hz) ?_))))))))
 rintro _ _ _ ⟨rfl,rfl,z,rfl,hres⟩
 refine aST ?_
 refine aA rfl (aNs (aSR (aM rfl (aU rfl (bw rfl rfl) (aNn ?_)))))
 refine ah _ rfl (fun h1 => ?_) (fun h1 => ?_)
 ·skip
  have hz1:z = -1:=by simpa using h1
  have hall:∀ b∈zs,(!eX b)=false:=by
    rcases hres with ⟨_,h⟩ | ⟨i,_,h,_⟩
    · exact h
    · omega
  refine aSR (aM rfl (aA rfl (aNn (aj (aN (FZ1 [0] Tryz.results245 rfl ?_))))))
  exact ⟨rfl,by rw [List.filter_eq_self.2 fun b hb=>by have:=hall b hb;simpa using this];rfl⟩
 ·skip
  have hz1:¬ z = -1:=by simpa using h1
  obtain ⟨i,a0,rfl,ha0,hg0,hpre⟩:=hres.resolve_left fun h=>hz1 h.1
  have hil:=(List.getElem?_eq_some_iff.1 ha0).1
  refine ai (an (aq (aSR (aM rfl (aU rfl (aO rfl rfl (by omega)) (aA rfl (aNn (ao ?_))))))))
  refine eu 0 rfl (by intro h;rw [List.map_eq_nil_iff] at h;rw [h] at hil;cases hil) (fun B cp hv hcp => ?_)
  rw [List.length_map] at hv hcp
  subst hv
  refine aR [0,1,5,6] [] [0] (fun (q:(Nat × Nat) × List bj) st=>ke (fun a => !eX a) zs q.2 q.1.1 q.1.2∧st=⟨[(0,true,.slice (some ⟨B,0,none⟩) zs.length cp),(1,true,.func (.func 247) #[] #[]),(5,true,.int .i64 q.1.1),(6,true,.int .i64 q.1.2)],[],[aD (.slice (some ⟨B,0,none⟩) zs.length cp) 222 2 (q.2.map bj.row)]⟩) (fun q=>zs.length-q.1.2) rfl (⟨((i,i+1),zs),ke.start ha0 hg0 hpre,rfl⟩) ?_
  rintro ⟨⟨w,r⟩,ys⟩ st ⟨hI,rfl⟩
  dsimp only at hI ⊢
  have hln:=hI.ln
  have hwr:=hI.wr
  have hrl:=hI.rl
  refine aq (aSR (aM rfl (aM rfl (aU rfl (aY Tryz.underlying32 rfl) (aU rfl (bg rfl rfl) (aNn ?_))))))
  refine ah _ rfl (fun h2 => ?_) (fun h2 => ?_)
  ·skip
   have hr':r<zs.length:=by simpa using h2
   obtain ⟨a,ha⟩:∃ a,zs[r]? = some a:=⟨_,List.getElem?_eq_getElem hr'⟩
   have hya:ys[r]? = some a:=(hI.get hr').trans ha
   obtain ⟨yw,hyw⟩:∃ yw,ys[w]? = some yw:=⟨_,List.getElem?_eq_getElem (by omega)⟩
   refine ai (an (aq (ao (aSR (aM rfl (aM rfl ?_))))))
   refine aU rfl (bE 0 r el32 rfl rfl rfl rfl (by rw [List.length_map];omega)) ?_
   refine aU rfl (bb (u:=a.val) 0 r 0 tk222 rfl rfl (aJ hya) rfl rfl) (LT rfl (bt (zs:=[.int .i64 0,.int .i64 0]) (by kernel_rfl) rfl (fun b7_4=>(aHN ?_))))
   refine aI rfl (aW 1 tk222 rfl rfl rfl rfl (aHK ?_))
   refine aNn (aSR (aM rfl (UL 1 tk222 rfl rfl rfl rfl (aU rfl (fl (by kernel_rfl) rfl rfl (fun w S fp hst=>(nk a).quiet0 hst)) (aU rfl (bY rfl) (aNn ?_))))))
   refine ah _ rfl (fun h3 => ?_) (fun h3 => ?_)
   ·skip
    have hga:(!eX a)=false:=by simpa using h3
    refine aSR (aM rfl (aM rfl (UL 1 tk222 rfl rfl rfl rfl ?_)))
    refine aU rfl (bE 0 w el32 rfl rfl rfl rfl (by rw [List.length_map];omega)) ?_
    refine LF rfl (dm 0 w 0 tk222 rfl rfl rfl (aJ hyw) rfl (.v rfl (.v rfl .nil)) rfl (by decide) (aHK ?_))
    refine aNn (ae (aM rfl (aU rfl (aO rfl rfl (by omega)) (aA rfl (bK (bo (an (ae (aM rfl (aU rfl (aO rfl rfl (by omega)) (aA rfl (aNn ?_))))))))))))
    refine ⟨[0,1,5,6],[],[0],rfl,?_⟩
    refine ⟨((w+1,r+1),ys.set w a),⟨hI.keep ha hga,?_⟩,by dsimp only;omega⟩
    dsimp only
    rw [List.map_set];rfl
   ·skip
    have hga:(!eX a)=true:=by simpa using h3
    refine ai (bo (an (ae (aM rfl (aU rfl (aO rfl rfl (by omega)) (aA rfl (aNn ?_)))))))
    refine ⟨[0,1,5,6],[],[0],rfl,?_⟩
    exact ⟨((w,r+1),ys),⟨hI.drop ha hga,rfl⟩,by dsimp only;omega⟩
  ·skip
   have hr':zs.length≤r:=by simp at h2;omega
   refine aS (aV (aV (ba (an (aSR (aM rfl (aM rfl ?_)))))))
   refine aU rfl (jE w (zs.length-w) (w*2) el32 rfl rfl rfl (by omega) hcp rfl (by rw [Nat.zero_add])) ?_
   refine LF rfl (nU (k:=w) 0 el32 (zs:=[.int .i64 0,.int .i64 0]) (by kernel_rfl) (by decide) rfl rfl rfl rfl rfl (by rw [List.length_map];exact hln) (by omega) ?_)
   refine aHK ?_
   refine aNn (aSR (aM rfl (aM rfl (aU rfl (fA w el32 rfl rfl rfl (by omega) hcp) (aA rfl (aNn (aj (FZ1 [0] Tryz.results245 rfl ?_))))))))
   exact ⟨rfl,by rw [← hff,← hI.all hr',List.map_take];rfl⟩
abbrev kZ(z:Int):Value:=.int .i64 z
theorem kyI:ef Tryz.prog 3 kZ:=z8 Tryz.underlying3
theorem xE(im:ak)(x:bp)(hs:x.sec.size≤maxLen)(ho:x.obj.size≤maxLen):Con Tryz.prog 146 [im.val,x.val] [] [] fun r _ _=>r=.bool (jP im x):=by
 refine EN2 Tryz.func146 rfl (aSR (LT rfl (bz rfl rfl rfl (fun b0_0=>(aHN ?_)))))
 refine LT rfl (bz rfl rfl rfl (fun b0_1=>(aHN ?_)))
 refine aA rfl (aNs (aSR (UO 2 rfl rfl (UL 1 tk3 rfl rfl rfl rfl (aU rfl (Q0 rfl (cB _ _ _)) (aU rfl (bY rfl) (aM rfl (GO 1 rfl rfl rfl (GL 1 tk9 rfl rfl rfl rfl rfl (aG rfl rfl (fun hc=>Q0 (ax (aa rfl hc) rfl) (fw _ hs)) (aG rfl rfl (fun hc=>bY (aa rfl hc)) (aU rfl (cm rfl rfl (fun h=>gf rfl h)) (aM rfl (GO 0 rfl rfl rfl (GL 1 tk9 rfl rfl rfl rfl rfl ?_)))))))))))))))
 refine aG rfl rfl (fun hc=>Q0 (ax (aa rfl hc) rfl) (iy _ ho)) (aG rfl rfl (fun hc=>bY (aa rfl hc)) (aU rfl (cm rfl rfl (fun h=>gf rfl h)) (aM rfl (GO 5 rfl rfl rfl (GL 1 tk9 rfl rfl rfl rfl rfl (aG rfl rfl (fun hc=>ep Tryz.underlying9 (aa rfl hc)) (aG rfl rfl (fun hc=>dS (aa rfl hc) rfl) (aU rfl (cm rfl rfl (fun h=>gf rfl h)) (aM rfl (GO 6 rfl rfl rfl (GL 1 tk9 rfl rfl rfl rfl rfl (aG rfl rfl (fun hc=>ep Tryz.underlying9 (aa rfl hc)) (aG rfl rfl (fun hc=>dS (aa rfl hc) rfl) (aG rfl rfl (fun hc=>az (aa rfl hc)) (GO 6 rfl rfl rfl ?_)))))))))))))))
 refine GL 1 tk9 rfl rfl rfl rfl rfl (aG rfl rfl (fun hc=>ep Tryz.underlying9 (aa rfl hc)) (aG rfl rfl (fun hc=>dS (aa rfl hc) rfl) (aG rfl rfl (fun hc=>aQ (aa rfl hc) rfl (fun h=>gt hc h)) (aU rfl (cm rfl rfl (fun h=>gf rfl h)) (aM rfl (GO 4 rfl rfl rfl (GL 1 tk3 rfl rfl rfl rfl rfl (aG rfl rfl (fun hc=>dQ (by kernel_rfl) (ax (aa rfl hc) (ax (aa rfl rfl) (ax (aa rfl rfl) rfl))) (fun w S fp hst=>(cB _ _ _).quiet0 hst)) (aG rfl rfl (fun hc=>bY (aa rfl hc)) (aU rfl (cm rfl rfl (fun h=>gf rfl h)) (aM rfl (GO 3 rfl rfl rfl (GL 1 tk3 rfl rfl rfl rfl rfl (aG rfl rfl (fun hc=>dQ (by kernel_rfl) (ax (aa rfl hc) (ax (aa rfl rfl) (ax (aa rfl rfl) rfl))) (fun w S fp hst=>(cB _ _ _).quiet0 hst)) ?_))))))))))))))
 refine aG rfl rfl (fun hc=>bY (aa rfl hc)) (aU rfl (cm rfl rfl (fun h=>gf rfl h)) (aNn ?_))
 refine ah _ rfl (fun h1 => ?_) (fun h1 => ?_)
 ·skip
  have hbad:kK x=true:=h1
  refine aSR (aA rfl (aNn (aj (aN (FZ1 [] Tryz.results146 rfl ?_)))))
  unfold jP;rw [hbad];rfl
 ·skip
  have hbad:kK x=false:=h1
  obtain ⟨hk,hsz,hat⟩:=mg hbad
  refine ai (an (aSR (LT rfl (dO (kZ) (pV) rfl (fun b3_0=>(aHN ?_))))))
  refine UO 2 rfl rfl (UL 0 tk3 rfl rfl rfl rfl (aU rfl (iF (l:=[(0,.const (.int .i64 0)),(1,.tmp 55)]) (zs:=[.int .i64 0,.int .i64 0]) (sz:=1) (m:=2) (by kernel_rfl) (by kernel_rfl) rfl rfl rfl) (aI rfl (gU (k:=(0:Int)) (v:=((0:Int),im.code)) 2 Tryz.underlying346 (kyI) rfl rfl rfl rfl (aHK ?_)))))
  refine UO 2 rfl rfl (UL 0 tk3 rfl rfl rfl rfl (UO 3 rfl rfl (UL 0 tk3 rfl rfl rfl rfl (aU rfl (iF (l:=[(0,.tmp 58),(1,.tmp 60)]) (zs:=[.int .i64 0,.int .i64 0]) (sz:=1) (m:=2) (by kernel_rfl) (by kernel_rfl) rfl rfl rfl) (aI rfl (gU (k:=(1:Int)) (v:=(im.code,im.data)) 2 Tryz.underlying346 (kyI) rfl rfl rfl rfl (aHK ?_)))))))
  refine UO 3 rfl rfl (UL 0 tk3 rfl rfl rfl rfl (UO 4 rfl rfl (UL 0 tk3 rfl rfl rfl rfl (aU rfl (iF (l:=[(0,.tmp 63),(1,.tmp 65)]) (zs:=[.int .i64 0,.int .i64 0]) (sz:=1) (m:=2) (by kernel_rfl) (by kernel_rfl) rfl rfl rfl) (aI rfl (gU (k:=(2:Int)) (v:=(im.data,im.zero)) 2 Tryz.underlying346 (kyI) rfl rfl rfl rfl (aHK ?_)))))))
  refine UO 7 rfl rfl (UL 0 tk3 rfl rfl rfl rfl (aU rfl (iF (l:=[(0,.const (.int .i64 0)),(1,.tmp 68)]) (zs:=[.int .i64 0,.int .i64 0]) (sz:=1) (m:=2) (by kernel_rfl) (by kernel_rfl) rfl rfl rfl) (aI rfl (gU (k:=(3:Int)) (v:=((0:Int),im.block)) 2 Tryz.underlying346 (kyI) rfl rfl rfl rfl (aHK ?_)))))
  refine UO 7 rfl rfl (UL 0 tk3 rfl rfl rfl rfl (aU rfl (iF (l:=[(0,.const (.int .i64 0)),(1,.tmp 71)]) (zs:=[.int .i64 0,.int .i64 0]) (sz:=1) (m:=2) (by kernel_rfl) (by kernel_rfl) rfl rfl rfl) (aI rfl (gU (k:=(4:Int)) (v:=((0:Int),im.block)) 2 Tryz.underlying346 (kyI) rfl rfl rfl rfl (aHK ?_)))))
  refine aM rfl (aA rfl (aNn (aSR (aM rfl (UO 2 rfl rfl (UL 1 tk3 rfl rfl rfl rfl (aU rfl (gJ (k:=x.kind) (v0:=((0:Int),(0:Int))) 2 Tryz.underlying346 (kyI) (by kernel_rfl) rfl rfl rfl) (LT rfl (bt (zs:=[.int .i64 0,.int .i64 0]) (by kernel_rfl) rfl (fun b4_4=>(aHN ?_)))))))))))
  refine aI rfl (aW 3 tk132 rfl rfl rfl rfl (aHK ?_))
  refine aNs ?_
  rw [aax im hk]
  refine ae (UO 3 rfl rfl (UL 1 tk3 rfl rfl rfl rfl (aU rfl (kO (0) Tryz.underlying132 tk3 rfl rfl (rfl) (by decide)) (UL 3 tk3 rfl rfl rfl rfl (aU rfl (dR rfl rfl) (aM rfl (GO 3 rfl rfl rfl (GL 1 tk3 rfl rfl rfl rfl rfl (GO 4 rfl rfl rfl (GL 1 tk3 rfl rfl rfl rfl rfl ?_))))))))))
  refine aG rfl rfl (fun hc=>aO (aa rfl hc) (aa rfl hc) (by (first | omega | (simp at hc;omega)))) ?_
  refine aG rfl rfl (fun hc=>kO (1) Tryz.underlying132 tk3 rfl rfl (rfl) (by decide)) (GL 3 tk3 rfl rfl rfl rfl rfl (aG rfl rfl (fun hc=>dq (aa rfl hc) (aa rfl hc)) (aU rfl (aQ rfl rfl (fun h=>gt rfl h)) (aM rfl (GO 2 rfl rfl rfl (GL 1 tk3 rfl rfl rfl rfl rfl (aG rfl rfl (fun hc=>dS (aa rfl hc) rfl) (aG rfl rfl (fun hc=>az (aa rfl hc)) (GO 3 rfl rfl rfl (GL 1 tk3 rfl rfl rfl rfl rfl (aG rfl rfl (fun hc=>qq (aa rfl hc) rfl (by decide)) ?_)))))))))))
  refine aG rfl rfl (fun hc=>bw (aa rfl hc) rfl) (aG rfl rfl (fun hc=>cm (aa rfl hc) rfl (fun h=>gf hc h)) (aU rfl (aQ rfl rfl (fun h=>gt rfl h)) (aA rfl (aNn (aj (FZ1 [] Tryz.results146 rfl ?_))))))
  unfold jP;rw [hbad];rfl
end Go.Proofs.YtfkcmbonmpcbfaaGreat

namespace Go.Proofs.YtfkcmbonmpcbfaaGreat
open Go.RowKit Go.Lp Go.Sy Go.Lv
abbrev keyOf(x:bp):ByteArray × ByteArray:=(x.obj,x.sec)
abbrev gw(x:bp):bj:=⟨x.at_,x.size⟩
abbrev tU(s:Int):bj:=⟨s,8⟩
def pq(l:List bp):List bj:=(l.filter fun x=>gm x.kind).map gw
def r9(l:List bp):List bj:=(l.filter fun x => !gm x.kind).map gw
def jR(im:ak)(i:Nat)(s:Int):Bool := !((!instrB im.code s) || (decide ((i:Int)>0) && decide (elt im.stubs.l ((i:Int)-1)≥s)))
def mJ(im:ak):Bool:=(decide ((im.nodes.l.length:Int)>4096) || decide ((im.stubs.l.length:Int)>4096)) || !allI (fun _ x=>jP im x) 0 im.nodes.l
def lI(im:ak):Bool:=(!mJ im) &&
 (decide ((im.nodes.l.map keyOf).Nodup) && (allI (jR im) 0 im.stubs.l && (mU (pq im.nodes.l++im.stubs.l.map tU) && mU (r9 im.nodes.l))))
structure NdI (im:ak) (k:Nat) (mem blk:List bj):Prop where
 le:k≤im.nodes.l.length
 m:mem=pq (im.nodes.l.take k)
 b:blk=r9 (im.nodes.l.take k)
 nd:((im.nodes.l.take k).map keyOf).Nodup
section
variable {im:ak} {k:Nat} {mem blk:List bj} {x:bp}
theorem yi(l:List bp)(x:bp):pq (l++[x])=if gm x.kind=true then pq l++[gw x] else pq l:=by
 unfold pq;rw [List.filter_append,List.map_append]
 by_cases h:gm x.kind=true
 · rw [if_pos h];simp [h]
 · rw [if_neg h];simp [h]
theorem xh(l:List bp)(x:bp):r9 (l++[x])=if gm x.kind=true then r9 l else r9 l++[gw x]:=by
 unfold r9;rw [List.filter_append,List.map_append]
 by_cases h:gm x.kind=true
 · rw [if_pos h];simp [h]
 · rw [if_neg h];simp [h]
theorem NdI.len(h:NdI im k mem blk):mem.length≤k∧blk.length≤k:=by
 have hk:=h.le
 rw [h.m,h.b]
 unfold pq r9
 rw [List.length_map,List.length_map]
 have h1:=List.length_filter_le (fun x:bp=>gm x.kind) (im.nodes.l.take k)
 have h2:=List.length_filter_le (fun x:bp => !gm x.kind) (im.nodes.l.take k)
 rw [List.length_take] at h1 h2
 omega
theorem NdI.start(im:ak):NdI im 0 [] []:=⟨Nat.zero_le _,rfl,rfl,List.nodup_nil⟩
theorem NdI.step(h:NdI im k mem blk)(hx:im.nodes.l[k]? = some x)(hn:keyOf x ∉ (im.nodes.l.take k).map keyOf):NdI im (k+1) (if gm x.kind=true then mem++[gw x] else mem) (if gm x.kind=true then blk else blk++[gw x]):=by
 have ht:im.nodes.l.take (k+1)=im.nodes.l.take k++[x]:=by rw [List.take_add_one,hx];rfl
 refine ⟨(List.getElem?_eq_some_iff.1 hx).1,?_,?_,?_⟩
 · rw [ht,yi,h.m]
 · rw [ht,xh,h.b]
 · rw [ht,List.map_append,List.nodup_append]
   exact ⟨h.nd,by simp,fun a ha b hb e=>hn (by rw [List.map_cons,List.map_nil,List.mem_singleton] at hb;rw [hb] at e;exact e ▸ ha)⟩
theorem NdI.dup(hx:im.nodes.l[k]? = some x)(hn:keyOf x∈(im.nodes.l.take k).map keyOf):¬ (im.nodes.l.map keyOf).Nodup:=fun h=>by
 have ht:im.nodes.l=im.nodes.l.take k++x::im.nodes.l.drop (k+1):=by
   obtain ⟨hk,he⟩:=List.getElem?_eq_some_iff.1 hx
   rw [← he,← List.drop_eq_getElem_cons hk,List.take_append_drop]
 rw [ht,List.map_append,List.nodup_append] at h
 exact h.2.2 _ hn (keyOf x) (by simp) rfl
end
def rS(l:List bj):Prop:=∀ s∈l,(0≤s.at_∧s.at_≤1048576)∧0≤s.size∧s.size≤1048576
theorem yp{im:ak}{x:bp}(h:jP im x=true):(0≤x.at_∧x.at_≤1048576)∧(0≤x.size∧x.size≤1048576):=by
 unfold jP at h
 rw [Bool.and_eq_true,Bool.not_eq_true'] at h
 have:=mg h.1
 exact ⟨this.2.2,this.2.1⟩
theorem ql{im:ak}(h:allI (fun _ x=>jP im x) 0 im.nodes.l=true){p:bp→Bool}{s:bj}(hs:s∈(im.nodes.l.filter p).map gw):(0≤s.at_∧s.at_≤1048576)∧0≤s.size∧s.size≤1048576:=by
 obtain ⟨x,hx,rfl⟩:=List.mem_map.1 hs
 obtain ⟨k,hk⟩:=List.mem_iff_getElem?.1 (List.mem_filter.1 hx).1
 have:=yp (gO.1 h k x hk)
 exact this
end Go.Proofs.YtfkcmbonmpcbfaaGreat

namespace Go.Proofs
open Go.Shelf
def Tryz.sortSp_ren:Go.Shelf.Ren:=⟨fun | 6=>248 | 15=>261 | 14=>301 | 28=>316 | 29=>317 | 20=>331 | 21=>332 | 22=>333 | 23=>334 | 24=>335 | 25=>336 | 26=>337 | 27=>338 | 46=>368 | 47=>351 | 48=>352 | 49=>369 | 50=>370 | 57=>380 | n=>n,fun | 22=>32 | 24=>222 | 25=>351 | 3=>3 | 39=>305 | 0=>0 | 53=>369 | 55=>301 | 4=>4 | 46=>388 | 45=>387 | 50=>65 | 5=>5 | 9=>9 | 66=>417 | 70=>165 | 76=>443 | 77=>444 | n=>n,fun | n=>n⟩
theorem Tryz.sortSp:Go.Proofs.SlLaysF0.n6 Tryz.prog Tryz.sortSp_ren := {
 mixed:=by kernel_rfl
 f6:=⟨Tryz.f248.name,by decide,Tryz.func248.trans (congrArg some (by kernel_rfl))⟩
 f14:=⟨Tryz.f301.name,by decide,Tryz.func301.trans (congrArg some (by kernel_rfl))⟩
 f15:=Tryz.func261.trans (congrArg some (by kernel_rfl))
 f20:=⟨Tryz.f331.name,by decide,Tryz.func331.trans (congrArg some (by kernel_rfl))⟩
 f21:=⟨Tryz.f332.name,by decide,Tryz.func332.trans (congrArg some (by kernel_rfl))⟩
 f22:=⟨Tryz.f333.name,by decide,Tryz.func333.trans (congrArg some (by kernel_rfl))⟩
 f23:=⟨Tryz.f334.name,by decide,Tryz.func334.trans (congrArg some (by kernel_rfl))⟩
 f24:=⟨Tryz.f335.name,by decide,Tryz.func335.trans (congrArg some (by kernel_rfl))⟩
 f25:=⟨Tryz.f336.name,by decide,Tryz.func336.trans (congrArg some (by kernel_rfl))⟩
 f26:=⟨Tryz.f337.name,by decide,Tryz.func337.trans (congrArg some (by kernel_rfl))⟩
 f27:=⟨Tryz.f338.name,by decide,Tryz.func338.trans (congrArg some (by kernel_rfl))⟩
 f28:=Tryz.func316.trans (congrArg some (by kernel_rfl))
 f29:=Tryz.func317.trans (congrArg some (by kernel_rfl))
 f46:=⟨Tryz.f368.name,by decide,Tryz.func368.trans (congrArg some (by kernel_rfl))⟩
 f47:=Tryz.func351.trans (congrArg some (by kernel_rfl))
 f48:=Tryz.func352.trans (congrArg some (by kernel_rfl))
 f49:=⟨Tryz.f369.name,by decide,Tryz.func369.trans (congrArg some (by kernel_rfl))⟩
 f50:=⟨Tryz.f370.name,by decide,Tryz.func370.trans (congrArg some (by kernel_rfl))⟩
 f57:=⟨Tryz.f380.name,by decide,Tryz.func380.trans (congrArg some (by kernel_rfl))⟩
 t0:=Tryz.underlying0
 a0:=Tryz.isAgg0
 z0:=Tryz.sizeOf0
 v0:=Tryz.zeroValue0
 t3:=Tryz.underlying3
 a3:=Tryz.isAgg3
 z3:=Tryz.sizeOf3
 v3:=Tryz.zeroValue3
 t4:=Tryz.underlying4
 a4:=Tryz.isAgg4
 z4:=Tryz.sizeOf4
 v4:=Tryz.zeroValue4
 t5:=Tryz.underlying5
 a5:=Tryz.isAgg5
 z5:=Tryz.sizeOf5
 v5:=Tryz.zeroValue5
 t9:=Tryz.underlying9
 a9:=Tryz.isAgg9
 z9:=Tryz.sizeOf9
 v9:=Tryz.zeroValue9
 t22:=Tryz.underlying32
 a22:=Tryz.isAgg32
 z22:=Tryz.sizeOf32
 v22:=Tryz.zeroValue32
 t25:=Tryz.underlying351
 a25:=Tryz.isAgg351
 z25:=Tryz.sizeOf351
 v25:=Tryz.zeroValue351
 t39:=Tryz.underlying305
 a39:=Tryz.isAgg305
 z39:=Tryz.sizeOf305
 v39:=Tryz.zeroValue305
 t45:=Tryz.underlying387
 a45:=Tryz.isAgg387
 z45:=Tryz.sizeOf387
 v45:=Tryz.zeroValue387
 t46:=Tryz.underlying388
 a46:=Tryz.isAgg388
 z46:=Tryz.sizeOf388
 v46:=Tryz.zeroValue388
 t50:=Tryz.underlying65
 a50:=Tryz.isAgg65
 z50:=Tryz.sizeOf65
 v50:=Tryz.zeroValue65
 t53:=Tryz.underlying369
 a53:=Tryz.isAgg369
 z53:=Tryz.sizeOf369
 v53:=Tryz.zeroValue369
 t55:=Tryz.underlying301
 a55:=Tryz.isAgg301
 z55:=Tryz.sizeOf301
 v55:=Tryz.zeroValue301
 t66:=Tryz.underlying417
 a66:=Tryz.isAgg417
 z66:=Tryz.sizeOf417
 v66:=Tryz.zeroValue417
 t70:=Tryz.underlying165
 a70:=Tryz.isAgg165
 z70:=Tryz.sizeOf165
 v70:=Tryz.zeroValue165
 t76:=Tryz.underlying443
 a76:=Tryz.isAgg443
 z76:=Tryz.sizeOf443
 v76:=Tryz.zeroValue443
 t77:=Tryz.underlying444
 a77:=Tryz.isAgg444
 z77:=Tryz.sizeOf444
 v77:=Tryz.zeroValue444 }
end Go.Proofs

namespace Go.Proofs.YtfkcmbonmpcbfaaGreat
open Go.RowKit Go.Lp Go.Sy Go.Lv Go.Sort
open Go.Proofs.Tryz
attribute [local irreducible] aL aB awp aC fwp Quiet
def sm(a b:bj):Int:=jX a.at_ b.at_
theorem j5(a b:bj):ltOf sm a b=decide (a.at_<b.at_):=by
 unfold ltOf sm
 exact decide_eq_decide.2 (kr _ _)
theorem yV:SWO (ltOf sm) where
 irrefl x:=by rw [j5,decide_eq_false_iff_not];omega
 trans x y z h1 h2:=by rw [j5,decide_eq_true_eq] at *;omega
 ntrans x y z h1 h2:=by
   rw [j5,decide_eq_false_iff_not] at *
   omega
theorem uu(a b:bj):Con Tryz.prog 249 [a.val,b.val] [] [] fun r _ _=>r=.int .i64 (sm a b):=by
 refine EN2 Tryz.func249 rfl (aSR (LT rfl (bz rfl rfl rfl (fun b0_0=>(aHN ?_)))))
 refine LT rfl (bz rfl rfl rfl (fun b0_1=>(aHN ?_)))
 refine aA rfl (aNn (aSR (UO 0 rfl rfl (UL 0 tk3 rfl rfl rfl rfl (UO 0 rfl rfl (UL 1 tk3 rfl rfl rfl rfl (aU rfl (Q0 rfl (ku _ _)) (aA rfl (aNn (aj (FZ1 [] Tryz.results249 rfl ?_)))))))))))
 rfl
theorem uL(v:Value)(zs:List bj)(hz:zs.length≤1000000):Con Tryz.prog 248 [v,.func (.func 249) #[] #[]] [] [aD v 222 2 (zs.map bj.row)]
   fun _ ps hp=>ps=[]∧∃ q:List bj,q.Perm zs∧(q.Pairwise fun a b=>¬ jX b.at_ a.at_<0)∧hp=[aD v 222 2 (q.map bj.row)] :=
 pS (enc:=bj.vs) Tryz.sortSp (by decide) Tryz.isAgg222 Tryz.sizeOf222 (fun _=>rfl) (fun x v hv=>by simp at hv;rcases hv with rfl | rfl<;>rfl) sm yV 249 (by kernel_rfl) (fun x y=>uu x y) (T:=222) (v:=v) zs (by omega)
theorem uw(b:Nat)(q:Sl bj)(hf:rS q.l)(hql:q.l.length≤1000000)(i:Nat)(a:bj)(ha:q.l[i]? = some a):Con Tryz.prog 251 [.int .i64 i,a.val,.pointer (some ⟨b,0,none⟩)] [b7 (At b 0 [.v (.slice q.ad q.l.length q.cap)]) (ShF bj.row q)] [] fun r _ _=>r=.bool (zk q.l i a):=by
 have hil:=(List.getElem?_eq_some_iff.1 ha).1
 refine EN3 Tryz.func251 rfl (aSR (LT rfl (bz rfl rfl rfl (fun b0_0=>(aHN ?_)))))
 refine aA rfl (aNs (DR [] 21 (VM 0 rfl rfl (bV 1 rfl rfl (bw rfl rfl) (VM 2 rfl rfl (bW 3 rfl rfl rfl (fun hc=>aP (o:=0) tk32 rfl (Ent.left (.of (aF 0 rfl))) rfl) (bW 4 rfl rfl rfl (fun hc=>az rfl) ?_)))))))
 refine bW 5 rfl rfl rfl (fun hc=>bN (aa rfl hc) rfl (by (first | omega | (simp at hc;omega)))) ?_
 refine mP 6 rfl (by kernel_rfl) _ rfl rfl (fun hc=>aX Tryz.underlying32 tk222 (aa rfl hc) ((Ent.right (.of (aF 0 rfl)))) (aa rfl hc) (er (i:=(i:Int)-1) (by omega) (by simp at hc;omega)) ((Int.toNat_of_nonneg (by simp at hc;omega)).symm) rfl) (fun _=>⟨(0,0)⟩) (fun ⟨b1_6,o1_6⟩ => ?_)
 refine bW 7 rfl rfl rfl (fun hc=>qFA (off:=0) (aa rfl hc)) (bW 8 rfl rfl rfl (fun hc=>dW (o:=0) tk3 (aa rfl hc) (aF 0 rfl) hc rfl) (bW 9 rfl rfl rfl (fun hc=>aP (o:=0) tk32 rfl (Ent.left (.of (aF 1 rfl))) rfl) (bW 10 rfl rfl rfl (fun hc=>az rfl) ?_)))
 refine bW 11 rfl rfl rfl (fun hc=>bN (aa rfl hc) rfl (by (first | omega | (simp at hc;omega)))) ?_
 refine mP 12 rfl (by kernel_rfl) _ rfl rfl (fun hc=>aX Tryz.underlying32 tk222 (aa rfl hc) ((Ent.right (.of (aF 1 rfl)))) (aa rfl hc) (er (i:=(i:Int)-1) (by omega) (by simp at hc;omega)) ((Int.toNat_of_nonneg (by simp at hc;omega)).symm) rfl) (fun _=>⟨(0,0)⟩) (fun ⟨b1_12,o1_12⟩ => ?_)
 refine bW 13 rfl rfl rfl (fun hc=>qFA (off:=1) (aa rfl hc)) (bW 14 rfl rfl rfl (fun hc=>dW (o:=1) tk3 (aa rfl hc) (aF 0 rfl) hc rfl) ?_)
 refine bW 15 rfl rfl rfl (fun hc=>aO (aa rfl hc) (aa rfl hc) (by (have h9:=hf (elt q.l ((i:Int)-1)) (List.mem_of_getElem? (gV (by omega) (by simp at hc;omega)));omega))) ?_
 refine bW 16 rfl rfl rfl (fun hc=>qFA (off:=0) rfl) (bW 17 rfl rfl rfl (fun hc=>bJ 0 tk3 (aa rfl hc) rfl rfl) (bW 18 rfl rfl rfl (fun hc=>dq (aa rfl hc) (aa rfl hc)) (bV 19 rfl rfl (cm rfl rfl (fun h=>gf rfl h)) (bV 20 rfl rfl (bB rfl) (BN (an (aj (FZ1 [] Tryz.results251 rfl ?_))))))))
 rfl
theorem pN(l:Sl bj)(hl:l.l.length≤1000000)(hf:rS l.l):Con Tryz.prog 148 [l.val] [ShF bj.row l] [] fun r _ _=>r=.bool (mU l.l):=by
 have hfl:(l.l.filter eX).length≤1000000:=Nat.le_trans (List.length_filter_le _ _) hl
 refine EN1 Tryz.func148 rfl (aSR (LT rfl (acq ([.slice l.ad l.l.length l.cap]) rfl rfl rfl (fun b0_0=>(aHN ?_)))))
 refine aA rfl (aNn (aSR (UL 0 tk32 rfl rfl rfl rfl (LT rfl (EC [0] [] rfl (sJ l hl) ?_)))))
 rintro _ _ _ ⟨rfl,ad1,c1,rfl,rfl⟩
 refine aST ?_
 refine LF rfl (EC [] [1] rfl ((xM _ l.l hl).know (φ:=fun r=>∃ ad cp,r=.slice ad (l.l.filter eX).length cp) (fun v ps' hp' w S fp ⟨_,h2⟩ hst=>by subst h2;have:=eM (hst.res 0 _ rfl);rwa [List.length_map] at this)) ?_)
 rintro _ _ _ ⟨⟨rfl,rfl⟩,ad2,c2,rfl⟩
 refine aST ?_
 refine aI rfl (aW 0 tk32 rfl rfl rfl rfl (aHK ?_))
 refine aNn (aSR (UL 0 tk32 rfl rfl rfl rfl (LF rfl (EC [] [1] rfl (uL _ _ hfl) ?_))))
 rintro _ _ _ ⟨rfl,q,hqp,hqs,rfl⟩
 refine aST ?_
 refine aNs ?_
 rw [← hqp.length_eq]
 refine ez 1 rfl ?_
 have hqf:rS q:=fun s hs=>hf s (List.mem_filter.1 (hqp.mem_iff.1 hs)).1
 refine bd 0 rfl rfl ?_
 show awp _ _ _ _ ⟨_,At _ 0 _::_,_⟩
 refine ae (UD 0 tk32 0 rfl rfl rfl rfl (aU rfl (dB (l:=[.tmp 1]) rfl) ?_))
 refine aU rfl (QC rfl (fun w S fp hst=>(((pa ⟨ad2,c2,q⟩ 251 [.pointer (some ⟨b0_0,0,none⟩)] (b7 (At b0_0 0 [.v (.slice ad2 q.length c2)]) (ShF bj.row ⟨ad2,c2,q⟩)) (fun i a=>zk q i a) (by kernel_rfl) (fun i a ha=>uw b0_0 ⟨ad2,c2,q⟩ hqf (by have:=hqp.length_eq;dsimp only;omega) i a ha)).post (fun _ _ _ h=>h.2.2)).pre2 (ps:=[At b0_0 0 [.v (.slice ad2 q.length c2)],ShF bj.row ⟨ad2,c2,q⟩]) (.of (aF 1 rfl)) (Ent.mk2 (.of (aF 0 rfl)) (.of (aF 1 rfl)))).quiet2 (aF 0 rfl) (aF 1 rfl) hst)) ?_
 refine aA rfl (aNn (aj (FZ1 [] Tryz.results148 rfl ?_)))
 exact congrArg Value.bool (sf hqp hqs)
end Go.Proofs.YtfkcmbonmpcbfaaGreat

namespace Go.Proofs.YtfkcmbonmpcbfaaGreat
open Go.RowKit Go.Lp Go.Sy Go.Lv
open Go.Proofs.Tryz
attribute [local irreducible] aL aB awp aC fwp Quiet
theorem kyP:ef Tryz.prog 241 cU:=ye Tryz.underlying241 rfl (by kernel_rfl) Tryz.underlying9
theorem uG(im:ak)(b i:Nat)(x:bp)(hx:im.nodes.l[i]? = some x):Con Tryz.prog 145 [.int .i64 i,x.val,.pointer (some ⟨b,0,none⟩)] [b7 (At b 0 im.row) im.ok] [] fun r _ _=>r=.bool (jP im x):=by
 refine EN3 Tryz.func145 rfl (ei (bp.f_sec (Ent.all (f:=bp.ok) (ak.f_nodesA (Ent.right (.of (aF 0 rfl)))) hx)) (fun hs=>(ei (bp.f_obj (Ent.all (f:=bp.ok) (ak.f_nodesA (Ent.right (.of (aF 0 rfl)))) hx)) (fun ho=>(aSR (LT rfl (bz rfl rfl rfl (fun b0_0=>(aHN ?_)))))))))
 refine aA rfl (aNn (aSR (aU rfl (aP (o:=0) tk40 rfl (Ent.left (.of (aF 0 rfl))) rfl) (UL 0 tk153 rfl rfl rfl rfl (aU rfl (Q0 rfl (xE im x hs ho)) (aA rfl (aNn (aj (FZ1 [] Tryz.results145 rfl ?_)))))))))
 rfl
theorem xJ (im:ak) (hS:eK im):Con Tryz.prog 66 [im.val] [im.ok] [] fun r _ _=>r=.bool (lI im):=by
 have hc0:=hS.c0
 have hcd:=hS.cd
 have hdz:=hS.dz
 have hzm:=hS.zm
 refine EN1 Tryz.func66 rfl (aSR (LT rfl (bz rfl rfl rfl (fun b0_0=>(aHN ?_)))))
 refine aA rfl (aNs (aq (bd 0 rfl rfl ?_)))
 show awp _ _ _ _ ⟨_,At _ 0 _::_,_⟩
 refine ae (UO 8 rfl rfl (UD 8 tk23 0 rfl rfl rfl rfl (aU rfl (aY Tryz.underlying23 rfl) (aU rfl (dy rfl rfl) (aM rfl (GO 12 rfl rfl rfl (aG rfl rfl (fun hc=>aP (o:=12) tk26 (aa rfl hc) (.of (aF 0 rfl)) rfl) (aG rfl rfl (fun hc=>aY Tryz.underlying26 (aa rfl hc)) (aG rfl rfl (fun hc=>dy (aa rfl hc) rfl) (aU rfl (cm rfl rfl (fun h=>gf rfl h)) (aM rfl (GO 8 rfl rfl rfl (aG rfl rfl (fun hc=>aP (o:=8) tk23 (aa rfl hc) (.of (aF 0 rfl)) rfl) (aG rfl rfl (fun hc=>dB (l:=[.tmp 1]) rfl) (aG rfl rfl (fun hc=>QC (ax (aa rfl hc) (ax (aa rfl hc) rfl)) (fun w S fp hst=>(((mu im.nodes 145 [.pointer (some ⟨b0_0,0,none⟩)] (b7 (At b0_0 0 im.row) im.ok) (fun _ x=>jP im x) (by kernel_rfl) (fun i x hx=>uG im b0_0 i x hx)).post (fun _ _ _ h=>h.2.2)).pre2 (ps:=[At b0_0 0 im.row,im.ok]) (ak.f_nodes (.of (aF 1 rfl))) (Ent.mk2 (.of (aF 0 rfl)) (.of (aF 1 rfl)))).quiet2 (aF 0 rfl) (aF 1 rfl) hst)) ?_)))))))))))))))
 refine aG rfl rfl (fun hc=>bY (aa rfl hc)) (aU rfl (cm rfl rfl (fun h=>gf rfl h)) (aNn ?_))
 refine ah _ rfl (fun h1 => ?_) (fun h1 => ?_)
 ·skip
  have hh:mJ im=true:=h1
  refine aSR (aA rfl (aNn (aj (aN (FZ1 [] Tryz.results66 rfl ?_)))))
  unfold lI;rw [hh];rfl
 ·skip
  have hh:mJ im=false:=h1
  have hh2:(im.nodes.l.length≤4096∧im.stubs.l.length≤4096)∧allI (fun _ x=>jP im x) 0 im.nodes.l=true:=by
    unfold mJ at hh
    simp only [Bool.or_eq_false_iff,Bool.not_eq_false',decide_eq_false_iff_not] at hh
    exact ⟨⟨by omega,by omega⟩,hh.2⟩
  obtain ⟨⟨hnl,hsl⟩,hall⟩:=hh2
  refine ai (an (aSR (aA rfl (aA rfl (aNs (ew 222 2 (ew 222 2 ?_)))))))
  show awp _ _ _ _ ⟨_,_,[_,_,_]⟩
  refine ae (LT rfl (dO (cU) (vBo) rfl (fun b4_0=>(aHN ?_))))
  refine aA rfl (aNs (aSR (UO 8 rfl rfl (UD 8 tk23 0 rfl rfl rfl rfl (aU rfl (aY Tryz.underlying23 rfl) (aM rfl (aNn (ao ?_))))))))
  refine aR [1,3,4,5,31,32,33] [1,0] [1,2,3] (fun (q:(Nat × (Value × Value)) × (List bj × List bj)) st=>NdI im q.1.1 q.2.1 q.2.2∧st=⟨[(1,true,.pointer (some ⟨b0_0,0,none⟩)),(3,true,q.1.2.1),(4,true,q.1.2.2),(5,true,.map (some b4_0)),(31,true,im.nodes.val),(32,true,.int .i64 im.nodes.l.length),(33,true,.int .i64 q.1.1)],[At b0_0 0 im.row,im.ok],[aD q.1.2.1 222 2 (q.2.1.map bj.row),aD q.1.2.2 222 2 (q.2.2.map bj.row),cN b4_0 cU vBo (ee ((im.nodes.l.take q.1.1).map keyOf))]⟩) (fun q=>im.nodes.l.length-q.1.1) rfl (⟨((0,(.slice none 0 0,.slice none 0 0)),([],[])),NdI.start im,by show _=(⟨_,_,[_,_,cN b4_0 cU vBo (ee [])]⟩:Sta);rw [← oI];rfl⟩) ?_
  rintro ⟨⟨k,mv,bv⟩,mem,blk⟩ st ⟨hI,rfl⟩
  dsimp only at hI ⊢
  have hil:=hI.len
  have hile:=hI.le
  refine aSR (aU rfl (bg rfl rfl) (aNs ?_))
  refine ah _ rfl (fun h2 => ?_) (fun h2 => ?_)
  ·skip
   have hk':k<im.nodes.l.length:=by simpa using h2
   obtain ⟨x,hx⟩:∃ x,im.nodes.l[k]? = some x:=⟨_,List.getElem?_eq_getElem hk'⟩
   have ht1:(im.nodes.l.take (k+1)).map keyOf=(im.nodes.l.take k).map keyOf++[keyOf x]:=by rw [List.take_add_one,hx,List.map_append];rfl
   refine ai (an (aq (ao (aSR (fZ true rfl rfl (fun _=>aX Tryz.underlying23 tk153 rfl ((ak.f_nodes (.of (aF 1 rfl)))) rfl (aJ hx) rfl rfl) (fun h=>absurd h (by decide)) (fun ⟨b7_0,o7_0⟩=>(US 0 tk153 0 rfl rfl rfl rfl rfl (LT rfl (bt (zs:=[.string .empty,.string .empty,.int .i64 0,.int .i64 0,.int .i64 0,.string .empty,.string .empty]) (by kernel_rfl) rfl (fun b7_2=>(aHN ?_)))))))))))
   refine aI rfl (aW 3 tk153 rfl rfl rfl rfl (aHK ?_))
   refine aNn (aSR (UO 0 rfl rfl (UL 3 tk9 rfl rfl rfl rfl (UO 1 rfl rfl (UL 3 tk9 rfl rfl rfl rfl (aU rfl (iF (l:=[(0,.tmp 38),(1,.tmp 40)]) (zs:=[.string .empty,.string .empty]) (sz:=1) (m:=2) (by kernel_rfl) (by kernel_rfl) rfl rfl rfl) (LT rfl (bt (zs:=[.string .empty,.string .empty]) (by kernel_rfl) rfl (fun b8_5=>(aHN ?_))))))))))
   refine aI rfl (aW 4 tk241 rfl rfl rfl rfl (aHK ?_))
   refine aNs (aSR (aM rfl (UL 4 tk241 rfl rfl rfl rfl (aU rfl (gJ (k:=(x.obj,x.sec)) (v0:=false) 2 Tryz.underlying240 (kyP) (by kernel_rfl) rfl rfl rfl) (aNn ?_)))))
   refine ah _ rfl (fun h3 => ?_) (fun h3 => ?_)
   ·skip
    have hdup:keyOf x∈(im.nodes.l.take k).map keyOf:=wM.1 h3
    refine aSR (aA rfl (aNn (aj (aN (bH (aN (aN (bH (aN (FZ1 [] Tryz.results66 rfl (congrArg Value.bool (Eq.symm ?_))))))))))))
    unfold lI
    rw [decide_eq_false (NdI.dup hx hdup),Bool.false_and,Bool.and_false]
   ·skip
    have hdup:keyOf x ∉ (im.nodes.l.take k).map keyOf:=fun hm=>by rw [wM.2 hm] at h3;cases h3
    have hst1:=hI.step hx hdup
    refine ai (an (aSR (aM rfl (UL 4 tk241 rfl rfl rfl rfl (aI rfl (cP (k:=(x.obj,x.sec)) (v:=true) 2 Tryz.underlying240 (kyP) rfl rfl rfl rfl (aHK ?_)))))))
    refine aNn (aSR (UO 3 rfl rfl (UL 3 tk3 rfl rfl rfl rfl (UO 4 rfl rfl (UL 3 tk3 rfl rfl rfl rfl (aU rfl (gr (l:=[(0,.tmp 48),(1,.tmp 50)]) (zs:=[.int .i64 0,.int .i64 0]) (pl:=[(0,1),(1,1)]) (by kernel_rfl) (by kernel_rfl) (by kernel_rfl) rfl rfl rfl) (LT rfl (bt (zs:=[.int .i64 0,.int .i64 0]) (by kernel_rfl) rfl (fun b12_5=>(aHN ?_))))))))))
    refine aI rfl (aW 5 tk222 rfl rfl rfl rfl (aHK ?_))
    refine aNn (aSR (UO 2 rfl rfl (UL 3 tk3 rfl rfl rfl rfl (aU rfl (Q0 rfl (xD _)) (aNn ?_)))))
    refine ah _ rfl (fun h4 => ?_) (fun h4 => ?_)
    ·skip
     rw [if_pos h4,if_pos h4] at hst1
     refine ae (aM rfl (UL 5 tk222 rfl rfl rfl rfl (LT rfl (WL (zs:=[.int .i64 0,.int .i64 0]) el32 rfl rfl rfl (.more rfl (.v rfl (.v rfl .nil)) .nil) rfl rfl (fun v14_2=>(aHN ?_))))))
     refine aI rfl (cJ 0 el32 rfl rfl rfl rfl (dY 6 el32 rfl (by simp)) (by first | assumption | simp) (by rw [List.length_map];show mem.length+1≤_;omega) (mem.length+1) (by rw [List.length_map];rfl) (fun v14_3 c14_3 => ?_))
     refine aHK ?_
     refine aA rfl (bK (bo (an (ae (aU rfl (aO rfl rfl (by omega)) (aM rfl (aNn ?_)))))))
     refine ⟨[1,3,4,5,31,32,33],[1,0],[0,1,2],rfl,?_⟩
     refine ⟨((k+1,(.slice v14_3 (mem.length+1) c14_3,bv)),(mem++[gw x],blk)),⟨hst1,?_⟩,by dsimp only;omega⟩
     show _=(⟨_,_,[aD (.slice v14_3 (mem.length+1) c14_3) 222 2 ((mem++[gw x]).map bj.row),_,cN b4_0 cU vBo (ee ((im.nodes.l.take (k+1)).map keyOf))]⟩:Sta)
     rw [ht1,fL,List.map_append];rfl
    ·skip
     rw [if_neg (by rw [h4];decide),if_neg (by rw [h4];decide)] at hst1
     refine ae (aM rfl (UL 5 tk222 rfl rfl rfl rfl (LT rfl (WL (zs:=[.int .i64 0,.int .i64 0]) el32 rfl rfl rfl (.more rfl (.v rfl (.v rfl .nil)) .nil) rfl rfl (fun v15_2=>(aHN ?_))))))
     refine aI rfl (cJ 1 el32 rfl rfl rfl rfl (dY 6 el32 rfl (by simp)) (by first | assumption | simp) (by rw [List.length_map];show blk.length+1≤_;omega) (blk.length+1) (by rw [List.length_map];rfl) (fun v15_3 c15_3 => ?_))
     refine aHK ?_
     refine aA rfl (bK (bo (an (ae (aU rfl (aO rfl rfl (by omega)) (aM rfl (aNn ?_)))))))
     refine ⟨[1,3,4,5,31,32,33],[1,0],[0,1,2],rfl,?_⟩
     refine ⟨((k+1,(mv,.slice v15_3 (blk.length+1) c15_3)),(mem,blk++[gw x])),⟨hst1,?_⟩,by dsimp only;omega⟩
     show _=(⟨_,_,[_,aD (.slice v15_3 (blk.length+1) c15_3) 222 2 ((blk++[gw x]).map bj.row),cN b4_0 cU vBo (ee ((im.nodes.l.take (k+1)).map keyOf))]⟩:Sta)
     rw [ht1,fL,List.map_append];rfl
  ·skip
   have hkn:k=im.nodes.l.length:=by simp at h2;omega
   have hmN:mem=pq im.nodes.l:=by have:=hI.m;rwa [hkn,List.take_length] at this
   have hbN:blk=r9 im.nodes.l:=by have:=hI.b;rwa [hkn,List.take_length] at this
   have hnd:(im.nodes.l.map keyOf).Nodup:=by have:=hI.nd;rwa [hkn,List.take_length] at this
   refine aS (aV (aV (ba (an (aq (aSR (UO 12 rfl rfl (UD 12 tk26 0 rfl rfl rfl rfl (aU rfl (aY Tryz.underlying26 rfl) (aM rfl (aNn (ao ?_))))))))))))
   refine aR [1,3,4,65,66,67] [1,0] [0,1] (fun (q:Nat × (Value × List bj)) st=>(q.1≤im.stubs.l.length∧q.2.2=pq im.nodes.l++(im.stubs.l.take q.1).map tU∧∀ i s,i<q.1→im.stubs.l[i]? = some s→jR im i s=true)∧st=⟨[(1,true,.pointer (some ⟨b0_0,0,none⟩)),(3,true,q.2.1),(4,true,bv),(65,true,im.stubs.val),(66,true,.int .i64 im.stubs.l.length),(67,true,.int .i64 q.1)],[At b0_0 0 im.row,im.ok],[aD q.2.1 222 2 (q.2.2.map bj.row),aD bv 222 2 (blk.map bj.row)]⟩) (fun q=>im.stubs.l.length-q.1) rfl (⟨(0,(mv,mem)),⟨Nat.zero_le _,by simp [hmN],fun i s h=>absurd h (Nat.not_lt_zero _)⟩,rfl⟩) ?_
   rintro ⟨j,mv2,mem2⟩ st ⟨⟨hj,hm2,hpre⟩,rfl⟩
   dsimp only at hj hm2 hpre ⊢
   have hm2l:mem2.length≤8192:=by rw [hm2,← hmN,List.length_append,List.length_map,List.length_take];omega
   refine aSR (aU rfl (bg rfl rfl) (aNs ?_))
   refine ah _ rfl (fun h5 => ?_) (fun h5 => ?_)
   ·skip
    have hj':j<im.stubs.l.length:=by simpa using h5
    obtain ⟨s,hs⟩:∃ s,im.stubs.l[j]? = some s:=⟨_,List.getElem?_eq_getElem hj'⟩
    refine ai (an (aq (ao (aSR (aM rfl (fZ true rfl rfl (fun _=>aX Tryz.underlying26 tk3 rfl ((ak.f_stubs (.of (aF 1 rfl)))) rfl (aJ hs) rfl rfl) (fun h=>absurd h (by decide)) (fun ⟨b19_1,o19_1⟩=>(US 0 tk3 0 rfl rfl rfl rfl rfl (aA rfl (aA rfl (aNs (aSR (UD 0 tk40 1 rfl rfl rfl rfl (aM rfl (aU rfl (Q0 rfl (con_instr im ⟨hc0,by omega⟩ s)) ?_)))))))))))))))
    refine aU rfl (bY rfl) (aM rfl (aG rfl rfl (fun hc=>az rfl) (aG rfl rfl (fun hc=>dy (aa rfl hc) rfl) (aG rfl rfl (fun hc=>az (aa rfl hc)) (GO 12 rfl rfl rfl (aG rfl rfl (fun hc=>aP (o:=12) tk26 (aa rfl hc) (.of (aF 1 rfl)) rfl) (aG rfl rfl (fun hc=>az rfl) ?_)))))))
    refine aG rfl rfl (fun hc=>bN (aa rfl hc) rfl (by (first | omega | (simp at hc;omega)))) ?_
    refine fZ _ rfl rfl (fun hc=>aX Tryz.underlying26 tk3 (aa rfl hc) ((ak.f_stubs (.of (aF 2 rfl)))) (aa rfl hc) (er (i:=(j:Int)-1) (by omega) (by simp at hc;omega)) ((Int.toNat_of_nonneg (by simp at hc;omega)).symm) rfl) (fun _=>⟨(0,0)⟩) (fun ⟨b20_12,o20_12⟩ => ?_)
    refine aG rfl rfl (fun hc=>dW (o:=0) tk3 (aa rfl hc) (aF 0 rfl) hc rfl) (aG rfl rfl (fun hc=>az rfl) (aG rfl rfl (fun hc=>dR (aa rfl hc) (aa rfl hc)) (aG rfl rfl (fun hc=>aQ (aa rfl hc) rfl (fun h=>gt hc h)) (aU rfl (cm rfl rfl (fun h=>gf rfl h)) (aNn ?_)))))
    refine ah _ rfl (fun h6 => ?_) (fun h6 => ?_)
    ·skip
     have hsb:jR im j s=false:=by unfold jR;rw [Bool.not_eq_false'];exact h6
     refine aSR (aA rfl (aNn (aj (aN (bH (aN (aN (bH (aN (FZ1 [] Tryz.results66 rfl (congrArg Value.bool (Eq.symm ?_))))))))))))
     have hf:allI (jR im) 0 im.stubs.l=false:=by
       cases h:allI (jR im) 0 im.stubs.l with
       | false=>rfl
       | true=>have:=gO.1 h j s hs;rw [Nat.zero_add,hsb] at this;cases this
     unfold lI
     rw [hf,Bool.false_and,Bool.and_false,Bool.and_false]
    ·skip
     have hsb:jR im j s=true:=by unfold jR;rw [Bool.not_eq_true'];exact h6
     refine ai (an (ae (aM rfl (aM rfl (aU rfl (gr (l:=[(0,.tmp 91),(1,.const (.int .i64 8))]) (zs:=[.int .i64 0,.int .i64 0]) (pl:=[(0,1),(1,1)]) (by kernel_rfl) (by kernel_rfl) (by kernel_rfl) rfl rfl rfl) (LT rfl (WL (zs:=[.int .i64 0,.int .i64 0]) el32 rfl rfl rfl (.more rfl (.v rfl (.v rfl .nil)) .nil) rfl rfl (fun v22_3=>(aHN ?_)))))))))
     refine aI rfl (cJ 0 el32 rfl rfl rfl rfl (dY 2 el32 rfl (by simp)) (by first | assumption | simp) (by rw [List.length_map];show mem2.length+1≤_;omega) (mem2.length+1) (by rw [List.length_map];rfl) (fun v22_4 c22_4 => ?_))
     refine aHK ?_
     refine aA rfl (bK (bo (an (ae (aU rfl (aO rfl rfl (by omega)) (aM rfl (aNn ?_)))))))
     refine ⟨[1,3,4,65,66,67],[1,0],[0,1],rfl,?_⟩
     refine ⟨(j+1,(.slice v22_4 (mem2.length+1) c22_4,mem2++[tU s])),⟨⟨hj',?_,fun i t hi ht => ?_⟩,?_⟩,by dsimp only;omega⟩
     · dsimp only;rw [hm2,List.append_assoc,List.take_add_one,hs,List.map_append];rfl
     · rcases Nat.lt_or_ge i j with h | h
       · exact hpre i t h ht
       · obtain rfl:i=j:=by dsimp only at hi;omega
         rw [hs] at ht;obtain rfl:=Option.some.inj ht;exact hsb
     · show _=(⟨_,_,[aD (.slice v22_4 (mem2.length+1) c22_4) 222 2 ((mem2++[tU s]).map bj.row),_]⟩:Sta)
       rw [List.map_append];rfl
   ·skip
    have hjn:j=im.stubs.l.length:=by simp at h5;omega
    have hstubs:allI (jR im) 0 im.stubs.l=true:=gO.2 fun i t ht=>by rw [Nat.zero_add];exact hpre i t (by rw [hjn];exact (List.getElem?_eq_some_iff.1 ht).1) ht
    have hm3:mem2=pq im.nodes.l++im.stubs.l.map tU:=by rw [hm2,hjn,List.take_length]
    have hfM:rS mem2:=fun t ht=>by
      rw [hm3] at ht
      rcases List.mem_append.1 ht with h | h
      · exact ql hall h
      · obtain ⟨z,hz,rfl⟩:=List.mem_map.1 h
        obtain ⟨i,hi⟩:=List.mem_iff_getElem?.1 hz
        have:=gO.1 hstubs i z hi
        unfold jR instrB at this
        simp only [Bool.not_eq_true',Bool.or_eq_false_iff,Bool.not_eq_false',Bool.and_eq_true,ko] at this
        have h9:=this.1.1
        exact ⟨⟨h9.1,by show z≤_;omega⟩,by show 0≤(8:Int)∧(8:Int)≤1048576;decide⟩
    have hfB:rS blk:=fun t ht=>by rw [hbN] at ht;exact ql hall ht
    refine aS (aV (aV (ba (an (aq (eV 0 rfl (fun w S F hh=>eM hh) (fun hov => ?_)))))))
    obtain ⟨mad,mcp,rfl⟩:=hov
    refine eV 1 rfl (fun w S F hh=>eM hh) (fun hov => ?_)
    obtain ⟨bad,bcp,rfl⟩:=hov
    rw [List.length_map,List.length_map]
    refine ez 0 rfl (ez 1 rfl (ae (aM rfl ?_)))
    refine aU rfl (Q1 rfl (pN ⟨mad,mcp,mem2⟩ (by dsimp only;omega) hfM) 1 rfl) ?_
    refine aM rfl (aG rfl rfl (fun hc=>az rfl) ?_)
    refine aG rfl rfl (fun hc=>Q1 (ax (aa rfl hc) rfl) (pN ⟨bad,bcp,blk⟩ (by dsimp only;omega) hfB) 0 rfl) ?_
    refine aU rfl (aQ rfl rfl (fun h=>gt rfl h)) (aA rfl (aNn (aj (FZ1 [] Tryz.results66 rfl (congrArg Value.bool ?_)))))
    unfold lI
    rw [hh,decide_eq_true hnd,hstubs,← hm3,← hbN];rfl
end Go.Proofs.YtfkcmbonmpcbfaaGreat

namespace Go.Proofs.YtfkcmbonmpcbfaaGreat
open Go.RowKit Go.Lp Go.Sy Go.Lv
def wE(im:ak)(x:bO):Int:=if x.kind=2 then im.block else im.zero
def adC(y x:bO):Int:=if uq y.name x.name≠0 then uq y.name x.name else uq y.version x.version
def i1(im:ak)(i:Nat)(x:bO):Bool:=decide ((i:Int)>0) && decide (adC (elt im.exports.l ((i:Int)-1)) x≥0)
def mH(x:bO):Bool:=x.main || decide (x.version=⟨#[]⟩)
def adi(im:ak)(x:bO):Bool:=(((dV x.name && kJ x.version) && fV x.kind 0 2) && decide (x.size≥0)) && fV x.at_ 0 (wE im x)
def ve(im:ak)(s:List ByteArray)(i:Nat)(x:bO):Bool × List ByteArray :=
 if i1 im i x=true then (false,s) else if mH x=true then (if (ee s x.name).getD false=true then (false,s) else (adi im x,s++[x.name])) else (adi im x,s)
def s7(im:ak):Bool:=decide ((im.exports.l.length:Int)≤4096) && (eE (ve im) [] 0 im.exports.l).1
abbrev acy(x:bR):ByteArray × ByteArray:=(x.name,x.version)
abbrev kR(im:ak)(i:Nat):Int:=elt im.slots.l (i:Int)
def vh(im:ak)(st:List (ByteArray × ByteArray) × List Int)(i:Nat)(x:bR):Bool :=
 (ee st.1 (acy x)).getD false || ((!decide (kR im i = -1)) && (((ee st.2 (kR im i)).getD false || !fV (kR im i) im.code (im.data-8)) || !decide ((kR im i).tmod 8=0)))
def adE(x:bR):Bool:=(dV x.name && kJ x.version) && fV x.kind 0 2
def vi(im:ak)(st:List (ByteArray × ByteArray) × List Int)(i:Nat)(x:bR):Bool × (List (ByteArray × ByteArray) × List Int) :=
 if vh im st i x=true then (false,st) else (adE x,(st.1++[acy x],st.2++[kR im i]))
def te(im:ak):Bool:=decide ((im.imports.l.length:Int)>4096) || !decide ((im.slots.l.length:Int)=im.imports.l.length)
def gY(im:ak):Bool:=if te im=true then false else (eE (vi im) ([],[]) 0 im.imports.l).1
def nT(im:ak)(e:Int)(x:mq):Bool:=((!fV x.kind 0 7) || (!fV x.at_ e (im.data-dg x.kind))) || (!fV x.import_ (-1) (im.imports.l.length-1))
def re(im:ak)(x:mq):Bool:=decide (x.import_<0) || (!decide (elt im.slots.l x.import_=x.at_))
def fN(im:ak)(st:Int × Int)(_:Nat)(x:mq):Bool × (Int × Int) :=
 if nT im st.1 x=true then (false,st) else
 if x.kind=3 then (if re im x=true then (false,st) else (true,(x.at_+dg x.kind,st.2+1))) else
 if (x.kind=5∨x.kind=6∨x.kind=7)∧x.import_<0 then (false,st) else (true,(x.at_+dg x.kind,st.2))
def kS(l:List Int):Int:=((l.filter fun s => !decide (s = -1)).length:Nat)
def l9(im:ak):Bool:=(eE (fN im) (0,0) 0 im.dyns.l).1 && decide ((eE (fN im) (0,0) 0 im.dyns.l).2.2-kS im.slots.l=0)
theorem u6{im:ak}{e:Int}{x:mq}(h:nT im e x=false):(0≤x.kind∧x.kind≤7)∧(e≤x.at_∧x.at_≤im.data-dg x.kind)∧(-1≤x.import_∧x.import_≤im.imports.l.length-1):=by
 unfold nT at h
 simp only [Bool.or_eq_false_iff,Bool.not_eq_false',ko] at h
 exact ⟨h.1.1,h.1.2,h.2⟩
theorem yd(k:Int):dg k=4∨dg k=8:=by unfold dg;split<;>simp
theorem vS(l:List Int)(s:Int):kS (l++[s])=if s = -1 then kS l else kS l+1:=by
 unfold kS
 rw [List.filter_append]
 by_cases h:s = -1
 · rw [if_pos h];simp [h]
 · rw [if_neg h];simp [h]
theorem tS(l:List Int):0≤kS l∧kS l≤l.length:=by
 unfold kS
 have:=List.length_filter_le (fun s:Int => !decide (s = -1)) l
 omega
end Go.Proofs.YtfkcmbonmpcbfaaGreat

namespace Go.Sy
open Go.RowKit Go.Lp
theorem zc{P:Program}{n:Fr}{ops:Array Oper}{Q:Exit→Sta→Prop}{env:Env}{ps:List Per}{hp:List Res}{rest:List Oper}(i:Nat)(h:aL P n ops Q rest ⟨env,ps,hp.set i emp⟩):aL P n ops Q rest ⟨env,ps,hp⟩:=fun w S fp a hst he hn hd=>by
 have hX:∀ b,tot (fun k=>if k=i then (fun _=>False) else fp k) (hp.set i emp).length b→tot fp hp.length b:=fun b ⟨k,hk,hb⟩=>by
   dsimp only at hb
   by_cases e:k=i
   · rw [if_pos e] at hb;exact hb.elim
   · rw [if_neg e] at hb;exact ⟨k,by simpa using hk,hb⟩
 exact eC (fun e a' w' hp'=>hp'.trans (Evo.refl _ _ _) fun b hb=>.inl (hX b hb)) _ _ _ (h w S _ a (hst.drop i) he hn hd)
theorem pC{P:Program}{n:Fr}{ops:Array Oper}{Q:Exit→Sta→Prop}{env:Env}{ps:List Per}{hp:List Res}{ty:TypeId}{pos:String}{af:Array Edge}{gd:Option (Nat × Bool)}{rest:List Oper}{t:Nat}{f:FuncId}{g:Operand}{caps:List Value}{l:List Operand}{ts:Array TypeId}{vs:List Value}{v:Value}(lp:List Nat)(i:Nat)(hf:cM P f=true)(c:Bool)(hc:guardOf ops env ⟨some t,.call ⟨.value g,l.toArray,ts⟩,ty,pos,af,gd⟩=some c)(ht:fits n.size (some t)=true)(hi:i<hp.length)
   (hgv:c=true→ev env g=some (true,.func (.func f) #[] caps.toArray)) (hx:c=true→evs env l=some vs) (hcon:c=true→Con P f (vs++caps) (dE ps lp) (bA hp [i]) fun r ps' hp'=>ps'=[]∧hp'=[]∧r=v)
   (h:aL P n ops Q rest ⟨(t,c,v)::env,ps,hp.set i emp⟩):aL P n ops Q (⟨some t,.call ⟨.value g,l.toArray,ts⟩,ty,pos,af,gd⟩::rest) ⟨env,ps,hp⟩:=by
 cases c with
 | true =>
   refine aI (q:=false) hc (fE lp [i] hf (hgv rfl) (hx rfl) ht (by simp [okH,hi]) rfl (hcon rfl) ?_)
   rintro _ _ _ ⟨rfl,rfl,rfl⟩
   refine iK ?_ h
   apply List.ext_getElem?;intro j;rw [je,List.getElem?_set,Nat.zero_add]
   by_cases hj:j<hp.length
   · rw [if_pos hj]
     by_cases e:i=j
     · subst e;rw [if_pos rfl,if_pos hj];simp [place]
     · rw [if_neg e];simp [place,e]
   · rw [if_neg hj,if_neg (by omega),List.getElem?_eq_none (by simp),List.getElem?_eq_none (by omega)]
 | false=>exact mQ (v:=v) false hc ht (fun h=>by cases h) (zc i h)
theorem aa9{P:Program}{f:FuncId}{args:List Value}{ps:List Per}{l:List Res}{R:Value→List Per→List Res→Prop}(h:Con P f args ps l R):Con P f args ps [Bun l] fun v ps' hp'=>∃ l',hp'=[Bun l']∧R v ps' l':=fun w S fp hst=>by
 obtain ⟨fp2,k1,k2⟩:=hst.unbun
 refine (h w S fp2 k1).mono fun e w' ⟨v,ps',hp',S',fp',he,hR,hst',hE,hg⟩ => ?_
 exact ⟨v,ps',[Bun hp'],S',_,he,⟨hp',rfl,hR⟩,hst'.bun,hE.wider k2,fun b hb=>(hg b ((mM _ b (Bun hp')).1 hb)).imp (k2 b) id⟩
end Go.Sy

