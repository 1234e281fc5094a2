/- Parts of the proof, in build order. No condition. -/
import Derived.Test.YtfkcmbonmpcbfaaGreatTa11
import Derived.Test.YtfkcmbonmpcbfaaGreatTa07
import Derived.Test.YtfkcmbonmpcbfaaGreatTa05
import Derived.Test.YtfkcmbonmpcbfaaGreatTa10
import Derived.Test.YtfkcmbonmpcbfaaGreatTa06
import Derived.Test.YtfkcmbonmpcbfaaGreatTa03
set_option linter.unusedSimpArgs false
set_option linter.unusedVariables false
set_option maxHeartbeats 1000000
set_option maxRecDepth 20000
namespace Go.Proofs.YtfkcmbonmpcbfaaGreat
open Go.RowKit Go.Lp Go.Sy Go.Lv
open Go.Proofs.Tryz
attribute [local irreducible] aL aB awp aC fwp Quiet
theorem uV{ad:Option Addr}{c:Nat}(v:Int)(N:Nat)(hN:N≤1000000):Con Tryz.prog 346 [.slice ad 1 c,.int .i64 N] [Sh (.slice ad 1 c) (.sl (bO encI [v]))] [] fun r ps hp=>ps=[]∧hp=[az r 3 1 (bO encI (List.replicate N v))]:=by
 cases N with
 | zero=>exact sX v
 | succ N=>exact sY v (N+1) hN (Nat.succ_pos _)
set_option maxHeartbeats 4000000 in
theorem uW(N:Nat)(hN:N≤1000000)(l:Sl cK)(hl:l.l.length≤100000000)(hr:∀ a∈l.l,iS N a)(rs:Sl Int)(hrs:rs.l.length≤1000000) :
   Con Tryz.prog 305 [.int .i64 N,l.val,rs.val] [ShF cK.row l,ShF (fun z=>[.v (encI z)]) rs] [] fun r ps hp=>ps=[]∧hp=[az r 3 1 (bO encI (jz N (eb N l.l) (cM rs.l)))]:=by
 have hro:=tL hr
 have hrl:=uo rs.l
 obtain ⟨M,hM⟩:∃ M,M=(cM rs.l).length+N:=⟨_,rfl⟩
 have hB:=jk N (cM rs.l)
 rw [← hM] at hB
 refine EN3 Tryz.func305 rfl (aSR (aA rfl (aNn (aSR (LT rfl (WL (zs:=[.int .i64 0]) el26 rfl rfl rfl (.more rfl (.v rfl .nil) .nil) rfl rfl (fun v1_0=>(aHN ?_))))))))
 refine aM rfl (LF rfl (EC [] [0] rfl (Con.ofOwn (uV (-1) N hN)) ?_))
 rintro vb _ _ ⟨rfl,rfl⟩
 refine aST ?_
 refine aA rfl (aNs (pZ 0 rfl (fun ab cb hvb => ?_)))
 rw [cI,List.length_replicate] at hvb
 subst hvb
 refine ae (aM rfl (LT rfl (EC [0] [] rfl (n0 rs.l hrs) ?_)))
 rintro vc _ _ ⟨rfl,rfl⟩
 refine aST ?_
 refine aA rfl (aNn (aSR (aM rfl (LF rfl (EC [] [1] rfl (jm rs.l (by omega)) ?_)))))
 rintro _ _ _ ⟨rfl,rfl⟩
 refine aST ?_
 refine aNs (dO 3 1 ?_)
 show awp _ _ _ _ ⟨_,_,[_,_,_]⟩
 refine ae (aA rfl (aNs (aSR (aM rfl (LF rfl (EC [] [1] rfl (ku _) ?_))))))
 rintro _ _ _ ⟨rfl,au,cu,rfl,rfl⟩
 refine aST ?_
 refine aU rfl (aY Tryz.underlying26 rfl) (aM rfl (aNn (ao (aP [0,1,7,9,24,25,26] [1] [0,1,2] (fun (p:Nat × Value) s=>p.1≤(cM rs.l).length∧s=⟨[(0,true,.int .i64 N),(1,true,l.val),(7,true,.slice ab N cb),(9,true,p.2),(24,true,.slice au (cM rs.l).length cu),(25,true,.int .i64 (cM rs.l).length),(26,true,.int .i64 p.1)],[ShF cK.row l],[az (.slice ab N cb) 3 1 (bO encI (cP N ((cM rs.l).take p.1)).1),az (.slice au (cM rs.l).length cu) 3 1 (bO encI (cM rs.l)),az p.2 3 1 (bO encI (cP N ((cM rs.l).take p.1)).2)]⟩) (fun p=>(cM rs.l).length-p.1) rfl (⟨(0,.slice none 0 0),Nat.zero_le _,rfl⟩) ?_))))
 rintro ⟨k,vw⟩ s ⟨hk,rfl⟩
 dsimp only at hk
 refine aSR (aU rfl (bd rfl rfl) (aNs ?_))
 refine ah _ rfl (fun h1 => ?_) (fun h1 => ?_)
 ·skip
  have hk':k<(cM rs.l).length:=by simp at h1;omega
  obtain ⟨v,hv⟩:∃ v,(cM rs.l)[k]? = some v:=⟨_,List.getElem?_eq_getElem hk'⟩
  have hst:=sw N _ hv
  refine ai (ak (aq (ao (aq (eM 1 rfl (kA (by omega)) (fun Bu cpu hvu => ?_))))))
  obtain ⟨rfl,rfl⟩:au=some ⟨Bu,0,none⟩∧cu=cpu:=by simp at hvu;exact ⟨hvu.1,hvu.2.2⟩
  refine ae (aU rfl (ez k el26 rfl rfl rfl hk') (aU rfl (ba (v:=.slice (some ⟨Bu,0,none⟩) (cM rs.l).length cu) (u:=encI v) 1 k 0 tk3 rfl rfl (ia hv) rfl rfl) (aA rfl (aNn (aSR (aM rfl (aU rfl (dY rfl rfl) (aM rfl (aG rfl rfl (fun hc=>ax rfl) (aG rfl rfl (fun hc=>ax rfl) (aG rfl rfl (fun hc=>bd (aa rfl hc) (aa rfl hc)) (aU rfl (aT rfl rfl (fun h=>gt rfl h)) (aNn ?_)))))))))))))
  refine ah _ rfl (fun h2 => ?_) (fun h2 => ?_)
  ·skip
   have hvn:0≤v∧v<N:=by simpa using h2
   refine aq ?_
   have hbl:=(iw N ((cM rs.l).take k)).1
   refine eM 0 rfl (kA (by rw [hbl];omega)) (fun B cp hvb => ?_)
   obtain ⟨rfl,rfl⟩:ab=some ⟨B,0,none⟩∧cb=cp:=by simp at hvb;exact ⟨hvb.1,hvb.2.2⟩
   obtain ⟨o,ho⟩:∃ o,(cP N ((cM rs.l).take k)).1[v.toNat]? = some o:=⟨_,List.getElem?_eq_getElem (by rw [hbl];omega)⟩
   have hrow:=ia ho
   refine ae (aM rfl (aM rfl (aM rfl (aU rfl (ez v.toNat el26 rfl rfl (by omega) (by omega)) (LF rfl (cA 0 v.toNat 0 tk3 rfl rfl rfl hrow rfl (.v rfl .nil) rfl (by decide) (aNn (ae (aM rfl (aM rfl (LT rfl (WL (zs:=[.int .i64 0]) el26 rfl rfl rfl (.more rfl (.v rfl .nil) .nil) rfl rfl (fun v10_2=>(aHN ?_))))))))))))))
   refine aJ rfl (cB 2 el26 rfl rfl rfl rfl (dK 3 el26 rfl (by simp)) (by first | assumption | simp) (by have:=(iw N ((cM rs.l).take k)).2;rw [List.length_take] at this;simp [cI];omega) _ rfl (fun v10_3 c10_3 => ?_))
   refine aHK ?_
   refine aA rfl (bE (bb (ak (ae (aU rfl (aO rfl rfl (by omega)) (aM rfl (aNn ?_)))))))
   refine ⟨[0,1,7,9,24,25,26],[0],[0,1,2],rfl,?_⟩
   refine ⟨(k+1,.slice v10_3 ((bO encI (cP N ((cM rs.l).take k)).2).length+1) c10_3),⟨by omega,?_⟩,by omega⟩
   dsimp only
   rw [hst]
   unfold dm
   rw [if_pos hvn,tm,jq]
   rfl
  ·skip
   have hvn:¬ (0≤v∧v<N):=by simpa using h2
   refine ai (bb (ak (ae (aU rfl (aO rfl rfl (by omega)) (aM rfl (aNn ?_))))))
   refine ⟨[0,1,7,9,24,25,26],[0],[0,1,2],rfl,?_⟩
   refine ⟨(k+1,vw),⟨by omega,?_⟩,by omega⟩
   dsimp only
   rw [hst]
   unfold dm
   rw [if_neg hvn]
   rfl
 ·skip
  have hkl:k=(cM rs.l).length:=by simp at h1;omega
  subst hkl
  rw [List.take_length]
  refine aQ (aR (aR (aX (ak (aSR (aM rfl (aM rfl (LT rfl (EC [0] [] rfl (sU N hN l hl (fun a ha=>(hr a ha).1)) ?_)))))))))
  rintro vn _ _ ⟨rfl,rfl⟩
  refine aST ?_
  refine aA rfl (aNs (aq (gm 3 rfl (fun so hso hsl => ?_))))
  subst hso
  refine ae (aA rfl (aNn (ao (aP [7,9,12,13] [2,1] [0,2] (fun (p:Nat × Value) s=>p.1≤(bfs (eb N l.l) (cP N (cM rs.l)) p.1).2.length∧s=⟨[(7,true,.slice ab N cb),(9,true,p.2),(12,true,so.val),(13,true,.int .i64 p.1)],[bN (ShF fun z=>[.v (encI z)]) so.l,ShF (fun t:Sl Int=>[.v t.val]) so],[az (.slice ab N cb) 3 1 (bO encI (bfs (eb N l.l) (cP N (cM rs.l)) p.1).1),az p.2 3 1 (bO encI (bfs (eb N l.l) (cP N (cM rs.l)) p.1).2)]⟩) (fun p=>M-p.1) rfl (⟨(0,vw),Nat.zero_le _,rfl⟩) ?_))))
  rintro ⟨k,vw2⟩ s ⟨hk,rfl⟩
  dsimp only at hk
  have hBk:=nr hro hB k
  have hkM:=hBk.le
  refine aq (aq ?_)
  obtain ⟨sk,hsk⟩:∃ sk,bfs (eb N l.l) (cP N (cM rs.l)) k=sk:=⟨_,rfl⟩
  rw [hsk] at hk hBk hkM ⊢
  refine pZ 1 rfl (fun aw cw hvw => ?_)
  rw [cI] at hvw
  subst hvw
  refine ae (aM rfl (aM rfl (aU rfl (aY Tryz.underlying26 rfl) (aU rfl (bd rfl rfl) (aNn ?_)))))
  refine ah _ rfl (fun h3 => ?_) (fun h3 => ?_)
  ·skip
   have hk':k<sk.2.length:=by simp at h3;omega
   obtain ⟨u,hu⟩:∃ u,sk.2[k]? = some u:=⟨_,List.getElem?_eq_getElem hk'⟩
   have hun:=hBk.mem u (List.mem_of_getElem? hu)
   have hsol:so.l.length=N:=by rw [← List.length_map (f:=Sl.l),hsl];unfold eb;rw [List.length_map,cH]
   refine ai (ak (aq (ao (aq (eM 1 rfl (kA (by omega)) (fun Bw cpw hvw => ?_))))))
   obtain ⟨rfl,rfl⟩:aw=some ⟨Bw,0,none⟩∧cw=cpw:=by simp at hvw;exact ⟨hvw.1,hvw.2.2⟩
   refine ae (aM rfl (aM rfl (aM rfl (aU rfl (ez k el26 rfl rfl rfl hk') (aU rfl (ba (v:=.slice (some ⟨Bw,0,none⟩) sk.2.length cw) (u:=encI u) 1 k 0 tk3 rfl rfl (ia hu) rfl rfl) (gb true rfl rfl (fun _=>aZ Tryz.underlying381 tk26 rfl ((.of (aF 1 rfl))) rfl (et (i:=u) (by omega) (by omega)) (by omega) rfl) (fun h=>absurd h (by decide)) (fun ⟨b16_5,o16_5⟩=>(US 0 tk26 0 rfl rfl rfl rfl rfl (aU rfl (aY Tryz.underlying26 rfl) (aM rfl (aNn (ao ?_))))))))))))
   obtain ⟨row,hrow⟩:∃ row,elt so.l u=row:=⟨_,rfl⟩
   have hrm:row∈so.l:=by rw [← hrow];exact List.mem_of_getElem? (gr (by omega) hun.1)
   have hrl:row.l=elt (eb N l.l) u:=by rw [← hrow,← hsl];unfold elt;rw [List.getD_eq_getElem?_getD,List.getD_eq_getElem?_getD,List.getElem?_map];cases so.l[u.toNat]? <;> rfl
   have hrb:∀ x∈row.l,0≤x∧x<N:=by rw [hrl];exact hro u
   rw [hrow]
   refine ct (Ent.allm (f:=ShF fun z:Int=>[.v (encI z)]) (.of (aF 1 rfl)) hrm) (fun hrlen=>(aP [7,9,12,13,61,62,63] [1,0] [0,1] (fun (q:Nat × Value) s=>q.1≤row.l.length∧s=⟨[(7,true,.slice ab N cb),(9,true,q.2),(12,true,so.val),(13,true,.int .i64 k),(61,true,row.val),(62,true,.int .i64 row.l.length),(63,true,.int .i64 q.1)],[bN (ShF fun z=>[.v (encI z)]) so.l,ShF (fun t:Sl Int=>[.v t.val]) so],[az (.slice ab N cb) 3 1 (bO encI ((row.l.take q.1).foldl (visit u) sk).1),az q.2 3 1 (bO encI ((row.l.take q.1).foldl (visit u) sk).2)]⟩) (fun q=>row.l.length-q.1) rfl (⟨(0,.slice (some ⟨Bw,0,none⟩) sk.2.length cw),Nat.zero_le _,rfl⟩) ?_))
   rintro ⟨j,vw3⟩ s ⟨hj,rfl⟩
   dsimp only at hj
   have hBj:=l0 hun.1 (row.l.take j) sk hBk (fun x hx=>hrb x (List.mem_of_mem_take hx))
   have huj:=rN (iJ (u:=u) (row.l.take j) sk) hu
   refine aSR (aU rfl (bd rfl rfl) (aNs ?_))
   refine ah _ rfl (fun h4 => ?_) (fun h4 => ?_)
   ·skip
    have hj':j<row.l.length:=by simp at h4;omega
    obtain ⟨x,hx⟩:∃ x,row.l[j]? = some x:=⟨_,List.getElem?_eq_getElem hj'⟩
    have hxn:=hrb x (List.mem_of_getElem? hx)
    have hvs:=uw (u:=u) row.l sk hx
    obtain ⟨sj,hsj⟩:∃ sj,(row.l.take j).foldl (visit u) sk=sj:=⟨_,rfl⟩
    rw [hsj] at hBj huj hvs ⊢
    refine ai (ak (aq (ao (aSR (gb true rfl rfl (fun _=>aZ Tryz.underlying26 tk3 rfl ((Ent.allm (f:=ShF fun z:Int=>[.v (encI z)]) (.of (aF 0 rfl)) hrm)) rfl (aH hx) rfl rfl) (fun h=>absurd h (by decide)) (fun ⟨b18_0,o18_0⟩=>(US 0 tk3 0 rfl rfl rfl rfl rfl (aA rfl (aNs ?_)))))))))
    refine eM 0 rfl (kA (by rw [hBj.len];omega)) (fun B cp hvb => ?_)
    obtain ⟨rfl,rfl⟩:ab=some ⟨B,0,none⟩∧cb=cp:=by simp at hvb;exact ⟨hvb.1,hvb.2.2⟩
    have hbx:sj.1[x.toNat]? = some (elt sj.1 x):=gr (by rw [hBj.len];exact hxn.2) hxn.1
    refine ae (aM rfl (aM rfl (aU rfl (ez x.toNat el26 rfl rfl (by omega) (by omega)) (aU rfl (ba (v:=.slice (some ⟨B,0,none⟩) N cb) (u:=encI (elt sj.1 x)) 0 x.toNat 0 tk3 rfl rfl (ia hbx) rfl rfl) (aU rfl (bd rfl rfl) (aNn ?_))))))
    refine ah _ rfl (fun h5 => ?_) (fun h5 => ?_)
    ·skip
     have hneg:elt sj.1 x<0:=by simpa using h5
     refine aq ?_
     have hklt:k<sj.2.length:=(List.getElem?_eq_some_iff.1 huj).1
     refine eM 1 rfl (kA (by omega)) (fun Bw2 cpw2 hvw => ?_)
     rw [cI] at hvw
     subst hvw
     refine ae (aM rfl (aM rfl (aM rfl (aM rfl (aU rfl (ez k el26 rfl rfl rfl hklt) (aU rfl (ba (v:=.slice (some ⟨Bw2,0,none⟩) sj.2.length cpw2) (u:=encI u) 1 k 0 tk3 rfl rfl (ia huj) rfl rfl) (aU rfl (ez x.toNat el26 rfl rfl (by omega) (by omega)) (LF rfl (cA 0 x.toNat 0 tk3 rfl rfl rfl (ia hbx) rfl (.v rfl .nil) rfl (by decide) (aNn (ae (aM rfl (aM rfl ?_)))))))))))))
     refine LT rfl (WL (zs:=[.int .i64 0]) el26 rfl rfl rfl (.more rfl (.v rfl .nil) .nil) rfl rfl (fun v21_2=>(aHN ?_)))
     refine aJ rfl (cB 1 el26 rfl rfl rfl rfl (dK 2 el26 rfl (by simp)) (by first | assumption | simp) (by have:=hBj.le;simp [cI];omega) _ rfl (fun v21_3 c21_3 => ?_))
     refine aHK ?_
     refine aA rfl (bE (bb (ak (ae (aU rfl (aO rfl rfl (by omega)) (aM rfl (aNn ?_)))))))
     refine ⟨[7,9,12,13,61,62,63],[1,0],[0,1],rfl,?_⟩
     refine ⟨(j+1,.slice v21_3 ((bO encI sj.2).length+1) c21_3),⟨by omega,?_⟩,by omega⟩
     dsimp only
     rw [hvs]
     unfold visit
     rw [if_pos hneg,tm,jq]
     rfl
    ·skip
     have hneg:¬ elt sj.1 x<0:=by simpa using h5
     refine ai (bb (ak (ae (aU rfl (aO rfl rfl (by omega)) (aM rfl (aNn ?_))))))
     refine ⟨[7,9,12,13,61,62,63],[1,0],[0,1],rfl,?_⟩
     refine ⟨(j+1,vw3),⟨by omega,?_⟩,by omega⟩
     dsimp only
     rw [hvs]
     unfold visit
     rw [if_neg hneg]
     rfl
   ·skip
    have hjl:j=row.l.length:=by simp at h4;omega
    subst hjl
    have hk1:bfs (eb N l.l) (cP N (cM rs.l)) (k+1)=row.l.foldl (visit u) sk:=by show nv _ (bfs (eb N l.l) (cP N (cM rs.l)) k) k=_;rw [hsk];unfold nv;rw [hu,hrl]
    refine aQ (aR (aR (aX (bb (ak (ae (aM rfl (aU rfl (aO rfl rfl (by omega)) (aA rfl (aNn ?_))))))))))
    refine ⟨[7,9,12,13],[1,0],[0,1],rfl,?_⟩
    refine ⟨(k+1,vw3),⟨?_,?_⟩,?_⟩
    · dsimp only;rw [hk1,← List.take_length (l:=row.l)];exact (List.getElem?_eq_some_iff.1 huj).1
    · dsimp only;rw [hk1,List.take_length];rfl
    · dsimp only;omega
  ·skip
   have hkl:k=sk.2.length:=by simp at h3;omega
   refine aQ (aR (aR (aX (ak (aSR (aM rfl (aA rfl (aNn (aj (FZ1 [0] Tryz.results305 rfl ?_))))))))))
   refine ⟨rfl,?_⟩
   rw [← wh hro (k:=k) (by rw [hsk];exact hkl),hsk];rfl
end Go.Proofs.YtfkcmbonmpcbfaaGreat

namespace Go.Proofs.YtfkcmbonmpcbfaaGreat
open Go.RowKit Go.Lp Go.Sy
def yF(l:List Int)(v:Int):Prop:=0≤v∧v<l.length∧0≤elt l v
def chain(l:List Int):Nat→Int→List Int
 | 0,v=>[v]
 | f+1,v=>if elt l v=v then [v] else v::chain l f (elt l v)
structure Tree (l:List Int) (ρ:Int→Nat):Prop where
 step:∀ v,yF l v→elt l v≠v→yF l (elt l v)∧ρ (elt l v)<ρ v
theorem sB{l:List Int}{ρ:Int→Nat}(hT:Tree l ρ):∀ (f g:Nat) (v:Int),yF l v→ρ v≤f→ρ v≤g→chain l f v=chain l g v
 | 0,0,v,_,_,_=>rfl
 | 0,g+1,v,h,hf,_=>by
   unfold chain
   split
   · rfl
   · rename_i hne;have:=(hT.step v h hne).2;omega
 | f+1,0,v,h,_,hg=>by
   unfold chain
   split
   · rfl
   · rename_i hne;have:=(hT.step v h hne).2;omega
 | f + 1,g+1,v,h,hf,hg=>by
   unfold chain
   split
   · rfl
   · rename_i hne
     obtain ⟨h1,h2⟩:=hT.step v h hne
     rw [sB hT f g _ h1 (by omega) (by omega)]
theorem nw(l:List Int)(f:Nat)(v:Int):chain l f v=v::(chain l f v).tail:=by
 cases f with
 | zero=>rfl
 | succ f=>unfold chain;split<;>rfl
theorem uG{l:List Int}{ρ:Int→Nat}(hT:Tree l ρ){v:Int}(h:yF l v)(hne:elt l v≠v):(chain l (ρ v) v).tail=chain l (ρ (elt l v)) (elt l v):=by
 obtain ⟨h1,h2⟩:=hT.step v h hne
 obtain ⟨f,hf⟩:∃ f,ρ v=f+1:=⟨ρ v-1,by omega⟩
 rw [hf]
 show (if elt l v=v then [v] else v::chain l f (elt l v)).tail=_
 rw [if_neg hne,List.tail_cons]
 exact sB hT _ _ _ h1 (by omega) (Nat.le_refl _)
theorem xJ{l:List Int}(f:Nat){v:Int}(h:elt l v=v):chain l f v=[v]:=by
 cases f with
 | zero=>rfl
 | succ f=>unfold chain;rw [if_pos h]
def je(l:List Int)(ρ:Int→Nat)(to_:Int):List Int:=if elt l to_<0 then [] else (chain l (ρ to_) to_).reverse
open Go.Proofs.Tryz
attribute [local irreducible] aL aB awp aC fwp Quiet
theorem yr(l:Sl Int)(ρ:Int→Nat)(hT:Tree l.l ρ)(to_:Int)(ht:0≤to_∧to_<l.l.length)(hb:ρ to_≤100000) :
   Con Tryz.prog 306 [l.val,.int .i64 to_] [ShF (fun z=>[.v (encI z)]) l] [] fun r ps hp=>hp=[]∧∃ ad c,r=.slice ad (je l.l ρ to_).length c∧ps=[Sh (.slice ad (je l.l ρ to_).length c) (.sl (bO encI (je l.l ρ to_)))]:=by
 refine EN2 Tryz.func306 rfl (aSR (aA rfl (aNs (aSR (aM rfl (aM rfl (gb true rfl rfl (fun _=>aZ Tryz.underlying26 tk3 rfl ((.of (aF 0 rfl))) rfl (et (i:=to_) (by omega) (by omega)) (by omega) rfl) (fun h=>absurd h (by decide)) (fun ⟨b1_2,o1_2⟩=>(US 0 tk3 0 rfl rfl rfl rfl rfl (aU rfl (bd rfl rfl) (aNn ?_)))))))))))
 refine ah _ rfl (fun h1 => ?_) (fun h1 => ?_)
 ·skip
  refine aSR (aA rfl (aNn ?_))
  refine zM (Sh (.slice none 0 0) (.sl [])) (fun _ _ _=>er.e _ _ (by unfold maxLen;omega)) ?_
  refine aj (aK ?_)
  refine jS [2] [] rfl Tryz.results306 rfl ?_ (.inr rfl)
  exact ⟨rfl,none,0,by rw [show je l.l ρ to_=[] from if_pos (by simpa using h1)];rfl,by rw [show je l.l ρ to_=[] from if_pos (by simpa using h1)];rfl⟩
 ·skip
  have hgo:yF l.l to_:=⟨ht.1,ht.2,by simpa using h1⟩
  refine ai (ak (aSR (aM rfl (LT rfl (WL (zs:=[.int .i64 0]) el26 rfl rfl rfl (.more rfl (.v rfl .nil) .nil) rfl rfl (fun v3_1=>(aHN ?_)))))))
  refine aA rfl (aNs (ao ?_))
  refine aP [0,1,5] [0] [0] (fun (p:Int × List Int × Value) s=>(yF l.l p.1∧p.2.1++(chain l.l (ρ p.1) p.1).tail=chain l.l (ρ to_) to_∧p.2.1.length+ρ p.1≤ρ to_+1)∧s=⟨[(0,true,l.val),(1,true,.int .i64 p.1),(5,true,p.2.2)],[ShF (fun z=>[.v (encI z)]) l],[az p.2.2 3 1 (bO encI p.2.1)]⟩) (fun p=>ρ p.1) rfl (⟨(to_,[to_],_),⟨hgo,(nw _ _ _).symm,by simp;omega⟩,rfl⟩) ?_
  rintro ⟨v,acc,out⟩ s ⟨⟨hv,hch,hlen⟩,rfl⟩
  dsimp only at hv hch hlen
  have hv1:=hv.1
  have hv2:=hv.2.1
  refine aq (aSR (aM rfl (aM rfl (gb true rfl rfl (fun _=>aZ Tryz.underlying26 tk3 rfl ((.of (aF 0 rfl))) rfl (et (i:=v) (by omega) (by omega)) (by omega) rfl) (fun h=>absurd h (by decide)) (fun ⟨b4_2,o4_2⟩=>(US 0 tk3 0 rfl rfl rfl rfl rfl (aM rfl (aU rfl (dE rfl rfl) (aNn ?_)))))))))
  refine ah _ rfl (fun h2 => ?_) (fun h2 => ?_)
  ·skip
   have hne:elt l.l v≠v:=by simpa using h2
   have hst:=hT.step v hv hne
   have hcs:=uG hT hv hne
   refine ai (ak (ao (aSR (aM rfl (aM rfl (gb true rfl rfl (fun _=>aZ Tryz.underlying26 tk3 rfl ((.of (aF 1 rfl))) rfl (et (i:=v) (by omega) (by omega)) (by omega) rfl) (fun h=>absurd h (by decide)) (fun ⟨b5_2,o5_2⟩=>(US 0 tk3 0 rfl rfl rfl rfl rfl (aA rfl (aNn (ae (aM rfl (aM rfl ?_)))))))))))))
   refine LT rfl (WL (zs:=[.int .i64 0]) el26 rfl rfl rfl (.more rfl (.v rfl .nil) .nil) rfl rfl (fun v6_2=>(aHN ?_)))
   refine aJ rfl (cB 0 el26 rfl rfl rfl rfl (dK 1 el26 rfl (by simp)) (by first | assumption | simp) (by simp [cI];omega) _ rfl (fun v6_3 c6_3 => ?_))
   refine aHK ?_
   refine aA rfl (bE (bb (ak ?_)))
   refine ⟨[0,1,5],[0],[0],rfl,?_⟩
   refine ⟨(elt l.l v,acc++[elt l.l v],.slice v6_3 ((bO encI acc).length+1) c6_3),⟨⟨hst.1,?_,by simp;omega⟩,?_⟩,hst.2⟩
   · rw [← hch,hcs,List.append_assoc]
     exact congrArg _ (nw _ _ _).symm
   · show _=(⟨_,_,[az _ _ 1 (bO encI (acc++[elt l.l v]))]⟩:Sta)
     rw [show bO encI (acc++[elt l.l v])=bO encI acc++[[.v (encI (elt l.l v))]] by simp [bO]]
     rfl
  ·skip
   have heq:elt l.l v=v:=by simpa using h2
   rw [xJ _ heq,List.tail_cons,List.append_nil] at hch
   subst hch
   refine aQ (aR (aR (aX (ak (aSR (aM rfl (LF rfl (EC [] [0] rfl (rn _) ?_))))))))
   rintro r7 _ _ ⟨rfl,rfl⟩
   refine aST ?_
   refine aNn (aSR (aM rfl (aA rfl (aNn (eu 0 rfl (sn (.of (aF 0 rfl)) (fun ad kc hv => ?_)))))))
   rw [cI] at hv
   refine aj ?_
   refine jS [2] [] rfl Tryz.results306 rfl ?_ (.inr rfl)
   have e:je l.l ρ to_=(chain l.l (ρ to_) to_).reverse:=if_neg (by simpa using h1)
   exact ⟨rfl,ad,kc,by rw [e];exact hv,by rw [e,← hv];rfl⟩
end Go.Proofs.YtfkcmbonmpcbfaaGreat

namespace Go.Lv
open Go.Sy
structure G (N:Nat) (out:List (List Int)) (rs:List Int) (k:Nat) (s:BS):Prop where
 len:s.1.length=N
 mem:∀ v∈s.2,0≤v∧v<N
 iff:∀ v:Int,0≤v→v<N→(0≤elt s.1 v↔v∈s.2)
 nodup:s.2.Nodup
 par:∀ (j:Nat) (v:Int),s.2[j]? = some v→(elt s.1 v=v∧v∈rs)∨∃ (i:Nat) (u:Int),i<j∧i≤k∧s.2[i]? = some u∧elt s.1 v=u∧v∈elt out u∧∀ i'<i,∀ u',s.2[i']? = some u'→v ∉ elt out u'
 clo:∀ i<k,∀ u,s.2[i]? = some u→∀ x∈elt out u,x∈s.2
 root:∀ v∈rs,0≤v→v<N→v∈s.2
theorem kz(N:Nat)(v:Int)(h0:0≤v)(h1:v<N):elt (List.replicate N (-1:Int)) v = -1:=by
 unfold elt;rw [List.getD_eq_getElem?_getD,List.getElem?_replicate,if_pos (by omega)];rfl
structure G0 (N:Nat) (rd:List Int) (s:BS):Prop where
 len:s.1.length=N
 mem:∀ v∈s.2,(0≤v∧v<N)∧elt s.1 v=v∧v∈rd
 iff:∀ v:Int,0≤v→v<N→(0≤elt s.1 v↔v∈s.2)
 nodup:s.2.Nodup
 root:∀ v∈rd,0≤v→v<N→v∈s.2
theorem ub{N:Nat}{rd:List Int}{s:BS}{v:Int}(h:G0 N rd s)(hv:v ∉ rd):G0 N (rd++[v]) (dm N s v):=by
 unfold dm
 split
 · rename_i hvn
   have hvs:v ∉ s.2:=fun hm=>hv (h.mem v hm).2.2
   have he:∀ y,0≤y→elt (s.1.set v.toNat v) y=if v=y then v else elt s.1 y:=fun y hy=>fy hvn.1 (by rw [h.len];exact hvn.2) hy
   refine ⟨by simpa using h.len,fun y hy => ?_,fun y hy0 hy1 => ?_,?_,fun y hy h0 h1 => ?_⟩
   · dsimp only
     rcases List.mem_append.1 hy with hy | hy
     · obtain ⟨h1,h2,h3⟩:=h.mem y hy
       refine ⟨h1,?_,List.mem_append_left _ h3⟩
       rw [he y h1.1];split
       · rename_i e;exact e
       · exact h2
     · rw [List.mem_singleton.1 hy]
       exact ⟨hvn,by rw [he v hvn.1,if_pos rfl],by simp⟩
   · dsimp only
     rw [he y hy0,List.mem_append,List.mem_singleton]
     split
     · rename_i e;exact ⟨fun _=>.inr e.symm,fun _=>hvn.1⟩
     · rename_i e
       rw [h.iff y hy0 hy1]
       exact ⟨.inl,fun h=>h.elim id fun h=>(e h.symm).elim⟩
   · refine List.nodup_append.2 ⟨h.nodup,by simp,fun a ha b hb => ?_⟩
     rw [List.mem_singleton.1 hb];rintro rfl;exact hvs ha
   · rcases List.mem_append.1 hy with hy | hy
     · exact List.mem_append_left _ (h.root y hy h0 h1)
     · exact List.mem_append_right _ hy
 · rename_i hvn
   refine ⟨h.len,fun y hy=>⟨(h.mem y hy).1,(h.mem y hy).2.1,List.mem_append_left _ (h.mem y hy).2.2⟩,h.iff,h.nodup,fun y hy h0 h1 => ?_⟩
   rcases List.mem_append.1 hy with hy | hy
   · exact h.root y hy h0 h1
   · rw [List.mem_singleton.1 hy] at h0 h1;exact (hvn ⟨h0,h1⟩).elim
theorem p6(N:Nat):∀ (l rd:List Int) (s:BS),G0 N rd s→(rd++l).Nodup→G0 N (rd++l) (l.foldl (dm N) s)
 | [],rd,s,h,_=>by simpa using h
 | v::l,rd,s,h,hn=>by
   rw [List.foldl_cons,show rd++v::l=(rd++[v])++l by simp]
   refine p6 N l (rd++[v]) _ (ub h fun hm => ?_) (by simpa using hn)
   have:=(List.nodup_append.1 hn).2.2 v hm v List.mem_cons_self
   exact this rfl
theorem zQ{N:Nat}{out:List (List Int)}{rs:List Int}(hn:rs.Nodup):G N out rs 0 (cP N rs):=by
 have h:G0 N rs (cP N rs):=by
   have h0:G0 N [] (List.replicate N (-1),[]):=by
     refine ⟨by simp,(fun v hv=>by cases hv),fun v h0 h1 => ?_,by simp,fun v hv=>by cases hv⟩
     dsimp only;rw [kz N v h0 h1];simp
   have:=p6 N rs [] _ h0 (by simpa using hn)
   unfold cP;simpa using this
 exact ⟨h.len,fun v hv=>(h.mem v hv).1,h.iff,h.nodup,fun j v hj=>.inl (h.mem v (List.mem_of_getElem? hj)).2,fun i hi=>by omega,h.root⟩
theorem acm{N:Nat}{out:List (List Int)}{rs:List Int}{k:Nat}{s:BS}{u x:Int}(h:G N out rs k s)(hu:s.2[k]? = some u)(hx:x∈elt out u)(hxn:0≤x∧x<N):G N out rs k (visit u s x)∧x∈(visit u s x).2:=by
 unfold visit
 split
 · rename_i h0
   have hxs:x ∉ s.2:=fun hm=>by have:=(h.iff x hxn.1 hxn.2).2 hm;omega
   have hun:=h.mem u (List.mem_of_getElem? hu)
   have he:∀ y,0≤y→elt (s.1.set x.toNat u) y=if x=y then u else elt s.1 y:=fun y hy=>fy hxn.1 (by rw [h.len];exact hxn.2) hy
   have hkl:=(List.getElem?_eq_some_iff.1 hu).1
   have hget:∀ (i:Nat),i<s.2.length→(s.2++[x])[i]? = s.2[i]? := fun i hi=>List.getElem?_append_left hi
   refine ⟨⟨by simpa using h.len,fun y hy => ?_,fun y hy0 hy1 => ?_,?_,fun j v hj => ?_,fun i hi w hw y hy => ?_,fun y hy h1 h2=>List.mem_append_left _ (h.root y hy h1 h2)⟩,by simp⟩
   · rcases List.mem_append.1 hy with hy | hy
     · exact h.mem y hy
     · rw [List.mem_singleton.1 hy];exact hxn
   · dsimp only
     rw [he y hy0,List.mem_append,List.mem_singleton]
     split
     · rename_i e;exact ⟨fun _=>.inr e.symm,fun _=>hun.1⟩
     · rename_i e
       rw [h.iff y hy0 hy1]
       exact ⟨.inl,fun h=>h.elim id fun h=>(e h.symm).elim⟩
   · refine List.nodup_append.2 ⟨h.nodup,by simp,fun a ha b hb => ?_⟩
     rw [List.mem_singleton.1 hb];rintro rfl;exact hxs ha
   · dsimp only at hj ⊢
     by_cases hjl:j<s.2.length
     · rw [hget j hjl] at hj
       have hvm:=List.mem_of_getElem? hj
       have hvx:x≠v:=fun e=>hxs (e ▸ hvm)
       rw [he v (h.mem v hvm).1,if_neg hvx]
       rcases h.par j v hj with h1 | ⟨i,w,h1,h2,h3,h4,h5,h6⟩
       · exact .inl h1
       · refine .inr ⟨i,w,h1,h2,by rw [hget i (by omega)];exact h3,h4,h5,fun i' hi' u' hu'=>h6 i' hi' u' ?_⟩
         rwa [hget i' (by omega)] at hu'
     · have hjx:v=x:=by
         have hjl2:=(List.getElem?_eq_some_iff.1 hj).1
         rw [List.length_append,List.length_singleton] at hjl2
         rw [List.getElem?_append_right (by omega),show j-s.2.length=0 by omega] at hj
         simpa using hj.symm
       subst hjx
       refine .inr ⟨k,u,by omega,Nat.le_refl _,by rw [hget k hkl];exact hu,by rw [he v hxn.1,if_pos rfl],hx,fun i' hi' u' hu' hm=>hxs (h.clo i' hi' u' ?_ v hm)⟩
       rwa [hget i' (by omega)] at hu'
   · dsimp only at hw ⊢
     rw [hget i (by omega)] at hw
     exact List.mem_append_left _ (h.clo i hi w hw y hy)
 · rename_i h0
   exact ⟨h,(h.iff x hxn.1 hxn.2).1 (by omega)⟩
theorem uu{N:Nat}{out:List (List Int)}{rs:List Int}{k:Nat}{u:Int} : ∀ (l:List Int) (s:BS),G N out rs k s→s.2[k]? = some u→(∀ x∈l,x∈elt out u∧0≤x∧x<N)→G N out rs k (l.foldl (visit u) s)∧∀ x∈l,x∈(l.foldl (visit u) s).2
 | [],s,h,_,_=>⟨h,fun _ h=>by cases h⟩
 | x::l,s,h,hu,hl=>by
   obtain ⟨h1,h2⟩:=acm h hu (hl x List.mem_cons_self).1 (hl x List.mem_cons_self).2
   obtain ⟨h3,h4⟩:=uu l (visit u s x) h1 (rN qM hu) (fun y hy=>hl y (List.mem_cons_of_mem _ hy))
   refine ⟨h3,fun y hy => ?_⟩
   rcases List.mem_cons.1 hy with rfl | hy
   · exact (iJ l (visit u s y)).subset h2
   · exact h4 y hy
theorem acv{N:Nat}{out:List (List Int)}{rs:List Int}(hn:rs.Nodup)(ho:nc N out):∀ k,G N out rs k (bfs out (cP N rs) k)
 | 0=>zQ hn
 | k + 1 => by
   have ih:=acv hn ho k
   unfold bfs nv
   split
   · rename_i hnone
     refine ⟨ih.len,ih.mem,ih.iff,ih.nodup,fun j v hj => ?_,fun i hi u hu x hx => ?_,ih.root⟩
     · exact (ih.par j v hj).imp id fun ⟨i,u,h1,h2,h⟩=>⟨i,u,h1,by omega,h⟩
     · by_cases hik:i=k
       · subst hik;rw [hnone] at hu;cases hu
       · exact ih.clo i (by omega) u hu x hx
   · rename_i u hu
     obtain ⟨h1,h2⟩:=uu (elt out u) _ ih hu (fun x hx=>⟨hx,ho u x hx⟩)
     refine ⟨h1.len,h1.mem,h1.iff,h1.nodup,fun j v hj => ?_,fun i hi w hw x hx => ?_,h1.root⟩
     · exact (h1.par j v hj).imp id fun ⟨i,u,h1,h2,h⟩=>⟨i,u,h1,by omega,h⟩
     · by_cases hik:i=k
       · subst hik
         have:=rN (iJ (u:=u) (elt out u) _) hu
         rw [this] at hw
         simp only [Option.some.injEq] at hw
         subst hw
         exact h2 x hx
       · exact h1.clo i (by omega) w hw x hx
def abt(N:Nat)(out:List (List Int))(rs:List Int):List Int:=(bfs out (cP N rs) (rs.length+N)).2
section
variable {N:Nat} {out:List (List Int)} {rs:List Int}
theorem abu(ho:nc N out):(abt N out rs).length≤rs.length+N:=(nr ho (jk N rs) _).le
theorem abU(hn:rs.Nodup)(ho:nc N out):G N out rs (rs.length+N) (jz N out rs,abt N out rs):=acv hn ho _
theorem wi(ho:nc N out):(jz N out rs).length=N:=(nr ho (jk N rs) _).len
def aaZ(w:List Int)(v:Int):Nat:=w.idxOf v
theorem tV{w:List Int}(hn:w.Nodup){j:Nat}{v:Int}(h:w[j]? = some v):aaZ w v=j:=by
 obtain ⟨hj,rfl⟩:=List.getElem?_eq_some_iff.1 h
 exact hn.idxOf_getElem j hj
end
end Go.Lv

namespace Go.Proofs.YtfkcmbonmpcbfaaGreat
open Go.RowKit Go.Lp Go.Sy Go.Lv
theorem ua{N:Nat}{l:List cK}(hN:N≤100000)(hr:∀ a∈l,iS N a):we (N:Int) l=true:=by
 unfold we
 have h:l.any (jN (N:Int))=false:=by
   rw [List.any_eq_false]
   intro a ha
   have:=hr a ha
   unfold iS at this
   obtain ⟨⟨h1,h2⟩,h3,h4⟩:=this
   simp [jN,w6,h1,h2,h3,h4]
 rw [h]
 simp;omega
theorem mC(zs:List Int):(cM zs).Nodup:=(px zs).1.imp fun h=>by omega
abbrev oD(N:Nat)(l:List cK)(rs:List Int):List Int:=jz N (eb N l) (cM rs)
abbrev oE(N:Nat)(l:List cK)(rs:List Int):List Int:=abt N (eb N l) (cM rs)
theorem vD{N:Nat}{l:List cK}(hr:∀ a∈l,iS N a)(rs:List Int):Tree (oD N l rs) (aaZ (oE N l rs)):=⟨fun v hv hne=>by
 have hG:=abU (rs:=cM rs) (mC rs) (tL hr)
 have hlen:=hG.len
 have hvm:=(hG.iff v hv.1 (by have:=hv.2.1;rw [← hlen];exact this)).1 hv.2.2
 obtain ⟨j,hj⟩:=List.mem_iff_getElem?.1 hvm
 rcases hG.par j v hj with ⟨h,_⟩ | ⟨i,u,h1,_,h3,h4,_⟩
 · exact (hne h).elim
 · have h4':elt (oD N l rs) v=u:=h4
   have hum:=List.mem_of_getElem? h3
   have hun:=hG.mem u hum
   rw [h4',tV hG.nodup h3,tV hG.nodup hj]
   exact ⟨⟨hun.1,by rw [show (oD N l rs).length=N from hlen];exact hun.2,(hG.iff u hun.1 hun.2).2 hum⟩,h1⟩⟩
theorem ab4(w:List Int)(v:Int):aaZ w v≤w.length:=List.idxOf_le_length
open Go.Proofs.Tryz
theorem sZ(N:Nat)(hN:N≤1000000)(l:Sl cK)(hl:l.l.length≤100000000)(hr:∀ a∈l.l,iS N a)(rs:Sl Int)(hrs:rs.l.length≤1000000){b:List Int}(hb:oD N l.l rs.l=b) :
   Con Tryz.prog 305 [.int .i64 N,l.val,rs.val] [ShF cK.row l,ShF (fun z=>[.v (encI z)]) rs] [] fun r ps hp=>ps=[]∧hp=[az r 3 1 (bO encI b)]:=by
 subst hb;exact uW N hN l hl hr rs hrs
end Go.Proofs.YtfkcmbonmpcbfaaGreat

namespace Go.Proofs.YtfkcmbonmpcbfaaGreat
open Go.RowKit Go.Lp Go.Sy
abbrev slR{α:Type} : Sl α→List D:=fun s=>[.v (.slice s.ad s.l.length s.cap)]
end Go.Proofs.YtfkcmbonmpcbfaaGreat

namespace Go.Sy
open Go.RowKit Go.Lp
def kG(P:Program)(t:TypeId)(name:String):Option (FuncId × Bool) :=
 match P.info? t with
 | some i=>match i.methods.find? (·.name == name) with
   | some m=>if m.path.toList=[] then m.func else none
   | none=>none
 | none=>none
section
variable {P:Program} {w:World}
theorem oW{t e f:Nat}{p:Bool}{v u:Value}{name:String}(h:kG P t name=some (f,p))(hr:∀ x,(receiverAt t (.val v) p x).run P w=.ok u w)(k:Nat):(method (k+1) t v name).run P w=.ok (f,u) w:=by
 unfold kG at h
 split at h
 · rename_i i hi
   split at h
   · rename_i m hm
     split at h
     · rename_i hp
       unfold method
       simp only [Sem.run_bind,run_typeInfo w hi,Result.andThen,hm,hp,follow,h]
       simp only [pure,Sem.run,Result.andThen]
       rw [hr]
     · cases h
   · cases h
 · cases h
theorem zc{t e:Nat}{v:Value}{x:Option String}(hu:P.underlying t=some (.pointer e)):(receiverAt t (.val v) true x).run P w=.ok v w:=by
 unfold receiverAt
 simp only [Sem.run_bind,run_underlying hu,Result.andThen]
 rfl
theorem zd{t e b o:Nat}{v u:Value}{x:Option String}(hu:P.underlying t=some (.pointer e))(hv:v=.pointer (some ⟨b,o,none⟩))(hl:(loadVar e ⟨b,o,none⟩).run P w=.ok u w):(receiverAt t (.val v) false x).run P w=.ok u w:=by
 subst hv
 unfold receiverAt
 simp only [Sem.run_bind,run_underlying hu,Result.andThen]
 cases x with
 | none=>exact hl
 | some y=>exact hl
theorem tp{f:FuncId}(hf:cL P f=true){l:List Operand}{ts:Array TypeId}{r:Operand}{name:String}{t:TypeId}{v u:Value}{ρ:Operand→Value}{d:Option Tmp}{ty:TypeId}{pos:String}{af:Array Edge}{gd:Option (Nat × Bool)}(hr:ρ r=.iface t v){vs:List Value}(hv:l.map ρ=vs)
   (hm:∀ k,(method (k+1) t v name).run P w=.ok (f,u) w) :
   (execOp ρ ⟨d,.call ⟨.invoke r name,l.toArray,ts⟩,ty,pos,af,gd⟩).run P w=.ok (.enter f (u::vs).toArray) w:=by
 unfold execOp
 dsimp only
 show ((resolve ρ ⟨.invoke r name,l.toArray,ts⟩ ty).bind fun x=>invoke x.target x.args).run P w=_
 have:resolve ρ ⟨.invoke r name,l.toArray,ts⟩ ty=Sem.pure { target:=.fn (.method name) #[],args := #[.iface t v]++vs.toArray } := by
   unfold resolve
   dsimp only
   rw [hr,List.map_toArray,hv]
   rfl
 rw [this]
 show (invoke (.fn (.method name) #[]) (#[.iface t v]++vs.toArray)).run P w=_
 have e0:(#[Value.iface t v]++vs.toArray)[0]? = some (.iface t v):=by simp
 unfold invoke
 dsimp only
 rw [e0]
 show (callMethod (.iface t v) name ((#[Value.iface t v]++vs.toArray).extract 1 (#[Value.iface t v]++vs.toArray).size)).run P w=_
 unfold callMethod
 simp only [Sem.run_bind,program,Sem.run,Result.andThen]
 have h1:=hm (P.types.size+99)
 rw [show P.types.size+99+1=P.types.size+Made.depth from rfl] at h1
 rw [h1]
 show (callFunc f _).run P w=_
 rw [show (#[u]++(#[Value.iface t v]++vs.toArray).extract 1 (#[Value.iface t v]++vs.toArray).size)=(u::vs).toArray by simp]
 exact gj hf _ w
end
section
variable {P:Program} {n:Fr} {K:Sta→Prop} {env:Env} {ps:List Per} {hp:List Res} {s:Sta} {d:Option Tmp} {ty:TypeId} {pos:String} {af:Array Edge} {gd:Option (Nat × Bool)} {v:Value}
theorem jw{x:Operand}{T:TypeId}(hT:(match P.underlying T with | some (.interface _)=>false | some _=>true | none=>false)=true)(hx:ev s.env x=some (true,v)):Quiet P n ⟨d,.makeInterface T x,ty,pos,af,gd⟩ s (.iface T v):=fun w S fp a hst he hn=>by
 have h1:=he.val hx rfl
 have:(execOp a.eval ⟨d,.makeInterface T x,ty,pos,af,gd⟩).run P w=.ok (.value (.iface T v)) w:=by
   unfold execOp;dsimp only;rw [h1]
   show ((Instr.makeInterface T v).bind fun r=>Sem.pure (Next.value r)).run P w=_
   rw [Sem.run_bind']
   cases hu:P.underlying T with
   | none=>rw [hu] at hT;cases hT
   | some u =>
     rw [hu] at hT
     unfold Instr.makeInterface
     simp only [Sem.run_bind,run_underlying hu,Result.andThen]
     cases u<;>first | rfl | cases hT
 rw [this];exact bB _ _
theorem tS{x:Operand}{X T:TypeId}(hT:(match P.underlying T with | some (.interface _)=>false | some _=>true | none=>false)=true)(hx:ev s.env x=some (true,.iface T v)):Quiet P n ⟨d,.typeAssert x X T false,ty,pos,af,gd⟩ s v:=fun w S fp a hst he hn=>by
 have h1:=he.val hx rfl
 have:(execOp a.eval ⟨d,.typeAssert x X T false,ty,pos,af,gd⟩).run P w=.ok (.value v) w:=by
   unfold execOp;dsimp only;rw [h1]
   show ((Instr.typeAssert (.iface T v) X T false).bind fun r=>Sem.pure (Next.value r)).run P w=_
   rw [Sem.run_bind']
   cases hu:P.underlying T with
   | none=>rw [hu] at hT;cases hT
   | some u =>
     rw [hu] at hT
     unfold Instr.typeAssert
     simp only [Sem.run_bind,run_underlying hu,Result.andThen]
     cases u<;>first | (simp only [if_true];rfl) | cases hT
 rw [this];exact bB _ _
theorem fx{t:Nat}{f:FuncId}{g:Operand}{T:TypeId}{u:Value}{name:String}{l:List Operand}{ts:Array TypeId}{vs:List Value}{q:Bool}{R:Value→List Per→List Res→Prop}(lp lh:List Nat)(hf:cL P f=true)(hgv:ev env g=some (true,.iface T v))(hm:∀ w S fp,St w S fp ps hp→∀ k,(method (k+1) T v name).run P w=.ok (f,u) w)(hx:evs env l=some vs)(ht:fits n (some t)=true)(ok:okH hp lh=true)
   (hq:(!q || lh.isEmpty)=true) (hc:Con P f (u::vs) (dw ps lp) (bH hp lh) R) (hK:∀ v ps' hp',R v ps' hp'→K ⟨(t,true,v)::env,ps'++ps,fC lh hp' 0 hp⟩) :
   Eff P n ⟨some t,.call ⟨.invoke g name,l.toArray,ts⟩,ty,pos,af,gd⟩ ⟨env,ps,hp⟩ q K:=fun w S fp a hst he hn=>by
 rw [tp hf (he.val hgv rfl) (fP he l vs hx) (hm w S fp hst)]
 obtain ⟨k1,k2⟩:=hst.bH lp lh ok
 have hcc:=hc w S _ k1
 refine hcc.mono fun e w' ⟨v,ps',hp',S',fp',he',hR,hst',hE,hg⟩=>⟨v,he',?_⟩
 obtain ⟨m1,m2⟩:=hst.back lp lh ok hst' hE hg
 refine ⟨_,S',_,hK v ps' hp' hR,m1,?_,hE.wider k2,m2,fun hq' => ?_⟩
 · exact he.put (g:=true) (by rw [hn];simpa [fits] using ht) v
 · rw [hq'] at hq
   have:lh=[]:=by simpa using hq
   subst this
   exact hE.toX (fun b hb=>xt _ b hb)
theorem adM{T e:TypeId}{f:FuncId}{name:String}(hk:kG P T name=some (f,true))(hu:P.underlying T=some (.pointer e)):∀ w S fp,St w S fp ps hp→∀ k,(method (k+1) T v name).run P w=.ok (f,v) w :=
 fun _ _ _ _ k=>oW (e:=0) hk (fun _=>zc hu) k
theorem rG{T e U:TypeId}{f:FuncId}{name:String}{b o kk:Nat}{ag:Bool}{cs:List Value}{u:Value}(i:Nat)(hk:kG P T name=some (f,false))(hu:P.underlying T=some (.pointer e))(htk:tyk P e=some (ag,kk))(hi:hp[i]? = some (Box b U cs))(hv:rdC ag kk cs o=some u) :
   ∀ w S fp,St w S fp ps hp→∀ k,(method (k+1) T (.pointer (some ⟨b,o,none⟩)) name).run P w=.ok (f,u) w:=fun w S fp hst k=>by
 refine oW (e:=0) hk (fun _=>zd hu rfl ?_) k
 have hb:=(hst.res i _ hi).1
 have:=mX (w:=w) htk hv (b:=b) (p:=0) (fun j u hu=>by rw [Nat.zero_add,dh hb];exact hu)
 rwa [Nat.zero_add] at this
end
end Go.Sy

namespace Go.Proofs.YtfkcmbonmpcbfaaGreat
open Go.RowKit Go.Lp Go.Sy Go.Lv
open Go.Proofs.Tryz
attribute [local irreducible] aL aB awp aC fwp Quiet
abbrev eR:List Int→List (List D):=fun l=>l.map b9
abbrev yC(bf bc:Nat)(nx iv lv sv pv qv:Value)(s:TS)(P:List (Sl Int)):List Res :=
 [Box bf 406 [nx,iv,lv,sv,pv,qv],az iv 3 1 (eR s.idx),az lv 3 1 (eR s.low),az sv 3 1 (eR s.stk),az pv 3 1 (eR s.part),az qv 26 1 (P.map slR),Box bc 3 [.int .i64 s.cnt]]
theorem qb(bf bc b5 b3:Nat)(nx iv lv sv pv qv:Value)(s:TS)(P:List (Sl Int))(w:Nat)(hi:w<s.idx.length)(hl:w<s.low.length)(hc:0≤s.cnt∧s.cnt≤1000000)(hs:s.stk.length≤1000000) :
   Con Tryz.prog 371 [.int .i64 w,.pointer (some ⟨b5,0,none⟩),.pointer (some ⟨b3,0,none⟩)] [At b5 0 [.v (.pointer (some ⟨bc,0,none⟩))],At b3 0 [.v (.pointer (some ⟨bf,0,none⟩))]] (yC bf bc nx iv lv sv pv qv s P)
     fun r ps hp=>r=.agg #[.int .i64 w,.int .i64 0]∧ps=[]∧∃ sv':Value,hp=yC bf bc nx iv lv sv' pv qv (ew s w) P:=by
 obtain ⟨io,hio⟩:∃ z,s.idx[w]? = some z:=⟨_,List.getElem?_eq_getElem hi⟩
 obtain ⟨lo,hlo⟩:∃ z,s.low[w]? = some z:=⟨_,List.getElem?_eq_getElem hl⟩
 refine EN3 Tryz.func371 rfl (aSR (LT rfl (bg (zs:=[.int .i64 0,.int .i64 0]) (by kernel_rfl) rfl (fun b0_0=>(aHN ?_)))))
 refine aNn (aSR (UD 0 tk165 0 rfl rfl rfl rfl (UN rfl rfl (UL 6 tk3 rfl rfl rfl rfl (aU rfl (aO rfl rfl (by omega)) (UN rfl rfl (aJ rfl (aV 6 tk3 rfl rfl rfl rfl (aHK ?_)))))))))
 refine aNs (DR [17,19] 20 (VD 0 0 tk432 1 rfl rfl rfl rfl rfl (VN 1 rfl rfl rfl (VO 2 1 rfl rfl rfl (VL 3 0 tk26 rfl rfl rfl rfl rfl (VM 4 rfl rfl (VD 5 0 tk432 1 rfl rfl rfl rfl rfl (VN 6 rfl rfl rfl (VO 7 2 rfl rfl rfl (VL 8 0 tk26 rfl rfl rfl rfl rfl (zH 9 rfl (by kernel_rfl) true rfl rfl (fun _=>ax rfl) (VD 10 0 tk165 0 rfl rfl rfl rfl rfl (VN 11 rfl rfl rfl (VL 12 6 tk3 rfl rfl rfl rfl rfl (VD 13 0 tk165 0 rfl rfl rfl rfl rfl ?_)))))))))))))))
 refine VN 14 rfl rfl rfl (VL 15 6 tk3 rfl rfl rfl rfl rfl ?_)
 refine bV 16 rfl rfl (bA 1 w el26 rfl rfl rfl rfl (by rw [List.length_map];exact hi)) ?_
 refine VE 17 rfl rfl (cA 1 w 0 tk3 rfl rfl rfl (aH hio) rfl (.v rfl .nil) rfl (by decide) (bST rfl ?_))
 refine bV 18 rfl rfl (bA 2 w el26 rfl rfl rfl rfl (by rw [List.length_map];exact hl)) ?_
 refine VE 19 rfl rfl (cA 2 w 0 tk3 rfl rfl rfl (aH hlo) rfl (.v rfl .nil) rfl (by decide) (bST rfl ?_))
 refine BN (ak (aq (DC [7,10] [10] [bf] 11 (CF 0 rfl rfl rfl (aS (o:=0) tk432 rfl (.of (aF 1 rfl)) rfl) (CF 1 rfl rfl rfl (aS (o:=0) tk432 rfl (.of (aF 1 rfl)) rfl) (CF 2 rfl rfl rfl (b8 rfl) (CF 3 rfl rfl rfl (qFA (off:=3) rfl) ?_)))))))
 refine cq 4 0 rfl (by kernel_rfl) true rfl rfl (by simp) tk26 (fun _=>rfl) rfl rfl ?_
 refine CF 5 rfl rfl rfl (ax rfl) ?_
 refine bP 6 [] (by kernel_rfl) (bo ?_ bD)
 refine cj 6 rfl rfl (Eff.x (id (WL (zs:=[.int .i64 0]) el26 rfl rfl rfl (.more rfl (.v rfl .nil) .nil) rfl rfl (fun v3_6=>(CST ?_)))))
 refine bP 7 [] (by kernel_rfl) (bo ?_ bD)
 refine cj 7 rfl rfl (Eff.framed (q:=false) [3,8] rfl rfl (eK 0 rfl rfl iK) ?_)
 refine id (cB 0 el26 rfl rfl rfl rfl (dK 1 el26 rfl (by simp)) (by first | assumption | simp) (by show (eR s.stk).length+1≤_;rw [List.length_map];exact Nat.le_trans (show s.stk.length+1≤1000001 by omega) (by decide)) (s.stk.length+1) (by simp) (fun v3_7 c3_7 => ?_))
 refine fA (CST ?_)
 refine CF 8 rfl rfl rfl (b8 rfl) (CF 9 rfl rfl rfl (qFA (off:=3) rfl) ?_)
 refine bP 10 [] (by kernel_rfl) (bo ?_ bD)
 refine cj 10 rfl rfl (Eff.wild (q:=false) (id (aV 0 tk26 rfl rfl rfl rfl (CST ?_))))
 refine ec (by kernel_rfl) (ak (aSR (aM rfl (aU rfl (eH (l:=[(0,.tmp 38)]) (zs:=[.int .i64 0,.int .i64 0]) (pl:=[(0,1),(1,1)]) (by kernel_rfl) (by kernel_rfl) (by kernel_rfl) rfl rfl rfl) (aJ rfl (aV 7 tk434 rfl rfl rfl rfl (aHK ?_)))))))
 refine aNn (aj ?_)
 refine wP [] [0,1,2,3,4,5,6] rfl Tryz.results371 (fE 7 tk434 rfl rfl rfl) ?_ (.inr rfl)
 refine ⟨rfl,rfl,.slice v3_7 (s.stk.length+1) c3_7,?_⟩
 show _=[_,az iv _ 1 ((s.idx.set (w:Int).toNat (s.cnt+1)).map b9),az lv _ 1 ((s.low.set (w:Int).toNat (s.cnt+1)).map b9),az _ _ 1 ((s.stk++[(w:Int)]).map b9),_,_,Box bc _ [.int .i64 (s.cnt+1)]]
 rw [Int.toNat_natCast,List.map_set,List.map_set,List.map_append]
 rfl
end Go.Proofs.YtfkcmbonmpcbfaaGreat

namespace Go.Sy
open Go.RowKit Go.Lp
section
variable {P:Program} {n:Fr} {s:Sta} {d:Option Tmp} {ty:TypeId} {pos:String} {af:Array Edge} {gd:Option (Nat × Bool)} {x y1 y2 y3:Operand}
end
def acp(R:Res):Prop:=∀ w S S' F,R.holds w S F→R.holds w S' F
theorem yH{v:Value}{E:TypeId}{sz:Nat}{rows:List (List D)}(hr:∀ r∈rows,∀ d∈r,∃ u,d=D.v u):acp (az v E sz rows):=fun w S S' F h=>by
 rcases h with ⟨h1,h2,h3⟩ | ⟨b,cap,h1,⟨cs,sp,hb,ha,hl,hle,hc⟩,hF⟩
 · exact .inl ⟨h1,h2,h3⟩
 · refine .inr ⟨b,cap,h1,⟨cs,sp,hb,⟨ha.len,ha.row,ha.one,fun i j r d h1 h2 => ?_⟩,hl,hle,hc⟩,hF⟩
   obtain ⟨u,hu,hd⟩:=ha.rep i j r d h1 h2
   obtain ⟨u',rfl⟩:=hr r (List.mem_of_getElem? h1) d (List.mem_of_getElem? h2)
   refine ⟨u,hu,?_⟩
   cases hd;exact .v _
section
variable {P:Program} {n:Fr} {s:Sta} {d:Option Tmp} {ty:TypeId} {pos:String} {af:Array Edge} {gd:Option (Nat × Bool)} {x y1 y2 y3:Operand}
end
theorem xk{w:World}{S:aW}{fp:Nat→aW}{ps:List Per}{p:Per}{L:List Res}(hst:St w S fp ps L)(hp:p.holds w (fun b=>S b∨tot fp L.length b)) :
   St w (fun b=>S b∨tot fp L.length b) (fun _ _=>False) (p::ps) [] :=
 ⟨fun q hq=>by
     rcases List.mem_cons.1 hq with rfl | hq
     · exact hp
     · exact q.mono (hst.per q hq) (fun _ _=>rfl) (fun _ h=>.inl h),fun i R hi=>by simp at hi,fun i hi=>by simp at hi,fun i j hi=>by simp at hi,fun b hb=>hb.elim (hst.slt b) fun ⟨i,hi,h⟩=>(hst.lt i hi b h).1⟩
theorem Con.borrowL{P:Program}{f:FuncId}{args:List Value}{ps:List Per}{p:Per}{R:Value→List Per→List Res→Prop}(h:Con P f args (p::ps) [] R)(L:List Res)
   (hB:∀ (w:World) (S:aW) (fp:Nat→aW),(∀ (i:Nat) (A:Res),L[i]? = some A→A.holds w S (fp i))→p.holds w (fun b=>S b∨tot fp L.length b)) (hR:∀ v ps' hp',R v ps' hp'→∀ r∈hp',acp r) :
   Con P f args ps L (fun v ps' hp'=>ps'=[]∧∃ ps2 hp2,R v ps2 hp2∧hp'=L++hp2):=fun w S fp hst=>by
 have h2:=xk hst (hB w S fp hst.res)
 have h0:∀ b,¬ tot (fun _ _=>False) ([]:List Res).length b:=fun b ⟨j,hj,_⟩=>by simp at hj
 refine (h w _ _ h2).mono fun e w' ⟨v,ps',hp',S',fp',he,hR',hst',hE,hb⟩ => ?_
 have hFlt:∀ b,tot fp L.length b→b<w.heap.size∧¬ S b:=fun b ⟨i,hi,h⟩=>hst.lt i hi b h
 have hsame:∀ b,b<w.heap.size→w'.heap[b]? = w.heap[b]? := fun b hb'=>hE.block b hb' (h0 b)
 have hfp:∀ i,i<L.length→∀ b,fp i b→tot fp L.length b:=fun i hi b hb=>⟨i,hi,hb⟩
 refine ⟨v,[],L++hp',fun b=>S' b∧¬ tot fp L.length b,fun i=>if i<L.length then fp i else fp' (i-L.length),he,⟨rfl,ps',hp',hR',rfl⟩,⟨fun q hq=>(by cases hq),fun i A hi => ?_,fun i hi b hbi => ?_,fun i j hi hj hne b hbi hbj => ?_,fun b hb'=>hst'.slt b hb'.1⟩,⟨hE.os,hE.tape,hE.output,hE.size,hE.drawn,fun b hb' _=>hsame b hb',fun b hb'=>⟨hE.more b (.inl hb'),fun hf=>(hFlt b hf).2 hb'⟩,fun b hb' => ?_⟩,fun b ⟨i,hi,hbi⟩ => ?_⟩
 · by_cases hil:i<L.length
   · rw [if_pos hil]
     rw [List.getElem?_append_left hil] at hi
     exact A.mono (hst.res i A hi) (fun b hb'=>hsame b (hFlt b (hfp i hil b hb')).1) (fun b hb'=>hsame b (hst.slt b hb')) (fun b hb'=>⟨hE.more b (.inl hb'),fun hf=>(hFlt b hf).2 hb'⟩)
   · rw [if_neg hil]
     rw [List.getElem?_append_right (by omega)] at hi
     exact hR v ps' hp' hR' A (List.mem_of_getElem? hi) _ _ _ _ (hst'.res _ A hi)
 · by_cases hil:i<L.length
   · rw [if_pos hil] at hbi
     exact ⟨Nat.lt_of_lt_of_le (hFlt b (hfp i hil b hbi)).1 hE.size,fun h=>h.2 (hfp i hil b hbi)⟩
   · rw [if_neg hil] at hbi
     rw [List.length_append] at hi
     have:=hst'.lt (i-L.length) (by omega) b hbi
     exact ⟨this.1,fun h=>this.2 h.1⟩
 · rw [List.length_append] at hi hj
   by_cases hil:i<L.length
   · rw [if_pos hil] at hbi
     by_cases hjl:j<L.length
     · rw [if_pos hjl] at hbj;exact hst.dj i j hil hjl hne b hbi hbj
     · rw [if_neg hjl] at hbj;exact (hst'.lt (j-L.length) (by omega) b hbj).2 (hE.more b (.inr (hfp i hil b hbi)))
   · rw [if_neg hil] at hbi
     by_cases hjl:j<L.length
     · rw [if_pos hjl] at hbj;exact (hst'.lt (i-L.length) (by omega) b hbi).2 (hE.more b (.inr (hfp j hjl b hbj)))
     · rw [if_neg hjl] at hbj;exact hst'.dj (i-L.length) (j-L.length) (by omega) (by omega) (by omega) b hbi hbj
 · rcases hE.new b hb'.1 with (h | h) | h | h
   · exact .inl h
   · exact (hb'.2 h).elim
   · exact (h0 b h).elim
   · exact .inr (.inr h)
 · dsimp only at hbi
   by_cases hil:i<L.length
   · rw [if_pos hil] at hbi;exact .inl ⟨i,hil,hbi⟩
   · rw [if_neg hil] at hbi
     rw [List.length_append] at hi
     exact (hb b ⟨i-L.length,by omega,hbi⟩).elim (fun h=>(h0 b h).elim) .inr
theorem Con.ofRes{P:Program}{f:FuncId}{args:List Value}{ps:List Per}{p:Per}{R:Value→List Per→List Res→Prop}(h:Con P f args (p::ps) [] R)(L:List Res)
   (hB:∀ (w:World) (S:aW) (fp:Nat→aW),(∀ (i:Nat) (A:Res),L[i]? = some A→A.holds w S (fp i))→p.holds w (fun b=>S b∨tot fp L.length b)):Con P f args ps L R:=fun w S fp hst=>by
 have h2:=xk hst (hB w S fp hst.res)
 have h0:∀ b,¬ tot (fun _ _=>False) ([]:List Res).length b:=fun b ⟨j,hj,_⟩=>by simp at hj
 have hE:Evo w S (tot fp L.length) w (fun b=>S b∨tot fp L.length b):=⟨rfl,rfl,rfl,Nat.le_refl _,Nat.le_refl _,fun _ _ _=>rfl,fun _ h=>.inl h,fun b hb=>hb.elim .inl fun h=>.inr (.inl h)⟩
 exact (h w _ _ h2).mono fun e w' ⟨u,ps',hp',S',fp',he,hR,hst',hE',hb⟩=>⟨u,ps',hp',S',fp',he,hR,hst',hE.trans hE' (fun b hb=>(h0 b hb).elim),fun b hb'=>(hb b hb').elim (fun h=>(h0 b h).elim) .inr⟩
theorem Con.clean{P:Program}{f:FuncId}{args:List Value}{ps:List Per}{hp:List Res}{R:Value→List Per→List Res→Prop}{φ:Value→Prop}(h:Con P f args ps hp R)(hR:∀ v ps' hp',R v ps' hp'→φ v):Con P f args ps hp (fun v ps' hp'=>φ v∧ps'=[]∧hp'=[]):=fun w S fp hst =>
 (h w S fp hst).mono fun e w' ⟨v,ps',hp',S',fp',he,hr,hst',hE,hb⟩=>⟨v,[],[],S',fun _ _=>False,he,⟨hR _ _ _ hr,rfl,rfl⟩,⟨fun q hq=>(by cases hq),fun i A hi=>(by simp at hi),fun i hi=>(by simp at hi),fun i j hi=>(by simp at hi),hst'.slt⟩,hE,fun b ⟨i,hi,_⟩=>(by simp at hi)⟩
theorem mA{w:World}{S:aW}{sz:Nat}{cs:List Value}{rows:List (List D)}(h:cX w S sz cs rows){k:Nat}(hk:k≤rows.length):cX w S sz (cs.take (k*sz)) (rows.take k) where
 len:=by
   have:=h.len
   have h2:k*sz≤rows.length*sz:=Nat.mul_le_mul_right _ hk
   rw [List.length_take,List.length_take,Nat.min_eq_left hk,Nat.min_eq_left (by omega)]
 row i r hr:=h.row i r (by
   have hl:=(List.getElem?_eq_some_iff.1 hr).1
   rw [List.length_take] at hl
   rw [List.getElem?_take_of_lt (by omega)] at hr;exact hr)
 one v hv:=h.one v (List.mem_of_mem_take hv)
 rep i j r d hr hd:=by
   have hl:=(List.getElem?_eq_some_iff.1 hr).1
   rw [List.length_take] at hl
   rw [List.getElem?_take_of_lt (by omega)] at hr
   obtain ⟨u,hu,hrep⟩:=h.rep i j r d hr hd
   refine ⟨u,?_,hrep⟩
   have hj:=(List.getElem?_eq_some_iff.1 hd).1
   rw [h.row i r hr] at hj
   have h3:(i+1)*sz≤k*sz:=Nat.mul_le_mul_right _ (by omega)
   rw [Nat.add_mul] at h3
   rw [List.getElem?_take_of_lt (by omega)];exact hu
theorem aaN{w:World}{S F:aW}{b:Nat}{T:TypeId}{sz cap:Nat}{rows:List (List D)}{k:Nat}(hk:k≤rows.length)(h:(Own b T sz cap rows).holds w S F):(Own b T sz cap (rows.take k)).holds w S F:=by
 obtain ⟨⟨cs,sp,hb,hr,hl,hle,hc⟩,hF⟩:=h
 refine ⟨⟨cs.take (k*sz),cs.drop (k*sz)++sp,?_,mA hr hk,?_,by rw [List.length_take];omega,hc⟩,hF⟩
 · rw [← List.append_assoc,List.take_append_drop];exact hb
 · rw [← List.append_assoc,List.take_append_drop];exact hl
theorem qC{w:World}{S F:aW}{B m cp:Nat}{T:TypeId}{sz:Nat}{rows:List (List D)}{k:Nat}(hk:k≤rows.length)(h:(az (.slice (some ⟨B,0,none⟩) m cp) T sz rows).holds w S F):(az (.slice (some ⟨B,0,none⟩) k cp) T sz (rows.take k)).holds w S F:=by
 rcases h with ⟨h1,_⟩ | ⟨b,cap,h1,ho⟩
 · cases h1
 · simp only [Value.slice.injEq,Option.some.injEq,Addr.mk.injEq] at h1
   obtain ⟨⟨rfl,_⟩,rfl,rfl⟩:=h1
   exact .inr ⟨B,cp,by rw [List.length_take,Nat.min_eq_left hk],aaN hk ho⟩
theorem sm{P:Program}{n:Fr}{env:Env}{ps:List Per}{hp:List Res}{c:Code}{Q:Exit→Sta→Prop}(i k:Nat){B m cp:Nat}{T:TypeId}{sz:Nat}{rows:List (List D)}(hi:hp[i]? = some (az (.slice (some ⟨B,0,none⟩) m cp) T sz rows))(hk:k≤rows.length)
   (h:awp P n c Q ⟨env,ps,hp.set i (az (.slice (some ⟨B,0,none⟩) k cp) T sz (rows.take k))⟩):awp P n c Q ⟨env,ps,hp⟩:=eV i _ hi (fun _ _ _ hh=>qC hk hh) h
theorem dQ{P:Program}{n:Fr}{env:Env}{ps:List Per}{hp:List Res}{c:Code}{Q:Exit→Sta→Prop}(i:Nat){v:Value}{E:TypeId}{sz:Nat}{rows:List (List D)}(hi:hp[i]? = some (az v E sz rows))(h0:rows≠[])(h:∀ B cp,v=.slice (some ⟨B,0,none⟩) rows.length cp→rows.length≤cp→awp P n c Q ⟨env,ps,hp⟩):awp P n c Q ⟨env,ps,hp⟩:=fun w S fp a hst he hn hd=>by
 rcases hst.res i _ hi with ⟨_,h1,_⟩ | ⟨B,cp,h1,⟨⟨_,_,_,_,_,hle,_⟩,_⟩⟩
 · exact (h0 h1).elim
 · exact h B cp h1 hle w S fp a hst he hn hd
theorem aa0{w:World}{S:aW}{b o n c sz:Nat}{rows:List (List D)}(h:er w S (.slice (some ⟨b,o,none⟩) n c) (.sl rows))(l:Nat)(hsz:∀ r∈rows,r.length=sz)(hl:l<rows.length) :
   er w S (.slice (some ⟨b,o+l*sz,none⟩) (rows.drop l).length (c-l)) (.sl (rows.drop l)):=by
 cases h with
 | e a c hc=>simp at hl
 | sl b o c sz2 rows us hb hn hc hr hcell hd =>
   have h0:rows[0]? = some (rows[0]'(by omega)):=List.getElem?_eq_getElem (by omega)
   obtain rfl:sz2=sz:=by rw [← hr 0 _ h0,hsz _ (List.getElem_mem _)]
   have key:∀ (i:Nat) (r:List D),(rows.drop l)[i]? = some r→rows[l+i]? = some r:=fun i r h=>by
     rw [List.getElem?_drop] at h;exact h
   refine .sl b (o+l*sz2) (c-l) sz2 _ (fun i j=>us (l+i) j) hb (by simp;omega) (by omega) (fun i r hi=>hr _ r (key i r hi)) (fun i j r d hi hj => ?_) (fun i j r d hi hj=>hd _ j r d (key i r hi) hj)
   rw [show o+l*sz2+i*sz2+j=o+(l+i)*sz2+j by rw [Nat.add_mul];omega]
   exact hcell _ j r d (key i r hi) hj
theorem aaJ{w:World}{S F:aW}{E:TypeId}{sz B m cap k:Nat}{rows:List (List D)}(h:(az (.slice (some ⟨B,0,none⟩) m cap) E sz rows).holds w S F)(hsz:∀ r∈rows,r.length=sz)(hk:k<rows.length) :
   er w (fun b=>S b∨F b) (.slice (some ⟨B,k*sz,none⟩) (rows.drop k).length (cap-k)) (.sl (rows.drop k)):=by
 have:=aa0 (kK h) k hsz hk
 rwa [Nat.zero_add] at this
theorem Con.keepF{P:Program}{f:FuncId}{args:List Value}{ps:List Per}{hp:List Res}{R:Value→List Per→List Res→Prop}(h:Con P f args ps hp R):Con P f args ps hp (fun v ps' hp'=>∃ ps0,ps'=ps0++ps∧R v ps0 hp'):=fun w S fp hst =>
 (h w S fp hst).mono fun e w' ⟨v,ps',hp',S',fp',he,hr,hst',hE,hb⟩=>⟨v,ps'++ps,hp',S',fp',he,⟨ps',rfl,hr⟩,⟨fun p hp=>(List.mem_append.1 hp).elim (hst'.per p) fun hp=>p.mono (hst.per p hp) (fun b hbS=>hE.block b (hst.slt b hbS) fun ⟨i,hi,hbi⟩=>(hst.lt i hi b hbi).2 hbS) hE.more,hst'.res,hst'.lt,hst'.dj,hst'.slt⟩,hE,hb⟩
end Go.Sy

