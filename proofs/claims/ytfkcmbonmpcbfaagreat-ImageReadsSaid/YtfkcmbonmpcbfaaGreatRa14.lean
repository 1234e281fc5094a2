/- Parts of the proof, in build order. No condition. -/
import Derived.Test.YtfkcmbonmpcbfaaGreatRa13
import Derived.Test.YtfkcmbonmpcbfaaGreatRa09
import Derived.Test.YtfkcmbonmpcbfaaGreatRa08
import Derived.Test.YtfkcmbonmpcbfaaGreatRa11
import Derived.Test.YtfkcmbonmpcbfaaGreatRa05
import Derived.Test.YtfkcmbonmpcbfaaGreatRa04
import Derived.Lib.ConvBytes
import Derived.Test.YtfkcmbonmpcbfaaGreatRa10
import Derived.Test.YtfkcmbonmpcbfaaGreatRa03
import Derived.Test.YtfkcmbonmpcbfaaGreatRa06
set_option linter.unusedSimpArgs false
set_option linter.unusedVariables false
set_option maxHeartbeats 1000000
set_option maxRecDepth 20000
namespace Go.Proofs.YtfkcmbonmpcbfaaGreat
open Go.RowKit Go.Lp Go.Sy
open Go.Proofs.Tryz
attribute [local irreducible] aL aB awp aC fwp Quiet
theorem uF(z:Int):Con Tryz.prog 302 [.int .i64 z] [] [] (fun r _ _=>r=.bool false):=by
 refine EN1 Tryz.func302 rfl (aSR (aA rfl (aNn (aSR (aM rfl (aM rfl (aU rfl (ft rfl rfl) (aA rfl (aNn (ax (FZ1 [] Tryz.results302 rfl ?_)))))))))))
 simp
theorem uG(z:ByteArray):Con Tryz.prog 252 [.string z] [] [] (fun r _ _=>r=.bool false):=by
 refine EN1 Tryz.func252 rfl (aSR (aA rfl (aNn (aSR (aM rfl (aM rfl (aU rfl (oY rfl rfl) (aA rfl (aNn (ax (FZ1 [] Tryz.results252 rfl ?_)))))))))))
 simp
theorem uw(a b:Int):Con Tryz.prog 250 [.int .i64 a,.int .i64 b] [] [] (fun r _ _=>r=.int .i64 (sF a b)):=by
 refine EN2 Tryz.func250 rfl (aSR (aA rfl (aNn (aSR (aM rfl (aU rfl (Q0 rfl (uF _)) (aA rfl (aNn (aSR (aM rfl (aU rfl (Q0 rfl (uF _)) ?_)))))))))))
 refine aA rfl (aNs (aSR (aM rfl (aNn ?_))))
 refine ao _ rfl (fun h1 => ?_) (fun h1 => ?_)
 ·skip
  exact absurd h1 (by decide)
 ·skip
  refine ar (aj (ah (aSR (aM rfl (aNn ?_)))))
  refine ao _ rfl (fun h2 => ?_) (fun h2 => ?_)
  ·skip
   exact absurd h2 (by decide)
  ·skip
   refine ar (aj (ah (aSR (aM rfl (aM rfl (aU rfl (bu rfl rfl) (aNn ?_)))))))
   refine ao _ rfl (fun h3 => ?_) (fun h3 => ?_)
   ·skip
    refine aSR (aA rfl (aNn (ax (bB (FZ1 [] Tryz.results250 rfl ?_)))))
    have:a<b:=by simpa using h3
    unfold sF;rw [if_pos this]
   ·skip
    refine ar (aj (ah (aSR (aM rfl (aM rfl (aU rfl (eA rfl rfl) (aNn ?_)))))))
    refine ao _ rfl (fun h4 => ?_) (fun h4 => ?_)
    ·skip
     refine aSR (aA rfl (aNn (ax (bB (FZ1 [] Tryz.results250 rfl ?_)))))
     have a1:¬ a<b:=by simpa using h3
     have:b<a:=by simpa using h4
     unfold sF;rw [if_neg a1,if_pos this]
    ·skip
     refine ar (aj (aSR (aA rfl (aNn (ax (FZ1 [] Tryz.results250 rfl ?_))))))
     have a1:¬ a<b:=by simpa using h3
     have a2:¬ b<a:=by simpa using h4
     unfold sF;rw [if_neg a1,if_neg a2]
theorem ux(a b:ByteArray):Con Tryz.prog 152 [.string a,.string b] [] [] (fun r _ _=>r=.int .i64 (wg a b)):=by
 refine EN2 Tryz.func152 rfl (aSR (aA rfl (aNn (aSR (aM rfl (aU rfl (Q0 rfl (uG _)) (aA rfl (aNn (aSR (aM rfl (aU rfl (Q0 rfl (uG _)) ?_)))))))))))
 refine aA rfl (aNs (aSR (aM rfl (aNn ?_))))
 refine ao _ rfl (fun h1 => ?_) (fun h1 => ?_)
 ·skip
  exact absurd h1 (by decide)
 ·skip
  refine ar (aj (ah (aSR (aM rfl (aNn ?_)))))
  refine ao _ rfl (fun h2 => ?_) (fun h2 => ?_)
  ·skip
   exact absurd h2 (by decide)
  ·skip
   refine ar (aj (ah (aSR (aM rfl (aM rfl (aU rfl (adK rfl rfl) (aNn ?_)))))))
   refine ao _ rfl (fun h3 => ?_) (fun h3 => ?_)
   ·skip
    refine aSR (aA rfl (aNn (ax (bB (FZ1 [] Tryz.results152 rfl ?_)))))
    have:sLt a b:=of_decide_eq_true h3
    unfold wg;rw [if_pos this]
   ·skip
    refine ar (aj (ah (aSR (aM rfl (aM rfl (aU rfl (adJ rfl rfl) (aNn ?_)))))))
    refine ao _ rfl (fun h4 => ?_) (fun h4 => ?_)
    ·skip
     refine aSR (aA rfl (aNn (ax (bB (FZ1 [] Tryz.results152 rfl ?_)))))
     have a1:¬ sLt a b:=of_decide_eq_false h3
     have h4':¬ sLt a b∧¬ a=b:=by simp only [Bool.not_eq_true',Bool.or_eq_false_iff,decide_eq_false_iff_not] at h4;exact h4
     have:sLt b a:=by
       rcases acN a b with h | h | h
       · exact (a1 h).elim
       · exact (h4'.2 h).elim
       · exact h
     unfold wg;rw [if_neg a1,if_pos this]
    ·skip
     refine ar (aj (aSR (aA rfl (aNn (ax (FZ1 [] Tryz.results152 rfl ?_))))))
     have a1:¬ sLt a b:=of_decide_eq_false h3
     have h4':sLt a b∨a=b:=by simp only [Bool.not_eq_false',Bool.or_eq_true,decide_eq_true_eq] at h4;exact h4
     have a2:¬ sLt b a:=by
       rcases h4' with h | h
       · exact aab h
       · rw [h];exact yp _
     unfold wg;rw [if_neg a1,if_neg a2]
theorem acm(v:Value)(a b:Int):Con Tryz.prog 151 [v] [] [aO v 3 1 [[.v (.int .i64 a)],[.v (.int .i64 b)]]] (fun r _ _=>r=.int .i64 (if a≠0 then a else b)):=by
 refine Con.ofRes (p:=Sh v (.sl [[.v (.int .i64 a)],[.v (.int .i64 b)]])) ?_ _ (fun w S fp hres=>(mH (hres 0 _ rfl)).mono (fun _ _=>rfl) fun b hb=>hb.imp id fun hf=>⟨0,by simp,hf⟩)
 refine EN1 Tryz.func151 rfl (tX (.of (aI 0 rfl)) (fun ad cp hv => ?_))
 obtain rfl:v=.slice ad 2 cp:=hv
 refine aSR (aA rfl (aNn (aSR (aA rfl (aNs (aSR (aM rfl (aU rfl (aZ Tryz.underlying26 rfl) (aM rfl (aNn (aq (aQ [0,3,6,7,8] [0] [] (fun (k:Nat) st=>(k≤2∧(1≤k→a=0)∧(2≤k→b=0))∧st=⟨[(0,true,.slice ad 2 cp),(3,true,.int .i64 0),(6,true,.slice ad 2 cp),(7,true,.int .i64 2),(8,true,.int .i64 k)],[Sh (.slice ad 2 cp) (.sl [[.v (.int .i64 a)],[.v (.int .i64 b)]])],[]⟩) (fun k=>2-k) rfl (⟨0,⟨by omega,fun h=>by omega,fun h=>by omega⟩,rfl⟩) ?_))))))))))))
 rintro k st ⟨⟨hk,ha,hb⟩,rfl⟩
 refine aSR (aU rfl (bu rfl rfl) (aNs ?_))
 refine ao _ rfl (fun h1 => ?_) (fun h1 => ?_)
 ·skip
  have hk':k<2:=by simp at h1;omega
  obtain ⟨c,hc1,hc⟩:∃ c,(([[.v (.int .i64 a)],[.v (.int .i64 b)]]:List (List D))[k]? = some [D.v (.int .i64 c)])∧((k=0∧c=a)∨(k=1∧c=b)):=by
    rcases (by omega:k=0∨k=1) with rfl | rfl
    · exact ⟨a,rfl,.inl ⟨rfl,rfl⟩⟩
    · exact ⟨b,rfl,.inr ⟨rfl,rfl⟩⟩
  refine ar (aj (ah (aq (aSR (iJ true rfl rfl (fun _=>vF Tryz.underlying26 tk3 rfl (aI 0 rfl) rfl hc1 rfl rfl) (fun h=>absurd h (by decide)) (fun ⟨b4_0,o4_0⟩=>(US 0 tk3 0 rfl rfl rfl rfl rfl (aA rfl (aNn (aSR (aM rfl (aM rfl (aU rfl (ft rfl rfl) (aNn ?_))))))))))))))
  refine ao _ rfl (fun h2 => ?_) (fun h2 => ?_)
  ·skip
   refine aSR (aM rfl (aA rfl (aNn (ax (dr (bB (bB (dr (bB (FZ1 [] Tryz.results151 rfl ?_))))))))))
   have hc0:c≠0:=by simpa using h2
   rcases hc with ⟨rfl,rfl⟩ | ⟨rfl,rfl⟩
   · rw [if_pos hc0]
   · rw [if_neg (by have:=ha (by omega);omega)]
  ·skip
   refine ar (bp (aj (aa (aU rfl (aX rfl rfl (by omega)) (aM rfl (aNn ?_))))))
   refine ⟨[0,3,6,7,8],[0],[],rfl,?_⟩
   have hc0:c=0:=by simpa using h2
   rcases hc with ⟨rfl,rfl⟩ | ⟨rfl,rfl⟩
   · exact ⟨1,⟨⟨by omega,fun _=>hc0,fun h=>by omega⟩,rfl⟩,by omega⟩
   · exact ⟨2,⟨⟨by omega,fun _=>ha (by omega),fun _=>hc0⟩,rfl⟩,by omega⟩
 ·skip
  refine aT (aW (aW (aY (aj (aSR (aM rfl (aA rfl (aNn (ax (FZ1 [] Tryz.results151 rfl ?_))))))))))
  have hk2:k=2:=by simp at h1;omega
  subst hk2
  rw [if_neg (by have:=ha (by omega);omega),hb (by omega)]
end Go.Proofs.YtfkcmbonmpcbfaaGreat

namespace Go.Sy
open Go.RowKit
theorem adH{P:Program}{n:Fr}{s:Sta}{d:Option Tmp}{ty:TypeId}{pos:String}{af:Array Edge}{gd:Option (Nat × Bool)}{x:Operand}{T t' E:TypeId}{ad:Option Addr}{k c:Nat}(hT:P.underlying T=some (.slice E))(hx:ev s.env x=some (true,.slice ad k c)):Quiet P n ⟨d,.binOp .neq T x (.const (.slice none 0 0)) t',ty,pos,af,gd⟩ s (.bool (!ad.isNone)) :=
 .run2 (vy:=.slice none 0 0) hx rfl fun ρ w h1 h2=>by
   unfold execOp;dsimp only;rw [h1,h2]
   simp only [eqGuard_at_slice,binOp,Sem.run_bind,Sem.run_pure,run_equal_slice_nil w T E ad k c hT,Result.andThen_ok]
end Go.Sy
namespace Go.Proofs.YtfkcmbonmpcbfaaGreat
open Go.RowKit Go.Lp Go.Sy Go.Lv
open Go.Proofs.Tryz
attribute [local irreducible] aL aB awp aC fwp Quiet
abbrev z6:Int→List D:=fun z=>[.v (encI z)]
theorem sU(a b:Sl Int):Con Tryz.prog 242 [a.val,b.val] [ShF z6 a,ShF z6 b] [] (YN (fun z:Int=>.int .i64 z) fun _=>True):=by
 refine EN2 Tryz.func242 rfl (bY (.of (aI 0 rfl)) (fun hlen=>(aSR (aA rfl (aNs (aSR (aM rfl (aU rfl (aZ Tryz.underlying26 rfl) (aM rfl (aNn (aq (aQ [0,1,9,10,11] [1,0] [] (fun (k:Nat) st=>k≤a.l.length∧st=⟨[(0,true,a.val),(1,true,b.val),(9,true,a.val),(10,true,.int .i64 a.l.length),(11,true,.int .i64 k)],[ShF z6 a,ShF z6 b],[]⟩) (fun k=>a.l.length-k) rfl (⟨0,Nat.zero_le _,rfl⟩) ?_))))))))))))
 rintro k st ⟨hk,rfl⟩
 refine aSR (aU rfl (bu rfl rfl) (aNs ?_))
 refine ao _ rfl (fun h1 => ?_) (fun h1 => ?_)
 ·skip
  have hk':k<a.l.length:=by simpa using h1
  obtain ⟨x,hx⟩:∃ x,a.l[k]? = some x:=⟨_,List.getElem?_eq_getElem hk'⟩
  refine ar (aj (ah (aq (aSR (aM rfl (UI Tryz.underlying26 tk3 0 rfl rfl rfl rfl rfl (aK hx) rfl rfl (fun ⟨b3_1,o3_1⟩ => ?_)))))))
  refine US 0 tk3 0 rfl rfl rfl rfl rfl (aA rfl (aA rfl (aNs (aSR (aM rfl (aM rfl (aU rfl (aZ Tryz.underlying26 rfl) (aU rfl (fi rfl rfl) (aNn ?_)))))))))
  refine ao _ rfl (fun h2 => ?_) (fun h2 => ?_)
  ·skip
   refine aSR (aA rfl (aNn (ax (bB (dr (bB (bB (dr (bB (FZ1 [] Tryz.results242 rfl ?_))))))))))
   exact ⟨⟨rfl,rfl⟩,_,rfl,trivial⟩
  ·skip
   have hb2:k<b.l.length:=by simp at h2;omega
   obtain ⟨y,hy⟩:∃ y,b.l[k]? = some y:=⟨_,List.getElem?_eq_getElem hb2⟩
   refine ar (aj (aSR (aM rfl (aM rfl (UI Tryz.underlying26 tk3 2 rfl rfl rfl rfl rfl (aK hy) rfl rfl (fun ⟨b6_2,o6_2⟩=>(US 0 tk3 0 rfl rfl rfl rfl rfl (aA rfl (aNn (aSR (aM rfl (aM rfl (aU rfl (Q0 rfl (uw _ _)) ?_)))))))))))))
   refine aA rfl (aNn (aSR (aM rfl (aU rfl (ft rfl rfl) (aNn ?_)))))
   refine ao _ rfl (fun h3 => ?_) (fun h3 => ?_)
   ·skip
    refine aSR (aM rfl (aA rfl (aNn (ax (dr (bB (bB (dr (bB (FZ1 [] Tryz.results242 rfl ?_))))))))))
    exact ⟨⟨rfl,rfl⟩,_,rfl,trivial⟩
   ·skip
    refine ar (bp (aj (aa (aU rfl (aX rfl rfl (by omega)) (aM rfl (aNn ?_))))))
    refine ⟨[0,1,9,10,11],[1,0],[],rfl,?_⟩
    exact ⟨k+1,⟨hk',rfl⟩,by omega⟩
 ·skip
  refine aT (aW (aW (aY (aj (ah (aSR (aM rfl (aU rfl (aZ Tryz.underlying26 rfl) (aM rfl (aU rfl (aZ Tryz.underlying26 rfl) (aU rfl (bu rfl rfl) (aNn ?_))))))))))))
  refine ao _ rfl (fun h4 => ?_) (fun h4 => ?_)
  ·skip
   refine aSR (aA rfl (aNn (ax (bB (FZ1 [] Tryz.results242 rfl ?_)))))
   exact ⟨⟨rfl,rfl⟩,_,rfl,trivial⟩
  ·skip
   refine ar (aj (aSR (aA rfl (aNn (ax (FZ1 [] Tryz.results242 rfl ?_))))))
   exact ⟨⟨rfl,rfl⟩,_,rfl,trivial⟩
theorem aaM (N:Nat) (hN:N≤10000) (l:Sl dI) (hl:l.l.length≤100000000) (hr:∀ a∈l.l,kf N a) :
   Con Tryz.prog 255 [.int .i64 N,l.val] [ShF dI.row l] [] fun r ps hp=>(ps=[]∧hp=[])∧∃ ad k c,r=.slice ad k c∧(N≤1→l.l=[]→k=0):=by
 have hT:=wY hr
 refine EN2 Tryz.func255 rfl (aSR (aA rfl (aNn (aSR (aM rfl (aA rfl (aNs (aSR (aM rfl (aM rfl (LT rfl (EC [0] [] rfl (za N (by omega) l hl hr) ?_))))))))))))
 rintro _ _ _ ⟨rfl,P,rfl,hok,rfl⟩
 refine aST ?_
 refine aU rfl (aZ Tryz.underlying381 rfl) (aM rfl (aNn (aq (bY (.of (aI 0 rfl)) (fun hPl => ?_)))))
 refine aQ [0,1,5,18,19,20] [2,1,0] [] (fun (q:Nat × Int) st=>(q.1≤P.l.length∧0≤q.2∧q.2≤N∧(N≤1→q.2=N))∧st=⟨[(0,true,.int .i64 N),(1,true,l.val),(5,true,.int .i64 q.2),(18,true,P.val),(19,true,.int .i64 P.l.length),(20,true,.int .i64 q.1)],[ShF slR P,bz (ShF cX) P.l,ShF dI.row l],[]⟩) (fun q=>P.l.length-q.1) rfl (⟨(0,(N:Int)),⟨Nat.zero_le _,by dsimp only;omega,by dsimp only;omega,fun _=>rfl⟩,rfl⟩) ?_
 rintro ⟨k,z⟩ st ⟨⟨hk,hz0,hzN,hz1⟩,rfl⟩
 dsimp only at hk hz0 hzN hz1 ⊢
 refine aSR (aU rfl (bu rfl rfl) (aNs ?_))
 refine ao _ rfl (fun h1 => ?_) (fun h1 => ?_)
 ·skip
  have hk':k<P.l.length:=by simpa using h1
  obtain ⟨p,hp⟩:∃ p,P.l[k]? = some p:=⟨_,List.getElem?_eq_getElem hk'⟩
  have hpk:=hok p (List.mem_of_getElem? hp)
  obtain ⟨x0,hx0⟩:∃ x0,p.l[0]? = some x0:=⟨_,List.getElem?_eq_getElem (List.length_pos_iff.2 hpk.ne)⟩
  have hx0r:=hpk.rg x0 (List.mem_of_getElem? hx0)
  have hpsh:=hpk.sh
  refine ar (aj (ah (aq (aSR (UI Tryz.underlying381 tk26 0 rfl rfl rfl rfl rfl (aK hp) rfl rfl (fun ⟨b4_0,o4_0⟩=>(US 0 tk26 0 rfl rfl rfl rfl rfl (aA rfl (aNn (aSR (aM rfl (aU rfl (aZ Tryz.underlying26 rfl) (aU rfl (eA rfl rfl) (aNn ?_))))))))))))))
  refine ao _ rfl (fun h2 => ?_) (fun h2 => ?_)
  ·skip
   have hlong:1<p.l.length:=by simp at h2;omega
   refine aa (aM rfl (aM rfl (iJ true rfl rfl (fun _=>bI Tryz.underlying26 tk3 rfl ((Ent.all (f:=ShF cX) (.of (aI 2 rfl)) hp)) rfl (aK hx0) rfl rfl) (fun h=>absurd h (by decide)) (fun ⟨b6_2,o6_2⟩=>(US 0 tk3 0 rfl rfl rfl rfl rfl (aU rfl (yh rfl rfl) (aA rfl (bj (bp (aj (aa (aU rfl (aX rfl rfl (by omega)) (aM rfl (aNn ?_))))))))))))))
   refine ⟨[0,1,5,18,19,20],[2,1,0],[],rfl,?_⟩
   exact ⟨(k+1,min z x0),⟨⟨by dsimp only;omega,by dsimp only;omega,by dsimp only;omega,fun h=>by omega⟩,rfl⟩,by dsimp only;omega⟩
  ·skip
   refine ar (bp (aj (aa (aU rfl (aX rfl rfl (by omega)) (aM rfl (aNn ?_))))))
   refine ⟨[0,1,5,18,19,20],[2,1,0],[],rfl,?_⟩
   exact ⟨(k+1,z),⟨⟨by dsimp only;omega,hz0,hzN,hz1⟩,rfl⟩,by dsimp only;omega⟩
 ·skip
  refine aT (aW (aW (aY (aj (ah (aSR (aM rfl (aU rfl ((bu rfl rfl).castV (v':=.bool false) (congrArg Value.bool (decide_eq_false (by omega)))) (aM rfl (aM rfl (aM rfl (aU rfl (Q1 rfl (rN N l) 2 rfl) (aU rfl (cV rfl) (aU rfl (eu rfl rfl (fun _=>rfl)) (aNn ?_)))))))))))))))
  refine ao _ rfl (fun h3 => ?_) (fun h3 => ?_)
  ·skip
   exact absurd h3 (by rw [vM (by omega) hr];simp)
  ·skip
   refine ar (aj (ah (aSR (aM rfl (aU rfl (aZ Tryz.underlying354 rfl) (aM rfl (aNn (aq (bY (.of (aI 2 rfl)) (fun hll=>(aQ [0,1,5,41,42,43] [2,1,0] [] (fun (q:Nat × Int) st=>(q.1≤l.l.length∧0≤q.2∧q.2≤N∧(N≤1→l.l=[]→q.2=N))∧st=⟨[(0,true,.int .i64 N),(1,true,l.val),(5,true,.int .i64 q.2),(41,true,l.val),(42,true,.int .i64 l.l.length),(43,true,.int .i64 q.1)],[ShF slR P,bz (ShF cX) P.l,ShF dI.row l],[]⟩) (fun q=>l.l.length-q.1) rfl (⟨(0,z),⟨Nat.zero_le _,hz0,hzN,fun h _=>hz1 h⟩,rfl⟩) ?_)))))))))))
   rintro ⟨j,y⟩ st ⟨⟨hj,hy0,hyN,hy1⟩,rfl⟩
   dsimp only at hj hy0 hyN hy1 ⊢
   refine aSR (aU rfl (bu rfl rfl) (aNs ?_))
   refine ao _ rfl (fun h4 => ?_) (fun h4 => ?_)
   ·skip
    have hj':j<l.l.length:=by simpa using h4
    obtain ⟨a,ha⟩:∃ a,l.l[j]? = some a:=⟨_,List.getElem?_eq_getElem hj'⟩
    have har:=hr a (List.mem_of_getElem? ha)
    have hfr:=har.1
    have hln:l.l≠[]:=fun h=>by rw [h] at hj';cases hj'
    refine ar (aj (ah (aq (aSR (UI Tryz.underlying354 tk356 2 rfl rfl rfl rfl rfl (aK ha) rfl rfl (fun ⟨b12_0,o12_0⟩=>(US 0 tk356 0 rfl rfl rfl rfl rfl (LT rfl (bk (zs:=[.int .i64 0,.int .i64 0]) (by kernel_rfl) rfl (fun b12_2=>(aHN ?_)))))))))))
    refine aD rfl (aF 0 tk356 rfl rfl rfl rfl (aHK ?_))
    refine aNn (aSR (UO 0 rfl rfl (UL 0 tk3 rfl rfl rfl rfl (UO 1 rfl rfl (UL 0 tk3 rfl rfl rfl rfl (aU rfl (cJ rfl rfl) (aNn ?_)))))))
    refine ao _ rfl (fun h5 => ?_) (fun h5 => ?_)
    ·skip
     refine aa (aM rfl (UO 0 rfl rfl (UL 0 tk3 rfl rfl rfl rfl (aU rfl (yh rfl rfl) (aA rfl (bj (bp (aj (aa (aU rfl (aX rfl rfl (by omega)) (aM rfl (aNn ?_))))))))))))
     refine ⟨[0,1,5,41,42,43],[2,1,0],[],rfl,?_⟩
     exact ⟨(j+1,min y a.from_),⟨⟨by dsimp only;omega,by dsimp only;omega,by dsimp only;omega,fun _ h=>absurd h hln⟩,rfl⟩,by dsimp only;omega⟩
    ·skip
     refine ar (bp (aj (aa (aU rfl (aX rfl rfl (by omega)) (aM rfl (aNn ?_))))))
     refine ⟨[0,1,5,41,42,43],[2,1,0],[],rfl,?_⟩
     exact ⟨(j+1,y),⟨⟨by dsimp only;omega,hy0,hyN,hy1⟩,rfl⟩,by dsimp only;omega⟩
   ·skip
    refine aT (aW (aW (aY (aj (ah (aSR (aM rfl (aM rfl (aU rfl (cJ rfl rfl) (aNn ?_))))))))))
    refine ao _ rfl (fun h6 => ?_) (fun h6 => ?_)
    ·skip
     refine aSR (aA rfl (aNn (ax (bB (FZ1 [] Tryz.results255 rfl ?_)))))
     exact ⟨⟨rfl,rfl⟩,none,0,0,rfl,fun _ _=>rfl⟩
    ·skip
     have hyne:y≠N:=by simpa using h6
     obtain ⟨b,hb⟩:∃ b,qs N l.l [y]=b:=⟨_,rfl⟩
     have hbl:b.length=N:=by rw [← hb];exact xt (vk hr)
     have hTy:=hT [y]
     have hrk:∀ v,abJ (qt N l.l [y]) v≤100000:=fun v=>by
       have h1:=acL (qt N l.l [y]) v
       have h2:(qt N l.l [y]).length≤_:=ab6 (rs:=dK [y]) (vk hr)
       have h3:=vS [y]
       simp at h3
       omega
     obtain ⟨ρ,hρ⟩:∃ ρ,abJ (qt N l.l [y])=ρ:=⟨_,rfl⟩
     rw [hρ,hb] at hTy
     rw [hρ] at hrk
     refine ar (aj (aSR (aM rfl (aM rfl (aM rfl (LT rfl (WL (zs:=[.int .i64 0]) el26 rfl rfl rfl (.more rfl (.v rfl .nil) .nil) rfl rfl (fun v18_3=>(aHN ?_)))))))))
     refine eN 0 rfl ?_
     refine LT rfl (EC [0,3] [] rfl (uS N (by omega) l hl hr ⟨v18_3,1,[y]⟩ (by show 1≤_;decide) hb) ?_)
     rintro vb _ _ ⟨rfl,rfl⟩
     refine aST ?_
     refine aA rfl (aNn (aSR (aA rfl (aNs (ah (fH 1 rfl (fun w S F hh=>fW hh) (fun hov => ?_)))))))
     obtain ⟨bad,bcp,rfl⟩:=hov
     rw [dF]
     refine cB 1 rfl (aR (ShF z6 (⟨none,0,[]⟩:Sl Int)) (fun w S _=>gD.e none 0 (Nat.zero_le _)) (aa (aM rfl (aU rfl (aZ Tryz.underlying354 rfl) (aM rfl (aNn (aq (aQ [5,10,11,65,66,67] [5,4,0] [] (fun (q:Nat × Sl Int) st=>q.1≤l.l.length∧st=⟨[(5,true,.int .i64 y),(10,true,.slice bad b.length bcp),(11,true,q.2.val),(65,true,l.val),(66,true,.int .i64 l.l.length),(67,true,.int .i64 q.1)],[ShF z6 q.2,Sh (.slice bad b.length bcp) (.sl (cL encI b)),ShF dI.row l],[]⟩) (fun q=>l.l.length-q.1) rfl (⟨(0,⟨none,0,[]⟩),Nat.zero_le _,rfl⟩) ?_))))))))
     rintro ⟨m,bst⟩ st ⟨hm,rfl⟩
     dsimp only at hm ⊢
     refine aSR (aU rfl (bu rfl rfl) (aNs ?_))
     refine ao _ rfl (fun h7 => ?_) (fun h7 => ?_)
     ·skip
      have hm':m<l.l.length:=by simpa using h7
      obtain ⟨a,ha⟩:∃ a,l.l[m]? = some a:=⟨_,List.getElem?_eq_getElem hm'⟩
      have har:=hr a (List.mem_of_getElem? ha)
      have hfr:=har.1
      refine ar (aj (ah (aq (aSR (UI Tryz.underlying354 tk356 2 rfl rfl rfl rfl rfl (aK ha) rfl rfl (fun ⟨b22_0,o22_0⟩=>(US 0 tk356 0 rfl rfl rfl rfl rfl (LT rfl (bk (zs:=[.int .i64 0,.int .i64 0]) (by kernel_rfl) rfl (fun b22_2=>(aHN ?_)))))))))))
      refine aD rfl (aF 0 tk356 rfl rfl rfl rfl (aHK ?_))
      refine aNs (aSR (UO 1 rfl rfl (UL 0 tk3 rfl rfl rfl rfl (aM rfl (aU rfl (ft rfl rfl) (aNn ?_))))))
      refine ao _ rfl (fun h8 => ?_) (fun h8 => ?_)
      ·skip
       refine aT (aW (aY (aj (aa (aU rfl (aX rfl rfl (by omega)) (aM rfl (aNn ?_)))))))
       refine ⟨[5,10,11,65,66,67],[2,1,0],[],rfl,?_⟩
       exact ⟨(m+1,bst),⟨hm',rfl⟩,by dsimp only;omega⟩
      ·skip
       refine ar (aj (aSR (aM rfl (UO 0 rfl rfl (UL 0 tk3 rfl rfl rfl rfl ?_)))))
       refine LT rfl (EC [1] [] rfl (zn ⟨bad,bcp,b⟩ ρ hTy a.from_ (by dsimp only;omega) (hrk _)) ?_)
       rintro _ _ _ ⟨rfl,ad,cd,rfl,rfl⟩
       refine aST ?_
       refine aA rfl (aNn (aSR (aM rfl (aU rfl (adH Tryz.underlying26 rfl) (aM rfl (aG rfl rfl (fun hc=>aS rfl) (aG rfl rfl (fun hc=>xm Tryz.underlying26 (ae rfl hc)) (aG rfl rfl (fun hc=>aS (ae rfl hc)) (aG rfl rfl (fun hc=>aS rfl) (aG rfl rfl (fun hc=>aZ Tryz.underlying26 (ae rfl hc)) (aG rfl rfl (fun hc=>aS rfl) (aG rfl rfl (fun hc=>aZ Tryz.underlying26 (ae rfl hc)) (aG rfl rfl (fun hc=>bu (ae rfl hc) (ae rfl hc)) ?_)))))))))))))
       refine aG rfl rfl (fun hc=>eu (ae rfl hc) rfl (fun h=>gf hc h)) (aG rfl rfl (fun hc=>aS (ae rfl hc)) (aG rfl rfl (fun hc=>aS rfl) (aG rfl rfl (fun hc=>aZ Tryz.underlying26 (ae rfl hc)) (aG rfl rfl (fun hc=>aS rfl) (aG rfl rfl (fun hc=>aZ Tryz.underlying26 (ae rfl hc)) (aG rfl rfl (fun hc=>cJ (ae rfl hc) (ae rfl hc)) (aG rfl rfl (fun hc=>aS (ae rfl hc)) (aG rfl rfl (fun hc=>aS rfl) (aG rfl rfl (fun hc=>aS rfl) ?_)))))))))
       refine gm (caps:=[]) [4,2] ((0:Int)) (by kernel_rfl) _ rfl rfl (fun _=>rfl) (fun hc=>(aN (ae rfl hc) (aN (ae rfl hc) rfl))) (fun hc=>by rw [List.append_nil];exact sU ⟨ad,cd,kI b ρ a.from_⟩ bst) (fun cz hcz => ?_)
       refine aG rfl rfl (fun hc=>bu (ae rfl hc) rfl) (aG rfl rfl (fun hc=>bo (ae rfl hc) rfl (fun h=>gt hc h)) (aG rfl rfl (fun hc=>eu (ae rfl hc) rfl (fun h=>gf hc h)) (aU rfl (bo rfl rfl (fun h=>gt rfl h)) (aNn ?_))))
       refine ao _ rfl (fun h9 => ?_) (fun h9 => ?_)
       ·skip
        refine aa (aM rfl (aA rfl (bj (bp (aj (aa (aU rfl (aX rfl rfl (by omega)) (aM rfl (aNn ?_)))))))))
        refine ⟨[5,10,11,65,66,67],[4,1,0],[],rfl,?_⟩
        exact ⟨(m+1,⟨ad,cd,kI b ρ a.from_⟩),⟨hm',rfl⟩,by dsimp only;omega⟩
       ·skip
        refine ar (bp (aj (aa (aU rfl (aX rfl rfl (by omega)) (aM rfl (aNn ?_))))))
        refine ⟨[5,10,11,65,66,67],[2,1,0],[],rfl,?_⟩
        exact ⟨(m+1,bst),⟨hm',rfl⟩,by dsimp only;omega⟩
     ·skip
      refine aT (aW (aW (aY (aj (aSR (aM rfl (aA rfl (aNn (ax (FZ1 [] Tryz.results255 rfl ?_))))))))))
      exact ⟨⟨rfl,rfl⟩,_,_,_,rfl,fun h1 h2=>absurd (hy1 h1 h2) hyne⟩
end Go.Proofs.YtfkcmbonmpcbfaaGreat

namespace Go.Sy
open Go.RowKit Go.Lp
def byR(l:List UInt8):List (List D):=l.map fun u=>[.v (.int .u8 u.toNat)]
theorem aci(l:List UInt8):(byR l).length=l.length:=by simp [byR]
section
variable {P:Program} {n:Fr} {env:Env} {ps:List Per} {hp:List Res} {ty:TypeId} {pos:String} {af:Array Edge} {gd:Option (Nat × Bool)} {K:Sta→Prop} {q:Bool}
theorem wW {t:Nat} {S T E:TypeId} {u:TypeDesc} {x:Operand} {b:ByteArray} (hS:P.underlying S=some u) (hT:P.underlying T=some (.slice E)) (hE:P.underlying E=some (.int .u8)) (hx:ev env x=some (true,.string b)) (hb:b.size≤maxLen) (ht:fits n (some t)=true)
   (hK:∀ ad c,K ⟨(t,true,.slice ad b.size c)::env,Sh (.slice ad b.size c) (.sl (byR b.data.toList))::ps,hp⟩):Eff P n ⟨some t,.convert S T x,ty,pos,af,gd⟩ ⟨env,ps,hp⟩ q K:=fun w S' fp a hst he hn=>by
 have e1:=he.val hx rfl
 have hrun:=Lib.run_convert_string_bytes (P:=P) w S T E b hS hT hE
 have hexec:(execOp a.eval ⟨some t,.convert S T x,ty,pos,af,gd⟩).run P w=.ok (.value (.slice (some ⟨w.heap.size,0,none⟩) b.size (grownCap w b.size 0 E))) (Lib.bytesWorld w E b):=by
   unfold execOp;dsimp only;rw [e1]
   show ((convert S T (.string b)).bind fun r=>Sem.pure (Next.value r)).run P w=_
   rw [Sem.run_bind',hrun];rfl
 rw [hexec]
 have hsz:=Lib.bytesWorld_size w E b
 have hbel:Below w.heap.size w (Lib.bytesWorld w E b):=⟨by unfold Lib.bytesWorld World.freeze;split<;>rfl,by unfold Lib.bytesWorld World.freeze;split<;>rfl,by unfold Lib.bytesWorld World.freeze;split<;>rfl,by omega,nz _ _ _ _ hrun,fun k hk=>Lib.bytesWorld_at_old w E b k hk⟩
 have hst1:=hst.below hbel
 have hS2:∀ k,S' k→(S' k∨k=w.heap.size):=fun _ h=>.inl h
 refine ⟨_,(fun k=>S' k∨k=w.heap.size),fp,hK (some ⟨w.heap.size,0,none⟩) (grownCap w b.size 0 E),⟨fun p hp' => ?_,fun j R hj=>R.mono (hst1.res j R hj) (fun _ _=>rfl) (fun _ _=>rfl) hS2,fun j hj k hk=>⟨(hst1.lt j hj k hk).1,fun h=>h.elim (hst1.lt j hj k hk).2 fun e => ?_⟩,hst1.dj,fun k hk=>hk.elim (hst1.slt k) fun e=>by rw [e,hsz];omega⟩,he.put (g:=true) (by rw [hn];simpa [fits] using ht) _,
   ⟨hbel.os,hbel.tape,hbel.output,hbel.size,hbel.drawn,fun k hk _=>hbel.block k hk,fun _ h=>.inl h,fun k hk=>hk.elim .inl fun e=>.inr (.inr (by omega))⟩,fun k hk=>.inl hk,fun _=>hbel⟩
 · rcases List.mem_cons.1 hp' with rfl | h2
   · have hcap:b.size≤grownCap w b.size 0 E:=grownCap_ge w b.size 0 E
     have hlen:(byR b.data.toList).length=b.size:=by rw [aci];simp
     have:=gD.sl (w:=Lib.bytesWorld w E b) (S:=fun k=>S' k∨k=w.heap.size) w.heap.size 0 (grownCap w b.size 0 E) 1 (byR b.data.toList) (fun i _=>.int .u8 (b.data.toList.getD i 0).toNat) (.inr rfl) (by rw [hlen];exact hcap) (grownCap_le_maxLen w b.size 0 E hb)
       (fun i r hi=>by simp only [byR,List.getElem?_map,Option.map_eq_some_iff] at hi;obtain ⟨x,_,rfl⟩:=hi;rfl)
       (fun i j r d h1 h2=>by
         simp only [byR,List.getElem?_map,Option.map_eq_some_iff] at h1
         obtain ⟨x,hx',rfl⟩:=h1
         have hi:i<b.size:=by have:=(List.getElem?_eq_some_iff.1 hx').1;simpa using this
         cases j with
         | succ j=>simp at h2
         | zero=>refine ⟨?_,rfl⟩;rw [show 0+i*1+0=i by omega];exact Lib.bytesWorld_cell w E b i hi)
       (fun i j r d h1 h2=>by
         simp only [byR,List.getElem?_map,Option.map_eq_some_iff] at h1
         obtain ⟨x,hx',rfl⟩:=h1
         cases j with
         | succ j=>simp at h2
         | zero =>
           simp only [List.getElem?_cons_zero,Option.some.injEq] at h2
           subst h2
           have:b.data.toList.getD i 0=x:=by rw [List.getD,hx'];rfl
           rw [this];exact .v _)
     rwa [hlen] at this
   · exact p.mono (hst1.per p h2) (fun _ _=>rfl) hS2
 · have:=(hst.lt j hj k hk).1
   omega
end
theorem ach{l:List UInt8}{k:Nat}{u:UInt8}(h:l[k]? = some u):(byR l)[k]? = some [.v (.int .u8 u.toNat)]:=by unfold byR;rw [List.getElem?_map,h];rfl
end Go.Sy

namespace Go.Proofs.YtfkcmbonmpcbfaaGreat
open Go.RowKit Go.Lp Go.Sy Go.Lv
open Go.Proofs.Tryz
attribute [local irreducible] aL aB awp aC fwp Quiet
theorem kyT:ij Tryz.prog 9 jn:=adu Tryz.underlying9
theorem wP(l:Sl aH):Con Tryz.prog 253 [l.val] [ShF aH.row l] [] fun r ps hp=>ps=[]∧∃ b,r=.map (some b)∧hp=[fv b jn eI (kJ l.l)]:=by
 refine EN1 Tryz.func253 rfl (bY (.of (aI 0 rfl)) (fun hlen=>(aSR (aA rfl (aNn (aSR (LT rfl (gh (jn) (eI) rfl (fun b1_0=>(aHN ?_))))))))))
 refine aA rfl (aNs (aSR (aM rfl (aU rfl (aZ Tryz.underlying29 rfl) (aM rfl (aNn (aq (aQ [3,9,10,11] [0] [0] (fun (k:Nat) s=>k≤l.l.length∧s=⟨[(3,true,.map (some b1_0)),(9,true,l.val),(10,true,.int .i64 l.l.length),(11,true,.int .i64 k)],[ShF aH.row l],[fv b1_0 jn eI (kJ (l.l.take k))]⟩) (fun k=>l.l.length-k) rfl (⟨0,Nat.zero_le _,rfl⟩) ?_))))))))
 rintro k s ⟨hk,rfl⟩
 refine aSR (aU rfl (bu rfl rfl) (aNs ?_))
 refine ao _ rfl (fun h1 => ?_) (fun h1 => ?_)
 ·skip
  have hk':k<l.l.length:=by simpa using h1
  obtain ⟨a,ha⟩:∃ a,l.l[k]? = some a:=⟨l.l[k]'hk',by simp⟩
  have hlt:(l.l.take k).length=k:=by rw [List.length_take];omega
  refine ar (aj (ah (aq (aSR (aM rfl (UI Tryz.underlying29 tk195 0 rfl rfl rfl rfl rfl (aK ha) rfl rfl (fun ⟨b4_1,o4_1⟩=>(US 0 tk195 0 rfl rfl rfl rfl rfl (LT rfl (bk (zs:=[.string .empty,.slice none 0 0]) (by kernel_rfl) rfl (fun b4_3=>(aHN ?_))))))))))))
  refine aA rfl (aD rfl (aF 1 tk195 rfl rfl rfl rfl (aHK ?_)))
  refine aNn (aSR (aM rfl (UO 0 rfl rfl (UL 1 tk9 rfl rfl rfl rfl (aU rfl (vG (k:=a.name) (v0:=(0:Int)) 0 Tryz.underlying352 (kyT) (by kernel_rfl) rfl rfl rfl) (aM rfl (aU rfl (ck rfl rfl) (aU rfl (ck rfl rfl) (aA rfl (aA rfl (aNn (aSR (aM rfl (aU rfl (cV rfl) (aNn ?_)))))))))))))))
  refine ao _ rfl (fun h2 => ?_) (fun h2 => ?_)
  ·skip
   have hno:oI (l.l.take k) a.name=none:=by simpa using h2
   have hm:ic (kJ (l.l.take k)) a.name (k:Int)=kJ (l.l.take (k+1)):=by
     funext s
     unfold kJ ic
     rw [List.take_add_one,ha,Option.toList_some,sq,hlt]
     by_cases hs:s=a.name
     · subst hs;rw [if_pos rfl,hno,if_pos rfl];rfl
     · rw [if_neg hs,if_neg (Ne.symm hs),Option.or_none]
   refine aa (aM rfl (UO 0 rfl rfl (UL 1 tk9 rfl rfl rfl rfl (aM rfl (aD rfl (fg (k:=a.name) (v:=(k:Int)) 0 Tryz.underlying352 (kyT) rfl rfl rfl rfl (aHK ?_)))))))
   refine bj (bp (aj (aa (aU rfl (aX rfl rfl (by omega)) (aM rfl (aNn ?_))))))
   refine ⟨[3,9,10,11],[0],[0],rfl,?_⟩
   exact ⟨k+1,⟨by omega,by rw [← hm];rfl⟩,by omega⟩
  ·skip
   have hyes:(oI (l.l.take k) a.name).isSome=true:=by simpa using h2
   have hm:kJ (l.l.take k)=kJ (l.l.take (k+1)):=by
     funext s
     unfold kJ
     rw [List.take_add_one,ha,Option.toList_some,sq]
     by_cases hs:a.name=s
     · subst hs
       obtain ⟨i,hi⟩:=Option.isSome_iff_exists.1 hyes
       rw [hi];rfl
     · rw [if_neg hs,Option.or_none]
   refine ar (bp (aj (aa (aU rfl (aX rfl rfl (by omega)) (aM rfl (aNn ?_))))))
   refine ⟨[3,9,10,11],[0],[0],rfl,?_⟩
   exact ⟨k+1,⟨by omega,by rw [← hm];rfl⟩,by omega⟩
 ·skip
  refine aT (aW (aW (aY (aj (aSR (aM rfl (aA rfl (aNn (ax (FZ1 [0] Tryz.results253 rfl ?_))))))))))
  exact ⟨rfl,b1_0,rfl,by rw [List.take_of_length_le (by simpa using h1)];rfl⟩
theorem zo(s:ByteArray)(hs:s.size≤maxLen):Con Tryz.prog 254 [.string s] [] [] fun r _ _=>r=.bool (fj s):=by
 have hs':s.size≤9223372036854775807:=hs
 have hlen:(gH s).length=s.size:=rfl
 refine EN1 Tryz.func254 rfl (aSR (aA rfl (aNs (aSR (aM rfl ?_)))))
 refine LT rfl (wW Tryz.underlying9 Tryz.underlying89 Tryz.underlying5 rfl (by assumption) rfl (fun a1_1 c1_1 => ?_))
 refine aST ?_
 refine aU rfl (aZ Tryz.underlying89 rfl) (aM rfl (aNn (aq ?_)))
 refine aQ [0,6,7,8] [0] [] (fun (k:Nat) st=>(k≤s.size∧∀ u∈(gH s).take k,(decide (33≤u.toNat) && decide (u.toNat≤126))=true)∧st=⟨[(0,true,.string s),(6,true,.slice a1_1 s.size c1_1),(7,true,.int .i64 s.size),(8,true,.int .i64 k)],[Sh (.slice a1_1 s.size c1_1) (.sl (byR (gH s)))],[]⟩) (fun k=>s.size-k) rfl (⟨0,⟨Nat.zero_le _,fun u h=>by cases h⟩,rfl⟩) ?_
 rintro k st ⟨⟨hk,hpre⟩,rfl⟩
 refine aSR (aU rfl (bu rfl rfl) (aNs ?_))
 refine ao _ rfl (fun h1 => ?_) (fun h1 => ?_)
 ·skip
  have hk':k<s.size:=by simpa using h1
  obtain ⟨u,hu⟩:∃ u,(gH s)[k]? = some u:=⟨_,List.getElem?_eq_getElem (by omega)⟩
  refine ar (aj (ah (aq (aSR (UI Tryz.underlying89 tk5 0 rfl rfl rfl rfl rfl (ach hu) rfl rfl (fun ⟨b3_0,o3_0⟩ => ?_))))))
  refine US 0 tk5 0 rfl rfl rfl rfl rfl (aA rfl (aNn (aSR (aM rfl (aU rfl (bu rfl rfl) (aM rfl (aG rfl rfl (fun hc=>aS rfl) (aG rfl rfl (fun hc=>eA (ae rfl hc) rfl) (aU rfl (eu rfl rfl (fun h=>gf rfl h)) (aNn ?_))))))))))
  refine ao _ rfl (fun h2 => ?_) (fun h2 => ?_)
  ·skip
   refine aSR (aA rfl (aNn (ax (dr (bB (bB (dr (bB (FZ1 [] Tryz.results254 rfl (congrArg Value.bool (Eq.symm ?_)))))))))))
   have hb:(decide (33≤u.toNat) && decide (u.toNat≤126))=false:=by simp at h2 ⊢;omega
   unfold fj
   rw [Bool.and_eq_false_iff];left
   rw [List.all_eq_false]
   exact ⟨u,List.mem_of_getElem? hu,by rw [hb];decide⟩
  ·skip
   refine ar (bp (aj (aa (aU rfl (aX rfl rfl (by omega)) (aM rfl (aNn ?_))))))
   refine ⟨[0,6,7,8],[0],[],rfl,?_⟩
   refine ⟨k+1,⟨⟨hk',fun v hv => ?_⟩,rfl⟩,by omega⟩
   rw [List.take_add_one,hu,Option.toList_some] at hv
   rcases List.mem_append.1 hv with h | h
   · exact hpre v h
   · rw [List.mem_singleton.1 h];simp at h2 ⊢;omega
 ·skip
  refine aT (aW (aW (aY (aj (aSR (aM rfl (aU rfl (cP Tryz.underlying9 rfl) (aU rfl (fi rfl rfl) (aM rfl (aG rfl rfl (fun hc=>aS rfl) (aG rfl rfl (fun hc=>cP Tryz.underlying9 (ae rfl hc)) (aG rfl rfl (fun hc=>ff (ae rfl hc) rfl) (aU rfl (bo rfl rfl (fun h=>gt rfl h)) (aA rfl (aNn (ax ?_))))))))))))))))
  refine FZ1 [] Tryz.results254 rfl (congrArg Value.bool (Eq.symm ?_))
  have hkl:k=s.size:=by simp at h1;omega
  rw [hkl,← hlen,List.take_length] at hpre
  unfold fj
  rw [List.all_eq_true.2 hpre,Bool.true_and]
  congr 1<;>simp<;>omega
theorem qb (l:Sl aH):Con Tryz.prog 158 [l.val] [ShF aH.row l,bz aH.ok l.l] [] (YN Value.bool fun b=>(b=true→VOk l.l)∧(iY l.l→b=true)):=by
 refine EN1 Tryz.func158 rfl (aSR (aA rfl (aNs (aSR (aM rfl (aU rfl (aZ Tryz.underlying29 rfl) (aU rfl (eA rfl rfl) (aNn ?_))))))))
 refine ao _ rfl (fun h1 => ?_) (fun h1 => ?_)
 ·skip
  refine aSR (aA rfl (aNn (ax (bB (FZ1 [] Tryz.results158 rfl ?_)))))
  exact ⟨⟨rfl,rfl⟩,_,rfl,fun h=>absurd h (by decide),fun hv=>absurd h1 (by have:=hv.len;simp;omega)⟩
 ·skip
  have hle:l.l.length≤4096:=by simp at h1;omega
  refine ar (aj (aSR (aM rfl (LT rfl (EC [1] [] rfl (wP l) ?_)))))
  rintro _ _ _ ⟨rfl,bat,rfl,rfl⟩
  refine aST ?_
  refine aA rfl (aNs (aSR (aM rfl (aU rfl (adE 0 Tryz.underlying352 kyT rfl rfl) (aM rfl (aU rfl (aZ Tryz.underlying29 rfl) (aU rfl (ft rfl rfl) (aNn ?_))))))))
  refine ao _ rfl (fun h2 => ?_) (fun h2 => ?_)
  ·skip
   refine aSR (aA rfl (aNn (ax (bB (FZ1 [] Tryz.results158 rfl ?_)))))
   exact ⟨⟨rfl,rfl⟩,_,rfl,fun h=>absurd h (by decide),fun hv=>absurd h2 (by rw [(ss l.l).2 hv.nd];simp)⟩
  ·skip
   have hnd:(l.l.map (·.name)).Nodup:=(ss l.l).1 (by simp at h2;omega)
   refine ar (aj (aSR (aA rfl (aNs (ah (cW 356 2 ?_))))))
   show awp _ _ _ _ ⟨_,_,[_,_]⟩
   refine aa (aM rfl (aU rfl (aZ Tryz.underlying29 rfl) (aM rfl (aNn (aq (aQ [0,3,4,22,23,24] [1,0] [0,1] (fun (q:Nat × (Value × List dI)) st=>VI l.l q.1 q.2.2∧st=⟨[(0,true,l.val),(3,true,.map (some bat)),(4,true,q.2.1),(22,true,l.val),(23,true,.int .i64 l.l.length),(24,true,.int .i64 q.1)],[ShF aH.row l,bz aH.ok l.l],[fv bat jn eI (kJ l.l),aO q.2.1 356 2 (q.2.2.map dI.row)]⟩) (fun q=>l.l.length-q.1) rfl (⟨(0,(.slice none 0 0,[])),VI.start l.l,rfl⟩) ?_))))))
   rintro ⟨k,av,gs⟩ st ⟨hI,rfl⟩
   dsimp only at hI ⊢
   have hkl:=hI.le
   refine aSR (aU rfl (bu rfl rfl) (aNs ?_))
   refine ao _ rfl (fun h3 => ?_) (fun h3 => ?_)
   ·skip
    have hk':k<l.l.length:=by simpa using h3
    obtain ⟨d,hd⟩:∃ d,l.l[k]? = some d:=⟨_,List.getElem?_eq_getElem hk'⟩
    have hdm:=List.mem_of_getElem? hd
    refine ar (aj (ah (aq (aSR (aM rfl (UI Tryz.underlying29 tk195 0 rfl rfl rfl rfl rfl (aK hd) rfl rfl (fun ⟨b9_1,o9_1⟩=>(US 0 tk195 0 rfl rfl rfl rfl rfl (LT rfl (bk (zs:=[.string .empty,.slice none 0 0]) (by kernel_rfl) rfl (fun b9_3=>(aHN ?_))))))))))))
    refine aA rfl (aD rfl (aF 2 tk195 rfl rfl rfl rfl (aHK ?_)))
    refine aNn (aSR (LT rfl (gh (jn) (vBo) rfl (fun b10_0=>(aHN ?_)))))
    refine aA rfl (aNs (aSR (UO 1 rfl rfl (UL 2 tk28 rfl rfl rfl rfl (aU rfl (aZ Tryz.underlying28 rfl) (aM rfl (aNn (aq (bY (aH.f_parents (Ent.all (f:=aH.ok) (.of (aI 2 rfl)) hd)) (fun hpl => ?_))))))))))
    refine aQ [0,3,4,5,6,7,22,23,24,31,32,33] [1,0] [0,1,2,3] (fun (q:Nat × (Value × List dI)) st=>VJ l.l k d q.1 q.2.2∧st=⟨[(0,true,l.val),(3,true,.map (some bat)),(4,true,q.2.1),(5,true,.int .i64 k),(6,true,.pointer (some ⟨b9_3,0,none⟩)),(7,true,.map (some b10_0)),(22,true,l.val),(23,true,.int .i64 l.l.length),(24,true,.int .i64 k),(31,true,d.parents.val),(32,true,.int .i64 d.parents.l.length),(33,true,.int .i64 q.1)],[ShF aH.row l,bz aH.ok l.l],[fv bat jn eI (kJ l.l),aO q.2.1 356 2 (q.2.2.map dI.row),Box b9_3 195 d.vs,fv b10_0 jn vBo (fu (d.parents.l.take q.1))]⟩) (fun q=>d.parents.l.length-q.1) rfl (⟨(0,(av,gs)),hI.into hd,by show _=(⟨_,_,[_,_,_,fv b10_0 jn vBo (fu [])]⟩:Sta);rw [← qL];rfl⟩) ?_
    rintro ⟨m,av2,gs2⟩ st ⟨hJ,rfl⟩
    dsimp only at hJ ⊢
    have hml:=hJ.ml
    have hms:=hJ.short
    have hln:=hJ.ln
    have hmul:l.l.length*k≤4096*4096:=Nat.mul_le_mul hle (by omega)
    refine aSR (aU rfl (bu rfl rfl) (aNs ?_))
    refine ao _ rfl (fun h4 => ?_) (fun h4 => ?_)
    ·skip
     have hm':m<d.parents.l.length:=by simpa using h4
     obtain ⟨p,hp⟩:∃ p,d.parents.l[m]? = some p:=⟨_,List.getElem?_eq_getElem hm'⟩
     refine ar (aj (ah (aq (aSR (iJ true rfl rfl (fun _=>bI Tryz.underlying28 tk9 rfl ((aH.f_parents (Ent.all (f:=aH.ok) (.of (aI 1 rfl)) hd))) rfl (aK hp) rfl rfl) (fun h=>absurd h (by decide)) (fun ⟨b13_0,o13_0⟩=>(US 0 tk9 0 rfl rfl rfl rfl rfl (aA rfl (aNn (aSR (aM rfl (aM rfl (aU rfl (vG (k:=p) (v0:=(0:Int)) 0 Tryz.underlying352 (kyT) (by kernel_rfl) rfl rfl rfl) ?_)))))))))))))
     refine aM rfl (aU rfl (ck rfl rfl) (aU rfl (ck rfl rfl) (aA rfl (aA rfl (aNs (aSR (aM rfl (aU rfl (cV rfl) (aM rfl (aG rfl rfl (fun hc=>aS rfl) (aG rfl rfl (fun hc=>aS rfl) (aG rfl rfl (fun hc=>lZ (k:=p) (v0:=false) 3 Tryz.underlying244 (kyT) (by kernel_rfl) (ae rfl hc) (ae rfl hc) rfl) (aU rfl (eu rfl rfl (fun h=>gf rfl h)) (aNn ?_))))))))))))))
     refine ao _ rfl (fun h5 => ?_) (fun h5 => ?_)
     ·skip
      refine aSR (aA rfl (aNn (ax (bB (dr (bB (bB (dr (bB (dr (bB (bB (dr (bB (FZ1 [] Tryz.results158 rfl ?_)))))))))))))))
      exact ⟨⟨rfl,rfl⟩,_,rfl,fun h=>absurd h (by decide),fun hv=>absurd hm' (by rw [hv.par d hdm];exact Nat.not_lt_zero _)⟩
     ·skip
      have h5':(kJ l.l p).isSome=true∧(fu (d.parents.l.take m) p).getD false=false:=by simpa using h5
      obtain ⟨i,hi⟩:∃ i,oI l.l p=some i:=by
        have h:=h5'.1
        cases hh:oI l.l p with
        | none=>simp [kJ,hh] at h
        | some i=>exact ⟨i,rfl⟩
      have hs:p ∉ d.parents.l.take m:=fun hmem=>by
        have h:=h5'.2
        rw [abP] at h
        simp [hmem] at h
      have hvi:(kJ l.l p).getD 0=(i:Int):=by simp [kJ,hi]
      refine ar (aj (aSR (aM rfl (aM rfl (aD rfl (fg (k:=p) (v:=true) 3 Tryz.underlying244 (kyT) rfl rfl rfl rfl (aHK ?_)))))))
      refine aNn (aa (aM rfl (aM rfl (aM rfl (aU rfl (eb (l:=[(0,.tmp 53),(1,.tmp 54)]) (zs:=[.int .i64 0,.int .i64 0]) (pl:=[(0,1),(1,1)]) (by kernel_rfl) (by kernel_rfl) (by kernel_rfl) rfl rfl rfl) (LT rfl (WL (zs:=[.int .i64 0,.int .i64 0]) el354 rfl rfl rfl (.more rfl (.v rfl (.v rfl .nil)) .nil) rfl rfl (fun v18_4=>(aHN ?_)))))))))
      refine aD rfl (cj 1 el354 rfl rfl rfl rfl (cY 4 el354 rfl (by simp)) (by first | assumption | simp) (by rw [List.length_map];show gs2.length+1≤_;omega) (gs2.length+1) (by rw [List.length_map];rfl) (fun v18_5 c18_5 => ?_))
      refine aHK ?_
      refine aA rfl (bj (bp (aj (aa (aU rfl (aX rfl rfl (by omega)) (aM rfl (aNn ?_)))))))
      refine ⟨[0,3,4,5,6,7,22,23,24,31,32,33],[1,0],[0,1,2,3],rfl,?_⟩
      refine ⟨(m+1,(.slice v18_5 (gs2.length+1) c18_5,gs2++[⟨k,i⟩])),⟨hJ.step hd hp hi hs,?_⟩,by dsimp only;omega⟩
      show _=(⟨_,_,[_,aO (.slice v18_5 (gs2.length+1) c18_5) 356 2 ((gs2++[dI.mk (k:Int) (i:Int)]).map dI.row),_,fv b10_0 jn vBo (fu (d.parents.l.take (m+1)))]⟩:Sta)
      rw [List.take_add_one,hp,Option.toList_some,hY,List.map_append,List.map_singleton,← hvi]
      rfl
    ·skip
     refine aT (aW (aW (aY (aj (ah (fy (aH.f_name (Ent.all (f:=aH.ok) (.of (aI 1 rfl)) hd)) (fun hnl=>(aa (UO 0 rfl rfl (UL 2 tk9 rfl rfl rfl rfl (aU rfl (Q0 rfl (zo d.name hnl)) (aU rfl (cV rfl) (aNn ?_)))))))))))))
     refine ao _ rfl (fun h6 => ?_) (fun h6 => ?_)
     ·skip
      refine aSR (aA rfl (aNn (ax (dr (bB (bB (dr (bB (FZ1 [] Tryz.results158 rfl ?_)))))))))
      exact ⟨⟨rfl,rfl⟩,_,rfl,fun h=>absurd h (by decide),fun hv=>absurd h6 (by rw [hv.nm d hdm];decide)⟩
     ·skip
      have hnm:fj d.name=true:=by simpa using h6
      refine ar (bp (aj (aa (aU rfl (aX rfl rfl (by omega)) (aM rfl (aNn ?_))))))
      refine ⟨[0,3,4,22,23,24],[1,0],[0,1],rfl,?_⟩
      exact ⟨(k+1,(av2,gs2)),⟨hJ.done hd hnm,rfl⟩,by dsimp only;omega⟩
   ·skip
    have hkn:k=l.l.length:=by simp at h3;omega
    have hgl:=hI.ln
    have hmul:l.l.length*k≤4096*4096:=Nat.mul_le_mul hle (by omega)
    refine aT (aW (aW (aY (aj (ah (fH 1 rfl (fun w S F hh=>fW hh) (fun hov => ?_)))))))
    obtain ⟨gad,gcp,rfl⟩:=hov
    rw [List.length_map]
    refine cB 1 rfl (aa (aM rfl (aU rfl (aZ Tryz.underlying29 rfl) (aM rfl ?_))))
    refine LT rfl (EC [2] [] rfl (aaM l.l.length (by omega) ⟨gad,gcp,gs⟩ (by dsimp only;omega) hI.ok) ?_)
    rintro _ _ _ ⟨⟨rfl,rfl⟩,ad2,k2,c2,rfl,hk2⟩
    refine aST ?_
    refine aU rfl (aZ Tryz.underlying26 rfl) (aU rfl (cJ rfl rfl) (aA rfl (aNn (ax (FZ1 [] Tryz.results158 rfl ?_)))))
    refine ⟨⟨rfl,rfl⟩,_,rfl,fun _=>⟨hle,hnd,fun x hx=>hI.nm x (by rw [hkn,List.take_length];exact hx)⟩,fun hv => ?_⟩
    rw [hk2 hv.len (hI.si hv)];rfl
end Go.Proofs.YtfkcmbonmpcbfaaGreat

namespace Go.Sy
open Go.RowKit Go.Lp
def isF(P:Program)(f:FuncId)(c:Code)(nt:Nat)(rs:Array ResultVar):Prop:=∃ fn,P.funcs[f]? = some fn∧fn.body=some c∧fn.ntmps=nt∧fn.results=rs
theorem Con.enterG{P:Program}{f:FuncId}{fn:Func}{c:Code}{nt:Nat}{args:List Value}{ps:List Per}{hp:List Res}{R:Value→List Per→List Res→Prop}(hf:P.funcs[f]? = some fn)(hb:fn.body=some c)(hn:fn.ntmps=nt)(hle:args.length≤nt)
   (h:awp P ⟨nt,none,[]⟩ c (gk P fn R) ⟨(List.range args.length).zipWith (fun i v=>(i,true,v)) args,ps,hp⟩):Con P f args ps hp R:=by
 subst hn
 exact Con.enter hf hb hle h
structure ElT (P:Program) (E A:TypeId) (α:Type) where
 ag:Bool
 sz:Nat
 zs:List Value
 vs:α→List Value
 row:α→List D
 vl:α→Value
 tE:tyk P E=some (ag,sz)
 tA:tyk P A=some (false,1)
 uA:P.underlying A=some (.slice E)
 el:elB P A E sz=true
 hz:fm P E=some zs
 h0:0<sz
 hm:sz≤16777216
 hzl:zs.length=sz
 ln:∀ x,(vs x).length=sz
 rw_:∀ x,row x=(vs x).map .v
 ld:∀ x,rdC ag sz (vs x) 0=some (vl x)
 ldD:∀ x,rdD ag sz (row x) 0=some (vl x)
 cl:∀ x,(vl x).cells.toList=vs x
 on:∀ x,(vs x).all (·.oneCell')=true
theorem ElT.one{P:Program}{E A:TypeId}{α:Type}(X:ElT P E A α)(x:α):∀ v∈X.vs x,v.oneCell'=true:=List.all_eq_true.1 (X.on x)
theorem tP:∀ (cs vs:List Value),(∀ v∈vs,v.oneCell'=true)→vs.length=cs.length→wrL vs.length cs 0 vs=some vs
 | [],[],_,_=>rfl
 | _::cs,v::vs,h1,h2=>by
   have:=tP cs vs (fun u hu=>h1 u (by simp [hu])) (by simpa using h2)
   simp only [List.length_cons,wrL,h1 v (by simp),this]
theorem aao(ps:List Per):∀ (vs:List Value),(∀ v∈vs,v.oneCell'=true)→RC ps vs (vs.map .v)
 | [],_=>.nil
 | v::vs,h=>.v (h v (by simp)) (aao ps vs fun u hu=>h u (by simp [hu]))
section
variable {P:Program} {E A:TypeId} {α:Type} {n:Fr} {env:Env} {ps:List Per} {hp:List Res} {ty:TypeId} {pos:String} {af:Array Edge} {gd:Option (Nat × Bool)} {K:Sta→Prop} {q:Bool}
theorem adR(X:ElT P E A α)(x:α){t:Nat}{y:Operand}(hx:evs env [y]=some [X.vl x])(ht:fits n.size (some t)=true)(hK:∀ ad,K ⟨(t,true,.slice ad 1 1)::env,ps,hp++[aO (.slice ad 1 1) E X.sz [X.row x]]⟩) :
   Eff P n ⟨some t,.buildSlice A 1 #[(0,y)],ty,pos,af,gd⟩ ⟨env,ps,hp⟩ q K:=by
 have hzl:=X.hzl
 refine ab4 (l:=[(0,y)]) (zs:=X.zs) (rows:=[X.row x]) (cs:=X.vs x) (by rw [hzl];exact X.el) X.hz (by rw [hzl];exact X.h0) (by decide) (by rw [hzl,Nat.one_mul];exact X.hm) rfl hx ?_ ?_ rfl ht (by rw [hzl];exact hK)
 · show (match wrL X.zs.length (X.zs++[]) (0*X.zs.length) (X.vl x).cells.toList with | some c=>bld _ c [] | none=>none)=_
   rw [X.cl,List.append_nil,Nat.zero_mul,hzl,← X.ln x,tP _ _ (X.one x) (by rw [X.ln,hzl])];rfl
 · have h:=RCs.cons (ps:=ps) (sz:=X.zs.length) (by rw [hzl];exact X.ln x) (aao ps (X.vs x) (X.one x)) .nil
   rw [List.append_nil,← X.rw_ x] at h
   exact h
theorem ElT.rl(X:ElT P E A α)(x:α):(X.row x).length=X.sz:=by rw [X.rw_,List.length_map,X.ln]
theorem ElT.put(X:ElT P E A α)(x:α):wrL X.sz X.zs 0 (X.vl x).cells.toList=some (X.vs x):=by
 rw [X.cl,← X.ln x,tP _ _ (X.one x) (by rw [X.ln,X.hzl])]
end
end Go.Sy

