/- Parts of the proof, in build order. No condition. -/
import Derived.Test.YtfkcmbonmpcbfaaGreatTb15
import Derived.Test.YtfkcmbonmpcbfaaGreatTb09
import Derived.Test.YtfkcmbonmpcbfaaGreatTb10
import Derived.Test.YtfkcmbonmpcbfaaGreatTb13
import Derived.Test.YtfkcmbonmpcbfaaGreatTb04
import Derived.Test.YtfkcmbonmpcbfaaGreatTb05
import Derived.Lib.ConvBytes
import Derived.Test.YtfkcmbonmpcbfaaGreatTb12
import Derived.Test.YtfkcmbonmpcbfaaGreatTb03
import Derived.Test.YtfkcmbonmpcbfaaGreatTb06
set_option linter.unusedSimpArgs false
set_option linter.unusedVariables false
set_option maxHeartbeats 1000000
set_option maxRecDepth 20000
namespace Go.Proofs.YtfkcmbonmpcbfaaGreat
open Go.RowKit Go.Lp Go.Sy
open Go.Proofs.Tryz
attribute [local irreducible] aL aB awp aC fwp Quiet
theorem sy(z:Int):Con Tryz.prog 302 [.int .i64 z] [] [] (fun r _ _=>r=.bool false):=by
 refine EN1 Tryz.func302 rfl (aSR (aA rfl (aNn (aSR (aM rfl (aM rfl (aU rfl (dS rfl rfl) (aA rfl (aNn (aj (FZ1 [] Tryz.results302 rfl ?_)))))))))))
 simp
theorem sA(z:ByteArray):Con Tryz.prog 252 [.string z] [] [] (fun r _ _=>r=.bool false):=by
 refine EN1 Tryz.func252 rfl (aSR (aA rfl (aNn (aSR (aM rfl (aM rfl (aU rfl (abz rfl rfl) (aA rfl (aNn (aj (FZ1 [] Tryz.results252 rfl ?_)))))))))))
 simp
theorem ku(a b:Int):Con Tryz.prog 250 [.int .i64 a,.int .i64 b] [] [] (fun r _ _=>r=.int .i64 (jX a b)):=by
 refine EN2 Tryz.func250 rfl (aSR (aA rfl (aNn (aSR (aM rfl (aU rfl (Q0 rfl (sy _)) (aA rfl (aNn (aSR (aM rfl (aU rfl (Q0 rfl (sy _)) ?_)))))))))))
 refine aA rfl (aNs (aSR (aM rfl (aNn ?_))))
 refine ah _ rfl (fun h1 => ?_) (fun h1 => ?_)
 ·skip
  exact absurd h1 (by decide)
 ·skip
  refine ai (an (aq (aSR (aM rfl (aNn ?_)))))
  refine ah _ rfl (fun h2 => ?_) (fun h2 => ?_)
  ·skip
   exact absurd h2 (by decide)
  ·skip
   refine ai (an (aq (aSR (aM rfl (aM rfl (aU rfl (bg rfl rfl) (aNn ?_)))))))
   refine ah _ rfl (fun h3 => ?_) (fun h3 => ?_)
   ·skip
    refine aSR (aA rfl (aNn (aj (aN (FZ1 [] Tryz.results250 rfl ?_)))))
    have:a<b:=by simpa using h3
    unfold jX;rw [if_pos this]
   ·skip
    refine ai (an (aq (aSR (aM rfl (aM rfl (aU rfl (dy rfl rfl) (aNn ?_)))))))
    refine ah _ rfl (fun h4 => ?_) (fun h4 => ?_)
    ·skip
     refine aSR (aA rfl (aNn (aj (aN (FZ1 [] Tryz.results250 rfl ?_)))))
     have a1:¬ a<b:=by simpa using h3
     have:b<a:=by simpa using h4
     unfold jX;rw [if_neg a1,if_pos this]
    ·skip
     refine ai (an (aSR (aA rfl (aNn (aj (FZ1 [] Tryz.results250 rfl ?_))))))
     have a1:¬ a<b:=by simpa using h3
     have a2:¬ b<a:=by simpa using h4
     unfold jX;rw [if_neg a1,if_neg a2]
theorem su(a b:ByteArray):Con Tryz.prog 152 [.string a,.string b] [] [] (fun r _ _=>r=.int .i64 (uq a b)):=by
 refine EN2 Tryz.func152 rfl (aSR (aA rfl (aNn (aSR (aM rfl (aU rfl (Q0 rfl (sA _)) (aA rfl (aNn (aSR (aM rfl (aU rfl (Q0 rfl (sA _)) ?_)))))))))))
 refine aA rfl (aNs (aSR (aM rfl (aNn ?_))))
 refine ah _ rfl (fun h1 => ?_) (fun h1 => ?_)
 ·skip
  exact absurd h1 (by decide)
 ·skip
  refine ai (an (aq (aSR (aM rfl (aNn ?_)))))
  refine ah _ rfl (fun h2 => ?_) (fun h2 => ?_)
  ·skip
   exact absurd h2 (by decide)
  ·skip
   refine ai (an (aq (aSR (aM rfl (aM rfl (aU rfl (acM rfl rfl) (aNn ?_)))))))
   refine ah _ rfl (fun h3 => ?_) (fun h3 => ?_)
   ·skip
    refine aSR (aA rfl (aNn (aj (aN (FZ1 [] Tryz.results152 rfl ?_)))))
    have:sLt a b:=of_decide_eq_true h3
    unfold uq;rw [if_pos this]
   ·skip
    refine ai (an (aq (aSR (aM rfl (aM rfl (aU rfl (acL rfl rfl) (aNn ?_)))))))
    refine ah _ rfl (fun h4 => ?_) (fun h4 => ?_)
    ·skip
     refine aSR (aA rfl (aNn (aj (aN (FZ1 [] Tryz.results152 rfl ?_)))))
     have a1:¬ sLt a b:=of_decide_eq_false h3
     have h4':¬ sLt a b∧¬ a=b:=by simp only [Bool.not_eq_true',Bool.or_eq_false_iff,decide_eq_false_iff_not] at h4;exact h4
     have:sLt b a:=by
       rcases abH a b with h | h | h
       · exact (a1 h).elim
       · exact (h4'.2 h).elim
       · exact h
     unfold uq;rw [if_neg a1,if_pos this]
    ·skip
     refine ai (an (aSR (aA rfl (aNn (aj (FZ1 [] Tryz.results152 rfl ?_))))))
     have a1:¬ sLt a b:=of_decide_eq_false h3
     have h4':sLt a b∨a=b:=by simp only [Bool.not_eq_false',Bool.or_eq_true,decide_eq_true_eq] at h4;exact h4
     have a2:¬ sLt b a:=by
       rcases h4' with h | h
       · exact yL h
       · rw [h];exact wL _
     unfold uq;rw [if_neg a1,if_neg a2]
theorem abf(v:Value)(a b:Int):Con Tryz.prog 151 [v] [] [aD v 3 1 [[.v (.int .i64 a)],[.v (.int .i64 b)]]] (fun r _ _=>r=.int .i64 (if a≠0 then a else b)):=by
 refine Con.ofRes (p:=Sh v (.sl [[.v (.int .i64 a)],[.v (.int .i64 b)]])) ?_ _ (fun w S fp hres=>(kL (hres 0 _ rfl)).mono (fun _ _=>rfl) fun b hb=>hb.imp id fun hf=>⟨0,by simp,hf⟩)
 refine EN1 Tryz.func151 rfl (zi (.of (aF 0 rfl)) (fun ad cp hv => ?_))
 obtain rfl:v=.slice ad 2 cp:=hv
 refine aSR (aA rfl (aNn (aSR (aA rfl (aNs (aSR (aM rfl (aU rfl (aY Tryz.underlying26 rfl) (aM rfl (aNn (ao (aR [0,3,6,7,8] [0] [] (fun (k:Nat) st=>(k≤2∧(1≤k→a=0)∧(2≤k→b=0))∧st=⟨[(0,true,.slice ad 2 cp),(3,true,.int .i64 0),(6,true,.slice ad 2 cp),(7,true,.int .i64 2),(8,true,.int .i64 k)],[Sh (.slice ad 2 cp) (.sl [[.v (.int .i64 a)],[.v (.int .i64 b)]])],[]⟩) (fun k=>2-k) rfl (⟨0,⟨by omega,fun h=>by omega,fun h=>by omega⟩,rfl⟩) ?_))))))))))))
 rintro k st ⟨⟨hk,ha,hb⟩,rfl⟩
 refine aSR (aU rfl (bg rfl rfl) (aNs ?_))
 refine ah _ rfl (fun h1 => ?_) (fun h1 => ?_)
 ·skip
  have hk':k<2:=by simp at h1;omega
  obtain ⟨c,hc1,hc⟩:∃ c,(([[.v (.int .i64 a)],[.v (.int .i64 b)]]:List (List D))[k]? = some [D.v (.int .i64 c)])∧((k=0∧c=a)∨(k=1∧c=b)):=by
    rcases (by omega:k=0∨k=1) with rfl | rfl
    · exact ⟨a,rfl,.inl ⟨rfl,rfl⟩⟩
    · exact ⟨b,rfl,.inr ⟨rfl,rfl⟩⟩
  refine ai (an (aq (ao (aSR (fZ true rfl rfl (fun _=>fK Tryz.underlying26 tk3 rfl (aF 0 rfl) rfl hc1 rfl rfl) (fun h=>absurd h (by decide)) (fun ⟨b4_0,o4_0⟩=>(US 0 tk3 0 rfl rfl rfl rfl rfl (aA rfl (aNn (aSR (aM rfl (aM rfl (aU rfl (dS rfl rfl) (aNn ?_))))))))))))))
  refine ah _ rfl (fun h2 => ?_) (fun h2 => ?_)
  ·skip
   refine aSR (aM rfl (aA rfl (aNn (aj (bH (aN (aN (bH (aN (FZ1 [] Tryz.results151 rfl ?_))))))))))
   have hc0:c≠0:=by simpa using h2
   rcases hc with ⟨rfl,rfl⟩ | ⟨rfl,rfl⟩
   · rw [if_pos hc0]
   · rw [if_neg (by have:=ha (by omega);omega)]
  ·skip
   refine ai (bo (an (ae (aU rfl (aO rfl rfl (by omega)) (aM rfl (aNn ?_))))))
   refine ⟨[0,3,6,7,8],[0],[],rfl,?_⟩
   have hc0:c=0:=by simpa using h2
   rcases hc with ⟨rfl,rfl⟩ | ⟨rfl,rfl⟩
   · exact ⟨1,⟨⟨by omega,fun _=>hc0,fun h=>by omega⟩,rfl⟩,by omega⟩
   · exact ⟨2,⟨⟨by omega,fun _=>ha (by omega),fun _=>hc0⟩,rfl⟩,by omega⟩
 ·skip
  refine aS (aV (aV (ba (an (aSR (aM rfl (aA rfl (aNn (aj (FZ1 [] Tryz.results151 rfl ?_))))))))))
  have hk2:k=2:=by simp at h1;omega
  subst hk2
  rw [if_neg (by have:=ha (by omega);omega),hb (by omega)]
end Go.Proofs.YtfkcmbonmpcbfaaGreat

namespace Go.Sy
open Go.RowKit
theorem acJ{P:Program}{n:Fr}{s:Sta}{d:Option Tmp}{ty:TypeId}{pos:String}{af:Array Edge}{gd:Option (Nat × Bool)}{x:Operand}{T t' E:TypeId}{ad:Option Addr}{k c:Nat}(hT:P.underlying T=some (.slice E))(hx:ev s.env x=some (true,.slice ad k c)):Quiet P n ⟨d,.binOp .neq T x (.const (.slice none 0 0)) t',ty,pos,af,gd⟩ s (.bool (!ad.isNone)) :=
 .run2 (vy:=.slice none 0 0) hx rfl fun ρ w h1 h2=>by
   unfold execOp;dsimp only;rw [h1,h2]
   simp only [eqGuard_at_slice,binOp,Sem.run_bind,Sem.run_pure,run_equal_slice_nil w T E ad k c hT,Result.andThen_ok]
end Go.Sy
namespace Go.Proofs.YtfkcmbonmpcbfaaGreat
open Go.RowKit Go.Lp Go.Sy Go.Lv
open Go.Proofs.Tryz
attribute [local irreducible] aL aB awp aC fwp Quiet
abbrev yC:Int→List D:=fun z=>[.v (encI z)]
theorem qT(a b:Sl Int):Con Tryz.prog 242 [a.val,b.val] [ShF yC a,ShF yC b] [] (YN (fun z:Int=>.int .i64 z) fun _=>True):=by
 refine EN2 Tryz.func242 rfl (cA (.of (aF 0 rfl)) (fun hlen=>(aSR (aA rfl (aNs (aSR (aM rfl (aU rfl (aY Tryz.underlying26 rfl) (aM rfl (aNn (ao (aR [0,1,9,10,11] [1,0] [] (fun (k:Nat) st=>k≤a.l.length∧st=⟨[(0,true,a.val),(1,true,b.val),(9,true,a.val),(10,true,.int .i64 a.l.length),(11,true,.int .i64 k)],[ShF yC a,ShF yC b],[]⟩) (fun k=>a.l.length-k) rfl (⟨0,Nat.zero_le _,rfl⟩) ?_))))))))))))
 rintro k st ⟨hk,rfl⟩
 refine aSR (aU rfl (bg rfl rfl) (aNs ?_))
 refine ah _ rfl (fun h1 => ?_) (fun h1 => ?_)
 ·skip
  have hk':k<a.l.length:=by simpa using h1
  obtain ⟨x,hx⟩:∃ x,a.l[k]? = some x:=⟨_,List.getElem?_eq_getElem hk'⟩
  refine ai (an (aq (ao (aSR (aM rfl (UI Tryz.underlying26 tk3 0 rfl rfl rfl rfl rfl (aJ hx) rfl rfl (fun ⟨b3_1,o3_1⟩ => ?_)))))))
  refine US 0 tk3 0 rfl rfl rfl rfl rfl (aA rfl (aA rfl (aNs (aSR (aM rfl (aM rfl (aU rfl (aY Tryz.underlying26 rfl) (aU rfl (dR rfl rfl) (aNn ?_)))))))))
  refine ah _ rfl (fun h2 => ?_) (fun h2 => ?_)
  ·skip
   refine aSR (aA rfl (aNn (aj (aN (bH (aN (aN (bH (aN (FZ1 [] Tryz.results242 rfl ?_))))))))))
   exact ⟨⟨rfl,rfl⟩,_,rfl,trivial⟩
  ·skip
   have hb2:k<b.l.length:=by simp at h2;omega
   obtain ⟨y,hy⟩:∃ y,b.l[k]? = some y:=⟨_,List.getElem?_eq_getElem hb2⟩
   refine ai (an (aSR (aM rfl (aM rfl (UI Tryz.underlying26 tk3 2 rfl rfl rfl rfl rfl (aJ hy) rfl rfl (fun ⟨b6_2,o6_2⟩=>(US 0 tk3 0 rfl rfl rfl rfl rfl (aA rfl (aNn (aSR (aM rfl (aM rfl (aU rfl (Q0 rfl (ku _ _)) ?_)))))))))))))
   refine aA rfl (aNn (aSR (aM rfl (aU rfl (dS rfl rfl) (aNn ?_)))))
   refine ah _ rfl (fun h3 => ?_) (fun h3 => ?_)
   ·skip
    refine aSR (aM rfl (aA rfl (aNn (aj (bH (aN (aN (bH (aN (FZ1 [] Tryz.results242 rfl ?_))))))))))
    exact ⟨⟨rfl,rfl⟩,_,rfl,trivial⟩
   ·skip
    refine ai (bo (an (ae (aU rfl (aO rfl rfl (by omega)) (aM rfl (aNn ?_))))))
    refine ⟨[0,1,9,10,11],[1,0],[],rfl,?_⟩
    exact ⟨k+1,⟨hk',rfl⟩,by omega⟩
 ·skip
  refine aS (aV (aV (ba (an (aq (aSR (aM rfl (aU rfl (aY Tryz.underlying26 rfl) (aM rfl (aU rfl (aY Tryz.underlying26 rfl) (aU rfl (bg rfl rfl) (aNn ?_))))))))))))
  refine ah _ rfl (fun h4 => ?_) (fun h4 => ?_)
  ·skip
   refine aSR (aA rfl (aNn (aj (aN (FZ1 [] Tryz.results242 rfl ?_)))))
   exact ⟨⟨rfl,rfl⟩,_,rfl,trivial⟩
  ·skip
   refine ai (an (aSR (aA rfl (aNn (aj (FZ1 [] Tryz.results242 rfl ?_))))))
   exact ⟨⟨rfl,rfl⟩,_,rfl,trivial⟩
theorem yf{N:Nat}{l:List ct}(hr:∀ a∈l,gz N a){ps:List (List Int)}(hP:PX N (cC N l) ps)(h1:∀ p∈ps,p.length≤1)(h2:∀ a∈l,a.from_≠a.to_)(v:Int)(v0:0≤v)(v1:v<N):¬ OnC (cC N l) v:=fun ⟨w,hw,hc⟩=>by
 by_cases e:w=v
 · subst e
   obtain ⟨a,ha,e1,e2⟩:=(ia hr ⟨v0,v1⟩).1 hw
   exact h2 a ha (e1.trans e2.symm)
 · have hwr:=mh hr v w hw
   obtain ⟨p,hp,a,b⟩:=hP.cy v w v0 v1 hwr.1 hwr.2 (Rc.one hw) hc
   have:=h1 p hp
   match p,this with
   | [],_=>cases a
   | [x],_=>exact e ((List.mem_singleton.1 b).trans (List.mem_singleton.1 a).symm)
   | _::_::_,h=>simp at h
theorem aaf{N:Nat}{nx:List (List Int)}{ps:List (List Int)}(hP:PX N nx ps){p:List Int}(hp:p∈ps)(hnd:p.Nodup)(hl:1<p.length){x:Int}(hx:p[0]? = some x):OnC nx x:=by
 match p,hl with
 | a::b::p,_ =>
   obtain rfl:a=x:=by simpa using hx
   have hne:a≠b:=fun e=>(List.nodup_cons.1 hnd).1 (by rw [e];exact List.mem_cons_self)
   exact OnC.of_two (hP.sc _ hp a List.mem_cons_self b (by simp)) (hP.sc _ hp b (by simp) a List.mem_cons_self) hne
theorem acO{N:Nat}{l:List ct}(hr:∀ a∈l,gz N a){y:Int}(hy:0≤y∧y<N){u v:Int}(h:Rc (cC N l) u v):Rch N (cC N l) (cE [y]) u→Rch N (cC N l) (cE [y]) v:=by
 induction h with
 | refl=>exact id
 | step h _ ih=>exact fun k=>ih (.arc k h)
theorem aae{N:Nat}{l:List ct}(hr:∀ a∈l,gz N a){y:Int}(hy:0≤y∧y<N)(h:OnC (cC N l) y):∃ a∈l,a.to_=y∧0≤elt (lE N l [y]) a.from_:=by
 obtain ⟨z,h1,h2⟩:=h.back
 have hz:=acO hr hy h1 (.root (qi.2 List.mem_cons_self) hy.1 hy.2)
 have hzr:=acP (mh hr) hz
 obtain ⟨a,ha,e1,e2⟩:=(ia hr hzr).1 h2
 exact ⟨a,ha,e2,by rw [e1];exact (pA (jk _) (mh hr) hzr.1 hzr.2).2 hz⟩
theorem zF (N:Nat) (hN:N≤10000) (l:Sl ct) (hl:l.l.length≤100000000) (hr:∀ a∈l.l,gz N a) :
   Con Tryz.prog 255 [.int .i64 N,l.val] [ShF ct.row l] [] fun r ps hp=>(ps=[]∧hp=[])∧∃ ad k c,r=.slice ad k c∧(k=0↔∀ v:Int,0≤v→v<N→¬ OnC (cC N l.l) v):=by
 have hT:=vg hr
 refine EN2 Tryz.func255 rfl (aSR (aA rfl (aNn (aSR (aM rfl (aA rfl (aNs (aSR (aM rfl (aM rfl (LT rfl (EC [0] [] rfl (xK N (by omega) l hl hr) ?_))))))))))))
 rintro _ _ _ ⟨rfl,P,rfl,hok,hPX,rfl⟩
 refine aST ?_
 refine aU rfl (aY Tryz.underlying381 rfl) (aM rfl (aNn (ao (cA (.of (aF 0 rfl)) (fun hPl => ?_)))))
 refine aR [0,1,5,18,19,20] [2,1,0] [] (fun (q:Nat × Int) st=>(q.1≤P.l.length∧0≤q.2∧q.2≤N∧((q.2=N∨OnC (cC N l.l) q.2)∧(q.2=N→∀ p∈P.l.take q.1,p.l.length≤1)))∧st=⟨[(0,true,.int .i64 N),(1,true,l.val),(5,true,.int .i64 q.2),(18,true,P.val),(19,true,.int .i64 P.l.length),(20,true,.int .i64 q.1)],[ShF slR P,b6 (ShF bZ) P.l,ShF ct.row l],[]⟩) (fun q=>P.l.length-q.1) rfl (⟨(0,(N:Int)),⟨Nat.zero_le _,by dsimp only;omega,by dsimp only;omega,.inl rfl,fun _ p hp=>(by cases hp)⟩,rfl⟩) ?_
 rintro ⟨k,z⟩ st ⟨⟨hk,hz0,hzN,hz1⟩,rfl⟩
 dsimp only at hk hz0 hzN hz1 ⊢
 refine aSR (aU rfl (bg rfl rfl) (aNs ?_))
 refine ah _ rfl (fun h1 => ?_) (fun h1 => ?_)
 ·skip
  have hk':k<P.l.length:=by simpa using h1
  obtain ⟨p,hp⟩:∃ p,P.l[k]? = some p:=⟨_,List.getElem?_eq_getElem hk'⟩
  have hpk:=hok p (List.mem_of_getElem? hp)
  obtain ⟨x0,hx0⟩:∃ x0,p.l[0]? = some x0:=⟨_,List.getElem?_eq_getElem (List.length_pos_iff.2 hpk.ne)⟩
  have hx0r:=hpk.rg x0 (List.mem_of_getElem? hx0)
  have hpsh:=hpk.sh
  have hPm:p.l∈P.l.map (·.l):=List.mem_map_of_mem (List.mem_of_getElem? hp)
  have htk:P.l.take (k+1)=P.l.take k++[p]:=by rw [List.take_add_one,hp];rfl
  refine ai (an (aq (ao (aSR (UI Tryz.underlying381 tk26 0 rfl rfl rfl rfl rfl (aJ hp) rfl rfl (fun ⟨b4_0,o4_0⟩=>(US 0 tk26 0 rfl rfl rfl rfl rfl (aA rfl (aNn (aSR (aM rfl (aU rfl (aY Tryz.underlying26 rfl) (aU rfl (dy rfl rfl) (aNn ?_))))))))))))))
  refine ah _ rfl (fun h2 => ?_) (fun h2 => ?_)
  ·skip
   have hlong:1<p.l.length:=by simp at h2;omega
   refine ae (aM rfl (aM rfl (fZ true rfl rfl (fun _=>aX Tryz.underlying26 tk3 rfl ((Ent.all (f:=ShF bZ) (.of (aF 2 rfl)) hp)) rfl (aJ hx0) rfl rfl) (fun h=>absurd h (by decide)) (fun ⟨b6_2,o6_2⟩=>(US 0 tk3 0 rfl rfl rfl rfl rfl (aU rfl (oB rfl rfl) (aA rfl (bK (bo (an (ae (aU rfl (aO rfl rfl (by omega)) (aM rfl (aNn ?_))))))))))))))
   refine ⟨[0,1,5,18,19,20],[2,1,0],[],rfl,?_⟩
   have hcx:=aaf hPX hPm hpk.nd hlong hx0
   have hcm:OnC (cC N l.l) (min z x0):=by
     rcases hz1.1 with h | h
     · rw [show min z x0=x0 by omega];exact hcx
     · rcases Int.le_total z x0 with h2 | h2
       · rw [Int.min_eq_left h2];exact h
       · rw [Int.min_eq_right h2];exact hcx
   exact ⟨(k+1,min z x0),⟨⟨by dsimp only;omega,by dsimp only;omega,by dsimp only;omega,.inr hcm,fun h=>by dsimp only at h;omega⟩,rfl⟩,by dsimp only;omega⟩
  ·skip
   refine ai (bo (an (ae (aU rfl (aO rfl rfl (by omega)) (aM rfl (aNn ?_))))))
   refine ⟨[0,1,5,18,19,20],[2,1,0],[],rfl,?_⟩
   have hshort:p.l.length≤1:=by simp at h2;omega
   exact ⟨(k+1,z),⟨⟨by dsimp only;omega,hz0,hzN,hz1.1,fun h q hq=>(by
     dsimp only at hq
     rw [htk,List.mem_append,List.mem_singleton] at hq
     exact hq.elim (hz1.2 h q) fun e=>e ▸ hshort)⟩,rfl⟩,by dsimp only;omega⟩
 ·skip
  refine aS (aV (aV (ba (an (aq (aSR (aM rfl (aU rfl ((bg rfl rfl).castV (v':=.bool false) (congrArg Value.bool (decide_eq_false (by omega)))) (aM rfl (aM rfl (aM rfl (aU rfl (Q1 rfl (pR N l) 2 rfl) (aU rfl (bY rfl) (aU rfl (cm rfl rfl (fun _=>rfl)) (aNn ?_)))))))))))))))
  refine ah _ rfl (fun h3 => ?_) (fun h3 => ?_)
  ·skip
   exact absurd h3 (by rw [tI (by omega) hr];simp)
  ·skip
   refine ai (an (aq (aSR (aM rfl (aU rfl (aY Tryz.underlying354 rfl) (aM rfl (aNn (ao (cA (.of (aF 2 rfl)) (fun hll => ?_))))))))))
   refine aR [0,1,5,41,42,43] [2,1,0] [] (fun (q:Nat × Int) st=>(q.1≤l.l.length∧0≤q.2∧q.2≤N∧((q.2=N∨OnC (cC N l.l) q.2)∧(q.2=N→(∀ p∈P.l.map (·.l),p.length≤1)∧∀ a∈l.l.take q.1,a.from_≠a.to_)))∧st=⟨[(0,true,.int .i64 N),(1,true,l.val),(5,true,.int .i64 q.2),(41,true,l.val),(42,true,.int .i64 l.l.length),(43,true,.int .i64 q.1)],[ShF slR P,b6 (ShF bZ) P.l,ShF ct.row l],[]⟩) (fun q=>l.l.length-q.1) rfl (⟨(0,z),⟨Nat.zero_le _,hz0,hzN,hz1.1,fun h=>⟨fun p hp=>(by
     obtain ⟨q,hq,rfl⟩:=List.mem_map.1 hp
     exact hz1.2 h q (by rw [List.take_of_length_le (by simp at h1;omega)];exact hq)),fun a ha=>(by cases ha)⟩⟩,rfl⟩) ?_
   rintro ⟨j,y⟩ st ⟨⟨hj,hy0,hyN,hy1⟩,rfl⟩
   dsimp only at hj hy0 hyN hy1 ⊢
   refine aSR (aU rfl (bg rfl rfl) (aNs ?_))
   refine ah _ rfl (fun h4 => ?_) (fun h4 => ?_)
   ·skip
    have hj':j<l.l.length:=by simpa using h4
    obtain ⟨a,ha⟩:∃ a,l.l[j]? = some a:=⟨_,List.getElem?_eq_getElem hj'⟩
    have har:=hr a (List.mem_of_getElem? ha)
    have hfr:=har.1
    have htk:l.l.take (j+1)=l.l.take j++[a]:=by rw [List.take_add_one,ha];rfl
    have ham:=List.mem_of_getElem? ha
    refine ai (an (aq (ao (aSR (UI Tryz.underlying354 tk356 2 rfl rfl rfl rfl rfl (aJ ha) rfl rfl (fun ⟨b12_0,o12_0⟩=>(US 0 tk356 0 rfl rfl rfl rfl rfl (LT rfl (bt (zs:=[.int .i64 0,.int .i64 0]) (by kernel_rfl) rfl (fun b12_2=>(aHN ?_)))))))))))
    refine aI rfl (aW 0 tk356 rfl rfl rfl rfl (aHK ?_))
    refine aNn (aSR (UO 0 rfl rfl (UL 0 tk3 rfl rfl rfl rfl (UO 1 rfl rfl (UL 0 tk3 rfl rfl rfl rfl (aU rfl (bw rfl rfl) (aNn ?_)))))))
    refine ah _ rfl (fun h5 => ?_) (fun h5 => ?_)
    ·skip
     refine ae (aM rfl (UO 0 rfl rfl (UL 0 tk3 rfl rfl rfl rfl (aU rfl (oB rfl rfl) (aA rfl (bK (bo (an (ae (aU rfl (aO rfl rfl (by omega)) (aM rfl (aNn ?_))))))))))))
     refine ⟨[0,1,5,41,42,43],[2,1,0],[],rfl,?_⟩
     have hself:a.from_=a.to_:=by simpa using h5
     have hcx:OnC (cC N l.l) a.from_:=⟨a.from_,(ia hr har.1).2 ⟨a,ham,rfl,hself.symm⟩,.refl _⟩
     have hcm:OnC (cC N l.l) (min y a.from_):=by
       rcases hy1.1 with h | h
       · rw [show min y a.from_=a.from_ by omega];exact hcx
       · rcases Int.le_total y a.from_ with h2 | h2
         · rw [Int.min_eq_left h2];exact h
         · rw [Int.min_eq_right h2];exact hcx
     exact ⟨(j+1,min y a.from_),⟨⟨by dsimp only;omega,by dsimp only;omega,by dsimp only;omega,.inr hcm,fun h=>by dsimp only at h;omega⟩,rfl⟩,by dsimp only;omega⟩
    ·skip
     refine ai (bo (an (ae (aU rfl (aO rfl rfl (by omega)) (aM rfl (aNn ?_))))))
     refine ⟨[0,1,5,41,42,43],[2,1,0],[],rfl,?_⟩
     have hself:a.from_≠a.to_:=by simpa using h5
     exact ⟨(j+1,y),⟨⟨by dsimp only;omega,hy0,hyN,hy1.1,fun h=>⟨(hy1.2 h).1,fun q hq=>(by
       dsimp only at hq
       rw [htk,List.mem_append,List.mem_singleton] at hq
       exact hq.elim ((hy1.2 h).2 q) fun e=>e ▸ hself)⟩⟩,rfl⟩,by dsimp only;omega⟩
   ·skip
    refine aS (aV (aV (ba (an (aq (aSR (aM rfl (aM rfl (aU rfl (bw rfl rfl) (aNn ?_))))))))))
    refine ah _ rfl (fun h6 => ?_) (fun h6 => ?_)
    ·skip
     refine aSR (aA rfl (aNn (aj (aN (FZ1 [] Tryz.results255 rfl ?_)))))
     have hyN2:y=N:=by simpa using h6
     have hy2:=hy1.2 hyN2
     rw [List.take_of_length_le (by simp at h4;omega)] at hy2
     exact ⟨⟨rfl,rfl⟩,none,0,0,rfl,fun _=>yf hr hPX hy2.1 hy2.2,fun _=>rfl⟩
    ·skip
     have hyne:y≠N:=by simpa using h6
     obtain ⟨b,hb⟩:∃ b,lE N l.l [y]=b:=⟨_,rfl⟩
     have hbl:b.length=N:=by rw [← hb];exact vR (mh hr)
     have hTy:=hT [y]
     have hrk:∀ v,aaD (oc N l.l [y]) v≤100000:=fun v=>by
       have h1:=abA (oc N l.l [y]) v
       have h2:(oc N l.l [y]).length≤_:=ue (rs:=cE [y]) (mh hr)
       have h3:=tZ [y]
       simp at h3
       omega
     obtain ⟨ρ,hρ⟩:∃ ρ,aaD (oc N l.l [y])=ρ:=⟨_,rfl⟩
     rw [hρ,hb] at hTy
     rw [hρ] at hrk
     refine ai (an (aSR (aM rfl (aM rfl (aM rfl (LT rfl (WL (zs:=[.int .i64 0]) el26 rfl rfl rfl (.more rfl (.v rfl .nil) .nil) rfl rfl (fun v18_3=>(aHN ?_)))))))))
     refine kh 0 rfl ?_
     refine LT rfl (EC [0,3] [] rfl (sF N (by omega) l hl hr ⟨v18_3,1,[y]⟩ (by show 1≤_;decide) hb) ?_)
     rintro vb _ _ ⟨rfl,rfl⟩
     refine aST ?_
     refine aA rfl (aNn (aSR (aA rfl (aNs (aq (eV 1 rfl (fun w S F hh=>eM hh) (fun hov => ?_)))))))
     obtain ⟨bad,bcp,rfl⟩:=hov
     rw [cI]
     refine ez 1 rfl (bF (ShF yC (⟨none,0,[]⟩:Sl Int)) (fun w S _=>ea.e none 0 (Nat.zero_le _)) (ae (aM rfl (aU rfl (aY Tryz.underlying354 rfl) (aM rfl (aNn (ao ?_)))))))
     refine aR [5,10,11,65,66,67] [5,4,0] [] (fun (q:Nat × Sl Int) st=>(q.1≤l.l.length∧(q.2.l=[]→q.2.ad=none∧∀ a∈l.l.take q.1,a.to_=y→¬ 0≤elt b a.from_))∧st=⟨[(5,true,.int .i64 y),(10,true,.slice bad b.length bcp),(11,true,q.2.val),(65,true,l.val),(66,true,.int .i64 l.l.length),(67,true,.int .i64 q.1)],[ShF yC q.2,Sh (.slice bad b.length bcp) (.sl (bI encI b)),ShF ct.row l],[]⟩) (fun q=>l.l.length-q.1) rfl (⟨(0,⟨none,0,[]⟩),⟨Nat.zero_le _,fun _=>⟨rfl,fun a h=>(by cases h)⟩⟩,rfl⟩) ?_
     rintro ⟨m,bst⟩ st ⟨⟨hm,hbs⟩,rfl⟩
     dsimp only at hm hbs ⊢
     refine aSR (aU rfl (bg rfl rfl) (aNs ?_))
     refine ah _ rfl (fun h7 => ?_) (fun h7 => ?_)
     ·skip
      have hm':m<l.l.length:=by simpa using h7
      obtain ⟨a,ha⟩:∃ a,l.l[m]? = some a:=⟨_,List.getElem?_eq_getElem hm'⟩
      have har:=hr a (List.mem_of_getElem? ha)
      have hfr:=har.1
      have htk:l.l.take (m+1)=l.l.take m++[a]:=by rw [List.take_add_one,ha];rfl
      refine ai (an (aq (ao (aSR (UI Tryz.underlying354 tk356 2 rfl rfl rfl rfl rfl (aJ ha) rfl rfl (fun ⟨b22_0,o22_0⟩=>(US 0 tk356 0 rfl rfl rfl rfl rfl (LT rfl (bt (zs:=[.int .i64 0,.int .i64 0]) (by kernel_rfl) rfl (fun b22_2=>(aHN ?_)))))))))))
      refine aI rfl (aW 0 tk356 rfl rfl rfl rfl (aHK ?_))
      refine aNs (aSR (UO 1 rfl rfl (UL 0 tk3 rfl rfl rfl rfl (aM rfl (aU rfl (dS rfl rfl) (aNn ?_))))))
      refine ah _ rfl (fun h8 => ?_) (fun h8 => ?_)
      ·skip
       refine aS (aV (ba (an (ae (aU rfl (aO rfl rfl (by omega)) (aM rfl (aNn ?_)))))))
       refine ⟨[5,10,11,65,66,67],[2,1,0],[],rfl,?_⟩
       exact ⟨(m+1,bst),⟨⟨hm',fun h=>⟨(hbs h).1,fun q hq hqy=>(by
         dsimp only at hq
         rw [htk,List.mem_append,List.mem_singleton] at hq
         exact hq.elim (fun hq=>(hbs h).2 q hq hqy) fun e=>absurd (e ▸ hqy) (by simpa using h8))⟩⟩,rfl⟩,by dsimp only;omega⟩
      ·skip
       refine ai (an (aSR (aM rfl (UO 0 rfl rfl (UL 0 tk3 rfl rfl rfl rfl ?_)))))
       refine LT rfl (EC [1] [] rfl (uS ⟨bad,bcp,b⟩ ρ hTy a.from_ (by dsimp only;omega) (hrk _)) ?_)
       rintro _ _ _ ⟨rfl,ad,cd,htn,rfl,rfl⟩
       refine aST ?_
       refine aA rfl (aNn (aSR (aM rfl (aU rfl (acJ Tryz.underlying26 rfl) (aM rfl (aG rfl rfl (fun hc=>az rfl) (aG rfl rfl (fun hc=>vM Tryz.underlying26 (aa rfl hc)) (aG rfl rfl (fun hc=>az (aa rfl hc)) (aG rfl rfl (fun hc=>az rfl) (aG rfl rfl (fun hc=>aY Tryz.underlying26 (aa rfl hc)) (aG rfl rfl (fun hc=>az rfl) (aG rfl rfl (fun hc=>aY Tryz.underlying26 (aa rfl hc)) (aG rfl rfl (fun hc=>bg (aa rfl hc) (aa rfl hc)) ?_)))))))))))))
       refine aG rfl rfl (fun hc=>cm (aa rfl hc) rfl (fun h=>gf hc h)) (aG rfl rfl (fun hc=>az (aa rfl hc)) (aG rfl rfl (fun hc=>az rfl) (aG rfl rfl (fun hc=>aY Tryz.underlying26 (aa rfl hc)) (aG rfl rfl (fun hc=>az rfl) (aG rfl rfl (fun hc=>aY Tryz.underlying26 (aa rfl hc)) (aG rfl rfl (fun hc=>bw (aa rfl hc) (aa rfl hc)) (aG rfl rfl (fun hc=>az (aa rfl hc)) (aG rfl rfl (fun hc=>az rfl) (aG rfl rfl (fun hc=>az rfl) ?_)))))))))
       refine ga (caps:=[]) [4,2] ((0:Int)) (by kernel_rfl) _ rfl rfl (fun _=>rfl) (fun hc=>(ax (aa rfl hc) (ax (aa rfl hc) rfl))) (fun hc=>by rw [List.append_nil];exact qT ⟨ad,cd,fP b ρ a.from_⟩ bst) (fun cz hcz => ?_)
       refine aG rfl rfl (fun hc=>bg (aa rfl hc) rfl) (aG rfl rfl (fun hc=>aQ (aa rfl hc) rfl (fun h=>gt hc h)) (aG rfl rfl (fun hc=>cm (aa rfl hc) rfl (fun h=>gf hc h)) (aU rfl (aQ rfl rfl (fun h=>gt rfl h)) (aNn ?_))))
       refine ah _ rfl (fun h9 => ?_) (fun h9 => ?_)
       ·skip
        refine ae (aM rfl (aA rfl (bK (bo (an (ae (aU rfl (aO rfl rfl (by omega)) (aM rfl (aNn ?_)))))))))
        refine ⟨[5,10,11,65,66,67],[4,1,0],[],rfl,?_⟩
        have hway:fP b ρ a.from_≠[]:=fun h=>by
          rw [htn.2 h] at h9
          simp at h9
        exact ⟨(m+1,⟨ad,cd,fP b ρ a.from_⟩),⟨⟨hm',fun h=>absurd h hway⟩,rfl⟩,by dsimp only;omega⟩
       ·skip
        refine ai (bo (an (ae (aU rfl (aO rfl rfl (by omega)) (aM rfl (aNn ?_))))))
        refine ⟨[5,10,11,65,66,67],[2,1,0],[],rfl,?_⟩
        exact ⟨(m+1,bst),⟨⟨hm',fun h=>⟨(hbs h).1,fun q hq hqy=>(by
          dsimp only at hq
          rw [htk,List.mem_append,List.mem_singleton] at hq
          refine hq.elim (fun hq=>(hbs h).2 q hq hqy) fun e => ?_
          subst e
          intro hge
          have hne:fP b ρ q.from_≠[]:=fun h0=>by
            unfold fP at h0
            rw [if_neg (by omega),List.reverse_eq_nil_iff,iu] at h0
            cases h0
          have hadn:ad≠none:=fun h0=>hne (htn.1 h0)
          cases had:ad with
          | none=>exact hadn had
          | some z=>rw [had,(hbs h).1] at h9;simp at h9)⟩⟩,rfl⟩,by dsimp only;omega⟩
     ·skip
      refine aS (aV (aV (ba (an (aSR (aM rfl (aA rfl (aNn (aj (FZ1 [] Tryz.results255 rfl ?_))))))))))
      have hcy:OnC (cC N l.l) y:=hy1.1.resolve_left hyne
      obtain ⟨a,ha,e1,e2⟩:=aae hr ⟨hy0,by omega⟩ hcy
      rw [hb] at e2
      have hbn:bst.l≠[]:=fun h=>(hbs h).2 a (by rw [List.take_of_length_le (by simp at h7;omega)];exact ha) e1 e2
      exact ⟨⟨rfl,rfl⟩,_,_,_,rfl,fun h=>absurd (List.length_eq_zero_iff.1 h) hbn,fun h=>absurd hcy (h y hy0 (by omega))⟩
end Go.Proofs.YtfkcmbonmpcbfaaGreat

namespace Go.Sy
open Go.RowKit Go.Lp
def byR(l:List UInt8):List (List D):=l.map fun u=>[.v (.int .u8 u.toNat)]
theorem abb(l:List UInt8):(byR l).length=l.length:=by simp [byR]
section
variable {P:Program} {n:Fr} {env:Env} {ps:List Per} {hp:List Res} {ty:TypeId} {pos:String} {af:Array Edge} {gd:Option (Nat × Bool)} {K:Sta→Prop} {q:Bool}
theorem va {t:Nat} {S T E:TypeId} {u:TypeDesc} {x:Operand} {b:ByteArray} (hS:P.underlying S=some u) (hT:P.underlying T=some (.slice E)) (hE:P.underlying E=some (.int .u8)) (hx:ev env x=some (true,.string b)) (hb:b.size≤maxLen) (ht:fits n (some t)=true)
   (hK:∀ ad c,K ⟨(t,true,.slice ad b.size c)::env,Sh (.slice ad b.size c) (.sl (byR b.data.toList))::ps,hp⟩):Eff P n ⟨some t,.convert S T x,ty,pos,af,gd⟩ ⟨env,ps,hp⟩ q K:=fun w S' fp a hst he hn=>by
 have e1:=he.val hx rfl
 have hrun:=Lib.run_convert_string_bytes (P:=P) w S T E b hS hT hE
 have hexec:(execOp a.eval ⟨some t,.convert S T x,ty,pos,af,gd⟩).run P w=.ok (.value (.slice (some ⟨w.heap.size,0,none⟩) b.size (grownCap w b.size 0 E))) (Lib.bytesWorld w E b):=by
   unfold execOp;dsimp only;rw [e1]
   show ((convert S T (.string b)).bind fun r=>Sem.pure (Next.value r)).run P w=_
   rw [Sem.run_bind',hrun];rfl
 rw [hexec]
 have hsz:=Lib.bytesWorld_size w E b
 have hbel:Below w.heap.size w (Lib.bytesWorld w E b):=⟨by unfold Lib.bytesWorld World.freeze;split<;>rfl,by unfold Lib.bytesWorld World.freeze;split<;>rfl,by unfold Lib.bytesWorld World.freeze;split<;>rfl,by omega,lM _ _ _ _ hrun,fun k hk=>Lib.bytesWorld_at_old w E b k hk⟩
 have hst1:=hst.below hbel
 have hS2:∀ k,S' k→(S' k∨k=w.heap.size):=fun _ h=>.inl h
 refine ⟨_,(fun k=>S' k∨k=w.heap.size),fp,hK (some ⟨w.heap.size,0,none⟩) (grownCap w b.size 0 E),⟨fun p hp' => ?_,fun j R hj=>R.mono (hst1.res j R hj) (fun _ _=>rfl) (fun _ _=>rfl) hS2,fun j hj k hk=>⟨(hst1.lt j hj k hk).1,fun h=>h.elim (hst1.lt j hj k hk).2 fun e => ?_⟩,hst1.dj,fun k hk=>hk.elim (hst1.slt k) fun e=>by rw [e,hsz];omega⟩,he.put (g:=true) (by rw [hn];simpa [fits] using ht) _,
   ⟨hbel.os,hbel.tape,hbel.output,hbel.size,hbel.drawn,fun k hk _=>hbel.block k hk,fun _ h=>.inl h,fun k hk=>hk.elim .inl fun e=>.inr (.inr (by omega))⟩,fun k hk=>.inl hk,fun _=>hbel⟩
 · rcases List.mem_cons.1 hp' with rfl | h2
   · have hcap:b.size≤grownCap w b.size 0 E:=grownCap_ge w b.size 0 E
     have hlen:(byR b.data.toList).length=b.size:=by rw [abb];simp
     have:=ea.sl (w:=Lib.bytesWorld w E b) (S:=fun k=>S' k∨k=w.heap.size) w.heap.size 0 (grownCap w b.size 0 E) 1 (byR b.data.toList) (fun i _=>.int .u8 (b.data.toList.getD i 0).toNat) (.inr rfl) (by rw [hlen];exact hcap) (grownCap_le_maxLen w b.size 0 E hb)
       (fun i r hi=>by simp only [byR,List.getElem?_map,Option.map_eq_some_iff] at hi;obtain ⟨x,_,rfl⟩:=hi;rfl)
       (fun i j r d h1 h2=>by
         simp only [byR,List.getElem?_map,Option.map_eq_some_iff] at h1
         obtain ⟨x,hx',rfl⟩:=h1
         have hi:i<b.size:=by have:=(List.getElem?_eq_some_iff.1 hx').1;simpa using this
         cases j with
         | succ j=>simp at h2
         | zero=>refine ⟨?_,rfl⟩;rw [show 0+i*1+0=i by omega];exact Lib.bytesWorld_cell w E b i hi)
       (fun i j r d h1 h2=>by
         simp only [byR,List.getElem?_map,Option.map_eq_some_iff] at h1
         obtain ⟨x,hx',rfl⟩:=h1
         cases j with
         | succ j=>simp at h2
         | zero =>
           simp only [List.getElem?_cons_zero,Option.some.injEq] at h2
           subst h2
           have:b.data.toList.getD i 0=x:=by rw [List.getD,hx'];rfl
           rw [this];exact .v _)
     rwa [hlen] at this
   · exact p.mono (hst1.per p h2) (fun _ _=>rfl) hS2
 · have:=(hst.lt j hj k hk).1
   omega
end
theorem aba{l:List UInt8}{k:Nat}{u:UInt8}(h:l[k]? = some u):(byR l)[k]? = some [.v (.int .u8 u.toNat)]:=by unfold byR;rw [List.getElem?_map,h];rfl
end Go.Sy

namespace Go.Proofs.YtfkcmbonmpcbfaaGreat
open Go.RowKit Go.Lp Go.Sy Go.Lv
open Go.Proofs.Tryz
attribute [local irreducible] aL aB awp aC fwp Quiet
theorem kyT:ef Tryz.prog 9 gH:=acz Tryz.underlying9
theorem uT(l:Sl aH):Con Tryz.prog 253 [l.val] [ShF aH.row l] [] fun r ps hp=>ps=[]∧∃ b,r=.map (some b)∧hp=[cN b gH eI (iM l.l)]:=by
 refine EN1 Tryz.func253 rfl (cA (.of (aF 0 rfl)) (fun hlen=>(aSR (aA rfl (aNn (aSR (LT rfl (dO (gH) (eI) rfl (fun b1_0=>(aHN ?_))))))))))
 refine aA rfl (aNs (aSR (aM rfl (aU rfl (aY Tryz.underlying29 rfl) (aM rfl (aNn (ao (aR [3,9,10,11] [0] [0] (fun (k:Nat) s=>k≤l.l.length∧s=⟨[(3,true,.map (some b1_0)),(9,true,l.val),(10,true,.int .i64 l.l.length),(11,true,.int .i64 k)],[ShF aH.row l],[cN b1_0 gH eI (iM (l.l.take k))]⟩) (fun k=>l.l.length-k) rfl (⟨0,Nat.zero_le _,rfl⟩) ?_))))))))
 rintro k s ⟨hk,rfl⟩
 refine aSR (aU rfl (bg rfl rfl) (aNs ?_))
 refine ah _ rfl (fun h1 => ?_) (fun h1 => ?_)
 ·skip
  have hk':k<l.l.length:=by simpa using h1
  obtain ⟨a,ha⟩:∃ a,l.l[k]? = some a:=⟨l.l[k]'hk',by simp⟩
  have hlt:(l.l.take k).length=k:=by rw [List.length_take];omega
  refine ai (an (aq (ao (aSR (aM rfl (UI Tryz.underlying29 tk195 0 rfl rfl rfl rfl rfl (aJ ha) rfl rfl (fun ⟨b4_1,o4_1⟩=>(US 0 tk195 0 rfl rfl rfl rfl rfl (LT rfl (bt (zs:=[.string .empty,.slice none 0 0]) (by kernel_rfl) rfl (fun b4_3=>(aHN ?_))))))))))))
  refine aA rfl (aI rfl (aW 1 tk195 rfl rfl rfl rfl (aHK ?_)))
  refine aNn (aSR (aM rfl (UO 0 rfl rfl (UL 1 tk9 rfl rfl rfl rfl (aU rfl (jf (k:=a.name) (v0:=(0:Int)) 0 Tryz.underlying352 (kyT) (by kernel_rfl) rfl rfl rfl) (aM rfl (aU rfl (aK rfl rfl) (aU rfl (aK rfl rfl) (aA rfl (aA rfl (aNn (aSR (aM rfl (aU rfl (bY rfl) (aNn ?_)))))))))))))))
  refine ah _ rfl (fun h2 => ?_) (fun h2 => ?_)
  ·skip
   have hno:lS (l.l.take k) a.name=none:=by simpa using h2
   have hm:aZ (iM (l.l.take k)) a.name (k:Int)=iM (l.l.take (k+1)):=by
     funext s
     unfold iM aZ
     rw [List.take_add_one,ha,Option.toList_some,qx,hlt]
     by_cases hs:s=a.name
     · subst hs;rw [if_pos rfl,hno,if_pos rfl];rfl
     · rw [if_neg hs,if_neg (Ne.symm hs),Option.or_none]
   refine ae (aM rfl (UO 0 rfl rfl (UL 1 tk9 rfl rfl rfl rfl (aM rfl (aI rfl (cP (k:=a.name) (v:=(k:Int)) 0 Tryz.underlying352 (kyT) rfl rfl rfl rfl (aHK ?_)))))))
   refine bK (bo (an (ae (aU rfl (aO rfl rfl (by omega)) (aM rfl (aNn ?_))))))
   refine ⟨[3,9,10,11],[0],[0],rfl,?_⟩
   exact ⟨k+1,⟨by omega,by rw [← hm];rfl⟩,by omega⟩
  ·skip
   have hyes:(lS (l.l.take k) a.name).isSome=true:=by simpa using h2
   have hm:iM (l.l.take k)=iM (l.l.take (k+1)):=by
     funext s
     unfold iM
     rw [List.take_add_one,ha,Option.toList_some,qx]
     by_cases hs:a.name=s
     · subst hs
       obtain ⟨i,hi⟩:=Option.isSome_iff_exists.1 hyes
       rw [hi];rfl
     · rw [if_neg hs,Option.or_none]
   refine ai (bo (an (ae (aU rfl (aO rfl rfl (by omega)) (aM rfl (aNn ?_))))))
   refine ⟨[3,9,10,11],[0],[0],rfl,?_⟩
   exact ⟨k+1,⟨by omega,by rw [← hm];rfl⟩,by omega⟩
 ·skip
  refine aS (aV (aV (ba (an (aSR (aM rfl (aA rfl (aNn (aj (FZ1 [0] Tryz.results253 rfl ?_))))))))))
  exact ⟨rfl,b1_0,rfl,by rw [List.take_of_length_le (by simpa using h1)];rfl⟩
theorem xP(s:ByteArray)(hs:s.size≤maxLen):Con Tryz.prog 254 [.string s] [] [] fun r _ _=>r=.bool (dV s):=by
 have hs':s.size≤9223372036854775807:=hs
 have hlen:(bS s).length=s.size:=rfl
 refine EN1 Tryz.func254 rfl (aSR (aA rfl (aNs (aSR (aM rfl ?_)))))
 refine LT rfl (va Tryz.underlying9 Tryz.underlying89 Tryz.underlying5 rfl (by assumption) rfl (fun a1_1 c1_1 => ?_))
 refine aST ?_
 refine aU rfl (aY Tryz.underlying89 rfl) (aM rfl (aNn (ao ?_)))
 refine aR [0,6,7,8] [0] [] (fun (k:Nat) st=>(k≤s.size∧∀ u∈(bS s).take k,(decide (33≤u.toNat) && decide (u.toNat≤126))=true)∧st=⟨[(0,true,.string s),(6,true,.slice a1_1 s.size c1_1),(7,true,.int .i64 s.size),(8,true,.int .i64 k)],[Sh (.slice a1_1 s.size c1_1) (.sl (byR (bS s)))],[]⟩) (fun k=>s.size-k) rfl (⟨0,⟨Nat.zero_le _,fun u h=>by cases h⟩,rfl⟩) ?_
 rintro k st ⟨⟨hk,hpre⟩,rfl⟩
 refine aSR (aU rfl (bg rfl rfl) (aNs ?_))
 refine ah _ rfl (fun h1 => ?_) (fun h1 => ?_)
 ·skip
  have hk':k<s.size:=by simpa using h1
  obtain ⟨u,hu⟩:∃ u,(bS s)[k]? = some u:=⟨_,List.getElem?_eq_getElem (by omega)⟩
  refine ai (an (aq (ao (aSR (UI Tryz.underlying89 tk5 0 rfl rfl rfl rfl rfl (aba hu) rfl rfl (fun ⟨b3_0,o3_0⟩ => ?_))))))
  refine US 0 tk5 0 rfl rfl rfl rfl rfl (aA rfl (aNn (aSR (aM rfl (aU rfl (bg rfl rfl) (aM rfl (aG rfl rfl (fun hc=>az rfl) (aG rfl rfl (fun hc=>dy (aa rfl hc) rfl) (aU rfl (cm rfl rfl (fun h=>gf rfl h)) (aNn ?_))))))))))
  refine ah _ rfl (fun h2 => ?_) (fun h2 => ?_)
  ·skip
   refine aSR (aA rfl (aNn (aj (bH (aN (aN (bH (aN (FZ1 [] Tryz.results254 rfl (congrArg Value.bool (Eq.symm ?_)))))))))))
   have hb:(decide (33≤u.toNat) && decide (u.toNat≤126))=false:=by simp at h2 ⊢;omega
   unfold dV
   rw [Bool.and_eq_false_iff];left
   rw [List.all_eq_false]
   exact ⟨u,List.mem_of_getElem? hu,by rw [hb];decide⟩
  ·skip
   refine ai (bo (an (ae (aU rfl (aO rfl rfl (by omega)) (aM rfl (aNn ?_))))))
   refine ⟨[0,6,7,8],[0],[],rfl,?_⟩
   refine ⟨k+1,⟨⟨hk',fun v hv => ?_⟩,rfl⟩,by omega⟩
   rw [List.take_add_one,hu,Option.toList_some] at hv
   rcases List.mem_append.1 hv with h | h
   · exact hpre v h
   · rw [List.mem_singleton.1 h];simp at h2 ⊢;omega
 ·skip
  refine aS (aV (aV (ba (an (aSR (aM rfl (aU rfl (ep Tryz.underlying9 rfl) (aU rfl (dR rfl rfl) (aM rfl (aG rfl rfl (fun hc=>az rfl) (aG rfl rfl (fun hc=>ep Tryz.underlying9 (aa rfl hc)) (aG rfl rfl (fun hc=>dq (aa rfl hc) rfl) (aU rfl (aQ rfl rfl (fun h=>gt rfl h)) (aA rfl (aNn (aj ?_))))))))))))))))
  refine FZ1 [] Tryz.results254 rfl (congrArg Value.bool (Eq.symm ?_))
  have hkl:k=s.size:=by simp at h1;omega
  rw [hkl,← hlen,List.take_length] at hpre
  unfold dV
  rw [List.all_eq_true.2 hpre,Bool.true_and]
  congr 1<;>simp<;>omega
theorem ny (l:Sl aH):Con Tryz.prog 158 [l.val] [ShF aH.row l,b6 aH.ok l.l] [] (YN Value.bool fun b=>b=true↔y7 l.l):=by
 refine EN1 Tryz.func158 rfl (aSR (aA rfl (aNs (aSR (aM rfl (aU rfl (aY Tryz.underlying29 rfl) (aU rfl (dy rfl rfl) (aNn ?_))))))))
 refine ah _ rfl (fun h1 => ?_) (fun h1 => ?_)
 ·skip
  refine aSR (aA rfl (aNn (aj (aN (FZ1 [] Tryz.results158 rfl ?_)))))
  exact ⟨⟨rfl,rfl⟩,_,rfl,fun h=>absurd h (by decide),fun hv=>absurd h1 (by have:=hv.len;simp;omega)⟩
 ·skip
  have hle:l.l.length≤4096:=by simp at h1;omega
  refine ai (an (aSR (aM rfl (LT rfl (EC [1] [] rfl (uT l) ?_)))))
  rintro _ _ _ ⟨rfl,bat,rfl,rfl⟩
  refine aST ?_
  refine aA rfl (aNs (aSR (aM rfl (aU rfl (acG 0 Tryz.underlying352 kyT rfl rfl) (aM rfl (aU rfl (aY Tryz.underlying29 rfl) (aU rfl (dS rfl rfl) (aNn ?_))))))))
  refine ah _ rfl (fun h2 => ?_) (fun h2 => ?_)
  ·skip
   refine aSR (aA rfl (aNn (aj (aN (FZ1 [] Tryz.results158 rfl ?_)))))
   exact ⟨⟨rfl,rfl⟩,_,rfl,fun h=>absurd h (by decide),fun hv=>absurd h2 (by rw [(qz l.l).2 hv.nd];simp)⟩
  ·skip
   have hnd:(l.l.map (·.name)).Nodup:=(qz l.l).1 (by simp at h2;omega)
   refine ai (an (aSR (aA rfl (aNs (aq (ew 356 2 ?_))))))
   show awp _ _ _ _ ⟨_,_,[_,_]⟩
   refine ae (aM rfl (aU rfl (aY Tryz.underlying29 rfl) (aM rfl (aNn (ao (aR [0,3,4,22,23,24] [1,0] [0,1] (fun (q:Nat × (Value × List ct)) st=>VI l.l q.1 q.2.2∧st=⟨[(0,true,l.val),(3,true,.map (some bat)),(4,true,q.2.1),(22,true,l.val),(23,true,.int .i64 l.l.length),(24,true,.int .i64 q.1)],[ShF aH.row l,b6 aH.ok l.l],[cN bat gH eI (iM l.l),aD q.2.1 356 2 (q.2.2.map ct.row)]⟩) (fun q=>l.l.length-q.1) rfl (⟨(0,(.slice none 0 0,[])),VI.start l.l,rfl⟩) ?_))))))
   rintro ⟨k,av,gs⟩ st ⟨hI,rfl⟩
   dsimp only at hI ⊢
   have hkl:=hI.le
   refine aSR (aU rfl (bg rfl rfl) (aNs ?_))
   refine ah _ rfl (fun h3 => ?_) (fun h3 => ?_)
   ·skip
    have hk':k<l.l.length:=by simpa using h3
    obtain ⟨d,hd⟩:∃ d,l.l[k]? = some d:=⟨_,List.getElem?_eq_getElem hk'⟩
    have hdm:=List.mem_of_getElem? hd
    refine ai (an (aq (ao (aSR (aM rfl (UI Tryz.underlying29 tk195 0 rfl rfl rfl rfl rfl (aJ hd) rfl rfl (fun ⟨b9_1,o9_1⟩=>(US 0 tk195 0 rfl rfl rfl rfl rfl (LT rfl (bt (zs:=[.string .empty,.slice none 0 0]) (by kernel_rfl) rfl (fun b9_3=>(aHN ?_))))))))))))
    refine aA rfl (aI rfl (aW 2 tk195 rfl rfl rfl rfl (aHK ?_)))
    refine aNn (aSR (LT rfl (dO (gH) (vBo) rfl (fun b10_0=>(aHN ?_)))))
    refine aA rfl (aNs (aSR (UO 1 rfl rfl (UL 2 tk28 rfl rfl rfl rfl (aU rfl (aY Tryz.underlying28 rfl) (aM rfl (aNn (ao (cA (aH.f_parents (Ent.all (f:=aH.ok) (.of (aF 2 rfl)) hd)) (fun hpl => ?_))))))))))
    refine aR [0,3,4,5,6,7,22,23,24,31,32,33] [1,0] [0,1,2,3] (fun (q:Nat × (Value × List ct)) st=>VJ l.l k d q.1 q.2.2∧st=⟨[(0,true,l.val),(3,true,.map (some bat)),(4,true,q.2.1),(5,true,.int .i64 k),(6,true,.pointer (some ⟨b9_3,0,none⟩)),(7,true,.map (some b10_0)),(22,true,l.val),(23,true,.int .i64 l.l.length),(24,true,.int .i64 k),(31,true,d.parents.val),(32,true,.int .i64 d.parents.l.length),(33,true,.int .i64 q.1)],[ShF aH.row l,b6 aH.ok l.l],[cN bat gH eI (iM l.l),aD q.2.1 356 2 (q.2.2.map ct.row),Box b9_3 195 d.vs,cN b10_0 gH vBo (ee (d.parents.l.take q.1))]⟩) (fun q=>d.parents.l.length-q.1) rfl (⟨(0,(av,gs)),hI.into hd,by show _=(⟨_,_,[_,_,_,cN b10_0 gH vBo (ee [])]⟩:Sta);rw [← oI];rfl⟩) ?_
    rintro ⟨m,av2,gs2⟩ st ⟨hJ,rfl⟩
    dsimp only at hJ ⊢
    have hml:=hJ.ml
    have hms:=hJ.short
    have hln:=hJ.ln
    have hmul:l.l.length*k≤4096*4096:=Nat.mul_le_mul hle (by omega)
    refine aSR (aU rfl (bg rfl rfl) (aNs ?_))
    refine ah _ rfl (fun h4 => ?_) (fun h4 => ?_)
    ·skip
     have hm':m<d.parents.l.length:=by simpa using h4
     obtain ⟨p,hp⟩:∃ p,d.parents.l[m]? = some p:=⟨_,List.getElem?_eq_getElem hm'⟩
     refine ai (an (aq (ao (aSR (fZ true rfl rfl (fun _=>aX Tryz.underlying28 tk9 rfl ((aH.f_parents (Ent.all (f:=aH.ok) (.of (aF 1 rfl)) hd))) rfl (aJ hp) rfl rfl) (fun h=>absurd h (by decide)) (fun ⟨b13_0,o13_0⟩=>(US 0 tk9 0 rfl rfl rfl rfl rfl (aA rfl (aNn (aSR (aM rfl (aM rfl (aU rfl (jf (k:=p) (v0:=(0:Int)) 0 Tryz.underlying352 (kyT) (by kernel_rfl) rfl rfl rfl) ?_)))))))))))))
     refine aM rfl (aU rfl (aK rfl rfl) (aU rfl (aK rfl rfl) (aA rfl (aA rfl (aNs (aSR (aM rfl (aU rfl (bY rfl) (aM rfl (aG rfl rfl (fun hc=>az rfl) (aG rfl rfl (fun hc=>az rfl) (aG rfl rfl (fun hc=>gJ (k:=p) (v0:=false) 3 Tryz.underlying244 (kyT) (by kernel_rfl) (aa rfl hc) (aa rfl hc) rfl) (aU rfl (cm rfl rfl (fun h=>gf rfl h)) (aNn ?_))))))))))))))
     refine ah _ rfl (fun h5 => ?_) (fun h5 => ?_)
     ·skip
      refine aSR (aA rfl (aNn (aj (aN (bH (aN (aN (bH (aN (bH (aN (aN (bH (aN (FZ1 [] Tryz.results158 rfl ?_)))))))))))))))
      exact ⟨⟨rfl,rfl⟩,_,rfl,fun h=>absurd h (by decide),fun hv=>absurd h5 (by
        have k1:(iM l.l p).isSome=true:=(qA _ _).2 ((hv.pk d hdm).2 p (List.mem_of_getElem? hp))
        have k2:=yo (hv.pk d hdm).1 hp
        rw [tO];simp [k1,k2])⟩
     ·skip
      have h5':(iM l.l p).isSome=true∧(ee (d.parents.l.take m) p).getD false=false:=by simpa using h5
      obtain ⟨i,hi⟩:∃ i,lS l.l p=some i:=by
        have h:=h5'.1
        cases hh:lS l.l p with
        | none=>simp [iM,hh] at h
        | some i=>exact ⟨i,rfl⟩
      have hs:p ∉ d.parents.l.take m:=fun hmem=>by
        have h:=h5'.2
        rw [tO] at h
        simp [hmem] at h
      have hvi:(iM l.l p).getD 0=(i:Int):=by simp [iM,hi]
      refine ai (an (aSR (aM rfl (aM rfl (aI rfl (cP (k:=p) (v:=true) 3 Tryz.underlying244 (kyT) rfl rfl rfl rfl (aHK ?_)))))))
      refine aNn (ae (aM rfl (aM rfl (aM rfl (aU rfl (gr (l:=[(0,.tmp 53),(1,.tmp 54)]) (zs:=[.int .i64 0,.int .i64 0]) (pl:=[(0,1),(1,1)]) (by kernel_rfl) (by kernel_rfl) (by kernel_rfl) rfl rfl rfl) (LT rfl (WL (zs:=[.int .i64 0,.int .i64 0]) el354 rfl rfl rfl (.more rfl (.v rfl (.v rfl .nil)) .nil) rfl rfl (fun v18_4=>(aHN ?_)))))))))
      refine aI rfl (cJ 1 el354 rfl rfl rfl rfl (dY 4 el354 rfl (by simp)) (by first | assumption | simp) (by rw [List.length_map];show gs2.length+1≤_;omega) (gs2.length+1) (by rw [List.length_map];rfl) (fun v18_5 c18_5 => ?_))
      refine aHK ?_
      refine aA rfl (bK (bo (an (ae (aU rfl (aO rfl rfl (by omega)) (aM rfl (aNn ?_)))))))
      refine ⟨[0,3,4,5,6,7,22,23,24,31,32,33],[1,0],[0,1,2,3],rfl,?_⟩
      refine ⟨(m+1,(.slice v18_5 (gs2.length+1) c18_5,gs2++[⟨k,i⟩])),⟨hJ.step hd hp hi hs,?_⟩,by dsimp only;omega⟩
      show _=(⟨_,_,[_,aD (.slice v18_5 (gs2.length+1) c18_5) 356 2 ((gs2++[ct.mk (k:Int) (i:Int)]).map ct.row),_,cN b10_0 gH vBo (ee (d.parents.l.take (m+1)))]⟩:Sta)
      rw [List.take_add_one,hp,Option.toList_some,fL,List.map_append,List.map_singleton,← hvi]
      rfl
    ·skip
     refine aS (aV (aV (ba (an (aq (ei (aH.f_name (Ent.all (f:=aH.ok) (.of (aF 1 rfl)) hd)) (fun hnl=>(ae (UO 0 rfl rfl (UL 2 tk9 rfl rfl rfl rfl (aU rfl (Q0 rfl (xP d.name hnl)) (aU rfl (bY rfl) (aNn ?_)))))))))))))
     refine ah _ rfl (fun h6 => ?_) (fun h6 => ?_)
     ·skip
      refine aSR (aA rfl (aNn (aj (bH (aN (aN (bH (aN (FZ1 [] Tryz.results158 rfl ?_)))))))))
      exact ⟨⟨rfl,rfl⟩,_,rfl,fun h=>absurd h (by decide),fun hv=>absurd h6 (by rw [hv.nm d hdm];decide)⟩
     ·skip
      have hnm:dV d.name=true:=by simpa using h6
      refine ai (bo (an (ae (aU rfl (aO rfl rfl (by omega)) (aM rfl (aNn ?_))))))
      refine ⟨[0,3,4,22,23,24],[1,0],[0,1],rfl,?_⟩
      exact ⟨(k+1,(av2,gs2)),⟨hJ.done hd hnm (by simp at h4;omega),rfl⟩,by dsimp only;omega⟩
   ·skip
    have hkn:k=l.l.length:=by simp at h3;omega
    have hgl:=hI.ln
    have hmul:l.l.length*k≤4096*4096:=Nat.mul_le_mul hle (by omega)
    refine aS (aV (aV (ba (an (aq (eV 1 rfl (fun w S F hh=>eM hh) (fun hov => ?_)))))))
    obtain ⟨gad,gcp,rfl⟩:=hov
    rw [List.length_map]
    refine ez 1 rfl (ae (aM rfl (aU rfl (aY Tryz.underlying29 rfl) (aM rfl ?_))))
    refine LT rfl (EC [2] [] rfl (zF l.l.length (by omega) ⟨gad,gcp,gs⟩ (by dsimp only;omega) hI.ok) ?_)
    rintro _ _ _ ⟨⟨rfl,rfl⟩,ad2,k2,c2,rfl,hk2⟩
    refine aST ?_
    refine aU rfl (aY Tryz.underlying26 rfl) (aU rfl (bw rfl rfl) (aA rfl (aNn (aj (FZ1 [] Tryz.results158 rfl ?_)))))
    have har:=hI.ar
    have hnmA:=hI.nm
    have hpkA:=hI.pk
    rw [hkn] at har
    rw [hkn,List.take_length] at hnmA hpkA
    rw [har] at hk2
    refine ⟨⟨rfl,rfl⟩,_,rfl,fun h=>⟨hle,hnd,hnmA,hpkA,hk2.1 (by simpa using h)⟩,fun hv => ?_⟩
    rw [hk2.2 hv.ac];rfl
end Go.Proofs.YtfkcmbonmpcbfaaGreat

namespace Go.Sy
open Go.RowKit Go.Lp
def isF(P:Program)(f:FuncId)(c:Code)(nt:Nat)(rs:Array ResultVar):Prop:=∃ fn,P.funcs[f]? = some fn∧fn.body=some c∧fn.ntmps=nt∧fn.results=rs
theorem Con.enterG{P:Program}{f:FuncId}{fn:Func}{c:Code}{nt:Nat}{args:List Value}{ps:List Per}{hp:List Res}{R:Value→List Per→List Res→Prop}(hf:P.funcs[f]? = some fn)(hb:fn.body=some c)(hn:fn.ntmps=nt)(hle:args.length≤nt)
   (h:awp P ⟨nt,none,[]⟩ c (ff P fn R) ⟨(List.range args.length).zipWith (fun i v=>(i,true,v)) args,ps,hp⟩):Con P f args ps hp R:=by
 subst hn
 exact Con.enter hf hb hle h
structure ElT (P:Program) (E A:TypeId) (α:Type) where
 ag:Bool
 sz:Nat
 zs:List Value
 vs:α→List Value
 row:α→List D
 vl:α→Value
 tE:tyk P E=some (ag,sz)
 tA:tyk P A=some (false,1)
 uA:P.underlying A=some (.slice E)
 el:elB P A E sz=true
 hz:dL P E=some zs
 h0:0<sz
 hm:sz≤16777216
 hzl:zs.length=sz
 ln:∀ x,(vs x).length=sz
 rw_:∀ x,row x=(vs x).map .v
 ld:∀ x,rdC ag sz (vs x) 0=some (vl x)
 ldD:∀ x,rdD ag sz (row x) 0=some (vl x)
 cl:∀ x,(vl x).cells.toList=vs x
 on:∀ x,(vs x).all (·.oneCell')=true
theorem ElT.one{P:Program}{E A:TypeId}{α:Type}(X:ElT P E A α)(x:α):∀ v∈X.vs x,v.oneCell'=true:=List.all_eq_true.1 (X.on x)
theorem wX:∀ (cs vs:List Value),(∀ v∈vs,v.oneCell'=true)→vs.length=cs.length→wrL vs.length cs 0 vs=some vs
 | [],[],_,_=>rfl
 | _::cs,v::vs,h1,h2=>by
   have:=wX cs vs (fun u hu=>h1 u (by simp [hu])) (by simpa using h2)
   simp only [List.length_cons,wrL,h1 v (by simp),this]
section
variable {P:Program} {E A:TypeId} {α:Type} {n:Fr} {env:Env} {ps:List Per} {hp:List Res} {ty:TypeId} {pos:String} {af:Array Edge} {gd:Option (Nat × Bool)} {K:Sta→Prop} {q:Bool}
theorem ElT.rl(X:ElT P E A α)(x:α):(X.row x).length=X.sz:=by rw [X.rw_,List.length_map,X.ln]
theorem ElT.put(X:ElT P E A α)(x:α):wrL X.sz X.zs 0 (X.vl x).cells.toList=some (X.vs x):=by
 rw [X.cl,← X.ln x,wX _ _ (X.one x) (by rw [X.ln,X.hzl])]
end
end Go.Sy

