/- Parts of the proof, in build order. No condition. -/
import Derived.Test.YtebnelfdimiifaaGreatDoorSa15
import Derived.Test.YtebnelfdimiifaaGreatDoorSa07
import Derived.Test.YtebnelfdimiifaaGreatDoorSa06
import Derived.Test.YtebnelfdimiifaaGreatDoorSa13
import Derived.Test.YtebnelfdimiifaaGreatDoorSa05
import Derived.Test.YtebnelfdimiifaaGreatDoorSa04
import Derived.Lib.ConvBytes
import Derived.Test.YtebnelfdimiifaaGreatDoorSa11
import Derived.Test.YtebnelfdimiifaaGreatDoorSa03
set_option linter.unusedSimpArgs false
set_option linter.unusedVariables false
set_option maxHeartbeats 1000000
set_option maxRecDepth 20000
namespace Go.Proofs.YtebnelfdimiifaaGreatDoor
open Go.RowKit Go.Lp Go.Sy
open Go.Proofs.Tryz
attribute [local irreducible] aL aB awp aC fwp Quiet
theorem wg(z:Int):Con Tryz.prog 177 [.int .i64 z] [] [] (fun r _ _=>r=.bool false):=by
 refine EN1 Tryz.func177 rfl (aSR (aA rfl (aNn (aSR (aM rfl (aM rfl (aU rfl (fI rfl rfl) (aA rfl (aNn (az (FZ1 [] Tryz.results177 rfl ?_)))))))))))
 simp
theorem wh(z:ByteArray):Con Tryz.prog 156 [.string z] [] [] (fun r _ _=>r=.bool false):=by
 refine EN1 Tryz.func156 rfl (aSR (aA rfl (aNn (aSR (aM rfl (aM rfl (aU rfl (uU rfl rfl) (aA rfl (aNn (az (FZ1 [] Tryz.results156 rfl ?_)))))))))))
 simp
theorem vW(a b:Int):Con Tryz.prog 154 [.int .i64 a,.int .i64 b] [] [] (fun r _ _=>r=.int .i64 (ub a b)):=by
 refine EN2 Tryz.func154 rfl (aSR (aA rfl (aNn (aSR (aM rfl (aU rfl (Q0 rfl (wg _)) (aA rfl (aNn (aSR (aM rfl (aU rfl (Q0 rfl (wg _)) ?_)))))))))))
 refine aA rfl (aNs (aSR (aM rfl (aNn ?_))))
 refine ao _ rfl (fun h1 => ?_) (fun h1 => ?_)
 ·skip
  exact absurd h1 (by decide)
 ·skip
  refine ax (an (ai (aSR (aM rfl (aNn ?_)))))
  refine ao _ rfl (fun h2 => ?_) (fun h2 => ?_)
  ·skip
   exact absurd h2 (by decide)
  ·skip
   refine ax (an (ai (aSR (aM rfl (aM rfl (aU rfl (bC rfl rfl) (aNn ?_)))))))
   refine ao _ rfl (fun h3 => ?_) (fun h3 => ?_)
   ·skip
    refine aSR (aA rfl (aNn (az (bw (FZ1 [] Tryz.results154 rfl ?_)))))
    have:a<b:=by simpa using h3
    unfold ub;rw [if_pos this]
   ·skip
    refine ax (an (ai (aSR (aM rfl (aM rfl (aU rfl (cN rfl rfl) (aNn ?_)))))))
    refine ao _ rfl (fun h4 => ?_) (fun h4 => ?_)
    ·skip
     refine aSR (aA rfl (aNn (az (bw (FZ1 [] Tryz.results154 rfl ?_)))))
     have a1:¬ a<b:=by simpa using h3
     have:b<a:=by simpa using h4
     unfold ub;rw [if_neg a1,if_pos this]
    ·skip
     refine ax (an (aSR (aA rfl (aNn (az (FZ1 [] Tryz.results154 rfl ?_))))))
     have a1:¬ a<b:=by simpa using h3
     have a2:¬ b<a:=by simpa using h4
     unfold ub;rw [if_neg a1,if_neg a2]
theorem vX(a b:ByteArray):Con Tryz.prog 85 [.string a,.string b] [] [] (fun r _ _=>r=.int .i64 (xT a b)):=by
 refine EN2 Tryz.func85 rfl (aSR (aA rfl (aNn (aSR (aM rfl (aU rfl (Q0 rfl (wh _)) (aA rfl (aNn (aSR (aM rfl (aU rfl (Q0 rfl (wh _)) ?_)))))))))))
 refine aA rfl (aNs (aSR (aM rfl (aNn ?_))))
 refine ao _ rfl (fun h1 => ?_) (fun h1 => ?_)
 ·skip
  exact absurd h1 (by decide)
 ·skip
  refine ax (an (ai (aSR (aM rfl (aNn ?_)))))
  refine ao _ rfl (fun h2 => ?_) (fun h2 => ?_)
  ·skip
   exact absurd h2 (by decide)
  ·skip
   refine ax (an (ai (aSR (aM rfl (aM rfl (aU rfl (agk rfl rfl) (aNn ?_)))))))
   refine ao _ rfl (fun h3 => ?_) (fun h3 => ?_)
   ·skip
    refine aSR (aA rfl (aNn (az (bw (FZ1 [] Tryz.results85 rfl ?_)))))
    have:sLt a b:=of_decide_eq_true h3
    unfold xT;rw [if_pos this]
   ·skip
    refine ax (an (ai (aSR (aM rfl (aM rfl (aU rfl (agj rfl rfl) (aNn ?_)))))))
    refine ao _ rfl (fun h4 => ?_) (fun h4 => ?_)
    ·skip
     refine aSR (aA rfl (aNn (az (bw (FZ1 [] Tryz.results85 rfl ?_)))))
     have a1:¬ sLt a b:=of_decide_eq_false h3
     have h4':¬ sLt a b∧¬ a=b:=by simp only [Bool.not_eq_true',Bool.or_eq_false_iff,decide_eq_false_iff_not] at h4;exact h4
     have:sLt b a:=by
       rcases afe a b with h | h | h
       · exact (a1 h).elim
       · exact (h4'.2 h).elim
       · exact h
     unfold xT;rw [if_neg a1,if_pos this]
    ·skip
     refine ax (an (aSR (aA rfl (aNn (az (FZ1 [] Tryz.results85 rfl ?_))))))
     have a1:¬ sLt a b:=of_decide_eq_false h3
     have h4':sLt a b∨a=b:=by simp only [Bool.not_eq_false',Bool.or_eq_true,decide_eq_true_eq] at h4;exact h4
     have a2:¬ sLt b a:=by
       rcases h4' with h | h
       · exact ab5 h
       · rw [h];exact aar _
     unfold xT;rw [if_neg a1,if_neg a2]
theorem aeD(v:Value)(a b:Int):Con Tryz.prog 84 [v] [] [aN v 3 1 [[.v (.int .i64 a)],[.v (.int .i64 b)]]] (fun r _ _=>r=.int .i64 (if a≠0 then a else b)):=by
 refine Con.ofRes (p:=Sh v (.sl [[.v (.int .i64 a)],[.v (.int .i64 b)]])) ?_ _ (fun w S fp hres=>(ns (hres 0 _ rfl)).mono (fun _ _=>rfl) fun b hb=>hb.imp id fun hf=>⟨0,by simp,hf⟩)
 refine EN1 Tryz.func84 rfl (acs (.of (aH 0 rfl)) (fun ad cp hv => ?_))
 obtain rfl:v=.slice ad 2 cp:=hv
 refine aSR (aA rfl (aNn (aSR (aA rfl (aNs (aSR (aM rfl (aU rfl (aX Tryz.underlying25 rfl) (aM rfl (aNn (aq (aP [0,3,6,7,8] [0] [] (fun (k:Nat) st=>(k≤2∧(1≤k→a=0)∧(2≤k→b=0))∧st=⟨[(0,true,.slice ad 2 cp),(3,true,.int .i64 0),(6,true,.slice ad 2 cp),(7,true,.int .i64 2),(8,true,.int .i64 k)],[Sh (.slice ad 2 cp) (.sl [[.v (.int .i64 a)],[.v (.int .i64 b)]])],[]⟩) (fun k=>2-k) rfl (⟨0,⟨by omega,fun h=>by omega,fun h=>by omega⟩,rfl⟩) ?_))))))))))))
 rintro k st ⟨⟨hk,ha,hb⟩,rfl⟩
 refine aSR (aU rfl (bC rfl rfl) (aNs ?_))
 refine ao _ rfl (fun h1 => ?_) (fun h1 => ?_)
 ·skip
  have hk':k<2:=by simp at h1;omega
  obtain ⟨c,hc1,hc⟩:∃ c,(([[.v (.int .i64 a)],[.v (.int .i64 b)]]:List (List D))[k]? = some [D.v (.int .i64 c)])∧((k=0∧c=a)∨(k=1∧c=b)):=by
    rcases (by omega:k=0∨k=1) with rfl | rfl
    · exact ⟨a,rfl,.inl ⟨rfl,rfl⟩⟩
    · exact ⟨b,rfl,.inr ⟨rfl,rfl⟩⟩
  refine ax (an (ai (aq (aSR (jo true rfl rfl (fun _=>xh Tryz.underlying25 tk3 rfl (aH 0 rfl) rfl hc1 rfl rfl) (fun h=>absurd h (by decide)) (fun ⟨b4_0,o4_0⟩=>(US 0 tk3 0 rfl rfl rfl rfl rfl (aA rfl (aNn (aSR (aM rfl (aM rfl (aU rfl (fI rfl rfl) (aNn ?_))))))))))))))
  refine ao _ rfl (fun h2 => ?_) (fun h2 => ?_)
  ·skip
   refine aSR (aM rfl (aA rfl (aNn (az (cH (bw (bw (cH (bw (FZ1 [] Tryz.results84 rfl ?_))))))))))
   have hc0:c≠0:=by simpa using h2
   rcases hc with ⟨rfl,rfl⟩ | ⟨rfl,rfl⟩
   · rw [if_pos hc0]
   · rw [if_neg (by have:=ha (by omega);omega)]
  ·skip
   refine ax (bu (an (aa (aU rfl (aV rfl rfl (by omega)) (aM rfl (aNn ?_))))))
   refine ⟨[0,3,6,7,8],[0],[],rfl,?_⟩
   have hc0:c=0:=by simpa using h2
   rcases hc with ⟨rfl,rfl⟩ | ⟨rfl,rfl⟩
   · exact ⟨1,⟨⟨by omega,fun _=>hc0,fun h=>by omega⟩,rfl⟩,by omega⟩
   · exact ⟨2,⟨⟨by omega,fun _=>ha (by omega),fun _=>hc0⟩,rfl⟩,by omega⟩
 ·skip
  refine aR (aS (aS (aY (an (aSR (aM rfl (aA rfl (aNn (az (FZ1 [] Tryz.results84 rfl ?_))))))))))
  have hk2:k=2:=by simp at h1;omega
  subst hk2
  rw [if_neg (by have:=ha (by omega);omega),hb (by omega)]
end Go.Proofs.YtebnelfdimiifaaGreatDoor

namespace Go.Sy
open Go.RowKit
theorem agh{P:Program}{n:Fr}{s:Sta}{d:Option Tmp}{ty:TypeId}{pos:String}{af:Array Edge}{gd:Option (Nat × Bool)}{x:Operand}{T t' E:TypeId}{ad:Option Addr}{k c:Nat}(hT:P.underlying T=some (.slice E))(hx:ev s.env x=some (true,.slice ad k c)):Quiet P n ⟨d,.binOp .neq T x (.const (.slice none 0 0)) t',ty,pos,af,gd⟩ s (.bool (!ad.isNone)) :=
 .run2 (vy:=.slice none 0 0) hx rfl fun ρ w h1 h2=>by
   unfold execOp;dsimp only;rw [h1,h2]
   simp only [eqGuard_at_slice,binOp,Sem.run_bind,Sem.run_pure,run_equal_slice_nil w T E ad k c hT,Result.andThen_ok]
end Go.Sy
namespace Go.Proofs.YtebnelfdimiifaaGreatDoor
open Go.RowKit Go.Lp Go.Sy Go.Lv
open Go.Proofs.Tryz
attribute [local irreducible] aL aB awp aC fwp Quiet
abbrev abX:Int→List D:=fun z=>[.v (encI z)]
theorem ux(a b:Sl Int):Con Tryz.prog 182 [a.val,b.val] [ShF abX a,ShF abX b] [] (YN (fun z:Int=>.int .i64 z) fun _=>True):=by
 refine EN2 Tryz.func182 rfl (bS (.of (aH 0 rfl)) (fun hlen=>(aSR (aA rfl (aNs (aSR (aM rfl (aU rfl (aX Tryz.underlying25 rfl) (aM rfl (aNn (aq (aP [0,1,9,10,11] [1,0] [] (fun (k:Nat) st=>k≤a.l.length∧st=⟨[(0,true,a.val),(1,true,b.val),(9,true,a.val),(10,true,.int .i64 a.l.length),(11,true,.int .i64 k)],[ShF abX a,ShF abX b],[]⟩) (fun k=>a.l.length-k) rfl (⟨0,Nat.zero_le _,rfl⟩) ?_))))))))))))
 rintro k st ⟨hk,rfl⟩
 refine aSR (aU rfl (bC rfl rfl) (aNs ?_))
 refine ao _ rfl (fun h1 => ?_) (fun h1 => ?_)
 ·skip
  have hk':k<a.l.length:=by simpa using h1
  obtain ⟨x,hx⟩:∃ x,a.l[k]? = some x:=⟨_,List.getElem?_eq_getElem hk'⟩
  refine ax (an (ai (aq (aSR (aM rfl (UI Tryz.underlying25 tk3 0 rfl rfl rfl rfl rfl (aI hx) rfl rfl (fun ⟨b3_1,o3_1⟩ => ?_)))))))
  refine US 0 tk3 0 rfl rfl rfl rfl rfl (aA rfl (aA rfl (aNs (aSR (aM rfl (aM rfl (aU rfl (aX Tryz.underlying25 rfl) (aU rfl (fH rfl rfl) (aNn ?_)))))))))
  refine ao _ rfl (fun h2 => ?_) (fun h2 => ?_)
  ·skip
   refine aSR (aA rfl (aNn (az (bw (cH (bw (bw (cH (bw (FZ1 [] Tryz.results182 rfl ?_))))))))))
   exact ⟨⟨rfl,rfl⟩,_,rfl,trivial⟩
  ·skip
   have hb2:k<b.l.length:=by simp at h2;omega
   obtain ⟨y,hy⟩:∃ y,b.l[k]? = some y:=⟨_,List.getElem?_eq_getElem hb2⟩
   refine ax (an (aSR (aM rfl (aM rfl (UI Tryz.underlying25 tk3 2 rfl rfl rfl rfl rfl (aI hy) rfl rfl (fun ⟨b6_2,o6_2⟩=>(US 0 tk3 0 rfl rfl rfl rfl rfl (aA rfl (aNn (aSR (aM rfl (aM rfl (aU rfl (Q0 rfl (vW _ _)) ?_)))))))))))))
   refine aA rfl (aNn (aSR (aM rfl (aU rfl (fI rfl rfl) (aNn ?_)))))
   refine ao _ rfl (fun h3 => ?_) (fun h3 => ?_)
   ·skip
    refine aSR (aM rfl (aA rfl (aNn (az (cH (bw (bw (cH (bw (FZ1 [] Tryz.results182 rfl ?_))))))))))
    exact ⟨⟨rfl,rfl⟩,_,rfl,trivial⟩
   ·skip
    refine ax (bu (an (aa (aU rfl (aV rfl rfl (by omega)) (aM rfl (aNn ?_))))))
    refine ⟨[0,1,9,10,11],[1,0],[],rfl,?_⟩
    exact ⟨k+1,⟨hk',rfl⟩,by omega⟩
 ·skip
  refine aR (aS (aS (aY (an (ai (aSR (aM rfl (aU rfl (aX Tryz.underlying25 rfl) (aM rfl (aU rfl (aX Tryz.underlying25 rfl) (aU rfl (bC rfl rfl) (aNn ?_))))))))))))
  refine ao _ rfl (fun h4 => ?_) (fun h4 => ?_)
  ·skip
   refine aSR (aA rfl (aNn (az (bw (FZ1 [] Tryz.results182 rfl ?_)))))
   exact ⟨⟨rfl,rfl⟩,_,rfl,trivial⟩
  ·skip
   refine ax (an (aSR (aA rfl (aNn (az (FZ1 [] Tryz.results182 rfl ?_))))))
   exact ⟨⟨rfl,rfl⟩,_,rfl,trivial⟩
theorem aby{N:Nat}{l:List dm}(hr:∀ a∈l,ja N a){ps:List (List Int)}(hP:PX N (dv N l) ps)(h1:∀ p∈ps,p.length≤1)(h2:∀ a∈l,a.from_≠a.to_)(v:Int)(v0:0≤v)(v1:v<N):¬ OnC (dv N l) v:=fun ⟨w,hw,hc⟩=>by
 by_cases e:w=v
 · subst e
   obtain ⟨a,ha,e1,e2⟩:=(jK hr ⟨v0,v1⟩).1 hw
   exact h2 a ha (e1.trans e2.symm)
 · have hwr:=pw hr v w hw
   obtain ⟨p,hp,a,b⟩:=hP.cy v w v0 v1 hwr.1 hwr.2 (Rc.one hw) hc
   have:=h1 p hp
   match p,this with
   | [],_=>cases a
   | [x],_=>exact e ((List.mem_singleton.1 b).trans (List.mem_singleton.1 a).symm)
   | _::_::_,h=>simp at h
theorem adi{N:Nat}{nx:List (List Int)}{ps:List (List Int)}(hP:PX N nx ps){p:List Int}(hp:p∈ps)(hnd:p.Nodup)(hl:1<p.length){x:Int}(hx:p[0]? = some x):OnC nx x:=by
 match p,hl with
 | a::b::p,_ =>
   obtain rfl:a=x:=by simpa using hx
   have hne:a≠b:=fun e=>(List.nodup_cons.1 hnd).1 (by rw [e];exact List.mem_cons_self)
   exact OnC.of_two (hP.sc _ hp a List.mem_cons_self b (by simp)) (hP.sc _ hp b (by simp) a List.mem_cons_self) hne
theorem agm{N:Nat}{l:List dm}(hr:∀ a∈l,ja N a){y:Int}(hy:0≤y∧y<N){u v:Int}(h:Rc (dv N l) u v):Rch N (dv N l) (dx [y]) u→Rch N (dv N l) (dx [y]) v:=by
 induction h with
 | refl=>exact id
 | step h _ ih=>exact fun k=>ih (.arc k h)
theorem adh{N:Nat}{l:List dm}(hr:∀ a∈l,ja N a){y:Int}(hy:0≤y∧y<N)(h:OnC (dv N l) y):∃ a∈l,a.to_=y∧0≤elt (oJ N l [y]) a.from_:=by
 obtain ⟨z,h1,h2⟩:=h.back
 have hz:=agm hr hy h1 (.root (tu.2 List.mem_cons_self) hy.1 hy.2)
 have hzr:=agn (pw hr) hz
 obtain ⟨a,ha,e1,e2⟩:=(jK hr hzr).1 h2
 exact ⟨a,ha,e2,by rw [e1];exact (sL (lb _) (pw hr) hzr.1 hzr.2).2 hz⟩
theorem acL (N:Nat) (hN:N≤10000) (l:Sl dm) (hl:l.l.length≤100000000) (hr:∀ a∈l.l,ja N a) :
   Con Tryz.prog 159 [.int .i64 N,l.val] [ShF dm.row l] [] fun r ps hp=>(ps=[]∧hp=[])∧∃ ad k c,r=.slice ad k c∧(k=0↔∀ v:Int,0≤v→v<N→¬ OnC (dv N l.l) v):=by
 have hT:=yK hr
 refine EN2 Tryz.func159 rfl (aSR (aA rfl (aNn (aSR (aM rfl (aA rfl (aNs (aSR (aM rfl (aM rfl (LT rfl (EC [0] [] rfl (aa9 N (by omega) l hl hr) ?_))))))))))))
 rintro _ _ _ ⟨rfl,P,rfl,hok,hPX,rfl⟩
 refine aST ?_
 refine aU rfl (aX Tryz.underlying273 rfl) (aM rfl (aNn (aq (bS (.of (aH 0 rfl)) (fun hPl => ?_)))))
 refine aP [0,1,5,18,19,20] [2,1,0] [] (fun (q:Nat × Int) st=>(q.1≤P.l.length∧0≤q.2∧q.2≤N∧((q.2=N∨OnC (dv N l.l) q.2)∧(q.2=N→∀ p∈P.l.take q.1,p.l.length≤1)))∧st=⟨[(0,true,.int .i64 N),(1,true,l.val),(5,true,.int .i64 q.2),(18,true,P.val),(19,true,.int .i64 P.l.length),(20,true,.int .i64 q.1)],[ShF slR P,b6 (ShF cO) P.l,ShF dm.row l],[]⟩) (fun q=>P.l.length-q.1) rfl (⟨(0,(N:Int)),⟨Nat.zero_le _,by dsimp only;omega,by dsimp only;omega,.inl rfl,fun _ p hp=>(by cases hp)⟩,rfl⟩) ?_
 rintro ⟨k,z⟩ st ⟨⟨hk,hz0,hzN,hz1⟩,rfl⟩
 dsimp only at hk hz0 hzN hz1 ⊢
 refine aSR (aU rfl (bC rfl rfl) (aNs ?_))
 refine ao _ rfl (fun h1 => ?_) (fun h1 => ?_)
 ·skip
  have hk':k<P.l.length:=by simpa using h1
  obtain ⟨p,hp⟩:∃ p,P.l[k]? = some p:=⟨_,List.getElem?_eq_getElem hk'⟩
  have hpk:=hok p (List.mem_of_getElem? hp)
  obtain ⟨x0,hx0⟩:∃ x0,p.l[0]? = some x0:=⟨_,List.getElem?_eq_getElem (List.length_pos_iff.2 hpk.ne)⟩
  have hx0r:=hpk.rg x0 (List.mem_of_getElem? hx0)
  have hpsh:=hpk.sh
  have hPm:p.l∈P.l.map (·.l):=List.mem_map_of_mem (List.mem_of_getElem? hp)
  have htk:P.l.take (k+1)=P.l.take k++[p]:=by rw [List.take_add_one,hp];rfl
  refine ax (an (ai (aq (aSR (UI Tryz.underlying273 tk25 0 rfl rfl rfl rfl rfl (aI hp) rfl rfl (fun ⟨b4_0,o4_0⟩=>(US 0 tk25 0 rfl rfl rfl rfl rfl (aA rfl (aNn (aSR (aM rfl (aU rfl (aX Tryz.underlying25 rfl) (aU rfl (cN rfl rfl) (aNn ?_))))))))))))))
  refine ao _ rfl (fun h2 => ?_) (fun h2 => ?_)
  ·skip
   have hlong:1<p.l.length:=by simp at h2;omega
   refine aa (aM rfl (aM rfl (jo true rfl rfl (fun _=>bI Tryz.underlying25 tk3 rfl ((Ent.all (f:=ShF cO) (.of (aH 2 rfl)) hp)) rfl (aI hx0) rfl rfl) (fun h=>absurd h (by decide)) (fun ⟨b6_2,o6_2⟩=>(US 0 tk3 0 rfl rfl rfl rfl rfl (aU rfl (aap rfl rfl) (aA rfl (bP (bu (an (aa (aU rfl (aV rfl rfl (by omega)) (aM rfl (aNn ?_))))))))))))))
   refine ⟨[0,1,5,18,19,20],[2,1,0],[],rfl,?_⟩
   have hcx:=adi hPX hPm hpk.nd hlong hx0
   have hcm:OnC (dv N l.l) (min z x0):=by
     rcases hz1.1 with h | h
     · rw [show min z x0=x0 by omega];exact hcx
     · rcases Int.le_total z x0 with h2 | h2
       · rw [Int.min_eq_left h2];exact h
       · rw [Int.min_eq_right h2];exact hcx
   exact ⟨(k+1,min z x0),⟨⟨by dsimp only;omega,by dsimp only;omega,by dsimp only;omega,.inr hcm,fun h=>by dsimp only at h;omega⟩,rfl⟩,by dsimp only;omega⟩
  ·skip
   refine ax (bu (an (aa (aU rfl (aV rfl rfl (by omega)) (aM rfl (aNn ?_))))))
   refine ⟨[0,1,5,18,19,20],[2,1,0],[],rfl,?_⟩
   have hshort:p.l.length≤1:=by simp at h2;omega
   exact ⟨(k+1,z),⟨⟨by dsimp only;omega,hz0,hzN,hz1.1,fun h q hq=>(by
     dsimp only at hq
     rw [htk,List.mem_append,List.mem_singleton] at hq
     exact hq.elim (hz1.2 h q) fun e=>e ▸ hshort)⟩,rfl⟩,by dsimp only;omega⟩
 ·skip
  refine aR (aS (aS (aY (an (ai (aSR (aM rfl (aU rfl ((bC rfl rfl).castV (v':=.bool false) (congrArg Value.bool (decide_eq_false (by omega)))) (aM rfl (aM rfl (aM rfl (aU rfl (Q1 rfl (tf N l) 2 rfl) (aU rfl (dO rfl) (aU rfl (dp rfl rfl (fun _=>rfl)) (aNn ?_)))))))))))))))
  refine ao _ rfl (fun h3 => ?_) (fun h3 => ?_)
  ·skip
   exact absurd h3 (by rw [xq (by omega) hr];simp)
  ·skip
   refine ax (an (ai (aSR (aM rfl (aU rfl (aX Tryz.underlying251 rfl) (aM rfl (aNn (aq (bS (.of (aH 2 rfl)) (fun hll => ?_))))))))))
   refine aP [0,1,5,41,42,43] [2,1,0] [] (fun (q:Nat × Int) st=>(q.1≤l.l.length∧0≤q.2∧q.2≤N∧((q.2=N∨OnC (dv N l.l) q.2)∧(q.2=N→(∀ p∈P.l.map (·.l),p.length≤1)∧∀ a∈l.l.take q.1,a.from_≠a.to_)))∧st=⟨[(0,true,.int .i64 N),(1,true,l.val),(5,true,.int .i64 q.2),(41,true,l.val),(42,true,.int .i64 l.l.length),(43,true,.int .i64 q.1)],[ShF slR P,b6 (ShF cO) P.l,ShF dm.row l],[]⟩) (fun q=>l.l.length-q.1) rfl (⟨(0,z),⟨Nat.zero_le _,hz0,hzN,hz1.1,fun h=>⟨fun p hp=>(by
     obtain ⟨q,hq,rfl⟩:=List.mem_map.1 hp
     exact hz1.2 h q (by rw [List.take_of_length_le (by simp at h1;omega)];exact hq)),fun a ha=>(by cases ha)⟩⟩,rfl⟩) ?_
   rintro ⟨j,y⟩ st ⟨⟨hj,hy0,hyN,hy1⟩,rfl⟩
   dsimp only at hj hy0 hyN hy1 ⊢
   refine aSR (aU rfl (bC rfl rfl) (aNs ?_))
   refine ao _ rfl (fun h4 => ?_) (fun h4 => ?_)
   ·skip
    have hj':j<l.l.length:=by simpa using h4
    obtain ⟨a,ha⟩:∃ a,l.l[j]? = some a:=⟨_,List.getElem?_eq_getElem hj'⟩
    have har:=hr a (List.mem_of_getElem? ha)
    have hfr:=har.1
    have htk:l.l.take (j+1)=l.l.take j++[a]:=by rw [List.take_add_one,ha];rfl
    have ham:=List.mem_of_getElem? ha
    refine ax (an (ai (aq (aSR (UI Tryz.underlying251 tk253 2 rfl rfl rfl rfl rfl (aI ha) rfl rfl (fun ⟨b12_0,o12_0⟩=>(US 0 tk253 0 rfl rfl rfl rfl rfl (LT rfl (bJ (zs:=[.int .i64 0,.int .i64 0]) (by kernel_rfl) rfl (fun b12_2=>(aHN ?_)))))))))))
    refine aW rfl (ba 0 tk253 rfl rfl rfl rfl (aHK ?_))
    refine aNn (aSR (UO 0 rfl rfl (UL 0 tk3 rfl rfl rfl rfl (UO 1 rfl rfl (UL 0 tk3 rfl rfl rfl rfl (aU rfl (cA rfl rfl) (aNn ?_)))))))
    refine ao _ rfl (fun h5 => ?_) (fun h5 => ?_)
    ·skip
     refine aa (aM rfl (UO 0 rfl rfl (UL 0 tk3 rfl rfl rfl rfl (aU rfl (aap rfl rfl) (aA rfl (bP (bu (an (aa (aU rfl (aV rfl rfl (by omega)) (aM rfl (aNn ?_))))))))))))
     refine ⟨[0,1,5,41,42,43],[2,1,0],[],rfl,?_⟩
     have hself:a.from_=a.to_:=by simpa using h5
     have hcx:OnC (dv N l.l) a.from_:=⟨a.from_,(jK hr har.1).2 ⟨a,ham,rfl,hself.symm⟩,.refl _⟩
     have hcm:OnC (dv N l.l) (min y a.from_):=by
       rcases hy1.1 with h | h
       · rw [show min y a.from_=a.from_ by omega];exact hcx
       · rcases Int.le_total y a.from_ with h2 | h2
         · rw [Int.min_eq_left h2];exact h
         · rw [Int.min_eq_right h2];exact hcx
     exact ⟨(j+1,min y a.from_),⟨⟨by dsimp only;omega,by dsimp only;omega,by dsimp only;omega,.inr hcm,fun h=>by dsimp only at h;omega⟩,rfl⟩,by dsimp only;omega⟩
    ·skip
     refine ax (bu (an (aa (aU rfl (aV rfl rfl (by omega)) (aM rfl (aNn ?_))))))
     refine ⟨[0,1,5,41,42,43],[2,1,0],[],rfl,?_⟩
     have hself:a.from_≠a.to_:=by simpa using h5
     exact ⟨(j+1,y),⟨⟨by dsimp only;omega,hy0,hyN,hy1.1,fun h=>⟨(hy1.2 h).1,fun q hq=>(by
       dsimp only at hq
       rw [htk,List.mem_append,List.mem_singleton] at hq
       exact hq.elim ((hy1.2 h).2 q) fun e=>e ▸ hself)⟩⟩,rfl⟩,by dsimp only;omega⟩
   ·skip
    refine aR (aS (aS (aY (an (ai (aSR (aM rfl (aM rfl (aU rfl (cA rfl rfl) (aNn ?_))))))))))
    refine ao _ rfl (fun h6 => ?_) (fun h6 => ?_)
    ·skip
     refine aSR (aA rfl (aNn (az (bw (FZ1 [] Tryz.results159 rfl ?_)))))
     have hyN2:y=N:=by simpa using h6
     have hy2:=hy1.2 hyN2
     rw [List.take_of_length_le (by simp at h4;omega)] at hy2
     exact ⟨⟨rfl,rfl⟩,none,0,0,rfl,fun _=>aby hr hPX hy2.1 hy2.2,fun _=>rfl⟩
    ·skip
     have hyne:y≠N:=by simpa using h6
     obtain ⟨b,hb⟩:∃ b,oJ N l.l [y]=b:=⟨_,rfl⟩
     have hbl:b.length=N:=by rw [← hb];exact zj (pw hr)
     have hTy:=hT [y]
     have hrk:∀ v,adX (rp N l.l [y]) v≤100000:=fun v=>by
       have h1:=ae7 (rp N l.l [y]) v
       have h2:(rp N l.l [y]).length≤_:=xH (rs:=dx [y]) (pw hr)
       have h3:=xD [y]
       simp at h3
       omega
     obtain ⟨ρ,hρ⟩:∃ ρ,adX (rp N l.l [y])=ρ:=⟨_,rfl⟩
     rw [hρ,hb] at hTy
     rw [hρ] at hrk
     refine ax (an (aSR (aM rfl (aM rfl (aM rfl (LT rfl (WL (zs:=[.int .i64 0]) el25 rfl rfl rfl (.more rfl (.v rfl .nil) .nil) rfl rfl (fun v18_3=>(aHN ?_)))))))))
     refine eG 0 rfl ?_
     refine LT rfl (EC [0,3] [] rfl (wA N (by omega) l hl hr ⟨v18_3,1,[y]⟩ (by show 1≤_;decide) hb) ?_)
     rintro vb _ _ ⟨rfl,rfl⟩
     refine aST ?_
     refine aA rfl (aNn (aSR (aA rfl (aNs (ai (fK 1 rfl (fun w S F hh=>ga hh) (fun hov => ?_)))))))
     obtain ⟨bad,bcp,rfl⟩:=hov
     rw [dG]
     refine ep 1 rfl (aZ (ShF abX (⟨none,0,[]⟩:Sl Int)) (fun w S _=>fv.e none 0 (Nat.zero_le _)) (aa (aM rfl (aU rfl (aX Tryz.underlying251 rfl) (aM rfl (aNn (aq ?_)))))))
     refine aP [5,10,11,65,66,67] [5,4,0] [] (fun (q:Nat × Sl Int) st=>(q.1≤l.l.length∧(q.2.l=[]→q.2.ad=none∧∀ a∈l.l.take q.1,a.to_=y→¬ 0≤elt b a.from_))∧st=⟨[(5,true,.int .i64 y),(10,true,.slice bad b.length bcp),(11,true,q.2.val),(65,true,l.val),(66,true,.int .i64 l.l.length),(67,true,.int .i64 q.1)],[ShF abX q.2,Sh (.slice bad b.length bcp) (.sl (cD encI b)),ShF dm.row l],[]⟩) (fun q=>l.l.length-q.1) rfl (⟨(0,⟨none,0,[]⟩),⟨Nat.zero_le _,fun _=>⟨rfl,fun a h=>(by cases h)⟩⟩,rfl⟩) ?_
     rintro ⟨m,bst⟩ st ⟨⟨hm,hbs⟩,rfl⟩
     dsimp only at hm hbs ⊢
     refine aSR (aU rfl (bC rfl rfl) (aNs ?_))
     refine ao _ rfl (fun h7 => ?_) (fun h7 => ?_)
     ·skip
      have hm':m<l.l.length:=by simpa using h7
      obtain ⟨a,ha⟩:∃ a,l.l[m]? = some a:=⟨_,List.getElem?_eq_getElem hm'⟩
      have har:=hr a (List.mem_of_getElem? ha)
      have hfr:=har.1
      have htk:l.l.take (m+1)=l.l.take m++[a]:=by rw [List.take_add_one,ha];rfl
      refine ax (an (ai (aq (aSR (UI Tryz.underlying251 tk253 2 rfl rfl rfl rfl rfl (aI ha) rfl rfl (fun ⟨b22_0,o22_0⟩=>(US 0 tk253 0 rfl rfl rfl rfl rfl (LT rfl (bJ (zs:=[.int .i64 0,.int .i64 0]) (by kernel_rfl) rfl (fun b22_2=>(aHN ?_)))))))))))
      refine aW rfl (ba 0 tk253 rfl rfl rfl rfl (aHK ?_))
      refine aNs (aSR (UO 1 rfl rfl (UL 0 tk3 rfl rfl rfl rfl (aM rfl (aU rfl (fI rfl rfl) (aNn ?_))))))
      refine ao _ rfl (fun h8 => ?_) (fun h8 => ?_)
      ·skip
       refine aR (aS (aY (an (aa (aU rfl (aV rfl rfl (by omega)) (aM rfl (aNn ?_)))))))
       refine ⟨[5,10,11,65,66,67],[2,1,0],[],rfl,?_⟩
       exact ⟨(m+1,bst),⟨⟨hm',fun h=>⟨(hbs h).1,fun q hq hqy=>(by
         dsimp only at hq
         rw [htk,List.mem_append,List.mem_singleton] at hq
         exact hq.elim (fun hq=>(hbs h).2 q hq hqy) fun e=>absurd (e ▸ hqy) (by simpa using h8))⟩⟩,rfl⟩,by dsimp only;omega⟩
      ·skip
       refine ax (an (aSR (aM rfl (UO 0 rfl rfl (UL 0 tk3 rfl rfl rfl rfl ?_)))))
       refine LT rfl (EC [1] [] rfl (yy ⟨bad,bcp,b⟩ ρ hTy a.from_ (by dsimp only;omega) (hrk _)) ?_)
       rintro _ _ _ ⟨rfl,ad,cd,htn,rfl,rfl⟩
       refine aST ?_
       refine aA rfl (aNn (aSR (aM rfl (aU rfl (agh Tryz.underlying25 rfl) (aM rfl (aG rfl rfl (fun hc=>aT rfl) (aG rfl rfl (fun hc=>zg Tryz.underlying25 (ae rfl hc)) (aG rfl rfl (fun hc=>aT (ae rfl hc)) (aG rfl rfl (fun hc=>aT rfl) (aG rfl rfl (fun hc=>aX Tryz.underlying25 (ae rfl hc)) (aG rfl rfl (fun hc=>aT rfl) (aG rfl rfl (fun hc=>aX Tryz.underlying25 (ae rfl hc)) (aG rfl rfl (fun hc=>bC (ae rfl hc) (ae rfl hc)) ?_)))))))))))))
       refine aG rfl rfl (fun hc=>dp (ae rfl hc) rfl (fun h=>gf hc h)) (aG rfl rfl (fun hc=>aT (ae rfl hc)) (aG rfl rfl (fun hc=>aT rfl) (aG rfl rfl (fun hc=>aX Tryz.underlying25 (ae rfl hc)) (aG rfl rfl (fun hc=>aT rfl) (aG rfl rfl (fun hc=>aX Tryz.underlying25 (ae rfl hc)) (aG rfl rfl (fun hc=>cA (ae rfl hc) (ae rfl hc)) (aG rfl rfl (fun hc=>aT (ae rfl hc)) (aG rfl rfl (fun hc=>aT rfl) (aG rfl rfl (fun hc=>aT rfl) ?_)))))))))
       refine fB (caps:=[]) [4,2] ((0:Int)) (by kernel_rfl) _ rfl rfl (fun _=>rfl) (fun hc=>(aK (ae rfl hc) (aK (ae rfl hc) rfl))) (fun hc=>by rw [List.append_nil];exact ux ⟨ad,cd,iu b ρ a.from_⟩ bst) (fun cz hcz => ?_)
       refine aG rfl rfl (fun hc=>bC (ae rfl hc) rfl) (aG rfl rfl (fun hc=>bB (ae rfl hc) rfl (fun h=>gt hc h)) (aG rfl rfl (fun hc=>dp (ae rfl hc) rfl (fun h=>gf hc h)) (aU rfl (bB rfl rfl (fun h=>gt rfl h)) (aNn ?_))))
       refine ao _ rfl (fun h9 => ?_) (fun h9 => ?_)
       ·skip
        refine aa (aM rfl (aA rfl (bP (bu (an (aa (aU rfl (aV rfl rfl (by omega)) (aM rfl (aNn ?_)))))))))
        refine ⟨[5,10,11,65,66,67],[4,1,0],[],rfl,?_⟩
        have hway:iu b ρ a.from_≠[]:=fun h=>by
          rw [htn.2 h] at h9
          simp at h9
        exact ⟨(m+1,⟨ad,cd,iu b ρ a.from_⟩),⟨⟨hm',fun h=>absurd h hway⟩,rfl⟩,by dsimp only;omega⟩
       ·skip
        refine ax (bu (an (aa (aU rfl (aV rfl rfl (by omega)) (aM rfl (aNn ?_))))))
        refine ⟨[5,10,11,65,66,67],[2,1,0],[],rfl,?_⟩
        exact ⟨(m+1,bst),⟨⟨hm',fun h=>⟨(hbs h).1,fun q hq hqy=>(by
          dsimp only at hq
          rw [htk,List.mem_append,List.mem_singleton] at hq
          refine hq.elim (fun hq=>(hbs h).2 q hq hqy) fun e => ?_
          subst e
          intro hge
          have hne:iu b ρ q.from_≠[]:=fun h0=>by
            unfold iu at h0
            rw [if_neg (by omega),List.reverse_eq_nil_iff,j0] at h0
            cases h0
          have hadn:ad≠none:=fun h0=>hne (htn.1 h0)
          cases had:ad with
          | none=>exact hadn had
          | some z=>rw [had,(hbs h).1] at h9;simp at h9)⟩⟩,rfl⟩,by dsimp only;omega⟩
     ·skip
      refine aR (aS (aS (aY (an (aSR (aM rfl (aA rfl (aNn (az (FZ1 [] Tryz.results159 rfl ?_))))))))))
      have hcy:OnC (dv N l.l) y:=hy1.1.resolve_left hyne
      obtain ⟨a,ha,e1,e2⟩:=adh hr ⟨hy0,by omega⟩ hcy
      rw [hb] at e2
      have hbn:bst.l≠[]:=fun h=>(hbs h).2 a (by rw [List.take_of_length_le (by simp at h7;omega)];exact ha) e1 e2
      exact ⟨⟨rfl,rfl⟩,_,_,_,rfl,fun h=>absurd (List.length_eq_zero_iff.1 h) hbn,fun h=>absurd hcy (h y hy0 (by omega))⟩
end Go.Proofs.YtebnelfdimiifaaGreatDoor

namespace Go.Sy
open Go.RowKit Go.Lp
def byR(l:List UInt8):List (List D):=l.map fun u=>[.v (.int .u8 u.toNat)]
theorem aeA(l:List UInt8):(byR l).length=l.length:=by simp [byR]
section
variable {P:Program} {n:Fr} {env:Env} {ps:List Per} {hp:List Res} {ty:TypeId} {pos:String} {af:Array Edge} {gd:Option (Nat × Bool)} {K:Sta→Prop} {q:Bool}
theorem yI {t:Nat} {S T E:TypeId} {u:TypeDesc} {x:Operand} {b:ByteArray} (hS:P.underlying S=some u) (hT:P.underlying T=some (.slice E)) (hE:P.underlying E=some (.int .u8)) (hx:ev env x=some (true,.string b)) (hb:b.size≤maxLen) (ht:fits n (some t)=true)
   (hK:∀ ad c,K ⟨(t,true,.slice ad b.size c)::env,Sh (.slice ad b.size c) (.sl (byR b.data.toList))::ps,hp⟩):Eff P n ⟨some t,.convert S T x,ty,pos,af,gd⟩ ⟨env,ps,hp⟩ q K:=fun w S' fp a hst he hn=>by
 have e1:=he.val hx rfl
 have hrun:=Lib.run_convert_string_bytes (P:=P) w S T E b hS hT hE
 have hexec:(execOp a.eval ⟨some t,.convert S T x,ty,pos,af,gd⟩).run P w=.ok (.value (.slice (some ⟨w.heap.size,0,none⟩) b.size (grownCap w b.size 0 E))) (Lib.bytesWorld w E b):=by
   unfold execOp;dsimp only;rw [e1]
   show ((convert S T (.string b)).bind fun r=>Sem.pure (Next.value r)).run P w=_
   rw [Sem.run_bind',hrun];rfl
 rw [hexec]
 have hsz:=Lib.bytesWorld_size w E b
 have hbel:Below w.heap.size w (Lib.bytesWorld w E b):=⟨by unfold Lib.bytesWorld World.freeze;split<;>rfl,by unfold Lib.bytesWorld World.freeze;split<;>rfl,by unfold Lib.bytesWorld World.freeze;split<;>rfl,by omega,oO _ _ _ _ hrun,fun k hk=>Lib.bytesWorld_at_old w E b k hk⟩
 have hst1:=hst.below hbel
 have hS2:∀ k,S' k→(S' k∨k=w.heap.size):=fun _ h=>.inl h
 refine ⟨_,(fun k=>S' k∨k=w.heap.size),fp,hK (some ⟨w.heap.size,0,none⟩) (grownCap w b.size 0 E),⟨fun p hp' => ?_,fun j R hj=>R.mono (hst1.res j R hj) (fun _ _=>rfl) (fun _ _=>rfl) hS2,fun j hj k hk=>⟨(hst1.lt j hj k hk).1,fun h=>h.elim (hst1.lt j hj k hk).2 fun e => ?_⟩,hst1.dj,fun k hk=>hk.elim (hst1.slt k) fun e=>by rw [e,hsz];omega⟩,he.put (g:=true) (by rw [hn];simpa [fits] using ht) _,
   ⟨hbel.os,hbel.tape,hbel.output,hbel.size,hbel.drawn,fun k hk _=>hbel.block k hk,fun _ h=>.inl h,fun k hk=>hk.elim .inl fun e=>.inr (.inr (by omega))⟩,fun k hk=>.inl hk,fun _=>hbel⟩
 · rcases List.mem_cons.1 hp' with rfl | h2
   · have hcap:b.size≤grownCap w b.size 0 E:=grownCap_ge w b.size 0 E
     have hlen:(byR b.data.toList).length=b.size:=by rw [aeA];simp
     have:=fv.sl (w:=Lib.bytesWorld w E b) (S:=fun k=>S' k∨k=w.heap.size) w.heap.size 0 (grownCap w b.size 0 E) 1 (byR b.data.toList) (fun i _=>.int .u8 (b.data.toList.getD i 0).toNat) (.inr rfl) (by rw [hlen];exact hcap) (grownCap_le_maxLen w b.size 0 E hb)
       (fun i r hi=>by simp only [byR,List.getElem?_map,Option.map_eq_some_iff] at hi;obtain ⟨x,_,rfl⟩:=hi;rfl)
       (fun i j r d h1 h2=>by
         simp only [byR,List.getElem?_map,Option.map_eq_some_iff] at h1
         obtain ⟨x,hx',rfl⟩:=h1
         have hi:i<b.size:=by have:=(List.getElem?_eq_some_iff.1 hx').1;simpa using this
         cases j with
         | succ j=>simp at h2
         | zero=>refine ⟨?_,rfl⟩;rw [show 0+i*1+0=i by omega];exact Lib.bytesWorld_cell w E b i hi)
       (fun i j r d h1 h2=>by
         simp only [byR,List.getElem?_map,Option.map_eq_some_iff] at h1
         obtain ⟨x,hx',rfl⟩:=h1
         cases j with
         | succ j=>simp at h2
         | zero =>
           simp only [List.getElem?_cons_zero,Option.some.injEq] at h2
           subst h2
           have:b.data.toList.getD i 0=x:=by rw [List.getD,hx'];rfl
           rw [this];exact .v _)
     rwa [hlen] at this
   · exact p.mono (hst1.per p h2) (fun _ _=>rfl) hS2
 · have:=(hst.lt j hj k hk).1
   omega
end
theorem aez{l:List UInt8}{k:Nat}{u:UInt8}(h:l[k]? = some u):(byR l)[k]? = some [.v (.int .u8 u.toNat)]:=by unfold byR;rw [List.getElem?_map,h];rfl
end Go.Sy

namespace Go.Proofs.YtebnelfdimiifaaGreatDoor
open Go.RowKit Go.Lp Go.Sy Go.Lv
open Go.Proofs.Tryz
attribute [local irreducible] aL aB awp aC fwp Quiet
theorem kyT:iw Tryz.prog 9 jr:=af2 Tryz.underlying9
theorem yz(l:Sl aF):Con Tryz.prog 157 [l.val] [ShF aF.row l] [] fun r ps hp=>ps=[]∧∃ b,r=.map (some b)∧hp=[fy b jr eI (kx l.l)]:=by
 refine EN1 Tryz.func157 rfl (bS (.of (aH 0 rfl)) (fun hlen=>(aSR (aA rfl (aNn (aSR (LT rfl (gi (jr) (eI) rfl (fun b1_0=>(aHN ?_))))))))))
 refine aA rfl (aNs (aSR (aM rfl (aU rfl (aX Tryz.underlying28 rfl) (aM rfl (aNn (aq (aP [3,9,10,11] [0] [0] (fun (k:Nat) s=>k≤l.l.length∧s=⟨[(3,true,.map (some b1_0)),(9,true,l.val),(10,true,.int .i64 l.l.length),(11,true,.int .i64 k)],[ShF aF.row l],[fy b1_0 jr eI (kx (l.l.take k))]⟩) (fun k=>l.l.length-k) rfl (⟨0,Nat.zero_le _,rfl⟩) ?_))))))))
 rintro k s ⟨hk,rfl⟩
 refine aSR (aU rfl (bC rfl rfl) (aNs ?_))
 refine ao _ rfl (fun h1 => ?_) (fun h1 => ?_)
 ·skip
  have hk':k<l.l.length:=by simpa using h1
  obtain ⟨a,ha⟩:∃ a,l.l[k]? = some a:=⟨l.l[k]'hk',by simp⟩
  have hlt:(l.l.take k).length=k:=by rw [List.length_take];omega
  refine ax (an (ai (aq (aSR (aM rfl (UI Tryz.underlying28 tk55 0 rfl rfl rfl rfl rfl (aI ha) rfl rfl (fun ⟨b4_1,o4_1⟩=>(US 0 tk55 0 rfl rfl rfl rfl rfl (LT rfl (bJ (zs:=[.string .empty,.slice none 0 0]) (by kernel_rfl) rfl (fun b4_3=>(aHN ?_))))))))))))
  refine aA rfl (aW rfl (ba 1 tk55 rfl rfl rfl rfl (aHK ?_)))
  refine aNn (aSR (aM rfl (UO 0 rfl rfl (UL 1 tk9 rfl rfl rfl rfl (aU rfl (xi (k:=a.name) (v0:=(0:Int)) 0 Tryz.underlying249 (kyT) (by kernel_rfl) rfl rfl rfl) (aM rfl (aU rfl (ck rfl rfl) (aU rfl (ck rfl rfl) (aA rfl (aA rfl (aNn (aSR (aM rfl (aU rfl (dO rfl) (aNn ?_)))))))))))))))
  refine ao _ rfl (fun h2 => ?_) (fun h2 => ?_)
  ·skip
   have hno:oS (l.l.take k) a.name=none:=by simpa using h2
   have hm:iq (kx (l.l.take k)) a.name (k:Int)=kx (l.l.take (k+1)):=by
     funext s
     unfold kx iq
     rw [List.take_add_one,ha,Option.toList_some,tN,hlt]
     by_cases hs:s=a.name
     · subst hs;rw [if_pos rfl,hno,if_pos rfl];rfl
     · rw [if_neg hs,if_neg (Ne.symm hs),Option.or_none]
   refine aa (aM rfl (UO 0 rfl rfl (UL 1 tk9 rfl rfl rfl rfl (aM rfl (aW rfl (fe (k:=a.name) (v:=(k:Int)) 0 Tryz.underlying249 (kyT) rfl rfl rfl rfl (aHK ?_)))))))
   refine bP (bu (an (aa (aU rfl (aV rfl rfl (by omega)) (aM rfl (aNn ?_))))))
   refine ⟨[3,9,10,11],[0],[0],rfl,?_⟩
   exact ⟨k+1,⟨by omega,by rw [← hm];rfl⟩,by omega⟩
  ·skip
   have hyes:(oS (l.l.take k) a.name).isSome=true:=by simpa using h2
   have hm:kx (l.l.take k)=kx (l.l.take (k+1)):=by
     funext s
     unfold kx
     rw [List.take_add_one,ha,Option.toList_some,tN]
     by_cases hs:a.name=s
     · subst hs
       obtain ⟨i,hi⟩:=Option.isSome_iff_exists.1 hyes
       rw [hi];rfl
     · rw [if_neg hs,Option.or_none]
   refine ax (bu (an (aa (aU rfl (aV rfl rfl (by omega)) (aM rfl (aNn ?_))))))
   refine ⟨[3,9,10,11],[0],[0],rfl,?_⟩
   exact ⟨k+1,⟨by omega,by rw [← hm];rfl⟩,by omega⟩
 ·skip
  refine aR (aS (aS (aY (an (aSR (aM rfl (aA rfl (aNn (az (FZ1 [0] Tryz.results157 rfl ?_))))))))))
  exact ⟨rfl,b1_0,rfl,by rw [List.take_of_length_le (by simpa using h1)];rfl⟩
theorem abk(s:ByteArray)(hs:s.size≤maxLen):Con Tryz.prog 158 [.string s] [] [] fun r _ _=>r=.bool (fg s):=by
 have hs':s.size≤9223372036854775807:=hs
 have hlen:(il s).length=s.size:=rfl
 refine EN1 Tryz.func158 rfl (aSR (aA rfl (aNs (aSR (aM rfl ?_)))))
 refine LT rfl (yI Tryz.underlying9 Tryz.underlying60 Tryz.underlying5 rfl (by assumption) rfl (fun a1_1 c1_1 => ?_))
 refine aST ?_
 refine aU rfl (aX Tryz.underlying60 rfl) (aM rfl (aNn (aq ?_)))
 refine aP [0,6,7,8] [0] [] (fun (k:Nat) st=>(k≤s.size∧∀ u∈(il s).take k,(decide (33≤u.toNat) && decide (u.toNat≤126))=true)∧st=⟨[(0,true,.string s),(6,true,.slice a1_1 s.size c1_1),(7,true,.int .i64 s.size),(8,true,.int .i64 k)],[Sh (.slice a1_1 s.size c1_1) (.sl (byR (il s)))],[]⟩) (fun k=>s.size-k) rfl (⟨0,⟨Nat.zero_le _,fun u h=>by cases h⟩,rfl⟩) ?_
 rintro k st ⟨⟨hk,hpre⟩,rfl⟩
 refine aSR (aU rfl (bC rfl rfl) (aNs ?_))
 refine ao _ rfl (fun h1 => ?_) (fun h1 => ?_)
 ·skip
  have hk':k<s.size:=by simpa using h1
  obtain ⟨u,hu⟩:∃ u,(il s)[k]? = some u:=⟨_,List.getElem?_eq_getElem (by omega)⟩
  refine ax (an (ai (aq (aSR (UI Tryz.underlying60 tk5 0 rfl rfl rfl rfl rfl (aez hu) rfl rfl (fun ⟨b3_0,o3_0⟩ => ?_))))))
  refine US 0 tk5 0 rfl rfl rfl rfl rfl (aA rfl (aNn (aSR (aM rfl (aU rfl (bC rfl rfl) (aM rfl (aG rfl rfl (fun hc=>aT rfl) (aG rfl rfl (fun hc=>cN (ae rfl hc) rfl) (aU rfl (dp rfl rfl (fun h=>gf rfl h)) (aNn ?_))))))))))
  refine ao _ rfl (fun h2 => ?_) (fun h2 => ?_)
  ·skip
   refine aSR (aA rfl (aNn (az (cH (bw (bw (cH (bw (FZ1 [] Tryz.results158 rfl (congrArg Value.bool (Eq.symm ?_)))))))))))
   have hb:(decide (33≤u.toNat) && decide (u.toNat≤126))=false:=by simp at h2 ⊢;omega
   unfold fg
   rw [Bool.and_eq_false_iff];left
   rw [List.all_eq_false]
   exact ⟨u,List.mem_of_getElem? hu,by rw [hb];decide⟩
  ·skip
   refine ax (bu (an (aa (aU rfl (aV rfl rfl (by omega)) (aM rfl (aNn ?_))))))
   refine ⟨[0,6,7,8],[0],[],rfl,?_⟩
   refine ⟨k+1,⟨⟨hk',fun v hv => ?_⟩,rfl⟩,by omega⟩
   rw [List.take_add_one,hu,Option.toList_some] at hv
   rcases List.mem_append.1 hv with h | h
   · exact hpre v h
   · rw [List.mem_singleton.1 h];simp at h2 ⊢;omega
 ·skip
  refine aR (aS (aS (aY (an (aSR (aM rfl (aU rfl (cB Tryz.underlying9 rfl) (aU rfl (fH rfl rfl) (aM rfl (aG rfl rfl (fun hc=>aT rfl) (aG rfl rfl (fun hc=>cB Tryz.underlying9 (ae rfl hc)) (aG rfl rfl (fun hc=>eY (ae rfl hc) rfl) (aU rfl (bB rfl rfl (fun h=>gt rfl h)) (aA rfl (aNn (az ?_))))))))))))))))
  refine FZ1 [] Tryz.results158 rfl (congrArg Value.bool (Eq.symm ?_))
  have hkl:k=s.size:=by simp at h1;omega
  rw [hkl,← hlen,List.take_length] at hpre
  unfold fg
  rw [List.all_eq_true.2 hpre,Bool.true_and]
  congr 1<;>simp<;>omega
theorem q5 (l:Sl aF):Con Tryz.prog 91 [l.val] [ShF aF.row l,b6 aF.ok l.l] [] (YN Value.bool fun b=>b=true↔aew l.l):=by
 refine EN1 Tryz.func91 rfl (aSR (aA rfl (aNs (aSR (aM rfl (aU rfl (aX Tryz.underlying28 rfl) (aU rfl (cN rfl rfl) (aNn ?_))))))))
 refine ao _ rfl (fun h1 => ?_) (fun h1 => ?_)
 ·skip
  refine aSR (aA rfl (aNn (az (bw (FZ1 [] Tryz.results91 rfl ?_)))))
  exact ⟨⟨rfl,rfl⟩,_,rfl,fun h=>absurd h (by decide),fun hv=>absurd h1 (by have:=hv.len;simp;omega)⟩
 ·skip
  have hle:l.l.length≤4096:=by simp at h1;omega
  refine ax (an (aSR (aM rfl (LT rfl (EC [1] [] rfl (yz l) ?_)))))
  rintro _ _ _ ⟨rfl,bat,rfl,rfl⟩
  refine aST ?_
  refine aA rfl (aNs (aSR (aM rfl (aU rfl (age 0 Tryz.underlying249 kyT rfl rfl) (aM rfl (aU rfl (aX Tryz.underlying28 rfl) (aU rfl (fI rfl rfl) (aNn ?_))))))))
  refine ao _ rfl (fun h2 => ?_) (fun h2 => ?_)
  ·skip
   refine aSR (aA rfl (aNn (az (bw (FZ1 [] Tryz.results91 rfl ?_)))))
   exact ⟨⟨rfl,rfl⟩,_,rfl,fun h=>absurd h (by decide),fun hv=>absurd h2 (by rw [(tP l.l).2 hv.nd];simp)⟩
  ·skip
   have hnd:(l.l.map (·.name)).Nodup:=(tP l.l).1 (by simp at h2;omega)
   refine ax (an (aSR (aA rfl (aNs (ai (ef 253 2 ?_))))))
   show awp _ _ _ _ ⟨_,_,[_,_]⟩
   refine aa (aM rfl (aU rfl (aX Tryz.underlying28 rfl) (aM rfl (aNn (aq (aP [0,3,4,22,23,24] [1,0] [0,1] (fun (q:Nat × (Value × List dm)) st=>VI l.l q.1 q.2.2∧st=⟨[(0,true,l.val),(3,true,.map (some bat)),(4,true,q.2.1),(22,true,l.val),(23,true,.int .i64 l.l.length),(24,true,.int .i64 q.1)],[ShF aF.row l,b6 aF.ok l.l],[fy bat jr eI (kx l.l),aN q.2.1 253 2 (q.2.2.map dm.row)]⟩) (fun q=>l.l.length-q.1) rfl (⟨(0,(.slice none 0 0,[])),VI.start l.l,rfl⟩) ?_))))))
   rintro ⟨k,av,gs⟩ st ⟨hI,rfl⟩
   dsimp only at hI ⊢
   have hkl:=hI.le
   refine aSR (aU rfl (bC rfl rfl) (aNs ?_))
   refine ao _ rfl (fun h3 => ?_) (fun h3 => ?_)
   ·skip
    have hk':k<l.l.length:=by simpa using h3
    obtain ⟨d,hd⟩:∃ d,l.l[k]? = some d:=⟨_,List.getElem?_eq_getElem hk'⟩
    have hdm:=List.mem_of_getElem? hd
    refine ax (an (ai (aq (aSR (aM rfl (UI Tryz.underlying28 tk55 0 rfl rfl rfl rfl rfl (aI hd) rfl rfl (fun ⟨b9_1,o9_1⟩=>(US 0 tk55 0 rfl rfl rfl rfl rfl (LT rfl (bJ (zs:=[.string .empty,.slice none 0 0]) (by kernel_rfl) rfl (fun b9_3=>(aHN ?_))))))))))))
    refine aA rfl (aW rfl (ba 2 tk55 rfl rfl rfl rfl (aHK ?_)))
    refine aNn (aSR (LT rfl (gi (jr) (vBo) rfl (fun b10_0=>(aHN ?_)))))
    refine aA rfl (aNs (aSR (UO 1 rfl rfl (UL 2 tk27 rfl rfl rfl rfl (aU rfl (aX Tryz.underlying27 rfl) (aM rfl (aNn (aq (bS (aF.f_parents (Ent.all (f:=aF.ok) (.of (aH 2 rfl)) hd)) (fun hpl => ?_))))))))))
    refine aP [0,3,4,5,6,7,22,23,24,31,32,33] [1,0] [0,1,2,3] (fun (q:Nat × (Value × List dm)) st=>VJ l.l k d q.1 q.2.2∧st=⟨[(0,true,l.val),(3,true,.map (some bat)),(4,true,q.2.1),(5,true,.int .i64 k),(6,true,.pointer (some ⟨b9_3,0,none⟩)),(7,true,.map (some b10_0)),(22,true,l.val),(23,true,.int .i64 l.l.length),(24,true,.int .i64 k),(31,true,d.parents.val),(32,true,.int .i64 d.parents.l.length),(33,true,.int .i64 q.1)],[ShF aF.row l,b6 aF.ok l.l],[fy bat jr eI (kx l.l),aN q.2.1 253 2 (q.2.2.map dm.row),Box b9_3 55 d.vs,fy b10_0 jr vBo (fw (d.parents.l.take q.1))]⟩) (fun q=>d.parents.l.length-q.1) rfl (⟨(0,(av,gs)),hI.into hd,by show _=(⟨_,_,[_,_,_,fy b10_0 jr vBo (fw [])]⟩:Sta);rw [← rT];rfl⟩) ?_
    rintro ⟨m,av2,gs2⟩ st ⟨hJ,rfl⟩
    dsimp only at hJ ⊢
    have hml:=hJ.ml
    have hms:=hJ.short
    have hln:=hJ.ln
    have hmul:l.l.length*k≤4096*4096:=Nat.mul_le_mul hle (by omega)
    refine aSR (aU rfl (bC rfl rfl) (aNs ?_))
    refine ao _ rfl (fun h4 => ?_) (fun h4 => ?_)
    ·skip
     have hm':m<d.parents.l.length:=by simpa using h4
     obtain ⟨p,hp⟩:∃ p,d.parents.l[m]? = some p:=⟨_,List.getElem?_eq_getElem hm'⟩
     refine ax (an (ai (aq (aSR (jo true rfl rfl (fun _=>bI Tryz.underlying27 tk9 rfl ((aF.f_parents (Ent.all (f:=aF.ok) (.of (aH 1 rfl)) hd))) rfl (aI hp) rfl rfl) (fun h=>absurd h (by decide)) (fun ⟨b13_0,o13_0⟩=>(US 0 tk9 0 rfl rfl rfl rfl rfl (aA rfl (aNn (aSR (aM rfl (aM rfl (aU rfl (xi (k:=p) (v0:=(0:Int)) 0 Tryz.underlying249 (kyT) (by kernel_rfl) rfl rfl rfl) ?_)))))))))))))
     refine aM rfl (aU rfl (ck rfl rfl) (aU rfl (ck rfl rfl) (aA rfl (aA rfl (aNs (aSR (aM rfl (aU rfl (dO rfl) (aM rfl (aG rfl rfl (fun hc=>aT rfl) (aG rfl rfl (fun hc=>aT rfl) (aG rfl rfl (fun hc=>mz (k:=p) (v0:=false) 3 Tryz.underlying162 (kyT) (by kernel_rfl) (ae rfl hc) (ae rfl hc) rfl) (aU rfl (dp rfl rfl (fun h=>gf rfl h)) (aNn ?_))))))))))))))
     refine ao _ rfl (fun h5 => ?_) (fun h5 => ?_)
     ·skip
      refine aSR (aA rfl (aNn (az (bw (cH (bw (bw (cH (bw (cH (bw (bw (cH (bw (FZ1 [] Tryz.results91 rfl ?_)))))))))))))))
      exact ⟨⟨rfl,rfl⟩,_,rfl,fun h=>absurd h (by decide),fun hv=>absurd h5 (by
        have k1:(kx l.l p).isSome=true:=(tQ _ _).2 ((hv.pk d hdm).2 p (List.mem_of_getElem? hp))
        have k2:=abA (hv.pk d hdm).1 hp
        rw [xw];simp [k1,k2])⟩
     ·skip
      have h5':(kx l.l p).isSome=true∧(fw (d.parents.l.take m) p).getD false=false:=by simpa using h5
      obtain ⟨i,hi⟩:∃ i,oS l.l p=some i:=by
        have h:=h5'.1
        cases hh:oS l.l p with
        | none=>simp [kx,hh] at h
        | some i=>exact ⟨i,rfl⟩
      have hs:p ∉ d.parents.l.take m:=fun hmem=>by
        have h:=h5'.2
        rw [xw] at h
        simp [hmem] at h
      have hvi:(kx l.l p).getD 0=(i:Int):=by simp [kx,hi]
      refine ax (an (aSR (aM rfl (aM rfl (aW rfl (fe (k:=p) (v:=true) 3 Tryz.underlying162 (kyT) rfl rfl rfl rfl (aHK ?_)))))))
      refine aNn (aa (aM rfl (aM rfl (aM rfl (aU rfl (ib (l:=[(0,.tmp 53),(1,.tmp 54)]) (zs:=[.int .i64 0,.int .i64 0]) (pl:=[(0,1),(1,1)]) (by kernel_rfl) (by kernel_rfl) (by kernel_rfl) rfl rfl rfl) (LT rfl (WL (zs:=[.int .i64 0,.int .i64 0]) el251 rfl rfl rfl (.more rfl (.v rfl (.v rfl .nil)) .nil) rfl rfl (fun v18_4=>(aHN ?_)))))))))
      refine aW rfl (cK 1 el251 rfl rfl rfl rfl (dW 4 el251 rfl (by simp)) (by first | assumption | simp) (by rw [List.length_map];show gs2.length+1≤_;omega) (gs2.length+1) (by rw [List.length_map];rfl) (fun v18_5 c18_5 => ?_))
      refine aHK ?_
      refine aA rfl (bP (bu (an (aa (aU rfl (aV rfl rfl (by omega)) (aM rfl (aNn ?_)))))))
      refine ⟨[0,3,4,5,6,7,22,23,24,31,32,33],[1,0],[0,1,2,3],rfl,?_⟩
      refine ⟨(m+1,(.slice v18_5 (gs2.length+1) c18_5,gs2++[⟨k,i⟩])),⟨hJ.step hd hp hi hs,?_⟩,by dsimp only;omega⟩
      show _=(⟨_,_,[_,aN (.slice v18_5 (gs2.length+1) c18_5) 253 2 ((gs2++[dm.mk (k:Int) (i:Int)]).map dm.row),_,fy b10_0 jr vBo (fw (d.parents.l.take (m+1)))]⟩:Sta)
      rw [List.take_add_one,hp,Option.toList_some,ig,List.map_append,List.map_singleton,← hvi]
      rfl
    ·skip
     refine aR (aS (aS (aY (an (ai (fC (aF.f_name (Ent.all (f:=aF.ok) (.of (aH 1 rfl)) hd)) (fun hnl=>(aa (UO 0 rfl rfl (UL 2 tk9 rfl rfl rfl rfl (aU rfl (Q0 rfl (abk d.name hnl)) (aU rfl (dO rfl) (aNn ?_)))))))))))))
     refine ao _ rfl (fun h6 => ?_) (fun h6 => ?_)
     ·skip
      refine aSR (aA rfl (aNn (az (cH (bw (bw (cH (bw (FZ1 [] Tryz.results91 rfl ?_)))))))))
      exact ⟨⟨rfl,rfl⟩,_,rfl,fun h=>absurd h (by decide),fun hv=>absurd h6 (by rw [hv.nm d hdm];decide)⟩
     ·skip
      have hnm:fg d.name=true:=by simpa using h6
      refine ax (bu (an (aa (aU rfl (aV rfl rfl (by omega)) (aM rfl (aNn ?_))))))
      refine ⟨[0,3,4,22,23,24],[1,0],[0,1],rfl,?_⟩
      exact ⟨(k+1,(av2,gs2)),⟨hJ.done hd hnm (by simp at h4;omega),rfl⟩,by dsimp only;omega⟩
   ·skip
    have hkn:k=l.l.length:=by simp at h3;omega
    have hgl:=hI.ln
    have hmul:l.l.length*k≤4096*4096:=Nat.mul_le_mul hle (by omega)
    refine aR (aS (aS (aY (an (ai (fK 1 rfl (fun w S F hh=>ga hh) (fun hov => ?_)))))))
    obtain ⟨gad,gcp,rfl⟩:=hov
    rw [List.length_map]
    refine ep 1 rfl (aa (aM rfl (aU rfl (aX Tryz.underlying28 rfl) (aM rfl ?_))))
    refine LT rfl (EC [2] [] rfl (acL l.l.length (by omega) ⟨gad,gcp,gs⟩ (by dsimp only;omega) hI.ok) ?_)
    rintro _ _ _ ⟨⟨rfl,rfl⟩,ad2,k2,c2,rfl,hk2⟩
    refine aST ?_
    refine aU rfl (aX Tryz.underlying25 rfl) (aU rfl (cA rfl rfl) (aA rfl (aNn (az (FZ1 [] Tryz.results91 rfl ?_)))))
    have har:=hI.ar
    have hnmA:=hI.nm
    have hpkA:=hI.pk
    rw [hkn] at har
    rw [hkn,List.take_length] at hnmA hpkA
    rw [har] at hk2
    refine ⟨⟨rfl,rfl⟩,_,rfl,fun h=>⟨hle,hnd,hnmA,hpkA,hk2.1 (by simpa using h)⟩,fun hv => ?_⟩
    rw [hk2.2 hv.ac];rfl
end Go.Proofs.YtebnelfdimiifaaGreatDoor

namespace Go.Sy
open Go.RowKit Go.Lp
def isF(P:Program)(f:FuncId)(c:Code)(nt:Nat)(rs:Array ResultVar):Prop:=∃ fn,P.funcs[f]? = some fn∧fn.body=some c∧fn.ntmps=nt∧fn.results=rs
theorem Con.enterG{P:Program}{f:FuncId}{fn:Func}{c:Code}{nt:Nat}{args:List Value}{ps:List Per}{hp:List Res}{R:Value→List Per→List Res→Prop}(hf:P.funcs[f]? = some fn)(hb:fn.body=some c)(hn:fn.ntmps=nt)(hle:args.length≤nt)
   (h:awp P ⟨nt,none,[]⟩ c (gl P fn R) ⟨(List.range args.length).zipWith (fun i v=>(i,true,v)) args,ps,hp⟩):Con P f args ps hp R:=by
 subst hn
 exact Con.enter hf hb hle h
structure ElT (P:Program) (E A:TypeId) (α:Type) where
 ag:Bool
 sz:Nat
 zs:List Value
 vs:α→List Value
 row:α→List D
 vl:α→Value
 tE:tyk P E=some (ag,sz)
 tA:tyk P A=some (false,1)
 uA:P.underlying A=some (.slice E)
 el:elB P A E sz=true
 hz:fc P E=some zs
 h0:0<sz
 hm:sz≤16777216
 hzl:zs.length=sz
 ln:∀ x,(vs x).length=sz
 rw_:∀ x,row x=(vs x).map .v
 ld:∀ x,rdC ag sz (vs x) 0=some (vl x)
 ldD:∀ x,rdD ag sz (row x) 0=some (vl x)
 cl:∀ x,(vl x).cells.toList=vs x
 on:∀ x,(vs x).all (·.oneCell')=true
theorem ElT.one{P:Program}{E A:TypeId}{α:Type}(X:ElT P E A α)(x:α):∀ v∈X.vs x,v.oneCell'=true:=List.all_eq_true.1 (X.on x)
theorem vg:∀ (cs vs:List Value),(∀ v∈vs,v.oneCell'=true)→vs.length=cs.length→wrL vs.length cs 0 vs=some vs
 | [],[],_,_=>rfl
 | _::cs,v::vs,h1,h2=>by
   have:=vg cs vs (fun u hu=>h1 u (by simp [hu])) (by simpa using h2)
   simp only [List.length_cons,wrL,h1 v (by simp),this]
theorem acj(ps:List Per):∀ (vs:List Value),(∀ v∈vs,v.oneCell'=true)→RC ps vs (vs.map .v)
 | [],_=>.nil
 | v::vs,h=>.v (h v (by simp)) (acj ps vs fun u hu=>h u (by simp [hu]))
section
variable {P:Program} {E A:TypeId} {α:Type} {n:Fr} {env:Env} {ps:List Per} {hp:List Res} {ty:TypeId} {pos:String} {af:Array Edge} {gd:Option (Nat × Bool)} {K:Sta→Prop} {q:Bool}
theorem agB(X:ElT P E A α)(x:α){t:Nat}{y:Operand}(hx:evs env [y]=some [X.vl x])(ht:fits n.size (some t)=true)(hK:∀ ad,K ⟨(t,true,.slice ad 1 1)::env,ps,hp++[aN (.slice ad 1 1) E X.sz [X.row x]]⟩) :
   Eff P n ⟨some t,.buildSlice A 1 #[(0,y)],ty,pos,af,gd⟩ ⟨env,ps,hp⟩ q K:=by
 have hzl:=X.hzl
 refine aaA (l:=[(0,y)]) (zs:=X.zs) (rows:=[X.row x]) (cs:=X.vs x) (by rw [hzl];exact X.el) X.hz (by rw [hzl];exact X.h0) (by decide) (by rw [hzl,Nat.one_mul];exact X.hm) rfl hx ?_ ?_ rfl ht (by rw [hzl];exact hK)
 · show (match wrL X.zs.length (X.zs++[]) (0*X.zs.length) (X.vl x).cells.toList with | some c=>bld _ c [] | none=>none)=_
   rw [X.cl,List.append_nil,Nat.zero_mul,hzl,← X.ln x,vg _ _ (X.one x) (by rw [X.ln,hzl])];rfl
 · have h:=RCs.cons (ps:=ps) (sz:=X.zs.length) (by rw [hzl];exact X.ln x) (acj ps (X.vs x) (X.one x)) .nil
   rw [List.append_nil,← X.rw_ x] at h
   exact h
theorem ElT.rl(X:ElT P E A α)(x:α):(X.row x).length=X.sz:=by rw [X.rw_,List.length_map,X.ln]
theorem ElT.put(X:ElT P E A α)(x:α):wrL X.sz X.zs 0 (X.vl x).cells.toList=some (X.vs x):=by
 rw [X.cl,← X.ln x,vg _ _ (X.one x) (by rw [X.ln,X.hzl])]
end
end Go.Sy

