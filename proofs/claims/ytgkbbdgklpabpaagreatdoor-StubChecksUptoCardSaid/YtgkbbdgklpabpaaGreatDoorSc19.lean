/- Parts of the proof, in build order. No condition. -/
import Derived.Test.YtgkbbdgklpabpaaGreatDoorSc18
import Derived.Test.YtgkbbdgklpabpaaGreatDoorSc12
import Derived.Test.YtgkbbdgklpabpaaGreatDoorSc07
import Derived.Test.YtgkbbdgklpabpaaGreatDoorSc05
import Derived.Test.YtgkbbdgklpabpaaGreatDoorSc09
import Derived.Test.YtgkbbdgklpabpaaGreatDoorSc15
import Derived.Test.YtgkbbdgklpabpaaGreatDoorSc13
import Derived.Test.YtgkbbdgklpabpaaGreatDoorSc06
import Derived.Deep.Slices
import Derived.OpenShut
set_option linter.unusedSimpArgs false
set_option linter.unusedVariables false
set_option maxHeartbeats 20000000
set_option maxRecDepth 20000
namespace Go.Sy
open Go.RowKit
theorem abR{P:Program}{n:Fr}{s:Sta}{d:Option Tmp}{ty:TypeId}{pos:String}{af:Array Edge}{gd:Option (Nat × Bool)}{x:Operand}{T t' E:TypeId}{ad:Option Addr}{k c:Nat}(hT:P.underlying T=some (.slice E))(hx:ev s.env x=some (true,.slice ad k c)):Quiet P n ⟨d,.binOp .neq T x (.const (.slice none 0 0)) t',ty,pos,af,gd⟩ s (.bool (!ad.isNone)) :=
 .run2 (vy:=.slice none 0 0) hx rfl fun ρ w h1 h2=>by
   unfold execOp;dsimp only;rw [h1,h2]
   simp only [eqGuard_at_slice,binOp,Sem.run_bind,Sem.run_pure,run_equal_slice_nil w T E ad k c hT,Result.andThen_ok]
end Go.Sy
namespace Go.Proofs.YtgkbbdgklpabpaaGreatDoor
open Go.RowKit Go.Lp Go.Sy Go.Lv
open Go.Proofs.Tryz
attribute [local irreducible] aL aB awp aC fwp Quiet
abbrev xz:Int→List D:=fun z=>[.v (encI z)]
theorem qw(a b:Sl Int):Con Tryz.prog 133 [a.val,b.val] [ShF xz a,ShF xz b] [] (YN (fun z:Int=>.int .i64 z) fun _=>True):=by
 refine EN2 Tryz.func133 rfl (aO (.of (ax 0 rfl)) (fun hlen=>(go 3 [0,0,3,0] ?_)))
 refine aF [0,1,9,10,11] [1,0] [] (fun (k:Nat) st=>k≤a.l.length∧st=⟨[(0,true,a.val),(1,true,b.val),(9,true,a.val),(10,true,.int .i64 a.l.length),(11,true,.int .i64 k)],[ShF xz a,ShF xz b],[]⟩) (fun k=>a.l.length-k) rfl (⟨0,Nat.zero_le _,rfl⟩) ?_
 rintro k st ⟨hk,rfl⟩
 refine go 3 [0] ?_
 refine aa _ rfl (fun h1 => ?_) (fun h1 => ?_)
 ·skip
  have hk':k<a.l.length:=by simpa using h1
  obtain ⟨x,hx⟩:∃ x,a.l[k]? = some x:=⟨_,List.getElem?_eq_getElem hk'⟩
  refine go 0 [0] ?_
  refine UI Tryz.underlying33 tk3 0 rfl rfl rfl rfl rfl (ak hx) rfl rfl (fun ⟨b3_1,o3_1⟩=>(go 2 [2,0,0,0,0,3,0] ?_))
  refine aa _ rfl (fun h2 => ?_) (fun h2 => ?_)
  ·skip
   refine go 2 [0] ?_
   refine ae (aj (aK (aj (aj (aK (aj (FZ1 [] Tryz.results133 rfl ?_)))))))
   exact ⟨⟨rfl,rfl⟩,_,rfl,trivial⟩
  ·skip
   have hb2:k<b.l.length:=by simp at h2;omega
   obtain ⟨y,hy⟩:∃ y,b.l[k]? = some y:=⟨_,List.getElem?_eq_getElem hb2⟩
   refine go 0 [0,0] ?_
   refine UI Tryz.underlying33 tk3 2 rfl rfl rfl rfl rfl (ak hy) rfl rfl (fun ⟨b6_2,o6_2⟩=>(go 0 [2,0,0,0] ?_))
   refine aU rfl (Q0 rfl (fQ _ _)) (go 2 [0,0,0] ?_)
   refine aa _ rfl (fun h3 => ?_) (fun h3 => ?_)
   ·skip
    refine go 2 [0,0] ?_
    refine ae (aK (aj (aj (aK (aj (FZ1 [] Tryz.results133 rfl ?_))))))
    exact ⟨⟨rfl,rfl⟩,_,rfl,trivial⟩
   ·skip
    refine go 1 [0,0] ?_
    refine an ?_
    refine ⟨[0,1,9,10,11],[1,0],[],rfl,?_⟩
    exact ⟨k+1,⟨hk',rfl⟩,by omega⟩
 ·skip
  refine go 2 [0,3,0,3,0] ?_
  refine aa _ rfl (fun h4 => ?_) (fun h4 => ?_)
  ·skip
   refine go 2 [0] ?_
   refine ae (aj (FZ1 [] Tryz.results133 rfl ?_))
   exact ⟨⟨rfl,rfl⟩,_,rfl,trivial⟩
  ·skip
   refine go 2 [0] ?_
   refine ae (FZ1 [] Tryz.results133 rfl ?_)
   exact ⟨⟨rfl,rfl⟩,_,rfl,trivial⟩
theorem xb{N:Nat}{l:List cj}(hr:∀ a∈l,fZ N a){ps:List (List Int)}(hP:PX N (ck N l) ps)(h1:∀ p∈ps,p.length≤1)(h2:∀ a∈l,a.from_≠a.to_)(v:Int)(v0:0≤v)(v1:v<N):¬ OnC (ck N l) v:=fun ⟨w,hw,hc⟩=>by
 by_cases e:w=v
 · subst e
   obtain ⟨a,ha,e1,e2⟩:=(ja hr ⟨v0,v1⟩).1 hw
   exact h2 a ha (e1.trans e2.symm)
 · have hwr:=lW hr v w hw
   obtain ⟨p,hp,a,b⟩:=hP.cy v w v0 v1 hwr.1 hwr.2 (Rc.one hw) hc
   have:=h1 p hp
   match p,this with
   | [],_=>cases a
   | [x],_=>exact e ((List.mem_singleton.1 b).trans (List.mem_singleton.1 a).symm)
   | _::_::_,h=>simp at h
theorem zj{N:Nat}{nx:List (List Int)}{ps:List (List Int)}(hP:PX N nx ps){p:List Int}(hp:p∈ps)(hnd:p.Nodup)(hl:1<p.length){x:Int}(hx:p[0]? = some x):OnC nx x:=by
 match p,hl with
 | a::b::p,_ =>
   obtain rfl:a=x:=by simpa using hx
   have hne:a≠b:=fun e=>(List.nodup_cons.1 hnd).1 (by rw [e];exact List.mem_cons_self)
   exact OnC.of_two (hP.sc _ hp a List.mem_cons_self b (by simp)) (hP.sc _ hp b (by simp) a List.mem_cons_self) hne
theorem abU{N:Nat}{l:List cj}(hr:∀ a∈l,fZ N a){y:Int}(hy:0≤y∧y<N){u v:Int}(h:Rc (ck N l) u v):Rch N (ck N l) (cr [y]) u→Rch N (ck N l) (cr [y]) v:=by
 induction h with
 | refl=>exact id
 | step h _ ih=>exact fun k=>ih (.arc k h)
theorem zi{N:Nat}{l:List cj}(hr:∀ a∈l,fZ N a){y:Int}(hy:0≤y∧y<N)(h:OnC (ck N l) y):∃ a∈l,a.to_=y∧0≤elt (lg N l [y]) a.from_:=by
 obtain ⟨z,h1,h2⟩:=h.back
 have hz:=abU hr hy h1 (.root (pT.2 List.mem_cons_self) hy.1 hy.2)
 have hzr:=abV (lW hr) hz
 obtain ⟨a,ha,e1,e2⟩:=(ja hr hzr).1 h2
 exact ⟨a,ha,e2,by rw [e1];exact (pj (iP _) (lW hr) hzr.1 hzr.2).2 hz⟩
theorem yL (N:Nat) (hN:N≤10000) (l:Sl cj) (hl:l.l.length≤100000000) (hr:∀ a∈l.l,fZ N a) :
   Con Tryz.prog 99 [.int .i64 N,l.val] [ShF cj.row l] [] fun r ps hp=>(ps=[]∧hp=[])∧∃ ad k c,r=.slice ad k c∧(k=0↔∀ v:Int,0≤v→v<N→¬ OnC (ck N l.l) v):=by
 have hT:=uB hr
 refine EN2 Tryz.func99 rfl (go 0 [0,0,0,0,0] ?_)
 refine LT rfl (EC [0] [] rfl (wI N (by omega) l hl hr) ?_)
 rintro _ _ _ ⟨rfl,P,rfl,hok,hPX,rfl⟩
 refine aST ?_
 refine go 3 [33,0] ?_
 refine aO (.of (ax 0 rfl)) (fun hPl => ?_)
 refine aF [0,1,5,18,19,20] [2,1,0] [] (fun (q:Nat × Int) st=>(q.1≤P.l.length∧0≤q.2∧q.2≤N∧((q.2=N∨OnC (ck N l.l) q.2)∧(q.2=N→∀ p∈P.l.take q.1,p.l.length≤1)))∧st=⟨[(0,true,.int .i64 N),(1,true,l.val),(5,true,.int .i64 q.2),(18,true,P.val),(19,true,.int .i64 P.l.length),(20,true,.int .i64 q.1)],[ShF slR P,bu (ShF bd) P.l,ShF cj.row l],[]⟩) (fun q=>P.l.length-q.1) rfl (⟨(0,(N:Int)),⟨Nat.zero_le _,by dsimp only;omega,by dsimp only;omega,.inl rfl,fun _ p hp=>(by cases hp)⟩,rfl⟩) ?_
 rintro ⟨k,z⟩ st ⟨⟨hk,hz0,hzN,hz1⟩,rfl⟩
 dsimp only at hk hz0 hzN hz1 ⊢
 refine go 3 [0] ?_
 refine aa _ rfl (fun h1 => ?_) (fun h1 => ?_)
 ·skip
  have hk':k<P.l.length:=by simpa using h1
  obtain ⟨p,hp⟩:∃ p,P.l[k]? = some p:=⟨_,List.getElem?_eq_getElem hk'⟩
  have hpk:=hok p (List.mem_of_getElem? hp)
  obtain ⟨x0,hx0⟩:∃ x0,p.l[0]? = some x0:=⟨_,List.getElem?_eq_getElem (List.length_pos_iff.2 hpk.ne)⟩
  have hx0r:=hpk.rg x0 (List.mem_of_getElem? hx0)
  have hpsh:=hpk.sh
  have hPm:p.l∈P.l.map (·.l):=List.mem_map_of_mem (List.mem_of_getElem? hp)
  have htk:P.l.take (k+1)=P.l.take k++[p]:=by rw [List.take_add_one,hp];rfl
  refine aD (an (aq (aH (aSR (UI Tryz.underlying201 tk33 0 rfl rfl rfl rfl rfl (ak hp) rfl rfl (fun ⟨b4_0,o4_0⟩=>(go 2 [2,0,0,3,0] ?_)))))))
  refine aa _ rfl (fun h2 => ?_) (fun h2 => ?_)
  ·skip
   have hlong:1<p.l.length:=by simp at h2;omega
   refine go 0 [0,0] ?_
   refine bI true rfl rfl (fun _=>ai Tryz.underlying33 tk3 rfl ((Ent.all (f:=ShF bd) (.of (ax 2 rfl)) hp)) rfl (ak hx0) rfl rfl) (fun h=>absurd h (by decide)) (fun ⟨b6_2,o6_2⟩=>(go 1 [2,0,0,0,0] ?_))
   refine an ?_
   refine ⟨[0,1,5,18,19,20],[2,1,0],[],rfl,?_⟩
   have hcx:=zj hPX hPm hpk.nd hlong hx0
   have hcm:OnC (ck N l.l) (min z x0):=by
     rcases hz1.1 with h | h
     · rw [show min z x0=x0 by omega];exact hcx
     · rcases Int.le_total z x0 with h2 | h2
       · rw [Int.min_eq_left h2];exact h
       · rw [Int.min_eq_right h2];exact hcx
   exact ⟨(k+1,min z x0),⟨⟨by dsimp only;omega,by dsimp only;omega,by dsimp only;omega,.inr hcm,fun h=>by dsimp only at h;omega⟩,rfl⟩,by dsimp only;omega⟩
  ·skip
   refine go 1 [0,0] ?_
   refine an ?_
   refine ⟨[0,1,5,18,19,20],[2,1,0],[],rfl,?_⟩
   have hshort:p.l.length≤1:=by simp at h2;omega
   exact ⟨(k+1,z),⟨⟨by dsimp only;omega,hz0,hzN,hz1.1,fun h q hq=>(by
     dsimp only at hq
     rw [htk,List.mem_append,List.mem_singleton] at hq
     exact hq.elim (hz1.2 h q) fun e=>e ▸ hshort)⟩,rfl⟩,by dsimp only;omega⟩
 ·skip
  refine go 0 [0] ?_
  refine aU rfl ((cf rfl rfl).castV (v':=.bool false) (congrArg Value.bool (decide_eq_false (by omega)))) (go 0 [0,0,0] ?_)
  refine aU rfl (Q1 rfl (pH N l) 2 rfl) (go 2 [0,0] ?_)
  refine aa _ rfl (fun h3 => ?_) (fun h3 => ?_)
  ·skip
   exact absurd h3 (by rw [sW (by omega) hr];simp)
  ·skip
   refine go 3 [0,168,0] ?_
   refine aO (.of (ax 2 rfl)) (fun hll => ?_)
   refine aF [0,1,5,41,42,43] [2,1,0] [] (fun (q:Nat × Int) st=>(q.1≤l.l.length∧0≤q.2∧q.2≤N∧((q.2=N∨OnC (ck N l.l) q.2)∧(q.2=N→(∀ p∈P.l.map (·.l),p.length≤1)∧∀ a∈l.l.take q.1,a.from_≠a.to_)))∧st=⟨[(0,true,.int .i64 N),(1,true,l.val),(5,true,.int .i64 q.2),(41,true,l.val),(42,true,.int .i64 l.l.length),(43,true,.int .i64 q.1)],[ShF slR P,bu (ShF bd) P.l,ShF cj.row l],[]⟩) (fun q=>l.l.length-q.1) rfl (⟨(0,z),⟨Nat.zero_le _,hz0,hzN,hz1.1,fun h=>⟨fun p hp=>(by
     obtain ⟨q,hq,rfl⟩:=List.mem_map.1 hp
     exact hz1.2 h q (by rw [List.take_of_length_le (by simp at h1;omega)];exact hq)),fun a ha=>(by cases ha)⟩⟩,rfl⟩) ?_
   rintro ⟨j,y⟩ st ⟨⟨hj,hy0,hyN,hy1⟩,rfl⟩
   dsimp only at hj hy0 hyN hy1 ⊢
   refine go 3 [0] ?_
   refine aa _ rfl (fun h4 => ?_) (fun h4 => ?_)
   ·skip
    have hj':j<l.l.length:=by simpa using h4
    obtain ⟨a,ha⟩:∃ a,l.l[j]? = some a:=⟨_,List.getElem?_eq_getElem hj'⟩
    have har:=hr a (List.mem_of_getElem? ha)
    have hfr:=har.1
    have htk:l.l.take (j+1)=l.l.take j++[a]:=by rw [List.take_add_one,ha];rfl
    have ham:=List.mem_of_getElem? ha
    refine aD (an (aq (aH (aSR (UI Tryz.underlying163 tk168 2 rfl rfl rfl rfl rfl (ak ha) rfl rfl (fun ⟨b12_0,o12_0⟩=>(go 0 [4610] ?_)))))))
    refine LT rfl (aW (zs:=[.int .i64 0,.int .i64 0]) (by kernel_rfl) rfl (fun b12_2=>(aHN ?_)))
    refine go 2 [4608,0,0,1,0,0] ?_
    refine aa _ rfl (fun h5 => ?_) (fun h5 => ?_)
    ·skip
     refine go 1 [0,0,0,0,0,0,0] ?_
     refine an ?_
     refine ⟨[0,1,5,41,42,43],[2,1,0],[],rfl,?_⟩
     have hself:a.from_=a.to_:=by simpa using h5
     have hcx:OnC (ck N l.l) a.from_:=⟨a.from_,(ja hr har.1).2 ⟨a,ham,rfl,hself.symm⟩,.refl _⟩
     have hcm:OnC (ck N l.l) (min y a.from_):=by
       rcases hy1.1 with h | h
       · rw [show min y a.from_=a.from_ by omega];exact hcx
       · rcases Int.le_total y a.from_ with h2 | h2
         · rw [Int.min_eq_left h2];exact h
         · rw [Int.min_eq_right h2];exact hcx
     exact ⟨(j+1,min y a.from_),⟨⟨by dsimp only;omega,by dsimp only;omega,by dsimp only;omega,.inr hcm,fun h=>by dsimp only at h;omega⟩,rfl⟩,by dsimp only;omega⟩
    ·skip
     refine go 1 [0,0] ?_
     refine an ?_
     refine ⟨[0,1,5,41,42,43],[2,1,0],[],rfl,?_⟩
     have hself:a.from_≠a.to_:=by simpa using h5
     exact ⟨(j+1,y),⟨⟨by dsimp only;omega,hy0,hyN,hy1.1,fun h=>⟨(hy1.2 h).1,fun q hq=>(by
       dsimp only at hq
       rw [htk,List.mem_append,List.mem_singleton] at hq
       exact hq.elim ((hy1.2 h).2 q) fun e=>e ▸ hself)⟩⟩,rfl⟩,by dsimp only;omega⟩
   ·skip
    refine go 2 [0,0,0] ?_
    refine aa _ rfl (fun h6 => ?_) (fun h6 => ?_)
    ·skip
     refine go 2 [0] ?_
     refine ae (aj (FZ1 [] Tryz.results99 rfl ?_))
     have hyN2:y=N:=by simpa using h6
     have hy2:=hy1.2 hyN2
     rw [List.take_of_length_le (by simp at h4;omega)] at hy2
     exact ⟨⟨rfl,rfl⟩,none,0,0,rfl,fun _=>xb hr hPX hy2.1 hy2.2,fun _=>rfl⟩
    ·skip
     have hyne:y≠N:=by simpa using h6
     obtain ⟨b,hb⟩:∃ b,lg N l.l [y]=b:=⟨_,rfl⟩
     have hbl:b.length=N:=by rw [← hb];exact uV (lW hr)
     have hTy:=hT [y]
     have hrk:∀ v,zM (ny N l.l [y]) v≤100000:=fun v=>by
       have h1:=aaW (ny N l.l [y]) v
       have h2:(ny N l.l [y]).length≤_:=tk (rs:=cr [y]) (lW hr)
       have h3:=tc [y]
       simp at h3
       omega
     obtain ⟨ρ,hρ⟩:∃ ρ,zM (ny N l.l [y])=ρ:=⟨_,rfl⟩
     rw [hρ,hb] at hTy
     rw [hρ] at hrk
     refine go 0 [0,0,0] ?_
     refine LT rfl (WL (zs:=[.int .i64 0]) el33 rfl rfl rfl (.more rfl (.v rfl .nil) .nil) rfl rfl (fun v18_3=>(aHN ?_)))
     refine rB 0 rfl ?_
     refine LT rfl (EC [0,3] [] rfl (rY N (by omega) l hl hr ⟨v18_3,1,[y]⟩ (by show 1≤_;decide) hb) ?_)
     rintro vb _ _ ⟨rfl,rfl⟩
     refine aST ?_
     refine go 4 [0,0] ?_
     refine cB 1 rfl (fun w S F hh=>df hh) (fun hov => ?_)
     obtain ⟨bad,bcp,rfl⟩:=hov
     rw [cE]
     refine iT 1 rfl (jV (ShF xz (⟨none,0,[]⟩:Sl Int)) (fun w S _=>dT.e none 0 (Nat.zero_le _)) (go 3 [0,168,0] ?_))
     refine aF [5,10,11,65,66,67] [5,4,0] [] (fun (q:Nat × Sl Int) st=>(q.1≤l.l.length∧(q.2.l=[]→q.2.ad=none∧∀ a∈l.l.take q.1,a.to_=y→¬ 0≤elt b a.from_))∧st=⟨[(5,true,.int .i64 y),(10,true,.slice bad b.length bcp),(11,true,q.2.val),(65,true,l.val),(66,true,.int .i64 l.l.length),(67,true,.int .i64 q.1)],[ShF xz q.2,Sh (.slice bad b.length bcp) (.sl (bF encI b)),ShF cj.row l],[]⟩) (fun q=>l.l.length-q.1) rfl (⟨(0,⟨none,0,[]⟩),⟨Nat.zero_le _,fun _=>⟨rfl,fun a h=>(by cases h)⟩⟩,rfl⟩) ?_
     rintro ⟨m,bst⟩ st ⟨⟨hm,hbs⟩,rfl⟩
     dsimp only at hm hbs ⊢
     refine go 3 [0] ?_
     refine aa _ rfl (fun h7 => ?_) (fun h7 => ?_)
     ·skip
      have hm':m<l.l.length:=by simpa using h7
      obtain ⟨a,ha⟩:∃ a,l.l[m]? = some a:=⟨_,List.getElem?_eq_getElem hm'⟩
      have har:=hr a (List.mem_of_getElem? ha)
      have hfr:=har.1
      have htk:l.l.take (m+1)=l.l.take m++[a]:=by rw [List.take_add_one,ha];rfl
      refine aD (an (aq (aH (aSR (UI Tryz.underlying163 tk168 2 rfl rfl rfl rfl rfl (ak ha) rfl rfl (fun ⟨b22_0,o22_0⟩=>(go 0 [4610] ?_)))))))
      refine LT rfl (aW (zs:=[.int .i64 0,.int .i64 0]) (by kernel_rfl) rfl (fun b22_2=>(aHN ?_)))
      refine go 2 [4608,1,0,0,0] ?_
      refine aa _ rfl (fun h8 => ?_) (fun h8 => ?_)
      ·skip
       refine go 1 [0,0] ?_
       refine an ?_
       refine ⟨[5,10,11,65,66,67],[2,1,0],[],rfl,?_⟩
       exact ⟨(m+1,bst),⟨⟨hm',fun h=>⟨(hbs h).1,fun q hq hqy=>(by
         dsimp only at hq
         rw [htk,List.mem_append,List.mem_singleton] at hq
         exact hq.elim (fun hq=>(hbs h).2 q hq hqy) fun e=>absurd (e ▸ hqy) (by simpa using h8))⟩⟩,rfl⟩,by dsimp only;omega⟩
      ·skip
       refine go 0 [0,0,0] ?_
       refine LT rfl (EC [1] [] rfl (ud ⟨bad,bcp,b⟩ ρ hTy a.from_ (by dsimp only;omega) (hrk _)) ?_)
       rintro _ _ _ ⟨rfl,ad,cd,htn,rfl,rfl⟩
       refine aST ?_
       refine go 0 [0,0] ?_
       refine aU rfl (abR Tryz.underlying33 rfl) (aM rfl (aG rfl rfl (fun hc=>bo rfl) (aG rfl rfl (fun hc=>rk Tryz.underlying33 (ah rfl hc)) (go 0 [0,0,3,0,3,0,0,0,0,3,0,3,0,0,0,0] ?_))))
       refine aE (caps:=[]) [4,2] ((0:Int)) (by kernel_rfl) _ rfl rfl (fun _=>rfl) (fun hc=>(ao (ah rfl hc) (ao (ah rfl hc) rfl))) (fun hc=>by rw [List.append_nil];exact qw ⟨ad,cd,fE b ρ a.from_⟩ bst) (fun cz hcz => ?_)
       refine go 2 [0,0,0,0] ?_
       refine aa _ rfl (fun h9 => ?_) (fun h9 => ?_)
       ·skip
        refine go 1 [0,0,0,0] ?_
        refine an ?_
        refine ⟨[5,10,11,65,66,67],[4,1,0],[],rfl,?_⟩
        have hway:fE b ρ a.from_≠[]:=fun h=>by
          rw [htn.2 h] at h9
          simp at h9
        exact ⟨(m+1,⟨ad,cd,fE b ρ a.from_⟩),⟨⟨hm',fun h=>absurd h hway⟩,rfl⟩,by dsimp only;omega⟩
       ·skip
        refine go 1 [0,0] ?_
        refine an ?_
        refine ⟨[5,10,11,65,66,67],[2,1,0],[],rfl,?_⟩
        exact ⟨(m+1,bst),⟨⟨hm',fun h=>⟨(hbs h).1,fun q hq hqy=>(by
          dsimp only at hq
          rw [htk,List.mem_append,List.mem_singleton] at hq
          refine hq.elim (fun hq=>(hbs h).2 q hq hqy) fun e => ?_
          subst e
          intro hge
          have hne:fE b ρ q.from_≠[]:=fun h0=>by
            unfold fE at h0
            rw [if_neg (by omega),List.reverse_eq_nil_iff,gO] at h0
            cases h0
          have hadn:ad≠none:=fun h0=>hne (htn.1 h0)
          cases had:ad with
          | none=>exact hadn had
          | some z=>rw [had,(hbs h).1] at h9;simp at h9)⟩⟩,rfl⟩,by dsimp only;omega⟩
     ·skip
      refine go 2 [0,0] ?_
      refine ae (FZ1 [] Tryz.results99 rfl ?_)
      have hcy:OnC (ck N l.l) y:=hy1.1.resolve_left hyne
      obtain ⟨a,ha,e1,e2⟩:=zi hr ⟨hy0,by omega⟩ hcy
      rw [hb] at e2
      have hbn:bst.l≠[]:=fun h=>(hbs h).2 a (by rw [List.take_of_length_le (by simp at h7;omega)];exact ha) e1 e2
      exact ⟨⟨rfl,rfl⟩,_,_,_,rfl,fun h=>absurd (List.length_eq_zero_iff.1 h) hbn,fun h=>absurd hcy (h y hy0 (by omega))⟩
theorem kyT:fh Tryz.prog 9 gR:=zh Tryz.underlying9
theorem uo(l:Sl aR):Con Tryz.prog 97 [l.val] [ShF aR.row l] [] fun r ps hp=>ps=[]∧∃ b,r=.map (some b)∧hp=[eg b gR eI (iu l.l)]:=by
 refine EN1 Tryz.func97 rfl (aO (.of (ax 0 rfl)) (fun hlen=>(go 4 [0] ?_)))
 refine LT rfl (dB (gR) (eI) rfl (fun b1_0=>(aHN ?_)))
 refine go 3 [0,0,165,0] ?_
 refine aF [3,9,10,11] [0] [0] (fun (k:Nat) s=>k≤l.l.length∧s=⟨[(3,true,.map (some b1_0)),(9,true,l.val),(10,true,.int .i64 l.l.length),(11,true,.int .i64 k)],[ShF aR.row l],[eg b1_0 gR eI (iu (l.l.take k))]⟩) (fun k=>l.l.length-k) rfl (⟨0,Nat.zero_le _,rfl⟩) ?_
 rintro k s ⟨hk,rfl⟩
 refine go 3 [0] ?_
 refine aa _ rfl (fun h1 => ?_) (fun h1 => ?_)
 ·skip
  have hk':k<l.l.length:=by simpa using h1
  obtain ⟨a,ha⟩:∃ a,l.l[k]? = some a:=⟨l.l[k]'hk',by simp⟩
  have hlt:(l.l.take k).length=k:=by rw [List.length_take];omega
  refine go 0 [0] ?_
  refine UI Tryz.underlying29 tk165 0 rfl rfl rfl rfl rfl (ak ha) rfl rfl (fun ⟨b4_1,o4_1⟩=>(go 0 [4610] ?_))
  refine LT rfl (aW (zs:=[.string .empty,.slice none 0 0]) (by kernel_rfl) rfl (fun b4_3=>(aHN ?_)))
  refine go 0 [0,4611,0,0,3] ?_
  refine aU rfl (sQ (k:=a.name) (v0:=(0:Int)) 0 Tryz.underlying161 (kyT) (by kernel_rfl) rfl rfl rfl) (go 2 [0,0,0,0,0,0,0] ?_)
  refine aa _ rfl (fun h2 => ?_) (fun h2 => ?_)
  ·skip
   have hno:lF (l.l.take k) a.name=none:=by simpa using h2
   have hm:fJ (iu (l.l.take k)) a.name (k:Int)=iu (l.l.take (k+1)):=by
     funext s
     unfold iu fJ
     rw [List.take_add_one,ha,Option.toList_some,qf,hlt]
     by_cases hs:s=a.name
     · subst hs;rw [if_pos rfl,hno,if_pos rfl];rfl
     · rw [if_neg hs,if_neg (Ne.symm hs),Option.or_none]
   refine go 0 [0,0,3,0] ?_
   refine aT rfl (cD (k:=a.name) (v:=(k:Int)) 0 Tryz.underlying161 (kyT) rfl rfl rfl rfl (aHK ?_))
   refine go 1 [0,0] ?_
   refine an ?_
   refine ⟨[3,9,10,11],[0],[0],rfl,?_⟩
   exact ⟨k+1,⟨by omega,by rw [← hm];rfl⟩,by omega⟩
  ·skip
   have hyes:(lF (l.l.take k) a.name).isSome=true:=by simpa using h2
   have hm:iu (l.l.take k)=iu (l.l.take (k+1)):=by
     funext s
     unfold iu
     rw [List.take_add_one,ha,Option.toList_some,qf]
     by_cases hs:a.name=s
     · subst hs
       obtain ⟨i,hi⟩:=Option.isSome_iff_exists.1 hyes
       rw [hi];rfl
     · rw [if_neg hs,Option.or_none]
   refine go 1 [0,0] ?_
   refine an ?_
   refine ⟨[3,9,10,11],[0],[0],rfl,?_⟩
   exact ⟨k+1,⟨by omega,by rw [← hm];rfl⟩,by omega⟩
 ·skip
  refine go 2 [0,0] ?_
  refine ae (FZ1 [0] Tryz.results97 rfl ?_)
  exact ⟨rfl,b1_0,rfl,by rw [List.take_of_length_le (by simpa using h1)];rfl⟩
theorem wV(s:ByteArray)(hs:s.size≤maxLen):Con Tryz.prog 98 [.string s] [] [] fun r _ _=>r=.bool (iH s):=by
 have hs':s.size≤9223372036854775807:=hs
 have hlen:(nU s).length=s.size:=rfl
 refine EN1 Tryz.func98 rfl (go 0 [0,0] ?_)
 refine LT rfl (nq Tryz.underlying9 Tryz.underlying185 Tryz.underlying5 rfl (by assumption) rfl (fun a1_1 c1_1 => ?_))
 refine aST ?_
 refine go 3 [5,0] ?_
 refine aF [0,6,7,8] [0] [] (fun (k:Nat) st=>(k≤s.size∧∀ u∈(nU s).take k,(decide (33≤u.toNat) && decide (u.toNat≤126))=true)∧st=⟨[(0,true,.string s),(6,true,.slice a1_1 s.size c1_1),(7,true,.int .i64 s.size),(8,true,.int .i64 k)],[Sh (.slice a1_1 s.size c1_1) (.sl (byR (nU s)))],[]⟩) (fun k=>s.size-k) rfl (⟨0,⟨Nat.zero_le _,fun u h=>by cases h⟩,rfl⟩) ?_
 rintro k st ⟨⟨hk,hpre⟩,rfl⟩
 refine go 3 [0] ?_
 refine aa _ rfl (fun h1 => ?_) (fun h1 => ?_)
 ·skip
  have hk':k<s.size:=by simpa using h1
  obtain ⟨u,hu⟩:∃ u,(nU s)[k]? = some u:=⟨_,List.getElem?_eq_getElem (by omega)⟩
  refine aD (an (aq (aH (aSR (UI Tryz.underlying185 tk5 0 rfl rfl rfl rfl rfl (vj hu) rfl rfl (fun ⟨b3_0,o3_0⟩=>(go 2 [2,0,0,0,0,0,0,0] ?_)))))))
  refine aa _ rfl (fun h2 => ?_) (fun h2 => ?_)
  ·skip
   refine go 2 [0] ?_
   refine ae (aK (aj (aj (aK (aj (FZ1 [] Tryz.results98 rfl (congrArg Value.bool (Eq.symm ?_))))))))
   have hb:(decide (33≤u.toNat) && decide (u.toNat≤126))=false:=by simp at h2 ⊢;omega
   unfold iH
   rw [Bool.and_eq_false_iff];left
   rw [List.all_eq_false]
   exact ⟨u,List.mem_of_getElem? hu,by rw [hb];decide⟩
  ·skip
   refine go 1 [0,0] ?_
   refine an ?_
   refine ⟨[0,6,7,8],[0],[],rfl,?_⟩
   refine ⟨k+1,⟨⟨hk',fun v hv => ?_⟩,rfl⟩,by omega⟩
   rw [List.take_add_one,hu,Option.toList_some] at hv
   rcases List.mem_append.1 hv with h | h
   · exact hpre v h
   · rw [List.mem_singleton.1 h];simp at h2 ⊢;omega
 ·skip
  refine go 2 [0,0,0,0,0,0,0,0,0] ?_
  refine ae (FZ1 [] Tryz.results98 rfl (congrArg Value.bool (Eq.symm ?_)))
  have hkl:k=s.size:=by simp at h1;omega
  rw [hkl,← hlen,List.take_length] at hpre
  unfold iH
  rw [List.all_eq_true.2 hpre,Bool.true_and]
  congr 1<;>simp<;>omega
theorem uq (l:Sl aR):Con Tryz.prog 64 [l.val] [ShF aR.row l,bu aR.ok l.l] [] (YN Value.bool fun b=>b=true↔acY l.l):=by
 refine EN1 Tryz.func64 rfl (go 2 [0,0,165,0] ?_)
 refine aa _ rfl (fun h1 => ?_) (fun h1 => ?_)
 ·skip
  refine go 2 [0] ?_
  refine ae (aj (FZ1 [] Tryz.results64 rfl ?_))
  exact ⟨⟨rfl,rfl⟩,_,rfl,fun h=>absurd h (by decide),fun hv=>absurd h1 (by have:=hv.len;simp;omega)⟩
 ·skip
  have hle:l.l.length≤4096:=by simp at h1;omega
  refine go 0 [0] ?_
  refine LT rfl (EC [1] [] rfl (uo l) ?_)
  rintro _ _ _ ⟨rfl,bat,rfl,rfl⟩
  refine aST ?_
  refine go 0 [0,0] ?_
  refine aU rfl (zC 0 Tryz.underlying161 kyT rfl rfl) (go 2 [0,165,0] ?_)
  refine aa _ rfl (fun h2 => ?_) (fun h2 => ?_)
  ·skip
   refine go 2 [0] ?_
   refine ae (aj (FZ1 [] Tryz.results64 rfl ?_))
   exact ⟨⟨rfl,rfl⟩,_,rfl,fun h=>absurd h (by decide),fun hv=>absurd h2 (by rw [(qh l.l).2 hv.nd];simp)⟩
  ·skip
   have hnd:(l.l.map (·.name)).Nodup:=(qh l.l).1 (by simp at h2;omega)
   refine go 4 [0] ?_
   refine cV 168 2 ?_
   show awp _ _ _ _ ⟨_,_,[_,_]⟩
   refine go 3 [0,165,0] ?_
   refine aF [0,3,4,22,23,24] [1,0] [0,1] (fun (q:Nat × (Value × List cj)) st=>VI l.l q.1 q.2.2∧st=⟨[(0,true,l.val),(3,true,.map (some bat)),(4,true,q.2.1),(22,true,l.val),(23,true,.int .i64 l.l.length),(24,true,.int .i64 q.1)],[ShF aR.row l,bu aR.ok l.l],[eg bat gR eI (iu l.l),aP q.2.1 168 2 (q.2.2.map cj.row)]⟩) (fun q=>l.l.length-q.1) rfl (⟨(0,(.slice none 0 0,[])),VI.start l.l,rfl⟩) ?_
   rintro ⟨k,av,gs⟩ st ⟨hI,rfl⟩
   dsimp only at hI ⊢
   have hkl:=hI.le
   refine go 3 [0] ?_
   refine aa _ rfl (fun h3 => ?_) (fun h3 => ?_)
   ·skip
    have hk':k<l.l.length:=by simpa using h3
    obtain ⟨d,hd⟩:∃ d,l.l[k]? = some d:=⟨_,List.getElem?_eq_getElem hk'⟩
    have hdm:=List.mem_of_getElem? hd
    refine go 0 [0] ?_
    refine UI Tryz.underlying29 tk165 0 rfl rfl rfl rfl rfl (ak hd) rfl rfl (fun ⟨b9_1,o9_1⟩=>(go 0 [4610] ?_))
    refine LT rfl (aW (zs:=[.string .empty,.slice none 0 0]) (by kernel_rfl) rfl (fun b9_3=>(aHN ?_)))
    refine go 4 [0,4614] ?_
    refine LT rfl (dB (gR) (vBo) rfl (fun b10_0=>(aHN ?_)))
    refine go 3 [0,1,6,9,0] ?_
    refine aO (aR.f_parents (Ent.all (f:=aR.ok) (.of (ax 2 rfl)) hd)) (fun hpl => ?_)
    refine aF [0,3,4,5,6,7,22,23,24,31,32,33] [1,0] [0,1,2,3] (fun (q:Nat × (Value × List cj)) st=>VJ l.l k d q.1 q.2.2∧st=⟨[(0,true,l.val),(3,true,.map (some bat)),(4,true,q.2.1),(5,true,.int .i64 k),(6,true,.pointer (some ⟨b9_3,0,none⟩)),(7,true,.map (some b10_0)),(22,true,l.val),(23,true,.int .i64 l.l.length),(24,true,.int .i64 k),(31,true,d.parents.val),(32,true,.int .i64 d.parents.l.length),(33,true,.int .i64 q.1)],[ShF aR.row l,bu aR.ok l.l],[eg bat gR eI (iu l.l),aP q.2.1 168 2 (q.2.2.map cj.row),Box b9_3 165 d.vs,eg b10_0 gR vBo (ft (d.parents.l.take q.1))]⟩) (fun q=>d.parents.l.length-q.1) rfl (⟨(0,(av,gs)),hI.into hd,by show _=(⟨_,_,[_,_,_,eg b10_0 gR vBo (ft [])]⟩:Sta);rw [← kA];rfl⟩) ?_
    rintro ⟨m,av2,gs2⟩ st ⟨hJ,rfl⟩
    dsimp only at hJ ⊢
    have hml:=hJ.ml
    have hms:=hJ.short
    have hln:=hJ.ln
    have hmul:l.l.length*k≤4096*4096:=Nat.mul_le_mul hle (by omega)
    refine go 3 [0] ?_
    refine aa _ rfl (fun h4 => ?_) (fun h4 => ?_)
    ·skip
     have hm':m<d.parents.l.length:=by simpa using h4
     obtain ⟨p,hp⟩:∃ p,d.parents.l[m]? = some p:=⟨_,List.getElem?_eq_getElem hm'⟩
     refine aD (an (aq (aH (aSR (bI true rfl rfl (fun _=>ai Tryz.underlying26 tk9 rfl ((aR.f_parents (Ent.all (f:=aR.ok) (.of (ax 1 rfl)) hd))) rfl (ak hp) rfl rfl) (fun h=>absurd h (by decide)) (fun ⟨b13_0,o13_0⟩=>(go 0 [2,0,0,0] ?_)))))))
     refine aU rfl (sQ (k:=p) (v0:=(0:Int)) 0 Tryz.underlying161 (kyT) (by kernel_rfl) rfl rfl rfl) (go 0 [0,0,0,0,0,0,0,0,0,0] ?_)
     refine aG rfl rfl (fun hc=>gm (k:=p) (v0:=false) 3 Tryz.underlying166 (kyT) (by kernel_rfl) (ah rfl hc) (ah rfl hc) rfl) (go 2 [0] ?_)
     refine aa _ rfl (fun h5 => ?_) (fun h5 => ?_)
     ·skip
      refine go 2 [0] ?_
      refine ae (aj (aK (aj (aj (aK (aj (aK (aj (aj (aK (aj (FZ1 [] Tryz.results64 rfl ?_))))))))))))
      exact ⟨⟨rfl,rfl⟩,_,rfl,fun h=>absurd h (by decide),fun hv=>absurd h5 (by
        have k1:(iu l.l p).isSome=true:=(qi _ _).2 ((hv.pk d hdm).2 p (List.mem_of_getElem? hp))
        have k2:=xm (hv.pk d hdm).1 hp
        rw [kz];simp [k1,k2])⟩
     ·skip
      have h5':(iu l.l p).isSome=true∧(ft (d.parents.l.take m) p).getD false=false:=by simpa using h5
      obtain ⟨i,hi⟩:∃ i,lF l.l p=some i:=by
        have h:=h5'.1
        cases hh:lF l.l p with
        | none=>simp [iu,hh] at h
        | some i=>exact ⟨i,rfl⟩
      have hs:p ∉ d.parents.l.take m:=fun hmem=>by
        have h:=h5'.2
        rw [kz] at h
        simp [hmem] at h
      have hvi:(iu l.l p).getD 0=(i:Int):=by simp [iu,hi]
      refine go 0 [0,0] ?_
      refine aT rfl (cD (k:=p) (v:=true) 3 Tryz.underlying166 (kyT) rfl rfl rfl rfl (aHK ?_))
      refine go 0 [0,0,0] ?_
      refine aU rfl (bP (l:=[(0,.tmp 53),(1,.tmp 54)]) (zs:=[.int .i64 0,.int .i64 0]) (pl:=[(0,1),(1,1)]) (by kernel_rfl) (by kernel_rfl) (by kernel_rfl) rfl rfl rfl) (LT rfl (WL (zs:=[.int .i64 0,.int .i64 0]) el163 rfl rfl rfl (.more rfl (.v rfl (.v rfl .nil)) .nil) rfl rfl (fun v18_4=>(aHN ?_))))
      refine aT rfl (bH 1 el163 rfl rfl rfl rfl (cP 4 el163 rfl (by simp)) (by first | assumption | simp) (by rw [List.length_map];show gs2.length+1≤_;omega) (gs2.length+1) (by rw [List.length_map];rfl) (fun v18_5 c18_5 => ?_))
      refine aHK ?_
      refine go 1 [0,0,0] ?_
      refine an ?_
      refine ⟨[0,3,4,5,6,7,22,23,24,31,32,33],[1,0],[0,1,2,3],rfl,?_⟩
      refine ⟨(m+1,(.slice v18_5 (gs2.length+1) c18_5,gs2++[⟨k,i⟩])),⟨hJ.step hd hp hi hs,?_⟩,by dsimp only;omega⟩
      show _=(⟨_,_,[_,aP (.slice v18_5 (gs2.length+1) c18_5) 168 2 ((gs2++[cj.mk (k:Int) (i:Int)]).map cj.row),_,eg b10_0 gR vBo (ft (d.parents.l.take (m+1)))]⟩:Sta)
      rw [List.take_add_one,hp,Option.toList_some,gD,List.map_append,List.map_singleton,← hvi]
      rfl
    ·skip
     refine aY (bb (bb (bg (an (aq (cL (aR.f_name (Ent.all (f:=aR.ok) (.of (ax 1 rfl)) hd)) (fun hnl=>(go 0 [0,6] ?_))))))))
     refine aU rfl (Q0 rfl (wV d.name hnl)) (go 2 [0] ?_)
     refine aa _ rfl (fun h6 => ?_) (fun h6 => ?_)
     ·skip
      refine go 2 [0] ?_
      refine ae (aK (aj (aj (aK (aj (FZ1 [] Tryz.results64 rfl ?_))))))
      exact ⟨⟨rfl,rfl⟩,_,rfl,fun h=>absurd h (by decide),fun hv=>absurd h6 (by rw [hv.nm d hdm];decide)⟩
     ·skip
      have hnm:iH d.name=true:=by simpa using h6
      refine go 1 [0,0] ?_
      refine an ?_
      refine ⟨[0,3,4,22,23,24],[1,0],[0,1],rfl,?_⟩
      exact ⟨(k+1,(av2,gs2)),⟨hJ.done hd hnm (by simp at h4;omega),rfl⟩,by dsimp only;omega⟩
   ·skip
    have hkn:k=l.l.length:=by simp at h3;omega
    have hgl:=hI.ln
    have hmul:l.l.length*k≤4096*4096:=Nat.mul_le_mul hle (by omega)
    refine aY (bb (bb (bg (an (aq (cB 1 rfl (fun w S F hh=>df hh) (fun hov => ?_)))))))
    obtain ⟨gad,gcp,rfl⟩:=hov
    rw [List.length_map]
    refine iT 1 rfl (go 0 [0,165,0] ?_)
    refine LT rfl (EC [2] [] rfl (yL l.l.length (by omega) ⟨gad,gcp,gs⟩ (by dsimp only;omega) hI.ok) ?_)
    rintro _ _ _ ⟨⟨rfl,rfl⟩,ad2,k2,c2,rfl,hk2⟩
    refine aST ?_
    refine go 2 [3,0,0] ?_
    refine ae (FZ1 [] Tryz.results64 rfl ?_)
    have har:=hI.ar
    have hnmA:=hI.nm
    have hpkA:=hI.pk
    rw [hkn] at har
    rw [hkn,List.take_length] at hnmA hpkA
    rw [har] at hk2
    refine ⟨⟨rfl,rfl⟩,_,rfl,fun h=>⟨hle,hnd,hnmA,hpkA,hk2.1 (by simpa using h)⟩,fun hv => ?_⟩
    rw [hk2.2 hv.ac];rfl
end Go.Proofs.YtgkbbdgklpabpaaGreatDoor

namespace Go.Sy
open Go.RowKit Go.Lp
def ExP{α:Type}(f:α→Per):Per:=⟨fun w S=>∃ a,(f a).holds w S,fun ⟨a,h⟩ h1 h2=>⟨a,(f a).mono h h1 h2⟩⟩
theorem vh{P:Program}{n:Fr}{env:Env}{ps:List Per}{hp:List Res}{c:Code}{Q:Exit→Sta→Prop}{α:Type}{f:α→Per}(h:Ent ps (ExP f))(k:∀ a,awp P n c Q ⟨env,f a::ps,hp⟩):awp P n c Q ⟨env,ps,hp⟩:=fun w S fp a hst he hn hd =>
 let ⟨x,hx⟩:=h w S hst.per
 k x w S fp a ⟨fun p hp=>(List.mem_cons.1 hp).elim (fun e=>e ▸ hx) (hst.per p),hst.res,hst.lt,hst.dj,hst.slt⟩ he hn hd
theorem zO{row:List D}{o:Nat}{v:Value}(h:row[o]? = some (.v v)):rdD false 1 row o=some v:=by
 unfold rdD;simp [h]
end Go.Sy
namespace Go.Proofs.YtgkbbdgklpabpaaGreatDoor
open Go.RowKit Go.Lp Go.Sy
open Go.Proofs.Tryz
attribute [local irreducible] aL aB awp aC fwp Quiet
def zT:List (Int × Int):=[(0,8),(0,8),(0,4),(0,2),(0,8),(4,4),(4,4),(4,4),(4,4),(4,4),(4,4),(0,8),(0,8)]
def gX(k:Nat):Int × Int:=zT.getD k (0,0)
def sZ(f:Nat→D):List D:=zT.zipIdx.flatMap fun x=>[.v (.int .i64 x.1.1),.v (.int .i64 x.1.2),f x.2]
def dR:Per:=ExP fun f=>At 0 0 (sZ f)
theorem rm{k:Nat}(h:k<13)(f:Nat→D):(sZ f)[k*3]? = some (.v (.int .i64 (gX k).1))∧(sZ f)[k*3+1]? = some (.v (.int .i64 (gX k).2))∧(gX k).1+(gX k).2=dN k∧0≤(gX k).1∧0≤(gX k).2:=by
 rcases (by omega:k=0∨k=1∨k=2∨k=3∨k=4∨k=5∨k=6∨k=7∨k=8∨k=9∨k=10∨k=11∨k=12) with rfl | rfl | rfl | rfl | rfl | rfl | rfl | rfl | rfl | rfl | rfl | rfl | rfl<;>exact ⟨rfl,rfl,by decide⟩
theorem aaD(k:Int):Con Tryz.prog 121 [.int .i64 k] [] [] fun r _ _=>r=.bool (decide (0≤k) && decide (k<13)):=by
 refine EN1 Tryz.func121 rfl (go 2 [0,0,0,0,0,0,0,0] ?_)
 refine ae (FZ1 [] Tryz.results121 rfl ?_)
 rfl
theorem tX(k:Nat)(hk:k<13):Con Tryz.prog 192 [.int .i64 k] [dR] [] fun r _ _=>r=.tuple #[.int .i64 (gX k).1,.int .i64 (gX k).2]:=by
 refine EN1 Tryz.func192 rfl (vh (.of (ax 0 rfl)) (fun f => ?_))
 have hr:=rm hk f
 refine go 0 [0,0,0] ?_
 refine aU rfl (Q0 rfl (aaD _)) (go 2 [0] ?_)
 refine aa _ rfl (fun h1 => ?_) (fun h1 => ?_)
 ·skip
  exfalso;simp at h1;omega
 ·skip
  refine aD (an (aq (DR [] 10 (VM 0 rfl rfl (bV 1 rfl rfl (iK (k) Tryz.underlying191 tk190 rfl rfl (rfl) (hk)) (go 0 [0] ?_))))))
  refine bV 3 rfl rfl (cm (o:=k*3+0) (v:=.int .i64 (gX k).1) tk3 rfl (.of (ax 0 rfl)) (zO hr.1)) (VM 4 rfl rfl (bV 5 rfl rfl (iK (k) Tryz.underlying191 tk190 rfl rfl (rfl) (hk)) (go 0 [2] ?_)))
  refine bV 7 rfl rfl (cm (o:=k*3+1) (v:=.int .i64 (gX k).2) tk3 rfl (.of (ax 0 rfl)) (zO hr.2.1)) (go 2 [0,0] ?_)
  refine ae (FZ2 [] Tryz.results192 rfl rfl ?_)
  rfl
theorem ug(a:Int)(k:Nat)(hk:k<13)(ha:0≤a∧a≤1048576):Con Tryz.prog 116 [.int .i64 a,.int .i64 k] [dR] [] fun r _ _=>r=.tuple #[.int .i64 (a+(gX k).1),.int .i64 (a+(gX k).1+(gX k).2)]:=by
 have hr:=(rm hk fun _=>.v .nilFunc).2.2
 have hw:dN k≤8:=by unfold dN;split<;>(try split)<;>omega
 refine EN2 Tryz.func116 rfl (go 0 [0,0,0] ?_)
 refine aU rfl (Q1 rfl (tX k hk) 0 rfl) (go 2 [0,0,0,0,0,0,0,0,0,0,0,0,0,0,0] ?_)
 refine ae (FZ2 [] Tryz.results116 rfl rfl ?_)
 rfl
theorem um(u:aJ)(v:bS):Con Tryz.prog 76 [u.val,v.val] [u.ok] [] (YB True):=by
 refine EN2 Tryz.func76 rfl (aSR (LT rfl (aS rfl rfl rfl (fun b0_0=>(aHN ?_)))))
 refine LT rfl (aS rfl rfl rfl (fun b0_1=>(aHN ?_)))
 refine go 0 [0,5,10755] ?_
 refine aU rfl (bP (l:=[(0,.const (.int .i64 2))]) (zs:=[.int .i64 0,.int .i64 0,.int .i64 0,.int .i64 0]) (pl:=[(0,1),(1,1),(2,1),(3,1)]) (by kernel_rfl) (by kernel_rfl) (by kernel_rfl) rfl rfl rfl) (aU rfl (lC (by kernel_rfl) (by kernel_rfl) (by kernel_rfl) (fun w=>ew 9997 _ _ _ [0,1,2,3] w (by kernel_rfl) (by kernel_rfl) rfl rfl) rfl rfl) (go 2 [0,3,3,0] ?_))
 refine aa _ rfl (fun h1 => ?_) (fun h1 => ?_)
 ·skip
  refine go 2 [0,0] ?_
  refine ae (aj (FZ1 [] Tryz.results76 rfl ?_))
  exact ⟨⟨rfl,rfl⟩,_,rfl,fun _=>trivial⟩
 ·skip
  refine go 0 [4,3,0,0,0,0,5,0,3,0,0,41472,5,10755] ?_
  refine aE (caps:=[]) [0] (false) (by kernel_rfl) _ rfl rfl (fun _=>rfl) (fun hc=>(ao (ah rfl hc) (ao (ah rfl hc) rfl))) (fun hc=>by rw [List.append_nil];exact ga u v.target) (fun c1 hc1 => ?_)
  refine go 2 [0,0,0,0] ?_
  refine ae (FZ1 [] Tryz.results76 rfl ?_)
  exact ⟨⟨rfl,rfl⟩,_,rfl,fun _=>trivial⟩
theorem uh(x:aQ):Con Tryz.prog 69 [x.val] [bC,x.ok] [] (YB True):=by
 refine EN1 Tryz.func69 rfl (aO (aQ.f_marks (.of (ax 1 rfl))) (fun hlen=>(aSR (LT rfl (aS rfl rfl rfl (fun b0_0=>(aHN ?_)))))))
 refine go 4 [0] ?_
 refine aZ 0 rfl rfl ?_
 show awp _ _ _ _ ⟨_,At _ 0 _::_,_⟩
 refine go 3 [7,337,182,0] ?_
 refine aF [1,7,8,9] [2,1,0] [] (fun (k:Nat) st=>k≤x.marks.l.length∧st=⟨[(1,true,.pointer (some ⟨b0_0,0,none⟩)),(7,true,x.marks.val),(8,true,.int .i64 x.marks.l.length),(9,true,.int .i64 k)],[At b0_0 0 x.row,bC,x.ok],[]⟩) (fun k=>x.marks.l.length-k) rfl (⟨0,Nat.zero_le _,rfl⟩) ?_
 rintro k st ⟨hk,rfl⟩
 refine go 3 [0] ?_
 refine aa _ rfl (fun h1 => ?_) (fun h1 => ?_)
 ·skip
  have hk':k<x.marks.l.length:=by simpa using h1
  obtain ⟨y,hy⟩:∃ y,x.marks.l[k]? = some y:=⟨_,List.getElem?_eq_getElem hk'⟩
  refine go 0 [0] ?_
  refine bI true rfl rfl (fun _=>ai Tryz.underlying46 tk182 rfl ((aQ.f_marks (.of (ax 2 rfl)))) rfl (ak hy) rfl rfl) (fun h=>absurd h (by decide)) (fun ⟨b3_1,o3_1⟩=>(go 0 [10754] ?_))
  refine LT rfl (aW (zs:=[.string .empty,.int .i64 0,.int .i64 0,.int .i64 0]) (by kernel_rfl) rfl (fun b3_3=>(aHN ?_)))
  refine go 0 [0,10752,2,100] ?_
  refine aU rfl (Q0 rfl (iY _)) (go 3 [0,0] ?_)
  refine cL (fN.f_name (Ent.all (aQ.f_marksA (.of (ax 3 rfl))) hy)) (fun hyl=>(DR [] 58 (go 0 [0,0,0,0] ?_)))
  refine cQ (caps:=[]) 4 rfl (by kernel_rfl) [1] (false) (by kernel_rfl) _ rfl rfl (fun _=>rfl) (fun hc=>(ao (ah rfl hc) rfl)) (fun hc=>by rw [List.append_nil];exact eS _ hyl) (fun c1 hc1 => ?_)
  refine go 0 [0,0,0,2,0,4,200] ?_
  refine bW 12 rfl rfl rfl (fun hc=>Q0 (ao (ah rfl hc) rfl) (iY _)) (go 0 [0,0,0,4,0,0,0,0,6,0,0,0,0,4,0,8,392,0,0,0,6,0,8,392,4,0] ?_)
  refine bW 39 rfl rfl rfl (fun hc=>sS (ah rfl hc) (ah rfl hc)) (go 0 [0,0,0,0,0,0,14,680,0,0] ?_)
  refine dz 50 rfl (by kernel_rfl) _ rfl rfl (fun hc=>ai Tryz.underlying46 tk182 (ah rfl hc) ((aQ.f_marks (.of (ax 3 rfl)))) (ah rfl hc) (ak (bA (l:=x.marks.l) (i:=k-1) (by omega))) (by simp at hc;omega) rfl) (fun _=>⟨(0,0)⟩) (fun ⟨b5_50,o5_50⟩ => ?_)
  refine go 2 [4,196,4,0,0,0,0] ?_
  refine aa _ rfl (fun h2 => ?_) (fun h2 => ?_)
  ·skip
   refine go 2 [0] ?_
   refine ae (aK (aj (aj (aK (aj (FZ1 [] Tryz.results69 rfl ?_))))))
   exact ⟨⟨rfl,rfl⟩,_,rfl,fun _=>trivial⟩
  ·skip
   refine go 1 [0,0] ?_
   refine an ?_
   refine ⟨[1,7,8,9],[2,1,0],[],rfl,?_⟩
   exact ⟨k+1,⟨by omega,rfl⟩,by omega⟩
 ·skip
  refine go 2 [0] ?_
  refine ae (FZ1 [] Tryz.results69 rfl ?_)
  exact ⟨⟨rfl,rfl⟩,_,rfl,fun _=>trivial⟩
theorem ue(x:aQ)(r:dE)(k:Nat)(hk:k<13)(hr:r.kind=k)(ha:0≤r.at_∧r.at_+dN r.kind≤x.bytes.size)(hb:x.bytes.size≤1048576):Con Tryz.prog 73 [x.val,r.val] [dR] [] (YB True):=by
 have hw:=(rm hk fun _=>.v .nilFunc).2.2
 rw [← hr] at hw
 have hw8:dN r.kind≤8:=by unfold dN;split<;>(try split)<;>omega
 have hex:(x.bytes.extract (r.at_+(gX k).1).toNat (r.at_+(gX k).1+(gX k).2).toNat).size≤maxLen:=by rw [ByteArray.size_extract];unfold maxLen;omega
 refine EN2 Tryz.func73 rfl (aSR (LT rfl (aS rfl rfl rfl (fun b0_0=>(aHN ?_)))))
 refine LT rfl (aS rfl rfl rfl (fun b0_1=>(aHN ?_)))
 refine go 0 [0,0,3,1,3] ?_
 rw [hr]
 refine aU rfl (Q1 rfl (ug r.at_ k hk (by omega)) 0 rfl) (go 0 [0,0,0,0,0,5,0,0,0] ?_)
 refine aU rfl (aaU Tryz.underlying9 rfl rfl rfl (by omega) (by omega) (by omega)) ?_
 generalize x.bytes.extract (r.at_+(gX k).1).toNat (r.at_+(gX k).1+(gX k).2).toNat=e at hex ⊢
 have hel:e.size≤9223372036854775807:=hex
 refine LT rfl (nq Tryz.underlying9 Tryz.underlying185 Tryz.underlying5 rfl (by assumption) rfl (fun a2_5 c2_5 => ?_))
 refine aST ?_
 refine go 3 [5,0] ?_
 refine aF [22,23,24] [1] [] (fun (j:Nat) st=>j≤e.size∧st=⟨[(22,true,.slice a2_5 e.size c2_5),(23,true,.int .i64 e.size),(24,true,.int .i64 j)],[Sh (.slice a2_5 e.size c2_5) (.sl (byR e.data.toList))],[]⟩) (fun j=>e.size-j) rfl (⟨0,Nat.zero_le _,rfl⟩) ?_
 rintro j st ⟨hj,rfl⟩
 refine go 3 [0] ?_
 refine aa _ rfl (fun h1 => ?_) (fun h1 => ?_)
 ·skip
  have hj':j<e.size:=by simpa using h1
  obtain ⟨y,hy⟩:∃ y,e.data.toList[j]? = some y:=⟨_,List.getElem?_eq_getElem (by simpa using hj')⟩
  refine aD (an (aq (aH (aSR (UI Tryz.underlying185 tk5 0 rfl rfl rfl rfl rfl (vj hy) rfl rfl (fun ⟨b4_0,o4_0⟩=>(go 2 [2,0,0,0] ?_)))))))
  refine aa _ rfl (fun h2 => ?_) (fun h2 => ?_)
  ·skip
   refine go 2 [0] ?_
   refine ae (aK (aj (aj (aK (aj (FZ1 [] Tryz.results73 rfl ?_))))))
   exact ⟨⟨rfl,rfl⟩,_,rfl,fun _=>trivial⟩
  ·skip
   refine go 1 [0,0] ?_
   refine an ?_
   refine ⟨[22,23,24],[0],[],rfl,?_⟩
   exact ⟨j+1,⟨by omega,rfl⟩,by omega⟩
 ·skip
  refine go 2 [0] ?_
  refine ae (FZ1 [] Tryz.results73 rfl ?_)
  exact ⟨⟨rfl,rfl⟩,_,rfl,fun _=>trivial⟩
end Go.Proofs.YtgkbbdgklpabpaaGreatDoor

namespace Go.Sy
open Go.RowKit Go.Deep
section
variable (P:Program)
def gu:Nat→List Field→Nat→Bool
 | off,[],tot=>off == tot
 | off,f::fs,tot=>f.offset == off && decide (off+P.cellsOf f.type≤tot) && gu (off+P.cellsOf f.type) fs tot
def rdT:Nat→TypeId→Bool
 | 0,_=>false
 | k+1,t=>match P.underlying t with
   | some .bool=>true
   | some (.int _)=>true
   | some .string=>true
   | some (.slice e)=>decide (0<P.cellsOf e) && rdT k e
   | some (.struct fs)=>gu P 0 fs.toList (P.cellsOf t) && fs.toList.all (fun f=>rdT k f.type)
   | _=>false
def okF(ok:TypeId→List D→Prop):List Field→List D→Prop
 | [],ds=>ds=[]
 | f::fs,ds=>∃ d1 d2,ds=d1++d2∧ok f.type d1∧okF ok fs d2
def okD:Nat→TypeId→List D→Prop
 | 0,_,_=>False
 | k+1,t,ds=>match P.underlying t with
   | some .bool=>∃ b,ds=[.v (.bool b)]
   | some (.int i)=>∃ n,ds=[.v (.int i n)]∧(Lit.int i n).wf=true
   | some .string=>∃ s,ds=[.v (.string s)]∧s.size≤maxLen
   | some (.slice e)=>∃ rows,ds=[.sl rows]∧rows.length≤maxLen∧∀ r∈rows,okD k e r
   | some (.struct fs)=>okF (okD k) fs.toList ds
   | _=>False
end
variable {P:Program} {H:Type} {enc:TypeId × Value→H} {w:World} {base:Nat} {spare:Nat→Bool} {held:Bool}
def Rds(w:World)(cs:List Value)(off:Nat)(ds:List D):Prop:=∀ (j:Nat) (d:D),ds[j]? = some d→∃ u,cs[off+j]? = some u∧u.oneCell'=true∧dT w (fun b=>b<w.heap.size) u d
section
theorem jb{u:Value}{d:D}(h1:u.oneCell'=true)(h:dT w (fun b=>b<w.heap.size) u d):Rds w [u] 0 [d]:=fun j e hj=>by
 cases j with
 | zero=>simp at hj;subst hj;exact ⟨u,rfl,h1,h⟩
 | succ j=>simp at hj
theorem p9{a:Addr}{u:Value}(h:w.cell? a=some u):a=⟨a.block,a.off,none⟩∧a.block<w.heap.size:=by
 obtain ⟨b,o,sp⟩:=a
 unfold World.cell? at h
 split at h
 · rename_i hb
   refine ⟨?_,(Array.getElem?_eq_some_iff.1 hb).1⟩
   cases sp with
   | none=>rfl
   | some z=>simp at h
 · cases h
theorem vE{k:Nat}{t:TypeId}{ds:List D}{i:IntKind}(hu:P.underlying t=some (.int i))(h:okD P (k+1) t ds):∃ n,ds=[.v (.int i n)]∧(Lit.int i n).wf=true:=by unfold okD at h;rw [hu] at h;exact h
theorem zu{k:Nat}{t:TypeId}{ds:List D}(hu:P.underlying t=some .bool)(h:okD P (k+1) t ds):∃ b,ds=[.v (.bool b)]:=by unfold okD at h;rw [hu] at h;exact h
theorem uI{k:Nat}{t:TypeId}{ds:List D}(hu:P.underlying t=some .string)(h:okD P (k+1) t ds):∃ s,ds=[.v (.string s)]∧s.size≤maxLen:=by unfold okD at h;rw [hu] at h;exact h
theorem pY{k:Nat}{t e:TypeId}{ds:List D}(hu:P.underlying t=some (.slice e))(h:okD P (k+1) t ds):∃ rows,ds=[.sl rows]∧rows.length≤maxLen∧∀ r∈rows,okD P k e r:=by unfold okD at h;rw [hu] at h;exact h
theorem uJ{k:Nat}{t:TypeId}{ds:List D}{fs:Array Field}(hu:P.underlying t=some (.struct fs))(h:okD P (k+1) t ds):okF (okD P k) fs.toList ds:=by unfold okD at h;rw [hu] at h;exact h
theorem ade{n:Int}(h:(Lit.int .i64 n).wf=true) : -9223372036854775808≤n∧n≤9223372036854775807:=by
 simp only [Lit.wf,Bool.and_eq_true,decide_eq_true_eq] at h
 have e1:IntKind.i64.min = -9223372036854775808:=by decide +kernel
 have e2:IntKind.i64.max=9223372036854775807:=by decide +kernel
 rw [e1,e2] at h
 exact h
theorem acR{ps:List Per}(h:∀ p∈ps,p.holds w fun b=>b<w.heap.size):St w (fun b=>b<w.heap.size) (fun _ _=>False) ps [] :=
 ⟨h,fun i R hR=>by simp at hR,fun i hi=>by simp at hi,fun i j hi=>by simp at hi,fun _ h=>h⟩
end
end Go.Sy

namespace Go.Sy
open Go.RowKit
mutual
/-- the cells of a datum of bools, integers, strings, arrays and structs -/
def iE{H:Type} : DataW H→Option (List Value)
 | .lit (.string bs)=>some [.string ⟨bs.toArray⟩]
 | .lit (.int k n)=>some [.int k n]
 | .lit (.bool b)=>some [.bool b]
 | .agg ps=>litAll ps
 | _=>none
def litAll{H:Type} : List (DataW H)→Option (List Value)
 | []=>some []
 | d::ds=>match iE d,litAll ds with
   | some a,some b=>some (a++b)
   | _,_=>none
end
section
variable (P:Program)
def rdA:Nat→TypeId→Bool
 | 0,_=>false
 | k+1,t=>match P.underlying t with
   | some .bool=>true
   | some (.int _)=>true
   | some .string=>true
   | some (.array n e)=>decide (P.cellsOf t=n*P.cellsOf e) && rdA k e
   | some (.struct fs)=>gu P 0 fs.toList (P.cellsOf t) && fs.toList.all (fun f=>rdA k f.type)
   | _=>false
end
variable {P:Program} {H:Type} {enc:TypeId × Value→H} {w:World} {base:Nat} {spare:Nat→Bool} {held:Bool}
theorem pS{cs:List Value}{c:Nat}{F:Nat→Option (DataW H × List MemPlace)}(ih:∀ i x,F i=some x→iE x.1=some ((cs.drop (i*c)).take c)) :
   ∀ (n o:Nat) (xs:List (DataW H × List MemPlace)),xs.length=n→(∀ i,i<n→F (o+i)=xs[i]?)→(o+n)*c≤cs.length→litAll (xs.map (·.1))=some ((cs.drop (o*c)).take (n*c))
 | 0,o,xs,hl,_,_=>by
   have:xs=[]:=List.eq_nil_of_length_eq_zero hl
   subst this;simp [litAll]
 | n + 1,o,xs,hl,hx,hc=>by
   cases xs with
   | nil=>simp at hl
   | cons x xs =>
     have h0:=ih _ x (by rw [hx 0 (by omega)];rfl)
     have h1:=pS ih n (o+1) xs (by simpa using hl) (fun i hi=>by rw [show o+1+i=o+(i+1) by omega,hx (i+1) (by omega)];rfl) (by rw [show o+1+n=o+(n+1) by omega];exact hc)
     rw [Nat.add_zero] at h0
     rw [List.map_cons,litAll,h0,h1]
     simp only [Option.some.injEq]
     have e:(n+1)*c=c+n*c:=by rw [Nat.add_mul];omega
     rw [e,List.take_add,List.drop_drop,show o*c+c=(o+1)*c by rw [Nat.add_mul];omega]
theorem nY{cs:List Value}{fuel:Nat}{ok:TypeId→Bool}(ih:∀ (t:TypeId) (cs:List Value) (x:DataW H × List MemPlace),ok t=true→DataW.trod enc P w base spare held fuel t cs=some x→iE x.1=some cs) :
   ∀ (fs:List Field) (off:Nat) (xs:List (DataW H × List MemPlace)),gu P off fs cs.length=true→fs.all (fun f=>ok f.type)=true→xs.length=fs.length →
     (∀ (i:Nat) (f:Field),fs[i]? = some f→DataW.trod enc P w base spare held fuel f.type ((cs.drop f.offset).take (P.cellsOf f.type))=xs[i]?)→litAll (xs.map (·.1))=some (cs.drop off)
 | [],off,xs,hc,_,hl,_=>by
   have:xs=[]:=List.eq_nil_of_length_eq_zero hl
   subst this
   have:off=cs.length:=by simpa [gu] using hc
   simp [litAll,this]
 | f :: fs,off,xs,hc,hr,hl,hx=>by
   cases xs with
   | nil=>simp at hl
   | cons x xs =>
     simp only [gu,Bool.and_eq_true,beq_iff_eq,decide_eq_true_eq] at hc
     obtain ⟨⟨hc1,hc2⟩,hc3⟩:=hc
     simp only [List.all_cons,Bool.and_eq_true] at hr
     have h0:=ih _ _ x hr.1 (by rw [hx 0 f rfl];rfl)
     have h1:=nY ih fs _ xs hc3 hr.2 (by simpa using hl) (fun i g hg=>by rw [hx (i+1) g (by simpa using hg)];rfl)
     rw [List.map_cons,litAll,h0,h1]
     simp only [Option.some.injEq]
     rw [hc1,← List.drop_drop,List.take_append_drop]
theorem rb:∀ (k fuel:Nat) (t:TypeId) (cs:List Value) (x:DataW H × List MemPlace),rdA P k t=true→DataW.trod enc P w base spare held fuel t cs=some x→iE x.1=some cs
 | 0,_,_,_,_,h,_=>by cases h
 | k + 1,fuel,t,cs,x,hr,h=>by
   unfold rdA at hr
   split at hr
   · rename_i hu;obtain ⟨b,rfl,rfl⟩:=DataW.trod_bool hu h;rfl
   · rename_i i hu;obtain ⟨n,rfl,rfl,_⟩:=DataW.trod_int hu h;rfl
   · rename_i hu;obtain ⟨s,rfl,rfl,_⟩:=DataW.trod_string hu h;rfl
   · rename_i n e hu
     rw [Bool.and_eq_true,decide_eq_true_eq] at hr
     obtain ⟨xs,m,_,rfl,hl,hn,hx⟩:=DataW.trod_array hu h
     have:=pS (c:=P.cellsOf e) (F:=fun i=>DataW.trod enc P w base spare held m e ((cs.drop (i*P.cellsOf e)).take (P.cellsOf e))) (cs:=cs) (fun i x hx=>rb k m e _ x hr.2 hx) n 0 xs hn (fun i hi=>by rw [Nat.zero_add];exact hx i hi) (by rw [Nat.zero_add,hl,hr.1];exact Nat.le_refl _)
     show litAll (xs.map (·.1))=some cs
     rw [this,Nat.zero_mul,List.drop_zero,List.take_of_length_le (by rw [hl,hr.1];exact Nat.le_refl _)]
   · rename_i fs hu
     rw [Bool.and_eq_true] at hr
     obtain ⟨xs,n,_,rfl,hl,hxl,hf⟩:=DataW.trod_struct hu h
     have:=nY (ok:=rdA P k) (cs:=cs) (fun t cs x h1 h2=>rb k n t cs x h1 h2) fs.toList 0 xs (by rw [hl];exact hr.1) hr.2 (by simpa using hxl) (fun i f hi=>hf i f (by simpa using hi))
     show litAll (xs.map (·.1))=some cs
     rw [this,List.drop_zero]
   · cases hr
end Go.Sy

namespace Go.Sy
open Go.RowKit Go.Lp
mutual
/-- the cells of laid data; of a slice its one cell is any -/
def mm{H:Type} : DataW H→List Value→Prop
 | .lit (.string bs),cs=>cs=[.string ⟨bs.toArray⟩]
 | .lit (.int k n),cs=>cs=[.int k n]
 | .lit (.bool b),cs=>cs=[.bool b]
 | .agg ps,cs=>litMs ps cs
 | _,cs=>∃ v:Value,cs=[v]∧v.oneCell'=true
def litMs{H:Type} : List (DataW H)→List Value→Prop
 | [],cs=>cs=[]
 | d::ds,cs=>∃ a b,cs=a++b∧mm d a∧litMs ds b
end
section
variable (P:Program)
def rdS:Nat→TypeId→Bool
 | 0,_=>false
 | k+1,t=>match P.underlying t with
   | some .bool=>true
   | some (.int _)=>true
   | some (.slice _)=>true
   | some (.array n e)=>decide (P.cellsOf t=n*P.cellsOf e) && rdS k e
   | some (.struct fs)=>gu P 0 fs.toList (P.cellsOf t) && fs.toList.all (fun f=>rdS k f.type)
   | _=>false
end
variable {P:Program} {H:Type} {enc:TypeId × Value→H} {w:World} {base:Nat} {spare:Nat→Bool} {held:Bool}
theorem nV{cs:List Value}{c:Nat}{F:Nat→Option (DataW H × List MemPlace)}(ih:∀ i x,F i=some x→mm x.1 ((cs.drop (i*c)).take c)) :
   ∀ (n o:Nat) (xs:List (DataW H × List MemPlace)),xs.length=n→(∀ i,i<n→F (o+i)=xs[i]?)→(o+n)*c≤cs.length→litMs (xs.map (·.1)) ((cs.drop (o*c)).take (n*c))
 | 0,o,xs,hl,_,_=>by
   have:xs=[]:=List.eq_nil_of_length_eq_zero hl
   subst this;simp [litMs]
 | n + 1,o,xs,hl,hx,hc=>by
   cases xs with
   | nil=>simp at hl
   | cons x xs =>
     have h0:=ih _ x (by rw [hx 0 (by omega)];rfl)
     have h1:=nV ih n (o+1) xs (by simpa using hl) (fun i hi=>by rw [show o+1+i=o+(i+1) by omega,hx (i+1) (by omega)];rfl) (by rw [show o+1+n=o+(n+1) by omega];exact hc)
     rw [Nat.add_zero] at h0
     rw [List.map_cons,litMs]
     refine ⟨_,_,?_,h0,h1⟩
     have e:(n+1)*c=c+n*c:=by rw [Nat.add_mul];omega
     rw [e,List.take_add,List.drop_drop,show o*c+c=(o+1)*c by rw [Nat.add_mul];omega]
theorem lV{cs:List Value}{fuel:Nat}{ok:TypeId→Bool}(ih:∀ (t:TypeId) (cs:List Value) (x:DataW H × List MemPlace),ok t=true→DataW.trod enc P w base spare held fuel t cs=some x→mm x.1 cs) :
   ∀ (fs:List Field) (off:Nat) (xs:List (DataW H × List MemPlace)),gu P off fs cs.length=true→fs.all (fun f=>ok f.type)=true→xs.length=fs.length →
     (∀ (i:Nat) (f:Field),fs[i]? = some f→DataW.trod enc P w base spare held fuel f.type ((cs.drop f.offset).take (P.cellsOf f.type))=xs[i]?)→litMs (xs.map (·.1)) (cs.drop off)
 | [],off,xs,hc,_,hl,_=>by
   have:xs=[]:=List.eq_nil_of_length_eq_zero hl
   subst this
   have:off=cs.length:=by simpa [gu] using hc
   simp [litMs,this]
 | f :: fs,off,xs,hc,hr,hl,hx=>by
   cases xs with
   | nil=>simp at hl
   | cons x xs =>
     simp only [gu,Bool.and_eq_true,beq_iff_eq,decide_eq_true_eq] at hc
     obtain ⟨⟨hc1,hc2⟩,hc3⟩:=hc
     simp only [List.all_cons,Bool.and_eq_true] at hr
     have h0:=ih _ _ x hr.1 (by rw [hx 0 f rfl];rfl)
     have h1:=lV ih fs _ xs hc3 hr.2 (by simpa using hl) (fun i g hg=>by rw [hx (i+1) g (by simpa using hg)];rfl)
     rw [List.map_cons,litMs]
     refine ⟨_,_,?_,h0,h1⟩
     rw [hc1,← List.drop_drop,List.take_append_drop]
theorem nX:∀ (k fuel:Nat) (t:TypeId) (cs:List Value) (x:DataW H × List MemPlace),rdS P k t=true→DataW.trod enc P w base spare held fuel t cs=some x→mm x.1 cs
 | 0,_,_,_,_,h,_=>by cases h
 | k + 1,fuel,t,cs,x,hr,h=>by
   unfold rdS at hr
   split at hr
   · rename_i hu;obtain ⟨b,rfl,rfl⟩:=DataW.trod_bool hu h;simp only [mm]
   · rename_i i hu;obtain ⟨n,rfl,rfl,_⟩:=DataW.trod_int hu h;simp only [mm]
   · rename_i e hu
     rcases DataW.trod_slice hu h with ⟨rfl,rfl⟩ | ⟨a,len,cap,_,_,_,_,rfl,rfl,_⟩
     · simp only [mm];exact ⟨_,rfl,rfl⟩
     · simp only [mm];exact ⟨_,rfl,rfl⟩
   · rename_i n e hu
     rw [Bool.and_eq_true,decide_eq_true_eq] at hr
     obtain ⟨xs,m,_,rfl,hl,hn,hx⟩:=DataW.trod_array hu h
     have:=nV (c:=P.cellsOf e) (F:=fun i=>DataW.trod enc P w base spare held m e ((cs.drop (i*P.cellsOf e)).take (P.cellsOf e))) (cs:=cs) (fun i x hx=>nX k m e _ x hr.2 hx) n 0 xs hn (fun i hi=>by rw [Nat.zero_add];exact hx i hi) (by rw [Nat.zero_add,hl,hr.1];exact Nat.le_refl _)
     rw [Nat.zero_mul,List.drop_zero,List.take_of_length_le (by rw [hl,hr.1];exact Nat.le_refl _)] at this
     simp only [mm];exact this
   · rename_i fs hu
     rw [Bool.and_eq_true] at hr
     obtain ⟨xs,n,_,rfl,hl,hxl,hf⟩:=DataW.trod_struct hu h
     have:=lV (ok:=rdS P k) (cs:=cs) (fun t cs x h1 h2=>nX k n t cs x h1 h2) fs.toList 0 xs (by rw [hl];exact hr.1) hr.2 (by simpa using hxl) (fun i f hi=>hf i f (by simpa using hi))
     rw [List.drop_zero] at this
     simp only [mm];exact this
   · cases hr
end Go.Sy

