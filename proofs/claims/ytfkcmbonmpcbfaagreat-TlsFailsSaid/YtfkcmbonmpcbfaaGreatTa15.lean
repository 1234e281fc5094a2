/- Parts of the proof, in build order. No condition. -/
import Derived.Test.YtfkcmbonmpcbfaaGreatTa10
import Derived.Test.YtfkcmbonmpcbfaaGreatTa09
import Derived.Test.YtfkcmbonmpcbfaaGreatTa12
import Derived.Test.YtfkcmbonmpcbfaaGreatTa04
import Derived.Test.YtfkcmbonmpcbfaaGreatTa05
import Derived.Test.YtfkcmbonmpcbfaaGreatTa14
import Derived.Lib.ConvBytes
import Derived.Test.YtfkcmbonmpcbfaaGreatTa11
import Derived.Test.YtfkcmbonmpcbfaaGreatTa03
import Derived.Test.YtfkcmbonmpcbfaaGreatTa06
set_option linter.unusedSimpArgs false
set_option linter.unusedVariables false
set_option maxHeartbeats 1000000
set_option maxRecDepth 20000
namespace Go.Proofs.YtfkcmbonmpcbfaaGreat
open Go.RowKit Go.Lp Go.Sy
def sLt(a b:ByteArray):Prop:=a.toList<b.toList
instance (a b:ByteArray):Decidable (sLt a b):=by unfold sLt;infer_instance
theorem acR{a b:ByteArray}(h:a.toList=b.toList):a=b:=by
 have key:∀ (x:ByteArray),x.toList=x.data.toList:=fun x=>by
   have loop:∀ (n i:Nat) (acc:List UInt8),x.size-i=n→ByteArray.toList.loop x i acc=acc.reverse++x.data.toList.drop i:=by
     intro n
     induction n with
     | zero =>
       intro i acc h
       unfold ByteArray.toList.loop
       have hle:x.data.size≤i:=by have:x.size=x.data.size:=rfl;omega
       rw [if_neg (by omega),List.drop_eq_nil_of_le (by simpa using hle),List.append_nil]
     | succ n ih =>
       intro i acc h
       unfold ByteArray.toList.loop
       have hlt:i<x.size:=by omega
       have hlt':i<x.data.toList.length:=by simpa using hlt
       rw [if_pos hlt,ih (i+1) _ (by omega),List.drop_eq_getElem_cons hlt']
       have:x.get! i=x.data.toList[i]:=by
         show x.data[i]! = _
         rw [getElem!_pos x.data i (by simpa using hlt)];simp
       rw [this];simp
   unfold ByteArray.toList
   rw [loop _ 0 [] rfl];simp
 rw [key,key] at h
 cases a;cases b
 simp only [ByteArray.mk.injEq]
 exact Array.toList_inj.1 h
theorem xd(a:ByteArray):¬ sLt a a:=List.lt_irrefl _
theorem zg{a b c:ByteArray}(h1:sLt a b)(h2:sLt b c):sLt a c:=List.lt_trans h1 h2
theorem acb(a b:ByteArray):sLt a b∨a=b∨sLt b a:=by
 unfold sLt
 by_cases h1:a.toList<b.toList
 · exact .inl h1
 · by_cases h2:b.toList<a.toList
   · exact .inr (.inr h2)
   · exact .inr (.inl (acR (List.le_antisymm h2 h1)))
theorem ze{a b:ByteArray}(h:sLt a b):¬ sLt b a:=fun k=>xd _ (zg h k)
def jO(a b:Int):Int:=if a<b then -1 else if b<a then 1 else 0
def uH(a b:ByteArray):Int:=if sLt a b then -1 else if sLt b a then 1 else 0
theorem kq(a b:Int):jO a b<0↔a<b:=by unfold jO;split<;>(try split)<;>omega
open Go.Proofs.Tryz
attribute [local irreducible] aL aB awp aC fwp Quiet
theorem sR(z:Int):Con Tryz.prog 302 [.int .i64 z] [] [] (fun r _ _=>r=.bool false):=by
 refine EN1 Tryz.func302 rfl (aSR (aA rfl (aNn (aSR (aM rfl (aM rfl (aU rfl (dE rfl rfl) (aA rfl (aNn (aj (FZ1 [] Tryz.results302 rfl ?_)))))))))))
 simp
theorem sS(z:ByteArray):Con Tryz.prog 252 [.string z] [] [] (fun r _ _=>r=.bool false):=by
 refine EN1 Tryz.func252 rfl (aSR (aA rfl (aNn (aSR (aM rfl (aM rfl (aU rfl (ab3 rfl rfl) (aA rfl (aNn (aj (FZ1 [] Tryz.results252 rfl ?_)))))))))))
 simp
theorem kr(a b:Int):Con Tryz.prog 250 [.int .i64 a,.int .i64 b] [] [] (fun r _ _=>r=.int .i64 (jO a b)):=by
 refine EN2 Tryz.func250 rfl (aSR (aA rfl (aNn (aSR (aM rfl (aU rfl (Q0 rfl (sR _)) (aA rfl (aNn (aSR (aM rfl (aU rfl (Q0 rfl (sR _)) ?_)))))))))))
 refine aA rfl (aNs (aSR (aM rfl (aNn ?_))))
 refine ah _ rfl (fun h1 => ?_) (fun h1 => ?_)
 ·skip
  exact absurd h1 (by decide)
 ·skip
  refine ai (ak (aq (aSR (aM rfl (aNn ?_)))))
  refine ah _ rfl (fun h2 => ?_) (fun h2 => ?_)
  ·skip
   exact absurd h2 (by decide)
  ·skip
   refine ai (ak (aq (aSR (aM rfl (aM rfl (aU rfl (bd rfl rfl) (aNn ?_)))))))
   refine ah _ rfl (fun h3 => ?_) (fun h3 => ?_)
   ·skip
    refine aSR (aA rfl (aNn (aj (aK (FZ1 [] Tryz.results250 rfl ?_)))))
    have:a<b:=by simpa using h3
    unfold jO;rw [if_pos this]
   ·skip
    refine ai (ak (aq (aSR (aM rfl (aM rfl (aU rfl (db rfl rfl) (aNn ?_)))))))
    refine ah _ rfl (fun h4 => ?_) (fun h4 => ?_)
    ·skip
     refine aSR (aA rfl (aNn (aj (aK (FZ1 [] Tryz.results250 rfl ?_)))))
     have a1:¬ a<b:=by simpa using h3
     have:b<a:=by simpa using h4
     unfold jO;rw [if_neg a1,if_pos this]
    ·skip
     refine ai (ak (aSR (aA rfl (aNn (aj (FZ1 [] Tryz.results250 rfl ?_))))))
     have a1:¬ a<b:=by simpa using h3
     have a2:¬ b<a:=by simpa using h4
     unfold jO;rw [if_neg a1,if_neg a2]
theorem sO(a b:ByteArray):Con Tryz.prog 152 [.string a,.string b] [] [] (fun r _ _=>r=.int .i64 (uH a b)):=by
 refine EN2 Tryz.func152 rfl (aSR (aA rfl (aNn (aSR (aM rfl (aU rfl (Q0 rfl (sS _)) (aA rfl (aNn (aSR (aM rfl (aU rfl (Q0 rfl (sS _)) ?_)))))))))))
 refine aA rfl (aNs (aSR (aM rfl (aNn ?_))))
 refine ah _ rfl (fun h1 => ?_) (fun h1 => ?_)
 ·skip
  exact absurd h1 (by decide)
 ·skip
  refine ai (ak (aq (aSR (aM rfl (aNn ?_)))))
  refine ah _ rfl (fun h2 => ?_) (fun h2 => ?_)
  ·skip
   exact absurd h2 (by decide)
  ·skip
   refine ai (ak (aq (aSR (aM rfl (aM rfl (aU rfl (adi rfl rfl) (aNn ?_)))))))
   refine ah _ rfl (fun h3 => ?_) (fun h3 => ?_)
   ·skip
    refine aSR (aA rfl (aNn (aj (aK (FZ1 [] Tryz.results152 rfl ?_)))))
    have:sLt a b:=of_decide_eq_true h3
    unfold uH;rw [if_pos this]
   ·skip
    refine ai (ak (aq (aSR (aM rfl (aM rfl (aU rfl (adh rfl rfl) (aNn ?_)))))))
    refine ah _ rfl (fun h4 => ?_) (fun h4 => ?_)
    ·skip
     refine aSR (aA rfl (aNn (aj (aK (FZ1 [] Tryz.results152 rfl ?_)))))
     have a1:¬ sLt a b:=of_decide_eq_false h3
     have h4':¬ sLt a b∧¬ a=b:=by simp only [Bool.not_eq_true',Bool.or_eq_false_iff,decide_eq_false_iff_not] at h4;exact h4
     have:sLt b a:=by
       rcases acb a b with h | h | h
       · exact (a1 h).elim
       · exact (h4'.2 h).elim
       · exact h
     unfold uH;rw [if_neg a1,if_pos this]
    ·skip
     refine ai (ak (aSR (aA rfl (aNn (aj (FZ1 [] Tryz.results152 rfl ?_))))))
     have a1:¬ sLt a b:=of_decide_eq_false h3
     have h4':sLt a b∨a=b:=by simp only [Bool.not_eq_false',Bool.or_eq_true,decide_eq_true_eq] at h4;exact h4
     have a2:¬ sLt b a:=by
       rcases h4' with h | h
       · exact ze h
       · rw [h];exact xd _
     unfold uH;rw [if_neg a1,if_neg a2]
theorem abL(v:Value)(a b:Int):Con Tryz.prog 151 [v] [] [az v 3 1 [[.v (.int .i64 a)],[.v (.int .i64 b)]]] (fun r _ _=>r=.int .i64 (if a≠0 then a else b)):=by
 refine Con.ofRes (p:=Sh v (.sl [[.v (.int .i64 a)],[.v (.int .i64 b)]])) ?_ _ (fun w S fp hres=>(kK (hres 0 _ rfl)).mono (fun _ _=>rfl) fun b hb=>hb.imp id fun hf=>⟨0,by simp,hf⟩)
 refine EN1 Tryz.func151 rfl (sn (.of (aF 0 rfl)) (fun ad cp hv => ?_))
 obtain rfl:v=.slice ad 2 cp:=hv
 refine aSR (aA rfl (aNn (aSR (aA rfl (aNs (aSR (aM rfl (aU rfl (aY Tryz.underlying26 rfl) (aM rfl (aNn (ao (aP [0,3,6,7,8] [0] [] (fun (k:Nat) st=>(k≤2∧(1≤k→a=0)∧(2≤k→b=0))∧st=⟨[(0,true,.slice ad 2 cp),(3,true,.int .i64 0),(6,true,.slice ad 2 cp),(7,true,.int .i64 2),(8,true,.int .i64 k)],[Sh (.slice ad 2 cp) (.sl [[.v (.int .i64 a)],[.v (.int .i64 b)]])],[]⟩) (fun k=>2-k) rfl (⟨0,⟨by omega,fun h=>by omega,fun h=>by omega⟩,rfl⟩) ?_))))))))))))
 rintro k st ⟨⟨hk,ha,hb⟩,rfl⟩
 refine aSR (aU rfl (bd rfl rfl) (aNs ?_))
 refine ah _ rfl (fun h1 => ?_) (fun h1 => ?_)
 ·skip
  have hk':k<2:=by simp at h1;omega
  obtain ⟨c,hc1,hc⟩:∃ c,(([[.v (.int .i64 a)],[.v (.int .i64 b)]]:List (List D))[k]? = some [D.v (.int .i64 c)])∧((k=0∧c=a)∨(k=1∧c=b)):=by
    rcases (by omega:k=0∨k=1) with rfl | rfl
    · exact ⟨a,rfl,.inl ⟨rfl,rfl⟩⟩
    · exact ⟨b,rfl,.inr ⟨rfl,rfl⟩⟩
  refine ai (ak (aq (ao (aSR (gb true rfl rfl (fun _=>fT Tryz.underlying26 tk3 rfl (aF 0 rfl) rfl hc1 rfl rfl) (fun h=>absurd h (by decide)) (fun ⟨b4_0,o4_0⟩=>(US 0 tk3 0 rfl rfl rfl rfl rfl (aA rfl (aNn (aSR (aM rfl (aM rfl (aU rfl (dE rfl rfl) (aNn ?_))))))))))))))
  refine ah _ rfl (fun h2 => ?_) (fun h2 => ?_)
  ·skip
   refine aSR (aM rfl (aA rfl (aNn (aj (bF (aK (aK (bF (aK (FZ1 [] Tryz.results151 rfl ?_))))))))))
   have hc0:c≠0:=by simpa using h2
   rcases hc with ⟨rfl,rfl⟩ | ⟨rfl,rfl⟩
   · rw [if_pos hc0]
   · rw [if_neg (by have:=ha (by omega);omega)]
  ·skip
   refine ai (bb (ak (ae (aU rfl (aO rfl rfl (by omega)) (aM rfl (aNn ?_))))))
   refine ⟨[0,3,6,7,8],[0],[],rfl,?_⟩
   have hc0:c=0:=by simpa using h2
   rcases hc with ⟨rfl,rfl⟩ | ⟨rfl,rfl⟩
   · exact ⟨1,⟨⟨by omega,fun _=>hc0,fun h=>by omega⟩,rfl⟩,by omega⟩
   · exact ⟨2,⟨⟨by omega,fun _=>ha (by omega),fun _=>hc0⟩,rfl⟩,by omega⟩
 ·skip
  refine aQ (aR (aR (aX (ak (aSR (aM rfl (aA rfl (aNn (aj (FZ1 [] Tryz.results151 rfl ?_))))))))))
  have hk2:k=2:=by simp at h1;omega
  subst hk2
  rw [if_neg (by have:=ha (by omega);omega),hb (by omega)]
end Go.Proofs.YtfkcmbonmpcbfaaGreat

namespace Go.Sy
open Go.RowKit
theorem adg{P:Program}{n:Fr}{s:Sta}{d:Option Tmp}{ty:TypeId}{pos:String}{af:Array Edge}{gd:Option (Nat × Bool)}{x:Operand}{T t' E:TypeId}{ad:Option Addr}{k c:Nat}(hT:P.underlying T=some (.slice E))(hx:ev s.env x=some (true,.slice ad k c)):Quiet P n ⟨d,.binOp .neq T x (.const (.slice none 0 0)) t',ty,pos,af,gd⟩ s (.bool (!ad.isNone)) :=
 .run2 (vy:=.slice none 0 0) hx rfl fun ρ w h1 h2=>by
   unfold execOp;dsimp only;rw [h1,h2]
   simp only [eqGuard_at_slice,binOp,Sem.run_bind,Sem.run_pure,run_equal_slice_nil w T E ad k c hT,Result.andThen_ok]
end Go.Sy
namespace Go.Proofs.YtfkcmbonmpcbfaaGreat
open Go.RowKit Go.Lp Go.Sy Go.Lv
open Go.Proofs.Tryz
attribute [local irreducible] aL aB awp aC fwp Quiet
abbrev y4:Int→List D:=fun z=>[.v (encI z)]
theorem re(a b:Sl Int):Con Tryz.prog 242 [a.val,b.val] [ShF y4 a,ShF y4 b] [] (YN (fun z:Int=>.int .i64 z) fun _=>True):=by
 refine EN2 Tryz.func242 rfl (ct (.of (aF 0 rfl)) (fun hlen=>(aSR (aA rfl (aNs (aSR (aM rfl (aU rfl (aY Tryz.underlying26 rfl) (aM rfl (aNn (ao (aP [0,1,9,10,11] [1,0] [] (fun (k:Nat) st=>k≤a.l.length∧st=⟨[(0,true,a.val),(1,true,b.val),(9,true,a.val),(10,true,.int .i64 a.l.length),(11,true,.int .i64 k)],[ShF y4 a,ShF y4 b],[]⟩) (fun k=>a.l.length-k) rfl (⟨0,Nat.zero_le _,rfl⟩) ?_))))))))))))
 rintro k st ⟨hk,rfl⟩
 refine aSR (aU rfl (bd rfl rfl) (aNs ?_))
 refine ah _ rfl (fun h1 => ?_) (fun h1 => ?_)
 ·skip
  have hk':k<a.l.length:=by simpa using h1
  obtain ⟨x,hx⟩:∃ x,a.l[k]? = some x:=⟨_,List.getElem?_eq_getElem hk'⟩
  refine ai (ak (aq (ao (aSR (aM rfl (UI Tryz.underlying26 tk3 0 rfl rfl rfl rfl rfl (aH hx) rfl rfl (fun ⟨b3_1,o3_1⟩ => ?_)))))))
  refine US 0 tk3 0 rfl rfl rfl rfl rfl (aA rfl (aA rfl (aNs (aSR (aM rfl (aM rfl (aU rfl (aY Tryz.underlying26 rfl) (aU rfl (dY rfl rfl) (aNn ?_)))))))))
  refine ah _ rfl (fun h2 => ?_) (fun h2 => ?_)
  ·skip
   refine aSR (aA rfl (aNn (aj (aK (bF (aK (aK (bF (aK (FZ1 [] Tryz.results242 rfl ?_))))))))))
   exact ⟨⟨rfl,rfl⟩,_,rfl,trivial⟩
  ·skip
   have hb2:k<b.l.length:=by simp at h2;omega
   obtain ⟨y,hy⟩:∃ y,b.l[k]? = some y:=⟨_,List.getElem?_eq_getElem hb2⟩
   refine ai (ak (aSR (aM rfl (aM rfl (UI Tryz.underlying26 tk3 2 rfl rfl rfl rfl rfl (aH hy) rfl rfl (fun ⟨b6_2,o6_2⟩=>(US 0 tk3 0 rfl rfl rfl rfl rfl (aA rfl (aNn (aSR (aM rfl (aM rfl (aU rfl (Q0 rfl (kr _ _)) ?_)))))))))))))
   refine aA rfl (aNn (aSR (aM rfl (aU rfl (dE rfl rfl) (aNn ?_)))))
   refine ah _ rfl (fun h3 => ?_) (fun h3 => ?_)
   ·skip
    refine aSR (aM rfl (aA rfl (aNn (aj (bF (aK (aK (bF (aK (FZ1 [] Tryz.results242 rfl ?_))))))))))
    exact ⟨⟨rfl,rfl⟩,_,rfl,trivial⟩
   ·skip
    refine ai (bb (ak (ae (aU rfl (aO rfl rfl (by omega)) (aM rfl (aNn ?_))))))
    refine ⟨[0,1,9,10,11],[1,0],[],rfl,?_⟩
    exact ⟨k+1,⟨hk',rfl⟩,by omega⟩
 ·skip
  refine aQ (aR (aR (aX (ak (aq (aSR (aM rfl (aU rfl (aY Tryz.underlying26 rfl) (aM rfl (aU rfl (aY Tryz.underlying26 rfl) (aU rfl (bd rfl rfl) (aNn ?_))))))))))))
  refine ah _ rfl (fun h4 => ?_) (fun h4 => ?_)
  ·skip
   refine aSR (aA rfl (aNn (aj (aK (FZ1 [] Tryz.results242 rfl ?_)))))
   exact ⟨⟨rfl,rfl⟩,_,rfl,trivial⟩
  ·skip
   refine ai (ak (aSR (aA rfl (aNn (aj (FZ1 [] Tryz.results242 rfl ?_))))))
   exact ⟨⟨rfl,rfl⟩,_,rfl,trivial⟩
theorem z8 (N:Nat) (hN:N≤10000) (l:Sl cK) (hl:l.l.length≤100000000) (hr:∀ a∈l.l,iS N a) :
   Con Tryz.prog 255 [.int .i64 N,l.val] [ShF cK.row l] [] fun r ps hp=>(ps=[]∧hp=[])∧∃ ad k c,r=.slice ad k c∧(N≤1→l.l=[]→k=0):=by
 have hT:=vD hr
 refine EN2 Tryz.func255 rfl (aSR (aA rfl (aNn (aSR (aM rfl (aA rfl (aNs (aSR (aM rfl (aM rfl (LT rfl (EC [0] [] rfl (yi N (by omega) l hl hr) ?_))))))))))))
 rintro _ _ _ ⟨rfl,P,rfl,hok,rfl⟩
 refine aST ?_
 refine aU rfl (aY Tryz.underlying381 rfl) (aM rfl (aNn (ao (ct (.of (aF 0 rfl)) (fun hPl => ?_)))))
 refine aP [0,1,5,18,19,20] [2,1,0] [] (fun (q:Nat × Int) st=>(q.1≤P.l.length∧0≤q.2∧q.2≤N∧(N≤1→q.2=N))∧st=⟨[(0,true,.int .i64 N),(1,true,l.val),(5,true,.int .i64 q.2),(18,true,P.val),(19,true,.int .i64 P.l.length),(20,true,.int .i64 q.1)],[ShF slR P,bN (ShF b9) P.l,ShF cK.row l],[]⟩) (fun q=>P.l.length-q.1) rfl (⟨(0,(N:Int)),⟨Nat.zero_le _,by dsimp only;omega,by dsimp only;omega,fun _=>rfl⟩,rfl⟩) ?_
 rintro ⟨k,z⟩ st ⟨⟨hk,hz0,hzN,hz1⟩,rfl⟩
 dsimp only at hk hz0 hzN hz1 ⊢
 refine aSR (aU rfl (bd rfl rfl) (aNs ?_))
 refine ah _ rfl (fun h1 => ?_) (fun h1 => ?_)
 ·skip
  have hk':k<P.l.length:=by simpa using h1
  obtain ⟨p,hp⟩:∃ p,P.l[k]? = some p:=⟨_,List.getElem?_eq_getElem hk'⟩
  have hpk:=hok p (List.mem_of_getElem? hp)
  obtain ⟨x0,hx0⟩:∃ x0,p.l[0]? = some x0:=⟨_,List.getElem?_eq_getElem (List.length_pos_iff.2 hpk.ne)⟩
  have hx0r:=hpk.rg x0 (List.mem_of_getElem? hx0)
  have hpsh:=hpk.sh
  refine ai (ak (aq (ao (aSR (UI Tryz.underlying381 tk26 0 rfl rfl rfl rfl rfl (aH hp) rfl rfl (fun ⟨b4_0,o4_0⟩=>(US 0 tk26 0 rfl rfl rfl rfl rfl (aA rfl (aNn (aSR (aM rfl (aU rfl (aY Tryz.underlying26 rfl) (aU rfl (db rfl rfl) (aNn ?_))))))))))))))
  refine ah _ rfl (fun h2 => ?_) (fun h2 => ?_)
  ·skip
   have hlong:1<p.l.length:=by simp at h2;omega
   refine ae (aM rfl (aM rfl (gb true rfl rfl (fun _=>aZ Tryz.underlying26 tk3 rfl ((Ent.all (f:=ShF b9) (.of (aF 2 rfl)) hp)) rfl (aH hx0) rfl rfl) (fun h=>absurd h (by decide)) (fun ⟨b6_2,o6_2⟩=>(US 0 tk3 0 rfl rfl rfl rfl rfl (aU rfl (oT rfl rfl) (aA rfl (bE (bb (ak (ae (aU rfl (aO rfl rfl (by omega)) (aM rfl (aNn ?_))))))))))))))
   refine ⟨[0,1,5,18,19,20],[2,1,0],[],rfl,?_⟩
   exact ⟨(k+1,min z x0),⟨⟨by dsimp only;omega,by dsimp only;omega,by dsimp only;omega,fun h=>by omega⟩,rfl⟩,by dsimp only;omega⟩
  ·skip
   refine ai (bb (ak (ae (aU rfl (aO rfl rfl (by omega)) (aM rfl (aNn ?_))))))
   refine ⟨[0,1,5,18,19,20],[2,1,0],[],rfl,?_⟩
   exact ⟨(k+1,z),⟨⟨by dsimp only;omega,hz0,hzN,hz1⟩,rfl⟩,by dsimp only;omega⟩
 ·skip
  refine aQ (aR (aR (aX (ak (aq (aSR (aM rfl (aU rfl ((bd rfl rfl).castV (v':=.bool false) (congrArg Value.bool (decide_eq_false (by omega)))) (aM rfl (aM rfl (aM rfl (aU rfl (Q1 rfl (qe N l) 2 rfl) (aU rfl (bX rfl) (aU rfl (cC rfl rfl (fun _=>rfl)) (aNn ?_)))))))))))))))
  refine ah _ rfl (fun h3 => ?_) (fun h3 => ?_)
  ·skip
   exact absurd h3 (by rw [ua (by omega) hr];simp)
  ·skip
   refine ai (ak (aq (aSR (aM rfl (aU rfl (aY Tryz.underlying354 rfl) (aM rfl (aNn (ao (ct (.of (aF 2 rfl)) (fun hll=>(aP [0,1,5,41,42,43] [2,1,0] [] (fun (q:Nat × Int) st=>(q.1≤l.l.length∧0≤q.2∧q.2≤N∧(N≤1→l.l=[]→q.2=N))∧st=⟨[(0,true,.int .i64 N),(1,true,l.val),(5,true,.int .i64 q.2),(41,true,l.val),(42,true,.int .i64 l.l.length),(43,true,.int .i64 q.1)],[ShF slR P,bN (ShF b9) P.l,ShF cK.row l],[]⟩) (fun q=>l.l.length-q.1) rfl (⟨(0,z),⟨Nat.zero_le _,hz0,hzN,fun h _=>hz1 h⟩,rfl⟩) ?_)))))))))))
   rintro ⟨j,y⟩ st ⟨⟨hj,hy0,hyN,hy1⟩,rfl⟩
   dsimp only at hj hy0 hyN hy1 ⊢
   refine aSR (aU rfl (bd rfl rfl) (aNs ?_))
   refine ah _ rfl (fun h4 => ?_) (fun h4 => ?_)
   ·skip
    have hj':j<l.l.length:=by simpa using h4
    obtain ⟨a,ha⟩:∃ a,l.l[j]? = some a:=⟨_,List.getElem?_eq_getElem hj'⟩
    have har:=hr a (List.mem_of_getElem? ha)
    have hfr:=har.1
    have hln:l.l≠[]:=fun h=>by rw [h] at hj';cases hj'
    refine ai (ak (aq (ao (aSR (UI Tryz.underlying354 tk356 2 rfl rfl rfl rfl rfl (aH ha) rfl rfl (fun ⟨b12_0,o12_0⟩=>(US 0 tk356 0 rfl rfl rfl rfl rfl (LT rfl (bg (zs:=[.int .i64 0,.int .i64 0]) (by kernel_rfl) rfl (fun b12_2=>(aHN ?_)))))))))))
    refine aJ rfl (aV 0 tk356 rfl rfl rfl rfl (aHK ?_))
    refine aNn (aSR (UO 0 rfl rfl (UL 0 tk3 rfl rfl rfl rfl (UO 1 rfl rfl (UL 0 tk3 rfl rfl rfl rfl (aU rfl (bp rfl rfl) (aNn ?_)))))))
    refine ah _ rfl (fun h5 => ?_) (fun h5 => ?_)
    ·skip
     refine ae (aM rfl (UO 0 rfl rfl (UL 0 tk3 rfl rfl rfl rfl (aU rfl (oT rfl rfl) (aA rfl (bE (bb (ak (ae (aU rfl (aO rfl rfl (by omega)) (aM rfl (aNn ?_))))))))))))
     refine ⟨[0,1,5,41,42,43],[2,1,0],[],rfl,?_⟩
     exact ⟨(j+1,min y a.from_),⟨⟨by dsimp only;omega,by dsimp only;omega,by dsimp only;omega,fun _ h=>absurd h hln⟩,rfl⟩,by dsimp only;omega⟩
    ·skip
     refine ai (bb (ak (ae (aU rfl (aO rfl rfl (by omega)) (aM rfl (aNn ?_))))))
     refine ⟨[0,1,5,41,42,43],[2,1,0],[],rfl,?_⟩
     exact ⟨(j+1,y),⟨⟨by dsimp only;omega,hy0,hyN,hy1⟩,rfl⟩,by dsimp only;omega⟩
   ·skip
    refine aQ (aR (aR (aX (ak (aq (aSR (aM rfl (aM rfl (aU rfl (bp rfl rfl) (aNn ?_))))))))))
    refine ah _ rfl (fun h6 => ?_) (fun h6 => ?_)
    ·skip
     refine aSR (aA rfl (aNn (aj (aK (FZ1 [] Tryz.results255 rfl ?_)))))
     exact ⟨⟨rfl,rfl⟩,none,0,0,rfl,fun _ _=>rfl⟩
    ·skip
     have hyne:y≠N:=by simpa using h6
     obtain ⟨b,hb⟩:∃ b,oD N l.l [y]=b:=⟨_,rfl⟩
     have hbl:b.length=N:=by rw [← hb];exact wi (tL hr)
     have hTy:=hT [y]
     have hrk:∀ v,aaZ (oE N l.l [y]) v≤100000:=fun v=>by
       have h1:=ab4 (oE N l.l [y]) v
       have h2:(oE N l.l [y]).length≤_:=abu (rs:=cM [y]) (tL hr)
       have h3:=uo [y]
       simp at h3
       omega
     obtain ⟨ρ,hρ⟩:∃ ρ,aaZ (oE N l.l [y])=ρ:=⟨_,rfl⟩
     rw [hρ,hb] at hTy
     rw [hρ] at hrk
     refine ai (ak (aSR (aM rfl (aM rfl (aM rfl (LT rfl (WL (zs:=[.int .i64 0]) el26 rfl rfl rfl (.more rfl (.v rfl .nil) .nil) rfl rfl (fun v18_3=>(aHN ?_)))))))))
     refine iQ 0 rfl ?_
     refine LT rfl (EC [0,3] [] rfl (sZ N (by omega) l hl hr ⟨v18_3,1,[y]⟩ (by show 1≤_;decide) hb) ?_)
     rintro vb _ _ ⟨rfl,rfl⟩
     refine aST ?_
     refine aA rfl (aNn (aSR (aA rfl (aNs (aq (fg 1 rfl (fun w S F hh=>e7 hh) (fun hov => ?_)))))))
     obtain ⟨bad,bcp,rfl⟩:=hov
     rw [cI]
     refine eu 1 rfl (bK (ShF y4 (⟨none,0,[]⟩:Sl Int)) (fun w S _=>er.e none 0 (Nat.zero_le _)) (ae (aM rfl (aU rfl (aY Tryz.underlying354 rfl) (aM rfl (aNn (ao (aP [5,10,11,65,66,67] [5,4,0] [] (fun (q:Nat × Sl Int) st=>q.1≤l.l.length∧st=⟨[(5,true,.int .i64 y),(10,true,.slice bad b.length bcp),(11,true,q.2.val),(65,true,l.val),(66,true,.int .i64 l.l.length),(67,true,.int .i64 q.1)],[ShF y4 q.2,Sh (.slice bad b.length bcp) (.sl (bO encI b)),ShF cK.row l],[]⟩) (fun q=>l.l.length-q.1) rfl (⟨(0,⟨none,0,[]⟩),Nat.zero_le _,rfl⟩) ?_))))))))
     rintro ⟨m,bst⟩ st ⟨hm,rfl⟩
     dsimp only at hm ⊢
     refine aSR (aU rfl (bd rfl rfl) (aNs ?_))
     refine ah _ rfl (fun h7 => ?_) (fun h7 => ?_)
     ·skip
      have hm':m<l.l.length:=by simpa using h7
      obtain ⟨a,ha⟩:∃ a,l.l[m]? = some a:=⟨_,List.getElem?_eq_getElem hm'⟩
      have har:=hr a (List.mem_of_getElem? ha)
      have hfr:=har.1
      refine ai (ak (aq (ao (aSR (UI Tryz.underlying354 tk356 2 rfl rfl rfl rfl rfl (aH ha) rfl rfl (fun ⟨b22_0,o22_0⟩=>(US 0 tk356 0 rfl rfl rfl rfl rfl (LT rfl (bg (zs:=[.int .i64 0,.int .i64 0]) (by kernel_rfl) rfl (fun b22_2=>(aHN ?_)))))))))))
      refine aJ rfl (aV 0 tk356 rfl rfl rfl rfl (aHK ?_))
      refine aNs (aSR (UO 1 rfl rfl (UL 0 tk3 rfl rfl rfl rfl (aM rfl (aU rfl (dE rfl rfl) (aNn ?_))))))
      refine ah _ rfl (fun h8 => ?_) (fun h8 => ?_)
      ·skip
       refine aQ (aR (aX (ak (ae (aU rfl (aO rfl rfl (by omega)) (aM rfl (aNn ?_)))))))
       refine ⟨[5,10,11,65,66,67],[2,1,0],[],rfl,?_⟩
       exact ⟨(m+1,bst),⟨hm',rfl⟩,by dsimp only;omega⟩
      ·skip
       refine ai (ak (aSR (aM rfl (UO 0 rfl rfl (UL 0 tk3 rfl rfl rfl rfl ?_)))))
       refine LT rfl (EC [1] [] rfl (yr ⟨bad,bcp,b⟩ ρ hTy a.from_ (by dsimp only;omega) (hrk _)) ?_)
       rintro _ _ _ ⟨rfl,ad,cd,rfl,rfl⟩
       refine aST ?_
       refine aA rfl (aNn (aSR (aM rfl (aU rfl (adg Tryz.underlying26 rfl) (aM rfl (aG rfl rfl (fun hc=>ax rfl) (aG rfl rfl (fun hc=>iH Tryz.underlying26 (aa rfl hc)) (aG rfl rfl (fun hc=>ax (aa rfl hc)) (aG rfl rfl (fun hc=>ax rfl) (aG rfl rfl (fun hc=>aY Tryz.underlying26 (aa rfl hc)) (aG rfl rfl (fun hc=>ax rfl) (aG rfl rfl (fun hc=>aY Tryz.underlying26 (aa rfl hc)) (aG rfl rfl (fun hc=>bd (aa rfl hc) (aa rfl hc)) ?_)))))))))))))
       refine aG rfl rfl (fun hc=>cC (aa rfl hc) rfl (fun h=>gf hc h)) (aG rfl rfl (fun hc=>ax (aa rfl hc)) (aG rfl rfl (fun hc=>ax rfl) (aG rfl rfl (fun hc=>aY Tryz.underlying26 (aa rfl hc)) (aG rfl rfl (fun hc=>ax rfl) (aG rfl rfl (fun hc=>aY Tryz.underlying26 (aa rfl hc)) (aG rfl rfl (fun hc=>bp (aa rfl hc) (aa rfl hc)) (aG rfl rfl (fun hc=>ax (aa rfl hc)) (aG rfl rfl (fun hc=>ax rfl) (aG rfl rfl (fun hc=>ax rfl) ?_)))))))))
       refine iP (caps:=[]) [4,2] ((0:Int)) (by kernel_rfl) _ rfl rfl (fun _=>rfl) (fun hc=>(aD (aa rfl hc) (aD (aa rfl hc) rfl))) (fun hc=>by rw [List.append_nil];exact re ⟨ad,cd,je b ρ a.from_⟩ bst) (fun cz hcz => ?_)
       refine aG rfl rfl (fun hc=>bd (aa rfl hc) rfl) (aG rfl rfl (fun hc=>aT (aa rfl hc) rfl (fun h=>gt hc h)) (aG rfl rfl (fun hc=>cC (aa rfl hc) rfl (fun h=>gf hc h)) (aU rfl (aT rfl rfl (fun h=>gt rfl h)) (aNn ?_))))
       refine ah _ rfl (fun h9 => ?_) (fun h9 => ?_)
       ·skip
        refine ae (aM rfl (aA rfl (bE (bb (ak (ae (aU rfl (aO rfl rfl (by omega)) (aM rfl (aNn ?_)))))))))
        refine ⟨[5,10,11,65,66,67],[4,1,0],[],rfl,?_⟩
        exact ⟨(m+1,⟨ad,cd,je b ρ a.from_⟩),⟨hm',rfl⟩,by dsimp only;omega⟩
       ·skip
        refine ai (bb (ak (ae (aU rfl (aO rfl rfl (by omega)) (aM rfl (aNn ?_))))))
        refine ⟨[5,10,11,65,66,67],[2,1,0],[],rfl,?_⟩
        exact ⟨(m+1,bst),⟨hm',rfl⟩,by dsimp only;omega⟩
     ·skip
      refine aQ (aR (aR (aX (ak (aSR (aM rfl (aA rfl (aNn (aj (FZ1 [] Tryz.results255 rfl ?_))))))))))
      exact ⟨⟨rfl,rfl⟩,_,_,_,rfl,fun h1 h2=>absurd (hy1 h1 h2) hyne⟩
end Go.Proofs.YtfkcmbonmpcbfaaGreat

namespace Go.Sy
open Go.RowKit Go.Lp
def byR(l:List UInt8):List (List D):=l.map fun u=>[.v (.int .u8 u.toNat)]
theorem abG(l:List UInt8):(byR l).length=l.length:=by simp [byR]
section
variable {P:Program} {n:Fr} {env:Env} {ps:List Per} {hp:List Res} {ty:TypeId} {pos:String} {af:Array Edge} {gd:Option (Nat × Bool)} {K:Sta→Prop} {q:Bool}
theorem vA {t:Nat} {S T E:TypeId} {u:TypeDesc} {x:Operand} {b:ByteArray} (hS:P.underlying S=some u) (hT:P.underlying T=some (.slice E)) (hE:P.underlying E=some (.int .u8)) (hx:ev env x=some (true,.string b)) (hb:b.size≤maxLen) (ht:fits n (some t)=true)
   (hK:∀ ad c,K ⟨(t,true,.slice ad b.size c)::env,Sh (.slice ad b.size c) (.sl (byR b.data.toList))::ps,hp⟩):Eff P n ⟨some t,.convert S T x,ty,pos,af,gd⟩ ⟨env,ps,hp⟩ q K:=fun w S' fp a hst he hn=>by
 have e1:=he.val hx rfl
 have hrun:=Lib.run_convert_string_bytes (P:=P) w S T E b hS hT hE
 have hexec:(execOp a.eval ⟨some t,.convert S T x,ty,pos,af,gd⟩).run P w=.ok (.value (.slice (some ⟨w.heap.size,0,none⟩) b.size (grownCap w b.size 0 E))) (Lib.bytesWorld w E b):=by
   unfold execOp;dsimp only;rw [e1]
   show ((convert S T (.string b)).bind fun r=>Sem.pure (Next.value r)).run P w=_
   rw [Sem.run_bind',hrun];rfl
 rw [hexec]
 have hsz:=Lib.bytesWorld_size w E b
 have hbel:Below w.heap.size w (Lib.bytesWorld w E b):=⟨by unfold Lib.bytesWorld World.freeze;split<;>rfl,by unfold Lib.bytesWorld World.freeze;split<;>rfl,by unfold Lib.bytesWorld World.freeze;split<;>rfl,by omega,lS _ _ _ _ hrun,fun k hk=>Lib.bytesWorld_at_old w E b k hk⟩
 have hst1:=hst.below hbel
 have hS2:∀ k,S' k→(S' k∨k=w.heap.size):=fun _ h=>.inl h
 refine ⟨_,(fun k=>S' k∨k=w.heap.size),fp,hK (some ⟨w.heap.size,0,none⟩) (grownCap w b.size 0 E),⟨fun p hp' => ?_,fun j R hj=>R.mono (hst1.res j R hj) (fun _ _=>rfl) (fun _ _=>rfl) hS2,fun j hj k hk=>⟨(hst1.lt j hj k hk).1,fun h=>h.elim (hst1.lt j hj k hk).2 fun e => ?_⟩,hst1.dj,fun k hk=>hk.elim (hst1.slt k) fun e=>by rw [e,hsz];omega⟩,he.put (g:=true) (by rw [hn];simpa [fits] using ht) _,
   ⟨hbel.os,hbel.tape,hbel.output,hbel.size,hbel.drawn,fun k hk _=>hbel.block k hk,fun _ h=>.inl h,fun k hk=>hk.elim .inl fun e=>.inr (.inr (by omega))⟩,fun k hk=>.inl hk,fun _=>hbel⟩
 · rcases List.mem_cons.1 hp' with rfl | h2
   · have hcap:b.size≤grownCap w b.size 0 E:=grownCap_ge w b.size 0 E
     have hlen:(byR b.data.toList).length=b.size:=by rw [abG];simp
     have:=er.sl (w:=Lib.bytesWorld w E b) (S:=fun k=>S' k∨k=w.heap.size) w.heap.size 0 (grownCap w b.size 0 E) 1 (byR b.data.toList) (fun i _=>.int .u8 (b.data.toList.getD i 0).toNat) (.inr rfl) (by rw [hlen];exact hcap) (grownCap_le_maxLen w b.size 0 E hb)
       (fun i r hi=>by simp only [byR,List.getElem?_map,Option.map_eq_some_iff] at hi;obtain ⟨x,_,rfl⟩:=hi;rfl)
       (fun i j r d h1 h2=>by
         simp only [byR,List.getElem?_map,Option.map_eq_some_iff] at h1
         obtain ⟨x,hx',rfl⟩:=h1
         have hi:i<b.size:=by have:=(List.getElem?_eq_some_iff.1 hx').1;simpa using this
         cases j with
         | succ j=>simp at h2
         | zero=>refine ⟨?_,rfl⟩;rw [show 0+i*1+0=i by omega];exact Lib.bytesWorld_cell w E b i hi)
       (fun i j r d h1 h2=>by
         simp only [byR,List.getElem?_map,Option.map_eq_some_iff] at h1
         obtain ⟨x,hx',rfl⟩:=h1
         cases j with
         | succ j=>simp at h2
         | zero =>
           simp only [List.getElem?_cons_zero,Option.some.injEq] at h2
           subst h2
           have:b.data.toList.getD i 0=x:=by rw [List.getD,hx'];rfl
           rw [this];exact .v _)
     rwa [hlen] at this
   · exact p.mono (hst1.per p h2) (fun _ _=>rfl) hS2
 · have:=(hst.lt j hj k hk).1
   omega
end
theorem abF{l:List UInt8}{k:Nat}{u:UInt8}(h:l[k]? = some u):(byR l)[k]? = some [.v (.int .u8 u.toNat)]:=by unfold byR;rw [List.getElem?_map,h];rfl
end Go.Sy

namespace Go.Proofs.YtfkcmbonmpcbfaaGreat
open Go.RowKit Go.Lp Go.Sy Go.Lv
open Go.Proofs.Tryz
attribute [local irreducible] aL aB awp aC fwp Quiet
theorem kyT:eC Tryz.prog 9 gO:=ac6 Tryz.underlying9
theorem vi(l:Sl aN):Con Tryz.prog 253 [l.val] [ShF aN.row l] [] fun r ps hp=>ps=[]∧∃ b,r=.map (some b)∧hp=[cr b gO eI (jg l.l)]:=by
 refine EN1 Tryz.func253 rfl (ct (.of (aF 0 rfl)) (fun hlen=>(aSR (aA rfl (aNn (aSR (LT rfl (dU (gO) (eI) rfl (fun b1_0=>(aHN ?_))))))))))
 refine aA rfl (aNs (aSR (aM rfl (aU rfl (aY Tryz.underlying29 rfl) (aM rfl (aNn (ao (aP [3,9,10,11] [0] [0] (fun (k:Nat) s=>k≤l.l.length∧s=⟨[(3,true,.map (some b1_0)),(9,true,l.val),(10,true,.int .i64 l.l.length),(11,true,.int .i64 k)],[ShF aN.row l],[cr b1_0 gO eI (jg (l.l.take k))]⟩) (fun k=>l.l.length-k) rfl (⟨0,Nat.zero_le _,rfl⟩) ?_))))))))
 rintro k s ⟨hk,rfl⟩
 refine aSR (aU rfl (bd rfl rfl) (aNs ?_))
 refine ah _ rfl (fun h1 => ?_) (fun h1 => ?_)
 ·skip
  have hk':k<l.l.length:=by simpa using h1
  obtain ⟨a,ha⟩:∃ a,l.l[k]? = some a:=⟨l.l[k]'hk',by simp⟩
  have hlt:(l.l.take k).length=k:=by rw [List.length_take];omega
  refine ai (ak (aq (ao (aSR (aM rfl (UI Tryz.underlying29 tk195 0 rfl rfl rfl rfl rfl (aH ha) rfl rfl (fun ⟨b4_1,o4_1⟩=>(US 0 tk195 0 rfl rfl rfl rfl rfl (LT rfl (bg (zs:=[.string .empty,.slice none 0 0]) (by kernel_rfl) rfl (fun b4_3=>(aHN ?_))))))))))))
  refine aA rfl (aJ rfl (aV 1 tk195 rfl rfl rfl rfl (aHK ?_)))
  refine aNn (aSR (aM rfl (UO 0 rfl rfl (UL 1 tk9 rfl rfl rfl rfl (aU rfl (ja (k:=a.name) (v0:=(0:Int)) 0 Tryz.underlying352 (kyT) (by kernel_rfl) rfl rfl rfl) (aM rfl (aU rfl (aI rfl rfl) (aU rfl (aI rfl rfl) (aA rfl (aA rfl (aNn (aSR (aM rfl (aU rfl (bX rfl) (aNn ?_)))))))))))))))
  refine ah _ rfl (fun h2 => ?_) (fun h2 => ?_)
  ·skip
   have hno:mL (l.l.take k) a.name=none:=by simpa using h2
   have hm:bw (jg (l.l.take k)) a.name (k:Int)=jg (l.l.take (k+1)):=by
     funext s
     unfold jg bw
     rw [List.take_add_one,ha,Option.toList_some,qJ,hlt]
     by_cases hs:s=a.name
     · subst hs;rw [if_pos rfl,hno,if_pos rfl];rfl
     · rw [if_neg hs,if_neg (Ne.symm hs),Option.or_none]
   refine ae (aM rfl (UO 0 rfl rfl (UL 1 tk9 rfl rfl rfl rfl (aM rfl (aJ rfl (cO (k:=a.name) (v:=(k:Int)) 0 Tryz.underlying352 (kyT) rfl rfl rfl rfl (aHK ?_)))))))
   refine bE (bb (ak (ae (aU rfl (aO rfl rfl (by omega)) (aM rfl (aNn ?_))))))
   refine ⟨[3,9,10,11],[0],[0],rfl,?_⟩
   exact ⟨k+1,⟨by omega,by rw [← hm];rfl⟩,by omega⟩
  ·skip
   have hyes:(mL (l.l.take k) a.name).isSome=true:=by simpa using h2
   have hm:jg (l.l.take k)=jg (l.l.take (k+1)):=by
     funext s
     unfold jg
     rw [List.take_add_one,ha,Option.toList_some,qJ]
     by_cases hs:a.name=s
     · subst hs
       obtain ⟨i,hi⟩:=Option.isSome_iff_exists.1 hyes
       rw [hi];rfl
     · rw [if_neg hs,Option.or_none]
   refine ai (bb (ak (ae (aU rfl (aO rfl rfl (by omega)) (aM rfl (aNn ?_))))))
   refine ⟨[3,9,10,11],[0],[0],rfl,?_⟩
   exact ⟨k+1,⟨by omega,by rw [← hm];rfl⟩,by omega⟩
 ·skip
  refine aQ (aR (aR (aX (ak (aSR (aM rfl (aA rfl (aNn (aj (FZ1 [0] Tryz.results253 rfl ?_))))))))))
  exact ⟨rfl,b1_0,rfl,by rw [List.take_of_length_le (by simpa using h1)];rfl⟩
theorem yt(s:ByteArray)(hs:s.size≤maxLen):Con Tryz.prog 254 [.string s] [] [] fun r _ _=>r=.bool (ee s):=by
 have hs':s.size≤9223372036854775807:=hs
 have hlen:(c7 s).length=s.size:=rfl
 refine EN1 Tryz.func254 rfl (aSR (aA rfl (aNs (aSR (aM rfl ?_)))))
 refine LT rfl (vA Tryz.underlying9 Tryz.underlying89 Tryz.underlying5 rfl (by assumption) rfl (fun a1_1 c1_1 => ?_))
 refine aST ?_
 refine aU rfl (aY Tryz.underlying89 rfl) (aM rfl (aNn (ao ?_)))
 refine aP [0,6,7,8] [0] [] (fun (k:Nat) st=>(k≤s.size∧∀ u∈(c7 s).take k,(decide (33≤u.toNat) && decide (u.toNat≤126))=true)∧st=⟨[(0,true,.string s),(6,true,.slice a1_1 s.size c1_1),(7,true,.int .i64 s.size),(8,true,.int .i64 k)],[Sh (.slice a1_1 s.size c1_1) (.sl (byR (c7 s)))],[]⟩) (fun k=>s.size-k) rfl (⟨0,⟨Nat.zero_le _,fun u h=>by cases h⟩,rfl⟩) ?_
 rintro k st ⟨⟨hk,hpre⟩,rfl⟩
 refine aSR (aU rfl (bd rfl rfl) (aNs ?_))
 refine ah _ rfl (fun h1 => ?_) (fun h1 => ?_)
 ·skip
  have hk':k<s.size:=by simpa using h1
  obtain ⟨u,hu⟩:∃ u,(c7 s)[k]? = some u:=⟨_,List.getElem?_eq_getElem (by omega)⟩
  refine ai (ak (aq (ao (aSR (UI Tryz.underlying89 tk5 0 rfl rfl rfl rfl rfl (abF hu) rfl rfl (fun ⟨b3_0,o3_0⟩ => ?_))))))
  refine US 0 tk5 0 rfl rfl rfl rfl rfl (aA rfl (aNn (aSR (aM rfl (aU rfl (bd rfl rfl) (aM rfl (aG rfl rfl (fun hc=>ax rfl) (aG rfl rfl (fun hc=>db (aa rfl hc) rfl) (aU rfl (cC rfl rfl (fun h=>gf rfl h)) (aNn ?_))))))))))
  refine ah _ rfl (fun h2 => ?_) (fun h2 => ?_)
  ·skip
   refine aSR (aA rfl (aNn (aj (bF (aK (aK (bF (aK (FZ1 [] Tryz.results254 rfl (congrArg Value.bool (Eq.symm ?_)))))))))))
   have hb:(decide (33≤u.toNat) && decide (u.toNat≤126))=false:=by simp at h2 ⊢;omega
   unfold ee
   rw [Bool.and_eq_false_iff];left
   rw [List.all_eq_false]
   exact ⟨u,List.mem_of_getElem? hu,by rw [hb];decide⟩
  ·skip
   refine ai (bb (ak (ae (aU rfl (aO rfl rfl (by omega)) (aM rfl (aNn ?_))))))
   refine ⟨[0,6,7,8],[0],[],rfl,?_⟩
   refine ⟨k+1,⟨⟨hk',fun v hv => ?_⟩,rfl⟩,by omega⟩
   rw [List.take_add_one,hu,Option.toList_some] at hv
   rcases List.mem_append.1 hv with h | h
   · exact hpre v h
   · rw [List.mem_singleton.1 h];simp at h2 ⊢;omega
 ·skip
  refine aQ (aR (aR (aX (ak (aSR (aM rfl (aU rfl (eY Tryz.underlying9 rfl) (aU rfl (dY rfl rfl) (aM rfl (aG rfl rfl (fun hc=>ax rfl) (aG rfl rfl (fun hc=>eY Tryz.underlying9 (aa rfl hc)) (aG rfl rfl (fun hc=>di (aa rfl hc) rfl) (aU rfl (aT rfl rfl (fun h=>gt rfl h)) (aA rfl (aNn (aj ?_))))))))))))))))
  refine FZ1 [] Tryz.results254 rfl (congrArg Value.bool (Eq.symm ?_))
  have hkl:k=s.size:=by simp at h1;omega
  rw [hkl,← hlen,List.take_length] at hpre
  unfold ee
  rw [List.all_eq_true.2 hpre,Bool.true_and]
  congr 1<;>simp<;>omega
theorem oc (l:Sl aN):Con Tryz.prog 158 [l.val] [ShF aN.row l,bN aN.ok l.l] [] (YN Value.bool fun b=>(b=true→VOk l.l)∧(gF l.l→b=true)):=by
 refine EN1 Tryz.func158 rfl (aSR (aA rfl (aNs (aSR (aM rfl (aU rfl (aY Tryz.underlying29 rfl) (aU rfl (db rfl rfl) (aNn ?_))))))))
 refine ah _ rfl (fun h1 => ?_) (fun h1 => ?_)
 ·skip
  refine aSR (aA rfl (aNn (aj (aK (FZ1 [] Tryz.results158 rfl ?_)))))
  exact ⟨⟨rfl,rfl⟩,_,rfl,fun h=>absurd h (by decide),fun hv=>absurd h1 (by have:=hv.len;simp;omega)⟩
 ·skip
  have hle:l.l.length≤4096:=by simp at h1;omega
  refine ai (ak (aSR (aM rfl (LT rfl (EC [1] [] rfl (vi l) ?_)))))
  rintro _ _ _ ⟨rfl,bat,rfl,rfl⟩
  refine aST ?_
  refine aA rfl (aNs (aSR (aM rfl (aU rfl (adf 0 Tryz.underlying352 kyT rfl rfl) (aM rfl (aU rfl (aY Tryz.underlying29 rfl) (aU rfl (dE rfl rfl) (aNn ?_))))))))
  refine ah _ rfl (fun h2 => ?_) (fun h2 => ?_)
  ·skip
   refine aSR (aA rfl (aNn (aj (aK (FZ1 [] Tryz.results158 rfl ?_)))))
   exact ⟨⟨rfl,rfl⟩,_,rfl,fun h=>absurd h (by decide),fun hv=>absurd h2 (by rw [(qL l.l).2 hv.nd];simp)⟩
  ·skip
   have hnd:(l.l.map (·.name)).Nodup:=(qL l.l).1 (by simp at h2;omega)
   refine ai (ak (aSR (aA rfl (aNs (aq (dO 356 2 ?_))))))
   show awp _ _ _ _ ⟨_,_,[_,_]⟩
   refine ae (aM rfl (aU rfl (aY Tryz.underlying29 rfl) (aM rfl (aNn (ao (aP [0,3,4,22,23,24] [1,0] [0,1] (fun (q:Nat × (Value × List cK)) st=>VI l.l q.1 q.2.2∧st=⟨[(0,true,l.val),(3,true,.map (some bat)),(4,true,q.2.1),(22,true,l.val),(23,true,.int .i64 l.l.length),(24,true,.int .i64 q.1)],[ShF aN.row l,bN aN.ok l.l],[cr bat gO eI (jg l.l),az q.2.1 356 2 (q.2.2.map cK.row)]⟩) (fun q=>l.l.length-q.1) rfl (⟨(0,(.slice none 0 0,[])),VI.start l.l,rfl⟩) ?_))))))
   rintro ⟨k,av,gs⟩ st ⟨hI,rfl⟩
   dsimp only at hI ⊢
   have hkl:=hI.le
   refine aSR (aU rfl (bd rfl rfl) (aNs ?_))
   refine ah _ rfl (fun h3 => ?_) (fun h3 => ?_)
   ·skip
    have hk':k<l.l.length:=by simpa using h3
    obtain ⟨d,hd⟩:∃ d,l.l[k]? = some d:=⟨_,List.getElem?_eq_getElem hk'⟩
    have hdm:=List.mem_of_getElem? hd
    refine ai (ak (aq (ao (aSR (aM rfl (UI Tryz.underlying29 tk195 0 rfl rfl rfl rfl rfl (aH hd) rfl rfl (fun ⟨b9_1,o9_1⟩=>(US 0 tk195 0 rfl rfl rfl rfl rfl (LT rfl (bg (zs:=[.string .empty,.slice none 0 0]) (by kernel_rfl) rfl (fun b9_3=>(aHN ?_))))))))))))
    refine aA rfl (aJ rfl (aV 2 tk195 rfl rfl rfl rfl (aHK ?_)))
    refine aNn (aSR (LT rfl (dU (gO) (vBo) rfl (fun b10_0=>(aHN ?_)))))
    refine aA rfl (aNs (aSR (UO 1 rfl rfl (UL 2 tk28 rfl rfl rfl rfl (aU rfl (aY Tryz.underlying28 rfl) (aM rfl (aNn (ao (ct (aN.f_parents (Ent.all (f:=aN.ok) (.of (aF 2 rfl)) hd)) (fun hpl => ?_))))))))))
    refine aP [0,3,4,5,6,7,22,23,24,31,32,33] [1,0] [0,1,2,3] (fun (q:Nat × (Value × List cK)) st=>VJ l.l k d q.1 q.2.2∧st=⟨[(0,true,l.val),(3,true,.map (some bat)),(4,true,q.2.1),(5,true,.int .i64 k),(6,true,.pointer (some ⟨b9_3,0,none⟩)),(7,true,.map (some b10_0)),(22,true,l.val),(23,true,.int .i64 l.l.length),(24,true,.int .i64 k),(31,true,d.parents.val),(32,true,.int .i64 d.parents.l.length),(33,true,.int .i64 q.1)],[ShF aN.row l,bN aN.ok l.l],[cr bat gO eI (jg l.l),az q.2.1 356 2 (q.2.2.map cK.row),Box b9_3 195 d.vs,cr b10_0 gO vBo (eB (d.parents.l.take q.1))]⟩) (fun q=>d.parents.l.length-q.1) rfl (⟨(0,(av,gs)),hI.into hd,by show _=(⟨_,_,[_,_,_,cr b10_0 gO vBo (eB [])]⟩:Sta);rw [← o7];rfl⟩) ?_
    rintro ⟨m,av2,gs2⟩ st ⟨hJ,rfl⟩
    dsimp only at hJ ⊢
    have hml:=hJ.ml
    have hms:=hJ.short
    have hln:=hJ.ln
    have hmul:l.l.length*k≤4096*4096:=Nat.mul_le_mul hle (by omega)
    refine aSR (aU rfl (bd rfl rfl) (aNs ?_))
    refine ah _ rfl (fun h4 => ?_) (fun h4 => ?_)
    ·skip
     have hm':m<d.parents.l.length:=by simpa using h4
     obtain ⟨p,hp⟩:∃ p,d.parents.l[m]? = some p:=⟨_,List.getElem?_eq_getElem hm'⟩
     refine ai (ak (aq (ao (aSR (gb true rfl rfl (fun _=>aZ Tryz.underlying28 tk9 rfl ((aN.f_parents (Ent.all (f:=aN.ok) (.of (aF 1 rfl)) hd))) rfl (aH hp) rfl rfl) (fun h=>absurd h (by decide)) (fun ⟨b13_0,o13_0⟩=>(US 0 tk9 0 rfl rfl rfl rfl rfl (aA rfl (aNn (aSR (aM rfl (aM rfl (aU rfl (ja (k:=p) (v0:=(0:Int)) 0 Tryz.underlying352 (kyT) (by kernel_rfl) rfl rfl rfl) ?_)))))))))))))
     refine aM rfl (aU rfl (aI rfl rfl) (aU rfl (aI rfl rfl) (aA rfl (aA rfl (aNs (aSR (aM rfl (aU rfl (bX rfl) (aM rfl (aG rfl rfl (fun hc=>ax rfl) (aG rfl rfl (fun hc=>ax rfl) (aG rfl rfl (fun hc=>gQ (k:=p) (v0:=false) 3 Tryz.underlying244 (kyT) (by kernel_rfl) (aa rfl hc) (aa rfl hc) rfl) (aU rfl (cC rfl rfl (fun h=>gf rfl h)) (aNn ?_))))))))))))))
     refine ah _ rfl (fun h5 => ?_) (fun h5 => ?_)
     ·skip
      refine aSR (aA rfl (aNn (aj (aK (bF (aK (aK (bF (aK (bF (aK (aK (bF (aK (FZ1 [] Tryz.results158 rfl ?_)))))))))))))))
      exact ⟨⟨rfl,rfl⟩,_,rfl,fun h=>absurd h (by decide),fun hv=>absurd hm' (by rw [hv.par d hdm];exact Nat.not_lt_zero _)⟩
     ·skip
      have h5':(jg l.l p).isSome=true∧(eB (d.parents.l.take m) p).getD false=false:=by simpa using h5
      obtain ⟨i,hi⟩:∃ i,mL l.l p=some i:=by
        have h:=h5'.1
        cases hh:mL l.l p with
        | none=>simp [jg,hh] at h
        | some i=>exact ⟨i,rfl⟩
      have hs:p ∉ d.parents.l.take m:=fun hmem=>by
        have h:=h5'.2
        rw [aa8] at h
        simp [hmem] at h
      have hvi:(jg l.l p).getD 0=(i:Int):=by simp [jg,hi]
      refine ai (ak (aSR (aM rfl (aM rfl (aJ rfl (cO (k:=p) (v:=true) 3 Tryz.underlying244 (kyT) rfl rfl rfl rfl (aHK ?_)))))))
      refine aNn (ae (aM rfl (aM rfl (aM rfl (aU rfl (eH (l:=[(0,.tmp 53),(1,.tmp 54)]) (zs:=[.int .i64 0,.int .i64 0]) (pl:=[(0,1),(1,1)]) (by kernel_rfl) (by kernel_rfl) (by kernel_rfl) rfl rfl rfl) (LT rfl (WL (zs:=[.int .i64 0,.int .i64 0]) el354 rfl rfl rfl (.more rfl (.v rfl (.v rfl .nil)) .nil) rfl rfl (fun v18_4=>(aHN ?_)))))))))
      refine aJ rfl (cB 1 el354 rfl rfl rfl rfl (dK 4 el354 rfl (by simp)) (by first | assumption | simp) (by rw [List.length_map];show gs2.length+1≤_;omega) (gs2.length+1) (by rw [List.length_map];rfl) (fun v18_5 c18_5 => ?_))
      refine aHK ?_
      refine aA rfl (bE (bb (ak (ae (aU rfl (aO rfl rfl (by omega)) (aM rfl (aNn ?_)))))))
      refine ⟨[0,3,4,5,6,7,22,23,24,31,32,33],[1,0],[0,1,2,3],rfl,?_⟩
      refine ⟨(m+1,(.slice v18_5 (gs2.length+1) c18_5,gs2++[⟨k,i⟩])),⟨hJ.step hd hp hi hs,?_⟩,by dsimp only;omega⟩
      show _=(⟨_,_,[_,az (.slice v18_5 (gs2.length+1) c18_5) 356 2 ((gs2++[cK.mk (k:Int) (i:Int)]).map cK.row),_,cr b10_0 gO vBo (eB (d.parents.l.take (m+1)))]⟩:Sta)
      rw [List.take_add_one,hp,Option.toList_some,fV,List.map_append,List.map_singleton,← hvi]
      rfl
    ·skip
     refine aQ (aR (aR (aX (ak (aq (eE (aN.f_name (Ent.all (f:=aN.ok) (.of (aF 1 rfl)) hd)) (fun hnl=>(ae (UO 0 rfl rfl (UL 2 tk9 rfl rfl rfl rfl (aU rfl (Q0 rfl (yt d.name hnl)) (aU rfl (bX rfl) (aNn ?_)))))))))))))
     refine ah _ rfl (fun h6 => ?_) (fun h6 => ?_)
     ·skip
      refine aSR (aA rfl (aNn (aj (bF (aK (aK (bF (aK (FZ1 [] Tryz.results158 rfl ?_)))))))))
      exact ⟨⟨rfl,rfl⟩,_,rfl,fun h=>absurd h (by decide),fun hv=>absurd h6 (by rw [hv.nm d hdm];decide)⟩
     ·skip
      have hnm:ee d.name=true:=by simpa using h6
      refine ai (bb (ak (ae (aU rfl (aO rfl rfl (by omega)) (aM rfl (aNn ?_))))))
      refine ⟨[0,3,4,22,23,24],[1,0],[0,1],rfl,?_⟩
      exact ⟨(k+1,(av2,gs2)),⟨hJ.done hd hnm,rfl⟩,by dsimp only;omega⟩
   ·skip
    have hkn:k=l.l.length:=by simp at h3;omega
    have hgl:=hI.ln
    have hmul:l.l.length*k≤4096*4096:=Nat.mul_le_mul hle (by omega)
    refine aQ (aR (aR (aX (ak (aq (fg 1 rfl (fun w S F hh=>e7 hh) (fun hov => ?_)))))))
    obtain ⟨gad,gcp,rfl⟩:=hov
    rw [List.length_map]
    refine eu 1 rfl (ae (aM rfl (aU rfl (aY Tryz.underlying29 rfl) (aM rfl ?_))))
    refine LT rfl (EC [2] [] rfl (z8 l.l.length (by omega) ⟨gad,gcp,gs⟩ (by dsimp only;omega) hI.ok) ?_)
    rintro _ _ _ ⟨⟨rfl,rfl⟩,ad2,k2,c2,rfl,hk2⟩
    refine aST ?_
    refine aU rfl (aY Tryz.underlying26 rfl) (aU rfl (bp rfl rfl) (aA rfl (aNn (aj (FZ1 [] Tryz.results158 rfl ?_)))))
    refine ⟨⟨rfl,rfl⟩,_,rfl,fun _=>⟨hle,hnd,fun x hx=>hI.nm x (by rw [hkn,List.take_length];exact hx)⟩,fun hv => ?_⟩
    rw [hk2 hv.len (hI.si hv)];rfl
end Go.Proofs.YtfkcmbonmpcbfaaGreat

namespace Go.Sy
open Go.RowKit Go.Lp
def isF(P:Program)(f:FuncId)(c:Code)(nt:Nat)(rs:Array ResultVar):Prop:=∃ fn,P.funcs[f]? = some fn∧fn.body=some c∧fn.ntmps=nt∧fn.results=rs
theorem Con.enterG{P:Program}{f:FuncId}{fn:Func}{c:Code}{nt:Nat}{args:List Value}{ps:List Per}{hp:List Res}{R:Value→List Per→List Res→Prop}(hf:P.funcs[f]? = some fn)(hb:fn.body=some c)(hn:fn.ntmps=nt)(hle:args.length≤nt)
   (h:awp P ⟨nt,none,[]⟩ c (ff P fn R) ⟨(List.range args.length).zipWith (fun i v=>(i,true,v)) args,ps,hp⟩):Con P f args ps hp R:=by
 subst hn
 exact Con.enter hf hb hle h
structure ElT (P:Program) (E A:TypeId) (α:Type) where
 ag:Bool
 sz:Nat
 zs:List Value
 vs:α→List Value
 row:α→List D
 vl:α→Value
 tE:tyk P E=some (ag,sz)
 tA:tyk P A=some (false,1)
 uA:P.underlying A=some (.slice E)
 el:elB P A E sz=true
 hz:dL P E=some zs
 h0:0<sz
 hm:sz≤16777216
 hzl:zs.length=sz
 ln:∀ x,(vs x).length=sz
 rw_:∀ x,row x=(vs x).map .v
 ld:∀ x,rdC ag sz (vs x) 0=some (vl x)
 ldD:∀ x,rdD ag sz (row x) 0=some (vl x)
 cl:∀ x,(vl x).cells.toList=vs x
 on:∀ x,(vs x).all (·.oneCell')=true
theorem ElT.one{P:Program}{E A:TypeId}{α:Type}(X:ElT P E A α)(x:α):∀ v∈X.vs x,v.oneCell'=true:=List.all_eq_true.1 (X.on x)
theorem xv:∀ (cs vs:List Value),(∀ v∈vs,v.oneCell'=true)→vs.length=cs.length→wrL vs.length cs 0 vs=some vs
 | [],[],_,_=>rfl
 | _::cs,v::vs,h1,h2=>by
   have:=xv cs vs (fun u hu=>h1 u (by simp [hu])) (by simpa using h2)
   simp only [List.length_cons,wrL,h1 v (by simp),this]
section
variable {P:Program} {E A:TypeId} {α:Type} {n:Fr} {env:Env} {ps:List Per} {hp:List Res} {ty:TypeId} {pos:String} {af:Array Edge} {gd:Option (Nat × Bool)} {K:Sta→Prop} {q:Bool}
theorem ElT.rl(X:ElT P E A α)(x:α):(X.row x).length=X.sz:=by rw [X.rw_,List.length_map,X.ln]
theorem ElT.put(X:ElT P E A α)(x:α):wrL X.sz X.zs 0 (X.vl x).cells.toList=some (X.vs x):=by
 rw [X.cl,← X.ln x,xv _ _ (X.one x) (by rw [X.ln,X.hzl])]
end
end Go.Sy

