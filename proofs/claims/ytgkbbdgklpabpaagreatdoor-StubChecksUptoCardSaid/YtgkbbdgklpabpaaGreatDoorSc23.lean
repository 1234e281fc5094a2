/- Parts of the proof, in build order. No condition. -/
import Derived.Test.YtgkbbdgklpabpaaGreatDoorSc09
import Derived.Test.YtgkbbdgklpabpaaGreatDoorSc15
import Derived.Test.YtgkbbdgklpabpaaGreatDoorSc22
import Derived.Test.YtgkbbdgklpabpaaGreatDoorSc07
import Derived.Test.YtgkbbdgklpabpaaGreatDoorSc05
import Derived.Test.YtgkbbdgklpabpaaGreatDoorSc12
import Derived.Test.YtgkbbdgklpabpaaGreatDoorSc04
set_option linter.unusedSimpArgs false
set_option linter.unusedVariables false
set_option maxHeartbeats 20000000
set_option maxRecDepth 20000
namespace Go.Proofs.YtgkbbdgklpabpaaGreatDoor
open Go.RowKit Go.Lp Go.Sy
open Go.Proofs.Tryz
attribute [local irreducible] aL aB awp aC fwp Quiet
abbrev uS(b:Bool):List D:=[.v (.bool b)]
theorem aaE(r:dE):Con Tryz.prog 83 [r.val] [] [] fun v _ _=>v=.bool (ik r):=by
 refine EN1 Tryz.func83 rfl (aSR (LT rfl (aS rfl rfl rfl (fun b0_0=>(aHN ?_)))))
 refine go 2 [0,2,0,0,0,0,1,0,0,0,1,0,0,0,0,0] ?_
 refine ae (FZ1 [] Tryz.results83 rfl ?_)
 unfold ik;rfl
theorem wN(u:aJ)(h:SzU u):Con Tryz.prog 38 [u.val] [u.ok] [] fun r ps hp=>hp=[]∧∃ L:Sl Int,(r=L.val∧ps=[ShF bd L])∧L.l=du u:=by
 have hI:=h.imports
 refine EN1 Tryz.func38 rfl (aO (aJ.f_nodes (.of (ax 0 rfl))) (fun hlen=>(aSR (LT rfl (aS rfl rfl rfl (fun b0_0=>(aHN ?_)))))))
 refine aA rfl (aNn (aSR (UO 3 rfl rfl (UL 0 tk23 rfl rfl rfl rfl (aU rfl (bk Tryz.underlying23 rfl) (LT rfl (fF (m:=u.imports.l.length) (zs:=[.bool false]) el42 (by kernel_rfl) rfl (by decide) (dr rfl (rfl)) (dr rfl (rfl)) (by omega) rfl (fun v1_3=>(aHN ?_)))))))))
 refine aA rfl (aNs (aSR (UO 2 rfl rfl (UL 0 tk22 rfl rfl rfl rfl (aU rfl (bk Tryz.underlying22 rfl) (aM rfl (aNn (aH ?_))))))))
 refine aF [3,17,18,19] [0] [1] (fun (q:Nat × List Bool) st=>(q.1≤u.nodes.l.length∧q.2=uD (List.replicate u.imports.l.length false) (u.nodes.l.take q.1))∧st=⟨[(3,true,.slice v1_3 u.imports.l.length u.imports.l.length),(17,true,u.nodes.val),(18,true,.int .i64 u.nodes.l.length),(19,true,.int .i64 q.1)],[u.ok],[aP (.slice v1_3 u.imports.l.length u.imports.l.length) 4 1 (q.2.map uS)]⟩) (fun q=>u.nodes.l.length-q.1) rfl (⟨(0,List.replicate u.imports.l.length false),⟨Nat.zero_le _,rfl⟩,by dsimp only;rw [List.map_replicate];rfl⟩) ?_
 rintro ⟨k,B⟩ st ⟨⟨hk,hB⟩,rfl⟩
 dsimp only at hk hB
 refine aSR (aU rfl (cf rfl rfl) (aNs ?_))
 refine aa _ rfl (fun h1 => ?_) (fun h1 => ?_)
 ·skip
  have hk':k<u.nodes.l.length:=by simpa using h1
  obtain ⟨x,hx⟩:∃ x,u.nodes.l[k]? = some x:=⟨_,List.getElem?_eq_getElem hk'⟩
  refine aD (an (aq (aH (aSR (bI true rfl rfl (fun _=>ai Tryz.underlying22 tk52 rfl ((aJ.f_nodes (.of (ax 0 rfl)))) rfl (ak hx) rfl rfl) (fun h=>absurd h (by decide)) (fun ⟨b4_0,o4_0⟩=>(US 0 tk52 0 rfl rfl rfl rfl rfl (LT rfl (aW (zs:=[.string .empty,.string .empty,.int .i64 0,.int .i64 0,.int .i64 0,.string .empty,.slice none 0 0,.slice none 0 0,.slice none 0 0,.slice none 0 0,.slice none 0 0,.slice none 0 0]) (by kernel_rfl) rfl (fun b4_2=>(aHN ?_)))))))))))
  refine aT rfl (bX 1 tk52 rfl rfl rfl rfl (aHK ?_))
  refine aNs (aO (aQ.f_refs (Ent.all (aJ.f_nodesA (.of (ax 1 rfl))) hx)) (fun hrf=>(az (UO 6 rfl rfl (UL 1 tk45 rfl rfl rfl rfl (aU rfl (bk Tryz.underlying45 rfl) (aM rfl (aNn (aH (aF [3,17,18,19,24,25,26] [0] [0] (fun (q:Nat × List Bool) st=>(q.1≤x.refs.l.length∧q.2=(x.refs.l.take q.1).foldl kp B)∧st=⟨[(3,true,.slice v1_3 u.imports.l.length u.imports.l.length),(17,true,u.nodes.val),(18,true,.int .i64 u.nodes.l.length),(19,true,.int .i64 k),(24,true,x.refs.val),(25,true,.int .i64 x.refs.l.length),(26,true,.int .i64 q.1)],[u.ok],[aP (.slice v1_3 u.imports.l.length u.imports.l.length) 4 1 (q.2.map uS)]⟩) (fun q=>x.refs.l.length-q.1) rfl (⟨(0,B),⟨Nat.zero_le _,rfl⟩,rfl⟩) ?_))))))))))
  rintro ⟨j,C⟩ st ⟨⟨hj,hC⟩,rfl⟩
  dsimp only at hj hC
  have hCl:C.length=u.imports.l.length:=by rw [hC,kr,hB,oh,List.length_replicate]
  refine aSR (aU rfl (cf rfl rfl) (aNs ?_))
  refine aa _ rfl (fun h2 => ?_) (fun h2 => ?_)
  ·skip
   have hj':j<x.refs.l.length:=by simpa using h2
   obtain ⟨r,hr⟩:∃ r,x.refs.l[j]? = some r:=⟨_,List.getElem?_eq_getElem hj'⟩
   have hsn:(x.refs.l.take (j+1)).foldl kp B=kp C r:=by rw [List.take_add_one,hr,Option.toList_some,List.foldl_append,hC];rfl
   refine aD (an (aq (aH (aSR (bI true rfl rfl (fun _=>ai Tryz.underlying45 tk54 rfl ((aQ.f_refs (Ent.all (aJ.f_nodesA (.of (ax 0 rfl))) hx))) rfl (ak hr) rfl rfl) (fun h=>absurd h (by decide)) (fun ⟨b7_0,o7_0⟩=>(US 0 tk54 0 rfl rfl rfl rfl rfl (LT rfl (aW (zs:=[.int .i64 0,.int .i64 0,.int .i64 0,.int .i64 0,.int .i64 0,.int .i64 0,.int .i64 0]) (by kernel_rfl) rfl (fun b7_2=>(aHN ?_)))))))))))
   refine aT rfl (bX 1 tk54 rfl rfl rfl rfl (aHK ?_))
   refine aNn (aSR (UO 2 rfl rfl (UO 1 rfl rfl (UL 1 tk3 rfl rfl rfl rfl (aA rfl (aNn (aSR (UL 1 tk54 rfl rfl rfl rfl (aU rfl (Q0 rfl (aaE r)) ?_)))))))))
   refine aM rfl (aG rfl rfl (fun hc=>bo rfl) (aG rfl rfl (fun hc=>eT (ah rfl hc) rfl) (aU rfl (dv rfl rfl (fun h=>gt rfl h)) (aM rfl (aG rfl rfl (fun hc=>bo rfl) (aG rfl rfl (fun hc=>bo rfl) (aG rfl rfl (fun hc=>bk Tryz.underlying42 (ah rfl hc)) (aG rfl rfl (fun hc=>cf (ah rfl hc) (ah rfl hc)) (aU rfl (dv rfl rfl (fun h=>gt rfl h)) (aNn ?_))))))))))
   refine aa _ rfl (fun h3 => ?_) (fun h3 => ?_)
   ·skip
    have hcd:ik r=true∧0≤r.to_.n∧r.to_.n<C.length:=by simp at h3;rw [hCl];exact ⟨h3.1.1,h3.1.2,h3.2⟩
    rw [show kp C r=C.set r.to_.n.toNat true from if_pos hcd] at hsn
    obtain ⟨y,hy⟩:∃ y,C[r.to_.n.toNat]? = some y:=⟨_,List.getElem?_eq_getElem (by omega)⟩
    refine az (aM rfl (aM rfl ?_))
    refine aU rfl (bK 0 r.to_.n.toNat el42 rfl rfl rfl (by omega) (by rw [List.length_map];omega)) ?_
    refine LF rfl (cY 0 r.to_.n.toNat 0 tk4 rfl rfl rfl (ak hy) rfl (.v rfl .nil) rfl (by decide) (dJ (ca (an (az (aU rfl (bz rfl rfl (by omega)) (aM rfl (aNn ?_))))))))
    refine ⟨[3,17,18,19,24,25,26],[0],[0],rfl,?_⟩
    exact ⟨(j+1,C.set r.to_.n.toNat true),⟨⟨hj',hsn.symm⟩,by dsimp only;rw [List.map_set];rfl⟩,by dsimp only;omega⟩
   ·skip
    have hcd:¬ (ik r=true∧0≤r.to_.n∧r.to_.n<C.length):=by rw [hCl];rintro ⟨a,b,c⟩;simp [a] at h3;omega
    rw [show kp C r=C from if_neg hcd] at hsn
    refine aD (ca (an (az (aU rfl (bz rfl rfl (by omega)) (aM rfl (aNn ?_))))))
    refine ⟨[3,17,18,19,24,25,26],[0],[0],rfl,?_⟩
    exact ⟨(j+1,C),⟨⟨hj',hsn.symm⟩,rfl⟩,by dsimp only;omega⟩
  ·skip
   have hje:j=x.refs.l.length:=by have:=of_decide_eq_false h2;omega
   subst hje
   rw [List.take_length] at hC
   refine aY (bb (bb (bg (ca (an (az (aU rfl (bz rfl rfl (by omega)) (aM rfl (aNn ?_)))))))))
   refine ⟨[3,17,18,19],[0],[0],rfl,?_⟩
   exact ⟨(k+1,C),⟨⟨hk',by dsimp only;rw [List.take_add_one,hx,Option.toList_some];unfold uD;rw [List.foldl_append,hC,hB];rfl⟩,rfl⟩,by dsimp only;omega⟩
 ·skip
  have hke:k=u.nodes.l.length:=by have:=of_decide_eq_false h1;omega
  subst hke
  rw [List.take_length] at hB
  have hBl:B.length=u.imports.l.length:=by rw [hB,oh,List.length_replicate]
  refine aY (bb (bb (bg (an (aq (cV 3 1 ?_))))))
  show awp _ _ _ _ ⟨_,_,[_,_]⟩
  refine az (aA rfl (aNs (aSR (aM rfl (aU rfl (bk Tryz.underlying42 rfl) (aM rfl (aNn (aH (aF [3,9,50,51,52] [0] [0,1] (fun (q:Nat × (Value × List Int)) st=>(q.1≤B.length∧q.2.2=kq (B.take q.1))∧st=⟨[(3,true,.slice v1_3 u.imports.l.length u.imports.l.length),(9,true,q.2.1),(50,true,.slice v1_3 u.imports.l.length u.imports.l.length),(51,true,.int .i64 u.imports.l.length),(52,true,.int .i64 q.1)],[u.ok],[aP (.slice v1_3 u.imports.l.length u.imports.l.length) 4 1 (B.map uS),aP q.2.1 3 1 (q.2.2.map bd)]⟩) (fun q=>B.length-q.1) rfl (⟨(0,(_,[])),⟨Nat.zero_le _,rfl⟩,rfl⟩) ?_)))))))))
  rintro ⟨i,v,zs⟩ st ⟨⟨hi,hz⟩,rfl⟩
  dsimp only at hi hz
  have hzl:zs.length≤B.length:=by rw [hz];exact Nat.le_trans (xl _) (List.length_take_le' ..)
  refine aSR (aU rfl (cf rfl rfl) (aNs ?_))
  refine aa _ rfl (fun h4 => ?_) (fun h4 => ?_)
  ·skip
   have hi':i<B.length:=by rw [hBl];simpa using h4
   obtain ⟨y,hy⟩:∃ y,B[i]? = some y:=⟨_,List.getElem?_eq_getElem hi'⟩
   have hos:=uE hy
   refine aD (an (aq (aH (aSR (aM rfl ?_)))))
   refine aU rfl (bK 0 i el42 rfl rfl rfl rfl (by rw [List.length_map];omega)) ?_
   refine aU rfl (bl (u:=.bool y) 0 i 0 tk4 rfl rfl (ak hy) rfl rfl) (aA rfl (aA rfl (aNn (aSR (aM rfl (aNn ?_))))))
   refine aa _ rfl (fun h5 => ?_) (fun h5 => ?_)
   ·skip
    have hyt:y=true:=h5
    rw [if_pos hyt] at hos
    refine az (aM rfl (aM rfl (LT rfl (WL (zs:=[.int .i64 0]) el33 rfl rfl rfl (.more rfl (.v rfl .nil) .nil) rfl rfl (fun v18_2=>(aHN ?_))))))
    refine aT rfl (bH 1 el33 rfl rfl rfl rfl (cP 2 el33 rfl (by simp)) (by first | assumption | simp) (by show (zs.map bd).length+1≤_;rw [List.length_map];exact Nat.le_trans (show zs.length+1≤100000001 by omega) (by decide)) ((zs++[(i:Int)]).length) (by show (zs.map bd).length+1=_;rw [List.length_map,List.length_append];rfl) (fun v18_3 c18_3 => ?_))
    refine aHK ?_
    refine aA rfl (dJ (ca (an (az (aU rfl (bz rfl rfl (by omega)) (aM rfl (aNn ?_)))))))
    refine ⟨[3,9,50,51,52],[0],[0,1],rfl,?_⟩
    exact ⟨(i+1,(_,zs++[(i:Int)])),⟨⟨hi',by dsimp only;rw [hos,hz]⟩,by dsimp only;rw [List.map_append];rfl⟩,by dsimp only;omega⟩
   ·skip
    have hyt:¬ y=true:=by rw [show y=false from h5];exact Bool.false_ne_true
    rw [if_neg hyt,List.append_nil] at hos
    refine aD (ca (an (az (aU rfl (bz rfl rfl (by omega)) (aM rfl (aNn ?_))))))
    refine ⟨[3,9,50,51,52],[0],[0,1],rfl,?_⟩
    exact ⟨(i+1,(v,zs)),⟨⟨hi',by dsimp only;rw [hos,hz]⟩,rfl⟩,by dsimp only;omega⟩
  ·skip
   have hie:i=B.length:=by have:=of_decide_eq_false h4;omega
   subst hie
   rw [List.take_length] at hz
   refine aY (bb (bb (bg (an (aq (cB 1 rfl (fun _ _ _ h=>df h) (fun ⟨a3,c3,hv⟩ => ?_)))))))
   rw [List.length_map] at hv
   dsimp only at hv ⊢
   subst hv
   refine cK 1 (ShF bd ⟨a3,c3,zs⟩) rfl (fun _ _ _ h=>db h) (az (aM rfl (aA rfl (aNn (ae ?_)))))
   refine bB [1] [] rfl Tryz.results38 rfl ?_ (.inr rfl)
   exact ⟨rfl,⟨a3,c3,zs⟩,⟨rfl,rfl⟩,by dsimp only;rw [hz,hB];rfl⟩
end Go.Proofs.YtgkbbdgklpabpaaGreatDoor

namespace Go.Sy
open Go.RowKit Go.Lp
section
variable {P:Program} {n:Fr} {env:Env} {ps:List Per} {hp:List Res} {d:Option Tmp} {ty:TypeId} {pos:String} {af:Array Edge} {gd:Option (Nat × Bool)} {K:Sta→Prop}
theorem nk{α β:Type}[DecidableEq α]{κ:α→Value}{ν:β→Value}{m:α→Option β}{kt:TypeId}{T E:TypeId}{x y z:Operand}{b:Nat}{k:α}{v:β}(i:Nat)(hT:P.underlying T=some (.map kt E))(KO:fh P kt κ)(hx:ev env x=some (true,.map (some b)))(hy:ev env y=some (true,κ k))(hz:ev env z=some (true,ν v))(hi:hp[i]? = some (eg b κ ν m))
   (hK:K ⟨env,ps,hp.set i (eg b κ ν (fJ m k v))⟩):Eff P n ⟨none,.insert T x y z,ty,pos,af,gd⟩ ⟨env,ps,hp⟩ false K:=cD (ty:=ty) (pos:=pos) (af:=af) (gd:=gd) i hT KO hx hy hz hi hK
end
end Go.Sy

namespace Go.Proofs.YtgkbbdgklpabpaaGreatDoor
open Go.RowKit Go.Lp Go.Sy
open Go.Proofs.Tryz
attribute [local irreducible] aL aB awp aC fwp Quiet
theorem tR(k:Int):Con Tryz.prog 35 [.int .i64 k] [] [] fun v _ _=>v=.bool (dH k):=by
 refine EN1 Tryz.func35 rfl (go 2 [0,0,0,0,0,0,0,0] ?_)
 refine ae (FZ1 [] Tryz.results35 rfl ?_)
 unfold dH;rfl
theorem m9(k:Int):Con Tryz.prog 37 [.int .i64 k] [] [] fun v _ _=>v=.int .i64 (lj k):=by
 refine EN1 Tryz.func37 rfl (go 4 [0] ?_)
 refine LT rfl (dB (eI) (eI) rfl (fun b1_0=>(aHN ?_)))
 refine aT rfl (nk (k:=0) (v:=0) 0 Tryz.underlying148 (kyI) rfl rfl rfl rfl (aHK ?_))
 refine aT rfl (nk (k:=1) (v:=1) 0 Tryz.underlying148 (kyI) rfl rfl rfl rfl (aHK ?_))
 refine aT rfl (nk (k:=2) (v:=2) 0 Tryz.underlying148 (kyI) rfl rfl rfl rfl (aHK ?_))
 refine aM rfl (aM rfl (aU rfl (gm (k:=k) (v0:=0) 0 Tryz.underlying148 (kyI) (by kernel_rfl) rfl rfl rfl) (go 2 [0] ?_)))
 refine ae (FZ1 [] Tryz.results37 rfl ?_)
 unfold lj fJ;dsimp only
 by_cases h2:k=2
 · subst h2;rfl
 by_cases h1:k=1
 · subst h1;rfl
 by_cases h0:k=0
 · subst h0;rfl
 rw [if_neg h2,if_neg h1,if_neg h0,if_neg h0,if_neg h1,if_neg h2];rfl
theorem yu(m:Sl Span)(x n:Int)(hr:bD m.l)(hx:I64 x)(hn:I64 n)(hll:m.l.length≤400000000) :
   Con Tryz.prog 58 [m.val,.agg #[.int .i64 x,.int .i64 n]] [ShF aV m] [] fun r ps' hp'=>hp'=[]∧∃ M:Sl Span,(r=M.val∧ps'=[ShF aV M])∧M.l=il x n m.l :=
 Con.conv (yr m.l m.ad m.cap x n hr.to hr.i64 hx hn hll) fun v ps' hp' ⟨h1,ad',c',h2,h3⟩=>by
   subst h1 h2 h3
   exact ⟨_,_,(StE.share 0 (ShF aV ⟨ad',c',il x n m.l⟩) rfl fun _ _ _ h=>db h).trans (StE.keep [0] [] rfl),rfl,⟨ad',c',il x n m.l⟩,⟨rfl,rfl⟩,rfl⟩
theorem j9(b:Nat)(m:Sl Span)(ok:Bool)(a n al f u:Int)(hr:bD m.l)(hl:m.l.length≤400000000)(ha:I64 a)(hn:0≤n∧n≤1099511627776)(hal:1≤al∧al≤1099511627776)(hu : -1099511627776≤u∧u≤1099511627776) :
   Con Tryz.prog 36 [.pointer (some ⟨b,0,none⟩),.int .i64 a,.int .i64 n,.int .i64 al,.int .i64 f,.int .i64 u] [ShF aV m] [Box b 80 [m.val,.bool ok]]
     fun _ ps hp=>∃ M:Sl Span,(ps=[ShF aV M]∧hp=[Box b 80 [M.val,.bool (dU (m.l,ok) a n al f u).2]])∧M.l=(dU (m.l,ok) a n al f u).1:=by
 have hrg:=hr.to
 have hri:=hr.i64
 refine EN6 Tryz.func36 rfl (go 0 [0,0,0,1,0,0,0,0,0,0,0,0,0,0,0,0,0,0,0,0] ?_)
 refine aG rfl rfl (fun hc=>ee (ah rfl hc) (ah rfl hc) (by omega)) (go 0 [0,0,0,0,0,0,0,0,0] ?_)
 refine aG rfl rfl (fun hc=>bP (l:=[(0,.tmp 40),(1,.tmp 41)]) (zs:=[.int .i64 0,.int .i64 0]) (pl:=[(0,1),(1,1)]) (by kernel_rfl) (by kernel_rfl) (by kernel_rfl) rfl (ao (ah rfl hc) (ao (ah rfl hc) rfl)) rfl) ?_
 refine aG rfl rfl (fun hc=>Q1 (ao (ah rfl hc) (ao (ah rfl hc) rfl)) (wD m.l m.ad m.cap a n hr ha (by unfold I64;omega)) 0 rfl) ?_
 refine go 2 [0,0,0,1,0,0,0,1,0] ?_
 refine aa _ rfl (fun h1 => ?_) (fun h1 => ?_)
 ·skip
  have hk:dU (m.l,ok) a n al f u=(il a n m.l,true):=by unfold dU;rw [if_pos h1]
  refine go 0 [0,0,0,0,0,0,0] ?_
  refine aU rfl (bP (l:=[(0,.tmp 57),(1,.tmp 58)]) (zs:=[.int .i64 0,.int .i64 0]) (pl:=[(0,1),(1,1)]) (by kernel_rfl) (by kernel_rfl) (by kernel_rfl) rfl rfl rfl) ?_
  refine LT rfl (EC [0] [] rfl (yu m a n hr ha (by unfold I64;omega) hl) ?_)
  rintro _ _ _ ⟨rfl,M,⟨rfl,rfl⟩,hM⟩
  refine aST ?_
  refine go 1 [0,0,0] ?_
  refine y9 [1] [0] rfl Tryz.results36 ?_ (.inl rfl)
  refine ⟨M,⟨rfl,?_⟩,by rw [hk];exact hM⟩
  rw [hk];dsimp only;rw [← h1];rfl
 ·skip
  have hk:dU (m.l,ok) a n al f u=(m.l,false):=by unfold dU;rw [if_neg (by rw [h1];exact Bool.false_ne_true)]
  refine aD ?_
  refine y9 [0] [0] rfl Tryz.results36 ?_ (.inl rfl)
  refine ⟨m,⟨rfl,?_⟩,by rw [hk]⟩
  rw [hk];dsimp only;rw [← h1];rfl
theorem tT(u:aJ)(l:aN):Con Tryz.prog 34 [u.val,l.val] [] [] fun r _ _=>r=.bool (dS u l):=by
 refine EN2 Tryz.func34 rfl (aSR (LT rfl (aS rfl rfl rfl (fun b0_0=>(aHN ?_)))))
 refine LT rfl (aS rfl rfl rfl (fun b0_1=>(aHN ?_)))
 refine go 0 [0,3,3] ?_
 refine aU rfl (ee rfl rfl (by decide)) (go 0 [0,0,4,3] ?_)
 refine aG rfl rfl (fun hc=>ee (ah rfl hc) rfl (by decide)) (go 0 [0,0,0,5,3] ?_)
 refine aG rfl rfl (fun hc=>ee (ah rfl hc) rfl (by decide)) (go 2 [0,0,0,3,3,0,0,3,3,4,3,0,0,0,4,3,5,3,0,0,0,5,3,0,0,0,0,0,0,0,0,6,3,0,0,0,6,3,0,0,0,0,3,3,2,0,52,0,0,0,1,3,3,3,0,137,0,0,0] ?_)
 refine ae (FZ1 [] Tryz.results34 rfl ?_)
 unfold dS
 rw [decide_eq_decide.2 (Int.ofNat_inj (m:=l.nodes.l.length) (n:=u.nodes.l.length)).symm,decide_eq_decide.2 (Int.ofNat_inj (m:=l.slots.l.length) (n:=u.imports.l.length)).symm]
structure abr (x:aQ) (r:dE):Prop where
 k:0≤r.kind∧r.kind<13
 at_:0≤r.at_∧r.at_+dN r.kind≤x.size∧(x.bytes.size:Int)=x.size∧x.size≤1048576
 add : -2147483648≤r.add∧r.add<2147483648
 code:mn r.kind≠[]→x.kind=0∧r.at_.tmod 8=0
 data:mn r.kind=[]→x.kind=1
theorem abt.use{o:aI}{x:aQ}(h:abt o)(ho:xU x o):mF (iM x)∧∀ r∈x.refs.l,abr x r:=by
 have hs:=h.secOk (iM x) (by rw [ho.secs];exact List.mem_singleton.2 rfl)
 refine ⟨hs,fun r hr => ?_⟩
 have h1:=h.rels (kv r) (by rw [ho.rels];exact List.mem_map.2 ⟨r,hr,rfl⟩)
 have he:elt o.secs.l (kv r).sec=iM x:=by rw [ho.secs];rfl
 have hc:=h1.code;have hd:=h1.data;have ha:=h1.at_
 rw [he] at hc hd ha
 have hz:(iM x).size=x.size:=rfl
 have hw:0≤dN r.kind∧dN r.kind≤8:=by unfold dN;split<;>(try split)<;>omega
 have h0:=hs.size
 rw [IntKind.wrap_i64] at ha
 have e1:(kv r).at_=r.at_:=rfl
 have e2:(kv r).kind=r.kind:=rfl
 rw [e1,e2] at ha
 rw [e2] at hc hd
 have hb:=hs.bytes
 refine ⟨h1.kind,⟨ha.1,by omega,?_,h0.2⟩,h1.add,hc,hd⟩
 rw [if_neg] at hb
 · exact hb
 · by_cases hk:mn r.kind=[]
   · rw [hd hk];decide
   · rw [(hc hk).1];decide
theorem yM(b1 b2:Nat)(u:aJ)(x:aQ)(r:dE)(h:abr x r):Con Tryz.prog 71 [r.val,.pointer (some ⟨b1,0,none⟩),.pointer (some ⟨b2,0,none⟩)] [bQ (At b1 0 u.row) (At b2 0 x.row),bQ u.ok dR] [] (YN Value.bool fun b=>b=false→aaq u r):=by
 refine Con.pre (ps:=[At b1 0 u.row,At b2 0 x.row,u.ok,dR]) ?_ ?_
 rotate_left
 · intro p hp
   simp only [List.mem_cons,List.not_mem_nil,or_false] at hp
   rcases hp with rfl | rfl | rfl | rfl
   · exact (Ent.of (ax 0 rfl)).left
   · exact (Ent.of (ax 0 rfl)).right
   · exact (Ent.of (ax 1 rfl)).left
   · exact (Ent.of (ax 1 rfl)).right
 obtain ⟨k,hk⟩:∃ k:Nat,r.kind=k:=⟨r.kind.toNat,by have:=h.k;omega⟩
 refine EN3 Tryz.func71 rfl (aSR (LT rfl (aS rfl rfl rfl (fun b0_0=>(aHN ?_)))))
 refine go 0 [0,41473,19968] ?_
 refine aE (caps:=[]) [1] (false) (by kernel_rfl) true rfl rfl (fun _=>rfl) (fun hc=>rfl) (fun hc=>by rw [List.append_nil];exact wR u r) (fun c1 hc1 => ?_)
 refine go 0 [0,0,35332,19968] ?_
 refine aE (caps:=[]) [0] (false) (by kernel_rfl) _ rfl rfl (fun _=>rfl) (fun hc=>(ao (ah rfl hc) (ao (ah rfl hc) rfl))) (fun hc=>by rw [List.append_nil];exact ue x r k (by have:=h.k;omega) hk (by have:=h.at_;omega) (by have:=h.at_;omega)) (fun c2 hc2 => ?_)
 refine go 2 [0,0,0] ?_
 refine ae (FZ1 [] Tryz.results71 rfl ?_)
 exact ⟨⟨rfl,rfl⟩,_,rfl,fun hb=>hc1 rfl (by simp at hb;exact hb.1)⟩
theorem yN(b1:Nat)(u:aJ)(v:bS):Con Tryz.prog 75 [v.val,.pointer (some ⟨b1,0,none⟩)] [At b1 0 u.row,u.ok] [] (YN Value.bool fun _=>True):=by
 refine EN2 Tryz.func75 rfl (aSR (LT rfl (aS rfl rfl rfl (fun b0_0=>(aHN ?_)))))
 refine go 0 [0,41473,26112] ?_
 refine aE (caps:=[]) [0] (false) (by kernel_rfl) true rfl rfl (fun _=>rfl) (fun hc=>rfl) (fun hc=>by rw [List.append_nil];exact um u v) (fun c1 hc1 => ?_)
 refine go 2 [0,0] ?_
 refine ae (FZ1 [] Tryz.results75 rfl ?_)
 exact ⟨⟨rfl,rfl⟩,_,rfl,trivial⟩
structure vT (u:aJ) (x:aQ):Prop where
 sec:mF (iM x)
 refs:∀ r∈x.refs.l,abr x r∧aaq u r
theorem aaB(b:Nat)(u:aJ)(x:aQ)(h1:x.refs.l.length≤100000000∧x.vars.l.length≤100000000∧x.inlines.l.length≤100000000):Con Tryz.prog 66 [x.val,.pointer (some ⟨b,0,none⟩)] [At b 0 u.row,u.ok,x.ok,bC,dR] [] (YN Value.bool fun b=>b=false→vT u x):=by
 refine EN2 Tryz.func66 rfl (aSR (LT rfl (aS rfl rfl rfl (fun b0_0=>(aHN ?_)))))
 refine go 3 [0] ?_
 refine aZ 0 rfl rfl ?_
 show awp _ _ _ _ ⟨_,At _ 0 _::_,_⟩
 refine go 0 [35329] ?_
 refine LT rfl (EC [2] [] rfl (lQ x h1.1 h1.2.1) ?_)
 rintro _ _ _ ⟨rfl,o,⟨rfl,rfl⟩,ho⟩
 refine aST ?_
 refine aE (caps:=[]) [1,6] (false) (by kernel_rfl) true rfl rfl (fun _=>rfl) (fun hc=>rfl) (fun hc=>by rw [List.append_nil];exact (jA o ⟨by rw [ho.secs];exact Nat.le_of_ble_eq_true rfl,by rw [ho.groups];exact Nat.zero_le _,by rw [ho.inl];exact h1.2.2⟩).pre (ej (.of (ax 0 rfl)) (.of (ax 1 rfl)))) (fun c1 hc1 => ?_)
 refine go 0 [0,0,35332] ?_
 refine aE (caps:=[]) [1,2] (false) (by kernel_rfl) _ rfl rfl (fun _=>rfl) (fun hc=>(ao (ah rfl hc) rfl)) (fun hc=>by rw [List.append_nil];exact (uh x)) (fun c2 hc2 => ?_)
 refine go 0 [0,0,0,6,292] ?_
 refine aG rfl rfl (fun hc=>cA (l:=[.tmp 1,.tmp 2]) rfl) ?_
 refine aE (caps:=[]) [2,4,5,3,0] (false) (by kernel_rfl) _ rfl rfl (fun _=>rfl) (fun hc=>(ao (ah rfl hc) (ao (ah rfl hc) rfl))) (fun hc=>by rw [List.append_nil];exact (qy x.refs 71 [.pointer (some ⟨b,0,none⟩),.pointer (some ⟨b0_0,0,none⟩)] (bQ (At b 0 u.row) (At b0_0 0 x.row)) (bQ u.ok dR) (fun r b=>b=false→aaq u r) (by kernel_rfl) (fun r hr=>yM b b0_0 u x r (((hc1 rfl (by simp at hc;exact hc.1)).use ho).2 r hr))).pre (jm (aQ.f_refs (.of (ax 0 rfl))) (.mk2 (.of (ax 1 rfl)) (.of (ax 2 rfl))) (.mk2 (.of (ax 3 rfl)) (.of (ax 4 rfl))))) (fun c3 hc3 => ?_)
 refine go 0 [0,0,10,484] ?_
 refine aG rfl rfl (fun hc=>cA (l:=[.tmp 1]) rfl) ?_
 refine aE (caps:=[]) [2,4,3] (false) (by kernel_rfl) _ rfl rfl (fun _=>rfl) (fun hc=>(ao (ah rfl hc) (ao (ah rfl hc) rfl))) (fun hc=>by rw [List.append_nil];exact (kN x.vars 75 [.pointer (some ⟨b,0,none⟩)] (At b 0 u.row) u.ok (fun _ _=>True) (by kernel_rfl) (fun v _=>yN b u v)).pre (jm (aQ.f_vars (.of (ax 0 rfl))) (.of (ax 1 rfl)) (.of (ax 2 rfl)))) (fun c4 hc4 => ?_)
 refine go 2 [0,0] ?_
 refine ae (FZ1 [] Tryz.results66 rfl ?_)
 refine ⟨⟨rfl,rfl⟩,_,rfl,fun hb => ?_⟩
 simp only [Bool.or_eq_false_iff,Bool.not_eq_false'] at hb
 obtain ⟨⟨⟨g1,g2⟩,g3⟩,_⟩:=hb
 have hu:=(hc1 rfl g1).use ho
 exact ⟨hu.1,fun r hr=>⟨hu.2 r hr,(hc3 (by rw [g1,g2];rfl)).2 g3 r hr rfl⟩⟩
theorem abK(b:Nat)(u:aJ)(h:SzU u)(x:aQ)(hx:x∈u.nodes.l):Con Tryz.prog 66 [x.val,.pointer (some ⟨b,0,none⟩)] [bQ (At b 0 u.row) u.ok,bQ bC dR] [] (YN Value.bool fun b=>b=false→vT u x):=(aaB b u x (h.node x hx)).pre fun p hp=>by
 simp only [List.mem_cons,List.not_mem_nil,or_false] at hp
 rcases hp with rfl | rfl | rfl | rfl | rfl
 · exact (Ent.of (ax 0 rfl)).left
 · exact (Ent.of (ax 0 rfl)).right
 · exact Ent.allm (aJ.f_nodesA (Ent.of (ax 0 rfl)).right) hx
 · exact (Ent.of (ax 1 rfl)).left
 · exact (Ent.of (ax 1 rfl)).right
theorem uj(u:aJ)(h:SzU u):Con Tryz.prog 29 [u.val] [u.ok,bC,dR] [] (YB (∀ x∈u.nodes.l,vT u x)):=by
 refine EN1 Tryz.func29 rfl (aSR (LT rfl (aS rfl rfl rfl (fun b0_0=>(aHN ?_)))))
 refine go 3 [0] ?_
 refine aZ 0 rfl rfl ?_
 show awp _ _ _ _ ⟨_,At _ 0 _::_,_⟩
 refine go 0 [0,2,97] ?_
 refine aU rfl (cA (l:=[.tmp 1]) rfl) ?_
 refine aE (caps:=[]) [2,3,1,0] (false) (by kernel_rfl) true rfl rfl (fun _=>rfl) (fun hc=>rfl) (fun hc=>by rw [List.append_nil];exact (oP u.nodes 66 [.pointer (some ⟨b0_0,0,none⟩)] (bQ (At b0_0 0 u.row) u.ok) (bQ bC dR) (fun x b=>b=false→vT u x) (by kernel_rfl) (abK b0_0 u h)).pre (jm (aJ.f_nodes (.of (ax 0 rfl))) (.mk2 (.of (ax 1 rfl)) (.of (ax 0 rfl))) (.mk2 (.of (ax 2 rfl)) (.of (ax 3 rfl))))) (fun c1 hc1 => ?_)
 refine go 2 [0,0] ?_
 refine ae (FZ1 [] Tryz.results29 rfl ?_)
 exact ⟨⟨rfl,rfl⟩,_,rfl,fun hb x hx=>(hc1 rfl).2 (by simpa using hb) x hx rfl⟩
theorem yJ(l:Sl ByteArray)(z:ByteArray):Con Tryz.prog 128 [l.val,.string z] [ShF (fun s=>[.v (.string s)]) l] [] (YN (fun z:Int=>.int .i64 z) fun _=>True):=by
 refine EN2 Tryz.func128 rfl (aO (.of (ax 0 rfl)) (fun hlen=>(go 3 [0,0,9,0] ?_)))
 refine aF [0,1,7,8] [0] [] (fun (k:Nat) s=>k≤l.l.length∧s=⟨[(0,true,l.val),(1,true,.string z),(7,true,.int .i64 l.l.length),(8,true,.int .i64 k)],[ShF (fun s=>[.v (.string s)]) l],[]⟩) (fun k=>l.l.length-k) rfl (⟨0,Nat.zero_le _,rfl⟩) ?_
 rintro k s ⟨hk,rfl⟩
 refine go 3 [0] ?_
 refine aa _ rfl (fun h1 => ?_) (fun h1 => ?_)
 ·skip
  have hk':k<l.l.length:=by simpa using h1
  obtain ⟨a,ha⟩:∃ a,l.l[k]? = some a:=⟨l.l[k]'hk',by simp⟩
  refine go 0 [0,0,0,0,0] ?_
  refine UI Tryz.underlying26 tk9 0 rfl rfl rfl rfl rfl (ak ha) rfl rfl (fun ⟨b4_3,o4_3⟩=>(go 2 [2,0] ?_))
  refine aa _ rfl (fun h2 => ?_) (fun h2 => ?_)
  ·skip
   refine go 2 [0,0] ?_
   refine ae (aK (aj (aj (aK (aj (FZ1 [] Tryz.results128 rfl ?_))))))
   exact ⟨⟨rfl,rfl⟩,_,rfl,trivial⟩
  ·skip
   refine go 1 [0,0] ?_
   refine an ?_
   refine ⟨[0,1,7,8],[0],[],rfl,?_⟩
   exact ⟨k+1,⟨by omega,rfl⟩,by omega⟩
 ·skip
  refine go 2 [0] ?_
  refine ae (FZ1 [] Tryz.results128 rfl ?_)
  exact ⟨⟨rfl,rfl⟩,_,rfl,trivial⟩
theorem wk(l:Sl ByteArray)(z:ByteArray):Con Tryz.prog 96 [l.val,.string z] [ShF (fun s=>[.v (.string s)]) l] [] (YB True):=by
 refine EN2 Tryz.func96 rfl (go 0 [0,0,0] ?_)
 refine aE (caps:=[]) [0] (default) (by kernel_rfl) true rfl rfl (fun _=>rfl) (fun hc=>rfl) (fun hc=>by rw [List.append_nil];exact yJ l z) (fun c hc => ?_)
 refine go 2 [0,0] ?_
 refine ae (FZ1 [] Tryz.results96 rfl ?_)
 exact ⟨⟨rfl,rfl⟩,_,rfl,fun _=>trivial⟩
theorem wm(L:List ByteArray)(z:ByteArray){ad:Option Addr}{k c:Nat}(hk:k≤L.length):Con Tryz.prog 96 [.slice ad k c,.string z] [Sh (.slice ad k c) (.sl ((L.map fun s=>[.v (.string s)]).take k))] [] (YB True):=by
 have h:=wk ⟨ad,c,L.take k⟩ z
 have e:(L.take k).length=k:=by rw [List.length_take];omega
 unfold ShF Sl.val at h
 dsimp only at h
 rw [e,List.map_take] at h
 exact h
theorem ui(l:Sl ByteArray)(m:Int):Con Tryz.prog 63 [l.val,.int .i64 m] [ShF (fun s=>[.v (.string s)]) l,bu cX l.l,bC] [] (YB True):=by
 refine EN2 Tryz.func63 rfl (aO (.of (ax 0 rfl)) (fun hlen=>(go 3 [0,0,9,0] ?_)))
 refine aF [0,1,7,8,9] [2,1,0] [] (fun (k:Nat) st=>k≤l.l.length∧st=⟨[(0,true,l.val),(1,true,.int .i64 m),(7,true,l.val),(8,true,.int .i64 l.l.length),(9,true,.int .i64 k)],[ShF (fun s=>[.v (.string s)]) l,bu cX l.l,bC],[]⟩) (fun k=>l.l.length-k) rfl (⟨0,Nat.zero_le _,rfl⟩) ?_
 rintro k st ⟨hk,rfl⟩
 refine go 3 [0] ?_
 refine aa _ rfl (fun h1 => ?_) (fun h1 => ?_)
 ·skip
  have hk':k<l.l.length:=by simpa using h1
  obtain ⟨y,hy⟩:∃ y,l.l[k]? = some y:=⟨_,List.getElem?_eq_getElem hk'⟩
  refine go 0 [0] ?_
  refine UI Tryz.underlying26 tk9 0 rfl rfl rfl rfl rfl (ak hy) rfl rfl (fun ⟨b3_1,o3_1⟩=>(go 3 [2,0,0] ?_))
  refine cL (Ent.all (f:=cX) (.of (ax 2 rfl)) hy) (fun hyl=>(az (aM rfl ?_)))
  refine aE (caps:=[]) [0] (false) (by kernel_rfl) true rfl rfl (fun _=>rfl) (fun hc=>rfl) (fun hc=>by rw [List.append_nil];exact eS _ hyl) (fun c1 hc1 => ?_)
  refine go 0 [0,0,0,0] ?_
  refine bI _ rfl rfl (fun hc=>xx k el26 (ah rfl hc) (ax 1 rfl) (ah rfl hc) rfl (by rw [List.length_map];exact hk) (fun r hr=>by obtain ⟨z,_,rfl⟩:=List.mem_map.1 hr;rfl)) (fun _=>⟨(none,0)⟩) (fun ⟨a4_6,c4_6⟩ => ?_)
  refine aG rfl rfl (fun hc=>bo rfl) ?_
  refine aE (caps:=[]) [4] (false) (by kernel_rfl) _ rfl rfl (fun _=>rfl) (fun hc=>(ao (ah rfl hc) (ao (ah rfl hc) rfl))) (fun hc=>by rw [List.append_nil];exact (wm l.l y hk).pre (y4 (.yes (.of (ax 0 rfl)) hc))) (fun c2 hc2 => ?_)
  refine go 2 [0] ?_
  refine aa _ rfl (fun h2 => ?_) (fun h2 => ?_)
  ·skip
   refine go 2 [0] ?_
   refine ae (aK (aj (aj (aK (aj (FZ1 [] Tryz.results63 rfl ?_))))))
   exact ⟨⟨rfl,rfl⟩,_,rfl,fun _=>trivial⟩
  ·skip
   refine go 1 [0,0] ?_
   refine an ?_
   refine ⟨[0,1,7,8,9],[2,1,0],[],rfl,?_⟩
   exact ⟨k+1,⟨by omega,rfl⟩,by omega⟩
 ·skip
  refine go 2 [0,9,0,0,0] ?_
  refine ae (FZ1 [] Tryz.results63 rfl ?_)
  exact ⟨⟨rfl,rfl⟩,_,rfl,fun _=>trivial⟩
theorem wS(u:aJ):Con Tryz.prog 27 [u.val] [u.ok,bC] [] (YB True):=by
 refine EN1 Tryz.func27 rfl (cL (aJ.f_name (.of (ax 0 rfl))) (fun hnl=>(aSR (LT rfl (aS rfl rfl rfl (fun b0_0=>(aHN ?_)))))))
 refine go 0 [0,0,0,0] ?_
 refine aE (caps:=[]) [0] (false) (by kernel_rfl) true rfl rfl (fun _=>rfl) (fun hc=>rfl) (fun hc=>by rw [List.append_nil];exact eS _ hnl) (fun c1 hc1 => ?_)
 refine go 0 [0,0,7,0] ?_
 refine aE (caps:=[]) [1,0] (false) (by kernel_rfl) _ rfl rfl (fun _=>rfl) (fun hc=>(ao (ah rfl hc) (ao (ah rfl rfl) rfl))) (fun hc=>by rw [List.append_nil];exact (ui u.needs 64).pre (jm (aJ.f_needs (.of (ax 0 rfl))) (aJ.f_needsA (.of (ax 0 rfl))) (.of (ax 1 rfl)))) (fun c2 hc2 => ?_)
 refine go 0 [0,0,0,12,0] ?_
 refine aE (caps:=[]) [1] (false) (by kernel_rfl) _ rfl rfl (fun _=>rfl) (fun hc=>(ao (ah rfl hc) rfl)) (fun hc=>by rw [List.append_nil];exact ((uq u.versions).pre (ej (aJ.f_versions (.of (ax 0 rfl))) (aJ.f_versionsA (.of (ax 0 rfl)))))) (fun c3 hc3 => ?_)
 refine go 2 [0,0] ?_
 refine ae (FZ1 [] Tryz.results27 rfl ?_)
 exact ⟨⟨rfl,rfl⟩,_,rfl,fun _=>trivial⟩
theorem kyU:fh Tryz.prog 115 cH:=pR Tryz.underlying115 (by kernel_rfl) (by kernel_rfl) Tryz.underlying9
abbrev mj(x:aQ):ByteArray × ByteArray:=(x.obj,x.sec)
theorem tb{α:Type}[DecidableEq α]{l:List α}{a:α}(h:a∈l):(ft l a).getD false=true:=by unfold ft;rw [if_pos h];rfl
theorem wT(u:aJ):Con Tryz.prog 28 [u.val] [u.ok,bC] [] (YB (u.nodes.l.map mj).Nodup):=by
 refine EN1 Tryz.func28 rfl (aO (aJ.f_nodes (.of (ax 0 rfl))) (fun hlen=>(aSR (LT rfl (aS rfl rfl rfl (fun b0_0=>(aHN ?_)))))))
 refine go 3 [0] ?_
 refine aZ 0 rfl rfl ?_
 show awp _ _ _ _ ⟨_,At _ 0 _::_,_⟩
 refine az (LT rfl (dB (cH) (vBo) rfl (fun b1_0=>(aHN ?_))))
 refine go 3 [0,0,2,97,52,0] ?_
 refine aF [1,3,10,11,12] [2,1,0] [1] (fun (k:Nat) st=>(k≤u.nodes.l.length∧((u.nodes.l.take k).map mj).Nodup)∧st=⟨[(1,true,.pointer (some ⟨b0_0,0,none⟩)),(3,true,.map (some b1_0)),(10,true,u.nodes.val),(11,true,.int .i64 u.nodes.l.length),(12,true,.int .i64 k)],[At b0_0 0 u.row,u.ok,bC],[eg b1_0 cH vBo (ft ((u.nodes.l.take k).map mj))]⟩) (fun k=>u.nodes.l.length-k) rfl (⟨0,⟨Nat.zero_le _,List.nodup_nil⟩,by show _=(⟨_,_,[eg b1_0 cH vBo (ft [])]⟩:Sta);rw [← kA];rfl⟩) ?_
 rintro k st ⟨⟨hk,hnd⟩,rfl⟩
 refine go 3 [0] ?_
 refine aa _ rfl (fun h1 => ?_) (fun h1 => ?_)
 ·skip
  have hk':k<u.nodes.l.length:=by simpa using h1
  obtain ⟨y,hy⟩:∃ y,u.nodes.l[k]? = some y:=⟨_,List.getElem?_eq_getElem hk'⟩
  refine go 0 [0] ?_
  refine bI true rfl rfl (fun _=>ai Tryz.underlying22 tk52 rfl ((aJ.f_nodes (.of (ax 1 rfl)))) rfl (ak hy) rfl rfl) (fun h=>absurd h (by decide)) (fun ⟨b4_1,o4_1⟩=>(go 0 [35330] ?_))
  refine LT rfl (aW (zs:=[.string .empty,.string .empty,.int .i64 0,.int .i64 0,.int .i64 0,.string .empty,.slice none 0 0,.slice none 0 0,.slice none 0 0,.slice none 0 0,.slice none 0 0,.slice none 0 0]) (by kernel_rfl) rfl (fun b4_3=>(aHN ?_)))
  refine go 0 [0,35331,0,3,1,3] ?_
  refine aU rfl (ri (l:=[(0,.tmp 18),(1,.tmp 20)]) (zs:=[.string .empty,.string .empty]) (sz:=1) (m:=2) (by kernel_rfl) (by kernel_rfl) rfl rfl rfl) (LT rfl (aW (zs:=[.string .empty,.string .empty]) (by kernel_rfl) rfl (fun b5_5=>(aHN ?_))))
  refine go 4 [4614] ?_
  refine cL (aQ.f_obj (Ent.all (aJ.f_nodesA (.of (ax 2 rfl))) hy)) (fun hyl=>(DR [] 46 (go 0 [4,6,0,0,4,6,0,0,0,0,0,0,0,4,200,0,0] ?_)))
  refine dz 17 rfl (by kernel_rfl) _ rfl rfl (fun hc=>ai Tryz.underlying22 tk52 (ah rfl hc) ((aJ.f_nodes (.of (ax 2 rfl)))) (ah rfl hc) (ak (bA (l:=u.nodes.l) (i:=k-1) (by omega))) (by simp at hc;omega) rfl) (fun _=>⟨(0,0)⟩) (fun ⟨b6_17,o6_17⟩ => ?_)
  refine go 0 [4,196,4,6,0,0,0,0,0,9228] ?_
  refine bW 28 rfl rfl rfl (fun hc=>gm (k:=mj y) (v0:=false) 0 Tryz.underlying113 (kyU) (by kernel_rfl) (ah rfl hc) (ah rfl hc) rfl) (go 0 [0,0,0,6] ?_)
  refine cQ (caps:=[]) 33 rfl (by kernel_rfl) [0] (false) (by kernel_rfl) _ rfl rfl (fun _=>rfl) (fun hc=>(ao (ah rfl hc) rfl)) (fun hc=>by rw [List.append_nil];exact eS _ hyl) (fun c1 hc1 => ?_)
  refine go 2 [0,0,0,6,0,0,4,6,0,0,0,0] ?_
  refine aa _ rfl (fun h2 => ?_) (fun h2 => ?_)
  ·skip
   refine go 2 [0] ?_
   refine ae (aj (aK (aj (aj (aK (aj (FZ1 [] Tryz.results28 rfl ?_)))))))
   exact ⟨⟨rfl,rfl⟩,_,rfl,fun h=>by cases h⟩
  ·skip
   refine go 0 [0,4614] ?_
   refine aT rfl (cD (k:=mj y) (v:=true) 0 Tryz.underlying113 (kyU) rfl rfl rfl rfl (aHK ?_))
   refine go 1 [0,0] ?_
   refine an ?_
   refine ⟨[1,3,10,11,12],[2,1,0],[0],rfl,?_⟩
   have hno:mj y ∉ (u.nodes.l.take k).map mj:=fun hm=>by
     rw [Bool.or_eq_false_iff,Bool.or_eq_false_iff] at h2
     have h3:=h2.1.2
     rw [tb hm] at h3
     cases h3
   have ht:(u.nodes.l.take (k+1)).map mj=(u.nodes.l.take k).map mj++[mj y]:=by rw [List.take_add_one,hy,List.map_append];rfl
   exact ⟨k+1,⟨⟨hk',by rw [ht];exact List.nodup_append.2 ⟨hnd,List.nodup_cons.2 ⟨List.not_mem_nil,List.nodup_nil⟩,fun a ha b hb=>by rw [List.mem_singleton.1 hb];exact fun h=>hno (h ▸ ha)⟩⟩,by rw [ht,gD];rfl⟩,by omega⟩
 ·skip
  refine go 2 [0] ?_
  refine ae (FZ1 [] Tryz.results28 rfl ?_)
  refine ⟨⟨rfl,rfl⟩,_,rfl,fun _ => ?_⟩
  rw [List.take_of_length_le (by simpa using h1)] at hnd;exact hnd
abbrev mi(x:dp):ByteArray × ByteArray:=(x.name,x.version)
theorem qU(u:aJ):Con Tryz.prog 30 [u.val] [u.ok,bC] [] (YB (u.imports.l.map mi).Nodup):=by
 refine EN1 Tryz.func30 rfl (aO (aJ.f_nodes (.of (ax 0 rfl))) (fun hlen=>(aO (aJ.f_imports (.of (ax 0 rfl))) (fun hlen2=>(aSR (LT rfl (aS rfl rfl rfl (fun b0_0=>(aHN ?_)))))))))
 refine go 3 [0] ?_
 refine aZ 0 rfl rfl ?_
 show awp _ _ _ _ ⟨_,At _ 0 _::_,_⟩
 refine az (LT rfl (dB (eI) (vBo) rfl (fun b1_0=>(aHN ?_))))
 refine go 3 [0,0,2,97,52,0] ?_
 refine aF [1,3,15,16,17] [2,1,0] [1] (fun (q:Nat × (Int→Option Bool)) st=>q.1≤u.nodes.l.length∧st=⟨[(1,true,.pointer (some ⟨b0_0,0,none⟩)),(3,true,.map (some b1_0)),(15,true,u.nodes.val),(16,true,.int .i64 u.nodes.l.length),(17,true,.int .i64 q.1)],[At b0_0 0 u.row,u.ok,bC],[eg b1_0 eI vBo q.2]⟩) (fun q=>u.nodes.l.length-q.1) rfl (⟨(0,_),Nat.zero_le _,rfl⟩) ?_
 rintro ⟨k,m⟩ st ⟨hk,rfl⟩
 dsimp only at hk
 refine go 3 [0] ?_
 refine aa _ rfl (fun h1 => ?_) (fun h1 => ?_)
 ·skip
  have hk':k<u.nodes.l.length:=by simpa using h1
  obtain ⟨x,hx⟩:∃ x,u.nodes.l[k]? = some x:=⟨_,List.getElem?_eq_getElem hk'⟩
  refine aD (an (aq (aH (aSR (bI true rfl rfl (fun _=>ai Tryz.underlying22 tk52 rfl ((aJ.f_nodes (.of (ax 1 rfl)))) rfl (ak hx) rfl rfl) (fun h=>absurd h (by decide)) (fun ⟨b4_0,o4_0⟩=>(go 0 [35330] ?_)))))))
  refine LT rfl (aW (zs:=[.string .empty,.string .empty,.int .i64 0,.int .i64 0,.int .i64 0,.string .empty,.slice none 0 0,.slice none 0 0,.slice none 0 0,.slice none 0 0,.slice none 0 0,.slice none 0 0]) (by kernel_rfl) rfl (fun b4_2=>(aHN ?_)))
  refine go 3 [35331] ?_
  refine aO (aQ.f_refs (Ent.all (aJ.f_nodesA (.of (ax 2 rfl))) hx)) (fun hrl=>(go 3 [6,3,54,0] ?_))
  refine aF [1,3,15,16,17,22,23,24] [2,1,0] [0] (fun (q:Nat × (Int→Option Bool)) st=>q.1≤x.refs.l.length∧st=⟨[(1,true,.pointer (some ⟨b0_0,0,none⟩)),(3,true,.map (some b1_0)),(15,true,u.nodes.val),(16,true,.int .i64 u.nodes.l.length),(17,true,.int .i64 k),(22,true,x.refs.val),(23,true,.int .i64 x.refs.l.length),(24,true,.int .i64 q.1)],[At b0_0 0 u.row,u.ok,bC],[eg b1_0 eI vBo q.2]⟩) (fun q=>x.refs.l.length-q.1) rfl (⟨(0,_),Nat.zero_le _,rfl⟩) ?_
  rintro ⟨j,m2⟩ st ⟨hj,rfl⟩
  dsimp only at hj
  refine go 3 [0] ?_
  refine aa _ rfl (fun h2 => ?_) (fun h2 => ?_)
  ·skip
   have hj':j<x.refs.l.length:=by simpa using h2
   obtain ⟨r,hr⟩:∃ r,x.refs.l[j]? = some r:=⟨_,List.getElem?_eq_getElem hj'⟩
   refine aD (an (aq (aH (aSR (bI true rfl rfl (fun _=>ai Tryz.underlying45 tk54 rfl ((aQ.f_refs (Ent.all (aJ.f_nodesA (.of (ax 1 rfl))) hx))) rfl (ak hr) rfl rfl) (fun h=>absurd h (by decide)) (fun ⟨b7_0,o7_0⟩=>(go 0 [19970] ?_)))))))
   refine LT rfl (aW (zs:=[.int .i64 0,.int .i64 0,.int .i64 0,.int .i64 0,.int .i64 0,.int .i64 0,.int .i64 0]) (by kernel_rfl) rfl (fun b7_2=>(aHN ?_)))
   refine go 2 [19971,2,0,3,0] ?_
   refine aa _ rfl (fun h3 => ?_) (fun h3 => ?_)
   ·skip
    refine go 0 [0,2,1,3] ?_
    refine aT rfl (cD (k:=r.to_.n) (v:=true) 0 Tryz.underlying63 (kyI) rfl rfl rfl rfl (aHK ?_))
    refine go 1 [0,0] ?_
    refine an ?_
    refine ⟨[1,3,15,16,17,22,23,24],[2,1,0],[0],rfl,?_⟩
    exact ⟨(j+1,_),⟨by dsimp only;omega,rfl⟩,by dsimp only;omega⟩
   ·skip
    refine go 1 [0,0] ?_
    refine an ?_
    refine ⟨[1,3,15,16,17,22,23,24],[2,1,0],[0],rfl,?_⟩
    exact ⟨(j+1,m2),⟨by dsimp only;omega,rfl⟩,by dsimp only;omega⟩
  ·skip
   refine go 1 [0,0] ?_
   refine an ?_
   refine ⟨[1,3,15,16,17],[2,1,0],[0],rfl,?_⟩
   exact ⟨(k+1,m2),⟨by dsimp only;omega,rfl⟩,by dsimp only;omega⟩
 ·skip
  refine aY (bb (bb (bg (an (aSR (LT rfl (dB (cH) (vBo) rfl (fun b12_0=>(aHN ?_)))))))))
  refine go 3 [0,0,3,145,137,0] ?_
  refine aF [1,3,8,41,42,43] [2,1,0] [0,1] (fun (k:Nat) st=>(k≤u.imports.l.length∧((u.imports.l.take k).map mi).Nodup)∧st=⟨[(1,true,.pointer (some ⟨b0_0,0,none⟩)),(3,true,.map (some b1_0)),(8,true,.map (some b12_0)),(41,true,u.imports.val),(42,true,.int .i64 u.imports.l.length),(43,true,.int .i64 k)],[At b0_0 0 u.row,u.ok,bC],[eg b1_0 eI vBo m,eg b12_0 cH vBo (ft ((u.imports.l.take k).map mi))]⟩) (fun k=>u.imports.l.length-k) rfl (⟨0,⟨Nat.zero_le _,List.nodup_nil⟩,by show _=(⟨_,_,[_,eg b12_0 cH vBo (ft [])]⟩:Sta);rw [← kA];rfl⟩) ?_
  rintro i st ⟨⟨hi,hnd⟩,rfl⟩
  refine go 3 [0] ?_
  refine aa _ rfl (fun h4 => ?_) (fun h4 => ?_)
  ·skip
   have hi':i<u.imports.l.length:=by simpa using h4
   obtain ⟨y,hy⟩:∃ y,u.imports.l[i]? = some y:=⟨_,List.getElem?_eq_getElem hi'⟩
   refine go 0 [0] ?_
   refine bI true rfl rfl (fun _=>ai Tryz.underlying23 tk137 rfl ((aJ.f_imports (.of (ax 1 rfl)))) rfl (ak hy) rfl rfl) (fun h=>absurd h (by decide)) (fun ⟨b15_1,o15_1⟩=>(go 0 [13826] ?_))
   refine LT rfl (aW (zs:=[.string .empty,.string .empty,.int .i64 0,.bool false,.bool false]) (by kernel_rfl) rfl (fun b15_3=>(aHN ?_)))
   refine go 3 [0,13830] ?_
   refine cL (dp.f_name (Ent.all (aJ.f_importsA (.of (ax 2 rfl))) hy)) (fun hnl=>(cL (dp.f_version (Ent.all (aJ.f_importsA (.of (ax 2 rfl))) hy)) (fun hvl=>(go 0 [0,6,1,6] ?_))))
   refine aU rfl (ri (l:=[(0,.tmp 49),(1,.tmp 51)]) (zs:=[.string .empty,.string .empty]) (sz:=1) (m:=2) (by kernel_rfl) (by kernel_rfl) rfl rfl rfl) (LT rfl (aW (zs:=[.string .empty,.string .empty]) (by kernel_rfl) rfl (fun b16_5=>(aHN ?_))))
   refine go 0 [4617,0,6] ?_
   refine aE (caps:=[]) [0] (false) (by kernel_rfl) true rfl rfl (fun _=>rfl) (fun hc=>rfl) (fun hc=>by rw [List.append_nil];exact eS _ hnl) (fun c1 hc1 => ?_)
   refine go 0 [0,0,1,6,0,0,1,6] ?_
   refine aE (caps:=[]) [0] (false) (by kernel_rfl) _ rfl rfl (fun _=>rfl) (fun hc=>(ao (ah rfl hc) rfl)) (fun hc=>by rw [List.append_nil];exact eS _ hvl) (fun c2 hc2 => ?_)
   refine go 0 [0,0,0,0,2,6,0,0,0,2,6,0,0,0,0,4617] ?_
   refine aG rfl rfl (fun hc=>gm (k:=mi y) (v0:=false) 1 Tryz.underlying113 (kyU) (by kernel_rfl) (ah rfl hc) (ah rfl hc) rfl) (go 0 [0,0,0,0] ?_)
   refine aG rfl rfl (fun hc=>gm (k:=(i:Int)) (v0:=false) 0 Tryz.underlying63 (kyI) (by kernel_rfl) (ah rfl hc) (ah rfl hc) rfl) (go 2 [0,0,0,3,6,0,4,6,0,0] ?_)
   refine aa _ rfl (fun h5 => ?_) (fun h5 => ?_)
   ·skip
    refine go 2 [0] ?_
    refine ae (aj (aK (aj (aj (aK (aj (FZ1 [] Tryz.results30 rfl ?_)))))))
    exact ⟨⟨rfl,rfl⟩,_,rfl,fun h=>by cases h⟩
   ·skip
    refine go 0 [0,4617] ?_
    refine aT rfl (cD (k:=mi y) (v:=true) 1 Tryz.underlying113 (kyU) rfl rfl rfl rfl (aHK ?_))
    refine go 1 [0,0] ?_
    refine an ?_
    refine ⟨[1,3,8,41,42,43],[2,1,0],[0,1],rfl,?_⟩
    have hno:mi y ∉ (u.imports.l.take i).map mi:=fun hm=>by
      simp only [Bool.or_eq_false_iff] at h5
      have h3:=h5.1.1.2
      rw [tb hm] at h3
      cases h3
    have ht:(u.imports.l.take (i+1)).map mi=(u.imports.l.take i).map mi++[mi y]:=by rw [List.take_add_one,hy,List.map_append];rfl
    exact ⟨i+1,⟨⟨hi',by rw [ht];exact List.nodup_append.2 ⟨hnd,List.nodup_cons.2 ⟨List.not_mem_nil,List.nodup_nil⟩,fun a ha b hb=>by rw [List.mem_singleton.1 hb];exact fun h=>hno (h ▸ ha)⟩⟩,by rw [ht,gD];rfl⟩,by omega⟩
  ·skip
   refine go 2 [0] ?_
   refine ae (FZ1 [] Tryz.results30 rfl ?_)
   refine ⟨⟨rfl,rfl⟩,_,rfl,fun _ => ?_⟩
   rw [List.take_of_length_le (by simpa using h4)] at hnd;exact hnd
end Go.Proofs.YtgkbbdgklpabpaaGreatDoor

