/- Parts of the proof, in build order. No condition. -/
import Derived.Test.YtgkbbdgklpabpaaGreatDoorSc17
import Derived.Test.YtgkbbdgklpabpaaGreatDoorSc05
import Derived.Test.YtgkbbdgklpabpaaGreatDoorSc07
import Derived.Test.YtgkbbdgklpabpaaGreatDoorSc09
set_option linter.unusedSimpArgs false
set_option linter.unusedVariables false
set_option maxHeartbeats 20000000
set_option maxRecDepth 20000
namespace Go.Proofs.YtgkbbdgklpabpaaGreatDoor
open Go.RowKit Go.Lp Go.Sy Go.Lv
open Go.Proofs.Tryz
attribute [local irreducible] aL aB awp aC fwp Quiet
structure xS (N:Nat) (p:List Int):Prop where
 ne:p≠[]
 nd:p.Nodup
 rg:∀ x∈p,0≤x∧x<N
 sh:p.length≤N
theorem _root_.Go.Lv.PL.ok{N:Nat}{part:List Int}{P:List (Sl Int)}(h:PL N part (P.map (·.l))):∀ p∈P,xS N p.l:=fun p hp=>by
 obtain ⟨k,hk⟩:=List.mem_iff_getElem?.1 hp
 have hk2:(P.map (·.l))[k]? = some p.l:=by rw [List.getElem?_map,hk];rfl
 exact ⟨(h.ne k _ hk2).1,(h.ne k _ hk2).2,fun x hx=>(h.of k _ hk2 x hx).1,h.short (List.mem_map_of_mem hp)⟩
theorem sG{w:World}{S F:ba}{α:Type}{enc:α→Value}{vo:Value}{T E:TypeId}{l:List (List α)}(hh:(iw vo T E enc l).holds w S F):∃ ad cp,vo=.slice ad l.length cp:=by
 obtain ⟨vs,hl,G,H,hG,hH,_,e⟩:=hh
 rcases hG with ⟨h1,h2,_⟩ | ⟨B,cp,h1,_⟩
 · refine ⟨none,0,?_⟩
   have:vs=[]:=by simpa [ct] using h2
   subst this
   rw [← hl];exact h1
 · exact ⟨_,cp,by rw [h1,jg,hl]⟩
theorem zo{N:Nat}{p:List Int}(h1:p.Nodup)(h2:∀ x∈p,0≤x∧x<N):p.length≤N:=by
 have h3:=cW (fun _=>1) (p.map Int.toNat) (List.range N) (dC h1 fun q hq=>(h2 q hq).1) (fun q hq=>by
   obtain ⟨x,hx,e⟩:=List.mem_map.1 hq
   have:=h2 x hx
   exact List.mem_range.2 (by omega))
 have e:∀ l:List Nat,(l.map fun _=>1).sum=l.length:=fun l=>by induction l with
   | nil=>rfl
   | cons a l ih=>rw [List.map_cons,List.sum_cons,ih,List.length_cons];omega
 rw [e,e,List.length_map,List.length_range] at h3
 exact h3
theorem zt{N:Nat}{l:List cj}{v:Nat}{x:List Int}(h:(ck N l)[v]? = some x):x.Nodup:=by
 have hm:=List.mem_of_getElem? h
 unfold ck at hm
 obtain ⟨y,hy,rfl⟩:=List.mem_map.1 hm
 exact iP y
theorem kb{α:Type}[Inhabited α](n:Nat)(a:α)(ha:a=default)(v:Int):elt (List.replicate n a) v=a:=by
 unfold elt
 rw [List.getD_eq_getElem?_getD,List.getElem?_replicate]
 split
 · rfl
 · exact ha.symm
abbrev ts0(N:Nat):TS:=⟨List.replicate N 0,List.replicate N 0,[],List.replicate N 0,0,[],0⟩
structure FL (N:Nat) (nx:Sl (Sl Int)) (s:TS) (P:List (Sl Int)) (j:Nat):Prop where
 ti:TI N (nL nx) 0 s
 np:s.np=P.length
 pl:PL N s.part (P.map (·.l))
 cz:s.calls=[]
 sz:s.stk=[]
 le:j≤N
 dn:∀ v:Int,0≤v→v<j→elt s.idx v≠0
 ple:P.length≤N
 tj:TJ (nL nx) s
 pc:PC N s.part (P.map (·.l))
theorem FL.start(N:Nat)(nx:Sl (Sl Int)):FL N nx (ts0 N) [] 0:=by
 have e:∀ v:Int,elt (List.replicate N (0:Int)) v=0:=kb N 0 rfl
 refine ⟨⟨by simp,by simp,by simp,by simp [List.countP_replicate],fun v _ _=>by simp [e],fun v=>by simp [e],by simp,fun v _ _=>by simp [e],by simp,fun c h=>(by cases h),fun h=>absurd rfl h,fun v h=>(by cases h),fun h=>absurd rfl h⟩,rfl,⟨fun k p h=>(by simp at h),fun k p h=>(by simp at h)⟩,rfl,rfl,Nat.zero_le _,fun v h1 h2=>by omega,Nat.zero_le _,TJ.nil (fun v _=>e v) rfl rfl,PC.nil fun v _=>e v⟩
theorem FL.step{N:Nat}{nx:Sl (Sl Int)}{s s':TS}{P P':List (Sl Int)}{j:Nat}(h:FL N nx s P j)(hj:j<N)(hF:FI N nx j s s' P')(hc:s'.calls=[])(hk:s'.stk=[]):FL N nx s' P' (j+1) :=
 ⟨hF.ti.any hc hk 0,hF.np,hF.pl,hc,hk,hj,fun v h1 h2=>by
   by_cases e:v=j
   · rw [e];exact hF.me
   · exact hF.mono v h1 (by omega) (h.dn v h1 (by omega)),hF.nple,hF.tj,hF.pc⟩
theorem FL.skip{N:Nat}{nx:Sl (Sl Int)}{s:TS}{P:List (Sl Int)}{j:Nat}(h:FL N nx s P j)(hj:j<N)(h0:elt s.idx (j:Int)≠0):FL N nx s P (j+1) :=
 ⟨h.ti,h.np,h.pl,h.cz,h.sz,hj,fun v h1 h2=>by
   by_cases e:v=j
   · rw [e];exact h0
   · exact h.dn v h1 (by omega),h.ple,h.tj,h.pc⟩
theorem FL.parts{N:Nat}{nx:Sl (Sl Int)}{s:TS}{P:List (Sl Int)}(h:FL N nx s P N)(v:Nat)(hv:v<N):∃ p:Nat,s.part[v]? = some (p:Int)∧1≤p∧p≤P.length:=by
 have h1:=h.ti.pr v (by omega) (by omega)
 have h2:=h.dn v (by omega) (by omega)
 have h3:elt s.part (v:Int)≠0:=fun h0=>by
   have:=(h.ti.stk v).2 ⟨by omega,h2,h0⟩
   rw [h.sz] at this;cases this
 have hnp:=h.np
 have hlp:=h.ti.lp
 obtain ⟨p,hp⟩:=Int.eq_ofNat_of_zero_le h1.1
 exact ⟨p,by rw [← hp];exact bA (by omega),by omega,by omega⟩
def zl(w:List Int)(k:Nat):List Int:=((List.range k).filter fun i:Nat=>decide (elt w ((i:Int)+1)=0)).map fun i:Nat=>(i:Int)+1
theorem vR(w:List Int)(k:Nat):zl w (k+1)=if elt w ((k:Int)+1)=0 then zl w k++[(k:Int)+1] else zl w k:=by
 unfold zl
 rw [List.range_succ,List.filter_append,List.map_append]
 by_cases h:elt w ((k:Int)+1)=0
 · rw [if_pos h];simp [h]
 · rw [if_neg h];simp [h]
theorem u9{w:List Int}{k:Nat}{p:Int} : p∈zl w k↔(1≤p∧p≤k)∧elt w p=0:=by
 unfold zl
 rw [List.mem_map]
 constructor
 · rintro ⟨i,hi,rfl⟩
   obtain ⟨h1,h2⟩:=List.mem_filter.1 hi
   have:=List.mem_range.1 h1
   exact ⟨by omega,by simpa using h2⟩
 · rintro ⟨⟨h1,h2⟩,h3⟩
   refine ⟨(p-1).toNat,List.mem_filter.2 ⟨List.mem_range.2 (by omega),?_⟩,by omega⟩
   have e:(((p-1).toNat:Nat):Int)+1=p:=by omega
   rw [e];simpa using h3
theorem aan(w:List Int)(k:Nat):(zl w k).Nodup:=by
 unfold zl
 show List.Pairwise _ _
 rw [List.pairwise_map]
 exact (List.nodup_range.filter _).imp fun h e=>h (by omega)
theorem nr{α:Type}[Inhabited α]{l:List α}{j:Nat}{v:α}(hj:j<l.length)(i:Int):elt (l.set j v) i=if i.toNat=j then v else elt l i:=by
 unfold elt
 rw [List.getD_eq_getElem?_getD,List.getD_eq_getElem?_getD,List.getElem?_set]
 by_cases h:j=i.toNat
 · rw [if_pos h,if_pos hj,if_pos h.symm];rfl
 · rw [if_neg h,if_neg fun e=>h e.symm]
theorem _root_.Go.Lv.KI.lenH{M:Nat}{us:List (List Int)}{w D H s:List Int}(h:KI M us w D H s):H.length≤M:=by
 have hn:H.Nodup:=by have:=h.nd;rw [List.nodup_append] at this;exact this.2.1
 have hr:∀ q∈H,1≤q∧q≤M:=fun q hq=>h.rg q (List.mem_append_right _ hq)
 have h1:=cW (fun _=>1) (H.map Int.toNat) (List.range' 1 M) (dC hn fun q hq=>by have:=hr q hq;omega) (fun q hq=>by
   obtain ⟨x,hx,e⟩:=List.mem_map.1 hq
   have:=hr x hx
   exact List.mem_range'_1.2 (by omega))
 have e:∀ l:List Nat,(l.map fun _=>1).sum=l.length:=fun l=>by induction l with
   | nil=>rfl
   | cons a l ih=>rw [List.map_cons,List.sum_cons,ih,List.length_cons];omega
 rw [e,e,List.length_map,List.length_range'] at h1
 exact h1
def pP(P:List (Sl Int))(p:Int):Sl Int:=elt P (p-1)
theorem ot{P:List (Sl Int)}{p:Int}(h:1≤p∧p≤P.length):P[(p-1).toNat]? = some (pP P p):=cS (by omega) (by omega)
theorem iI{P:List (Sl Int)}{p:Int}(h:1≤p∧p≤P.length):pP P p∈P:=List.mem_of_getElem? (ot h)
def yj:Value→Nat
 | .pointer (some a)=>a.block
 | _=>0
theorem adb(D:Nat→Bool)(h:D 9=true→(D 2 && D 4 && D 6 && D 8)=true):(!(([2,4,6,8,9,10].filter D).contains 9) || ((([2,4,6,8,9,10].filter D).contains 2) && (([2,4,6,8,9,10].filter D).contains 4) && (([2,4,6,8,9,10].filter D).contains 6) && (([2,4,6,8,9,10].filter D).contains 8)))=true:=by
 simp only [List.filter_cons,List.filter_nil]
 revert h
 generalize D 2=a,D 4=b,D 6=c,D 8=d,D 9=e,D 10=f
 revert a b c d e f
 decide
theorem yV(n:Nat):List.replicate n [Go.Sy.D.v (.int .i64 0)]=eR (List.replicate n 0):=by
 show _=List.map _ _
 rw [List.map_replicate]
def ze(v:Value):Prop:=∃ ad k c,v=.slice ad k c
theorem gz{D:Nat→Bool}{vs:Nat→Value}{l:List Nat}(h:∀ i∈l,D i=true→ze (vs i))(j:Nat)(v:Value)(hv:j∈l→ze v):∀ i∈l,(i == j || D i)=true→ze (if i=j then v else vs i):=fun i hi hd=>by
 by_cases e:i=j
 · rw [if_pos e];exact hv (e ▸ hi)
 · rw [if_neg e]
   refine h i hi ?_
   have:(i == j)=false:=by simpa using e
   rwa [this,Bool.false_or] at hd
theorem _root_.Go.Sy.Con.know{P:Program}{f:FuncId}{args:List Value}{ps:List Per}{hp:List Res}{R:Value→List Per→List Res→Prop}{φ:Value→Prop}(h:Con P f args ps hp R)(hk:∀ v ps' hp' w S fp,R v ps' hp'→St w S fp ps' hp'→φ v):Con P f args ps hp fun v ps hp=>R v ps hp∧φ v:=fun w S fp hst =>
 (h w S fp hst).mono fun _ _ ⟨v,ps',hp',S',fp',h1,h2,h3,h4⟩=>⟨v,ps',hp',S',fp',h1,⟨h2,hk v ps' hp' _ S' fp' h2 h3⟩,h3,h4⟩
def qX(N:Nat)(l:Sl cj)(d2 d4 d6 d8 d9 d10:Bool)(v2 v4 v6 v8 v10:Value):Sta :=
 ⟨[(34,true,.int .i64 N),(32,true,.int .i64 N),(30,true,.int .i64 N),(28,true,l.val),(27,true,.int .i64 N),(0,true,.int .i64 N),(1,true,l.val)]++(if d2 then [(29,true,v2)] else [])++(if d4 then [(31,true,v4)] else [])++(if d6 then [(33,true,v6)] else [])++(if d8 then [(35,true,v8)] else [])++(if d9 then [(36,true,.agg #[v2,v4,v6,.slice none 0 0,v8,.slice none 0 0])] else [])++(if d10 then [(5,true,.pointer (some ⟨yj v10,0,none⟩))] else []),
   [ShF cj.row l],
   [if d2 then iw v2 33 3 encI (ck N l.l) else emp,if d4 then aP v4 3 1 (List.replicate N [.v (.int .i64 0)]) else emp,if d6 then aP v6 3 1 (List.replicate N [.v (.int .i64 0)]) else emp,if d8 then aP v8 3 1 (List.replicate N [.v (.int .i64 0)]) else emp,if d10 then Box (yj v10) 271 [.slice none 0 0,.slice none 0 0,.slice none 0 0,.slice none 0 0,.slice none 0 0,.slice none 0 0] else emp]⟩
set_option maxHeartbeats 20000000 in
theorem wI (N:Nat) (hN:N≤30000) (l:Sl cj) (hl:l.l.length≤100000000) (hr:∀ a∈l.l,fZ N a) :
   Con Tryz.prog 129 [.int .i64 N,l.val] [ShF cj.row l] [] fun r ps hp=>hp=[]∧∃ P:Sl (Sl Int),r=P.val∧(∀ p∈P.l,xS N p.l)∧PX N (ck N l.l) (P.l.map (·.l))∧ps=[ShF slR P,bu (ShF bd) P.l]:=by
 have hro:=lW hr
 refine EN2 Tryz.func129 rfl (aSR (aA rfl (aNs (aSR (aM rfl (aM rfl (aU rfl (Q1 rfl (pH N l) 0 rfl) (aU rfl (eJ rfl) (aNn ?_)))))))))
 refine aa _ rfl (fun h1 => ?_) (fun h1 => ?_)
 ·skip
  exact absurd h1 (by rw [sW (by omega) hr];simp)
 ·skip
  refine aD (an (aq (jW [0,1] [0] [] rfl ?_)))
  show awp _ _ _ _ ⟨[(0,true,.int .i64 N),(1,true,l.val)],[ShF cj.row l],[]⟩
  refine iA emp (fun _ _ _ h=>h) (iA emp (fun _ _ _ h=>h) (iA emp (fun _ _ _ h=>h) (iA emp (fun _ _ _ h=>h) (iA emp (fun _ _ _ h=>h) (DC [11] [11] [] 12 (CF 0 rfl rfl rfl (bo rfl) (CF 1 rfl rfl rfl (bo rfl) (CF 3 rfl rfl rfl (bo rfl) (CF 5 rfl rfl rfl (bo rfl) (CF 7 rfl rfl rfl (bo rfl) ?_))))))))))
  show aC _ _ _ _ _ _ _ (1+6) _ _
  show aC _ _ _ _ _ _ _ _ _ (qX N l false false false false false false (.int .i64 0) (.int .i64 0) (.int .i64 0) (.int .i64 0) (.int .i64 0))
  show aC _ _ _ _ _ _ _ _ (jO _ (List.filter (fun _=>false) [2,4,6,8,9,10])) _
  refine xY (α:=Value) (k:=1) [2,4,6,8,9,10] (((((#[false,false,false,false,false,false,false,false,false,false,false,false].setIfInBounds 0 true).setIfInBounds 1 true).setIfInBounds 3 true).setIfInBounds 5 true).setIfInBounds 7 true) (fun D vs=>qX N l (D 2) (D 4) (D 6) (D 8) (D 9) (D 10) (vs 2) (vs 4) (vs 6) (vs 8) (vs 10)) (fun D vs=>(D 9=true→(D 2 && D 4 && D 6 && D 8)=true)∧∀ i∈[2,4,6,8],D i=true→ze (vs i)) (fun A => !A.contains 9 || (A.contains 2 && A.contains 4 && A.contains 6 && A.contains 8)) (fun D vs hI=>adb D hI.1) (by decide) (by kernel_rfl) ?_ ?_ 6 (fun _=>false) (fun _=>.int .i64 0) ⟨fun h=>absurd h (by decide),fun _ _ h=>absurd h (by decide)⟩ rfl
  · intro j hj D vs hI hD hrd
    simp only [List.mem_cons,List.not_mem_nil,or_false] at hj
    have h9f:(D 2 && D 4 && D 6 && D 8)=false→D 9=false:=fun h=>by
      cases h9:D 9 with
      | false=>rfl
      | true=>rw [hI.1 h9] at h;cases h
    rcases hj with rfl | rfl | rfl | rfl | rfl | rfl
    · have h9:=h9f (by rw [hD];rfl)
      refine ⟨_,rfl,rfl,?_⟩
      dsimp only
      rw [hD,h9]
      unfold qX
      refine Eff.x (EC [0] [] rfl ((rR N (by omega) l hl fun a ha=>(hr a ha).1).know (φ:=ze) (fun _ _ _ _ _ _ ⟨_,h2⟩ hst=>by subst h2;exact (sG (hst.res 0 _ rfl)).imp fun _ h=>⟨_,h⟩)) ?_)
      rintro v _ _ ⟨⟨rfl,rfl⟩,hsl⟩
      cases h4:D 4<;>cases h6:D 6<;>cases h8:D 8<;>cases h10:D 10<;>exact ⟨[34,32,30,28,27,0,1,29,31,33,35,36,5],[0],[5,1,2,3,4],v,⟨fun h=>absurd h (by decide),gz hI.2 2 v fun _=>hsl⟩,rfl,rfl⟩
    · have h9:=h9f (by rw [hD];simp)
      refine ⟨_,rfl,rfl,?_⟩
      dsimp only
      rw [hD,h9]
      unfold qX
      refine Eff.x (fF (m:=N) (zs:=[.int .i64 0]) el33 (by kernel_rfl) rfl (by decide) (dr rfl (rfl)) (dr rfl (rfl)) (by omega) rfl (fun v => ?_))
      cases h2:D 2<;>cases h6:D 6<;>cases h8:D 8<;>cases h10:D 10<;>exact ⟨[34,32,30,28,27,0,1,29,31,33,35,36,5],[0],[0,5,2,3,4],.slice v N N,⟨fun h=>absurd h (by decide),gz hI.2 4 _ fun _=>⟨_,_,_,rfl⟩⟩,rfl,rfl⟩
    · have h9:=h9f (by rw [hD];simp)
      refine ⟨_,rfl,rfl,?_⟩
      dsimp only
      rw [hD,h9]
      unfold qX
      refine Eff.x (fF (m:=N) (zs:=[.int .i64 0]) el33 (by kernel_rfl) rfl (by decide) (dr rfl (rfl)) (dr rfl (rfl)) (by omega) rfl (fun v => ?_))
      cases h2:D 2<;>cases h4:D 4<;>cases h8:D 8<;>cases h10:D 10<;>exact ⟨[34,32,30,28,27,0,1,29,31,33,35,36,5],[0],[0,1,5,3,4],.slice v N N,⟨fun h=>absurd h (by decide),gz hI.2 6 _ fun _=>⟨_,_,_,rfl⟩⟩,rfl,rfl⟩
    · have h9:=h9f (by rw [hD];simp)
      refine ⟨_,rfl,rfl,?_⟩
      dsimp only
      rw [hD,h9]
      unfold qX
      refine Eff.x (fF (m:=N) (zs:=[.int .i64 0]) el33 (by kernel_rfl) rfl (by decide) (dr rfl (rfl)) (dr rfl (rfl)) (by omega) rfl (fun v => ?_))
      cases h2:D 2<;>cases h4:D 4<;>cases h6:D 6<;>cases h10:D 10<;>exact ⟨[34,32,30,28,27,0,1,29,31,33,35,36,5],[0],[0,1,2,5,4],.slice v N N,⟨fun h=>absurd h (by decide),gz hI.2 8 _ fun _=>⟨_,_,_,rfl⟩⟩,rfl,rfl⟩
    · have hall:=sU [2,4,6,8] (by kernel_rfl) hrd
      have h2:=hall 2 (by decide)
      have h4:=hall 4 (by decide)
      have h6:=hall 6 (by decide)
      have h8:=hall 8 (by decide)
      obtain ⟨a2,k2,c2,e2⟩:=hI.2 2 (by decide) h2
      obtain ⟨a4,k4,c4,e4⟩:=hI.2 4 (by decide) h4
      obtain ⟨a6,k6,c6,e6⟩:=hI.2 6 (by decide) h6
      obtain ⟨a8,k8,c8,e8⟩:=hI.2 8 (by decide) h8
      refine ⟨_,rfl,rfl,?_⟩
      dsimp only
      simp only [hD,h2,h4,h6,h8,e2,e4,e6,e8,Nat.reduceEqDiff,if_false]
      unfold qX
      refine Eff.x (Quiet.eff (bP (l:=[(0,.tmp 29),(1,.tmp 31),(2,.tmp 33),(4,.tmp 35)]) (zs:=[.slice none 0 0,.slice none 0 0,.slice none 0 0,.slice none 0 0,.slice none 0 0,.slice none 0 0]) (pl:=[(0,1),(1,1),(2,1),(3,1),(4,1),(5,1)]) (by kernel_rfl) (by kernel_rfl) (by kernel_rfl) rfl rfl rfl) rfl ?_)
      cases h10:D 10<;>exact ⟨[34,32,30,28,27,0,1,29,31,33,35,36,5],[0],[0,1,2,3,4],.int .i64 0,⟨fun _=>by simp,gz hI.2 9 _ fun h=>absurd h (by decide)⟩,rfl,rfl⟩
    · refine ⟨_,rfl,rfl,?_⟩
      dsimp only
      rw [hD]
      unfold qX
      refine Eff.x (aW (zs:=[.slice none 0 0,.slice none 0 0,.slice none 0 0,.slice none 0 0,.slice none 0 0,.slice none 0 0]) (by kernel_rfl) rfl (fun b => ?_))
      refine ⟨[34,32,30,28,27,0,1,29,31,33,35,36,5],[0],[0,1,2,3,5],.pointer (some ⟨b,0,none⟩),⟨hI.1,gz hI.2 10 _ fun h=>absurd h (by decide)⟩,?_⟩
      cases h2:D 2<;>cases h4:D 4<;>cases h6:D 6<;>cases h8:D 8<;>cases h9:D 9<;>exact ⟨rfl,rfl⟩
  intro D vs _ hf
  show aC _ _ _ _ _ _ _ (0+1) _ (qX N l (D 2) (D 4) (D 6) (D 8) (D 9) (D 10) (vs 2) (vs 4) (vs 6) (vs 8) (vs 10))
  rw [hf 2 (by decide),hf 4 (by decide),hf 6 (by decide),hf 8 (by decide),hf 9 (by decide),hf 10 (by decide)]
  generalize vs 2=v2,vs 4=v4,vs 6=v6,vs 8=v8,vs 10=v10
  refine vf [0,1,5,36] [0] [0,1,2,3,4] (by kernel_rfl) ?_
  show aC _ _ _ _ _ _ _ _ _ ⟨[(0,true,.int .i64 N),(1,true,l.val),(5,true,.pointer (some ⟨yj v10,0,none⟩)),(36,true,.agg #[v2,v4,v6,.slice none 0 0,v8,.slice none 0 0])],[ShF cj.row l],[iw v2 33 3 encI (ck N l.l),aP v4 3 1 (List.replicate N [.v (.int .i64 0)]),aP v6 3 1 (List.replicate N [.v (.int .i64 0)]),aP v8 3 1 (List.replicate N [.v (.int .i64 0)]),Box (yj v10) 271 [.slice none 0 0,.slice none 0 0,.slice none 0 0,.slice none 0 0,.slice none 0 0,.slice none 0 0]]⟩
  generalize yj v10=bq
  refine mr (fun w S fp hst=>sG (hst.res 0 _ rfl)) (fun h2=>(mr (fun w S fp hst=>df (hst.res 1 _ rfl)) (fun h4=>(mr (fun w S fp hst=>df (hst.res 2 _ rfl)) (fun h6=>(mr (fun w S fp hst=>df (hst.res 3 _ rfl)) (fun h8 => ?_)))))))
  obtain ⟨ad2,c2,rfl⟩:=h2
  obtain ⟨ad4,c4,rfl⟩:=h4
  obtain ⟨ad6,c6,rfl⟩:=h6
  obtain ⟨ad8,c8,rfl⟩:=h8
  refine ed 11 [] (by kernel_rfl) (cZ ?_ dK)
  refine fb 11 rfl rfl (Eff.wild (q:=false) (id (bX 4 tk271 rfl rfl rfl rfl (CST ?_))))
  refine kI (by kernel_rfl) (an (aq (fP 0 rfl (fun nx hnx hnl => ?_))))
  rw [hnx]
  have hnxl:nx.l.length=N:=by
    have:=congrArg List.length hnl
    rw [List.length_map] at this
    rw [this];unfold ck;rw [List.length_map,cx]
  have hnxw:∀ (v:Nat) (lv:Sl Int),nx.l[v]? = some lv→(∀ w∈lv.l,0≤w∧w<N)∧lv.l.length≤30000:=fun v lv hv=>by
    have h1:(ck N l.l)[v]? = some lv.l:=by rw [← hnl,List.getElem?_map,hv];rfl
    have h2:elt (ck N l.l) (v:Int)=lv.l:=by unfold elt;rw [List.getD_eq_getElem?_getD,Int.toNat_natCast,h1];rfl
    have h3:∀ w∈lv.l,0≤w∧w<N:=fun w hw=>hro (v:Int) w (by rw [h2];exact hw)
    exact ⟨h3,Nat.le_trans (zo (zt h1) h3) hN⟩
  refine az (LT rfl (aW (zs:=[.int .i64 0]) (by kernel_rfl) rfl (fun b4_0=>(aHN ?_))))
  refine aT rfl (bX 5 tk3 rfl rfl rfl rfl (aHK ?_))
  refine aNs (aq ?_)
  rw [yV N]
  generalize (Value.slice ad4 _ c4)=iv
  generalize (Value.slice ad6 _ c6)=lv
  generalize (Value.slice ad8 _ c8)=pv
  refine cV 3 1 (cV 33 1 ?_)
  refine jV (bu (ShF bd) ([]:List (Sl Int))) (fun _ _ _ _ h=>by cases h) ?_
  refine jW [0,5,6] [3,2,1] [4,1,2,6,3,7,5] rfl ?_
  show awp _ _ _ _ ⟨[(0,true,.int .i64 N),(5,true,.pointer (some ⟨bq,0,none⟩)),(6,true,.pointer (some ⟨b4_0,0,none⟩))],[bu (ShF bd) ([]:List (Sl Int)),bu (ShF bd) nx.l,ShF slR nx],wY bq b4_0 nx.val iv lv (.slice none 0 0) pv (.slice none 0 0) (ts0 N) []⟩
  refine az (aM rfl (aM rfl (aNn (aH (aF [5,6,37,38] [2,1,0] [0,1,2,3,4,5,6] (fun (q:(Value × Value) × ((TS × List (Sl Int)) × Nat)) st=>FL N nx q.2.1.1 q.2.1.2 q.2.2∧st=⟨[(5,true,.pointer (some ⟨bq,0,none⟩)),(6,true,.pointer (some ⟨b4_0,0,none⟩)),(37,true,.int .i64 N),(38,true,.int .i64 q.2.2)],[bu (ShF bd) q.2.1.2,bu (ShF bd) nx.l,ShF slR nx],wY bq b4_0 nx.val iv lv q.1.1 pv q.1.2 q.2.1.1 q.2.1.2⟩) (fun q=>N-q.2.2) rfl (⟨((.slice none 0 0,.slice none 0 0),((ts0 N,[]),0)),FL.start N nx,rfl⟩) ?_)))))
  rintro ⟨⟨sv,qv⟩,⟨s1,P1⟩,j⟩ st ⟨hI,rfl⟩
  dsimp only at hI ⊢
  have hjle:=hI.le
  refine aSR (aU rfl (cf rfl rfl) (aNs ?_))
  refine aa _ rfl (fun h2 => ?_) (fun h2 => ?_)
  ·skip
   have hj:j<N:=by simpa using h2
   have hix:s1.idx[j]? = some (elt s1.idx (j:Int)):=bA (by rw [hI.ti.li];exact hj)
   refine aD (an (aq (aH (aSR (aM rfl (aA rfl (aNn (aSR (UO 1 rfl rfl (UL 0 tk33 rfl rfl rfl rfl (aM rfl ?_)))))))))))
   refine aU rfl (bK 1 j el33 rfl rfl rfl rfl (by rw [List.length_map,hI.ti.li];exact hj)) ?_
   refine aU rfl (bl (u:=.int .i64 (elt s1.idx (j:Int))) 1 j 0 tk3 rfl rfl (ak hix) rfl rfl) (aU rfl (dw rfl rfl) (aNn ?_))
   refine aa _ rfl (fun h3 => ?_) (fun h3 => ?_)
   ·skip
    have h0:elt s1.idx (j:Int)=0:=by simpa using h3
    refine az (aM rfl ?_)
    refine LF rfl (EC [0,1,2] [0,1,2,3,4,5,6] rfl (yC N (by omega) nx hnxl (fun lw hlw w hw=>(hnxw _ lw (List.getElem?_of_mem hlw).choose_spec).1 w hw) bq b4_0 iv lv sv pv qv s1 P1 j hj (hI.ti.any hI.cz hI.sz j) hI.cz hI.sz h0 hI.np hI.ple hI.pl hI.tj hI.pc) ?_)
    rintro _ _ _ ⟨s2,P2,sv2,qv2,hF,hc2,hk2,rfl,rfl⟩
    refine aST ?_
    refine dJ (ca (an (az (aU rfl (bz rfl rfl (by omega)) (aM rfl (aNn ?_))))))
    refine ⟨[5,6,37,38],[3,1,0],[0,1,2,3,4,5,6],rfl,?_⟩
    exact ⟨((sv2,qv2),((s2,P2),j+1)),⟨hI.step hj hF hc2 hk2,rfl⟩,by dsimp only;omega⟩
   ·skip
    have h0:elt s1.idx (j:Int)≠0:=by simpa using h3
    refine aD (ca (an (az (aU rfl (bz rfl rfl (by omega)) (aM rfl (aNn ?_))))))
    refine ⟨[5,6,37,38],[2,1,0],[0,1,2,3,4,5,6],rfl,?_⟩
    exact ⟨((sv,qv),((s1,P1),j+1)),⟨hI.skip hj h0,rfl⟩,by dsimp only;omega⟩
  ·skip
   have hjN:j=N:=by simp at h2;omega
   subst hjN
   have hpt:=hI.parts
   have hple:=hI.ple
   have hplen:s1.part.length=j:=hI.ti.lp
   have hpok:=hI.pl.ok
   have hpl:=hI.pl
   have hnrL:∀ v w,w∈elt (nL nx) v→0≤w∧w<(j:Int):=fun v w hw=>by
     rw [show nL nx=ck j l.l from hnl] at hw
     exact hro v w hw
   have hpx:PX j (ck j l.l) (P1.map (·.l)):=by
     rw [← hnl]
     exact hI.tj.px hnrL hI.pl hI.pc fun v h0 h1=>by
       obtain ⟨v0,rfl⟩:=Int.eq_ofNat_of_zero_le h0
       obtain ⟨p,hp,hp1,_⟩:=hpt v0 (by omega)
       have:=bA (l:=s1.part) (i:=v0) (by omega)
       rw [hp] at this
       rw [← Option.some.inj this];omega
   have hcl:=hI.tj.cl
   generalize hpp:s1.part=pt at hpt hplen hpl hcl
   refine aY (bb (bb (bg (an (aq (DC [] [] [bq] 12 ?_))))))
   refine aat (X:=Value × Value) (fun q=>⟨[(5,true,.pointer (some ⟨bq,0,none⟩)),(8,true,q.1),(9,true,q.2)],[bu (ShF bd) P1,bu (ShF bd) nx.l,ShF slR nx],[Box bq 271 [nx.val,iv,lv,sv,pv,qv],aP pv 3 1 (eR s1.part),aP qv 33 1 (P1.map slR),aP q.1 3 1 (List.replicate (P1.length+1) [.v (.int .i64 0)]),aP q.2 33 1 (List.replicate (P1.length+1) [.v (.slice none 0 0)])]⟩) ?_ ?_
   ·skip
    refine CF 0 rfl rfl rfl (qFA (off:=5) rfl) ?_
    refine jr 1 0 rfl (by kernel_rfl) true rfl rfl (by simp) tk201 (fun _=>rfl) rfl rfl ?_
    refine CQ 2 rfl rfl rfl (dQ 5 Tryz.underlying201 rfl rfl) ?_
    refine CF 3 rfl rfl rfl (bz rfl rfl (by (rw [List.length_map];omega))) ?_
    refine CF 5 rfl rfl rfl (qFA (off:=5) rfl) ?_
    refine jr 6 0 rfl (by kernel_rfl) true rfl rfl (by simp) tk201 (fun _=>rfl) rfl rfl ?_
    refine CQ 7 rfl rfl rfl (dQ 5 Tryz.underlying201 rfl rfl) ?_
    refine CF 8 rfl rfl rfl (bz rfl rfl (by (rw [List.length_map];omega))) ?_
    refine ed 4 [9] (by kernel_rfl) (cZ ?_ (cZ ?_ dK))
    ·skip
     refine fb 4 rfl rfl (Eff.x ?_)
     refine id (fF (m:=P1.length+1) (zs:=[.int .i64 0]) el33 (by kernel_rfl) rfl (by decide) (dr rfl (by simp)) (dr rfl (by simp)) (by omega) rfl (fun v11_4 => ?_))
     refine CST ?_
     refine CF 10 rfl rfl rfl (dM rfl) ?_
     refine ed 9 [] (by kernel_rfl) (cZ ?_ dK)
     refine fb 9 rfl rfl (Eff.x ?_)
     refine id (fF (m:=P1.length+1) (zs:=[.slice none 0 0]) el201 (by kernel_rfl) rfl (by decide) (dr rfl (by simp)) (dr rfl (by simp)) (by omega) rfl (fun v11_9 => ?_))
     refine CST ?_
     refine CF 11 rfl rfl rfl (dM rfl) (kI (by kernel_rfl) ?_)
     exact ⟨rfl,[5,8,9],[2,1,0],[0,4,5,7,8],(.slice v11_4 (P1.length+1) (P1.length+1),.slice v11_9 (P1.length+1) (P1.length+1)),rfl,rfl⟩
    ·skip
     refine fb 9 rfl rfl (Eff.x ?_)
     refine id (fF (m:=P1.length+1) (zs:=[.slice none 0 0]) el201 (by kernel_rfl) rfl (by decide) (dr rfl (by simp)) (dr rfl (by simp)) (by omega) rfl (fun v11_9 => ?_))
     refine CST ?_
     refine ed 4 [] (by kernel_rfl) (cZ ?_ dK)
     refine fb 4 rfl rfl (Eff.x ?_)
     refine id (fF (m:=P1.length+1) (zs:=[.int .i64 0]) el33 (by kernel_rfl) rfl (by decide) (dr rfl (by simp)) (dr rfl (by simp)) (by omega) rfl (fun v11_4 => ?_))
     refine CST ?_
     refine CF 10 rfl rfl rfl (dM rfl) (CF 11 rfl rfl rfl (dM rfl) (kI (by kernel_rfl) ?_))
     exact ⟨rfl,[5,8,9],[2,1,0],[0,4,5,8,7],(.slice v11_4 (P1.length+1) (P1.length+1),.slice v11_9 (P1.length+1) (P1.length+1)),rfl,rfl⟩
   ·skip
    rintro ⟨wv,uv⟩
    refine an (aq (aq ?_))
    dsimp only
    rw [hpp,yV (P1.length+1)]
    refine lI (α:=Int) (E:=3) (enc:=encI) 4 (P1.length+1) rfl ?_
    show awp _ _ _ _ ⟨_,_,[_,_,_,_,_]⟩
    refine az (UO 0 rfl rfl (UL 0 tk201 rfl rfl rfl rfl (aU rfl (bk Tryz.underlying201 rfl) (aM rfl (aNn (aH ?_))))))
    refine aF [5,8,9,61,62,63] [2,1,0] [0,1,2,3,4] (fun (q:(List Int × List (List Int)) × (Value × Nat)) st=>((WB P1.length q.1.1 q.1.2∧UpL q.1.2)∧q.2.2≤j∧(∀ x,elt q.1.1 x≤30000*q.2.2)∧∀ x:Int,(elt q.1.2 x).length≤30000*q.2.2)∧st=⟨[(5,true,.pointer (some ⟨bq,0,none⟩)),(8,true,wv),(9,true,q.2.1),(61,true,nx.val),(62,true,.int .i64 nx.l.length),(63,true,.int .i64 q.2.2)],[bu (ShF bd) P1,bu (ShF bd) nx.l,ShF slR nx],[Box bq 271 [nx.val,iv,lv,sv,pv,qv],aP pv 3 1 (eR pt),aP qv 33 1 (P1.map slR),aP wv 3 1 (eR q.1.1),iw q.2.1 33 3 encI q.1.2]⟩) (fun q=>j-q.2.2) rfl (⟨((List.replicate (P1.length+1) 0,List.replicate (P1.length+1) []),(uv,0)),⟨⟨WB.start _,UpL.start _⟩,Nat.zero_le _,fun x=>(by show elt (List.replicate (P1.length+1) (0:Int)) x≤30000*((0:Nat):Int);rw [kb _ 0 rfl];omega),fun x=>(by show (elt (List.replicate (P1.length+1) ([]:List Int)) x).length≤_;rw [kb _ [] rfl];exact Nat.zero_le _)⟩,rfl⟩) ?_
    rintro ⟨⟨w,us⟩,⟨uv2,k⟩⟩ st ⟨⟨⟨hW,hU⟩,hk,hwb,hub⟩,rfl⟩
    dsimp only at hW hU hk hwb hub ⊢
    refine aSR (aU rfl (cf rfl rfl) (aNs ?_))
    refine aa _ rfl (fun h4 => ?_) (fun h4 => ?_)
    ·skip
     have hk':k<j:=by simp at h4;omega
     obtain ⟨lv0,hlv0⟩:∃ lv0,nx.l[k]? = some lv0:=⟨_,List.getElem?_eq_getElem (by omega)⟩
     obtain ⟨hlw,hll⟩:=hnxw k lv0 hlv0
     obtain ⟨p,hp,hp1,hp2⟩:=hpt k hk'
     refine aD (an (aq (aH (aSR (aM rfl (UI Tryz.underlying201 tk33 2 rfl rfl rfl rfl rfl (ak hlv0) rfl rfl (fun ⟨b14_1,o14_1⟩=>(US 0 tk33 0 rfl rfl rfl rfl rfl (aA rfl (aA rfl (aNn (aSR (aM rfl ?_)))))))))))))
     refine aU rfl (bk Tryz.underlying33 rfl) (aM rfl (aNn (aH (aF [5,8,9,61,62,63,10,68,69,70] [2,1,0] [0,1,2,3,4] (fun (q:(List Int × List (List Int)) × (Value × Nat)) st=>((WB P1.length q.1.1 q.1.2∧UpL q.1.2)∧q.2.2≤lv0.l.length∧(∀ x,elt q.1.1 x≤30000*k+q.2.2)∧∀ x:Int,(elt q.1.2 x).length≤30000*k+q.2.2)∧st=⟨[(5,true,.pointer (some ⟨bq,0,none⟩)),(8,true,wv),(9,true,q.2.1),(61,true,nx.val),(62,true,.int .i64 nx.l.length),(63,true,.int .i64 k),(10,true,.int .i64 k),(68,true,lv0.val),(69,true,.int .i64 lv0.l.length),(70,true,.int .i64 q.2.2)],[bu (ShF bd) P1,bu (ShF bd) nx.l,ShF slR nx],[Box bq 271 [nx.val,iv,lv,sv,pv,qv],aP pv 3 1 (eR pt),aP qv 33 1 (P1.map slR),aP wv 3 1 (eR q.1.1),iw q.2.1 33 3 encI q.1.2]⟩) (fun q=>lv0.l.length-q.2.2) rfl (⟨((w,us),(uv2,0)),⟨⟨hW,hU⟩,Nat.zero_le _,hwb,hub⟩,rfl⟩) ?_))))
     rintro ⟨⟨w3,us3⟩,⟨uv3,m⟩⟩ st ⟨⟨⟨hW3,hU3⟩,hm,hwb3,hub3⟩,rfl⟩
     dsimp only at hW3 hU3 hm hwb3 hub3 ⊢
     refine aSR (aU rfl (cf rfl rfl) (aNs ?_))
     refine aa _ rfl (fun h5 => ?_) (fun h5 => ?_)
     ·skip
      have hm':m<lv0.l.length:=by simp at h5;omega
      obtain ⟨y,hy⟩:∃ y,lv0.l[m]? = some y:=⟨_,List.getElem?_eq_getElem hm'⟩
      have hyr:=hlw y (List.mem_of_getElem? hy)
      obtain ⟨yn,rfl⟩:=Int.eq_ofNat_of_zero_le hyr.1
      obtain ⟨q,hq,hq1,hq2⟩:=hpt yn (by omega)
      have hlw3:=hW3.lw
      have hlu3:=hW3.lu
      refine aD (an (aq (aH (aSR (bI true rfl rfl (fun _=>ai Tryz.underlying33 tk3 rfl ((Ent.all (f:=ShF bd) (.of (ax 1 rfl)) hlv0)) rfl (ak hy) rfl rfl) (fun h=>absurd h (by decide)) (fun ⟨b17_0,o17_0⟩=>(US 0 tk3 0 rfl rfl rfl rfl rfl (aA rfl (aNs (DR [] 12 (VO 0 4 rfl rfl rfl (VL 1 0 tk33 rfl rfl rfl rfl rfl (VM 2 rfl rfl ?_)))))))))))))
      refine bV 3 rfl rfl (bK 1 k el33 rfl rfl rfl rfl (by rw [List.length_map];omega)) ?_
      refine bV 4 rfl rfl (bl (u:=.int .i64 (p:Int)) 1 k 0 tk3 rfl rfl (ak hp) rfl rfl) (VO 5 4 rfl rfl rfl (VL 6 0 tk33 rfl rfl rfl rfl rfl (VM 7 rfl rfl ?_)))
      refine bV 8 rfl rfl (bK 1 yn el33 rfl rfl rfl rfl (by rw [List.length_map];omega)) ?_
      refine bV 9 rfl rfl (bl (u:=.int .i64 (q:Int)) 1 yn 0 tk3 rfl rfl (ak hq) rfl rfl) (bV 10 rfl rfl (dM rfl) (bV 11 rfl rfl (dM rfl) (BN (an (aSR (aM rfl (aM rfl (aU rfl (fg rfl rfl) (aNn ?_)))))))))
      refine aa _ rfl (fun h6 => ?_) (fun h6 => ?_)
      ·skip
       have hwx:w3[p]? = some (elt w3 (p:Int)):=bA (by omega)
       have hwp:=hwb3 (p:Int)
       have hw0:0≤elt w3 (p:Int):=by rw [hW3.wt p (by omega) (by omega)];exact Int.natCast_nonneg _
       obtain ⟨ur,hur⟩:∃ ur,us3[q]? = some ur:=⟨_,List.getElem?_eq_getElem (by omega)⟩
       have hue:elt us3 (q:Int)=ur:=by have:=bA (l:=us3) (i:=q) (by omega);rw [hur] at this;exact (Option.some.inj this).symm
       have hul:=hub3 (q:Int)
       rw [hue] at hul
       have hst:=hW3.step (p:=(p:Int)) (q:=(q:Int)) ⟨by omega,by omega⟩ ⟨by omega,by omega⟩
       rw [hue,Int.toNat_natCast,Int.toNat_natCast] at hst
       have hpk:elt pt (k:Int)=p:=by have:=bA (l:=pt) (i:=k) (by omega);rw [hp] at this;exact (Option.some.inj this).symm
       have hpy:elt pt (yn:Int)=q:=by have:=bA (l:=pt) (i:=yn) (by omega);rw [hq] at this;exact (Option.some.inj this).symm
       have hqle:=(hcl (k:Int) (by omega) (by rw [hpk];omega) (yn:Int) (by
         have e1:=bA (l:=nx.l) (i:=k) (by omega)
         rw [hlv0] at e1
         rw [gS,← Option.some.inj e1];exact List.mem_of_getElem? hy)).2
       rw [hpk,hpy] at hqle
       have hpq:p≠q:=fun e=>by rw [e] at h6;simp at h6
       have hU4:UpL (us3.set q (ur++[(p:Int)])):=by
         have:=hU3.step (q:=q) (p:=(p:Int)) (by omega) (by omega) (by omega)
         rw [hue] at this;exact this
       refine aSR (aM rfl (aM rfl ?_))
       refine aU rfl (bK 3 p el33 rfl rfl rfl rfl (by rw [List.length_map];omega)) ?_
       refine aU rfl (bl (u:=.int .i64 (elt w3 (p:Int))) 3 p 0 tk3 rfl rfl (ak hwx) rfl rfl) (aU rfl (bz rfl rfl (by omega)) ?_)
       refine aU rfl (bK 3 p el33 rfl rfl rfl rfl (by rw [List.length_map];omega)) ?_
       refine LF rfl (cY 3 p 0 tk3 rfl rfl rfl (ak hwx) rfl (.v rfl .nil) rfl (by decide) (aHK ?_))
       refine aNn ?_
       have hsetW:(eR w3).set p (jP (bd (elt w3 (p:Int))) 0 [.v (.int .i64 (elt w3 (p:Int)+1))])=eR (w3.set p (elt w3 (p:Int)+1)):=by
         show (List.map bd w3).set p _=List.map bd _
         rw [List.map_set];rfl
       rw [hsetW]
       refine gM 4 q rfl hur (fun vs v hvl hv => ?_)
       have hne:ct vs≠[]:=fun h0=>by
         have h1:=congrArg List.length h0
         rw [jg,List.length_nil] at h1
         omega
       refine dW 4 rfl hne (fun Bu cu hvo => ?_)
       have hvr:(ct vs).length=P1.length+1:=by simp [ct,hvl,hlu3]
       rw [hvr] at hvo
       subst hvo
       have hrow:(ct vs)[q]? = some [.v v]:=by simp [ct,hv]
       show awp _ _ _ _ ⟨_,_,[_,_,_,_,_,_,_]⟩
       refine az (aM rfl (aM rfl (aM rfl (aM rfl (aU rfl (eE q el201 rfl rfl (by omega) (by omega)) (aU rfl (bl (v:=.slice (some ⟨Bu,0,none⟩) (P1.length+1) cu) (u:=v) 4 q 0 tk33 rfl rfl hrow rfl rfl) (aM rfl (LT rfl (WL (zs:=[.int .i64 0]) el33 rfl rfl rfl (.more rfl (.v rfl .nil) .nil) rfl rfl (fun v21_7=>(aHN ?_)))))))))))
       refine aT rfl (bH 5 el33 rfl rfl rfl rfl (cP 7 el33 rfl (by simp)) (by first | assumption | simp) (by simp [cE];omega) (ur.length+1) (by simp [cE]) (fun v21_8 c21_8 => ?_))
       refine aHK ?_
       refine aU rfl (eE q el201 rfl rfl (by omega) (by omega)) (LF rfl (cY (v:=.slice (some ⟨Bu,0,none⟩) (P1.length+1) cu) 4 q 0 tk33 rfl rfl rfl hrow rfl (.v rfl .nil) rfl (by decide) (aHK ?_)))
       refine dJ (ca (an ?_))
       first
         | (refine pw (hp':=[Box bq 271 [nx.val,iv,lv,sv,pv,qv],aP pv 3 1 (eR pt),aP qv 33 1 (P1.map slR),aP wv 3 1 (eR (w3.set p (elt w3 (p:Int)+1))),aP (.slice (some ⟨Bu,0,none⟩) (P1.length+1) cu) 33 1 (ct (vs.set q (.slice v21_8 (ur.length+1) c21_8))),aP (.slice v21_8 (ur.length+1) c21_8) 3 1 (bF encI (ur++[(p:Int)])),eh ((inner 3 encI vs us3).set q emp),aP (.slice v21_7 1 1) 3 1 [[Go.Sy.D.v (.int .i64 p)]]]) (by rw [jh,iZ];rfl) ?_;refine fx 4 5 6 q rfl rfl rfl rfl rfl rfl hvl (by omega) ?_;show awp _ _ _ _ ⟨_,_,[_,_,_,_,_,_,_,_]⟩)
         | skip
       refine az (aU rfl (bz rfl rfl (by omega)) (aM rfl (aNn ?_)))
       refine ⟨[5,8,9,61,62,63,10,68,69,70],[2,1,0],[0,1,2,3,4],rfl,?_⟩
       exact ⟨((w3.set p (elt w3 (p:Int)+1),us3.set q (ur++[(p:Int)])),(.slice (some ⟨Bu,0,none⟩) (P1.length+1) cu,m+1)),⟨⟨⟨hst,hU4⟩,hm',fun x=>(by
         rw [nr (by omega)]
         have:=hwb3 x
         dsimp only;split<;>omega),fun x=>(by
         rw [nr (by omega)]
         have:=hub3 x
         dsimp only;split
         · rw [List.length_append,List.length_singleton];omega
         · omega)⟩,rfl⟩,by dsimp only;omega⟩
      ·skip
       refine aD (ca (an ?_))
       first
         | (refine pw (hp':=[Box bq 271 [nx.val,iv,lv,sv,pv,qv],aP pv 3 1 (eR pt),aP qv 33 1 (P1.map slR),aP wv 3 1 (eR (w3.set p (elt w3 (p:Int)+1))),aP (.slice (some ⟨Bu,0,none⟩) (P1.length+1) cu) 33 1 (ct (vs.set q (.slice v21_8 (ur.length+1) c21_8))),aP (.slice v21_8 (ur.length+1) c21_8) 3 1 (bF encI (ur++[(p:Int)])),eh ((inner 3 encI vs us3).set q emp),aP (.slice v21_7 1 1) 3 1 [[Go.Sy.D.v (.int .i64 p)]]]) (by rw [jh,iZ];rfl) ?_;refine fx 4 5 6 q rfl rfl rfl rfl rfl rfl hvl (by omega) ?_;show awp _ _ _ _ ⟨_,_,[_,_,_,_,_,_,_,_]⟩)
         | skip
       refine az (aU rfl (bz rfl rfl (by omega)) (aM rfl (aNn ?_)))
       refine ⟨[5,8,9,61,62,63,10,68,69,70],[2,1,0],[0,1,2,3,4],rfl,?_⟩
       exact ⟨((w3,us3),(uv3,m+1)),⟨⟨⟨hW3,hU3⟩,hm',fun x=>(by have:=hwb3 x;dsimp only;omega),fun x=>(by have:=hub3 x;dsimp only;omega)⟩,rfl⟩,by dsimp only;omega⟩
     ·skip
      refine aY (bb (bb (bg (ca (an (az (aU rfl (bz rfl rfl (by omega)) (aM rfl (aNn ?_)))))))))
      refine ⟨[5,8,9,61,62,63],[2,1,0],[0,1,2,3,4],rfl,?_⟩
      exact ⟨((w3,us3),(uv3,k+1)),⟨⟨⟨hW3,hU3⟩,hk',fun x=>(by have:=hwb3 x;dsimp only;omega),fun x=>(by have:=hub3 x;dsimp only;omega)⟩,rfl⟩,by dsimp only;omega⟩
    ·skip
     have hkj:k=j:=by simp at h4;omega
     subst hkj
     have hwb9:∀ x,elt w x≤10000000000000:=fun x=>by have:=hwb x;omega
     have hlw:=hW.lw
     have hlu:=hW.lu
     have hneP:∀ p∈P1,p.l≠[]:=fun p hp=>(hpok p hp).ne
     refine aY (bb (bb (bg (an (aSR (LT rfl (uZ el275 rfl (fun v24_0=>(aHN ?_)))))))))
     refine LT rfl (aS rfl rfl rfl (fun b24_1=>(aHN ?_)))
     refine aU rfl (jc (by kernel_rfl) rfl) (aA rfl (aNs (aq (fP 4 rfl (fun us' hus husl => ?_)))))
     subst hus
     refine jW [5,8,9,16] [4,3,2] [0,1,2,3,6,5] rfl ?_
     show awp _ _ _ _ ⟨[(5,true,.pointer (some ⟨bq,0,none⟩)),(8,true,wv),(9,true,us'.val),(16,true,.iface 274 (.pointer (some ⟨b24_1,0,none⟩)))],[bu (ShF bd) us'.l,ShF slR us',bu (ShF bd) P1],[Box bq 271 [nx.val,iv,lv,sv,pv,qv],aP pv 3 1 (eR pt),aP qv 33 1 (P1.map slR),aP wv 3 1 (eR w),Box b24_1 275 [.slice v24_0 0 0],aP (.slice v24_0 0 0) 33 1 (hR [])]⟩
     refine az (UO 5 rfl rfl (UL 0 tk201 rfl rfl rfl rfl (aU rfl (dQ 2 Tryz.underlying201 rfl rfl) (aM rfl (aNn (aH (aF [5,8,9,16,109,110,111] [2,1,0] [0,1,2,3,4,5] (fun (q:Value × (List (Sl Int) × Nat)) st=>(q.2.2≤P1.length∧q.2.1.Perm ((zl w q.2.2).map (pP P1)))∧st=⟨[(5,true,.pointer (some ⟨bq,0,none⟩)),(8,true,wv),(9,true,us'.val),(16,true,.iface 274 (.pointer (some ⟨b24_1,0,none⟩))),(109,true,qv),(110,true,.int .i64 (P1.map slR).length),(111,true,.int .i64 q.2.2)],[bu (ShF bd) us'.l,ShF slR us',bu (ShF bd) P1],[Box bq 271 [nx.val,iv,lv,sv,pv,qv],aP pv 3 1 (eR pt),aP qv 33 1 (P1.map slR),aP wv 3 1 (eR w),Box b24_1 275 [q.1],aP q.1 33 1 (hR q.2.1)]⟩) (fun q=>P1.length-q.2.2) rfl (⟨(.slice v24_0 0 0,([],0)),⟨Nat.zero_le _,.refl _⟩,rfl⟩) ?_)))))))
     rintro ⟨hv4,⟨H4,k4⟩⟩ st ⟨⟨hk4,hP4⟩,rfl⟩
     dsimp only at hk4 hP4 ⊢
     have hsub4:∀ q∈H4,q∈P1:=fun q hq=>by
       obtain ⟨p,hp,rfl⟩:=List.mem_map.1 (hP4.mem_iff.1 hq)
       have:=(u9.1 hp).1
       exact iI (by omega)
     have hlen4:H4.length≤100000:=by
       rw [hP4.length_eq,List.length_map]
       unfold zl
       rw [List.length_map]
       have:=List.length_filter_le (fun i:Nat=>decide (elt w ((i:Int)+1)=0)) (List.range k4)
       rw [List.length_range] at this;omega
     refine aSR (aU rfl (cf rfl rfl) (aNs ?_))
     refine aa _ rfl (fun h7 => ?_) (fun h7 => ?_)
     ·skip
      have hk4':k4<P1.length:=by simp at h7;omega
      obtain ⟨pp,hpp4⟩:∃ pp,P1[k4]? = some pp:=⟨_,List.getElem?_eq_getElem hk4'⟩
      have hppP:pP P1 ((k4:Int)+1)=pp:=by
        have:=ot (P:=P1) (p:=(k4:Int)+1) ⟨by omega,by omega⟩
        rw [show ((k4:Int)+1-1).toNat=k4 by omega,hpp4] at this
        exact (Option.some.inj this).symm
      have hw7:w[k4+1]? = some (elt w ((k4:Int)+1)):=by
        have:=bA (l:=w) (i:=k4+1) (by omega)
        rw [this];rfl
      refine aD (an (aq (aH (aSR (aM rfl ?_)))))
      refine aU rfl (bK 2 k4 el201 rfl rfl rfl rfl (by rw [List.length_map];exact hk4')) ?_
      refine aU rfl (bl (u:=pp.val) 2 k4 0 tk33 rfl rfl (ak hpp4) rfl rfl) (aA rfl (aA rfl (aNn (aSR (aM rfl (aM rfl (aU rfl (bz rfl rfl (by omega)) ?_)))))))
      refine aU rfl (bK 3 (k4+1) el33 rfl rfl rfl (by omega) (by rw [List.length_map];omega)) ?_
      refine aU rfl (bl (u:=.int .i64 (elt w ((k4:Int)+1))) 3 (k4+1) 0 tk3 rfl rfl (ak hw7) (by simp) rfl) ?_
      refine aU rfl (dw rfl rfl) (aNn ?_)
      refine aa _ rfl (fun h8 => ?_) (fun h8 => ?_)
      ·skip
       have hz8:elt w ((k4:Int)+1)=0:=by simpa using h8
       refine az (aM rfl (aM rfl (aU rfl (jc (by kernel_rfl) rfl) ?_)))
       refine LF rfl (EC [0] [4,5] rfl (pF b24_1 hv4 P1 H4 pp hlen4 hneP (fun q hq=>(List.mem_append.1 hq).elim (hsub4 q) fun h=>by rw [List.mem_singleton.1 h];exact List.mem_of_getElem? hpp4)) ?_)
       rintro _ _ _ ⟨rfl,hv5,H5,hP5,rfl⟩
       refine aST ?_
       refine dJ (ca (an (az (aU rfl (bz rfl rfl (by omega)) (aM rfl (aNn ?_))))))
       refine ⟨[5,8,9,16,109,110,111],[2,1,0],[0,1,2,3,4,5],rfl,?_⟩
       exact ⟨(hv5,(H5,k4+1)),⟨⟨hk4',hP5.trans (by dsimp only;rw [vR,if_pos hz8,List.map_append,List.map_singleton,hppP];exact hP4.append_right _)⟩,rfl⟩,by dsimp only;omega⟩
      ·skip
       have hz8:¬ elt w ((k4:Int)+1)=0:=by simpa using h8
       refine aD (ca (an (az (aU rfl (bz rfl rfl (by omega)) (aM rfl (aNn ?_))))))
       refine ⟨[5,8,9,16,109,110,111],[2,1,0],[0,1,2,3,4,5],rfl,?_⟩
       exact ⟨(hv4,(H4,k4+1)),⟨⟨hk4',by dsimp only;rw [vR,if_neg hz8];exact hP4⟩,rfl⟩,by dsimp only;omega⟩
     ·skip
      have hkM:k4=P1.length:=by simp at h7;omega
      subst hkM
      refine aY (bb (bb (bg (an (aq (cV 33 1 ?_))))))
      show awp _ _ _ _ ⟨_,_,[_,_,_,_,_,_,_]⟩
      refine az (aA rfl (aNs (aH (aF [5,8,9,16,19] [2,1,0] [0,1,2,3,4,5,6] (fun (q:(Value × Value) × ((List Int × List Int) × (List Int × List (Sl Int)))) st=>(KI P1.length us q.2.1.1 q.2.1.2 q.2.2.1 []∧q.2.2.2.Perm (q.2.2.1.map (pP P1))∧∀ x,elt q.2.1.1 x≤10000000000000)∧st=⟨[(5,true,.pointer (some ⟨bq,0,none⟩)),(8,true,wv),(9,true,us'.val),(16,true,.iface 274 (.pointer (some ⟨b24_1,0,none⟩))),(19,true,q.1.1)],[bu (ShF bd) us'.l,ShF slR us',bu (ShF bd) P1],[Box bq 271 [nx.val,iv,lv,sv,pv,qv],aP pv 3 1 (eR pt),aP qv 33 1 (P1.map slR),aP wv 3 1 (eR q.2.1.1),Box b24_1 275 [q.1.2],aP q.1.2 33 1 (hR q.2.2.2),aP q.1.1 33 1 ((q.2.1.2.map (pP P1)).map slR)]⟩) (fun q=>P1.length-q.2.1.2.length) rfl (⟨((.slice none 0 0,hv4),((w,[]),(zl w P1.length,H4))),⟨KI.start hW (aan _ _) (fun p hp=>(u9.1 hp).1) (fun p h1 h2=>u9.trans ⟨fun h=>h.2,fun h=>⟨⟨h1,h2⟩,h⟩⟩),hP4,hwb9⟩,rfl⟩) ?_))))
      rintro ⟨⟨ov,hv5⟩,⟨⟨w5,D5⟩,⟨Hn5,H5⟩⟩⟩ st ⟨⟨hK5,hP5,hwb5⟩,rfl⟩
      dsimp only at hK5 hP5 hwb5 ⊢
      have hD5:=hK5.len
      have hsub5:∀ q∈H5,q∈P1:=fun q hq=>by
        obtain ⟨p,hp,rfl⟩:=List.mem_map.1 (hP5.mem_iff.1 hq)
        exact iI (hK5.rg p (List.mem_append_right _ hp))
      have hlen5:H5.length≤100000:=by
        rw [hP5.length_eq,List.length_map]
        have:=KI.lenH hK5;omega
      refine aq (aSR (aM rfl (LF rfl (ff (f:=289) [] [5] (by kernel_rfl) rfl (qZ 4 re oJ tk275 rfl rfl) rfl rfl rfl rfl (m3 hv5 H5) ?_))))
      rintro _ _ _ ⟨rfl,rfl,rfl⟩
      refine aST (aU rfl (eH rfl rfl) (aNn ?_))
      refine aa _ rfl (fun h9 => ?_) (fun h9 => ?_)
      ·skip
       have hne5:H5≠[]:=fun h0=>by rw [h0] at h9;simp at h9
       refine aD (an (aH (aSR (aM rfl (LF rfl (EC [0] [4,5] rfl (yI b24_1 hv5 P1 H5 hlen5 hne5 hneP hsub5) ?_))))))
       rintro _ _ _ ⟨rfl,hv6,H6,pp,hP6,rfl,rfl⟩
       refine aST ?_
       refine aU rfl (sO (by kernel_rfl) rfl) (aA rfl (aNs ?_))
       obtain ⟨qm,hqn,hqp⟩:∃ qm:Nat,(qm:Int)∈Hn5∧pP P1 (qm:Int)=pp:=by
         obtain ⟨qn,h1,h2⟩:=List.mem_map.1 (hP5.mem_iff.1 (hP6.mem_iff.1 List.mem_cons_self))
         have:=hK5.rg qn (List.mem_append_right _ h1)
         obtain ⟨qm,rfl⟩:=Int.eq_ofNat_of_zero_le (show 0≤qn by omega)
         exact ⟨qm,h1,h2⟩
       have hqr:=hK5.rg (qm:Int) (List.mem_append_right _ hqn)
       have hpe:=List.perm_cons_erase hqn
       have hK6:=hK5.perm hpe.symm
       have hH6:H6.Perm ((Hn5.erase (qm:Int)).map (pP P1)):=by
         have h1:=(hP6.trans hP5).trans (hpe.map (pP P1))
         rw [List.map_cons,hqp] at h1
         exact h1.cons_inv
       have hppm:pp∈P1:=hqp ▸ iI hqr
       obtain ⟨x0,hx0⟩:∃ x0,pp.l[0]? = some x0:=⟨_,List.getElem?_eq_getElem (List.length_pos_iff.2 (hneP pp hppm))⟩
       have hpg:P1[qm-1]? = some pp:=by
         have:=ot hqr
         rw [hqp,show ((qm:Int)-1).toNat=qm-1 by omega] at this;exact this
       have hof:=hpl.of (qm-1) pp.l (by rw [List.getElem?_map,hpg];rfl) x0 (List.mem_of_getElem? hx0)
       obtain ⟨xn,rfl⟩:=Int.eq_ofNat_of_zero_le hof.1.1
       have hpx:pt[xn]? = some ((qm:Nat):Int):=by
         have:=bA (l:=pt) (i:=xn) (by omega)
         rw [hof.2] at this
         rw [this];congr 1;omega
       have husL:us'.l.length=P1.length+1:=by rw [← hlu,← husl,List.length_map]
       obtain ⟨lu,hlu5⟩:∃ lu,us'.l[qm]? = some lu:=⟨_,List.getElem?_eq_getElem (by omega)⟩
       have hlue:elt us (qm:Int)=lu.l:=by
         have:=bA (l:=us) (i:=qm) (by omega)
         rw [← husl,List.getElem?_map,hlu5] at this
         rw [husl] at this
         exact (Option.some.inj this).symm
       refine az (aM rfl (aM rfl (LT rfl (WL (zs:=[.slice none 0 0]) el201 rfl rfl rfl (.more rfl (.v rfl .nil) .nil) rfl rfl (fun v34_2=>(aHN ?_))))))
       refine aT rfl (bH 6 el201 rfl rfl rfl rfl (cP 7 el201 rfl (by simp)) (by first | assumption | simp) (by simp;omega) (D5.length+1) (by simp) (fun v34_3 c34_3 => ?_))
       refine aHK ?_
       refine aA rfl (aNs ?_)
       refine pw (hp':=[_,_,_,_,_,_,aP (.slice v34_3 (D5.length+1) c34_3) 33 1 (((D5++[(qm:Int)]).map (pP P1)).map slR),_]) (by rw [List.map_append,List.map_append];simp only [List.map_cons,List.map_nil,hqp];rfl) ?_
       refine DR [] 12 (VM 0 rfl rfl (VO 1 4 rfl rfl rfl (VL 2 0 tk33 rfl rfl rfl rfl rfl (VM 3 rfl rfl (dz 4 rfl (by kernel_rfl) true rfl rfl (fun _=>ai Tryz.underlying33 tk3 rfl ((Ent.allm (f:=ShF bd) (.of (ax 2 rfl)) hppm)) rfl (ak hx0) rfl rfl) (fun h=>absurd h (by decide)) (fun ⟨b35_4,o35_4⟩=>(VT 5 0 tk3 0 rfl rfl rfl rfl rfl rfl ?_)))))))
       refine bV 6 rfl rfl (bK 1 xn el33 rfl rfl rfl rfl (by rw [List.length_map];omega)) ?_
       refine bV 7 rfl rfl (bl (u:=.int .i64 (qm:Int)) 1 xn 0 tk3 rfl rfl (ak hpx) rfl rfl) (XI 8 Tryz.underlying201 tk33 2 rfl rfl rfl rfl rfl rfl (ak hlu5) rfl rfl (fun ⟨b35_8,o35_8⟩=>(VT 9 0 tk33 0 rfl rfl rfl rfl rfl rfl (bV 10 rfl rfl (bk Tryz.underlying33 rfl) (VM 11 rfl rfl (BN (an (aH (aF [5,8,9,16,19,146,147,148] [2,1,0] [0,1,2,3,4,5,6] (fun (q:Value × ((List Int × Nat) × (List Int × List (Sl Int)))) st=>(KI P1.length us q.2.1.1 D5 ((qm:Int)::q.2.2.1) ((elt us (qm:Int)).take q.2.1.2)∧q.2.1.2≤lu.l.length∧q.2.2.2.Perm (q.2.2.1.map (pP P1))∧∀ x,elt q.2.1.1 x≤10000000000000)∧st=⟨[(5,true,.pointer (some ⟨bq,0,none⟩)),(8,true,wv),(9,true,us'.val),(16,true,.iface 274 (.pointer (some ⟨b24_1,0,none⟩))),(19,true,.slice v34_3 (D5.length+1) c34_3),(146,true,lu.val),(147,true,.int .i64 lu.l.length),(148,true,.int .i64 q.2.1.2)],[bu (ShF bd) us'.l,ShF slR us',bu (ShF bd) P1],[Box bq 271 [nx.val,iv,lv,sv,pv,qv],aP pv 3 1 (eR pt),aP qv 33 1 (P1.map slR),aP wv 3 1 (eR q.2.1.1),Box b24_1 275 [q.1],aP q.1 33 1 (hR q.2.2.2),aP (.slice v34_3 (D5.length+1) c34_3) 33 1 (((D5++[(qm:Int)]).map (pP P1)).map slR)]⟩) (fun q=>lu.l.length-q.2.1.2) rfl (⟨(hv6,((w5,0),(Hn5.erase (qm:Int),H6))),⟨hK6,Nat.zero_le _,hH6,hwb5⟩,rfl⟩) ?_)))))))))
       rintro ⟨hv7,⟨⟨w7,jj⟩,⟨Hn7,H7⟩⟩⟩ st ⟨⟨hK7,hjj,hP7,hwb7⟩,rfl⟩
       dsimp only at hK7 hjj hP7 hwb7 ⊢
       have hlw7:=hK7.lw
       have hsub7:∀ q∈H7,q∈P1:=fun q hq=>by
         obtain ⟨p,hp,rfl⟩:=List.mem_map.1 (hP7.mem_iff.1 hq)
         exact iI (hK7.rg p (List.mem_append_right _ (List.mem_cons_of_mem _ hp)))
       refine aSR (aU rfl (cf rfl rfl) (aNs ?_))
       refine aa _ rfl (fun h10 => ?_) (fun h10 => ?_)
       ·skip
        have hjj':jj<lu.l.length:=by simp at h10;omega
        obtain ⟨y6,hy6⟩:∃ y6,lu.l[jj]? = some y6:=⟨_,List.getElem?_eq_getElem hjj'⟩
        have hy6':(elt us (qm:Int))[jj]? = some y6:=by rw [hlue];exact hy6
        obtain ⟨hyr,hge,hnm⟩:=hK7.pos hy6'
        have hK8:=hK7.step hy6'
        have hwb8:=hwb7 y6
        obtain ⟨yn6,rfl⟩:=Int.eq_ofNat_of_zero_le (show 0≤y6 by omega)
        rw [Int.toNat_natCast] at hK8
        have hwy:w7[yn6]? = some (elt w7 (yn6:Int)):=bA (by omega)
        have hget:(w7.set yn6 (elt w7 (yn6:Int)-1))[yn6]? = some (elt w7 (yn6:Int)-1):=by rw [List.getElem?_set_self (by omega)]
        have hwb8':∀ x,elt (w7.set yn6 (elt w7 (yn6:Int)-1)) x≤10000000000000:=fun x=>by
          rw [nr (by omega)]
          have:=hwb7 x
          split<;>omega
        have hlen7:H7.length≤100000:=by
          rw [hP7.length_eq,List.length_map]
          have:=KI.lenH hK7;rw [List.length_cons] at this;omega
        refine aD (an (aq (aH (aq (aO (Ent.all (f:=ShF bd) (.of (ax 0 rfl)) hlu5) (fun hlulen=>(az (bI true rfl rfl (fun _=>ai Tryz.underlying33 tk3 rfl ((Ent.all (f:=ShF bd) (.of (ax 0 rfl)) hlu5)) rfl (ak hy6) rfl rfl) (fun h=>absurd h (by decide)) (fun ⟨b37_0,o37_0⟩=>(US 0 tk3 0 rfl rfl rfl rfl rfl (aA rfl (aNn (aSR (aM rfl (aM rfl ?_)))))))))))))))
        refine aU rfl (bK 3 yn6 el33 rfl rfl rfl rfl (by rw [List.length_map];omega)) ?_
        refine aU rfl (bl (u:=.int .i64 (elt w7 (yn6:Int))) 3 yn6 0 tk3 rfl rfl (ak hwy) rfl rfl) (aU rfl (lB rfl rfl (by omega)) ?_)
        refine aU rfl (bK 3 yn6 el33 rfl rfl rfl rfl (by rw [List.length_map];omega)) ?_
        refine LF rfl (cY 3 yn6 0 tk3 rfl rfl rfl (ak hwy) rfl (.v rfl .nil) rfl (by decide) (aHK ?_))
        refine aNs ?_
        have hsetW:(eR w7).set yn6 (jP (bd (elt w7 (yn6:Int))) 0 [.v (.int .i64 (elt w7 (yn6:Int)-1))])=eR (w7.set yn6 (elt w7 (yn6:Int)-1)):=by
          show (List.map bd w7).set yn6 _=List.map bd _
          rw [List.map_set];rfl
        rw [hsetW]
        refine az (aM rfl (aM rfl ?_))
        refine aU rfl (bK 3 yn6 el33 rfl rfl rfl rfl (by rw [List.length_map,List.length_set];omega)) ?_
        refine aU rfl (bl (u:=.int .i64 (elt w7 (yn6:Int)-1)) 3 yn6 0 tk3 rfl rfl (ak hget) rfl rfl) (aU rfl (dw rfl rfl) (aNn ?_))
        refine aa _ rfl (fun h11 => ?_) (fun h11 => ?_)
        ·skip
         have hz11:elt w7 (yn6:Int)-1=0:=by simpa using h11
         rw [if_pos hz11] at hK8
         have hpy:P1[yn6-1]? = some (pP P1 (yn6:Int)):=by
           have:=ot hyr
           rw [show ((yn6:Int)-1).toNat=yn6-1 by omega] at this;exact this
         refine az (aM rfl (UO 5 rfl rfl (UL 0 tk201 rfl rfl rfl rfl (aM rfl (aU rfl (lB rfl rfl (by omega)) ?_)))))
         refine aU rfl (bK 2 (yn6-1) el201 rfl rfl rfl (by omega) (by rw [List.length_map];omega)) ?_
         refine aU rfl (bl (u:=(pP P1 (yn6:Int)).val) 2 (yn6-1) 0 tk33 rfl rfl (ak hpy) (by simp) rfl) ?_
         refine aU rfl (jc (by kernel_rfl) rfl) ?_
         refine LF rfl (EC [0] [4,5] rfl (pF b24_1 hv7 P1 H7 (pP P1 (yn6:Int)) hlen7 hneP (fun q hq=>(List.mem_append.1 hq).elim (hsub7 q) fun h=>by rw [List.mem_singleton.1 h];exact iI hyr)) ?_)
         rintro _ _ _ ⟨rfl,hv8,H8,hP8,rfl⟩
         refine aST ?_
         refine dJ (ca (an (az (aU rfl (bz rfl rfl (by omega)) (aM rfl (aNn ?_))))))
         refine ⟨[5,8,9,16,19,146,147,148],[2,1,0],[0,1,2,3,4,5,6],rfl,?_⟩
         exact ⟨(hv8,((w7.set yn6 (elt w7 (yn6:Int)-1),jj+1),((yn6:Int)::Hn7,H8))),⟨⟨hK8,hjj',hP8.trans ((List.perm_append_singleton _ _).trans (hP7.cons _)),hwb8'⟩,rfl⟩,by dsimp only;omega⟩
        ·skip
         have hz11:¬ elt w7 (yn6:Int)-1=0:=by simpa using h11
         rw [if_neg hz11] at hK8
         refine aD (ca (an (az (aU rfl (bz rfl rfl (by omega)) (aM rfl (aNn ?_))))))
         refine ⟨[5,8,9,16,19,146,147,148],[2,1,0],[0,1,2,3,4,5,6],rfl,?_⟩
         exact ⟨(hv7,((w7.set yn6 (elt w7 (yn6:Int)-1),jj+1),(Hn7,H7))),⟨⟨hK8,hjj',hP7,hwb8'⟩,rfl⟩,by dsimp only;omega⟩
       ·skip
        have hKd:=hK7.done (by rw [hlue];simp at h10;omega)
        have hKl:=hKd.len
        rw [List.length_append,List.length_singleton] at hKl
        refine aY (bb (bb (bg (ca (an ?_)))))
        refine ⟨[5,8,9,16,19],[2,1,0],[0,1,2,3,4,5,6],rfl,?_⟩
        exact ⟨((.slice v34_3 (D5.length+1) c34_3,hv7),((w7,D5++[(qm:Int)]),(Hn7,H7))),⟨⟨hKd,hP7,hwb7⟩,rfl⟩,by dsimp only;rw [List.length_append,List.length_singleton];omega⟩
      ·skip
       refine aY (bb (bb (bg (an (aq (cB 6 rfl (fun w S F hh=>df hh) (fun hov => ?_)))))))
       obtain ⟨oad,ocp,rfl⟩:=hov
       rw [List.length_map]
       refine iT 6 rfl ?_
       refine jV (bu (ShF bd) (D5.map (pP P1))) (fun w S h p hp=>by
         obtain ⟨q,hq,rfl⟩:=List.mem_map.1 hp
         exact h (bu (ShF bd) P1) (ax 3 rfl) _ (iI (hK5.rg q (List.mem_append_left _ hq)))) ?_
       refine az (aM rfl (aA rfl (aNn (ae ?_))))
       refine bB [3,4] [] rfl Tryz.results129 rfl ?_ (.inr rfl)
       exact ⟨rfl,⟨oad,ocp,D5.map (pP P1)⟩,rfl,fun p hp=>(by
         obtain ⟨q,hq,rfl⟩:=List.mem_map.1 hp
         exact hpok _ (iI (hK5.rg q (List.mem_append_left _ hq)))),hpx.mono (fun p hp=>(by
         rw [List.map_map] at hp
         obtain ⟨q,hq,rfl⟩:=List.mem_map.1 hp
         exact List.mem_map_of_mem (iI (hK5.rg q (List.mem_append_left _ hq))))) (fun p hp=>(by
         have hz5:H5=[]:=List.length_eq_zero_iff.1 (by simp at h9;simpa using h9)
         rw [hz5] at hP5
         have hzn:Hn5=[]:=List.map_eq_nil_iff.1 (List.nil_perm.1 hP5)
         rw [hzn] at hK5
         obtain ⟨x,hx,rfl⟩:=List.mem_map.1 hp
         obtain ⟨k9,hk9,e9⟩:=List.mem_iff_getElem.1 hx
         have hin:=hK5.all hU ((k9:Int)+1) (by omega) (by omega)
         rw [List.map_map]
         refine List.mem_map.2 ⟨(k9:Int)+1,hin,?_⟩
         have:=ot (P:=P1) (p:=(k9:Int)+1) ⟨by omega,by omega⟩
         rw [show ((k9:Int)+1-1).toNat=k9 by omega,List.getElem?_eq_getElem hk9] at this
         show (pP P1 ((k9:Int)+1)).l=x.l
         rw [← Option.some.inj this,e9])),rfl⟩
end Go.Proofs.YtgkbbdgklpabpaaGreatDoor

