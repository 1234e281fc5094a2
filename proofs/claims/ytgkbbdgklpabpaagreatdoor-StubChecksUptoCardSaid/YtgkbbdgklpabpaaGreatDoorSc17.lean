/- Parts of the proof, in build order. No condition. -/
import Derived.Test.YtgkbbdgklpabpaaGreatDoorSc16
import Derived.Test.YtgkbbdgklpabpaaGreatDoorSc15
import Derived.Test.YtgkbbdgklpabpaaGreatDoorSc07
import Derived.Test.YtgkbbdgklpabpaaGreatDoorSc05
import Derived.Test.YtgkbbdgklpabpaaGreatDoorSc09
set_option linter.unusedSimpArgs false
set_option linter.unusedVariables false
set_option maxHeartbeats 20000000
set_option maxRecDepth 20000
namespace Go.Lv
open Go.Sy
theorem nt{N:Nat}{nx:List (List Int)}{r:Int}{s:TS}(h:TI N nx r s){w:Int}(hw:0≤w∧w<N)(x:Int)(hx:0≤x)(he:elt s.idx x≠0):elt (cg s w).idx x≠0:=by
 have hli:=h.li
 have hc:=h.cnt0
 show elt (s.idx.set w.toNat (s.cnt+1)) x≠0
 rw [dq hw.1 (by omega) hx]
 split
 · omega
 · exact he
theorem y5{N:Nat}{nx:List (List Int)}{r:Int}{s:TS}(h:TI N nx r s){w:Int}(hw:0≤w∧w<N):elt (cg s w).idx w≠0:=by
 have hli:=h.li
 have hc:=h.cnt0
 show elt (s.idx.set w.toNat (s.cnt+1)) w≠0
 rw [dq hw.1 (by omega) hw.1,if_pos rfl];omega
theorem aab{N:Nat}{nx:List (List Int)}{r:Int}{s:TS}(h:TI N nx r s):s.stk.length≤N:=by
 have h3:=cW (fun _=>1) (s.stk.map Int.toNat) (List.range N) (dC h.nd fun q hq=>((h.stk q).1 hq).1.1) (fun q hq=>by
   obtain ⟨x,hx,e⟩:=List.mem_map.1 hq
   have:=((h.stk x).1 hx).1
   exact List.mem_range.2 (by omega))
 have e:∀ l:List Nat,(l.map fun _=>1).sum=l.length:=fun l=>by induction l with
   | nil=>rfl
   | cons a l ih=>rw [List.map_cons,List.sum_cons,ih,List.length_cons];omega
 rw [e,e,List.length_map,List.length_range] at h3
 exact h3
theorem PL.count{N:Nat}{part:List Int}{ps:List (List Int)}(h:PL N part ps):ps.length≤N:=by
 have hx:∀ (i:Nat) (p:List Int),ps[i]? = some p→(0≤p.headD 0∧p.headD 0<N)∧elt part (p.headD 0)=(i:Int)+1:=fun i p hp=>h.of i p hp _ (by
   obtain ⟨a,l,rfl⟩:=List.exists_cons_of_ne_nil (h.ne i p hp).1
   exact List.mem_cons_self ..)
 have h3:=cW (fun _=>1) (ps.map fun p=>(p.headD 0).toNat) (List.range N) (List.pairwise_iff_getElem.2 fun i j hi hj hij e=>by
   rw [List.length_map] at hi hj
   have h1:=hx i _ (List.getElem?_eq_getElem hi)
   have h2:=hx j _ (List.getElem?_eq_getElem hj)
   rw [List.getElem_map,List.getElem_map] at e
   have e2:(ps[i]).headD 0=(ps[j]).headD 0:=by have:=h1.1;have:=h2.1;omega
   have h4:=h1.2
   rw [e2,h2.2] at h4
   omega) (fun q hq=>by
   obtain ⟨p,hp,e⟩:=List.mem_map.1 hq
   obtain ⟨i,hi,rfl⟩:=List.mem_iff_getElem.1 hp
   have:=(hx i _ (List.getElem?_eq_getElem hi)).1
   exact List.mem_range.2 (by omega))
 have e:∀ l:List Nat,(l.map fun _=>1).sum=l.length:=fun l=>by induction l with
   | nil=>rfl
   | cons a l ih=>rw [List.map_cons,List.sum_cons,ih,List.length_cons];omega
 rw [e,e,List.length_map,List.length_range] at h3
 exact h3
theorem ym{N:Nat}{nx:List (List Int)}{r:Int}{s:TS}(h:TI N nx r s):s.calls.length≤N:=by
 have h1:=h.sub.length_le
 rw [List.length_map] at h1
 exact Nat.le_trans h1 (aab h)
end Go.Lv
namespace Go.Proofs.YtgkbbdgklpabpaaGreatDoor
open Go.RowKit Go.Lp Go.Sy Go.Lv
open Go.Proofs.Tryz
attribute [local irreducible] aL aB awp aC fwp Quiet
abbrev cR(c:Int × Int):List D:=[.v (.int .i64 c.1),.v (.int .i64 c.2)]
abbrev vp(bf bc:Nat)(nx iv lv sv pv qv cv:Value)(s:TS)(P:List (Sl Int)):List Res :=
 [Box bf 271 [nx,iv,lv,sv,pv,qv],aP iv 3 1 (eR s.idx),aP lv 3 1 (eR s.low),aP sv 3 1 (eR s.stk),aP pv 3 1 (eR s.part),aP qv 33 1 (P.map slR),Box bc 3 [.int .i64 s.cnt],aP cv 289 2 (s.calls.map cR)]
abbrev nL(nx:Sl (Sl Int)):List (List Int):=nx.l.map (·.l)
theorem gS(nx:Sl (Sl Int))(v:Int):elt (nL nx) v=(elt nx.l v).l:=by
 unfold elt
 rw [List.getD_eq_getElem?_getD,List.getD_eq_getElem?_getD,List.getElem?_map]
 cases nx.l[v.toNat]? <;> rfl
structure FI (N:Nat) (nx:Sl (Sl Int)) (r:Int) (s0 s:TS) (P:List (Sl Int)):Prop where
 ti:TI N (nL nx) r s
 np:s.np=P.length
 pl:PL N s.part (P.map (·.l))
 mono:∀ v:Int,0≤v→v<N→elt s0.idx v≠0→elt s.idx v≠0
 me:elt s.idx r≠0
 nple:P.length≤N
 tj:TJ (nL nx) s
 pc:PC N s.part (P.map (·.l))
set_option maxHeartbeats 20000000 in
theorem yC(N:Nat)(hN:N≤100000)(nx:Sl (Sl Int))(hnl:nx.l.length=N)(hnr:∀ l∈nx.l,∀ w∈l.l,0≤w∧w<N)(bf bc:Nat)(iv lv sv pv qv:Value)(s:TS)(P:List (Sl Int))(r:Nat)(hr:r<N)
   (hs:TI N (nL nx) r s) (hc:s.calls=[]) (hk:s.stk=[]) (h0:elt s.idx (r:Int)=0) (hP:s.np=P.length) (hPN:P.length≤N) (hPL:PL N s.part (P.map (·.l))) (hJ:TJ (nL nx) s) (hPC:PC N s.part (P.map (·.l))) :
   Con Tryz.prog 196 [.pointer (some ⟨bf,0,none⟩),.int .i64 r,.pointer (some ⟨bc,0,none⟩)] [ShF slR nx,bu (ShF bd) nx.l,bu (ShF bd) P] (wY bf bc nx.val iv lv sv pv qv s P)
     fun _ ps hp=>∃ (s':TS) (P':List (Sl Int)) (sv' qv':Value),FI N nx r s s' P'∧s'.calls=[]∧s'.stk=[]∧ps=[bu (ShF bd) P']∧hp=wY bf bc nx.val iv lv sv' pv qv' s' P':=by
 have hrr:0≤(r:Int)∧(r:Int)<N:=by omega
 have hcn:=hs.cnt0
 have hst0:=hs.enter hrr h0 (.inr ⟨hk,rfl⟩)
 have hnrL:∀ v w,w∈elt (nL nx) v→0≤w∧w<N:=fun v w hw=>by
   rw [gS] at hw
   unfold elt at hw
   rw [List.getD_eq_getElem?_getD] at hw
   cases hx:nx.l[v.toNat]? with
   | none=>rw [hx] at hw;cases hw
   | some l=>rw [hx] at hw;exact hnr l (List.mem_of_getElem? hx) w hw
 have hJ0:=hJ.enter hs hnrL hrr h0 (.inl hk)
 refine EN3 Tryz.func196 rfl (aSR (LT rfl (aS rfl rfl rfl (fun b0_0=>(aHN ?_)))))
 refine LT rfl (aS rfl rfl rfl (fun b0_1=>(aHN ?_)))
 refine aNs (aZ 7 rfl rfl (aZ 8 rfl rfl ?_))
 show awp _ _ _ _ ⟨_,[At b0_1 0 [.v (.pointer (some ⟨bc,0,none⟩))],At b0_0 0 [.v (.pointer (some ⟨bf,0,none⟩))],_,_,_],[_,_,_,_,_,_,_,emp,emp]⟩
 refine az (aU rfl (cA (l:=[.tmp 5,.tmp 3]) rfl) (go 0 [0,0,0] ?_))
 refine LF rfl (gh [4,3] [0,1,2,3,4,5,6] (by kernel_rfl) rfl rfl rfl rfl rfl (pE bf bc b0_1 b0_0 nx.val iv lv sv pv qv s P r (by rw [hs.li];exact hr) (by rw [hs.ll];exact hr) ⟨hcn.1,by omega⟩ (by rw [hk];exact Nat.zero_le _)) ?_)
 rintro _ _ _ ⟨rfl,rfl,sv1,rfl⟩
 refine aST ?_
 refine LT rfl (WL (zs:=[.int .i64 0,.int .i64 0]) el291 rfl rfl rfl (.more rfl (.v rfl (.v rfl .nil)) .nil) rfl rfl (fun v2_3=>(aHN ?_)))
 refine go 3 [0] ?_
 refine aF [3,6,7] [4,3,2,1,0] [0,1,2,3,4,5,6,9] (fun (q:(Value × Value × Value) × (TS × List (Sl Int))) st=>(FI N nx r s q.2.1 q.2.2∧(q.2.1.calls=[]→q.2.1.stk=[]))∧st=⟨[(3,true,.pointer (some ⟨b0_0,0,none⟩)),(6,true,.func (.func 232) #[] #[.pointer (some ⟨b0_1,0,none⟩),.pointer (some ⟨b0_0,0,none⟩)]),(7,true,q.1.1)],[At b0_1 0 [.v (.pointer (some ⟨bc,0,none⟩))],At b0_0 0 [.v (.pointer (some ⟨bf,0,none⟩))],ShF slR nx,bu (ShF bd) nx.l,bu (ShF bd) q.2.2],vp bf bc nx.val iv lv q.1.2.1 pv q.1.2.2 q.1.1 q.2.1 q.2.2⟩) (fun q=>tmu N (nL nx) q.2.1) rfl (⟨((_,sv1,qv),(cg s r,P)),⟨⟨hst0,hP,hPL,fun v h1 h2 h3=>nt hs hrr v h1 h3,y5 hs hrr,hPN,hJ0,hPC⟩,fun h=>by simp [cg] at h⟩,by simp only [cg,hc];rfl⟩) ?_
 rintro ⟨⟨cv,sv1,qv1⟩,s1,P1⟩ st ⟨⟨hI,hE⟩,rfl⟩
 dsimp only at hI hE ⊢
 have hT:=hI.ti
 have hcle:=ym hT
 have hsle:=aab hT
 have hnp:=hI.nple
 refine go 0 [0] ?_
 refine aU rfl (dQ 7 Tryz.underlying291 rfl rfl) (go 2 [0] ?_)
 refine aa _ rfl (fun h1 => ?_) (fun h1 => ?_)
 ·skip
  obtain ⟨cs,v,i,hcs⟩:∃ cs v i,s1.calls=cs++[(v,i)]:=by
    rcases List.eq_nil_or_concat s1.calls with h | ⟨cs,c,h⟩
    · rw [h] at h1;simp at h1
    · exact ⟨cs,c.1,c.2,by simpa using h⟩
  obtain ⟨hTp,hvs,hlast⟩:=hT.pop hcs
  have hvr:=((hT.stk v).1 hvs).1
  obtain ⟨v0,rfl⟩:=Int.eq_ofNat_of_zero_le hvr.1
  have hci:=hT.ci ((v0:Int),i) (by rw [hcs];simp)
  dsimp only at hci
  rw [gS] at hci
  have hcl:(s1.calls.map cR).length=cs.length+1:=by rw [hcs];simp
  have hrow:(s1.calls.map cR)[cs.length]? = some (cR ((v0:Int),i)):=by rw [hcs];simp
  have hnv:nx.l[v0]? = some (elt nx.l (v0:Int)):=bA (by omega)
  rw [List.length_map] at hcl
  refine aO (Ent.all (f:=ShF bd) (.of (ax 3 rfl)) hnv) (fun hln=>(aD (an (aH (aq ?_)))))
  refine iS 7 rfl (fun h0=>by rw [hcs] at h0;simp at h0) (fun Bc ccp hvc hcc => ?_)
  rw [List.length_map,hcl] at hvc hcc
  subst hvc
  have hcl2:(s1.calls.map cR).length=cs.length+1:=by rw [List.length_map,hcl]
  refine go 0 [0,0] ?_
  refine aU rfl (dQ 7 Tryz.underlying291 rfl rfl) (go 0 [0] ?_)
  refine aU rfl (eE cs.length el291 rfl rfl (by omega) (by omega)) (go 4 [0] ?_)
  refine DR [] 16 (go 0 [0,0,2] ?_)
  refine bV 3 rfl rfl (bl (v:=.slice (some ⟨Bc,0,none⟩) (cs.length+1) ccp) (u:=.int .i64 i) 7 cs.length 1 tk3 rfl rfl hrow rfl rfl) (go 0 [8,0,0,0,0,0,0] ?_)
  refine bV 11 rfl rfl (bl (v:=.slice (some ⟨Bc,0,none⟩) (cs.length+1) ccp) (u:=.int .i64 (v0:Int)) 7 cs.length 0 tk3 rfl rfl hrow rfl rfl) (XI 12 Tryz.underlying201 tk33 2 rfl rfl rfl rfl rfl rfl (ak hnv) rfl rfl (fun ⟨b5_12,o5_12⟩=>(go 2 [4,6,0] ?_)))
  refine aa _ rfl (fun h2 => ?_) (fun h2 => ?_)
  ·skip
   have hi2:i<((elt nx.l (v0:Int)).l.length:Int):=by simpa using h2
   obtain ⟨i0,rfl⟩:=Int.eq_ofNat_of_zero_le hci.1
   obtain ⟨w,hw⟩:∃ w,(elt nx.l (v0:Int)).l[i0]? = some w:=⟨_,List.getElem?_eq_getElem (by omega)⟩
   have hwr:=hnr _ (List.mem_of_getElem? hnv) w (List.mem_of_getElem? hw)
   obtain ⟨w0,rfl⟩:=Int.eq_ofNat_of_zero_le hwr.1
   have hT2:=hT.adv hcs (by rw [gS];exact hi2)
   have hmu:=aa6 (N:=N) (nx:=nL nx) hcs (Int.natCast_nonneg i0) (by rw [gS];exact hi2)
   have hset:(s1.calls.map cR).set cs.length (jP (cR ((v0:Int),(i0:Int))) 1 [.v (.int .i64 ((i0:Int)+1))])=(cs++[((v0:Int),(i0:Int)+1)]).map cR:=by rw [hcs];simp [jP]
   have hix:s1.idx[w0]? = some (elt s1.idx (w0:Int)):=bA (by rw [hT.li];omega)
   have hpx:s1.part[w0]? = some (elt s1.part (w0:Int)):=bA (by rw [hT.lp];omega)
   have hlx:s1.low[v0]? = some (elt s1.low (v0:Int)):=bA (by rw [hT.ll];omega)
   have hrow2:((cs++[((v0:Int),(i0:Int)+1)]).map cR)[cs.length]? = some (cR ((v0:Int),(i0:Int)+1)):=by simp
   refine aq (DR [] 17 (go 0 [14,0,0,0,0,0,0] ?_))
   refine bV 7 rfl rfl (bl (v:=.slice (some ⟨Bc,0,none⟩) (cs.length+1) ccp) (u:=.int .i64 (v0:Int)) 7 cs.length 0 tk3 rfl rfl hrow rfl rfl) (XI 8 Tryz.underlying201 tk33 3 rfl rfl rfl rfl rfl rfl (ak hnv) rfl rfl (fun ⟨b6_8,o6_8⟩=>(go 0 [4,0,0,2] ?_)))
   refine bV 13 rfl rfl (bl (v:=.slice (some ⟨Bc,0,none⟩) (cs.length+1) ccp) (u:=.int .i64 (i0:Int)) 7 cs.length 1 tk3 rfl rfl hrow rfl rfl) (dz 14 rfl (by kernel_rfl) true rfl rfl (fun _=>ai Tryz.underlying33 tk3 rfl ((Ent.all (f:=ShF bd) (.of (ax 5 rfl)) hnv)) rfl (ak hw) rfl rfl) (fun h=>absurd h (by decide)) (fun ⟨b6_14,o6_14⟩=>(go 0 [4,0,0,0,1] ?_)))
   refine aU rfl (bl (v:=.slice (some ⟨Bc,0,none⟩) (cs.length+1) ccp) (u:=.int .i64 (i0:Int)) 7 cs.length 1 tk3 rfl rfl hrow rfl rfl) (go 0 [0,0,1] ?_)
   refine LF rfl (cY (v:=.slice (some ⟨Bc,0,none⟩) (cs.length+1) ccp) 7 cs.length 1 tk3 rfl rfl rfl hrow rfl (.v rfl .nil) rfl (by decide) (aHK ?_))
   refine aNs (aq ?_)
   rw [hset]
   refine go 0 [13,0,1,0,0] ?_
   refine aU rfl (bK 1 w0 el33 rfl rfl rfl rfl (by rw [List.length_map,hT.li];omega)) ?_
   refine aU rfl (bl (u:=.int .i64 (elt s1.idx (w0:Int))) 1 w0 0 tk3 rfl rfl (ak hix) rfl rfl) (go 2 [0] ?_)
   refine aa _ rfl (fun h3 => ?_) (fun h3 => ?_)
   ·skip
    have hw0:elt s1.idx (w0:Int)=0:=by simpa using h3
    have hT3:=hT2.enter hwr hw0 (.inl (by simp))
    have hmu3:=xO hT2 hwr hw0
    refine go 0 [0,0,0] ?_
    refine LF rfl (gh [4,3] [0,1,2,3,4,5,6] (by kernel_rfl) rfl rfl rfl rfl rfl (pE bf bc b0_1 b0_0 nx.val iv lv sv1 pv qv1 s1 P1 w0 (by rw [hT.li];omega) (by rw [hT.ll];omega) ⟨hT.cnt0.1,by have:=hT.cnt0.2;omega⟩ (by omega)) ?_)
    rintro _ _ _ ⟨rfl,rfl,sv2,rfl⟩
    refine aST ?_
    refine LT rfl (WL (zs:=[.int .i64 0,.int .i64 0]) el291 rfl rfl rfl (.more rfl (.v rfl (.v rfl .nil)) .nil) rfl rfl (fun v9_4=>(aHN ?_)))
    refine aT rfl (bH 7 el291 rfl rfl rfl rfl (cP 8 el291 rfl (by simp)) (by first | assumption | simp) (by simp;omega) (cs.length+2) (by simp) (fun v9_5 c9_5 => ?_))
    refine aHK ?_
    refine go 5 [0] ?_
    refine an ?_
    refine ⟨[3,6,7],[4,3,2,1,0],[0,1,2,3,4,5,6,7],rfl,?_⟩
    exact ⟨((.slice v9_5 (cs.length+2) c9_5,sv2,qv1),(cg { s1 with calls:=cs++[((v0:Int),(i0:Int)+1)] } w0,P1)),⟨⟨⟨hT3,hI.np,hI.pl,fun x h1 h2 h3=>nt hT2 hwr x h1 (hI.mono x h1 h2 h3),nt hT2 hwr r hrr.1 hI.me,hI.nple,hI.tj.rEnter hT hnrL hcs (Int.natCast_nonneg i0) (by rw [gS];exact hw) hwr hw0,hI.pc⟩,fun h=>by simp [cg] at h⟩,by simp only [cg,vp,List.map_append];rfl⟩,by dsimp only;omega⟩
   ·skip
    refine go 0 [13,0,4,0,0] ?_
    refine aU rfl (bK 4 w0 el33 rfl rfl rfl rfl (by rw [List.length_map,hT.lp];omega)) ?_
    refine aU rfl (bl (u:=.int .i64 (elt s1.part (w0:Int))) 4 w0 0 tk3 rfl rfl (ak hpx) rfl rfl) (go 2 [0] ?_)
    refine aa _ rfl (fun h4 => ?_) (fun h4 => ?_)
    ·skip
     have hws:(w0:Int)∈s1.stk:=(hT.stk _).2 ⟨hwr,by simpa using h3,by simpa using h4⟩
     have hT4:=hT2.lower hvs (hT2.low' _ hws).2
     refine DR [27] 28 (go 0 [26,0,4,0,0,0,0] ?_)
     refine bV 7 rfl rfl (bl (v:=.slice (some ⟨Bc,0,none⟩) (cs.length+1) ccp) (u:=.int .i64 (v0:Int)) 7 cs.length 0 tk3 rfl rfl hrow2 rfl rfl) (go 0 [26,0,4,0,0,0,0] ?_)
     refine bV 15 rfl rfl (bl (v:=.slice (some ⟨Bc,0,none⟩) (cs.length+1) ccp) (u:=.int .i64 (v0:Int)) 7 cs.length 0 tk3 rfl rfl hrow2 rfl rfl) ?_
     refine bV 16 rfl rfl (bK 2 v0 el33 rfl rfl rfl rfl (by rw [List.length_map,hT.ll];omega)) ?_
     refine bV 17 rfl rfl (bl (u:=.int .i64 (elt s1.low (v0:Int))) 2 v0 0 tk3 rfl rfl (ak hlx) rfl rfl) (go 0 [26,0,2,0,0] ?_)
     refine bV 23 rfl rfl (bK 1 w0 el33 rfl rfl rfl rfl (by rw [List.length_map,hT.li];omega)) ?_
     refine bV 24 rfl rfl (bl (u:=.int .i64 (elt s1.idx (w0:Int))) 1 w0 0 tk3 rfl rfl (ak hix) rfl rfl) (go 0 [0] ?_)
     refine bV 26 rfl rfl (bK 2 v0 el33 rfl rfl rfl rfl (by rw [List.length_map,hT.ll];omega)) ?_
     refine VE 27 rfl rfl (cY 2 v0 0 tk3 rfl rfl rfl (ak hlx) rfl (.v rfl .nil) rfl (by decide) (bST rfl ?_))
     refine BN (an (aY (bb (bg (an ?_)))))
     refine ⟨[3,6,7],[4,3,2,1,0],[0,1,2,3,4,5,6,7],rfl,?_⟩
     exact ⟨((_,sv1,qv1),({ s1 with calls:=cs++[((v0:Int),(i0:Int)+1)],low:=s1.low.set (v0:Int).toNat (min (elt s1.low (v0:Int)) (elt s1.idx (w0:Int))) },P1)),⟨⟨⟨hT4,hI.np,hI.pl,hI.mono,hI.me,hI.nple,hI.tj.rBack hT hcs (Int.natCast_nonneg i0) (by rw [gS];exact hw) hws,hI.pc⟩,fun h=>by simp at h⟩,by simp only [vp,eR,Int.toNat_natCast,List.map_set];rfl⟩,by show tmu N (nL nx) { s1 with calls:=cs++[((v0:Int),(i0:Int)+1)] } < _;omega⟩
    ·skip
     refine aD (an (aY (bb (bg (an ?_)))))
     refine ⟨[3,6,7],[4,3,2,1,0],[0,1,2,3,4,5,6,7],rfl,?_⟩
     exact ⟨((_,sv1,qv1),({ s1 with calls:=cs++[((v0:Int),(i0:Int)+1)] },P1)),⟨⟨⟨hT2,hI.np,hI.pl,hI.mono,hI.me,hI.nple,hI.tj.rSkip hT hcs (Int.natCast_nonneg i0) (by rw [gS];exact hw) (by simpa using h3) (by simpa using h4),hI.pc⟩,fun h=>by simp at h⟩,rfl⟩,by dsimp only;omega⟩
  ·skip
   have hend:(elt (nL nx) (v0:Int)).length≤i:=by rw [gS];simp at h2;omega
   have hcut:(s1.calls.map cR).take cs.length=cs.map cR:=by rw [hcs];simp
   obtain ⟨A,B,hAB⟩:=List.append_of_mem hvs
   have hix:s1.idx[v0]? = some (elt s1.idx (v0:Int)):=bA (by rw [hT.li];omega)
   have hlx:s1.low[v0]? = some (elt s1.low (v0:Int)):=bA (by rw [hT.ll];omega)
   have hmup:=aa7 (N:=N) (nx:=nL nx) hcs
   have hvB:(v0:Int) ∉ B:=by
     have:=hT.nd
     rw [hAB,List.nodup_append] at this
     exact (List.nodup_cons.1 this.2.1).1
   have hvA:∀ x∈(v0:Int)::B,0≤x∧x<s1.part.length:=fun x hx=>by rw [hT.lp];exact ((hT.stk x).1 (by rw [hAB];exact List.mem_append_right _ hx)).1
   have hsubv:(cs.map (·.1)++[(v0:Int)]).Sublist s1.stk:=by have:=hT.sub;rw [hcs,List.map_append] at this;exact this
   have hcne:s1.calls≠[]:=by rw [hcs];simp
   have hccs:cs.length+1≤ccp:=hcc
   refine go 0 [0,0,0] ?_
   refine aU rfl (bl (v:=.slice (some ⟨Bc,0,none⟩) (cs.length+1) ccp) (u:=.int .i64 (v0:Int)) 7 cs.length 0 tk3 rfl rfl hrow rfl rfl) (go 0 [0,0,0] ?_)
   refine aU rfl (dQ 7 Tryz.underlying291 rfl rfl) (go 0 [0] ?_)
   refine aU rfl (gB cs.length el291 rfl rfl (by omega) (by omega) hcc) (go 3 [0] ?_)
   refine mK (X := {l:List Int // (TI N (nL nx) r { s1 with calls:=cs,low:=l } ∧ (cs=[]→elt l (v0:Int)=elt s1.idx (v0:Int)))∧(TI N (nL nx) r { s1 with low:=l } ∧ TJ (nL nx) { s1 with low:=l } ∧ elt l (v0:Int)≤elt s1.idx (v0:Int)∧∀ c∈cs.map (·.1),(∀ c'∈cs.map (·.1),elt s1.idx c'≤elt s1.idx c)→elt l c≤elt l (v0:Int))}) (fun l=>⟨[(3,true,.pointer (some ⟨b0_0,0,none⟩)),(6,true,.func (.func 232) #[] #[.pointer (some ⟨b0_1,0,none⟩),.pointer (some ⟨b0_0,0,none⟩)]),(7,true,.slice (some ⟨Bc,0,none⟩) cs.length ccp),(10,true,.int .i64 (v0:Int))],[At b0_1 0 [.v (.pointer (some ⟨bc,0,none⟩))],At b0_0 0 [.v (.pointer (some ⟨bf,0,none⟩))],ShF slR nx,bu (ShF bd) nx.l,bu (ShF bd) P1],vp bf bc nx.val iv lv sv1 pv qv1 (.slice (some ⟨Bc,0,none⟩) cs.length ccp) { s1 with calls:=cs,low:=l.1 } P1⟩) ?_ ?_
   ·skip
    refine aq ?_
    refine mJ 7 cs.length rfl (by rw [hcl2];omega) ?_
    rw [hcut]
    refine az (aM rfl (aU rfl (bk rfl rfl) (go 2 [0] ?_)))
    refine aa _ rfl (fun h5 => ?_) (fun h5 => ?_)
    ·skip
     obtain ⟨ds,u,j,hds⟩:∃ ds u j,cs=ds++[(u,j)]:=by
       rcases List.eq_nil_or_concat cs with h | ⟨ds,c,h⟩
       · rw [h] at h5;simp at h5
       · exact ⟨ds,c.1,c.2,by simpa using h⟩
     have hdl:cs.length=ds.length+1:=by rw [hds];simp
     obtain ⟨_,hus,_⟩:=hTp.pop hds
     have hur:=((hT.stk u).1 hus).1
     obtain ⟨u0,rfl⟩:=Int.eq_ofNat_of_zero_le hur.1
     have hTl:=hTp.lower hus (hT.low' _ hvs).1
     rw [Int.toNat_natCast] at hTl
     have hup:=hI.tj.rUp hT hcs hds rfl
     rw [Int.toNat_natCast] at hup
     have hux:s1.low[u0]? = some (elt s1.low (u0:Int)):=bA (by rw [hT.ll];omega)
     have hrowu:(cs.map cR)[ds.length]? = some (cR ((u0:Int),j)):=by rw [hds];simp
     have hsetL:(eR s1.low).set u0 (jP (bd (elt s1.low (u0:Int))) 0 [.v (.int .i64 (min (elt s1.low (u0:Int)) (elt s1.low (v0:Int))))])=eR (s1.low.set u0 (min (elt s1.low (u0:Int)) (elt s1.low (v0:Int)))):=by
       show (List.map bd s1.low).set u0 _=List.map bd _
       rw [List.map_set];rfl
     refine go 0 [0,0] ?_
     refine aU rfl (bk rfl rfl) (go 0 [0] ?_)
     refine aU rfl (eE ds.length el291 rfl rfl (by omega) (by omega)) (go 0 [0] ?_)
     refine aU rfl (bl (v:=.slice (some ⟨Bc,0,none⟩) cs.length ccp) (u:=.int .i64 (u0:Int)) 7 ds.length 0 tk3 rfl rfl hrowu rfl rfl) (go 2 [0] ?_)
     refine DR [21] 22 (go 0 [14,0,4,0,0,14,0,4,0,0] ?_)
     refine bV 10 rfl rfl (bK 2 u0 el33 rfl rfl rfl rfl (by rw [List.length_map,hT.ll];omega)) ?_
     refine bV 11 rfl rfl (bl (u:=.int .i64 (elt s1.low (u0:Int))) 2 u0 0 tk3 rfl rfl (ak hux) rfl rfl) (go 0 [14,0,4,0,0] ?_)
     refine bV 17 rfl rfl (bK 2 v0 el33 rfl rfl rfl rfl (by rw [List.length_map,hT.ll];omega)) ?_
     refine bV 18 rfl rfl (bl (u:=.int .i64 (elt s1.low (v0:Int))) 2 v0 0 tk3 rfl rfl (ak hlx) rfl rfl) (go 0 [0] ?_)
     refine bV 20 rfl rfl (bK 2 u0 el33 rfl rfl rfl rfl (by rw [List.length_map,hT.ll];omega)) ?_
     refine VE 21 rfl rfl (cY 2 u0 0 tk3 rfl rfl rfl (ak hux) rfl (.v rfl .nil) rfl (by decide) ?_)
     rw [hsetL]
     refine bST rfl ?_
     refine BN (an ?_)
     first
     | exact ⟨[3,6,7,10],[4,3,2,1,0],[0,1,2,3,4,5,6,7],⟨s1.low.set u0 (min (elt s1.low (u0:Int)) (elt s1.low (v0:Int))),⟨hTl,fun h=>by rw [h] at hds;simp at hds⟩,hup.1,hup.2.1,by rw [hup.2.2.1];exact (hI.tj.lr _ hvs).1,hup.2.2.2⟩,rfl,rfl⟩
     | exact ⟨[3,6,7,10],[4,3,2,1,0],[0,1,2,3,4,5,6,7],⟨s1.low,⟨hTp,fun h=>(hlast h).2⟩,hT,hI.tj,(hI.tj.lr _ hvs).1,fun c hc=>by rw [hcs0] at hc;cases hc⟩,rfl,rfl⟩
    ·skip
     have hcs0:cs=[]:=List.length_eq_zero_iff.1 (by rw [decide_eq_false_iff_not] at h5;omega)
     refine aD (an ?_)
     first
     | exact ⟨[3,6,7,10],[4,3,2,1,0],[0,1,2,3,4,5,6,7],⟨s1.low.set u0 (min (elt s1.low (u0:Int)) (elt s1.low (v0:Int))),⟨hTl,fun h=>by rw [h] at hds;simp at hds⟩,hup.1,hup.2.1,by rw [hup.2.2.1];exact (hI.tj.lr _ hvs).1,hup.2.2.2⟩,rfl,rfl⟩
     | exact ⟨[3,6,7,10],[4,3,2,1,0],[0,1,2,3,4,5,6,7],⟨s1.low,⟨hTp,fun h=>(hlast h).2⟩,hT,hI.tj,(hI.tj.lr _ hvs).1,fun c hc=>by rw [hcs0] at hc;cases hc⟩,rfl,rfl⟩
   ·skip
    rintro ⟨l,⟨hTl,hlz⟩,hTu,hJu,hlv,hup⟩
    dsimp only
    have hll:l.length=N:=hTl.ll
    refine aq (DR [] 15 (go 0 [8,0,4,0,0] ?_))
    refine bV 5 rfl rfl (bK 2 v0 el33 rfl rfl rfl rfl (by rw [List.length_map,hll];omega)) ?_
    refine bV 6 rfl rfl (bl (u:=.int .i64 (elt l (v0:Int))) 2 v0 0 tk3 rfl rfl (ak (bA (by rw [hll];omega))) rfl rfl) ?_
    refine go 0 [8,0,2,0,0] ?_
    refine bV 12 rfl rfl (bK 1 v0 el33 rfl rfl rfl rfl (by rw [List.length_map,hT.li];omega)) ?_
    refine bV 13 rfl rfl (bl (u:=.int .i64 (elt s1.idx (v0:Int))) 1 v0 0 tk3 rfl rfl (ak hix) rfl rfl) (go 2 [0] ?_)
    refine aa _ rfl (fun h6 => ?_) (fun h6 => ?_)
    ·skip
     have hcl2:=tE bf nx.val iv lv sv1 pv qv1 A B s1.part v0 P1 hvB (by rw [← hAB];omega) hvA (by omega)
     rw [← hAB] at hcl2
     refine go 0 [4,0] ?_
     refine LF rfl (EC [0] [0,3,4,5] rfl (hcl2) ?_)
     rintro _ _ _ ⟨pl,sv2,qv2,hpp,rfl,rfl⟩
     refine aST ?_
     refine dJ (ca (an ?_))
     refine ⟨[3,6,7],[4,3,2,1,5],[0,1,2,3,4,5,6,7],rfl,?_⟩
     have hcz:=hTl.close hAB hsubv fun x=>hpp.mem_iff
     have hpc:=hI.pl.close hT (by rw [List.length_map];exact hI.np) hAB hpp
     have hcj:=hJu.close hTu hnrL (cs:=cs) (v:=(v0:Int)) (i:=i) hcs hend (by simpa using h6) hAB (fun x=>hpp.mem_iff)
     have hcc:=hI.pc.close hT (by rw [List.length_map];exact hI.np) hAB hpp
     rw [show P1.map (·.l)++[pl.l]=(P1++[pl]).map (·.l) by rw [List.map_append];rfl] at hcc
     rw [show ({ s1 with low:=l } : TS).np=s1.np from rfl] at hcj
     rw [hI.np] at hcz hpc hcj hcc
     have hpc2:PL N (b8 s1.part ((P1.length:Int)+1) pl.l) ((P1++[pl]).map (·.l)):=by rw [List.map_append];exact hpc
     have hct:=hpc2.count
     rw [List.length_map] at hct
     exact ⟨((.slice (some ⟨Bc,0,none⟩) cs.length ccp,sv2,qv2),({ s1 with calls:=cs,low:=l,stk:=A,part:=b8 s1.part ((P1.length:Int)+1) pl.l,np:=P1.length+1 },P1++[pl])),⟨⟨⟨hcz.1,by simp,hpc2,hI.mono,hI.me,hct,hcj,hcc⟩,fun h=>hcz.2 (hlast h).1 h (hT.top hcne).2⟩,rfl⟩,by show tmu N (nL nx) { s1 with calls:=cs } < _;omega⟩
    ·skip
     refine aD (ca (an ?_))
     refine ⟨[3,6,7],[4,3,2,1,0],[0,1,2,3,4,5,6,7],rfl,?_⟩
     have h7:¬ elt l (v0:Int)=elt s1.idx (v0:Int):=by simpa using h6
     exact ⟨((.slice (some ⟨Bc,0,none⟩) cs.length ccp,sv1,qv1),({ s1 with calls:=cs,low:=l },P1)),⟨⟨⟨hTl,hI.np,hI.pl,hI.mono,hI.me,hI.nple,hJu.pop hTu (cs:=cs) (v:=(v0:Int)) (i:=i) hcs hend (by show elt l (v0:Int)<elt s1.idx (v0:Int);omega) hup,hI.pc⟩,fun h=>absurd (hlz h) (by simpa using h6)⟩,rfl⟩,by show tmu N (nL nx) { s1 with calls:=cs } < _;omega⟩
 ·skip
  refine aY (bb (bb (bg ?_)))
  refine y9 [0] [0,1,2,3,4,5,6] rfl Tryz.results196 ?_ (.inl rfl)
  have hnc:s1.calls=[]:=by
    cases hh:s1.calls with
    | nil=>rfl
    | cons c cs=>rw [hh] at h1;simp at h1
  exact ⟨s1,P1,sv1,qv1,hI,hnc,hE hnc,rfl,rfl⟩
theorem el275:elB Tryz.prog 275 33 1=true:=by kernel_rfl
def swL{α:Type}[Inhabited α](l:List α)(i j:Nat):List α:=(l.set i (l.getD j default)).set j (l.getD i default)
theorem vL{α:Type}[Inhabited α](l:List α)(i j:Nat):(swL l i j).length=l.length:=by simp [swL]
theorem oG{α:Type}[Inhabited α](l:List α){i j:Nat}(hi:i<l.length)(hj:j<l.length):(swL l i j).Perm l:=by
 unfold swL
 rw [List.getD_eq_getElem?_getD,List.getD_eq_getElem?_getD,List.getElem?_eq_getElem hi,List.getElem?_eq_getElem hj]
 exact List.set_set_perm hi hj
abbrev hR(H:List (Sl Int)):List (List D):=H.map slR
theorem m3(hv:Value)(H:List (Sl Int)) :
   Con Tryz.prog 289 [hv] [] [aP hv 33 1 (hR H)] fun r ps hp=>r=.int .i64 H.length∧ps=[]∧hp=[aP hv 33 1 (hR H)]:=by
 refine EN1 Tryz.func289 rfl (go 0 [0,0] ?_)
 refine aU rfl (dQ 0 Tryz.underlying275 rfl rfl) (go 2 [0] ?_)
 refine ae (FZ1 [0] Tryz.results289 rfl ?_)
 exact ⟨by rw [List.length_map],rfl,rfl⟩
theorem kU(hv:Value)(H0 H:List (Sl Int))(i j:Nat)(hi:i<H.length)(hj:j<H.length)(hne:∀ p∈H0,p.l≠[])(hsub:∀ p∈H,p∈H0) :
   Con Tryz.prog 290 [hv,.int .i64 i,.int .i64 j] [bu (ShF bd) H0] [aP hv 33 1 (hR H)] fun r ps hp=>(∃ b,r=.bool b)∧ps=[]∧hp=[aP hv 33 1 (hR H)]:=by
 obtain ⟨p,hp⟩:∃ p,H[i]? = some p:=⟨_,List.getElem?_eq_getElem hi⟩
 obtain ⟨q,hq⟩:∃ q,H[j]? = some q:=⟨_,List.getElem?_eq_getElem hj⟩
 obtain ⟨a,ha⟩:∃ a,p.l[0]? = some a:=⟨_,List.getElem?_eq_getElem (List.length_pos_iff.2 (hne p (hsub p (List.mem_of_getElem? hp))))⟩
 obtain ⟨b,hb⟩:∃ b,q.l[0]? = some b:=⟨_,List.getElem?_eq_getElem (List.length_pos_iff.2 (hne q (hsub q (List.mem_of_getElem? hq))))⟩
 obtain ⟨p',hp'⟩:=List.mem_iff_getElem?.1 (hsub p (List.mem_of_getElem? hp))
 obtain ⟨q',hq'⟩:=List.mem_iff_getElem?.1 (hsub q (List.mem_of_getElem? hq))
 refine EN3 Tryz.func290 rfl (go 3 [0] ?_)
 refine DR [] 14 (VM 0 rfl rfl (VM 1 rfl rfl ?_))
 refine bV 2 rfl rfl (bK 0 i el275 rfl rfl rfl rfl (by rw [List.length_map];exact hi)) ?_
 refine bV 3 rfl rfl (bl (u:=p.val) 0 i 0 tk33 rfl rfl (ak hp) rfl rfl) (dz 4 rfl (by kernel_rfl) true rfl rfl (fun _=>ai Tryz.underlying33 tk3 rfl ((Ent.all (f:=ShF bd) (.of (ax 0 rfl)) hp')) rfl (ak ha) rfl rfl) (fun h=>absurd h (by decide)) (fun ⟨b1_4,o1_4⟩=>(go 0 [4,0,0] ?_)))
 refine bV 8 rfl rfl (bK 0 j el275 rfl rfl rfl rfl (by rw [List.length_map];exact hj)) ?_
 refine bV 9 rfl rfl (bl (u:=q.val) 0 j 0 tk33 rfl rfl (ak hq) rfl rfl) (dz 10 rfl (by kernel_rfl) true rfl rfl (fun _=>ai Tryz.underlying33 tk3 rfl ((Ent.all (f:=ShF bd) (.of (ax 1 rfl)) hq')) rfl (ak hb) rfl rfl) (fun h=>absurd h (by decide)) (fun ⟨b1_10,o1_10⟩=>(go 2 [4,0,0] ?_)))
 refine ae (FZ1 [0] Tryz.results290 rfl ?_)
 exact ⟨⟨_,rfl⟩,rfl,rfl⟩
theorem kV(hv:Value)(H:List (Sl Int))(i j:Nat)(hi:i<H.length)(hj:j<H.length) :
   Con Tryz.prog 293 [hv,.int .i64 i,.int .i64 j] [] [aP hv 33 1 (hR H)] fun _ ps hp=>ps=[]∧hp=[aP hv 33 1 (hR (swL H i j))]:=by
 obtain ⟨p,hp⟩:∃ p,H[i]? = some p:=⟨_,List.getElem?_eq_getElem hi⟩
 obtain ⟨q,hq⟩:∃ q,H[j]? = some q:=⟨_,List.getElem?_eq_getElem hj⟩
 have hsw:swL H i j=(H.set i q).set j p:=by
   unfold swL
   rw [List.getD_eq_getElem?_getD,List.getD_eq_getElem?_getD,hp,hq];rfl
 obtain ⟨q2,hq2⟩:∃ q2,(H.set i q)[j]? = some q2:=⟨_,List.getElem?_eq_getElem (by rw [List.length_set];exact hj)⟩
 have hset:(hR H).set i (jP (slR p) 0 (slR q))=hR (H.set i q):=by
   show (List.map slR H).set i _=List.map slR _
   rw [List.map_set];rfl
 refine EN3 Tryz.func293 rfl (DR [13,15] 16 (go 0 [0,0,3,0,3,0,0,0] ?_))
 refine bV 6 rfl rfl (bK 0 j el275 rfl rfl rfl rfl (by rw [List.length_map];exact hj)) ?_
 refine bV 7 rfl rfl (bl (u:=q.val) 0 j 0 tk33 rfl rfl (ak hq) rfl rfl) (VM 8 rfl rfl (VM 9 rfl rfl ?_))
 refine bV 10 rfl rfl (bK 0 i el275 rfl rfl rfl rfl (by rw [List.length_map];exact hi)) ?_
 refine bV 11 rfl rfl (bl (u:=p.val) 0 i 0 tk33 rfl rfl (ak hp) rfl rfl) ?_
 refine bV 12 rfl rfl (bK 0 i el275 rfl rfl rfl rfl (by rw [List.length_map];exact hi)) ?_
 refine VE 13 rfl rfl (cY 0 i 0 tk33 rfl rfl rfl (ak hp) rfl (.v rfl .nil) rfl (by decide) ?_)
 rw [hset]
 refine bST rfl ?_
 refine bV 14 rfl rfl (bK 0 j el275 rfl rfl rfl rfl (by rw [List.length_map,List.length_set];exact hj)) ?_
 refine VE 15 rfl rfl (cY 0 j 0 tk33 rfl rfl rfl (ak hq2) rfl (.v rfl .nil) rfl (by decide) (bST rfl ?_))
 refine BN (FZ0 [0] Tryz.results293 ?_)
 refine ⟨rfl,?_⟩
 rw [hsw]
 show _=[aP hv _ 1 (((H.set i q).set j p).map slR)]
 rw [List.map_set];rfl
theorem wq(hb:Nat)(hv:Value)(H:List (Sl Int))(p:Sl Int)(hH:H.length≤1000000) :
   Con Tryz.prog 292 [.pointer (some ⟨hb,0,none⟩),.iface 33 p.val] [] [Box hb 275 [hv],aP hv 33 1 (hR H)] fun _ ps hp=>∃ hv':Value,ps=[]∧hp=[Box hb 275 [hv'],aP hv' 33 1 (hR (H++[p]))]:=by
 refine EN2 Tryz.func292 rfl (DR [7,9] 10 (go 0 [3,0,0,0,0,0] ?_))
 refine bV 5 rfl rfl (sO (by kernel_rfl) rfl) (dG (q:=true) 6 rfl (by kernel_rfl) rfl rfl (WL (zs:=[.slice none 0 0]) el275 rfl rfl rfl (.more rfl (.v rfl .nil) .nil) rfl rfl (fun v0_6=>(bST rfl ?_))))
 refine dG 7 rfl (by kernel_rfl) rfl rfl (bH 1 el275 rfl rfl rfl rfl (cP 2 el275 rfl (by simp)) (by first | assumption | simp) (by rw [List.length_map];exact Nat.le_trans (show H.length+1≤1000001 by omega) (by decide)) (H.length+1) (by simp) (fun v0_7 c0_7 => ?_))
 refine bST rfl ?_
 refine go 1 [0,7,0] ?_
 refine FZ0 [0,1] Tryz.results292 ?_
 refine ⟨.slice v0_7 (H.length+1) c0_7,rfl,?_⟩
 show _=[_,aP _ _ 1 ((H++[p]).map slR)]
 rw [List.map_append];rfl
theorem yB(hb:Nat)(hv:Value)(H:List (Sl Int))(p:Sl Int)(hH:H.length≤1000000) :
   Con Tryz.prog 291 [.pointer (some ⟨hb,0,none⟩)] [] [Box hb 275 [hv],aP hv 33 1 (hR (H++[p]))] fun r ps hp=>∃ hv':Value,r=.iface 33 p.val∧ps=[]∧hp=[Box hb 275 [hv'],aP hv' 33 1 (hR H)]:=by
 have hrow:(hR (H++[p]))[H.length]? = some (slR p):=by simp
 have hl:(hR (H++[p])).length=H.length+1:=by simp
 have hcut:(hR (H++[p])).take H.length=hR H:=by simp
 refine EN1 Tryz.func291 rfl (aq ?_)
 refine iS 1 rfl (fun h0=>by rw [h0] at hl;cases hl) (fun Bc ccp hvc hcc => ?_)
 rw [hl] at hvc hcc
 subst hvc
 show awp _ _ _ _ ⟨_,_,[_,_]⟩
 refine go 0 [0,0,0,0,0,0,0] ?_
 refine aU rfl (dQ 1 Tryz.underlying275 rfl rfl) (go 0 [0] ?_)
 refine aU rfl (eE H.length el275 rfl rfl (by rw [hl];omega) (by omega)) ?_
 refine aU rfl (bl (v:=.slice (some ⟨Bc,0,none⟩) (H.length+1) ccp) (u:=p.val) 1 H.length 0 tk33 rfl rfl hrow rfl rfl) (go 0 [0,0,0,0] ?_)
 refine aU rfl (dQ 1 Tryz.underlying275 rfl rfl) (go 0 [0] ?_)
 refine aU rfl (gB H.length el275 rfl rfl (by omega) (by omega) hcc) (go 0 [0] ?_)
 refine LF rfl (bX 0 tk275 rfl rfl rfl rfl (ig (hp':=[Box hb 275 [.slice (some ⟨Bc,0,none⟩) H.length ccp],aP (.slice (some ⟨Bc,0,none⟩) (H.length+1) ccp) 33 1 (hR (H++[p]))]) rfl (aNs ?_)))
 refine mJ 1 H.length rfl (by rw [hl];omega) ?_
 rw [hcut]
 refine az (aM rfl (aU rfl (jc (by kernel_rfl) rfl) (go 2 [0] ?_)))
 refine ae (FZ1 [0,1] Tryz.results291 rfl ?_)
 exact ⟨_,rfl,rfl,rfl⟩
end Go.Proofs.YtgkbbdgklpabpaaGreatDoor

namespace Go.Sy
open Go.RowKit Go.Lp
section
variable {P:Program} {n:Fr} {Q:Exit→Sta→Prop} {ops:Array Oper} {rest:List Oper} {env:Env} {ps:List Per} {hp:List Res} {s:Sta} {d:Option Tmp} {ty:TypeId} {pos:String} {af:Array Edge} {gd:Option (Nat × Bool)} {v:Value}
theorem qq{t:Nat}{f:FuncId}{g:Operand}{T:TypeId}{u:Value}{name:String}{l:List Operand}{ts:Array TypeId}{vs:List Value}(lp lh:List Nat)(hf:aX P f=true)(c:Bool)(hc:guardOf ops env ⟨some t,.call ⟨.invoke g name,l.toArray,ts⟩,ty,pos,af,gd⟩=some c)(ht:fits n (some t)=true)(ok:okH hp lh=true)
   (hgv:c=true→ev env g=some (true,.iface T v)) (hm:∀ w S fp,St w S fp ps hp→∀ k,(method (k+1) T v name).run P w=.ok (f,u) w) (hx:c=true→evs env l=some vs) (hput:fD lh (bT hp lh) 0 hp=hp)
   (hcon:c=true→Con P f (u::vs) (el ps lp) (bT hp lh) fun r ps' hp'=>(∃ b,r=.bool b)∧ps'=[]∧hp'=bT hp lh)
   (h:∀ b,aL P n ops Q rest ⟨(t,c,.bool b)::env,ps,hp⟩):aL P n ops Q (⟨some t,.call ⟨.invoke g name,l.toArray,ts⟩,ty,pos,af,gd⟩::rest) ⟨env,ps,hp⟩:=by
 cases c with
 | true =>
   refine aT (q:=false) hc (ff lp lh hf (hgv rfl) hm (hx rfl) ht ok rfl (hcon rfl) ?_)
   rintro _ _ _ ⟨⟨b,rfl⟩,rfl,rfl⟩
   rw [hput]
   exact h b
 | false=>exact yc false hc ht (fun h=>by cases h) (h false)
theorem abN{x y:Operand}{t t':TypeId}(j:Nat)(hj:j≤1000001)(hx:ev s.env x=some (true,.int .i64 ((j:Int)-1)))(hy:ev s.env y=some (true,.int .i64 2)):Quiet P n ⟨d,.binOp .quo t x y t',ty,pos,af,gd⟩ s (.int .i64 (((j-1) / 2:Nat):Int)):=by
 have h:=acD (P:=P) (n:=n) (d:=d) (ty:=ty) (pos:=pos) (af:=af) (gd:=gd) (t:=t) (t':=t') hx hy (by decide)
 have e:IntKind.i64.wrap (((j:Int)-1).tdiv 2)=(((j-1) / 2:Nat):Int):=by
   rcases j with _ | j
   · decide
   · have e1:((j+1:Nat):Int)-1=((j:Nat):Int):=by omega
     rw [e1,show (2:Int)=((2:Nat):Int) from rfl,← Int.ofNat_tdiv,i64_in (by omega),Nat.add_sub_cancel]
 rwa [e] at h
end
end Go.Sy
namespace Go.Proofs.YtgkbbdgklpabpaaGreatDoor
open Go.RowKit Go.Lp Go.Sy Go.Lv
open Go.Proofs.Tryz
attribute [local irreducible] aL aB awp aC fwp Quiet
theorem od:ko Tryz.prog 274 "Less" = some (290,false):=by kernel_rfl
theorem oe:ko Tryz.prog 274 "Swap" = some (293,false):=by kernel_rfl
theorem re:ko Tryz.prog 274 "Len" = some (289,false):=by kernel_rfl
theorem zm:ko Tryz.prog 274 "Push" = some (292,true):=by kernel_rfl
theorem aaR:ko Tryz.prog 274 "Pop" = some (291,true):=by kernel_rfl
theorem oJ:Program.underlying Tryz.prog 274=some (.pointer 275):=by kernel_rfl
theorem aae{α:Type}[Inhabited α](l:List α){i j n:Nat}(hi:i<n)(hj:j<n):(swL l i j).drop n=l.drop n:=by
 unfold swL
 rw [List.drop_set_of_lt hj,List.drop_set_of_lt hi]
abbrev hpR(hb:Nat)(hv:Value)(H:List (Sl Int)):List Res:=[Box hb 275 [hv],aP hv 33 1 (hR H)]
theorem abz(hb:Nat)(hv:Value)(H0 H:List (Sl Int))(k:Nat)(hk:k<H.length)(hH:H.length≤1000000)(hne:∀ p∈H0,p.l≠[])(hsub:∀ p∈H,p∈H0) :
   Con Tryz.prog 234 [.iface 274 (.pointer (some ⟨hb,0,none⟩)),.int .i64 k] [bu (ShF bd) H0] (hpR hb hv H) fun _ ps hp=>ps=[]∧∃ H':List (Sl Int),H'.Perm H∧hp=hpR hb hv H':=by
 refine EN2 Tryz.func234 rfl (aH (aF [0,1] [0] [0,1] (fun (q:List (Sl Int) × Nat) st=>(q.1.Perm H∧q.2<q.1.length)∧st=⟨[(0,true,.iface 274 (.pointer (some ⟨hb,0,none⟩))),(1,true,.int .i64 q.2)],[bu (ShF bd) H0],hpR hb hv q.1⟩) (fun q=>q.2) rfl (⟨(H,k),⟨.refl _,hk⟩,rfl⟩) ?_))
 rintro ⟨H1,j⟩ st ⟨⟨hP,hj⟩,rfl⟩
 dsimp only at hP hj ⊢
 have hL:=hP.length_eq
 have hi:(j-1) / 2<H1.length:=by omega
 refine go 0 [0,0] ?_
 refine aU rfl (abN j (by omega) rfl rfl) (go 0 [0,0,0,0,0,0,0,0] ?_)
 refine qq (f:=290) [0] [1] (by kernel_rfl) _ rfl rfl rfl (fun hc=>ah rfl hc) (qZ 0 od oJ tk275 rfl rfl) (fun hc=>ao (ah rfl hc) (ao (ah rfl hc) rfl)) rfl (fun _=>kU hv H0 H1 j ((j-1) / 2) hj hi hne fun p hp=>hsub p (hP.mem_iff.1 hp)) (fun bL=>(go 2 [0,0] ?_))
 refine aa _ rfl (fun h1 => ?_) (fun h1 => ?_)
 ·skip
  refine aY (bb (rI rfl (bb (bg (FZ0 [0,1] Tryz.results234 ?_)))))
  exact ⟨rfl,_,hP,rfl⟩
 ·skip
  refine go 0 [0,0,0] ?_
  refine LF rfl (ff (f:=293) [] [1] (by kernel_rfl) rfl (qZ 0 oe oJ tk275 rfl rfl) rfl rfl rfl rfl (kV hv H1 ((j-1) / 2) j hi hj) ?_)
  rintro _ _ _ ⟨rfl,rfl⟩
  refine ig (hp':=hpR hb hv (swL H1 ((j-1) / 2) j)) rfl (go 2 [0,0] ?_)
  refine an ?_
  refine ⟨[0,1],[0],[0,1],rfl,?_⟩
  exact ⟨(swL H1 ((j-1) / 2) j,(j-1) / 2),⟨⟨(oG H1 hi hj).trans hP,by rw [vL];exact hi⟩,rfl⟩,by
    have h2:((j-1) / 2:Nat)≠j:=fun e=>by rw [e] at h1;simp at h1
    dsimp only;omega⟩
theorem yA(hb:Nat)(hv:Value)(H0 H:List (Sl Int))(i0 n:Nat)(h0:i0≤1000000)(hn:n≤H.length)(hH:H.length≤1000000)(hne:∀ p∈H0,p.l≠[])(hsub:∀ p∈H,p∈H0) :
   Con Tryz.prog 235 [.iface 274 (.pointer (some ⟨hb,0,none⟩)),.int .i64 i0,.int .i64 n] [bu (ShF bd) H0] (hpR hb hv H) fun _ ps hp=>ps=[]∧∃ H':List (Sl Int),H'.Perm H∧H'.drop n=H.drop n∧hp=hpR hb hv H':=by
 refine EN3 Tryz.func235 rfl (go 4 [0,0,0] ?_)
 refine aF [0,1,2,7] [0] [0,1] (fun (q:List (Sl Int) × Nat) st=>(q.1.Perm H∧q.1.drop n=H.drop n∧q.2≤1000000)∧st=⟨[(0,true,.iface 274 (.pointer (some ⟨hb,0,none⟩))),(1,true,.int .i64 i0),(2,true,.int .i64 n),(7,true,.int .i64 q.2)],[bu (ShF bd) H0],hpR hb hv q.1⟩) (fun q=>n-q.2) rfl (⟨(H,i0),⟨.refl _,rfl,h0⟩,rfl⟩) ?_
 rintro ⟨H1,i⟩ st ⟨⟨hP,hD,hi⟩,rfl⟩
 dsimp only at hP hD hi ⊢
 have hL:=hP.length_eq
 have hs1:∀ p∈H1,p∈H0:=fun p hp=>hsub p (hP.mem_iff.1 hp)
 refine go 4 [0,0,0,0] ?_
 rw [show (2*(i:Int)+1)=((2*i+1:Nat):Int) by omega]
 refine go 2 [0,0,0,0,0,0,0] ?_
 refine aa _ rfl (fun h1 => ?_) (fun h1 => ?_)
 ·skip
  refine go 2 [0,0,0,0] ?_
  refine ae (FZ1 [0,1] Tryz.results235 rfl ?_)
  exact ⟨rfl,_,hP,hD,rfl⟩
 ·skip
  have hjn:2*i+1<n:=by
    simp at h1;omega
  refine go 3 [0,0] ?_
  refine mK (X := {z:Nat // i<z∧z<n}) (fun z=>⟨[(0,true,.iface 274 (.pointer (some ⟨hb,0,none⟩))),(1,true,.int .i64 i0),(2,true,.int .i64 n),(7,true,.int .i64 i),(9,true,.int .i64 z.1)],[bu (ShF bd) H0],hpR hb hv H1⟩) ?_ ?_
  ·skip
   refine go 3 [0,0,0] ?_
   rw [show (((2*i+1:Nat):Int)+1)=((2*i+2:Nat):Int) by omega]
   refine go 0 [0,0,0,0,0,0,0] ?_
   refine qq (f:=290) [0] [1] (by kernel_rfl) _ rfl rfl rfl (fun hc=>ah rfl hc) (qZ 0 od oJ tk275 rfl rfl) (fun hc=>ao (ah rfl hc) (ao (ah rfl hc) rfl)) rfl (fun hc=>kU hv H0 H1 (2*i+2) (2*i+1) (by have hc2:(((2*i+2:Nat):Int))<(n:Int):=(by simpa using hc);omega) (by omega) hne hs1) (fun bL => ?_)
   refine go 2 [0] ?_
   refine aa _ rfl (fun h2 => ?_) (fun h2 => ?_)
   ·skip
    refine go 1 [0,0] ?_
    refine an ?_
    first
    | exact ⟨[0,1,2,7,9],[0],[0,1],⟨2*i+2,by omega,by simp at h2;omega⟩,rfl,rfl⟩
    | exact ⟨[0,1,2,7,9],[0],[0,1],⟨2*i+1,by omega,hjn⟩,rfl,rfl⟩
   ·skip
    refine aD (an ?_)
    first
    | exact ⟨[0,1,2,7,9],[0],[0,1],⟨2*i+2,by omega,by simp at h2;omega⟩,rfl,rfl⟩
    | exact ⟨[0,1,2,7,9],[0],[0,1],⟨2*i+1,by omega,hjn⟩,rfl,rfl⟩
  ·skip
   rintro ⟨z,hz1,hz2⟩
   dsimp only
   refine go 0 [0,0,0] ?_
   refine qq (f:=290) [0] [1] (by kernel_rfl) _ rfl rfl rfl (fun hc=>ah rfl hc) (qZ 0 od oJ tk275 rfl rfl) (fun hc=>ao (ah rfl hc) (ao (ah rfl hc) rfl)) rfl (fun hc=>kU hv H0 H1 z i (by omega) (by omega) hne hs1) (fun bM=>(go 2 [0] ?_))
   refine aa _ rfl (fun h3 => ?_) (fun h3 => ?_)
   ·skip
    refine go 2 [0,0,0,0] ?_
    refine ae (FZ1 [0,1] Tryz.results235 rfl ?_)
    exact ⟨rfl,_,hP,hD,rfl⟩
   ·skip
    refine go 0 [0,0,0] ?_
    refine LF rfl (ff (f:=293) [] [1] (by kernel_rfl) rfl (qZ 0 oe oJ tk275 rfl rfl) rfl rfl rfl rfl (kV hv H1 i z (by omega) (by omega)) ?_)
    rintro _ _ _ ⟨rfl,rfl⟩
    refine ig (hp':=hpR hb hv (swL H1 i z)) rfl (go 2 [0,0] ?_)
    refine an ?_
    refine ⟨[0,1,2,7],[0],[0,1],rfl,?_⟩
    exact ⟨(swL H1 i z,z),⟨⟨(oG H1 (by omega) (by omega)).trans hP,by rw [aae H1 (by omega) hz2];exact hD,by dsimp only;omega⟩,rfl⟩,by dsimp only;omega⟩
theorem pF(hb:Nat)(hv:Value)(H0 H:List (Sl Int))(p:Sl Int)(hH:H.length≤100000)(hne:∀ p∈H0,p.l≠[])(hsub:∀ q∈H++[p],q∈H0) :
   Con Tryz.prog 197 [.iface 274 (.pointer (some ⟨hb,0,none⟩)),.iface 33 p.val] [bu (ShF bd) H0] (hpR hb hv H) fun _ ps hp=>ps=[]∧∃ (hv':Value) (H':List (Sl Int)),H'.Perm (H++[p])∧hp=hpR hb hv' H':=by
 have hl:(H++[p]).length=H.length+1:=by simp
 refine EN2 Tryz.func197 rfl (go 0 [0,0] ?_)
 refine LF rfl (ff (f:=292) [] [0,1] (by kernel_rfl) rfl (acu zm oJ) rfl rfl rfl rfl (wq hb hv H p (by omega)) ?_)
 rintro _ _ _ ⟨hv1,rfl,rfl⟩
 refine ig (hp':=hpR hb hv1 (H++[p])) rfl (go 0 [0,0] ?_)
 refine LF rfl (ff (f:=289) [] [1] (by kernel_rfl) rfl (qZ 0 re oJ tk275 rfl rfl) rfl rfl rfl rfl (m3 hv1 (H++[p])) ?_)
 rintro _ _ _ ⟨rfl,rfl,rfl⟩
 refine ig (hp':=hpR hb hv1 (H++[p])) rfl ?_
 rw [hl]
 refine go 0 [0] ?_
 refine LF rfl (EC [0] [0,1] rfl ((by rw [show (((H.length+1:Nat):Int)-1)=((H.length:Nat):Int) by omega];exact abz hb hv1 H0 (H++[p]) H.length (by omega) (by omega) hne hsub)) ?_)
 rintro _ _ _ ⟨rfl,H2,hP2,rfl⟩
 refine aST ?_
 refine dJ (FZ0 [0,1] Tryz.results197 ?_)
 exact ⟨rfl,_,_,hP2,rfl⟩
theorem yI(hb:Nat)(hv:Value)(H0 H:List (Sl Int))(hH:H.length≤100000)(h1:H≠[])(hne:∀ p∈H0,p.l≠[])(hsub:∀ q∈H,q∈H0) :
   Con Tryz.prog 198 [.iface 274 (.pointer (some ⟨hb,0,none⟩))] [bu (ShF bd) H0] (hpR hb hv H) fun r ps hp=>ps=[]∧∃ (hv':Value) (H':List (Sl Int)) (p:Sl Int),(p::H').Perm H∧r=.iface 33 p.val∧hp=hpR hb hv' H':=by
 have hlp:=List.length_pos_iff.2 h1
 have hsw:=oG H (i:=0) (j:=H.length-1) (by omega) (by omega)
 have hswl:=vL H 0 (H.length-1)
 refine EN1 Tryz.func198 rfl (go 0 [0,0] ?_)
 refine LF rfl (ff (f:=289) [] [1] (by kernel_rfl) rfl (qZ 0 re oJ tk275 rfl rfl) rfl rfl rfl rfl (m3 hv H) ?_)
 rintro _ _ _ ⟨rfl,rfl,rfl⟩
 refine ig (hp':=hpR hb hv H) rfl (go 3 [0,0] ?_)
 rw [show ((H.length:Int)-1)=((H.length-1:Nat):Int) by omega]
 refine go 0 [0,0] ?_
 refine LF rfl (ff (f:=293) [] [1] (by kernel_rfl) rfl (qZ 0 oe oJ tk275 rfl rfl) rfl rfl rfl rfl (kV hv H 0 (H.length-1) (by omega) (by omega)) ?_)
 rintro _ _ _ ⟨rfl,rfl⟩
 refine ig (hp':=hpR hb hv (swL H 0 (H.length-1))) rfl (go 0 [0,0] ?_)
 refine LF rfl (EC [0] [0,1] rfl (yA hb hv H0 (swL H 0 (H.length-1)) 0 (H.length-1) (by omega) (by omega) (by omega) hne (fun q hq=>hsub q (hsw.mem_iff.1 hq))) ?_)
 rintro _ _ _ ⟨rfl,H2,hP2,_,rfl⟩
 refine aST ?_
 refine aNs ?_
 have hl2:=hP2.length_eq
 obtain ⟨H3,p,rfl⟩:∃ H3 p,H2=H3++[p]:=by
   rcases List.eq_nil_or_concat H2 with h | ⟨l,c,h⟩
   · rw [h] at hl2;simp at hl2;omega
   · exact ⟨l,c,by simpa using h⟩
 rw [List.length_append,List.length_singleton] at hl2
 refine az (aM rfl (LF rfl (ff (f:=291) [] [0,1] (by kernel_rfl) rfl (acu aaR oJ) rfl rfl rfl rfl (yB hb hv H3 p (by omega)) ?_)))
 rintro _ _ _ ⟨hv1,rfl,rfl,rfl⟩
 refine ig (hp':=hpR hb hv1 H3) rfl (go 2 [0] ?_)
 refine ae (FZ1 [0,1] Tryz.results198 rfl ?_)
 exact ⟨rfl,_,_,p,(List.perm_append_comm (l₁:=[p]) (l₂:=H3)).trans (hP2.trans hsw),rfl,rfl⟩
end Go.Proofs.YtgkbbdgklpabpaaGreatDoor

namespace Go.Sy
open Go.RowKit Go.Lp
section
variable {P:Program} {n:Fr} {Q:Exit→Sta→Prop} {ops:Array Oper} {s:Sta} {V W Z:List Nat} {k:Nat} {L:Array Bool}
theorem vf(le lp lh:List Nat)(ok:okH s.hp lh=true)(h:aC P n ops V W Z Q k L (ki s le lp lh)):aC P n ops V W Z Q k L s:=fun w S fp a hst he hn hd=>by
 obtain ⟨h1,h2⟩:=hst.bT lp lh ok
 exact kE (fun _ _ _ h=>h) (fun a' w' hp=>eA.trans (Evo.refl _ _ _) (fun b hb=>.inl (h2 b hb)) hp) _ _ _ _ (h w S _ a h1 (he.sub (eO _ le)) hn hd)
def oE:List Nat→List (List Nat)
 | []=>[[]]
 | x::l=>oE l++(oE l).map (x :: ·)
theorem je(D:Nat→Bool):∀ l:List Nat,l.filter D∈oE l
 | []=>by simp [oE]
 | x::l=>by
   unfold oE
   rw [List.filter_cons]
   split
   · exact List.mem_append_right _ (List.mem_map_of_mem (je D l))
   · exact List.mem_append_left _ (je D l)
def jO(L:Array Bool)(A:List Nat):Array Bool:=A.foldl (fun L j=>L.setIfInBounds j true) L
theorem jd:∀ (A:List Nat) (L:Array Bool),(jO L A).size=L.size
 | [],_=>rfl
 | j::A,L=>by
   show (jO (L.setIfInBounds j true) A).size=_
   rw [jd A,Array.size_setIfInBounds]
theorem oz:∀ (A:List Nat) (L:Array Bool) (i:Nat),i<L.size→(jO L A)[i]? = some (A.contains i || L.getD i false)
 | [],L,i,h=>by show L[i]? = _;simp [Array.getD,h]
 | j :: A,L,i,h=>by
   show (jO (L.setIfInBounds j true) A)[i]? = _
   rw [oz A _ i (by rw [Array.size_setIfInBounds];exact h)]
   congr 1
   rw [List.contains_cons]
   by_cases e:j=i
   · subst e;simp [Array.getD,h]
   · have e2:(i == j)=false:=by simpa using fun h=>e h.symm
     rw [e2,Bool.false_or]
     congr 1
     simp [Array.getD,h,Array.getElem_setIfInBounds,e]
theorem zZ{A B:List Nat}{L:Array Bool}{j:Nat}(h:∀ i,B.contains i=(A.contains i || i == j)):(jO L A).setIfInBounds j true=jO L B:=by
 apply Array.ext_getElem?
 intro i
 by_cases hi:i<L.size
 · rw [oz B L i hi,h i,Array.getElem?_setIfInBounds]
   split
   · rename_i e;subst e
     rw [jd,if_pos hi];simp
   · rename_i e
     have e2:(i == j)=false:=by simpa using fun h=>e h.symm
     rw [oz A L i hi,e2,Bool.or_false]
     try simp [Array.getD,hi]
 · rw [Array.getElem?_eq_none (by rw [Array.size_setIfInBounds,jd];omega),Array.getElem?_eq_none (by rw [jd];omega)]
theorem qo.mono{o:Oper}{b1 b2:Bool}{K K':Sta→Prop}(hK:∀ s,K s→K' s)(h:qo P Z n o s b1 b2 K):qo P Z n o s b1 b2 K':=fun w S fp a hst he hn =>
 bO (fun _ _ ⟨s',S',fp',g1,g⟩=>⟨s',S',fp',hK _ g1,g⟩) (h w S fp a hst he hn)
theorem sq{D:Nat→Bool}{j:Nat}(hD:D j=false):∀ l:List Nat,l.Nodup→j∈l→(l.filter fun i => !(i == j || D i)).length+1=(l.filter fun i => !D i).length
 | [],_,h=>by cases h
 | a :: l,hn,h=>by
   rw [List.nodup_cons] at hn
   rw [List.filter_cons,List.filter_cons]
   by_cases e:a=j
   · subst e
     have:(l.filter fun i => !(i == a || D i))=l.filter fun i => !D i:=List.filter_congr fun x hx=>by
       have:(x == a)=false:=by simpa using fun e:x=a=>hn.1 (e ▸ hx)
       rw [this,Bool.false_or]
     rw [this];simp [hD]
   · have h2:j∈l:=(List.mem_cons.1 h).resolve_left fun e2=>e e2.symm
     have ih:=sq hD l hn.2 h2
     have e3:(a == j)=false:=by simpa using e
     rw [e3,Bool.false_or]
     split
     · rw [List.length_cons,List.length_cons];omega
     · exact ih
theorem xY{α:Type}(J:List Nat)(L0:Array Bool)(F:(Nat→Bool)→(Nat→α)→Sta)(I:(Nat→Bool)→(Nat→α)→Prop)(B:List Nat→Bool)(hB:∀ D vs,I D vs→B (J.filter D)=true)(hnd:J.Nodup)
   (hr:(oE J).all (fun A => !B A || A.length == J.length || (Region.ready .any ops (jO L0 A)).all (fun j=>J.contains j && !A.contains j) && !(Region.ready .any ops (jO L0 A)).isEmpty)=true)
   (hstep:∀ j∈J,∀ D vs,I D vs→D j=false→j∈Region.ready .any ops (jO L0 (J.filter D))→∃ o,ops[j]? = some o∧guardOf ops (F D vs).env o=some true∧qo P Z n o (F D vs) (!V.contains j) (!W.contains j) (fun s'=>∃ le lp lh v,I (fun i=>i == j || D i) (fun i=>if i=j then v else vs i)∧okH s'.hp lh=true∧ki s' le lp lh=F (fun i=>i == j || D i) (fun i=>if i=j then v else vs i)))
   (hend:∀ D vs,I D vs→(∀ j∈J,D j=true)→aC P n ops V W Z Q k (jO L0 J) (F D vs)) :
   ∀ (p:Nat) (D:Nat→Bool) (vs:Nat→α),I D vs→(J.filter fun j => !D j).length=p→aC P n ops V W Z Q (k+p) (jO L0 (J.filter D)) (F D vs)
 | 0,D,vs,hI,hp=>by
   have h0:∀ j∈J,D j=true:=fun j hj=>by
     have:=List.length_eq_zero_iff.1 hp
     cases hD:D j with
     | true=>rfl
     | false =>
       have hm:j∈J.filter fun j => !D j:=List.mem_filter.2 ⟨hj,by rw [hD];rfl⟩
       rw [this] at hm;cases hm
   rw [List.filter_eq_self.2 h0]
   exact hend D vs hI h0
 | p + 1,D,vs,hI,hp=>by
   have h1:=List.all_eq_true.1 hr _ (je D J)
   have hlen:(J.filter D).length+(p+1)=J.length:=by
     rw [← hp]
     have:∀ l:List Nat,(l.filter D).length+(l.filter fun j => !D j).length=l.length:=fun l=>by
       induction l with
       | nil=>rfl
       | cons a l ih=>rw [List.filter_cons,List.filter_cons];cases D a<;>simp<;>omega
     exact this J
   have hne:((J.filter D).length == J.length)=false:=by rw [beq_eq_false_iff_ne];omega
   rw [hB D vs hI,Bool.not_true,Bool.false_or,hne,Bool.false_or,Bool.and_eq_true] at h1
   obtain ⟨h1,h2⟩:=h1
   cases hrd:Region.ready .any ops (jO L0 (J.filter D)) with
   | nil=>rw [hrd,List.isEmpty_nil] at h2;cases h2
   | cons i js =>
     rw [hrd] at h1
     refine ed i js hrd fun j hj => ?_
     have h3:=List.all_eq_true.1 h1 j hj
     simp only [Bool.and_eq_true,List.contains_iff_mem,Bool.not_eq_true'] at h3
     obtain ⟨hjJ,hjD⟩:=h3
     have hDj:D j=false:=by
       cases hD:D j with
       | false=>rfl
       | true =>
         have:(J.filter D).contains j=true:=by rw [List.contains_iff_mem];exact List.mem_filter.2 ⟨hjJ,hD⟩
         rw [this] at hjD;cases hjD
     obtain ⟨o,ho,hg,hE⟩:=hstep j hjJ D vs hI hDj (by rw [hrd];exact hj)
     refine ⟨o,ho,hg,hE.mono fun s' ⟨le,lp,lh,v,hI2,ok,hs⟩=>vf le lp lh ok ?_⟩
     rw [hs,zZ (B:=J.filter fun i=>i == j || D i) (fun i=>by
       rw [Bool.eq_iff_iff,Bool.or_eq_true,List.contains_iff_mem,List.contains_iff_mem,List.mem_filter,List.mem_filter,Bool.or_eq_true,beq_iff_eq]
       constructor
       · rintro ⟨h1,h2 | h2⟩
         · exact .inr h2
         · exact .inl ⟨h1,h2⟩
       · rintro (⟨h1,h2⟩ | h2)
         · exact ⟨h1,.inr h2⟩
         · exact ⟨h2 ▸ hjJ,.inl h2⟩)]
     exact xY J L0 F I B hB hnd hr hstep hend p _ _ hI2 (by have:=sq (D:=D) hDj J hnd hjJ;omega)
theorem sU{J:List Nat}{L0:Array Bool}{j:Nat}(bs:List Nat)(h:(oE J).all (fun A => !(Region.ready .any ops (jO L0 A)).contains j || bs.all A.contains)=true){D:Nat→Bool}(hj:j∈Region.ready .any ops (jO L0 (J.filter D))):∀ b∈bs,D b=true:=fun b hb=>by
 have h1:=List.all_eq_true.1 h _ (je D J)
 rw [List.contains_iff_mem.2 hj,Bool.not_true,Bool.false_or] at h1
 have h2:=List.all_eq_true.1 h1 b hb
 exact (List.mem_filter.1 (List.contains_iff_mem.1 h2)).2
theorem mr{φ:Prop}(h0:∀ w S fp,St w S fp s.ps s.hp→φ)(h:φ→aC P n ops V W Z Q k L s):aC P n ops V W Z Q k L s:=fun w S fp a hst he hn hd=>h (h0 w S fp hst) w S fp a hst he hn hd
end
end Go.Sy

