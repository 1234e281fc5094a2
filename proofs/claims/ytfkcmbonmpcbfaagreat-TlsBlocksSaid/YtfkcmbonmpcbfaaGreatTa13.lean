/- Parts of the proof, in build order. No condition. -/
import Derived.Test.YtfkcmbonmpcbfaaGreatTa12
import Derived.Test.YtfkcmbonmpcbfaaGreatTa05
import Derived.Test.YtfkcmbonmpcbfaaGreatTa10
set_option linter.unusedSimpArgs false
set_option linter.unusedVariables false
set_option maxHeartbeats 1000000
set_option maxRecDepth 20000
namespace Go.Proofs.YtfkcmbonmpcbfaaGreat
open Go.RowKit Go.Lp Go.Sy Go.Lv
open Go.Proofs.Tryz
attribute [local irreducible] aL aB awp aC fwp Quiet
theorem acV(l:List Int):∀ r∈eR l,r.length=1:=fun r hr=>by obtain ⟨z,_,rfl⟩:=List.mem_map.1 hr;rfl
theorem uO(B0 cp:Nat)(A D:List Int)(hD:D≠[])(hl:D.length≤1000000) :
   Con Tryz.prog 347 [.slice (some ⟨B0,A.length*1,none⟩) D.length (cp-A.length)] [] [az (.slice (some ⟨B0,0,none⟩) (A++D).length cp) 3 1 (eR (A++D))]
     fun r ps hp=>ps=[]∧hp=[az (.slice (some ⟨B0,0,none⟩) (A++D).length cp) 3 1 (eR (A++D)),az r 3 1 (eR D)]:=by
 refine (Con.borrowL (n0 (ad:=some ⟨B0,A.length*1,none⟩) (c:=cp-A.length) D hl) [az (.slice (some ⟨B0,0,none⟩) (A++D).length cp) 3 1 (eR (A++D))] (fun w S fp h => ?_) fun v ps' hp' ⟨_,e⟩ r hr => ?_).post fun v ps' hp' ⟨h1,ps2,hp2,⟨_,h3⟩,h5⟩=>⟨h1,by rw [h5,h3];rfl⟩
 · have h0:=aaJ (k:=A.length) (h 0 _ rfl) (acV _) (by rw [List.length_map,List.length_append];have:=List.length_pos_iff.2 hD;omega)
   have e:(eR (A++D)).drop A.length=eR D:=by rw [← List.map_drop,List.drop_left]
   rw [e,List.length_map] at h0
   exact h0.mono (fun _ _=>rfl) fun b hb=>hb.imp id fun hf=>⟨0,by simp,hf⟩
 · rw [e] at hr;rw [List.mem_singleton.1 hr]
   exact yH fun r hr d hd=>by
     obtain ⟨z,_,rfl⟩:=List.mem_map.1 hr
     rw [List.mem_singleton.1 hd];exact ⟨_,rfl⟩
theorem ue{part p:List Int}{u:Int}{k:Nat}{w:Int}(h:p[k]? = some w):dB part u (p.take (k+1))=(dB part u (p.take k)).set w.toNat u:=by
 unfold dB;rw [List.take_add_one,h,List.foldl_append];rfl
theorem xO(bf:Nat)(nx iv lv sv pv qv:Value)(A B part:List Int)(v:Int)(P:List (Sl Int))(hv:v ∉ B)(hlen:(A++v::B).length≤1000000)(hpr:∀ x∈v::B,0≤x∧x<part.length)(hP:P.length≤1000000) :
   Con Tryz.prog 372 [.pointer (some ⟨bf,0,none⟩),.int .i64 v] [] [Box bf 406 [nx,iv,lv,sv,pv,qv],az sv 3 1 (eR (A++v::B)),az pv 3 1 (eR part),az qv 26 1 (P.map slR)]
     fun _ ps hp=>∃ (pl:Sl Int) (sv' qv':Value),pl.l.Perm (v::B)∧ps=[ShF b9 pl]∧hp=[Box bf 406 [nx,iv,lv,sv',pv,qv'],az sv' 3 1 (eR A),az pv 3 1 (eR (dB part ((P.length:Int)+1) pl.l)),az qv' 26 1 ((P++[pl]).map slR)]:=by
 obtain ⟨S,hS⟩:∃ S,S=A++v::B:=⟨_,rfl⟩
 rw [← hS] at hlen ⊢
 have hSl:S.length=A.length+(B.length+1):=by rw [hS];simp
 have hSA:S[A.length]? = some v:=by rw [hS];simp
 have hSB:∀ i z,A.length<i→S[i]? = some z→z≠v:=fun i z hi hz e=>by
   rw [hS,List.getElem?_append_right (by omega)] at hz
   obtain ⟨k,hk⟩:∃ k,i-A.length=k+1:=⟨i-A.length-1,by omega⟩
   rw [hk,List.getElem?_cons_succ] at hz
   exact hv (e ▸ List.mem_of_getElem? hz)
 have hE:(eR S).length=S.length:=List.length_map _
 refine EN2 Tryz.func372 rfl (aSR (aM rfl (UN rfl rfl (UO 3 rfl rfl (UL 0 tk26 rfl rfl rfl rfl (aU rfl (dA 1 Tryz.underlying26 rfl rfl) (aU rfl (bQ rfl rfl (by omega)) (aA rfl (aNs (ao ?_))))))))))
 refine aP [0,1,4] [] [0,1,2,3] (fun (i:Nat) st=>(A.length≤i∧i<S.length)∧st=⟨[(0,true,.pointer (some ⟨bf,0,none⟩)),(1,true,.int .i64 v),(4,true,.int .i64 i)],[],[Box bf 406 [nx,iv,lv,sv,pv,qv],az sv 3 1 (eR S),az pv 3 1 (eR part),az qv 26 1 (P.map slR)]⟩) (fun i=>i) rfl (⟨S.length-1,⟨by omega,by omega⟩,by rw [show ((S.length-1:Nat):Int)=(S.length:Int)-1 by omega,List.length_map];rfl⟩) ?_
 rintro i st ⟨⟨hiA,hiS⟩,rfl⟩
 obtain ⟨z,hz⟩:∃ z,S[i]? = some z:=⟨_,List.getElem?_eq_getElem hiS⟩
 refine aq (aSR (aM rfl (UN rfl rfl (UO 3 rfl rfl (UL 0 tk26 rfl rfl rfl rfl (aM rfl ?_))))))
 refine aU rfl (bA 1 i el26 rfl rfl rfl rfl (by rw [List.length_map];exact hiS)) ?_
 refine aU rfl (ba 1 i 0 tk3 rfl rfl (aH hz) rfl rfl) (aM rfl (aU rfl (dE rfl rfl) (aNn ?_)))
 refine ah _ rfl (fun h1 => ?_) (fun h1 => ?_)
 ·skip
  have hzv:z≠v:=by simpa using h1
  have hlt:A.length<i:=by
    rcases Nat.lt_or_ge A.length i with h | h
    · exact h
    · obtain rfl:i=A.length:=by omega
      rw [hSA] at hz;exact absurd (Option.some.inj hz).symm hzv
  refine ai (ak (ao (ae (aM rfl (aU rfl (bQ rfl rfl (by omega)) (aA rfl (bE (bb (ak ?_)))))))))
  refine ⟨[0,1,4],[],[0,1,2,3],rfl,?_⟩
  exact ⟨i-1,⟨⟨by omega,by omega⟩,by rw [show ((i-1:Nat):Int)=(i:Int)-1 by omega];rfl⟩,by omega⟩
 ·skip
  have hzv:z=v:=by simpa using h1
  obtain rfl:i=A.length:=by
    rcases Nat.lt_or_ge A.length i with h | h
    · exact absurd hzv (hSB i z h hz)
    · omega
  refine aQ (aR (aR (aX (ak (aq ?_)))))
  refine dQ 1 rfl (fun h0=>by have:=congrArg List.length h0;rw [hE,List.length_nil] at this;omega) (fun B0 cp hv0 hcp => ?_)
  rw [hE] at hv0 hcp
  subst hv0
  refine ae (aM rfl (UN rfl rfl (UO 3 rfl rfl (UL 0 tk26 rfl rfl rfl rfl (aM rfl ?_)))))
  refine aU rfl (jx A.length (v::B).length (A.length*1) el26 rfl rfl rfl (by omega) hcp (by rw [hSl,List.length_cons];omega) (by omega)) ?_
  refine LF rfl (EC [] [1] rfl ((by rw [hS];exact uO B0 cp A (v::B) (by simp) (by rw [hSl] at hlen;simp;omega))) ?_)
  rintro r3_6 _ _ ⟨rfl,rfl⟩
  refine aST ?_
  refine aA rfl (aNn (aSR (aM rfl (aM rfl (UN rfl rfl (UO 3 rfl rfl (UL 0 tk26 rfl rfl rfl rfl (aM rfl (aU rfl (fJ A.length el26 rfl rfl rfl (by omega) hcp) (UN rfl rfl (UO 3 rfl rfl (aJ rfl (aV 0 tk26 rfl rfl rfl rfl (aHK ?_))))))))))))))
  refine aNs ?_
  refine eV 1 (az (.slice (some ⟨B0,0,none⟩) A.length cp) 3 1 (eR A)) rfl (fun w S F h=>by have:=qC (k:=A.length) (by rw [List.length_map,List.length_append];omega) h;rwa [show (eR (A++v::B)).take A.length=eR A by rw [← List.map_take,List.take_left]] at this) ?_
  refine ae (aM rfl ?_)
  refine LF rfl (EC [] [4] rfl (jm (v::B) (by rw [hSl] at hlen;simp;omega)) ?_)
  rintro _ _ _ ⟨rfl,rfl⟩
  refine aST ?_
  refine aNs ?_
  have hsp:(eA (v::B)).Perm (v::B):=List.mergeSort_perm _ _
  generalize eA (v::B)=p at hsp
  have hpl:=hsp.length_eq
  rw [List.length_cons] at hpl
  refine sq 4 rfl (fun ad cpp hv4 => ?_)
  rw [show (bO encI p).length=p.length by simp [bO]] at hv4
  subst hv4
  refine jM 4 (ShF b9 ⟨ad,cpp,p⟩) rfl (fun _ _ _ h=>kK h) ?_
  show awp _ _ _ _ ⟨_,[ShF b9 _],[_,_,_,_,emp]⟩
  refine ae (aM rfl (aM rfl (UN rfl rfl (UO 5 rfl rfl (UL 0 tk381 rfl rfl rfl rfl (aM rfl (LT rfl (WL (zs:=[.slice none 0 0]) el381 rfl rfl rfl (.more rfl (.v rfl .nil) .nil) rfl rfl (fun v6_6=>(aHN ?_))))))))))
  refine aJ rfl (cB 3 el381 rfl rfl rfl rfl (dK 5 el381 rfl (by simp)) (by first | assumption | simp) (by show (P.map slR).length+1≤_;rw [List.length_map];exact Nat.le_trans (show P.length+1≤1000001 by omega) (by decide)) (P.length+1) (by simp) (fun v6_7 c6_7 => ?_))
  refine aHK ?_
  refine UN rfl rfl (UO 5 rfl rfl (aJ rfl (aV 0 tk381 rfl rfl rfl rfl (aHK ?_))))
  refine aNn (aSR (aM rfl (aU rfl (aY Tryz.underlying26 rfl) (aM rfl (aNn (ao ?_))))))
  refine aP [0,53,54,55] [0] [0,1,2,3] (fun (k:Nat) st=>k≤p.length∧st=⟨[(0,true,.pointer (some ⟨bf,0,none⟩)),(53,true,.slice ad p.length cpp),(54,true,.int .i64 p.length),(55,true,.int .i64 k)],[ShF b9 ⟨ad,cpp,p⟩],[Box bf 406 [nx,iv,lv,.slice (some ⟨B0,0,none⟩) A.length cp,pv,.slice v6_7 (P.length+1) c6_7],az (.slice (some ⟨B0,0,none⟩) A.length cp) 3 1 (eR A),az pv 3 1 (eR (dB part ((P.length:Int)+1) (p.take k))),az (.slice v6_7 (P.length+1) c6_7) 26 1 ((P++[(⟨ad,cpp,p⟩:Sl Int)]).map slR)]⟩) (fun k=>p.length-k) rfl (⟨0,Nat.zero_le _,by rw [List.map_append];rfl⟩) ?_
  rintro k st ⟨hk,rfl⟩
  refine aSR (aU rfl (bd rfl rfl) (aNs ?_))
  refine ah _ rfl (fun h2 => ?_) (fun h2 => ?_)
  ·skip
   have hk':k<p.length:=by simpa using h2
   obtain ⟨w,hw⟩:∃ w,p[k]? = some w:=⟨_,List.getElem?_eq_getElem hk'⟩
   have hwr:=hpr w (hsp.mem_iff.1 (List.mem_of_getElem? hw))
   have hsn:=ue (part:=part) (u:=(P.length:Int)+1) hw
   have hsl:=oY ((P.length:Int)+1) (p.take k) part
   obtain ⟨w0,rfl⟩:=Int.eq_ofNat_of_zero_le hwr.1
   obtain ⟨po,hpo⟩:∃ z,(dB part ((P.length:Int)+1) (p.take k))[w0]? = some z:=⟨_,List.getElem?_eq_getElem (by omega)⟩
   refine ai (ak (aq (ao (aSR (UI Tryz.underlying26 tk3 0 rfl rfl rfl rfl rfl (aH hw) rfl rfl (fun ⟨b9_0,o9_0⟩=>(US 0 tk3 0 rfl rfl rfl rfl rfl (aA rfl (aNn (DR [11] 12 (VM 0 rfl rfl (VN 1 rfl rfl rfl (VO 2 4 rfl rfl rfl (VL 3 0 tk26 rfl rfl rfl rfl rfl (VM 4 rfl rfl ?_)))))))))))))))
   refine VM 5 rfl rfl (VN 6 rfl rfl rfl (VO 7 5 rfl rfl rfl (VL 8 0 tk381 rfl rfl rfl rfl rfl (bV 9 rfl rfl (dA 3 Tryz.underlying381 rfl rfl) ?_))))
   refine bV 10 rfl rfl (bA 2 w0 el26 rfl rfl rfl rfl (by rw [List.length_map];omega)) ?_
   refine VE 11 rfl rfl (cA 2 w0 0 tk3 rfl rfl rfl (aH hpo) rfl (.v rfl .nil) rfl (by decide) (bST rfl ?_))
   refine BN (bb (ak (ae (aU rfl (aO rfl rfl (by omega)) (aM rfl (aNn ?_))))))
   refine ⟨[0,53,54,55],[0],[0,1,2,3],rfl,?_⟩
   refine ⟨k+1,⟨by omega,?_⟩,by omega⟩
   rw [hsn,List.length_map,List.length_append]
   show _=(⟨_,_,[_,_,az pv _ 1 ((List.set _ (w0:Int).toNat _).map b9),_]⟩:Sta)
   rw [List.map_set];rfl
  ·skip
   refine aQ (aR (aR (aX ?_)))
   refine yD [0] [0,1,2,3] rfl Tryz.results372 ?_ (.inl rfl)
   have hkp:k=p.length:=by simp at h2;omega
   subst hkp
   rw [List.take_length]
   exact ⟨⟨ad,cpp,p⟩,_,_,hsp,rfl,rfl⟩
theorem uP(bf:Nat)(nx iv lv sv pv qv:Value)(A B part:List Int)(v:Int)(P:List (Sl Int))(hv:v ∉ B)(hlen:(A++v::B).length≤1000000)(hpr:∀ x∈v::B,0≤x∧x<part.length)(hP:P.length≤1000000) :
   Con Tryz.prog 372 [.pointer (some ⟨bf,0,none⟩),.int .i64 v] [bN (ShF b9) P] [Box bf 406 [nx,iv,lv,sv,pv,qv],az sv 3 1 (eR (A++v::B)),az pv 3 1 (eR part),az qv 26 1 (P.map slR)]
     fun _ ps hp=>∃ (pl:Sl Int) (sv' qv':Value),pl.l.Perm (v::B)∧ps=[bN (ShF b9) (P++[pl])]∧hp=[Box bf 406 [nx,iv,lv,sv',pv,qv'],az sv' 3 1 (eR A),az pv 3 1 (eR (dB part ((P.length:Int)+1) pl.l)),az qv' 26 1 ((P++[pl]).map slR)] :=
 Con.conv (((xO bf nx iv lv sv pv qv A B part v P hv hlen hpr hP).pre (ps0:=[bN (ShF b9) P]) fun p hp=>by cases hp).keepF) fun _ ps' hp' ⟨ps0,e,pl,sv',qv',h1,h2,h3⟩=>by
   subst e h2 h3
   exact ⟨_,_,StE.ents (ps':=[bN (ShF b9) (P++[pl])]) (fun p hp=>by
     rw [List.mem_singleton.1 hp]
     exact fun w S hps x hx=>(List.mem_append.1 hx).elim (fun h=>hps (bN (ShF b9) P) (by simp) x h) fun h=>by rw [List.mem_singleton.1 h];exact hps (ShF b9 pl) (by simp)),pl,sv',qv',h1,rfl,rfl⟩
end Go.Proofs.YtfkcmbonmpcbfaaGreat

namespace Go.Lv
open Go.Sy
theorem ow{N:Nat}{nx:List (List Int)}{r:Int}{s:TS}(h:TI N nx r s){w:Int}(hw:0≤w∧w<N)(x:Int)(hx:0≤x)(he:elt s.idx x≠0):elt (ew s w).idx x≠0:=by
 have hli:=h.li
 have hc:=h.cnt0
 show elt (s.idx.set w.toNat (s.cnt+1)) x≠0
 rw [fy hw.1 (by omega) hx]
 split
 · omega
 · exact he
theorem aal{N:Nat}{nx:List (List Int)}{r:Int}{s:TS}(h:TI N nx r s){w:Int}(hw:0≤w∧w<N):elt (ew s w).idx w≠0:=by
 have hli:=h.li
 have hc:=h.cnt0
 show elt (s.idx.set w.toNat (s.cnt+1)) w≠0
 rw [fy hw.1 (by omega) hw.1,if_pos rfl];omega
theorem abi{N:Nat}{nx:List (List Int)}{r:Int}{s:TS}(h:TI N nx r s):s.stk.length≤N:=by
 have h3:=dt (fun _=>1) (s.stk.map Int.toNat) (List.range N) (dF h.nd fun q hq=>((h.stk q).1 hq).1.1) (fun q hq=>by
   obtain ⟨x,hx,e⟩:=List.mem_map.1 hq
   have:=((h.stk x).1 hx).1
   exact List.mem_range.2 (by omega))
 have e:∀ l:List Nat,(l.map fun _=>1).sum=l.length:=fun l=>by induction l with
   | nil=>rfl
   | cons a l ih=>rw [List.map_cons,List.sum_cons,ih,List.length_cons];omega
 rw [e,e,List.length_map,List.length_range] at h3
 exact h3
theorem PL.count{N:Nat}{part:List Int}{ps:List (List Int)}(h:PL N part ps):ps.length≤N:=by
 have hx:∀ (i:Nat) (p:List Int),ps[i]? = some p→(0≤p.headD 0∧p.headD 0<N)∧elt part (p.headD 0)=(i:Int)+1:=fun i p hp=>h.of i p hp _ (by
   obtain ⟨a,l,rfl⟩:=List.exists_cons_of_ne_nil (h.ne i p hp).1
   exact List.mem_cons_self ..)
 have h3:=dt (fun _=>1) (ps.map fun p=>(p.headD 0).toNat) (List.range N) (List.pairwise_iff_getElem.2 fun i j hi hj hij e=>by
   rw [List.length_map] at hi hj
   have h1:=hx i _ (List.getElem?_eq_getElem hi)
   have h2:=hx j _ (List.getElem?_eq_getElem hj)
   rw [List.getElem_map,List.getElem_map] at e
   have e2:(ps[i]).headD 0=(ps[j]).headD 0:=by have:=h1.1;have:=h2.1;omega
   have h4:=h1.2
   rw [e2,h2.2] at h4
   omega) (fun q hq=>by
   obtain ⟨p,hp,e⟩:=List.mem_map.1 hq
   obtain ⟨i,hi,rfl⟩:=List.mem_iff_getElem.1 hp
   have:=(hx i _ (List.getElem?_eq_getElem hi)).1
   exact List.mem_range.2 (by omega))
 have e:∀ l:List Nat,(l.map fun _=>1).sum=l.length:=fun l=>by induction l with
   | nil=>rfl
   | cons a l ih=>rw [List.map_cons,List.sum_cons,ih,List.length_cons];omega
 rw [e,e,List.length_map,List.length_range] at h3
 exact h3
theorem zS{N:Nat}{nx:List (List Int)}{r:Int}{s:TS}(h:TI N nx r s):s.calls.length≤N:=by
 have h1:=h.sub.length_le
 rw [List.length_map] at h1
 exact Nat.le_trans h1 (abi h)
end Go.Lv
namespace Go.Proofs.YtfkcmbonmpcbfaaGreat
open Go.RowKit Go.Lp Go.Sy Go.Lv
open Go.Proofs.Tryz
attribute [local irreducible] aL aB awp aC fwp Quiet
abbrev cR(c:Int × Int):List D:=[.v (.int .i64 c.1),.v (.int .i64 c.2)]
abbrev wO(bf bc:Nat)(nx iv lv sv pv qv cv:Value)(s:TS)(P:List (Sl Int)):List Res :=
 [Box bf 406 [nx,iv,lv,sv,pv,qv],az iv 3 1 (eR s.idx),az lv 3 1 (eR s.low),az sv 3 1 (eR s.stk),az pv 3 1 (eR s.part),az qv 26 1 (P.map slR),Box bc 3 [.int .i64 s.cnt],az cv 434 2 (s.calls.map cR)]
abbrev nL(nx:Sl (Sl Int)):List (List Int):=nx.l.map (·.l)
theorem vJ(nx:Sl (Sl Int))(v:Int):elt (nL nx) v=(elt nx.l v).l:=by
 unfold elt
 rw [List.getD_eq_getElem?_getD,List.getD_eq_getElem?_getD,List.getElem?_map]
 cases nx.l[v.toNat]? <;> rfl
structure FI (N:Nat) (nx:Sl (Sl Int)) (r:Int) (s0 s:TS) (P:List (Sl Int)):Prop where
 ti:TI N (nL nx) r s
 np:s.np=P.length
 pl:PL N s.part (P.map (·.l))
 mono:∀ v:Int,0≤v→v<N→elt s0.idx v≠0→elt s.idx v≠0
 me:elt s.idx r≠0
 nple:P.length≤N
set_option maxHeartbeats 1000000 in
theorem zZ(N:Nat)(hN:N≤100000)(nx:Sl (Sl Int))(hnl:nx.l.length=N)(hnr:∀ l∈nx.l,∀ w∈l.l,0≤w∧w<N)(bf bc:Nat)(iv lv sv pv qv:Value)(s:TS)(P:List (Sl Int))(r:Nat)(hr:r<N)
   (hs:TI N (nL nx) r s) (hc:s.calls=[]) (hk:s.stk=[]) (h0:elt s.idx (r:Int)=0) (hP:s.np=P.length) (hPN:P.length≤N) (hPL:PL N s.part (P.map (·.l))) :
   Con Tryz.prog 340 [.pointer (some ⟨bf,0,none⟩),.int .i64 r,.pointer (some ⟨bc,0,none⟩)] [ShF slR nx,bN (ShF b9) nx.l,bN (ShF b9) P] (yC bf bc nx.val iv lv sv pv qv s P)
     fun _ ps hp=>∃ (s':TS) (P':List (Sl Int)) (sv' qv':Value),FI N nx r s s' P'∧s'.calls=[]∧s'.stk=[]∧ps=[bN (ShF b9) P']∧hp=yC bf bc nx.val iv lv sv' pv qv' s' P':=by
 have hrr:0≤(r:Int)∧(r:Int)<N:=by omega
 have hcn:=hs.cnt0
 have hst0:=hs.enter hrr h0 (.inr ⟨hk,rfl⟩)
 refine EN3 Tryz.func340 rfl (aSR (LT rfl (bC rfl rfl rfl (fun b0_0=>(aHN ?_)))))
 refine LT rfl (bC rfl rfl rfl (fun b0_1=>(aHN ?_)))
 refine aNs (bj 7 rfl rfl (bj 8 rfl rfl ?_))
 show awp _ _ _ _ ⟨_,[At b0_1 0 [.v (.pointer (some ⟨bc,0,none⟩))],At b0_0 0 [.v (.pointer (some ⟨bf,0,none⟩))],_,_,_],[_,_,_,_,_,_,_,emp,emp]⟩
 refine ae (aU rfl (dy (l:=[.tmp 5,.tmp 3]) rfl) (aA rfl (aNn (aSR (aM rfl (aM rfl ?_))))))
 refine LF rfl (fO [4,3] [0,1,2,3,4,5,6] (by kernel_rfl) rfl rfl rfl rfl rfl (qb bf bc b0_1 b0_0 nx.val iv lv sv pv qv s P r (by rw [hs.li];exact hr) (by rw [hs.ll];exact hr) ⟨hcn.1,by omega⟩ (by rw [hk];exact Nat.zero_le _)) ?_)
 rintro _ _ _ ⟨rfl,rfl,sv1,rfl⟩
 refine aST ?_
 refine LT rfl (WL (zs:=[.int .i64 0,.int .i64 0]) el436 rfl rfl rfl (.more rfl (.v rfl (.v rfl .nil)) .nil) rfl rfl (fun v2_3=>(aHN ?_)))
 refine aA rfl (aNn (ao ?_))
 refine aP [3,6,7] [4,3,2,1,0] [0,1,2,3,4,5,6,9] (fun (q:(Value × Value × Value) × (TS × List (Sl Int))) st=>(FI N nx r s q.2.1 q.2.2∧(q.2.1.calls=[]→q.2.1.stk=[]))∧st=⟨[(3,true,.pointer (some ⟨b0_0,0,none⟩)),(6,true,.func (.func 371) #[] #[.pointer (some ⟨b0_1,0,none⟩),.pointer (some ⟨b0_0,0,none⟩)]),(7,true,q.1.1)],[At b0_1 0 [.v (.pointer (some ⟨bc,0,none⟩))],At b0_0 0 [.v (.pointer (some ⟨bf,0,none⟩))],ShF slR nx,bN (ShF b9) nx.l,bN (ShF b9) q.2.2],wO bf bc nx.val iv lv q.1.2.1 pv q.1.2.2 q.1.1 q.2.1 q.2.2⟩) (fun q=>tmu N (nL nx) q.2.1) rfl (⟨((_,sv1,qv),(ew s r,P)),⟨⟨hst0,hP,hPL,fun v h1 h2 h3=>ow hs hrr v h1 h3,aal hs hrr,hPN⟩,fun h=>by simp [ew] at h⟩,by simp only [ew,hc];rfl⟩) ?_
 rintro ⟨⟨cv,sv1,qv1⟩,s1,P1⟩ st ⟨⟨hI,hE⟩,rfl⟩
 dsimp only at hI hE ⊢
 have hT:=hI.ti
 have hcle:=zS hT
 have hsle:=abi hT
 have hnp:=hI.nple
 refine aq (aSR (aM rfl (aU rfl (dA 7 Tryz.underlying436 rfl rfl) (aU rfl (db rfl rfl) (aNn ?_)))))
 refine ah _ rfl (fun h1 => ?_) (fun h1 => ?_)
 ·skip
  obtain ⟨cs,v,i,hcs⟩:∃ cs v i,s1.calls=cs++[(v,i)]:=by
    rcases List.eq_nil_or_concat s1.calls with h | ⟨cs,c,h⟩
    · rw [h] at h1;simp at h1
    · exact ⟨cs,c.1,c.2,by simpa using h⟩
  obtain ⟨hTp,hvs,hlast⟩:=hT.pop hcs
  have hvr:=((hT.stk v).1 hvs).1
  obtain ⟨v0,rfl⟩:=Int.eq_ofNat_of_zero_le hvr.1
  have hci:=hT.ci ((v0:Int),i) (by rw [hcs];simp)
  dsimp only at hci
  rw [vJ] at hci
  have hcl:(s1.calls.map cR).length=cs.length+1:=by rw [hcs];simp
  have hrow:(s1.calls.map cR)[cs.length]? = some (cR ((v0:Int),i)):=by rw [hcs];simp
  have hnv:nx.l[v0]? = some (elt nx.l (v0:Int)):=dG (by omega)
  rw [List.length_map] at hcl
  refine ct (Ent.all (f:=ShF b9) (.of (aF 3 rfl)) hnv) (fun hln=>(ai (ak (ao (aq ?_)))))
  refine dQ 7 rfl (fun h0=>by rw [hcs] at h0;simp at h0) (fun Bc ccp hvc hcc => ?_)
  rw [List.length_map,hcl] at hvc hcc
  subst hvc
  have hcl2:(s1.calls.map cR).length=cs.length+1:=by rw [List.length_map,hcl]
  refine ae (aM rfl (aM rfl (aU rfl (dA 7 Tryz.underlying436 rfl rfl) (aU rfl (bQ rfl rfl (by omega)) (aU rfl (ez cs.length el436 rfl rfl (by omega) (by omega)) (aA rfl (aNs (aq (DR [] 16 (VM 0 rfl rfl (VN 1 rfl rfl rfl (VO 2 1 rfl rfl rfl (bV 3 rfl rfl (ba (v:=.slice (some ⟨Bc,0,none⟩) (cs.length+1) ccp) (u:=.int .i64 i) 7 cs.length 1 tk3 rfl rfl hrow rfl rfl) (VD 4 0 tk432 1 rfl rfl rfl rfl rfl (VN 5 rfl rfl rfl ?_)))))))))))))))
  refine VO 6 0 rfl rfl rfl (VL 7 0 tk381 rfl rfl rfl rfl rfl (VM 8 rfl rfl (VN 9 rfl rfl rfl (VO 10 0 rfl rfl rfl (bV 11 rfl rfl (ba (v:=.slice (some ⟨Bc,0,none⟩) (cs.length+1) ccp) (u:=.int .i64 (v0:Int)) 7 cs.length 0 tk3 rfl rfl hrow rfl rfl) (XI 12 Tryz.underlying381 tk26 2 rfl rfl rfl rfl rfl rfl (aH hnv) rfl rfl (fun ⟨b5_12,o5_12⟩=>(VT 13 0 tk26 0 rfl rfl rfl rfl rfl rfl (bV 14 rfl rfl (aY Tryz.underlying26 rfl) (bV 15 rfl rfl (bd rfl rfl) (BN (ak ?_))))))))))))
  refine ah _ rfl (fun h2 => ?_) (fun h2 => ?_)
  ·skip
   have hi2:i<((elt nx.l (v0:Int)).l.length:Int):=by simpa using h2
   obtain ⟨i0,rfl⟩:=Int.eq_ofNat_of_zero_le hci.1
   obtain ⟨w,hw⟩:∃ w,(elt nx.l (v0:Int)).l[i0]? = some w:=⟨_,List.getElem?_eq_getElem (by omega)⟩
   have hwr:=hnr _ (List.mem_of_getElem? hnv) w (List.mem_of_getElem? hw)
   obtain ⟨w0,rfl⟩:=Int.eq_ofNat_of_zero_le hwr.1
   have hT2:=hT.adv hcs (by rw [vJ];exact hi2)
   have hmu:=aci (N:=N) (nx:=nL nx) hcs (Int.natCast_nonneg i0) (by rw [vJ];exact hi2)
   have hset:(s1.calls.map cR).set cs.length (jc (cR ((v0:Int),(i0:Int))) 1 [.v (.int .i64 ((i0:Int)+1))])=(cs++[((v0:Int),(i0:Int)+1)]).map cR:=by rw [hcs];simp [jc]
   have hix:s1.idx[w0]? = some (elt s1.idx (w0:Int)):=dG (by rw [hT.li];omega)
   have hpx:s1.part[w0]? = some (elt s1.part (w0:Int)):=dG (by rw [hT.lp];omega)
   have hlx:s1.low[v0]? = some (elt s1.low (v0:Int)):=dG (by rw [hT.ll];omega)
   have hrow2:((cs++[((v0:Int),(i0:Int)+1)]).map cR)[cs.length]? = some (cR ((v0:Int),(i0:Int)+1)):=by simp
   refine aq (DR [] 17 (VD 0 0 tk432 2 rfl rfl rfl rfl rfl (VN 1 rfl rfl rfl (VO 2 0 rfl rfl rfl (VL 3 0 tk381 rfl rfl rfl rfl rfl (VM 4 rfl rfl (VN 5 rfl rfl rfl (VO 6 0 rfl rfl rfl (bV 7 rfl rfl (ba (v:=.slice (some ⟨Bc,0,none⟩) (cs.length+1) ccp) (u:=.int .i64 (v0:Int)) 7 cs.length 0 tk3 rfl rfl hrow rfl rfl) (XI 8 Tryz.underlying381 tk26 3 rfl rfl rfl rfl rfl rfl (aH hnv) rfl rfl (fun ⟨b6_8,o6_8⟩=>(VT 9 0 tk26 0 rfl rfl rfl rfl rfl rfl (VM 10 rfl rfl (VN 11 rfl rfl rfl (VO 12 1 rfl rfl rfl ?_)))))))))))))))
   refine bV 13 rfl rfl (ba (v:=.slice (some ⟨Bc,0,none⟩) (cs.length+1) ccp) (u:=.int .i64 (i0:Int)) 7 cs.length 1 tk3 rfl rfl hrow rfl rfl) (nf 14 rfl (by kernel_rfl) true rfl rfl (fun _=>aZ Tryz.underlying26 tk3 rfl ((Ent.all (f:=ShF b9) (.of (aF 5 rfl)) hnv)) rfl (aH hw) rfl rfl) (fun h=>absurd h (by decide)) (fun ⟨b6_14,o6_14⟩=>(VT 15 0 tk3 0 rfl rfl rfl rfl rfl rfl (bV 16 rfl rfl (bz rfl) (BN (ak (aSR (aM rfl (UN rfl rfl (UO 1 rfl rfl (aU rfl (ba (v:=.slice (some ⟨Bc,0,none⟩) (cs.length+1) ccp) (u:=.int .i64 (i0:Int)) 7 cs.length 1 tk3 rfl rfl hrow rfl rfl) (aU rfl (aO rfl rfl (by omega)) (UN rfl rfl (UO 1 rfl rfl ?_))))))))))))))
   refine LF rfl (cA (v:=.slice (some ⟨Bc,0,none⟩) (cs.length+1) ccp) 7 cs.length 1 tk3 rfl rfl rfl hrow rfl (.v rfl .nil) rfl (by decide) (aHK ?_))
   refine aNs (aq ?_)
   rw [hset]
   refine ae (UD 0 tk432 4 rfl rfl rfl rfl (UN rfl rfl (UO 1 rfl rfl (UL 0 tk26 rfl rfl rfl rfl (aM rfl ?_)))))
   refine aU rfl (bA 1 w0 el26 rfl rfl rfl rfl (by rw [List.length_map,hT.li];omega)) ?_
   refine aU rfl (ba (u:=.int .i64 (elt s1.idx (w0:Int))) 1 w0 0 tk3 rfl rfl (aH hix) rfl rfl) (aU rfl (bp rfl rfl) (aNn ?_))
   refine ah _ rfl (fun h3 => ?_) (fun h3 => ?_)
   ·skip
    have hw0:elt s1.idx (w0:Int)=0:=by simpa using h3
    have hT3:=hT2.enter hwr hw0 (.inl (by simp))
    have hmu3:=zx hT2 hwr hw0
    refine ae (aM rfl (aM rfl (aM rfl ?_)))
    refine LF rfl (fO [4,3] [0,1,2,3,4,5,6] (by kernel_rfl) rfl rfl rfl rfl rfl (qb bf bc b0_1 b0_0 nx.val iv lv sv1 pv qv1 s1 P1 w0 (by rw [hT.li];omega) (by rw [hT.ll];omega) ⟨hT.cnt0.1,by have:=hT.cnt0.2;omega⟩ (by omega)) ?_)
    rintro _ _ _ ⟨rfl,rfl,sv2,rfl⟩
    refine aST ?_
    refine LT rfl (WL (zs:=[.int .i64 0,.int .i64 0]) el436 rfl rfl rfl (.more rfl (.v rfl (.v rfl .nil)) .nil) rfl rfl (fun v9_4=>(aHN ?_)))
    refine aJ rfl (cB 7 el436 rfl rfl rfl rfl (dK 8 el436 rfl (by simp)) (by first | assumption | simp) (by simp;omega) (cs.length+2) (by simp) (fun v9_5 c9_5 => ?_))
    refine aHK ?_
    refine aA rfl (aNn (aQ (aR (aX (ak ?_)))))
    refine ⟨[3,6,7],[4,3,2,1,0],[0,1,2,3,4,5,6,7],rfl,?_⟩
    exact ⟨((.slice v9_5 (cs.length+2) c9_5,sv2,qv1),(ew { s1 with calls:=cs++[((v0:Int),(i0:Int)+1)] } w0,P1)),⟨⟨⟨hT3,hI.np,hI.pl,fun x h1 h2 h3=>ow hT2 hwr x h1 (hI.mono x h1 h2 h3),ow hT2 hwr r hrr.1 hI.me,hI.nple⟩,fun h=>by simp [ew] at h⟩,by simp only [ew,wO,List.map_append];rfl⟩,by dsimp only;omega⟩
   ·skip
    refine aSR (UD 0 tk432 4 rfl rfl rfl rfl (UN rfl rfl (UO 4 rfl rfl (UL 0 tk26 rfl rfl rfl rfl (aM rfl ?_)))))
    refine aU rfl (bA 4 w0 el26 rfl rfl rfl rfl (by rw [List.length_map,hT.lp];omega)) ?_
    refine aU rfl (ba (u:=.int .i64 (elt s1.part (w0:Int))) 4 w0 0 tk3 rfl rfl (aH hpx) rfl rfl) (aU rfl (bp rfl rfl) (aNn ?_))
    refine ah _ rfl (fun h4 => ?_) (fun h4 => ?_)
    ·skip
     have hws:(w0:Int)∈s1.stk:=(hT.stk _).2 ⟨hwr,by simpa using h3,by simpa using h4⟩
     have hT4:=hT2.lower hvs (hT2.low' _ hws).2
     refine DR [27] 28 (VD 0 0 tk432 4 rfl rfl rfl rfl rfl (VN 1 rfl rfl rfl (VO 2 2 rfl rfl rfl (VL 3 0 tk26 rfl rfl rfl rfl rfl (VM 4 rfl rfl (VN 5 rfl rfl rfl (VO 6 0 rfl rfl rfl (bV 7 rfl rfl (ba (v:=.slice (some ⟨Bc,0,none⟩) (cs.length+1) ccp) (u:=.int .i64 (v0:Int)) 7 cs.length 0 tk3 rfl rfl hrow2 rfl rfl) (VD 8 0 tk432 4 rfl rfl rfl rfl rfl (VN 9 rfl rfl rfl (VO 10 2 rfl rfl rfl (VL 11 0 tk26 rfl rfl rfl rfl rfl (VM 12 rfl rfl (VN 13 rfl rfl rfl (VO 14 0 rfl rfl rfl ?_)))))))))))))))
     refine bV 15 rfl rfl (ba (v:=.slice (some ⟨Bc,0,none⟩) (cs.length+1) ccp) (u:=.int .i64 (v0:Int)) 7 cs.length 0 tk3 rfl rfl hrow2 rfl rfl) ?_
     refine bV 16 rfl rfl (bA 2 v0 el26 rfl rfl rfl rfl (by rw [List.length_map,hT.ll];omega)) ?_
     refine bV 17 rfl rfl (ba (u:=.int .i64 (elt s1.low (v0:Int))) 2 v0 0 tk3 rfl rfl (aH hlx) rfl rfl) (VD 18 0 tk432 4 rfl rfl rfl rfl rfl (VN 19 rfl rfl rfl (VO 20 1 rfl rfl rfl (VL 21 0 tk26 rfl rfl rfl rfl rfl (VM 22 rfl rfl ?_)))))
     refine bV 23 rfl rfl (bA 1 w0 el26 rfl rfl rfl rfl (by rw [List.length_map,hT.li];omega)) ?_
     refine bV 24 rfl rfl (ba (u:=.int .i64 (elt s1.idx (w0:Int))) 1 w0 0 tk3 rfl rfl (aH hix) rfl rfl) (bV 25 rfl rfl (oT rfl rfl) ?_)
     refine bV 26 rfl rfl (bA 2 v0 el26 rfl rfl rfl rfl (by rw [List.length_map,hT.ll];omega)) ?_
     refine VE 27 rfl rfl (cA 2 v0 0 tk3 rfl rfl rfl (aH hlx) rfl (.v rfl .nil) rfl (by decide) (bST rfl ?_))
     refine BN (ak (aQ (aR (aX (ak ?_)))))
     refine ⟨[3,6,7],[4,3,2,1,0],[0,1,2,3,4,5,6,7],rfl,?_⟩
     exact ⟨((_,sv1,qv1),({ s1 with calls:=cs++[((v0:Int),(i0:Int)+1)],low:=s1.low.set (v0:Int).toNat (min (elt s1.low (v0:Int)) (elt s1.idx (w0:Int))) },P1)),⟨⟨⟨hT4,hI.np,hI.pl,hI.mono,hI.me,hI.nple⟩,fun h=>by simp at h⟩,by simp only [wO,eR,Int.toNat_natCast,List.map_set];rfl⟩,by show tmu N (nL nx) { s1 with calls:=cs++[((v0:Int),(i0:Int)+1)] } < _;omega⟩
    ·skip
     refine ai (ak (aQ (aR (aX (ak ?_)))))
     refine ⟨[3,6,7],[4,3,2,1,0],[0,1,2,3,4,5,6,7],rfl,?_⟩
     exact ⟨((_,sv1,qv1),({ s1 with calls:=cs++[((v0:Int),(i0:Int)+1)] },P1)),⟨⟨⟨hT2,hI.np,hI.pl,hI.mono,hI.me,hI.nple⟩,fun h=>by simp at h⟩,rfl⟩,by dsimp only;omega⟩
  ·skip
   have hcut:(s1.calls.map cR).take cs.length=cs.map cR:=by rw [hcs];simp
   obtain ⟨A,B,hAB⟩:=List.append_of_mem hvs
   have hix:s1.idx[v0]? = some (elt s1.idx (v0:Int)):=dG (by rw [hT.li];omega)
   have hlx:s1.low[v0]? = some (elt s1.low (v0:Int)):=dG (by rw [hT.ll];omega)
   have hmup:=acj (N:=N) (nx:=nL nx) hcs
   have hvB:(v0:Int) ∉ B:=by
     have:=hT.nd
     rw [hAB,List.nodup_append] at this
     exact (List.nodup_cons.1 this.2.1).1
   have hvA:∀ x∈(v0:Int)::B,0≤x∧x<s1.part.length:=fun x hx=>by rw [hT.lp];exact ((hT.stk x).1 (by rw [hAB];exact List.mem_append_right _ hx)).1
   have hsubv:(cs.map (·.1)++[(v0:Int)]).Sublist s1.stk:=by have:=hT.sub;rw [hcs,List.map_append] at this;exact this
   have hcne:s1.calls≠[]:=by rw [hcs];simp
   have hccs:cs.length+1≤ccp:=hcc
   refine ai (ak (aSR (aM rfl (UN rfl rfl (UO 0 rfl rfl (aU rfl (ba (v:=.slice (some ⟨Bc,0,none⟩) (cs.length+1) ccp) (u:=.int .i64 (v0:Int)) 7 cs.length 0 tk3 rfl rfl hrow rfl rfl) (aA rfl (aNn (aSR (aM rfl (aM rfl (aU rfl (dA 7 Tryz.underlying436 rfl rfl) (aU rfl (bQ rfl rfl (by omega)) (aU rfl (fJ cs.length el436 rfl rfl (by omega) (by omega) hcc) ?_))))))))))))))
   refine aA rfl (aNs ?_)
   refine fv (X := {l:List Int // TI N (nL nx) r { s1 with calls:=cs,low:=l } ∧ (cs=[]→elt l (v0:Int)=elt s1.idx (v0:Int))}) (fun l=>⟨[(3,true,.pointer (some ⟨b0_0,0,none⟩)),(6,true,.func (.func 371) #[] #[.pointer (some ⟨b0_1,0,none⟩),.pointer (some ⟨b0_0,0,none⟩)]),(7,true,.slice (some ⟨Bc,0,none⟩) cs.length ccp),(10,true,.int .i64 (v0:Int))],[At b0_1 0 [.v (.pointer (some ⟨bc,0,none⟩))],At b0_0 0 [.v (.pointer (some ⟨bf,0,none⟩))],ShF slR nx,bN (ShF b9) nx.l,bN (ShF b9) P1],wO bf bc nx.val iv lv sv1 pv qv1 (.slice (some ⟨Bc,0,none⟩) cs.length ccp) { s1 with calls:=cs,low:=l.1 } P1⟩) ?_ ?_
   ·skip
    refine aq ?_
    refine sm 7 cs.length rfl (by rw [hcl2];omega) ?_
    rw [hcut]
    refine ae (aM rfl (aU rfl (aY rfl rfl) (aU rfl (db rfl rfl) (aNn ?_))))
    refine ah _ rfl (fun h5 => ?_) (fun h5 => ?_)
    ·skip
     obtain ⟨ds,u,j,hds⟩:∃ ds u j,cs=ds++[(u,j)]:=by
       rcases List.eq_nil_or_concat cs with h | ⟨ds,c,h⟩
       · rw [h] at h5;simp at h5
       · exact ⟨ds,c.1,c.2,by simpa using h⟩
     have hdl:cs.length=ds.length+1:=by rw [hds];simp
     obtain ⟨_,hus,_⟩:=hTp.pop hds
     have hur:=((hT.stk u).1 hus).1
     obtain ⟨u0,rfl⟩:=Int.eq_ofNat_of_zero_le hur.1
     have hTl:=hTp.lower hus (hT.low' _ hvs).1
     rw [Int.toNat_natCast] at hTl
     have hux:s1.low[u0]? = some (elt s1.low (u0:Int)):=dG (by rw [hT.ll];omega)
     have hrowu:(cs.map cR)[ds.length]? = some (cR ((u0:Int),j)):=by rw [hds];simp
     have hsetL:(eR s1.low).set u0 (jc (b9 (elt s1.low (u0:Int))) 0 [.v (.int .i64 (min (elt s1.low (u0:Int)) (elt s1.low (v0:Int))))])=eR (s1.low.set u0 (min (elt s1.low (u0:Int)) (elt s1.low (v0:Int)))):=by
       show (List.map b9 s1.low).set u0 _=List.map b9 _
       rw [List.map_set];rfl
     refine aSR (aM rfl (aM rfl (aU rfl (aY rfl rfl) (aU rfl (bQ rfl rfl (by omega)) (aU rfl (ez ds.length el436 rfl rfl (by omega) (by omega)) (UO 0 rfl rfl (aU rfl (ba (v:=.slice (some ⟨Bc,0,none⟩) cs.length ccp) (u:=.int .i64 (u0:Int)) 7 ds.length 0 tk3 rfl rfl hrowu rfl rfl) (aA rfl (aNn (DR [21] 22 (VD 0 0 tk432 2 rfl rfl rfl rfl rfl (VN 1 rfl rfl rfl (VO 2 2 rfl rfl rfl (VL 3 0 tk26 rfl rfl rfl rfl rfl (VM 4 rfl rfl ?_)))))))))))))))
     refine VD 5 0 tk432 2 rfl rfl rfl rfl rfl (VN 6 rfl rfl rfl (VO 7 2 rfl rfl rfl (VL 8 0 tk26 rfl rfl rfl rfl rfl (VM 9 rfl rfl ?_))))
     refine bV 10 rfl rfl (bA 2 u0 el26 rfl rfl rfl rfl (by rw [List.length_map,hT.ll];omega)) ?_
     refine bV 11 rfl rfl (ba (u:=.int .i64 (elt s1.low (u0:Int))) 2 u0 0 tk3 rfl rfl (aH hux) rfl rfl) (VD 12 0 tk432 2 rfl rfl rfl rfl rfl (VN 13 rfl rfl rfl (VO 14 2 rfl rfl rfl (VL 15 0 tk26 rfl rfl rfl rfl rfl (VM 16 rfl rfl ?_)))))
     refine bV 17 rfl rfl (bA 2 v0 el26 rfl rfl rfl rfl (by rw [List.length_map,hT.ll];omega)) ?_
     refine bV 18 rfl rfl (ba (u:=.int .i64 (elt s1.low (v0:Int))) 2 v0 0 tk3 rfl rfl (aH hlx) rfl rfl) (bV 19 rfl rfl (oT rfl rfl) ?_)
     refine bV 20 rfl rfl (bA 2 u0 el26 rfl rfl rfl rfl (by rw [List.length_map,hT.ll];omega)) ?_
     refine VE 21 rfl rfl (cA 2 u0 0 tk3 rfl rfl rfl (aH hux) rfl (.v rfl .nil) rfl (by decide) ?_)
     rw [hsetL]
     refine bST rfl ?_
     refine BN (ak ?_)
     first
     | exact ⟨[3,6,7,10],[4,3,2,1,0],[0,1,2,3,4,5,6,7],⟨s1.low.set u0 (min (elt s1.low (u0:Int)) (elt s1.low (v0:Int))),hTl,fun h=>by rw [h] at hds;simp at hds⟩,rfl,rfl⟩
     | exact ⟨[3,6,7,10],[4,3,2,1,0],[0,1,2,3,4,5,6,7],⟨s1.low,hTp,fun h=>(hlast h).2⟩,rfl,rfl⟩
    ·skip
     refine ai (ak ?_)
     first
     | exact ⟨[3,6,7,10],[4,3,2,1,0],[0,1,2,3,4,5,6,7],⟨s1.low.set u0 (min (elt s1.low (u0:Int)) (elt s1.low (v0:Int))),hTl,fun h=>by rw [h] at hds;simp at hds⟩,rfl,rfl⟩
     | exact ⟨[3,6,7,10],[4,3,2,1,0],[0,1,2,3,4,5,6,7],⟨s1.low,hTp,fun h=>(hlast h).2⟩,rfl,rfl⟩
   ·skip
    rintro ⟨l,hTl,hlz⟩
    dsimp only
    have hll:l.length=N:=hTl.ll
    refine aq (DR [] 15 (VD 0 0 tk432 1 rfl rfl rfl rfl rfl (VN 1 rfl rfl rfl (VO 2 2 rfl rfl rfl (VL 3 0 tk26 rfl rfl rfl rfl rfl (VM 4 rfl rfl ?_))))))
    refine bV 5 rfl rfl (bA 2 v0 el26 rfl rfl rfl rfl (by rw [List.length_map,hll];omega)) ?_
    refine bV 6 rfl rfl (ba (u:=.int .i64 (elt l (v0:Int))) 2 v0 0 tk3 rfl rfl (aH (dG (by rw [hll];omega))) rfl rfl) ?_
    refine VD 7 0 tk432 1 rfl rfl rfl rfl rfl (VN 8 rfl rfl rfl (VO 9 1 rfl rfl rfl (VL 10 0 tk26 rfl rfl rfl rfl rfl (VM 11 rfl rfl ?_))))
    refine bV 12 rfl rfl (bA 1 v0 el26 rfl rfl rfl rfl (by rw [List.length_map,hT.li];omega)) ?_
    refine bV 13 rfl rfl (ba (u:=.int .i64 (elt s1.idx (v0:Int))) 1 v0 0 tk3 rfl rfl (aH hix) rfl rfl) (bV 14 rfl rfl (bp rfl rfl) (BN (ak ?_)))
    refine ah _ rfl (fun h6 => ?_) (fun h6 => ?_)
    ·skip
     have hcl2:=uP bf nx.val iv lv sv1 pv qv1 A B s1.part v0 P1 hvB (by rw [← hAB];omega) hvA (by omega)
     rw [← hAB] at hcl2
     refine ae (UD 0 tk432 1 rfl rfl rfl rfl (aM rfl (LF rfl (EC [0] [0,3,4,5] rfl (hcl2) ?_))))
     rintro _ _ _ ⟨pl,sv2,qv2,hpp,rfl,rfl⟩
     refine aST ?_
     refine bE (bb (ak ?_))
     refine ⟨[3,6,7],[4,3,2,1,5],[0,1,2,3,4,5,6,7],rfl,?_⟩
     have hcz:=hTl.close hAB hsubv fun x=>hpp.mem_iff
     have hpc:=hI.pl.close hT (by rw [List.length_map];exact hI.np) hAB hpp
     rw [hI.np] at hcz hpc
     have hpc2:PL N (dB s1.part ((P1.length:Int)+1) pl.l) ((P1++[pl]).map (·.l)):=by rw [List.map_append];exact hpc
     have hct:=hpc2.count
     rw [List.length_map] at hct
     exact ⟨((.slice (some ⟨Bc,0,none⟩) cs.length ccp,sv2,qv2),({ s1 with calls:=cs,low:=l,stk:=A,part:=dB s1.part ((P1.length:Int)+1) pl.l,np:=P1.length+1 },P1++[pl])),⟨⟨⟨hcz.1,by simp,hpc2,hI.mono,hI.me,hct⟩,fun h=>hcz.2 (hlast h).1 h (hT.top hcne).2⟩,rfl⟩,by show tmu N (nL nx) { s1 with calls:=cs } < _;omega⟩
    ·skip
     refine ai (bb (ak ?_))
     refine ⟨[3,6,7],[4,3,2,1,0],[0,1,2,3,4,5,6,7],rfl,?_⟩
     exact ⟨((.slice (some ⟨Bc,0,none⟩) cs.length ccp,sv1,qv1),({ s1 with calls:=cs,low:=l },P1)),⟨⟨⟨hTl,hI.np,hI.pl,hI.mono,hI.me,hI.nple⟩,fun h=>absurd (hlz h) (by simpa using h6)⟩,rfl⟩,by show tmu N (nL nx) { s1 with calls:=cs } < _;omega⟩
 ·skip
  refine aQ (aR (aR (aX ?_)))
  refine yD [0] [0,1,2,3,4,5,6] rfl Tryz.results340 ?_ (.inl rfl)
  have hnc:s1.calls=[]:=by
    cases hh:s1.calls with
    | nil=>rfl
    | cons c cs=>rw [hh] at h1;simp at h1
  exact ⟨s1,P1,sv1,qv1,hI,hnc,hE hnc,rfl,rfl⟩
theorem el409:elB Tryz.prog 409 26 1=true:=by kernel_rfl
def swL{α:Type}[Inhabited α](l:List α)(i j:Nat):List α:=(l.set i (l.getD j default)).set j (l.getD i default)
theorem xq{α:Type}[Inhabited α](l:List α)(i j:Nat):(swL l i j).length=l.length:=by simp [swL]
theorem pn{α:Type}[Inhabited α](l:List α){i j:Nat}(hi:i<l.length)(hj:j<l.length):(swL l i j).Perm l:=by
 unfold swL
 rw [List.getD_eq_getElem?_getD,List.getD_eq_getElem?_getD,List.getElem?_eq_getElem hi,List.getElem?_eq_getElem hj]
 exact List.set_set_perm hi hj
abbrev hR(H:List (Sl Int)):List (List D):=H.map slR
theorem n2(hv:Value)(H:List (Sl Int)) :
   Con Tryz.prog 399 [hv] [] [az hv 26 1 (hR H)] fun r ps hp=>r=.int .i64 H.length∧ps=[]∧hp=[az hv 26 1 (hR H)]:=by
 refine EN1 Tryz.func399 rfl (aSR (aA rfl (aNn (aSR (aM rfl (aU rfl (dA 0 Tryz.underlying409 rfl rfl) (aA rfl (aNn (aj (FZ1 [0] Tryz.results399 rfl ?_))))))))))
 exact ⟨by rw [List.length_map],rfl,rfl⟩
theorem lq(hv:Value)(H0 H:List (Sl Int))(i j:Nat)(hi:i<H.length)(hj:j<H.length)(hne:∀ p∈H0,p.l≠[])(hsub:∀ p∈H,p∈H0) :
   Con Tryz.prog 400 [hv,.int .i64 i,.int .i64 j] [bN (ShF b9) H0] [az hv 26 1 (hR H)] fun r ps hp=>(∃ b,r=.bool b)∧ps=[]∧hp=[az hv 26 1 (hR H)]:=by
 obtain ⟨p,hp⟩:∃ p,H[i]? = some p:=⟨_,List.getElem?_eq_getElem hi⟩
 obtain ⟨q,hq⟩:∃ q,H[j]? = some q:=⟨_,List.getElem?_eq_getElem hj⟩
 obtain ⟨a,ha⟩:∃ a,p.l[0]? = some a:=⟨_,List.getElem?_eq_getElem (List.length_pos_iff.2 (hne p (hsub p (List.mem_of_getElem? hp))))⟩
 obtain ⟨b,hb⟩:∃ b,q.l[0]? = some b:=⟨_,List.getElem?_eq_getElem (List.length_pos_iff.2 (hne q (hsub q (List.mem_of_getElem? hq))))⟩
 obtain ⟨p',hp'⟩:=List.mem_iff_getElem?.1 (hsub p (List.mem_of_getElem? hp))
 obtain ⟨q',hq'⟩:=List.mem_iff_getElem?.1 (hsub q (List.mem_of_getElem? hq))
 refine EN3 Tryz.func400 rfl (aSR (aA rfl (aNs (DR [] 14 (VM 0 rfl rfl (VM 1 rfl rfl ?_))))))
 refine bV 2 rfl rfl (bA 0 i el409 rfl rfl rfl rfl (by rw [List.length_map];exact hi)) ?_
 refine bV 3 rfl rfl (ba (u:=p.val) 0 i 0 tk26 rfl rfl (aH hp) rfl rfl) (nf 4 rfl (by kernel_rfl) true rfl rfl (fun _=>aZ Tryz.underlying26 tk3 rfl ((Ent.all (f:=ShF b9) (.of (aF 0 rfl)) hp')) rfl (aH ha) rfl rfl) (fun h=>absurd h (by decide)) (fun ⟨b1_4,o1_4⟩=>(VT 5 0 tk3 0 rfl rfl rfl rfl rfl rfl (VM 6 rfl rfl (VM 7 rfl rfl ?_)))))
 refine bV 8 rfl rfl (bA 0 j el409 rfl rfl rfl rfl (by rw [List.length_map];exact hj)) ?_
 refine bV 9 rfl rfl (ba (u:=q.val) 0 j 0 tk26 rfl rfl (aH hq) rfl rfl) (nf 10 rfl (by kernel_rfl) true rfl rfl (fun _=>aZ Tryz.underlying26 tk3 rfl ((Ent.all (f:=ShF b9) (.of (aF 1 rfl)) hq')) rfl (aH hb) rfl rfl) (fun h=>absurd h (by decide)) (fun ⟨b1_10,o1_10⟩=>(VT 11 0 tk3 0 rfl rfl rfl rfl rfl rfl (bV 12 rfl rfl (bd rfl rfl) (bV 13 rfl rfl (bz rfl) (BN (ak (aj (FZ1 [0] Tryz.results400 rfl ?_)))))))))
 exact ⟨⟨_,rfl⟩,rfl,rfl⟩
theorem lx(hv:Value)(H:List (Sl Int))(i j:Nat)(hi:i<H.length)(hj:j<H.length) :
   Con Tryz.prog 403 [hv,.int .i64 i,.int .i64 j] [] [az hv 26 1 (hR H)] fun _ ps hp=>ps=[]∧hp=[az hv 26 1 (hR (swL H i j))]:=by
 obtain ⟨p,hp⟩:∃ p,H[i]? = some p:=⟨_,List.getElem?_eq_getElem hi⟩
 obtain ⟨q,hq⟩:∃ q,H[j]? = some q:=⟨_,List.getElem?_eq_getElem hj⟩
 have hsw:swL H i j=(H.set i q).set j p:=by
   unfold swL
   rw [List.getD_eq_getElem?_getD,List.getD_eq_getElem?_getD,hp,hq];rfl
 obtain ⟨q2,hq2⟩:∃ q2,(H.set i q)[j]? = some q2:=⟨_,List.getElem?_eq_getElem (by rw [List.length_set];exact hj)⟩
 have hset:(hR H).set i (jc (slR p) 0 (slR q))=hR (H.set i q):=by
   show (List.map slR H).set i _=List.map slR _
   rw [List.map_set];rfl
 refine EN3 Tryz.func403 rfl (DR [13,15] 16 (VM 0 rfl rfl (VM 1 rfl rfl (zH 2 rfl (by kernel_rfl) true rfl rfl (fun _=>ax rfl) (zH 3 rfl (by kernel_rfl) true rfl rfl (fun _=>ax rfl) (VM 4 rfl rfl (VM 5 rfl rfl ?_)))))))
 refine bV 6 rfl rfl (bA 0 j el409 rfl rfl rfl rfl (by rw [List.length_map];exact hj)) ?_
 refine bV 7 rfl rfl (ba (u:=q.val) 0 j 0 tk26 rfl rfl (aH hq) rfl rfl) (VM 8 rfl rfl (VM 9 rfl rfl ?_))
 refine bV 10 rfl rfl (bA 0 i el409 rfl rfl rfl rfl (by rw [List.length_map];exact hi)) ?_
 refine bV 11 rfl rfl (ba (u:=p.val) 0 i 0 tk26 rfl rfl (aH hp) rfl rfl) ?_
 refine bV 12 rfl rfl (bA 0 i el409 rfl rfl rfl rfl (by rw [List.length_map];exact hi)) ?_
 refine VE 13 rfl rfl (cA 0 i 0 tk26 rfl rfl rfl (aH hp) rfl (.v rfl .nil) rfl (by decide) ?_)
 rw [hset]
 refine bST rfl ?_
 refine bV 14 rfl rfl (bA 0 j el409 rfl rfl rfl rfl (by rw [List.length_map,List.length_set];exact hj)) ?_
 refine VE 15 rfl rfl (cA 0 j 0 tk26 rfl rfl rfl (aH hq2) rfl (.v rfl .nil) rfl (by decide) (bST rfl ?_))
 refine BN (FZ0 [0] Tryz.results403 ?_)
 refine ⟨rfl,?_⟩
 rw [hsw]
 show _=[az hv _ 1 (((H.set i q).set j p).map slR)]
 rw [List.map_set];rfl
theorem xR(hb:Nat)(hv:Value)(H:List (Sl Int))(p:Sl Int)(hH:H.length≤1000000) :
   Con Tryz.prog 402 [.pointer (some ⟨hb,0,none⟩),.iface 26 p.val] [] [Box hb 409 [hv],az hv 26 1 (hR H)] fun _ ps hp=>∃ hv':Value,ps=[]∧hp=[Box hb 409 [hv'],az hv' 26 1 (hR (H++[p]))]:=by
 refine EN2 Tryz.func402 rfl (DR [7,9] 10 (zH 0 rfl (by kernel_rfl) true rfl rfl (fun _=>ax rfl) (VM 1 rfl rfl (VN 2 rfl rfl rfl (VL 3 0 tk409 rfl rfl rfl rfl rfl (VM 4 rfl rfl (bV 5 rfl rfl (tS (by kernel_rfl) rfl) (iO (q:=true) 6 rfl (by kernel_rfl) rfl rfl (WL (zs:=[.slice none 0 0]) el409 rfl rfl rfl (.more rfl (.v rfl .nil) .nil) rfl rfl (fun v0_6=>(bST rfl ?_)))))))))))
 refine iO 7 rfl (by kernel_rfl) rfl rfl (cB 1 el409 rfl rfl rfl rfl (dK 2 el409 rfl (by simp)) (by first | assumption | simp) (by rw [List.length_map];exact Nat.le_trans (show H.length+1≤1000001 by omega) (by decide)) (H.length+1) (by simp) (fun v0_7 c0_7 => ?_))
 refine bST rfl ?_
 refine VN 8 rfl rfl rfl (iO 9 rfl (by kernel_rfl) rfl rfl (aV 0 tk409 rfl rfl rfl rfl (bST rfl ?_)))
 refine BN (FZ0 [0,1] Tryz.results402 ?_)
 refine ⟨.slice v0_7 (H.length+1) c0_7,rfl,?_⟩
 show _=[_,az _ _ 1 ((H++[p]).map slR)]
 rw [List.map_append];rfl
theorem zY(hb:Nat)(hv:Value)(H:List (Sl Int))(p:Sl Int)(hH:H.length≤1000000) :
   Con Tryz.prog 401 [.pointer (some ⟨hb,0,none⟩)] [] [Box hb 409 [hv],az hv 26 1 (hR (H++[p]))] fun r ps hp=>∃ hv':Value,r=.iface 26 p.val∧ps=[]∧hp=[Box hb 409 [hv'],az hv' 26 1 (hR H)]:=by
 have hrow:(hR (H++[p]))[H.length]? = some (slR p):=by simp
 have hl:(hR (H++[p])).length=H.length+1:=by simp
 have hcut:(hR (H++[p])).take H.length=hR H:=by simp
 refine EN1 Tryz.func401 rfl (aq ?_)
 refine dQ 1 rfl (fun h0=>by rw [h0] at hl;cases hl) (fun Bc ccp hvc hcc => ?_)
 rw [hl] at hvc hcc
 subst hvc
 show awp _ _ _ _ ⟨_,_,[_,_]⟩
 refine ae (aA rfl (aNn (aSR (aM rfl (UN rfl rfl (UL 0 tk409 rfl rfl rfl rfl (aA rfl (aNn (aSR (aM rfl (aM rfl (aU rfl (dA 1 Tryz.underlying409 rfl rfl) (aU rfl (bQ rfl rfl (by omega)) ?_)))))))))))))
 refine aU rfl (ez H.length el409 rfl rfl (by rw [hl];omega) (by omega)) ?_
 refine aU rfl (ba (v:=.slice (some ⟨Bc,0,none⟩) (H.length+1) ccp) (u:=p.val) 1 H.length 0 tk26 rfl rfl hrow rfl rfl) (aA rfl (aNn (aSR (aM rfl (aM rfl (aM rfl (aU rfl (dA 1 Tryz.underlying409 rfl rfl) (aU rfl (bQ rfl rfl (by omega)) (aU rfl (fJ H.length el409 rfl rfl (by omega) (by omega) hcc) (UN rfl rfl (LF rfl (aV 0 tk409 rfl rfl rfl rfl (iL (hp':=[Box hb 409 [.slice (some ⟨Bc,0,none⟩) H.length ccp],az (.slice (some ⟨Bc,0,none⟩) (H.length+1) ccp) 26 1 (hR (H++[p]))]) rfl (aNs ?_))))))))))))))
 refine sm 1 H.length rfl (by rw [hl];omega) ?_
 rw [hcut]
 refine ae (aM rfl (aU rfl (jw (by kernel_rfl) rfl) (aA rfl (aNn (aj (FZ1 [0,1] Tryz.results401 rfl ?_))))))
 exact ⟨_,rfl,rfl,rfl⟩
end Go.Proofs.YtfkcmbonmpcbfaaGreat

namespace Go.Sy
open Go.RowKit Go.Lp
section
variable {P:Program} {n:Fr} {Q:Exit→Sta→Prop} {ops:Array Oper} {rest:List Oper} {env:Env} {ps:List Per} {hp:List Res} {s:Sta} {d:Option Tmp} {ty:TypeId} {pos:String} {af:Array Edge} {gd:Option (Nat × Bool)} {v:Value}
theorem qT{t:Nat}{f:FuncId}{g:Operand}{T:TypeId}{u:Value}{name:String}{l:List Operand}{ts:Array TypeId}{vs:List Value}(lp lh:List Nat)(hf:cL P f=true)(c:Bool)(hc:guardOf ops env ⟨some t,.call ⟨.invoke g name,l.toArray,ts⟩,ty,pos,af,gd⟩=some c)(ht:fits n (some t)=true)(ok:okH hp lh=true)
   (hgv:c=true→ev env g=some (true,.iface T v)) (hm:∀ w S fp,St w S fp ps hp→∀ k,(method (k+1) T v name).run P w=.ok (f,u) w) (hx:c=true→evs env l=some vs) (hput:fC lh (bH hp lh) 0 hp=hp)
   (hcon:c=true→Con P f (u::vs) (dw ps lp) (bH hp lh) fun r ps' hp'=>(∃ b,r=.bool b)∧ps'=[]∧hp'=bH hp lh)
   (h:∀ b,aL P n ops Q rest ⟨(t,c,.bool b)::env,ps,hp⟩):aL P n ops Q (⟨some t,.call ⟨.invoke g name,l.toArray,ts⟩,ty,pos,af,gd⟩::rest) ⟨env,ps,hp⟩:=by
 cases c with
 | true =>
   refine aJ (q:=false) hc (fx lp lh hf (hgv rfl) hm (hx rfl) ht ok rfl (hcon rfl) ?_)
   rintro _ _ _ ⟨⟨b,rfl⟩,rfl,rfl⟩
   rw [hput]
   exact h b
 | false=>exact acK false hc ht (fun h=>by cases h) (h false)
theorem ade{x y:Operand}{t t':TypeId}(j:Nat)(hj:j≤1000001)(hx:ev s.env x=some (true,.int .i64 ((j:Int)-1)))(hy:ev s.env y=some (true,.int .i64 2)):Quiet P n ⟨d,.binOp .quo t x y t',ty,pos,af,gd⟩ s (.int .i64 (((j-1) / 2:Nat):Int)):=by
 have h:=adT (P:=P) (n:=n) (d:=d) (ty:=ty) (pos:=pos) (af:=af) (gd:=gd) (t:=t) (t':=t') hx hy (by decide)
 have e:IntKind.i64.wrap (((j:Int)-1).tdiv 2)=(((j-1) / 2:Nat):Int):=by
   rcases j with _ | j
   · decide
   · have e1:((j+1:Nat):Int)-1=((j:Nat):Int):=by omega
     rw [e1,show (2:Int)=((2:Nat):Int) from rfl,← Int.ofNat_tdiv,i64_in (by omega),Nat.add_sub_cancel]
 rwa [e] at h
end
end Go.Sy
namespace Go.Proofs.YtfkcmbonmpcbfaaGreat
open Go.RowKit Go.Lp Go.Sy Go.Lv
open Go.Proofs.Tryz
attribute [local irreducible] aL aB awp aC fwp Quiet
theorem oL:kG Tryz.prog 408 "Less" = some (400,false):=by kernel_rfl
theorem oM:kG Tryz.prog 408 "Swap" = some (403,false):=by kernel_rfl
theorem rJ:kG Tryz.prog 408 "Len" = some (399,false):=by kernel_rfl
theorem aaB:kG Tryz.prog 408 "Push" = some (402,true):=by kernel_rfl
theorem abX:kG Tryz.prog 408 "Pop" = some (401,true):=by kernel_rfl
theorem pw:Program.underlying Tryz.prog 408=some (.pointer 409):=by kernel_rfl
theorem abk{α:Type}[Inhabited α](l:List α){i j n:Nat}(hi:i<n)(hj:j<n):(swL l i j).drop n=l.drop n:=by
 unfold swL
 rw [List.drop_set_of_lt hj,List.drop_set_of_lt hi]
abbrev hpR(hb:Nat)(hv:Value)(H:List (Sl Int)):List Res:=[Box hb 409 [hv],az hv 26 1 (hR H)]
theorem acT(hb:Nat)(hv:Value)(H0 H:List (Sl Int))(k:Nat)(hk:k<H.length)(hH:H.length≤1000000)(hne:∀ p∈H0,p.l≠[])(hsub:∀ p∈H,p∈H0) :
   Con Tryz.prog 373 [.iface 408 (.pointer (some ⟨hb,0,none⟩)),.int .i64 k] [bN (ShF b9) H0] (hpR hb hv H) fun _ ps hp=>ps=[]∧∃ H':List (Sl Int),H'.Perm H∧hp=hpR hb hv H':=by
 refine EN2 Tryz.func373 rfl (ao (aP [0,1] [0] [0,1] (fun (q:List (Sl Int) × Nat) st=>(q.1.Perm H∧q.2<q.1.length)∧st=⟨[(0,true,.iface 408 (.pointer (some ⟨hb,0,none⟩))),(1,true,.int .i64 q.2)],[bN (ShF b9) H0],hpR hb hv q.1⟩) (fun q=>q.2) rfl (⟨(H,k),⟨.refl _,hk⟩,rfl⟩) ?_))
 rintro ⟨H1,j⟩ st ⟨⟨hP,hj⟩,rfl⟩
 dsimp only at hP hj ⊢
 have hL:=hP.length_eq
 have hi:(j-1) / 2<H1.length:=by omega
 refine ao (aSR (aM rfl (aU rfl (bQ rfl rfl (by omega)) (aU rfl (ade j (by omega) rfl rfl) (aA rfl (aNs (aSR (aM rfl (aM rfl (aU rfl (bp rfl rfl) (aM rfl (aG rfl rfl (fun hc=>ax rfl) (aG rfl rfl (fun hc=>ax rfl) (aG rfl rfl (fun hc=>ax rfl) ?_))))))))))))))
 refine qT (f:=400) [0] [1] (by kernel_rfl) _ rfl rfl rfl (fun hc=>aa rfl hc) (rG 0 oL pw tk409 rfl rfl) (fun hc=>aD (aa rfl hc) (aD (aa rfl hc) rfl)) rfl (fun _=>lq hv H0 H1 j ((j-1) / 2) hj hi hne fun p hp=>hsub p (hP.mem_iff.1 hp)) (fun bL=>(aG rfl rfl (fun hc=>bX (aa rfl hc)) (aU rfl (cC rfl rfl (fun h=>gf rfl h)) (aNn ?_))))
 refine ah _ rfl (fun h1 => ?_) (fun h1 => ?_)
 ·skip
  refine aQ (aR (nu rfl (aR (aX (FZ0 [0,1] Tryz.results373 ?_)))))
  exact ⟨rfl,_,hP,rfl⟩
 ·skip
  refine ai (ak (aSR (aM rfl (aM rfl (aM rfl (LF rfl (fx (f:=403) [] [1] (by kernel_rfl) rfl (rG 0 oM pw tk409 rfl rfl) rfl rfl rfl rfl (lx hv H1 ((j-1) / 2) j hi hj) ?_)))))))
  rintro _ _ _ ⟨rfl,rfl⟩
  refine iL (hp':=hpR hb hv (swL H1 ((j-1) / 2) j)) rfl (aNn (ae (aM rfl (aA rfl (bE (bb (ak ?_)))))))
  refine ⟨[0,1],[0],[0,1],rfl,?_⟩
  exact ⟨(swL H1 ((j-1) / 2) j,(j-1) / 2),⟨⟨(pn H1 hi hj).trans hP,by rw [xq];exact hi⟩,rfl⟩,by
    have h2:((j-1) / 2:Nat)≠j:=fun e=>by rw [e] at h1;simp at h1
    dsimp only;omega⟩
theorem zV(hb:Nat)(hv:Value)(H0 H:List (Sl Int))(i0 n:Nat)(h0:i0≤1000000)(hn:n≤H.length)(hH:H.length≤1000000)(hne:∀ p∈H0,p.l≠[])(hsub:∀ p∈H,p∈H0) :
   Con Tryz.prog 374 [.iface 408 (.pointer (some ⟨hb,0,none⟩)),.int .i64 i0,.int .i64 n] [bN (ShF b9) H0] (hpR hb hv H) fun _ ps hp=>ps=[]∧∃ H':List (Sl Int),H'.Perm H∧H'.drop n=H.drop n∧hp=hpR hb hv H':=by
 refine EN3 Tryz.func374 rfl (aSR (aA rfl (aNn (aSR (aM rfl (aA rfl (aNs (ao (aP [0,1,2,7] [0] [0,1] (fun (q:List (Sl Int) × Nat) st=>(q.1.Perm H∧q.1.drop n=H.drop n∧q.2≤1000000)∧st=⟨[(0,true,.iface 408 (.pointer (some ⟨hb,0,none⟩))),(1,true,.int .i64 i0),(2,true,.int .i64 n),(7,true,.int .i64 q.2)],[bN (ShF b9) H0],hpR hb hv q.1⟩) (fun q=>n-q.2) rfl (⟨(H,i0),⟨.refl _,rfl,h0⟩,rfl⟩) ?_)))))))))
 rintro ⟨H1,i⟩ st ⟨⟨hP,hD,hi⟩,rfl⟩
 dsimp only at hP hD hi ⊢
 have hL:=hP.length_eq
 have hs1:∀ p∈H1,p∈H0:=fun p hp=>hsub p (hP.mem_iff.1 hp)
 refine ao (aSR (aM rfl (aU rfl (aaV rfl rfl (by omega)) (aU rfl (aO rfl rfl (by omega)) (aA rfl (aNs (aq ?_)))))))
 rw [show (2*(i:Int)+1)=((2*i+1:Nat):Int) by omega]
 refine ae (aM rfl (aM rfl (aU rfl (dY rfl rfl) (aM rfl (aG rfl rfl (fun hc=>ax rfl) (aG rfl rfl (fun hc=>bd (aa rfl hc) rfl) (aU rfl (cC rfl rfl (fun h=>gf rfl h)) (aNn ?_))))))))
 refine ah _ rfl (fun h1 => ?_) (fun h1 => ?_)
 ·skip
  refine aQ (aR (nu rfl (aR (aX (ak (aSR (aM rfl (aM rfl (aU rfl (db rfl rfl) (aA rfl (aNn (aj (FZ1 [0,1] Tryz.results374 rfl ?_)))))))))))))
  exact ⟨rfl,_,hP,hD,rfl⟩
 ·skip
  have hjn:2*i+1<n:=by
    simp at h1;omega
  refine ai (ak (aSR (aM rfl (aA rfl (aNs ?_)))))
  refine fv (X := {z:Nat // i<z∧z<n}) (fun z=>⟨[(0,true,.iface 408 (.pointer (some ⟨hb,0,none⟩))),(1,true,.int .i64 i0),(2,true,.int .i64 n),(7,true,.int .i64 i),(9,true,.int .i64 z.1)],[bN (ShF b9) H0],hpR hb hv H1⟩) ?_ ?_
  ·skip
   refine aSR (aM rfl (aU rfl (aO rfl rfl (by omega)) (aA rfl (aNs ?_))))
   rw [show (((2*i+1:Nat):Int)+1)=((2*i+2:Nat):Int) by omega]
   refine ae (aM rfl (aM rfl (aU rfl (bd rfl rfl) (aM rfl (aG rfl rfl (fun hc=>ax rfl) (aG rfl rfl (fun hc=>ax rfl) (aG rfl rfl (fun hc=>ax rfl) ?_)))))))
   refine qT (f:=400) [0] [1] (by kernel_rfl) _ rfl rfl rfl (fun hc=>aa rfl hc) (rG 0 oL pw tk409 rfl rfl) (fun hc=>aD (aa rfl hc) (aD (aa rfl hc) rfl)) rfl (fun hc=>lq hv H0 H1 (2*i+2) (2*i+1) (by have hc2:(((2*i+2:Nat):Int))<(n:Int):=(by simpa using hc);omega) (by omega) hne hs1) (fun bL => ?_)
   refine aU rfl (aT rfl rfl (fun h=>gt rfl h)) (aNn ?_)
   refine ah _ rfl (fun h2 => ?_) (fun h2 => ?_)
   ·skip
    refine ae (aM rfl (aA rfl (aNn ?_)))
    first
    | exact ⟨[0,1,2,7,9],[0],[0,1],⟨2*i+2,by omega,by simp at h2;omega⟩,rfl,rfl⟩
    | exact ⟨[0,1,2,7,9],[0],[0,1],⟨2*i+1,by omega,hjn⟩,rfl,rfl⟩
   ·skip
    refine ai (ak ?_)
    first
    | exact ⟨[0,1,2,7,9],[0],[0,1],⟨2*i+2,by omega,by simp at h2;omega⟩,rfl,rfl⟩
    | exact ⟨[0,1,2,7,9],[0],[0,1],⟨2*i+1,by omega,hjn⟩,rfl,rfl⟩
  ·skip
   rintro ⟨z,hz1,hz2⟩
   dsimp only
   refine aq (aSR (aM rfl (aM rfl (aM rfl (qT (f:=400) [0] [1] (by kernel_rfl) _ rfl rfl rfl (fun hc=>aa rfl hc) (rG 0 oL pw tk409 rfl rfl) (fun hc=>aD (aa rfl hc) (aD (aa rfl hc) rfl)) rfl (fun hc=>lq hv H0 H1 z i (by omega) (by omega) hne hs1) (fun bM=>(aU rfl (bX rfl) (aNn ?_))))))))
   refine ah _ rfl (fun h3 => ?_) (fun h3 => ?_)
   ·skip
    refine aQ (aR (nu rfl (aR (aX (ak (aSR (aM rfl (aM rfl (aU rfl (db rfl rfl) (aA rfl (aNn (aj (FZ1 [0,1] Tryz.results374 rfl ?_)))))))))))))
    exact ⟨rfl,_,hP,hD,rfl⟩
   ·skip
    refine ai (ak (aSR (aM rfl (aM rfl (aM rfl (LF rfl (fx (f:=403) [] [1] (by kernel_rfl) rfl (rG 0 oM pw tk409 rfl rfl) rfl rfl rfl rfl (lx hv H1 i z (by omega) (by omega)) ?_)))))))
    rintro _ _ _ ⟨rfl,rfl⟩
    refine iL (hp':=hpR hb hv (swL H1 i z)) rfl (aNn (ae (aM rfl (aA rfl (bE (bb (ak ?_)))))))
    refine ⟨[0,1,2,7],[0],[0,1],rfl,?_⟩
    exact ⟨(swL H1 i z,z),⟨⟨(pn H1 (by omega) (by omega)).trans hP,by rw [abk H1 (by omega) hz2];exact hD,by dsimp only;omega⟩,rfl⟩,by dsimp only;omega⟩
theorem qd(hb:Nat)(hv:Value)(H0 H:List (Sl Int))(p:Sl Int)(hH:H.length≤100000)(hne:∀ p∈H0,p.l≠[])(hsub:∀ q∈H++[p],q∈H0) :
   Con Tryz.prog 341 [.iface 408 (.pointer (some ⟨hb,0,none⟩)),.iface 26 p.val] [bN (ShF b9) H0] (hpR hb hv H) fun _ ps hp=>ps=[]∧∃ (hv':Value) (H':List (Sl Int)),H'.Perm (H++[p])∧hp=hpR hb hv' H':=by
 have hl:(H++[p]).length=H.length+1:=by simp
 refine EN2 Tryz.func341 rfl (aSR (aM rfl (aM rfl (LF rfl (fx (f:=402) [] [0,1] (by kernel_rfl) rfl (adM aaB pw) rfl rfl rfl rfl (xR hb hv H p (by omega)) ?_)))))
 rintro _ _ _ ⟨hv1,rfl,rfl⟩
 refine iL (hp':=hpR hb hv1 (H++[p])) rfl (aNn (ae (aM rfl (aM rfl (LF rfl (fx (f:=399) [] [1] (by kernel_rfl) rfl (rG 0 rJ pw tk409 rfl rfl) rfl rfl rfl rfl (n2 hv1 (H++[p])) ?_))))))
 rintro _ _ _ ⟨rfl,rfl,rfl⟩
 refine iL (hp':=hpR hb hv1 (H++[p])) rfl ?_
 rw [hl]
 refine aU rfl (bQ rfl rfl (by omega)) ?_
 refine LF rfl (EC [0] [0,1] rfl ((by rw [show (((H.length+1:Nat):Int)-1)=((H.length:Nat):Int) by omega];exact acT hb hv1 H0 (H++[p]) H.length (by omega) (by omega) hne hsub)) ?_)
 rintro _ _ _ ⟨rfl,H2,hP2,rfl⟩
 refine aST ?_
 refine bE (FZ0 [0,1] Tryz.results341 ?_)
 exact ⟨rfl,_,_,hP2,rfl⟩
theorem z6(hb:Nat)(hv:Value)(H0 H:List (Sl Int))(hH:H.length≤100000)(h1:H≠[])(hne:∀ p∈H0,p.l≠[])(hsub:∀ q∈H,q∈H0) :
   Con Tryz.prog 342 [.iface 408 (.pointer (some ⟨hb,0,none⟩))] [bN (ShF b9) H0] (hpR hb hv H) fun r ps hp=>ps=[]∧∃ (hv':Value) (H':List (Sl Int)) (p:Sl Int),(p::H').Perm H∧r=.iface 26 p.val∧hp=hpR hb hv' H':=by
 have hlp:=List.length_pos_iff.2 h1
 have hsw:=pn H (i:=0) (j:=H.length-1) (by omega) (by omega)
 have hswl:=xq H 0 (H.length-1)
 refine EN1 Tryz.func342 rfl (aSR (aA rfl (aNn (aSR (aM rfl (LF rfl (fx (f:=399) [] [1] (by kernel_rfl) rfl (rG 0 rJ pw tk409 rfl rfl) rfl rfl rfl rfl (n2 hv H) ?_)))))))
 rintro _ _ _ ⟨rfl,rfl,rfl⟩
 refine iL (hp':=hpR hb hv H) rfl (aU rfl (bQ rfl rfl (by omega)) (aA rfl (aNs ?_)))
 rw [show ((H.length:Int)-1)=((H.length-1:Nat):Int) by omega]
 refine ae (aM rfl (aM rfl (LF rfl (fx (f:=403) [] [1] (by kernel_rfl) rfl (rG 0 oM pw tk409 rfl rfl) rfl rfl rfl rfl (lx hv H 0 (H.length-1) (by omega) (by omega)) ?_))))
 rintro _ _ _ ⟨rfl,rfl⟩
 refine iL (hp':=hpR hb hv (swL H 0 (H.length-1))) rfl (aNn (aSR (aM rfl (aM rfl (LF rfl (EC [0] [0,1] rfl (zV hb hv H0 (swL H 0 (H.length-1)) 0 (H.length-1) (by omega) (by omega) (by omega) hne (fun q hq=>hsub q (hsw.mem_iff.1 hq))) ?_))))))
 rintro _ _ _ ⟨rfl,H2,hP2,_,rfl⟩
 refine aST ?_
 refine aNs ?_
 have hl2:=hP2.length_eq
 obtain ⟨H3,p,rfl⟩:∃ H3 p,H2=H3++[p]:=by
   rcases List.eq_nil_or_concat H2 with h | ⟨l,c,h⟩
   · rw [h] at hl2;simp at hl2;omega
   · exact ⟨l,c,by simpa using h⟩
 rw [List.length_append,List.length_singleton] at hl2
 refine ae (aM rfl (LF rfl (fx (f:=401) [] [0,1] (by kernel_rfl) rfl (adM abX pw) rfl rfl rfl rfl (zY hb hv H3 p (by omega)) ?_)))
 rintro _ _ _ ⟨hv1,rfl,rfl,rfl⟩
 refine iL (hp':=hpR hb hv1 H3) rfl (aA rfl (aNn (aj (FZ1 [0,1] Tryz.results342 rfl ?_))))
 exact ⟨rfl,_,_,p,(List.perm_append_comm (l₁:=[p]) (l₂:=H3)).trans (hP2.trans hsw),rfl,rfl⟩
end Go.Proofs.YtfkcmbonmpcbfaaGreat

