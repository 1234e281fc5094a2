/- Parts of the proof, in build order. No condition. -/
import Derived.Test.YtebnelfdimiifaaGreatDoorSa12
import Derived.Test.YtebnelfdimiifaaGreatDoorSa10
import Derived.Test.YtebnelfdimiifaaGreatDoorSa06
import Derived.Test.YtebnelfdimiifaaGreatDoorSa05
import Derived.Test.YtebnelfdimiifaaGreatDoorSa07
import Derived.Test.YtebnelfdimiifaaGreatDoorSa11
set_option linter.unusedSimpArgs false
set_option linter.unusedVariables false
set_option maxHeartbeats 1000000
set_option maxRecDepth 20000
namespace Go.Sy
open Go.RowKit Go.Lp
theorem aau{w:World}{S:bH}{fp:Nat→bH}{ps:List Per}{p:Per}{L:List Res}(hst:St w S fp ps L)(hp:p.holds w (fun b=>S b∨tot fp L.length b)) :
   St w (fun b=>S b∨tot fp L.length b) (fun _ _=>False) (p::ps) [] :=
 ⟨fun q hq=>by
     rcases List.mem_cons.1 hq with rfl | hq
     · exact hp
     · exact q.mono (hst.per q hq) (fun _ _=>rfl) (fun _ h=>.inl h),fun i R hi=>by simp at hi,fun i hi=>by simp at hi,fun i j hi=>by simp at hi,fun b hb=>hb.elim (hst.slt b) fun ⟨i,hi,h⟩=>(hst.lt i hi b h).1⟩
theorem Con.borrowL{P:Program}{f:FuncId}{args:List Value}{ps:List Per}{p:Per}{R:Value→List Per→List Res→Prop}(h:Con P f args (p::ps) [] R)(L:List Res)
   (hB:∀ (w:World) (S:bH) (fp:Nat→bH),(∀ (i:Nat) (A:Res),L[i]? = some A→A.holds w S (fp i))→p.holds w (fun b=>S b∨tot fp L.length b)) (hR:∀ v ps' hp',R v ps' hp'→∀ r∈hp',aft r) :
   Con P f args ps L (fun v ps' hp'=>ps'=[]∧∃ ps2 hp2,R v ps2 hp2∧hp'=L++hp2):=fun w S fp hst=>by
 have h2:=aau hst (hB w S fp hst.res)
 have h0:∀ b,¬ tot (fun _ _=>False) ([]:List Res).length b:=fun b ⟨j,hj,_⟩=>by simp at hj
 refine (h w _ _ h2).mono fun e w' ⟨v,ps',hp',S',fp',he,hR',hst',hE,hb⟩ => ?_
 have hFlt:∀ b,tot fp L.length b→b<w.heap.size∧¬ S b:=fun b ⟨i,hi,h⟩=>hst.lt i hi b h
 have hsame:∀ b,b<w.heap.size→w'.heap[b]? = w.heap[b]? := fun b hb'=>hE.block b hb' (h0 b)
 have hfp:∀ i,i<L.length→∀ b,fp i b→tot fp L.length b:=fun i hi b hb=>⟨i,hi,hb⟩
 refine ⟨v,[],L++hp',fun b=>S' b∧¬ tot fp L.length b,fun i=>if i<L.length then fp i else fp' (i-L.length),he,⟨rfl,ps',hp',hR',rfl⟩,⟨fun q hq=>(by cases hq),fun i A hi => ?_,fun i hi b hbi => ?_,fun i j hi hj hne b hbi hbj => ?_,fun b hb'=>hst'.slt b hb'.1⟩,⟨hE.os,hE.tape,hE.output,hE.size,hE.drawn,fun b hb' _=>hsame b hb',fun b hb'=>⟨hE.more b (.inl hb'),fun hf=>(hFlt b hf).2 hb'⟩,fun b hb' => ?_⟩,fun b ⟨i,hi,hbi⟩ => ?_⟩
 · by_cases hil:i<L.length
   · rw [if_pos hil]
     rw [List.getElem?_append_left hil] at hi
     exact A.mono (hst.res i A hi) (fun b hb'=>hsame b (hFlt b (hfp i hil b hb')).1) (fun b hb'=>hsame b (hst.slt b hb')) (fun b hb'=>⟨hE.more b (.inl hb'),fun hf=>(hFlt b hf).2 hb'⟩)
   · rw [if_neg hil]
     rw [List.getElem?_append_right (by omega)] at hi
     exact hR v ps' hp' hR' A (List.mem_of_getElem? hi) _ _ _ _ (hst'.res _ A hi)
 · by_cases hil:i<L.length
   · rw [if_pos hil] at hbi
     exact ⟨Nat.lt_of_lt_of_le (hFlt b (hfp i hil b hbi)).1 hE.size,fun h=>h.2 (hfp i hil b hbi)⟩
   · rw [if_neg hil] at hbi
     rw [List.length_append] at hi
     have:=hst'.lt (i-L.length) (by omega) b hbi
     exact ⟨this.1,fun h=>this.2 h.1⟩
 · rw [List.length_append] at hi hj
   by_cases hil:i<L.length
   · rw [if_pos hil] at hbi
     by_cases hjl:j<L.length
     · rw [if_pos hjl] at hbj;exact hst.dj i j hil hjl hne b hbi hbj
     · rw [if_neg hjl] at hbj;exact (hst'.lt (j-L.length) (by omega) b hbj).2 (hE.more b (.inr (hfp i hil b hbi)))
   · rw [if_neg hil] at hbi
     by_cases hjl:j<L.length
     · rw [if_pos hjl] at hbj;exact (hst'.lt (i-L.length) (by omega) b hbi).2 (hE.more b (.inr (hfp j hjl b hbj)))
     · rw [if_neg hjl] at hbj;exact hst'.dj (i-L.length) (j-L.length) (by omega) (by omega) (by omega) b hbi hbj
 · rcases hE.new b hb'.1 with (h | h) | h | h
   · exact .inl h
   · exact (hb'.2 h).elim
   · exact (h0 b h).elim
   · exact .inr (.inr h)
 · dsimp only at hbi
   by_cases hil:i<L.length
   · rw [if_pos hil] at hbi;exact .inl ⟨i,hil,hbi⟩
   · rw [if_neg hil] at hbi
     rw [List.length_append] at hi
     exact (hb b ⟨i-L.length,by omega,hbi⟩).elim (fun h=>(h0 b h).elim) .inr
theorem Con.ofRes{P:Program}{f:FuncId}{args:List Value}{ps:List Per}{p:Per}{R:Value→List Per→List Res→Prop}(h:Con P f args (p::ps) [] R)(L:List Res)
   (hB:∀ (w:World) (S:bH) (fp:Nat→bH),(∀ (i:Nat) (A:Res),L[i]? = some A→A.holds w S (fp i))→p.holds w (fun b=>S b∨tot fp L.length b)):Con P f args ps L R:=fun w S fp hst=>by
 have h2:=aau hst (hB w S fp hst.res)
 have h0:∀ b,¬ tot (fun _ _=>False) ([]:List Res).length b:=fun b ⟨j,hj,_⟩=>by simp at hj
 have hE:Evo w S (tot fp L.length) w (fun b=>S b∨tot fp L.length b):=⟨rfl,rfl,rfl,Nat.le_refl _,Nat.le_refl _,fun _ _ _=>rfl,fun _ h=>.inl h,fun b hb=>hb.elim .inl fun h=>.inr (.inl h)⟩
 exact (h w _ _ h2).mono fun e w' ⟨u,ps',hp',S',fp',he,hR,hst',hE',hb⟩=>⟨u,ps',hp',S',fp',he,hR,hst',hE.trans hE' (fun b hb=>(h0 b hb).elim),fun b hb'=>(hb b hb').elim (fun h=>(h0 b h).elim) .inr⟩
theorem Con.clean{P:Program}{f:FuncId}{args:List Value}{ps:List Per}{hp:List Res}{R:Value→List Per→List Res→Prop}{φ:Value→Prop}(h:Con P f args ps hp R)(hR:∀ v ps' hp',R v ps' hp'→φ v):Con P f args ps hp (fun v ps' hp'=>φ v∧ps'=[]∧hp'=[]):=fun w S fp hst =>
 (h w S fp hst).mono fun e w' ⟨v,ps',hp',S',fp',he,hr,hst',hE,hb⟩=>⟨v,[],[],S',fun _ _=>False,he,⟨hR _ _ _ hr,rfl,rfl⟩,⟨fun q hq=>(by cases hq),fun i A hi=>(by simp at hi),fun i hi=>(by simp at hi),fun i j hi=>(by simp at hi),hst'.slt⟩,hE,fun b ⟨i,hi,_⟩=>(by simp at hi)⟩
theorem py{w:World}{S:bH}{sz:Nat}{cs:List Value}{rows:List (List D)}(h:ee w S sz cs rows){k:Nat}(hk:k≤rows.length):ee w S sz (cs.take (k*sz)) (rows.take k) where
 len:=by
   have:=h.len
   have h2:k*sz≤rows.length*sz:=Nat.mul_le_mul_right _ hk
   rw [List.length_take,List.length_take,Nat.min_eq_left hk,Nat.min_eq_left (by omega)]
 row i r hr:=h.row i r (by
   have hl:=(List.getElem?_eq_some_iff.1 hr).1
   rw [List.length_take] at hl
   rw [List.getElem?_take_of_lt (by omega)] at hr;exact hr)
 one v hv:=h.one v (List.mem_of_mem_take hv)
 rep i j r d hr hd:=by
   have hl:=(List.getElem?_eq_some_iff.1 hr).1
   rw [List.length_take] at hl
   rw [List.getElem?_take_of_lt (by omega)] at hr
   obtain ⟨u,hu,hrep⟩:=h.rep i j r d hr hd
   refine ⟨u,?_,hrep⟩
   have hj:=(List.getElem?_eq_some_iff.1 hd).1
   rw [h.row i r hr] at hj
   have h3:(i+1)*sz≤k*sz:=Nat.mul_le_mul_right _ (by omega)
   rw [Nat.add_mul] at h3
   rw [List.getElem?_take_of_lt (by omega)];exact hu
theorem adH{w:World}{S F:bH}{b:Nat}{T:TypeId}{sz cap:Nat}{rows:List (List D)}{k:Nat}(hk:k≤rows.length)(h:(Own b T sz cap rows).holds w S F):(Own b T sz cap (rows.take k)).holds w S F:=by
 obtain ⟨⟨cs,sp,hb,hr,hl,hle,hc⟩,hF⟩:=h
 refine ⟨⟨cs.take (k*sz),cs.drop (k*sz)++sp,?_,py hr hk,?_,by rw [List.length_take];omega,hc⟩,hF⟩
 · rw [← List.append_assoc,List.take_append_drop];exact hb
 · rw [← List.append_assoc,List.take_append_drop];exact hl
theorem tC{w:World}{S F:bH}{B m cp:Nat}{T:TypeId}{sz:Nat}{rows:List (List D)}{k:Nat}(hk:k≤rows.length)(h:(aN (.slice (some ⟨B,0,none⟩) m cp) T sz rows).holds w S F):(aN (.slice (some ⟨B,0,none⟩) k cp) T sz (rows.take k)).holds w S F:=by
 rcases h with ⟨h1,_⟩ | ⟨b,cap,h1,ho⟩
 · cases h1
 · simp only [Value.slice.injEq,Option.some.injEq,Addr.mk.injEq] at h1
   obtain ⟨⟨rfl,_⟩,rfl,rfl⟩:=h1
   exact .inr ⟨B,cp,by rw [List.length_take,Nat.min_eq_left hk],adH hk ho⟩
theorem vu{P:Program}{n:Fr}{env:Env}{ps:List Per}{hp:List Res}{c:Code}{Q:Exit→Sta→Prop}(i k:Nat){B m cp:Nat}{T:TypeId}{sz:Nat}{rows:List (List D)}(hi:hp[i]? = some (aN (.slice (some ⟨B,0,none⟩) m cp) T sz rows))(hk:k≤rows.length)
   (h:awp P n c Q ⟨env,ps,hp.set i (aN (.slice (some ⟨B,0,none⟩) k cp) T sz (rows.take k))⟩):awp P n c Q ⟨env,ps,hp⟩:=eZ i _ hi (fun _ _ _ hh=>tC hk hh) h
theorem gD{P:Program}{n:Fr}{env:Env}{ps:List Per}{hp:List Res}{c:Code}{Q:Exit→Sta→Prop}(i:Nat){v:Value}{E:TypeId}{sz:Nat}{rows:List (List D)}(hi:hp[i]? = some (aN v E sz rows))(h0:rows≠[])(h:∀ B cp,v=.slice (some ⟨B,0,none⟩) rows.length cp→rows.length≤cp→awp P n c Q ⟨env,ps,hp⟩):awp P n c Q ⟨env,ps,hp⟩:=fun w S fp a hst he hn hd=>by
 rcases hst.res i _ hi with ⟨_,h1,_⟩ | ⟨B,cp,h1,⟨⟨_,_,_,_,_,hle,_⟩,_⟩⟩
 · exact (h0 h1).elim
 · exact h B cp h1 hle w S fp a hst he hn hd
theorem adZ{w:World}{S:bH}{b o n c sz:Nat}{rows:List (List D)}(h:fv w S (.slice (some ⟨b,o,none⟩) n c) (.sl rows))(l:Nat)(hsz:∀ r∈rows,r.length=sz)(hl:l<rows.length) :
   fv w S (.slice (some ⟨b,o+l*sz,none⟩) (rows.drop l).length (c-l)) (.sl (rows.drop l)):=by
 cases h with
 | e a c hc=>simp at hl
 | sl b o c sz2 rows us hb hn hc hr hcell hd =>
   have h0:rows[0]? = some (rows[0]'(by omega)):=List.getElem?_eq_getElem (by omega)
   obtain rfl:sz2=sz:=by rw [← hr 0 _ h0,hsz _ (List.getElem_mem _)]
   have key:∀ (i:Nat) (r:List D),(rows.drop l)[i]? = some r→rows[l+i]? = some r:=fun i r h=>by
     rw [List.getElem?_drop] at h;exact h
   refine .sl b (o+l*sz2) (c-l) sz2 _ (fun i j=>us (l+i) j) hb (by simp;omega) (by omega) (fun i r hi=>hr _ r (key i r hi)) (fun i j r d hi hj => ?_) (fun i j r d hi hj=>hd _ j r d (key i r hi) hj)
   rw [show o+l*sz2+i*sz2+j=o+(l+i)*sz2+j by rw [Nat.add_mul];omega]
   exact hcell _ j r d (key i r hi) hj
theorem adE{w:World}{S F:bH}{E:TypeId}{sz B m cap k:Nat}{rows:List (List D)}(h:(aN (.slice (some ⟨B,0,none⟩) m cap) E sz rows).holds w S F)(hsz:∀ r∈rows,r.length=sz)(hk:k<rows.length) :
   fv w (fun b=>S b∨F b) (.slice (some ⟨B,k*sz,none⟩) (rows.drop k).length (cap-k)) (.sl (rows.drop k)):=by
 have:=adZ (ns h) k hsz hk
 rwa [Nat.zero_add] at this
theorem Con.keepF{P:Program}{f:FuncId}{args:List Value}{ps:List Per}{hp:List Res}{R:Value→List Per→List Res→Prop}(h:Con P f args ps hp R):Con P f args ps hp (fun v ps' hp'=>∃ ps0,ps'=ps0++ps∧R v ps0 hp'):=fun w S fp hst =>
 (h w S fp hst).mono fun e w' ⟨v,ps',hp',S',fp',he,hr,hst',hE,hb⟩=>⟨v,ps'++ps,hp',S',fp',he,⟨ps',rfl,hr⟩,⟨fun p hp=>(List.mem_append.1 hp).elim (hst'.per p) fun hp=>p.mono (hst.per p hp) (fun b hbS=>hE.block b (hst.slt b hbS) fun ⟨i,hi,hbi⟩=>(hst.lt i hi b hbi).2 hbS) hE.more,hst'.res,hst'.lt,hst'.dj,hst'.slt⟩,hE,hb⟩
end Go.Sy

namespace Go.Proofs.YtebnelfdimiifaaGreatDoor
open Go.RowKit Go.Lp Go.Sy Go.Lv
open Go.Proofs.Tryz
attribute [local irreducible] aL aB awp aC fwp Quiet
theorem afR(l:List Int):∀ r∈eR l,r.length=1:=fun r hr=>by obtain ⟨z,_,rfl⟩:=List.mem_map.1 hr;rfl
theorem yf(B0 cp:Nat)(A D:List Int)(hD:D≠[])(hl:D.length≤1000000) :
   Con Tryz.prog 202 [.slice (some ⟨B0,A.length*1,none⟩) D.length (cp-A.length)] [] [aN (.slice (some ⟨B0,0,none⟩) (A++D).length cp) 3 1 (eR (A++D))]
     fun r ps hp=>ps=[]∧hp=[aN (.slice (some ⟨B0,0,none⟩) (A++D).length cp) 3 1 (eR (A++D)),aN r 3 1 (eR D)]:=by
 refine (Con.borrowL (qK (ad:=some ⟨B0,A.length*1,none⟩) (c:=cp-A.length) D hl) [aN (.slice (some ⟨B0,0,none⟩) (A++D).length cp) 3 1 (eR (A++D))] (fun w S fp h => ?_) fun v ps' hp' ⟨_,e⟩ r hr => ?_).post fun v ps' hp' ⟨h1,ps2,hp2,⟨_,h3⟩,h5⟩=>⟨h1,by rw [h5,h3];rfl⟩
 · have h0:=adE (k:=A.length) (h 0 _ rfl) (afR _) (by rw [List.length_map,List.length_append];have:=List.length_pos_iff.2 hD;omega)
   have e:(eR (A++D)).drop A.length=eR D:=by rw [← List.map_drop,List.drop_left]
   rw [e,List.length_map] at h0
   exact h0.mono (fun _ _=>rfl) fun b hb=>hb.imp id fun hf=>⟨0,by simp,hf⟩
 · rw [e] at hr;rw [List.mem_singleton.1 hr]
   exact abv fun r hr d hd=>by
     obtain ⟨z,_,rfl⟩:=List.mem_map.1 hr
     rw [List.mem_singleton.1 hd];exact ⟨_,rfl⟩
theorem xv{part p:List Int}{u:Int}{k:Nat}{w:Int}(h:p[k]? = some w):df part u (p.take (k+1))=(df part u (p.take k)).set w.toNat u:=by
 unfold df;rw [List.take_add_one,h,List.foldl_append];rfl
theorem aaR(bf:Nat)(nx iv lv sv pv qv:Value)(A B part:List Int)(v:Int)(P:List (Sl Int))(hv:v ∉ B)(hlen:(A++v::B).length≤1000000)(hpr:∀ x∈v::B,0≤x∧x<part.length)(hP:P.length≤1000000) :
   Con Tryz.prog 212 [.pointer (some ⟨bf,0,none⟩),.int .i64 v] [] [Box bf 290 [nx,iv,lv,sv,pv,qv],aN sv 3 1 (eR (A++v::B)),aN pv 3 1 (eR part),aN qv 25 1 (P.map slR)]
     fun _ ps hp=>∃ (pl:Sl Int) (sv' qv':Value),pl.l.Perm (v::B)∧ps=[ShF cO pl]∧hp=[Box bf 290 [nx,iv,lv,sv',pv,qv'],aN sv' 3 1 (eR A),aN pv 3 1 (eR (df part ((P.length:Int)+1) pl.l)),aN qv' 25 1 ((P++[pl]).map slR)]:=by
 obtain ⟨S,hS⟩:∃ S,S=A++v::B:=⟨_,rfl⟩
 rw [← hS] at hlen ⊢
 have hSl:S.length=A.length+(B.length+1):=by rw [hS];simp
 have hSA:S[A.length]? = some v:=by rw [hS];simp
 have hSB:∀ i z,A.length<i→S[i]? = some z→z≠v:=fun i z hi hz e=>by
   rw [hS,List.getElem?_append_right (by omega)] at hz
   obtain ⟨k,hk⟩:∃ k,i-A.length=k+1:=⟨i-A.length-1,by omega⟩
   rw [hk,List.getElem?_cons_succ] at hz
   exact hv (e ▸ List.mem_of_getElem? hz)
 have hE:(eR S).length=S.length:=List.length_map _
 refine EN2 Tryz.func212 rfl (aSR (aM rfl (UN rfl rfl (UO 3 rfl rfl (UL 0 tk25 rfl rfl rfl rfl (aU rfl (gK 1 Tryz.underlying25 rfl rfl) (aU rfl (cZ rfl rfl (by omega)) (aA rfl (aNs (aq ?_))))))))))
 refine aP [0,1,4] [] [0,1,2,3] (fun (i:Nat) st=>(A.length≤i∧i<S.length)∧st=⟨[(0,true,.pointer (some ⟨bf,0,none⟩)),(1,true,.int .i64 v),(4,true,.int .i64 i)],[],[Box bf 290 [nx,iv,lv,sv,pv,qv],aN sv 3 1 (eR S),aN pv 3 1 (eR part),aN qv 25 1 (P.map slR)]⟩) (fun i=>i) rfl (⟨S.length-1,⟨by omega,by omega⟩,by rw [show ((S.length-1:Nat):Int)=(S.length:Int)-1 by omega,List.length_map];rfl⟩) ?_
 rintro i st ⟨⟨hiA,hiS⟩,rfl⟩
 obtain ⟨z,hz⟩:∃ z,S[i]? = some z:=⟨_,List.getElem?_eq_getElem hiS⟩
 refine ai (aSR (aM rfl (UN rfl rfl (UO 3 rfl rfl (UL 0 tk25 rfl rfl rfl rfl (aM rfl ?_))))))
 refine aU rfl (bZ 1 i el25 rfl rfl rfl rfl (by rw [List.length_map];exact hiS)) ?_
 refine aU rfl (bE 1 i 0 tk3 rfl rfl (aI hz) rfl rfl) (aM rfl (aU rfl (fI rfl rfl) (aNn ?_)))
 refine ao _ rfl (fun h1 => ?_) (fun h1 => ?_)
 ·skip
  have hzv:z≠v:=by simpa using h1
  have hlt:A.length<i:=by
    rcases Nat.lt_or_ge A.length i with h | h
    · exact h
    · obtain rfl:i=A.length:=by omega
      rw [hSA] at hz;exact absurd (Option.some.inj hz).symm hzv
  refine ax (an (aq (aa (aM rfl (aU rfl (cZ rfl rfl (by omega)) (aA rfl (bP (bu (an ?_)))))))))
  refine ⟨[0,1,4],[],[0,1,2,3],rfl,?_⟩
  exact ⟨i-1,⟨⟨by omega,by omega⟩,by rw [show ((i-1:Nat):Int)=(i:Int)-1 by omega];rfl⟩,by omega⟩
 ·skip
  have hzv:z=v:=by simpa using h1
  obtain rfl:i=A.length:=by
    rcases Nat.lt_or_ge A.length i with h | h
    · exact absurd hzv (hSB i z h hz)
    · omega
  refine aR (aS (aS (aY (an (ai ?_)))))
  refine gD 1 rfl (fun h0=>by have:=congrArg List.length h0;rw [hE,List.length_nil] at this;omega) (fun B0 cp hv0 hcp => ?_)
  rw [hE] at hv0 hcp
  subst hv0
  refine aa (aM rfl (UN rfl rfl (UO 3 rfl rfl (UL 0 tk25 rfl rfl rfl rfl (aM rfl ?_)))))
  refine aU rfl (oN A.length (v::B).length (A.length*1) el25 rfl rfl rfl (by omega) hcp (by rw [hSl,List.length_cons];omega) (by omega)) ?_
  refine LF rfl (EC [] [1] rfl ((by rw [hS];exact yf B0 cp A (v::B) (by simp) (by rw [hSl] at hlen;simp;omega))) ?_)
  rintro r3_6 _ _ ⟨rfl,rfl⟩
  refine aST ?_
  refine aA rfl (aNn (aSR (aM rfl (aM rfl (UN rfl rfl (UO 3 rfl rfl (UL 0 tk25 rfl rfl rfl rfl (aM rfl (aU rfl (iM A.length el25 rfl rfl rfl (by omega) hcp) (UN rfl rfl (UO 3 rfl rfl (aW rfl (ba 0 tk25 rfl rfl rfl rfl (aHK ?_))))))))))))))
  refine aNs ?_
  refine eZ 1 (aN (.slice (some ⟨B0,0,none⟩) A.length cp) 3 1 (eR A)) rfl (fun w S F h=>by have:=tC (k:=A.length) (by rw [List.length_map,List.length_append];omega) h;rwa [show (eR (A++v::B)).take A.length=eR A by rw [← List.map_take,List.take_left]] at this) ?_
  refine aa (aM rfl ?_)
  refine LF rfl (EC [] [4] rfl (oD (v::B) (by rw [hSl] at hlen;simp;omega)) ?_)
  rintro _ _ _ ⟨rfl,rfl⟩
  refine aST ?_
  refine aNs ?_
  have hsp:(fT (v::B)).Perm (v::B):=List.mergeSort_perm _ _
  generalize fT (v::B)=p at hsp
  have hpl:=hsp.length_eq
  rw [List.length_cons] at hpl
  refine vv 4 rfl (fun ad cpp hv4 => ?_)
  rw [show (cD encI p).length=p.length by simp [cD]] at hv4
  subst hv4
  refine jX 4 (ShF cO ⟨ad,cpp,p⟩) rfl (fun _ _ _ h=>ns h) ?_
  show awp _ _ _ _ ⟨_,[ShF cO _],[_,_,_,_,emp]⟩
  refine aa (aM rfl (aM rfl (UN rfl rfl (UO 5 rfl rfl (UL 0 tk273 rfl rfl rfl rfl (aM rfl (LT rfl (WL (zs:=[.slice none 0 0]) el273 rfl rfl rfl (.more rfl (.v rfl .nil) .nil) rfl rfl (fun v6_6=>(aHN ?_))))))))))
  refine aW rfl (cK 3 el273 rfl rfl rfl rfl (dW 5 el273 rfl (by simp)) (by first | assumption | simp) (by show (P.map slR).length+1≤_;rw [List.length_map];exact Nat.le_trans (show P.length+1≤1000001 by omega) (by decide)) (P.length+1) (by simp) (fun v6_7 c6_7 => ?_))
  refine aHK ?_
  refine UN rfl rfl (UO 5 rfl rfl (aW rfl (ba 0 tk273 rfl rfl rfl rfl (aHK ?_))))
  refine aNn (aSR (aM rfl (aU rfl (aX Tryz.underlying25 rfl) (aM rfl (aNn (aq ?_))))))
  refine aP [0,53,54,55] [0] [0,1,2,3] (fun (k:Nat) st=>k≤p.length∧st=⟨[(0,true,.pointer (some ⟨bf,0,none⟩)),(53,true,.slice ad p.length cpp),(54,true,.int .i64 p.length),(55,true,.int .i64 k)],[ShF cO ⟨ad,cpp,p⟩],[Box bf 290 [nx,iv,lv,.slice (some ⟨B0,0,none⟩) A.length cp,pv,.slice v6_7 (P.length+1) c6_7],aN (.slice (some ⟨B0,0,none⟩) A.length cp) 3 1 (eR A),aN pv 3 1 (eR (df part ((P.length:Int)+1) (p.take k))),aN (.slice v6_7 (P.length+1) c6_7) 25 1 ((P++[(⟨ad,cpp,p⟩:Sl Int)]).map slR)]⟩) (fun k=>p.length-k) rfl (⟨0,Nat.zero_le _,by rw [List.map_append];rfl⟩) ?_
  rintro k st ⟨hk,rfl⟩
  refine aSR (aU rfl (bC rfl rfl) (aNs ?_))
  refine ao _ rfl (fun h2 => ?_) (fun h2 => ?_)
  ·skip
   have hk':k<p.length:=by simpa using h2
   obtain ⟨w,hw⟩:∃ w,p[k]? = some w:=⟨_,List.getElem?_eq_getElem hk'⟩
   have hwr:=hpr w (hsp.mem_iff.1 (List.mem_of_getElem? hw))
   have hsn:=xv (part:=part) (u:=(P.length:Int)+1) hw
   have hsl:=rR ((P.length:Int)+1) (p.take k) part
   obtain ⟨w0,rfl⟩:=Int.eq_ofNat_of_zero_le hwr.1
   obtain ⟨po,hpo⟩:∃ z,(df part ((P.length:Int)+1) (p.take k))[w0]? = some z:=⟨_,List.getElem?_eq_getElem (by omega)⟩
   refine ax (an (ai (aq (aSR (UI Tryz.underlying25 tk3 0 rfl rfl rfl rfl rfl (aI hw) rfl rfl (fun ⟨b9_0,o9_0⟩=>(US 0 tk3 0 rfl rfl rfl rfl rfl (aA rfl (aNn (DR [11] 12 (VM 0 rfl rfl (VN 1 rfl rfl rfl (VO 2 4 rfl rfl rfl (VL 3 0 tk25 rfl rfl rfl rfl rfl (VM 4 rfl rfl ?_)))))))))))))))
   refine VM 5 rfl rfl (VN 6 rfl rfl rfl (VO 7 5 rfl rfl rfl (VL 8 0 tk273 rfl rfl rfl rfl rfl (bV 9 rfl rfl (gK 3 Tryz.underlying273 rfl rfl) ?_))))
   refine bV 10 rfl rfl (bZ 2 w0 el25 rfl rfl rfl rfl (by rw [List.length_map];omega)) ?_
   refine VE 11 rfl rfl (du 2 w0 0 tk3 rfl rfl rfl (aI hpo) rfl (.v rfl .nil) rfl (by decide) (bST rfl ?_))
   refine BN (bu (an (aa (aU rfl (aV rfl rfl (by omega)) (aM rfl (aNn ?_))))))
   refine ⟨[0,53,54,55],[0],[0,1,2,3],rfl,?_⟩
   refine ⟨k+1,⟨by omega,?_⟩,by omega⟩
   rw [hsn,List.length_map,List.length_append]
   show _=(⟨_,_,[_,_,aN pv _ 1 ((List.set _ (w0:Int).toNat _).map cO),_]⟩:Sta)
   rw [List.map_set];rfl
  ·skip
   refine aR (aS (aS (aY ?_)))
   refine rk [0] [0,1,2,3] rfl Tryz.results212 ?_ (.inl rfl)
   have hkp:k=p.length:=by simp at h2;omega
   subst hkp
   rw [List.take_length]
   exact ⟨⟨ad,cpp,p⟩,_,_,hsp,rfl,rfl⟩
theorem yg(bf:Nat)(nx iv lv sv pv qv:Value)(A B part:List Int)(v:Int)(P:List (Sl Int))(hv:v ∉ B)(hlen:(A++v::B).length≤1000000)(hpr:∀ x∈v::B,0≤x∧x<part.length)(hP:P.length≤1000000) :
   Con Tryz.prog 212 [.pointer (some ⟨bf,0,none⟩),.int .i64 v] [b6 (ShF cO) P] [Box bf 290 [nx,iv,lv,sv,pv,qv],aN sv 3 1 (eR (A++v::B)),aN pv 3 1 (eR part),aN qv 25 1 (P.map slR)]
     fun _ ps hp=>∃ (pl:Sl Int) (sv' qv':Value),pl.l.Perm (v::B)∧ps=[b6 (ShF cO) (P++[pl])]∧hp=[Box bf 290 [nx,iv,lv,sv',pv,qv'],aN sv' 3 1 (eR A),aN pv 3 1 (eR (df part ((P.length:Int)+1) pl.l)),aN qv' 25 1 ((P++[pl]).map slR)] :=
 Con.conv (((aaR bf nx iv lv sv pv qv A B part v P hv hlen hpr hP).pre (ps0:=[b6 (ShF cO) P]) fun p hp=>by cases hp).keepF) fun _ ps' hp' ⟨ps0,e,pl,sv',qv',h1,h2,h3⟩=>by
   subst e h2 h3
   exact ⟨_,_,StE.ents (ps':=[b6 (ShF cO) (P++[pl])]) (fun p hp=>by
     rw [List.mem_singleton.1 hp]
     exact fun w S hps x hx=>(List.mem_append.1 hx).elim (fun h=>hps (b6 (ShF cO) P) (by simp) x h) fun h=>by rw [List.mem_singleton.1 h];exact hps (ShF cO pl) (by simp)),pl,sv',qv',h1,rfl,rfl⟩
end Go.Proofs.YtebnelfdimiifaaGreatDoor

namespace Go.Lv
open Go.Sy
theorem rh{N:Nat}{nx:List (List Int)}{r:Int}{s:TS}(h:TI N nx r s){w:Int}(hw:0≤w∧w<N)(x:Int)(hx:0≤x)(he:elt s.idx x≠0):elt (di s w).idx x≠0:=by
 have hli:=h.li
 have hc:=h.cnt0
 show elt (s.idx.set w.toNat (s.cnt+1)) x≠0
 rw [ei hw.1 (by omega) hx]
 split
 · omega
 · exact he
theorem ac3{N:Nat}{nx:List (List Int)}{r:Int}{s:TS}(h:TI N nx r s){w:Int}(hw:0≤w∧w<N):elt (di s w).idx w≠0:=by
 have hli:=h.li
 have hc:=h.cnt0
 show elt (s.idx.set w.toNat (s.cnt+1)) w≠0
 rw [ei hw.1 (by omega) hw.1,if_pos rfl];omega
theorem aed{N:Nat}{nx:List (List Int)}{r:Int}{s:TS}(h:TI N nx r s):s.stk.length≤N:=by
 have h3:=dV (fun _=>1) (s.stk.map Int.toNat) (List.range N) (eF h.nd fun q hq=>((h.stk q).1 hq).1.1) (fun q hq=>by
   obtain ⟨x,hx,e⟩:=List.mem_map.1 hq
   have:=((h.stk x).1 hx).1
   exact List.mem_range.2 (by omega))
 have e:∀ l:List Nat,(l.map fun _=>1).sum=l.length:=fun l=>by induction l with
   | nil=>rfl
   | cons a l ih=>rw [List.map_cons,List.sum_cons,ih,List.length_cons];omega
 rw [e,e,List.length_map,List.length_range] at h3
 exact h3
theorem PL.count{N:Nat}{part:List Int}{ps:List (List Int)}(h:PL N part ps):ps.length≤N:=by
 have hx:∀ (i:Nat) (p:List Int),ps[i]? = some p→(0≤p.headD 0∧p.headD 0<N)∧elt part (p.headD 0)=(i:Int)+1:=fun i p hp=>h.of i p hp _ (by
   obtain ⟨a,l,rfl⟩:=List.exists_cons_of_ne_nil (h.ne i p hp).1
   exact List.mem_cons_self ..)
 have h3:=dV (fun _=>1) (ps.map fun p=>(p.headD 0).toNat) (List.range N) (List.pairwise_iff_getElem.2 fun i j hi hj hij e=>by
   rw [List.length_map] at hi hj
   have h1:=hx i _ (List.getElem?_eq_getElem hi)
   have h2:=hx j _ (List.getElem?_eq_getElem hj)
   rw [List.getElem_map,List.getElem_map] at e
   have e2:(ps[i]).headD 0=(ps[j]).headD 0:=by have:=h1.1;have:=h2.1;omega
   have h4:=h1.2
   rw [e2,h2.2] at h4
   omega) (fun q hq=>by
   obtain ⟨p,hp,e⟩:=List.mem_map.1 hq
   obtain ⟨i,hi,rfl⟩:=List.mem_iff_getElem.1 hp
   have:=(hx i _ (List.getElem?_eq_getElem hi)).1
   exact List.mem_range.2 (by omega))
 have e:∀ l:List Nat,(l.map fun _=>1).sum=l.length:=fun l=>by induction l with
   | nil=>rfl
   | cons a l ih=>rw [List.map_cons,List.sum_cons,ih,List.length_cons];omega
 rw [e,e,List.length_map,List.length_range] at h3
 exact h3
theorem acD{N:Nat}{nx:List (List Int)}{r:Int}{s:TS}(h:TI N nx r s):s.calls.length≤N:=by
 have h1:=h.sub.length_le
 rw [List.length_map] at h1
 exact Nat.le_trans h1 (aed h)
end Go.Lv
namespace Go.Proofs.YtebnelfdimiifaaGreatDoor
open Go.RowKit Go.Lp Go.Sy Go.Lv
open Go.Proofs.Tryz
attribute [local irreducible] aL aB awp aC fwp Quiet
abbrev cR(c:Int × Int):List D:=[.v (.int .i64 c.1),.v (.int .i64 c.2)]
abbrev zV(bf bc:Nat)(nx iv lv sv pv qv cv:Value)(s:TS)(P:List (Sl Int)):List Res :=
 [Box bf 290 [nx,iv,lv,sv,pv,qv],aN iv 3 1 (eR s.idx),aN lv 3 1 (eR s.low),aN sv 3 1 (eR s.stk),aN pv 3 1 (eR s.part),aN qv 25 1 (P.map slR),Box bc 3 [.int .i64 s.cnt],aN cv 308 2 (s.calls.map cR)]
abbrev nL(nx:Sl (Sl Int)):List (List Int):=nx.l.map (·.l)
theorem ki(nx:Sl (Sl Int))(v:Int):elt (nL nx) v=(elt nx.l v).l:=by
 unfold elt
 rw [List.getD_eq_getElem?_getD,List.getD_eq_getElem?_getD,List.getElem?_map]
 cases nx.l[v.toNat]? <;> rfl
structure FI (N:Nat) (nx:Sl (Sl Int)) (r:Int) (s0 s:TS) (P:List (Sl Int)):Prop where
 ti:TI N (nL nx) r s
 np:s.np=P.length
 pl:PL N s.part (P.map (·.l))
 mono:∀ v:Int,0≤v→v<N→elt s0.idx v≠0→elt s.idx v≠0
 me:elt s.idx r≠0
 nple:P.length≤N
 tj:TJ (nL nx) s
 pc:PC N s.part (P.map (·.l))
set_option maxHeartbeats 1000000 in
theorem acI(N:Nat)(hN:N≤100000)(nx:Sl (Sl Int))(hnl:nx.l.length=N)(hnr:∀ l∈nx.l,∀ w∈l.l,0≤w∧w<N)(bf bc:Nat)(iv lv sv pv qv:Value)(s:TS)(P:List (Sl Int))(r:Nat)(hr:r<N)
   (hs:TI N (nL nx) r s) (hc:s.calls=[]) (hk:s.stk=[]) (h0:elt s.idx (r:Int)=0) (hP:s.np=P.length) (hPN:P.length≤N) (hPL:PL N s.part (P.map (·.l))) (hJ:TJ (nL nx) s) (hPC:PC N s.part (P.map (·.l))) :
   Con Tryz.prog 195 [.pointer (some ⟨bf,0,none⟩),.int .i64 r,.pointer (some ⟨bc,0,none⟩)] [ShF slR nx,b6 (ShF cO) nx.l,b6 (ShF cO) P] (abt bf bc nx.val iv lv sv pv qv s P)
     fun _ ps hp=>∃ (s':TS) (P':List (Sl Int)) (sv' qv':Value),FI N nx r s s' P'∧s'.calls=[]∧s'.stk=[]∧ps=[b6 (ShF cO) P']∧hp=abt bf bc nx.val iv lv sv' pv qv' s' P':=by
 have hrr:0≤(r:Int)∧(r:Int)<N:=by omega
 have hcn:=hs.cnt0
 have hst0:=hs.enter hrr h0 (.inr ⟨hk,rfl⟩)
 have hnrL:∀ v w,w∈elt (nL nx) v→0≤w∧w<N:=fun v w hw=>by
   rw [ki] at hw
   unfold elt at hw
   rw [List.getD_eq_getElem?_getD] at hw
   cases hx:nx.l[v.toNat]? with
   | none=>rw [hx] at hw;cases hw
   | some l=>rw [hx] at hw;exact hnr l (List.mem_of_getElem? hx) w hw
 have hJ0:=hJ.enter hs hnrL hrr h0 (.inl hk)
 refine EN3 Tryz.func195 rfl (aSR (LT rfl (cx rfl rfl rfl (fun b0_0=>(aHN ?_)))))
 refine LT rfl (cx rfl rfl rfl (fun b0_1=>(aHN ?_)))
 refine aNs (bT 7 rfl rfl (bT 8 rfl rfl ?_))
 show awp _ _ _ _ ⟨_,[At b0_1 0 [.v (.pointer (some ⟨bc,0,none⟩))],At b0_0 0 [.v (.pointer (some ⟨bf,0,none⟩))],_,_,_],[_,_,_,_,_,_,_,emp,emp]⟩
 refine aa (aU rfl (cq (l:=[.tmp 5,.tmp 3]) rfl) (aA rfl (aNn (aSR (aM rfl (aM rfl ?_))))))
 refine LF rfl (fN [4,3] [0,1,2,3,4,5,6] (by kernel_rfl) rfl rfl rfl rfl rfl (s9 bf bc b0_1 b0_0 nx.val iv lv sv pv qv s P r (by rw [hs.li];exact hr) (by rw [hs.ll];exact hr) ⟨hcn.1,by omega⟩ (by rw [hk];exact Nat.zero_le _)) ?_)
 rintro _ _ _ ⟨rfl,rfl,sv1,rfl⟩
 refine aST ?_
 refine LT rfl (WL (zs:=[.int .i64 0,.int .i64 0]) el310 rfl rfl rfl (.more rfl (.v rfl (.v rfl .nil)) .nil) rfl rfl (fun v2_3=>(aHN ?_)))
 refine aA rfl (aNn (aq ?_))
 refine aP [3,6,7] [4,3,2,1,0] [0,1,2,3,4,5,6,9] (fun (q:(Value × Value × Value) × (TS × List (Sl Int))) st=>(FI N nx r s q.2.1 q.2.2∧(q.2.1.calls=[]→q.2.1.stk=[]))∧st=⟨[(3,true,.pointer (some ⟨b0_0,0,none⟩)),(6,true,.func (.func 211) #[] #[.pointer (some ⟨b0_1,0,none⟩),.pointer (some ⟨b0_0,0,none⟩)]),(7,true,q.1.1)],[At b0_1 0 [.v (.pointer (some ⟨bc,0,none⟩))],At b0_0 0 [.v (.pointer (some ⟨bf,0,none⟩))],ShF slR nx,b6 (ShF cO) nx.l,b6 (ShF cO) q.2.2],zV bf bc nx.val iv lv q.1.2.1 pv q.1.2.2 q.1.1 q.2.1 q.2.2⟩) (fun q=>tmu N (nL nx) q.2.1) rfl (⟨((_,sv1,qv),(di s r,P)),⟨⟨hst0,hP,hPL,fun v h1 h2 h3=>rh hs hrr v h1 h3,ac3 hs hrr,hPN,hJ0,hPC⟩,fun h=>by simp [di] at h⟩,by simp only [di,hc];rfl⟩) ?_
 rintro ⟨⟨cv,sv1,qv1⟩,s1,P1⟩ st ⟨⟨hI,hE⟩,rfl⟩
 dsimp only at hI hE ⊢
 have hT:=hI.ti
 have hcle:=acD hT
 have hsle:=aed hT
 have hnp:=hI.nple
 refine ai (aSR (aM rfl (aU rfl (gK 7 Tryz.underlying310 rfl rfl) (aU rfl (cN rfl rfl) (aNn ?_)))))
 refine ao _ rfl (fun h1 => ?_) (fun h1 => ?_)
 ·skip
  obtain ⟨cs,v,i,hcs⟩:∃ cs v i,s1.calls=cs++[(v,i)]:=by
    rcases List.eq_nil_or_concat s1.calls with h | ⟨cs,c,h⟩
    · rw [h] at h1;simp at h1
    · exact ⟨cs,c.1,c.2,by simpa using h⟩
  obtain ⟨hTp,hvs,hlast⟩:=hT.pop hcs
  have hvr:=((hT.stk v).1 hvs).1
  obtain ⟨v0,rfl⟩:=Int.eq_ofNat_of_zero_le hvr.1
  have hci:=hT.ci ((v0:Int),i) (by rw [hcs];simp)
  dsimp only at hci
  rw [ki] at hci
  have hcl:(s1.calls.map cR).length=cs.length+1:=by rw [hcs];simp
  have hrow:(s1.calls.map cR)[cs.length]? = some (cR ((v0:Int),i)):=by rw [hcs];simp
  have hnv:nx.l[v0]? = some (elt nx.l (v0:Int)):=dU (by omega)
  rw [List.length_map] at hcl
  refine bS (Ent.all (f:=ShF cO) (.of (aH 3 rfl)) hnv) (fun hln=>(ax (an (aq (ai ?_)))))
  refine gD 7 rfl (fun h0=>by rw [hcs] at h0;simp at h0) (fun Bc ccp hvc hcc => ?_)
  rw [List.length_map,hcl] at hvc hcc
  subst hvc
  have hcl2:(s1.calls.map cR).length=cs.length+1:=by rw [List.length_map,hcl]
  refine aa (aM rfl (aM rfl (aU rfl (gK 7 Tryz.underlying310 rfl rfl) (aU rfl (cZ rfl rfl (by omega)) (aU rfl (fW cs.length el310 rfl rfl (by omega) (by omega)) (aA rfl (aNs (ai (DR [] 16 (VM 0 rfl rfl (VN 1 rfl rfl rfl (VO 2 1 rfl rfl rfl (bV 3 rfl rfl (bE (v:=.slice (some ⟨Bc,0,none⟩) (cs.length+1) ccp) (u:=.int .i64 i) 7 cs.length 1 tk3 rfl rfl hrow rfl rfl) (VD 4 0 tk306 1 rfl rfl rfl rfl rfl (VN 5 rfl rfl rfl ?_)))))))))))))))
  refine VO 6 0 rfl rfl rfl (VL 7 0 tk273 rfl rfl rfl rfl rfl (VM 8 rfl rfl (VN 9 rfl rfl rfl (VO 10 0 rfl rfl rfl (bV 11 rfl rfl (bE (v:=.slice (some ⟨Bc,0,none⟩) (cs.length+1) ccp) (u:=.int .i64 (v0:Int)) 7 cs.length 0 tk3 rfl rfl hrow rfl rfl) (XI 12 Tryz.underlying273 tk25 2 rfl rfl rfl rfl rfl rfl (aI hnv) rfl rfl (fun ⟨b5_12,o5_12⟩=>(VT 13 0 tk25 0 rfl rfl rfl rfl rfl rfl (bV 14 rfl rfl (aX Tryz.underlying25 rfl) (bV 15 rfl rfl (bC rfl rfl) (BN (an ?_))))))))))))
  refine ao _ rfl (fun h2 => ?_) (fun h2 => ?_)
  ·skip
   have hi2:i<((elt nx.l (v0:Int)).l.length:Int):=by simpa using h2
   obtain ⟨i0,rfl⟩:=Int.eq_ofNat_of_zero_le hci.1
   obtain ⟨w,hw⟩:∃ w,(elt nx.l (v0:Int)).l[i0]? = some w:=⟨_,List.getElem?_eq_getElem (by omega)⟩
   have hwr:=hnr _ (List.mem_of_getElem? hnv) w (List.mem_of_getElem? hw)
   obtain ⟨w0,rfl⟩:=Int.eq_ofNat_of_zero_le hwr.1
   have hT2:=hT.adv hcs (by rw [ki];exact hi2)
   have hmu:=afg (N:=N) (nx:=nL nx) hcs (Int.natCast_nonneg i0) (by rw [ki];exact hi2)
   have hset:(s1.calls.map cR).set cs.length (mE (cR ((v0:Int),(i0:Int))) 1 [.v (.int .i64 ((i0:Int)+1))])=(cs++[((v0:Int),(i0:Int)+1)]).map cR:=by rw [hcs];simp [mE]
   have hix:s1.idx[w0]? = some (elt s1.idx (w0:Int)):=dU (by rw [hT.li];omega)
   have hpx:s1.part[w0]? = some (elt s1.part (w0:Int)):=dU (by rw [hT.lp];omega)
   have hlx:s1.low[v0]? = some (elt s1.low (v0:Int)):=dU (by rw [hT.ll];omega)
   have hrow2:((cs++[((v0:Int),(i0:Int)+1)]).map cR)[cs.length]? = some (cR ((v0:Int),(i0:Int)+1)):=by simp
   refine ai (DR [] 17 (VD 0 0 tk306 2 rfl rfl rfl rfl rfl (VN 1 rfl rfl rfl (VO 2 0 rfl rfl rfl (VL 3 0 tk273 rfl rfl rfl rfl rfl (VM 4 rfl rfl (VN 5 rfl rfl rfl (VO 6 0 rfl rfl rfl (bV 7 rfl rfl (bE (v:=.slice (some ⟨Bc,0,none⟩) (cs.length+1) ccp) (u:=.int .i64 (v0:Int)) 7 cs.length 0 tk3 rfl rfl hrow rfl rfl) (XI 8 Tryz.underlying273 tk25 3 rfl rfl rfl rfl rfl rfl (aI hnv) rfl rfl (fun ⟨b6_8,o6_8⟩=>(VT 9 0 tk25 0 rfl rfl rfl rfl rfl rfl (VM 10 rfl rfl (VN 11 rfl rfl rfl (VO 12 1 rfl rfl rfl ?_)))))))))))))))
   refine bV 13 rfl rfl (bE (v:=.slice (some ⟨Bc,0,none⟩) (cs.length+1) ccp) (u:=.int .i64 (i0:Int)) 7 cs.length 1 tk3 rfl rfl hrow rfl rfl) (sd 14 rfl (by kernel_rfl) true rfl rfl (fun _=>bI Tryz.underlying25 tk3 rfl ((Ent.all (f:=ShF cO) (.of (aH 5 rfl)) hnv)) rfl (aI hw) rfl rfl) (fun h=>absurd h (by decide)) (fun ⟨b6_14,o6_14⟩=>(VT 15 0 tk3 0 rfl rfl rfl rfl rfl rfl (bV 16 rfl rfl (bo rfl) (BN (an (aSR (aM rfl (UN rfl rfl (UO 1 rfl rfl (aU rfl (bE (v:=.slice (some ⟨Bc,0,none⟩) (cs.length+1) ccp) (u:=.int .i64 (i0:Int)) 7 cs.length 1 tk3 rfl rfl hrow rfl rfl) (aU rfl (aV rfl rfl (by omega)) (UN rfl rfl (UO 1 rfl rfl ?_))))))))))))))
   refine LF rfl (du (v:=.slice (some ⟨Bc,0,none⟩) (cs.length+1) ccp) 7 cs.length 1 tk3 rfl rfl rfl hrow rfl (.v rfl .nil) rfl (by decide) (aHK ?_))
   refine aNs (ai ?_)
   rw [hset]
   refine aa (UD 0 tk306 4 rfl rfl rfl rfl (UN rfl rfl (UO 1 rfl rfl (UL 0 tk25 rfl rfl rfl rfl (aM rfl ?_)))))
   refine aU rfl (bZ 1 w0 el25 rfl rfl rfl rfl (by rw [List.length_map,hT.li];omega)) ?_
   refine aU rfl (bE (u:=.int .i64 (elt s1.idx (w0:Int))) 1 w0 0 tk3 rfl rfl (aI hix) rfl rfl) (aU rfl (cA rfl rfl) (aNn ?_))
   refine ao _ rfl (fun h3 => ?_) (fun h3 => ?_)
   ·skip
    have hw0:elt s1.idx (w0:Int)=0:=by simpa using h3
    have hT3:=hT2.enter hwr hw0 (.inl (by simp))
    have hmu3:=ace hT2 hwr hw0
    refine aa (aM rfl (aM rfl (aM rfl ?_)))
    refine LF rfl (fN [4,3] [0,1,2,3,4,5,6] (by kernel_rfl) rfl rfl rfl rfl rfl (s9 bf bc b0_1 b0_0 nx.val iv lv sv1 pv qv1 s1 P1 w0 (by rw [hT.li];omega) (by rw [hT.ll];omega) ⟨hT.cnt0.1,by have:=hT.cnt0.2;omega⟩ (by omega)) ?_)
    rintro _ _ _ ⟨rfl,rfl,sv2,rfl⟩
    refine aST ?_
    refine LT rfl (WL (zs:=[.int .i64 0,.int .i64 0]) el310 rfl rfl rfl (.more rfl (.v rfl (.v rfl .nil)) .nil) rfl rfl (fun v9_4=>(aHN ?_)))
    refine aW rfl (cK 7 el310 rfl rfl rfl rfl (dW 8 el310 rfl (by simp)) (by first | assumption | simp) (by simp;omega) (cs.length+2) (by simp) (fun v9_5 c9_5 => ?_))
    refine aHK ?_
    refine aA rfl (aNn (aR (aS (aY (an ?_)))))
    refine ⟨[3,6,7],[4,3,2,1,0],[0,1,2,3,4,5,6,7],rfl,?_⟩
    exact ⟨((.slice v9_5 (cs.length+2) c9_5,sv2,qv1),(di { s1 with calls:=cs++[((v0:Int),(i0:Int)+1)] } w0,P1)),⟨⟨⟨hT3,hI.np,hI.pl,fun x h1 h2 h3=>rh hT2 hwr x h1 (hI.mono x h1 h2 h3),rh hT2 hwr r hrr.1 hI.me,hI.nple,hI.tj.rEnter hT hnrL hcs (Int.natCast_nonneg i0) (by rw [ki];exact hw) hwr hw0,hI.pc⟩,fun h=>by simp [di] at h⟩,by simp only [di,zV,List.map_append];rfl⟩,by dsimp only;omega⟩
   ·skip
    refine aSR (UD 0 tk306 4 rfl rfl rfl rfl (UN rfl rfl (UO 4 rfl rfl (UL 0 tk25 rfl rfl rfl rfl (aM rfl ?_)))))
    refine aU rfl (bZ 4 w0 el25 rfl rfl rfl rfl (by rw [List.length_map,hT.lp];omega)) ?_
    refine aU rfl (bE (u:=.int .i64 (elt s1.part (w0:Int))) 4 w0 0 tk3 rfl rfl (aI hpx) rfl rfl) (aU rfl (cA rfl rfl) (aNn ?_))
    refine ao _ rfl (fun h4 => ?_) (fun h4 => ?_)
    ·skip
     have hws:(w0:Int)∈s1.stk:=(hT.stk _).2 ⟨hwr,by simpa using h3,by simpa using h4⟩
     have hT4:=hT2.lower hvs (hT2.low' _ hws).2
     refine DR [27] 28 (VD 0 0 tk306 4 rfl rfl rfl rfl rfl (VN 1 rfl rfl rfl (VO 2 2 rfl rfl rfl (VL 3 0 tk25 rfl rfl rfl rfl rfl (VM 4 rfl rfl (VN 5 rfl rfl rfl (VO 6 0 rfl rfl rfl (bV 7 rfl rfl (bE (v:=.slice (some ⟨Bc,0,none⟩) (cs.length+1) ccp) (u:=.int .i64 (v0:Int)) 7 cs.length 0 tk3 rfl rfl hrow2 rfl rfl) (VD 8 0 tk306 4 rfl rfl rfl rfl rfl (VN 9 rfl rfl rfl (VO 10 2 rfl rfl rfl (VL 11 0 tk25 rfl rfl rfl rfl rfl (VM 12 rfl rfl (VN 13 rfl rfl rfl (VO 14 0 rfl rfl rfl ?_)))))))))))))))
     refine bV 15 rfl rfl (bE (v:=.slice (some ⟨Bc,0,none⟩) (cs.length+1) ccp) (u:=.int .i64 (v0:Int)) 7 cs.length 0 tk3 rfl rfl hrow2 rfl rfl) ?_
     refine bV 16 rfl rfl (bZ 2 v0 el25 rfl rfl rfl rfl (by rw [List.length_map,hT.ll];omega)) ?_
     refine bV 17 rfl rfl (bE (u:=.int .i64 (elt s1.low (v0:Int))) 2 v0 0 tk3 rfl rfl (aI hlx) rfl rfl) (VD 18 0 tk306 4 rfl rfl rfl rfl rfl (VN 19 rfl rfl rfl (VO 20 1 rfl rfl rfl (VL 21 0 tk25 rfl rfl rfl rfl rfl (VM 22 rfl rfl ?_)))))
     refine bV 23 rfl rfl (bZ 1 w0 el25 rfl rfl rfl rfl (by rw [List.length_map,hT.li];omega)) ?_
     refine bV 24 rfl rfl (bE (u:=.int .i64 (elt s1.idx (w0:Int))) 1 w0 0 tk3 rfl rfl (aI hix) rfl rfl) (bV 25 rfl rfl (aap rfl rfl) ?_)
     refine bV 26 rfl rfl (bZ 2 v0 el25 rfl rfl rfl rfl (by rw [List.length_map,hT.ll];omega)) ?_
     refine VE 27 rfl rfl (du 2 v0 0 tk3 rfl rfl rfl (aI hlx) rfl (.v rfl .nil) rfl (by decide) (bST rfl ?_))
     refine BN (an (aR (aS (aY (an ?_)))))
     refine ⟨[3,6,7],[4,3,2,1,0],[0,1,2,3,4,5,6,7],rfl,?_⟩
     exact ⟨((_,sv1,qv1),({ s1 with calls:=cs++[((v0:Int),(i0:Int)+1)],low:=s1.low.set (v0:Int).toNat (min (elt s1.low (v0:Int)) (elt s1.idx (w0:Int))) },P1)),⟨⟨⟨hT4,hI.np,hI.pl,hI.mono,hI.me,hI.nple,hI.tj.rBack hT hcs (Int.natCast_nonneg i0) (by rw [ki];exact hw) hws,hI.pc⟩,fun h=>by simp at h⟩,by simp only [zV,eR,Int.toNat_natCast,List.map_set];rfl⟩,by show tmu N (nL nx) { s1 with calls:=cs++[((v0:Int),(i0:Int)+1)] } < _;omega⟩
    ·skip
     refine ax (an (aR (aS (aY (an ?_)))))
     refine ⟨[3,6,7],[4,3,2,1,0],[0,1,2,3,4,5,6,7],rfl,?_⟩
     exact ⟨((_,sv1,qv1),({ s1 with calls:=cs++[((v0:Int),(i0:Int)+1)] },P1)),⟨⟨⟨hT2,hI.np,hI.pl,hI.mono,hI.me,hI.nple,hI.tj.rSkip hT hcs (Int.natCast_nonneg i0) (by rw [ki];exact hw) (by simpa using h3) (by simpa using h4),hI.pc⟩,fun h=>by simp at h⟩,rfl⟩,by dsimp only;omega⟩
  ·skip
   have hend:(elt (nL nx) (v0:Int)).length≤i:=by rw [ki];simp at h2;omega
   have hcut:(s1.calls.map cR).take cs.length=cs.map cR:=by rw [hcs];simp
   obtain ⟨A,B,hAB⟩:=List.append_of_mem hvs
   have hix:s1.idx[v0]? = some (elt s1.idx (v0:Int)):=dU (by rw [hT.li];omega)
   have hlx:s1.low[v0]? = some (elt s1.low (v0:Int)):=dU (by rw [hT.ll];omega)
   have hmup:=afh (N:=N) (nx:=nL nx) hcs
   have hvB:(v0:Int) ∉ B:=by
     have:=hT.nd
     rw [hAB,List.nodup_append] at this
     exact (List.nodup_cons.1 this.2.1).1
   have hvA:∀ x∈(v0:Int)::B,0≤x∧x<s1.part.length:=fun x hx=>by rw [hT.lp];exact ((hT.stk x).1 (by rw [hAB];exact List.mem_append_right _ hx)).1
   have hsubv:(cs.map (·.1)++[(v0:Int)]).Sublist s1.stk:=by have:=hT.sub;rw [hcs,List.map_append] at this;exact this
   have hcne:s1.calls≠[]:=by rw [hcs];simp
   have hccs:cs.length+1≤ccp:=hcc
   refine ax (an (aSR (aM rfl (UN rfl rfl (UO 0 rfl rfl (aU rfl (bE (v:=.slice (some ⟨Bc,0,none⟩) (cs.length+1) ccp) (u:=.int .i64 (v0:Int)) 7 cs.length 0 tk3 rfl rfl hrow rfl rfl) (aA rfl (aNn (aSR (aM rfl (aM rfl (aU rfl (gK 7 Tryz.underlying310 rfl rfl) (aU rfl (cZ rfl rfl (by omega)) (aU rfl (iM cs.length el310 rfl rfl (by omega) (by omega) hcc) ?_))))))))))))))
   refine aA rfl (aNs ?_)
   refine jw (X := {l:List Int // (TI N (nL nx) r { s1 with calls:=cs,low:=l } ∧ (cs=[]→elt l (v0:Int)=elt s1.idx (v0:Int)))∧(TI N (nL nx) r { s1 with low:=l } ∧ TJ (nL nx) { s1 with low:=l } ∧ elt l (v0:Int)≤elt s1.idx (v0:Int)∧∀ c∈cs.map (·.1),(∀ c'∈cs.map (·.1),elt s1.idx c'≤elt s1.idx c)→elt l c≤elt l (v0:Int))}) (fun l=>⟨[(3,true,.pointer (some ⟨b0_0,0,none⟩)),(6,true,.func (.func 211) #[] #[.pointer (some ⟨b0_1,0,none⟩),.pointer (some ⟨b0_0,0,none⟩)]),(7,true,.slice (some ⟨Bc,0,none⟩) cs.length ccp),(10,true,.int .i64 (v0:Int))],[At b0_1 0 [.v (.pointer (some ⟨bc,0,none⟩))],At b0_0 0 [.v (.pointer (some ⟨bf,0,none⟩))],ShF slR nx,b6 (ShF cO) nx.l,b6 (ShF cO) P1],zV bf bc nx.val iv lv sv1 pv qv1 (.slice (some ⟨Bc,0,none⟩) cs.length ccp) { s1 with calls:=cs,low:=l.1 } P1⟩) ?_ ?_
   ·skip
    refine ai ?_
    refine vu 7 cs.length rfl (by rw [hcl2];omega) ?_
    rw [hcut]
    refine aa (aM rfl (aU rfl (aX rfl rfl) (aU rfl (cN rfl rfl) (aNn ?_))))
    refine ao _ rfl (fun h5 => ?_) (fun h5 => ?_)
    ·skip
     obtain ⟨ds,u,j,hds⟩:∃ ds u j,cs=ds++[(u,j)]:=by
       rcases List.eq_nil_or_concat cs with h | ⟨ds,c,h⟩
       · rw [h] at h5;simp at h5
       · exact ⟨ds,c.1,c.2,by simpa using h⟩
     have hdl:cs.length=ds.length+1:=by rw [hds];simp
     obtain ⟨_,hus,_⟩:=hTp.pop hds
     have hur:=((hT.stk u).1 hus).1
     obtain ⟨u0,rfl⟩:=Int.eq_ofNat_of_zero_le hur.1
     have hTl:=hTp.lower hus (hT.low' _ hvs).1
     rw [Int.toNat_natCast] at hTl
     have hup:=hI.tj.rUp hT hcs hds rfl
     rw [Int.toNat_natCast] at hup
     have hux:s1.low[u0]? = some (elt s1.low (u0:Int)):=dU (by rw [hT.ll];omega)
     have hrowu:(cs.map cR)[ds.length]? = some (cR ((u0:Int),j)):=by rw [hds];simp
     have hsetL:(eR s1.low).set u0 (mE (cO (elt s1.low (u0:Int))) 0 [.v (.int .i64 (min (elt s1.low (u0:Int)) (elt s1.low (v0:Int))))])=eR (s1.low.set u0 (min (elt s1.low (u0:Int)) (elt s1.low (v0:Int)))):=by
       show (List.map cO s1.low).set u0 _=List.map cO _
       rw [List.map_set];rfl
     refine aSR (aM rfl (aM rfl (aU rfl (aX rfl rfl) (aU rfl (cZ rfl rfl (by omega)) (aU rfl (fW ds.length el310 rfl rfl (by omega) (by omega)) (UO 0 rfl rfl (aU rfl (bE (v:=.slice (some ⟨Bc,0,none⟩) cs.length ccp) (u:=.int .i64 (u0:Int)) 7 ds.length 0 tk3 rfl rfl hrowu rfl rfl) (aA rfl (aNn (DR [21] 22 (VD 0 0 tk306 2 rfl rfl rfl rfl rfl (VN 1 rfl rfl rfl (VO 2 2 rfl rfl rfl (VL 3 0 tk25 rfl rfl rfl rfl rfl (VM 4 rfl rfl ?_)))))))))))))))
     refine VD 5 0 tk306 2 rfl rfl rfl rfl rfl (VN 6 rfl rfl rfl (VO 7 2 rfl rfl rfl (VL 8 0 tk25 rfl rfl rfl rfl rfl (VM 9 rfl rfl ?_))))
     refine bV 10 rfl rfl (bZ 2 u0 el25 rfl rfl rfl rfl (by rw [List.length_map,hT.ll];omega)) ?_
     refine bV 11 rfl rfl (bE (u:=.int .i64 (elt s1.low (u0:Int))) 2 u0 0 tk3 rfl rfl (aI hux) rfl rfl) (VD 12 0 tk306 2 rfl rfl rfl rfl rfl (VN 13 rfl rfl rfl (VO 14 2 rfl rfl rfl (VL 15 0 tk25 rfl rfl rfl rfl rfl (VM 16 rfl rfl ?_)))))
     refine bV 17 rfl rfl (bZ 2 v0 el25 rfl rfl rfl rfl (by rw [List.length_map,hT.ll];omega)) ?_
     refine bV 18 rfl rfl (bE (u:=.int .i64 (elt s1.low (v0:Int))) 2 v0 0 tk3 rfl rfl (aI hlx) rfl rfl) (bV 19 rfl rfl (aap rfl rfl) ?_)
     refine bV 20 rfl rfl (bZ 2 u0 el25 rfl rfl rfl rfl (by rw [List.length_map,hT.ll];omega)) ?_
     refine VE 21 rfl rfl (du 2 u0 0 tk3 rfl rfl rfl (aI hux) rfl (.v rfl .nil) rfl (by decide) ?_)
     rw [hsetL]
     refine bST rfl ?_
     refine BN (an ?_)
     first
     | exact ⟨[3,6,7,10],[4,3,2,1,0],[0,1,2,3,4,5,6,7],⟨s1.low.set u0 (min (elt s1.low (u0:Int)) (elt s1.low (v0:Int))),⟨hTl,fun h=>by rw [h] at hds;simp at hds⟩,hup.1,hup.2.1,by rw [hup.2.2.1];exact (hI.tj.lr _ hvs).1,hup.2.2.2⟩,rfl,rfl⟩
     | exact ⟨[3,6,7,10],[4,3,2,1,0],[0,1,2,3,4,5,6,7],⟨s1.low,⟨hTp,fun h=>(hlast h).2⟩,hT,hI.tj,(hI.tj.lr _ hvs).1,fun c hc=>by rw [hcs0] at hc;cases hc⟩,rfl,rfl⟩
    ·skip
     have hcs0:cs=[]:=List.length_eq_zero_iff.1 (by rw [decide_eq_false_iff_not] at h5;omega)
     refine ax (an ?_)
     first
     | exact ⟨[3,6,7,10],[4,3,2,1,0],[0,1,2,3,4,5,6,7],⟨s1.low.set u0 (min (elt s1.low (u0:Int)) (elt s1.low (v0:Int))),⟨hTl,fun h=>by rw [h] at hds;simp at hds⟩,hup.1,hup.2.1,by rw [hup.2.2.1];exact (hI.tj.lr _ hvs).1,hup.2.2.2⟩,rfl,rfl⟩
     | exact ⟨[3,6,7,10],[4,3,2,1,0],[0,1,2,3,4,5,6,7],⟨s1.low,⟨hTp,fun h=>(hlast h).2⟩,hT,hI.tj,(hI.tj.lr _ hvs).1,fun c hc=>by rw [hcs0] at hc;cases hc⟩,rfl,rfl⟩
   ·skip
    rintro ⟨l,⟨hTl,hlz⟩,hTu,hJu,hlv,hup⟩
    dsimp only
    have hll:l.length=N:=hTl.ll
    refine ai (DR [] 15 (VD 0 0 tk306 1 rfl rfl rfl rfl rfl (VN 1 rfl rfl rfl (VO 2 2 rfl rfl rfl (VL 3 0 tk25 rfl rfl rfl rfl rfl (VM 4 rfl rfl ?_))))))
    refine bV 5 rfl rfl (bZ 2 v0 el25 rfl rfl rfl rfl (by rw [List.length_map,hll];omega)) ?_
    refine bV 6 rfl rfl (bE (u:=.int .i64 (elt l (v0:Int))) 2 v0 0 tk3 rfl rfl (aI (dU (by rw [hll];omega))) rfl rfl) ?_
    refine VD 7 0 tk306 1 rfl rfl rfl rfl rfl (VN 8 rfl rfl rfl (VO 9 1 rfl rfl rfl (VL 10 0 tk25 rfl rfl rfl rfl rfl (VM 11 rfl rfl ?_))))
    refine bV 12 rfl rfl (bZ 1 v0 el25 rfl rfl rfl rfl (by rw [List.length_map,hT.li];omega)) ?_
    refine bV 13 rfl rfl (bE (u:=.int .i64 (elt s1.idx (v0:Int))) 1 v0 0 tk3 rfl rfl (aI hix) rfl rfl) (bV 14 rfl rfl (cA rfl rfl) (BN (an ?_)))
    refine ao _ rfl (fun h6 => ?_) (fun h6 => ?_)
    ·skip
     have hcl2:=yg bf nx.val iv lv sv1 pv qv1 A B s1.part v0 P1 hvB (by rw [← hAB];omega) hvA (by omega)
     rw [← hAB] at hcl2
     refine aa (UD 0 tk306 1 rfl rfl rfl rfl (aM rfl (LF rfl (EC [0] [0,3,4,5] rfl (hcl2) ?_))))
     rintro _ _ _ ⟨pl,sv2,qv2,hpp,rfl,rfl⟩
     refine aST ?_
     refine bP (bu (an ?_))
     refine ⟨[3,6,7],[4,3,2,1,5],[0,1,2,3,4,5,6,7],rfl,?_⟩
     have hcz:=hTl.close hAB hsubv fun x=>hpp.mem_iff
     have hpc:=hI.pl.close hT (by rw [List.length_map];exact hI.np) hAB hpp
     have hcj:=hJu.close hTu hnrL (cs:=cs) (v:=(v0:Int)) (i:=i) hcs hend (by simpa using h6) hAB (fun x=>hpp.mem_iff)
     have hcc:=hI.pc.close hT (by rw [List.length_map];exact hI.np) hAB hpp
     rw [show P1.map (·.l)++[pl.l]=(P1++[pl]).map (·.l) by rw [List.map_append];rfl] at hcc
     rw [show ({ s1 with low:=l } : TS).np=s1.np from rfl] at hcj
     rw [hI.np] at hcz hpc hcj hcc
     have hpc2:PL N (df s1.part ((P1.length:Int)+1) pl.l) ((P1++[pl]).map (·.l)):=by rw [List.map_append];exact hpc
     have hct:=hpc2.count
     rw [List.length_map] at hct
     exact ⟨((.slice (some ⟨Bc,0,none⟩) cs.length ccp,sv2,qv2),({ s1 with calls:=cs,low:=l,stk:=A,part:=df s1.part ((P1.length:Int)+1) pl.l,np:=P1.length+1 },P1++[pl])),⟨⟨⟨hcz.1,by simp,hpc2,hI.mono,hI.me,hct,hcj,hcc⟩,fun h=>hcz.2 (hlast h).1 h (hT.top hcne).2⟩,rfl⟩,by show tmu N (nL nx) { s1 with calls:=cs } < _;omega⟩
    ·skip
     refine ax (bu (an ?_))
     refine ⟨[3,6,7],[4,3,2,1,0],[0,1,2,3,4,5,6,7],rfl,?_⟩
     have h7:¬ elt l (v0:Int)=elt s1.idx (v0:Int):=by simpa using h6
     exact ⟨((.slice (some ⟨Bc,0,none⟩) cs.length ccp,sv1,qv1),({ s1 with calls:=cs,low:=l },P1)),⟨⟨⟨hTl,hI.np,hI.pl,hI.mono,hI.me,hI.nple,hJu.pop hTu (cs:=cs) (v:=(v0:Int)) (i:=i) hcs hend (by show elt l (v0:Int)<elt s1.idx (v0:Int);omega) hup,hI.pc⟩,fun h=>absurd (hlz h) (by simpa using h6)⟩,rfl⟩,by show tmu N (nL nx) { s1 with calls:=cs } < _;omega⟩
 ·skip
  refine aR (aS (aS (aY ?_)))
  refine rk [0] [0,1,2,3,4,5,6] rfl Tryz.results195 ?_ (.inl rfl)
  have hnc:s1.calls=[]:=by
    cases hh:s1.calls with
    | nil=>rfl
    | cons c cs=>rw [hh] at h1;simp at h1
  exact ⟨s1,P1,sv1,qv1,hI,hnc,hE hnc,rfl,rfl⟩
theorem el293:elB Tryz.prog 293 25 1=true:=by kernel_rfl
def swL{α:Type}[Inhabited α](l:List α)(i j:Nat):List α:=(l.set i (l.getD j default)).set j (l.getD i default)
theorem aax{α:Type}[Inhabited α](l:List α)(i j:Nat):(swL l i j).length=l.length:=by simp [swL]
theorem rY{α:Type}[Inhabited α](l:List α){i j:Nat}(hi:i<l.length)(hj:j<l.length):(swL l i j).Perm l:=by
 unfold swL
 rw [List.getD_eq_getElem?_getD,List.getD_eq_getElem?_getD,List.getElem?_eq_getElem hi,List.getElem?_eq_getElem hj]
 exact List.set_set_perm hi hj
abbrev hR(H:List (Sl Int)):List (List D):=H.map slR
theorem qL(hv:Value)(H:List (Sl Int)) :
   Con Tryz.prog 248 [hv] [] [aN hv 25 1 (hR H)] fun r ps hp=>r=.int .i64 H.length∧ps=[]∧hp=[aN hv 25 1 (hR H)]:=by
 refine EN1 Tryz.func248 rfl (aSR (aA rfl (aNn (aSR (aM rfl (aU rfl (gK 0 Tryz.underlying293 rfl rfl) (aA rfl (aNn (az (FZ1 [0] Tryz.results248 rfl ?_))))))))))
 exact ⟨by rw [List.length_map],rfl,rfl⟩
theorem oo(hv:Value)(H0 H:List (Sl Int))(i j:Nat)(hi:i<H.length)(hj:j<H.length)(hne:∀ p∈H0,p.l≠[])(hsub:∀ p∈H,p∈H0) :
   Con Tryz.prog 249 [hv,.int .i64 i,.int .i64 j] [b6 (ShF cO) H0] [aN hv 25 1 (hR H)] fun r ps hp=>(∃ b,r=.bool b)∧ps=[]∧hp=[aN hv 25 1 (hR H)]:=by
 obtain ⟨p,hp⟩:∃ p,H[i]? = some p:=⟨_,List.getElem?_eq_getElem hi⟩
 obtain ⟨q,hq⟩:∃ q,H[j]? = some q:=⟨_,List.getElem?_eq_getElem hj⟩
 obtain ⟨a,ha⟩:∃ a,p.l[0]? = some a:=⟨_,List.getElem?_eq_getElem (List.length_pos_iff.2 (hne p (hsub p (List.mem_of_getElem? hp))))⟩
 obtain ⟨b,hb⟩:∃ b,q.l[0]? = some b:=⟨_,List.getElem?_eq_getElem (List.length_pos_iff.2 (hne q (hsub q (List.mem_of_getElem? hq))))⟩
 obtain ⟨p',hp'⟩:=List.mem_iff_getElem?.1 (hsub p (List.mem_of_getElem? hp))
 obtain ⟨q',hq'⟩:=List.mem_iff_getElem?.1 (hsub q (List.mem_of_getElem? hq))
 refine EN3 Tryz.func249 rfl (aSR (aA rfl (aNs (DR [] 14 (VM 0 rfl rfl (VM 1 rfl rfl ?_))))))
 refine bV 2 rfl rfl (bZ 0 i el293 rfl rfl rfl rfl (by rw [List.length_map];exact hi)) ?_
 refine bV 3 rfl rfl (bE (u:=p.val) 0 i 0 tk25 rfl rfl (aI hp) rfl rfl) (sd 4 rfl (by kernel_rfl) true rfl rfl (fun _=>bI Tryz.underlying25 tk3 rfl ((Ent.all (f:=ShF cO) (.of (aH 0 rfl)) hp')) rfl (aI ha) rfl rfl) (fun h=>absurd h (by decide)) (fun ⟨b1_4,o1_4⟩=>(VT 5 0 tk3 0 rfl rfl rfl rfl rfl rfl (VM 6 rfl rfl (VM 7 rfl rfl ?_)))))
 refine bV 8 rfl rfl (bZ 0 j el293 rfl rfl rfl rfl (by rw [List.length_map];exact hj)) ?_
 refine bV 9 rfl rfl (bE (u:=q.val) 0 j 0 tk25 rfl rfl (aI hq) rfl rfl) (sd 10 rfl (by kernel_rfl) true rfl rfl (fun _=>bI Tryz.underlying25 tk3 rfl ((Ent.all (f:=ShF cO) (.of (aH 1 rfl)) hq')) rfl (aI hb) rfl rfl) (fun h=>absurd h (by decide)) (fun ⟨b1_10,o1_10⟩=>(VT 11 0 tk3 0 rfl rfl rfl rfl rfl rfl (bV 12 rfl rfl (bC rfl rfl) (bV 13 rfl rfl (bo rfl) (BN (an (az (FZ1 [0] Tryz.results249 rfl ?_)))))))))
 exact ⟨⟨_,rfl⟩,rfl,rfl⟩
theorem oq(hv:Value)(H:List (Sl Int))(i j:Nat)(hi:i<H.length)(hj:j<H.length) :
   Con Tryz.prog 252 [hv,.int .i64 i,.int .i64 j] [] [aN hv 25 1 (hR H)] fun _ ps hp=>ps=[]∧hp=[aN hv 25 1 (hR (swL H i j))]:=by
 obtain ⟨p,hp⟩:∃ p,H[i]? = some p:=⟨_,List.getElem?_eq_getElem hi⟩
 obtain ⟨q,hq⟩:∃ q,H[j]? = some q:=⟨_,List.getElem?_eq_getElem hj⟩
 have hsw:swL H i j=(H.set i q).set j p:=by
   unfold swL
   rw [List.getD_eq_getElem?_getD,List.getD_eq_getElem?_getD,hp,hq];rfl
 obtain ⟨q2,hq2⟩:∃ q2,(H.set i q)[j]? = some q2:=⟨_,List.getElem?_eq_getElem (by rw [List.length_set];exact hj)⟩
 have hset:(hR H).set i (mE (slR p) 0 (slR q))=hR (H.set i q):=by
   show (List.map slR H).set i _=List.map slR _
   rw [List.map_set];rfl
 refine EN3 Tryz.func252 rfl (DR [13,15] 16 (VM 0 rfl rfl (VM 1 rfl rfl (aaE 2 rfl (by kernel_rfl) true rfl rfl (fun _=>aT rfl) (aaE 3 rfl (by kernel_rfl) true rfl rfl (fun _=>aT rfl) (VM 4 rfl rfl (VM 5 rfl rfl ?_)))))))
 refine bV 6 rfl rfl (bZ 0 j el293 rfl rfl rfl rfl (by rw [List.length_map];exact hj)) ?_
 refine bV 7 rfl rfl (bE (u:=q.val) 0 j 0 tk25 rfl rfl (aI hq) rfl rfl) (VM 8 rfl rfl (VM 9 rfl rfl ?_))
 refine bV 10 rfl rfl (bZ 0 i el293 rfl rfl rfl rfl (by rw [List.length_map];exact hi)) ?_
 refine bV 11 rfl rfl (bE (u:=p.val) 0 i 0 tk25 rfl rfl (aI hp) rfl rfl) ?_
 refine bV 12 rfl rfl (bZ 0 i el293 rfl rfl rfl rfl (by rw [List.length_map];exact hi)) ?_
 refine VE 13 rfl rfl (du 0 i 0 tk25 rfl rfl rfl (aI hp) rfl (.v rfl .nil) rfl (by decide) ?_)
 rw [hset]
 refine bST rfl ?_
 refine bV 14 rfl rfl (bZ 0 j el293 rfl rfl rfl rfl (by rw [List.length_map,List.length_set];exact hj)) ?_
 refine VE 15 rfl rfl (du 0 j 0 tk25 rfl rfl rfl (aI hq2) rfl (.v rfl .nil) rfl (by decide) (bST rfl ?_))
 refine BN (FZ0 [0] Tryz.results252 ?_)
 refine ⟨rfl,?_⟩
 rw [hsw]
 show _=[aN hv _ 1 (((H.set i q).set j p).map slR)]
 rw [List.map_set];rfl
theorem aaT(hb:Nat)(hv:Value)(H:List (Sl Int))(p:Sl Int)(hH:H.length≤1000000) :
   Con Tryz.prog 251 [.pointer (some ⟨hb,0,none⟩),.iface 25 p.val] [] [Box hb 293 [hv],aN hv 25 1 (hR H)] fun _ ps hp=>∃ hv':Value,ps=[]∧hp=[Box hb 293 [hv'],aN hv' 25 1 (hR (H++[p]))]:=by
 refine EN2 Tryz.func251 rfl (DR [7,9] 10 (aaE 0 rfl (by kernel_rfl) true rfl rfl (fun _=>aT rfl) (VM 1 rfl rfl (VN 2 rfl rfl rfl (VL 3 0 tk293 rfl rfl rfl rfl rfl (VM 4 rfl rfl (bV 5 rfl rfl (xf (by kernel_rfl) rfl) (eQ (q:=true) 6 rfl (by kernel_rfl) rfl rfl (WL (zs:=[.slice none 0 0]) el293 rfl rfl rfl (.more rfl (.v rfl .nil) .nil) rfl rfl (fun v0_6=>(bST rfl ?_)))))))))))
 refine eQ 7 rfl (by kernel_rfl) rfl rfl (cK 1 el293 rfl rfl rfl rfl (dW 2 el293 rfl (by simp)) (by first | assumption | simp) (by rw [List.length_map];exact Nat.le_trans (show H.length+1≤1000001 by omega) (by decide)) (H.length+1) (by simp) (fun v0_7 c0_7 => ?_))
 refine bST rfl ?_
 refine VN 8 rfl rfl rfl (eQ 9 rfl (by kernel_rfl) rfl rfl (ba 0 tk293 rfl rfl rfl rfl (bST rfl ?_)))
 refine BN (FZ0 [0,1] Tryz.results251 ?_)
 refine ⟨.slice v0_7 (H.length+1) c0_7,rfl,?_⟩
 show _=[_,aN _ _ 1 ((H++[p]).map slR)]
 rw [List.map_append];rfl
theorem acH(hb:Nat)(hv:Value)(H:List (Sl Int))(p:Sl Int)(hH:H.length≤1000000) :
   Con Tryz.prog 250 [.pointer (some ⟨hb,0,none⟩)] [] [Box hb 293 [hv],aN hv 25 1 (hR (H++[p]))] fun r ps hp=>∃ hv':Value,r=.iface 25 p.val∧ps=[]∧hp=[Box hb 293 [hv'],aN hv' 25 1 (hR H)]:=by
 have hrow:(hR (H++[p]))[H.length]? = some (slR p):=by simp
 have hl:(hR (H++[p])).length=H.length+1:=by simp
 have hcut:(hR (H++[p])).take H.length=hR H:=by simp
 refine EN1 Tryz.func250 rfl (ai ?_)
 refine gD 1 rfl (fun h0=>by rw [h0] at hl;cases hl) (fun Bc ccp hvc hcc => ?_)
 rw [hl] at hvc hcc
 subst hvc
 show awp _ _ _ _ ⟨_,_,[_,_]⟩
 refine aa (aA rfl (aNn (aSR (aM rfl (UN rfl rfl (UL 0 tk293 rfl rfl rfl rfl (aA rfl (aNn (aSR (aM rfl (aM rfl (aU rfl (gK 1 Tryz.underlying293 rfl rfl) (aU rfl (cZ rfl rfl (by omega)) ?_)))))))))))))
 refine aU rfl (fW H.length el293 rfl rfl (by rw [hl];omega) (by omega)) ?_
 refine aU rfl (bE (v:=.slice (some ⟨Bc,0,none⟩) (H.length+1) ccp) (u:=p.val) 1 H.length 0 tk25 rfl rfl hrow rfl rfl) (aA rfl (aNn (aSR (aM rfl (aM rfl (aM rfl (aU rfl (gK 1 Tryz.underlying293 rfl rfl) (aU rfl (cZ rfl rfl (by omega)) (aU rfl (iM H.length el293 rfl rfl (by omega) (by omega) hcc) (UN rfl rfl (LF rfl (ba 0 tk293 rfl rfl rfl rfl (iN (hp':=[Box hb 293 [.slice (some ⟨Bc,0,none⟩) H.length ccp],aN (.slice (some ⟨Bc,0,none⟩) (H.length+1) ccp) 25 1 (hR (H++[p]))]) rfl (aNs ?_))))))))))))))
 refine vu 1 H.length rfl (by rw [hl];omega) ?_
 rw [hcut]
 refine aa (aM rfl (aU rfl (lR (by kernel_rfl) rfl) (aA rfl (aNn (az (FZ1 [0,1] Tryz.results250 rfl ?_))))))
 exact ⟨_,rfl,rfl,rfl⟩
end Go.Proofs.YtebnelfdimiifaaGreatDoor

