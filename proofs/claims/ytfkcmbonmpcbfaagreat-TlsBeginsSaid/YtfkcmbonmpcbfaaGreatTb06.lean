/- Parts of the proof, in build order. No condition. -/
import Derived.Test.YtfkcmbonmpcbfaaGreatTb04
import Derived.Test.YtfkcmbonmpcbfaaGreatTb05
set_option linter.unusedSimpArgs false
set_option linter.unusedVariables false
set_option maxHeartbeats 1000000
set_option maxRecDepth 20000
namespace Go.Sy
open Go.RowKit Go.Lp
theorem St.split{w:World}{S:aT}{fp:Nat→aT}{ps:List Per}{hp:List Res}(h:St w S fp ps hp){i:Nat}{R R':Res}(hi:hp[i]? = some (dM R R')) :
   ∃ fp',St w S fp' ps (hp.set i R++[R'])∧∀ b,tot fp' (hp.set i R++[R']).length b→tot fp hp.length b:=by
 obtain ⟨G,H,h1,h2,h3,h4⟩:=h.res i _ hi
 have hil:=(List.getElem?_eq_some_iff.1 hi).1
 have hG:∀ b,G b→fp i b:=fun b hb=>(h4 b).2 (.inl hb)
 have hH:∀ b,H b→fp i b:=fun b hb=>(h4 b).2 (.inr hb)
 have hlen:(hp.set i R++[R']).length=hp.length+1:=by simp
 refine ⟨fun k=>if k=i then G else if k=hp.length then H else fp k,⟨h.per,fun k T hk => ?_,fun k hk b hb => ?_,fun k l hk hl hkl b hb hb' => ?_,h.slt⟩,fun b ⟨k,hk,hb⟩ => ?_⟩
 · by_cases hkl:k=hp.length
   · subst hkl
     rw [List.getElem?_append_right (by simp)] at hk
     simp at hk
     subst hk
     rw [if_neg (by omega),if_pos rfl];exact h2
   · have hkl':k<hp.length:=by have:=(List.getElem?_eq_some_iff.1 hk).1;rw [hlen] at this;omega
     rw [List.getElem?_append_left (by simpa using hkl')] at hk
     by_cases hki:k=i
     · subst hki
       rw [List.getElem?_set_self hil] at hk
       simp only [Option.some.injEq] at hk
       subst hk
       rw [if_pos rfl];exact h1
     · rw [List.getElem?_set_ne (Ne.symm hki)] at hk
       rw [if_neg hki,if_neg hkl];exact h.res k T hk
 · rw [hlen] at hk
   try dsimp only at hb
   split at hb
   · exact h.lt i hil b (hG b hb)
   · split at hb
     · exact h.lt i hil b (hH b hb)
     · exact h.lt k (by omega) b hb
 · rw [hlen] at hk hl
   try dsimp only at hb hb'
   split at hb
   · subst k
     rw [if_neg (Ne.symm hkl)] at hb'
     split at hb'
     · exact h3 b hb hb'
     · exact h.dj i l hil (by omega) hkl b (hG b hb) hb'
   · rename_i hki
     split at hb
     · subst k
       split at hb'
       · exact h3 b hb' hb
       · rw [if_neg (Ne.symm hkl)] at hb'
         exact h.dj i l hil (by omega) (by omega) b (hH b hb) hb'
     · rename_i hkn
       split at hb'
       · exact h.dj k i (by omega) hil hki b hb (hG b hb')
       · split at hb'
         · exact h.dj k i (by omega) hil hki b hb (hH b hb')
         · exact h.dj k l (by omega) (by omega) hkl b hb hb'
 · rw [hlen] at hk
   try dsimp only at hb
   split at hb
   · exact ⟨i,hil,hG b hb⟩
   · split at hb
     · exact ⟨i,hil,hH b hb⟩
     · exact ⟨k,by omega,hb⟩
section
variable {P:Program} {n:Fr} {env:Env} {ps:List Per} {hp:List Res} {c:Code} {Q:Exit→Sta→Prop}
theorem pI(i:Nat){R R':Res}(hi:hp[i]? = some (dM R R'))(h:awp P n c Q ⟨env,ps,hp.set i R++[R']⟩):awp P n c Q ⟨env,ps,hp⟩:=qL (fun _ _ _ hst=>hst.split hi) h
theorem yr{w:World}{S F:aT}{v:Value}{E:TypeId}{sz:Nat}{rows:List (List D)}(h:(aD v E sz rows).holds w S F):∃ ad cc,v=.slice ad rows.length cc:=by
 rcases h with ⟨rfl,rfl,_⟩ | ⟨b,cap,rfl,_⟩
 · exact ⟨none,0,rfl⟩
 · exact ⟨_,cap,rfl⟩
end
section
variable {P:Program} {n:Fr} {env:Env} {ps:List Per} {hp:List Res} {c:Code} {Q:Exit→Sta→Prop}
theorem fH(i:Nat){R:Res}(R':Res)(hi:hp[i]? = some R)(hc:∀ w S F,R.holds w S F→R'.holds w S F)(h:awp P n c Q ⟨env,ps,hp.set i R'⟩):awp P n c Q ⟨env,ps,hp⟩:=fun w S fp a hst he hn hd=>by
 have hil:=(List.getElem?_eq_some_iff.1 hi).1
 have:=h w S fp a (hst.change hil (Nat.le_refl _) (fun _ _ _=>rfl) R' (hc _ _ _ (hst.res i R hi))) he hn hd
 rwa [show ({ env:=env,ps:=ps,hp:=hp.set i R' } : Sta).hp.length=hp.length by simp] at this
theorem lq{β:Type}(i:Nat){R:Res}(R':β→Res)(hi:hp[i]? = some R)(hc:∀ w S F,R.holds w S F→∃ x,(R' x).holds w S F)(h:∀ x,awp P n c Q ⟨env,ps,hp.set i (R' x)⟩):awp P n c Q ⟨env,ps,hp⟩:=fun w S fp a hst he hn hd=>by
 have hil:=(List.getElem?_eq_some_iff.1 hi).1
 obtain ⟨x,hx⟩:=hc _ _ _ (hst.res i R hi)
 have:=h x w S fp a (hst.change hil (Nat.le_refl _) (fun _ _ _=>rfl) (R' x) hx) he hn hd
 rwa [show ({ env:=env,ps:=ps,hp:=hp.set i (R' x) } : Sta).hp.length=hp.length by simp] at this
end
section
variable {w:World} {S F:aT} {A B C R:Res}
theorem qt(h:(dM A (dM B C)).holds w S F):(dM B (dM A C)).holds w S F:=by
 obtain ⟨G,H,a,⟨G2,H2,b,c,d2,e2⟩,d,e⟩:=h
 refine ⟨G2,fun x=>G x∨H2 x,b,⟨G,H2,a,c,fun x g h2=>d x g ((e2 x).2 (.inr h2)),fun x=>Iff.rfl⟩,fun x g2 h=>h.elim (fun g=>d x g ((e2 x).2 (.inl g2))) (fun h2=>d2 x g2 h2),fun x => ?_⟩
 rw [e x,e2 x]
 constructor
 · rintro (h | h | h)
   · exact .inr (.inl h)
   · exact .inl h
   · exact .inr (.inr h)
 · rintro (h | h | h)
   · exact .inr (.inl h)
   · exact .inl h
   · exact .inr (.inr h)
theorem et(h:(dM A B).holds w S F)(hB:∀ F,B.holds w S F→C.holds w S F):(dM A C).holds w S F:=by
 obtain ⟨G,H,a,b,d,e⟩:=h
 exact ⟨G,H,a,hB H b,d,e⟩
theorem oK(h:A.holds w S F):(dM emp A).holds w S F:=⟨fun _=>False,F,fun b h=>h,h,fun b h=>h.elim,fun b=>⟨.inr,fun h=>h.elim False.elim id⟩⟩
theorem sW(h:(dM emp A).holds w S F):A.holds w S F:=by
 obtain ⟨G,H,a,b,d,e⟩:=h
 have:F=H:=funext fun x=>propext ((e x).trans ⟨fun h=>h.elim (fun g=>absurd g (a x)) id,.inr⟩)
 rw [this];exact b
def bT:List Res→Res
 | []=>emp
 | A::L=>dM A (bT L)
theorem iI:∀ (L:List Res) (k:Nat) (F:aT),L[k]? = some R→(bT L).holds w S F→(dM R (bT (L.set k emp))).holds w S F
 | [],_,_,h,_=>by simp at h
 | A::L,0,F,h,hs=>by
   simp only [List.getElem?_cons_zero,Option.some.injEq] at h
   subst h
   exact et hs fun F h=>oK h
 | A::L,k+1,F,h,hs=>qt (et hs fun F h'=>iI L k F (by simpa using h) h')
theorem lQ:∀ (L:List Res) (k:Nat) (F:aT),k<L.length→(dM R (bT (L.set k emp))).holds w S F→(bT (L.set k R)).holds w S F
 | [],_,_,h,_=>by simp at h
 | A::L,0,F,_,hs=>et hs fun F h=>sW h
 | A::L,k+1,F,h,hs=>et (qt hs) fun F h'=>lQ L k F (by simpa using h) h'
theorem oL:∀ (L:List Res),(∀ A∈L,A.holds w S fun _=>False)→(bT L).holds w S fun _=>False
 | [],_=>fun _ h=>h
 | A::L,h=>⟨fun _=>False,fun _=>False,h A (List.mem_cons_self ..),oL L fun B hB=>h B (List.mem_cons_of_mem _ hB),fun _ h=>h.elim,fun _=>⟨.inl,fun h=>h.elim id id⟩⟩
theorem lP:∀ (L:List Res) (F:aT),(bT L).holds w S F→∀ (k:Nat) (A:Res),L[k]? = some A→∃ G:aT,(∀ b,G b→F b)∧A.holds w S G:=fun L F h k A hk=>by
 obtain ⟨G,H,a,_,_,e⟩:=iI L k F hk h
 exact ⟨G,fun b hb=>(e b).2 (.inl hb),a⟩
theorem kL{v:Value}{T:TypeId}{sz:Nat}{rows:List (List D)}(hr:(aD v T sz rows).holds w S F):ea w (fun b=>S b∨F b) v (.sl rows):=by
 have hS:∀ b,S b→(S b∨F b):=fun _ h=>.inl h
 rcases hr with ⟨rfl,rfl,_⟩ | ⟨b,cap,rfl,⟨cs,sp,hb,hrows,hl,hle,hcap⟩,hF⟩
 · exact .e none 0 (by unfold maxLen;omega)
 · refine .sl b 0 cap sz rows (fun i j=>cs.getD (i*sz+j) undef) (.inr ((hF b).2 rfl)) hle hcap hrows.row (fun i j r d h1 h2 => ?_) (fun i j r d h1 h2 => ?_)
   · obtain ⟨u,hu,_⟩:=hrows.rep i j r d h1 h2
     have e:cs.getD (i*sz+j) undef=u:=by simp [List.getD,hu]
     rw [e]
     refine ⟨?_,hrows.one u (List.mem_of_getElem? hu)⟩
     rw [Nat.zero_add,c9 hb,List.getElem?_append_left (List.getElem?_eq_some_iff.1 hu).1];exact hu
   · obtain ⟨u,hu,hr⟩:=hrows.rep i j r d h1 h2
     have e:cs.getD (i*sz+j) undef=u:=by simp [List.getD,hu]
     rw [e]
     exact hr.mono (fun _ _=>rfl) hS
end
theorem yR{w:World}{S:aT}{fp:Nat→aT}{ps:List Per}{hp:List Res}(hst:St w S fp ps hp)(i:Nat){R:Res}(hi:hp[i]? = some R){p:Per}(h:∀ w S F,R.holds w S F→p.holds w (fun b=>S b∨F b)) :
   St w (fun b=>S b∨fp i b) (fun k=>if k=i then (fun _=>False) else fp k) (p::ps) (hp.set i emp):=by
 have hil:=(List.getElem?_eq_some_iff.1 hi).1
 have hr:=hst.res i _ hi
 have hst0:=hst.drop i
 have hS:∀ b,S b→(S b∨fp i b):=fun _ h=>.inl h
 refine ⟨fun p' hp' => ?_,fun j R hj=>R.mono (hst0.res j R hj) (fun _ _=>rfl) (fun _ _=>rfl) hS,fun j hj b hb => ?_,hst0.dj,fun b hb=>hb.elim (hst.slt b) (fun h=>(hst.lt i hil b h).1)⟩
 · rcases List.mem_cons.1 hp' with rfl | h2
   · exact h w S (fp i) hr
   · exact p'.mono (hst.per p' h2) (fun _ _=>rfl) hS
 · have hj':j<hp.length:=by simpa using hj
   by_cases hji:j=i
   · rw [if_pos hji] at hb;exact hb.elim
   · rw [if_neg hji] at hb
     exact ⟨(hst.lt j hj' b hb).1,fun h=>h.elim (hst.lt j hj' b hb).2 (hst.dj j i hj' hil hji b hb)⟩
section
variable {P:Program} {n:Fr} {env:Env} {ps:List Per} {hp:List Res} {c:Code} {Q:Exit→Sta→Prop}
theorem jV(i:Nat){R:Res}(p:Per)(hi:hp[i]? = some R)(h0:∀ w S F,R.holds w S F→p.holds w (fun b=>S b∨F b))(h:awp P n c Q ⟨env,p::ps,hp.set i emp⟩):awp P n c Q ⟨env,ps,hp⟩:=fun w S fp a hst he hn hd=>by
 have hil:=(List.getElem?_eq_some_iff.1 hi).1
 have h1:=yR hst i hi h0
 have htot:∀ b,tot (fun k=>if k=i then (fun _=>False) else fp k) (hp.set i emp).length b→tot fp hp.length b:=fun b ⟨j,hj,hb⟩=>by
   dsimp only at hb
   by_cases hji:j=i
   · rw [if_pos hji] at hb;exact hb.elim
   · rw [if_neg hji] at hb;exact ⟨j,by simpa using hj,hb⟩
 have hE:Evo w S (tot fp hp.length) w (fun b=>S b∨fp i b):=⟨rfl,rfl,rfl,Nat.le_refl _,Nat.le_refl _,fun _ _ _=>rfl,fun _ h=>.inl h,fun b hb=>hb.elim .inl fun h=>.inr (.inl ⟨i,hil,h⟩)⟩
 exact ck (fun e a2 w2 hp2=>hp2.trans hE (fun b hb=>.inl (htot b hb))) (h w _ _ a h1 he hn hd)
theorem bd(i:Nat){b:Nat}{T:TypeId}{cs:List Value}(hi:hp[i]? = some (Box b T cs))(h1:cs.all (·.oneCell')=true)(h:awp P n c Q ⟨env,At b 0 (cs.map D.v)::ps,hp.set i emp⟩):awp P n c Q ⟨env,ps,hp⟩ :=
 jV i (At b 0 (cs.map D.v)) hi (fun w S F ⟨hb,hF⟩=>⟨.inr ((hF b).2 rfl),fun j d hj=>by
   rw [List.getElem?_map] at hj
   cases hc:cs[j]? with
   | none=>rw [hc] at hj;cases hj
   | some u =>
     rw [hc] at hj
     simp only [Option.map_some,Option.some.injEq] at hj
     exact ⟨u,by rw [Nat.zero_add,c9 hb];exact hc,List.all_eq_true.1 h1 u (List.mem_of_getElem? hc),by rw [← hj];exact .v u⟩⟩) h
end
section
variable {α:Type} [Inhabited α] {enc:α→Value}
def cF(vs:List Value):List (List D):=vs.map fun v=>[.v v]
@[simp] theorem jI (vs:List Value):(cF vs).length=vs.length:=by simp [cF]
def inner(E:TypeId)(enc:α→Value)(vs:List Value)(l:List (List α)):List Res:=List.zipWith (fun v x=>aD v E 1 (bI enc x)) vs l
def iO(vo:Value)(T E:TypeId)(enc:α→Value)(l:List (List α)):Res :=
 ⟨fun w S F=>∃ vs:List Value,vs.length=l.length∧(dM (aD vo T 1 (cF vs)) (bT (inner E enc vs l))).holds w S F,
  fun ⟨vs,h0,h⟩ h1 h2 h3=>⟨vs,h0,(dM (aD vo T 1 (cF vs)) (bT (inner E enc vs l))).mono h h1 h2 h3⟩⟩
omit [Inhabited α] in
theorem lF{E:TypeId}{vs:List Value}{l:List (List α)}{k:Nat}{v:Value}{x:List α}(hv:vs[k]? = some v)(hx:l[k]? = some x):(inner E enc vs l)[k]? = some (aD v E 1 (bI enc x)):=by
 unfold inner;rw [List.getElem?_zipWith,hv,hx]
omit [Inhabited α] in
theorem qe{E:TypeId}{v:Value}{x:List α} : ∀ (vs:List Value) (l:List (List α)) (k:Nat),inner E enc (vs.set k v) (l.set k x)=(inner E enc vs l).set k (aD v E 1 (bI enc x))
 | [],_,_=>by simp [inner]
 | _::_,[],_=>by simp [inner]
 | a::vs,b::l,0=>rfl
 | a::vs,b::l,k+1=>by
   have:=qe (E:=E) (v:=v) (x:=x) vs l k
   unfold inner at this ⊢
   simp only [List.set_cons_succ,List.zipWith_cons_cons,this]
variable {P:Program} {n:Fr} {env:Env} {ps:List Per} {hp:List Res} {c:Code} {Q:Exit→Sta→Prop} {vo:Value} {T E:TypeId} {l:List (List α)}
omit [Inhabited α] in
theorem iq(i k:Nat){x:List α}(hi:hp[i]? = some (iO vo T E enc l))(hk:l[k]? = some x)
   (h:∀ vs v,vs.length=l.length→vs[k]? = some v→awp P n c Q ⟨env,ps,(hp.set i (aD vo T 1 (cF vs))++[aD v E 1 (bI enc x)])++[bT ((inner E enc vs l).set k emp)]⟩):awp P n c Q ⟨env,ps,hp⟩:=by
 have hil:=(List.getElem?_eq_some_iff.1 hi).1
 refine lq (β := {p:List Value × Value // p.1.length=l.length∧p.1[k]? = some p.2}) i (fun p=>dM (aD vo T 1 (cF p.1.1)) (dM (aD p.1.2 E 1 (bI enc x)) (bT ((inner E enc p.1.1 l).set k emp)))) hi (fun w S F hh => ?_) fun ⟨⟨vs,v⟩,h1,h2⟩ => ?_
 · obtain ⟨vs,h0,hs⟩:=hh
   have hkl:=(List.getElem?_eq_some_iff.1 hk).1
   obtain ⟨v,hv⟩:∃ v,vs[k]? = some v:=⟨vs[k]'(by omega),by simp⟩
   exact ⟨⟨(vs,v),h0,hv⟩,et hs fun F h=>iI _ k F (lF hv hk) h⟩
 · refine pI i (by rw [List.getElem?_set_self hil]) ?_
   rw [List.set_set]
   refine pI (hp.set i (aD vo T 1 (cF vs))).length (by rw [List.getElem?_append_right (Nat.le_refl _),Nat.sub_self];rfl) ?_
   rw [List.set_append_right _ _ (Nat.le_refl _),Nat.sub_self]
   exact h vs v h1 h2
omit [Inhabited α] in
theorem fD(i j m k:Nat){vs:List Value}{v:Value}{x:List α}(hi:hp[i]? = some (aD vo T 1 (cF (vs.set k v))))(hj:hp[j]? = some (aD v E 1 (bI enc x)))(hm:hp[m]? = some (bT ((inner E enc vs l).set k emp)))
   (hij:(i == j)=false) (him:(i == m)=false) (hjm:(j == m)=false) (hl:vs.length=l.length) (hk:k<l.length) (h:awp P n c Q ⟨env,ps,((hp.set j emp).set m emp).set i (iO vo T E enc (l.set k x))⟩):awp P n c Q ⟨env,ps,hp⟩:=by
 have hij':i≠j:=by simpa using hij
 have him':i≠m:=by simpa using him
 have hjm':j≠m:=by simpa using hjm
 have hil:=(List.getElem?_eq_some_iff.1 hi).1
 have hjl:=(List.getElem?_eq_some_iff.1 hj).1
 refine rY j m hj hm hjm ?_
 refine rY i j (R:=aD vo T 1 (cF (vs.set k v))) (R':=dM (aD v E 1 (bI enc x)) (bT ((inner E enc vs l).set k emp))) ?_ ?_ hij ?_
 · rw [List.getElem?_set_ne (Ne.symm him'),List.getElem?_set_ne (Ne.symm hij')];exact hi
 · rw [List.getElem?_set_ne (Ne.symm hjm'),List.getElem?_set_self hjl]
 refine fH i (iO vo T E enc (l.set k x)) (R:=dM (aD vo T 1 (cF (vs.set k v))) (dM (aD v E 1 (bI enc x)) (bT ((inner E enc vs l).set k emp)))) ?_ (fun w S F hh => ?_) ?_
 · rw [List.getElem?_set_ne (Ne.symm hij'),List.getElem?_set_self (by simpa using hil)]
 · refine ⟨vs.set k v,by simp [hl],et hh fun F h => ?_⟩
   rw [qe]
   exact lQ _ k F (by unfold inner;simp;omega) h
 · have e:((((hp.set j (dM (aD v E 1 (bI enc x)) (bT ((inner E enc vs l).set k emp)))).set m emp).set i (dM (aD vo T 1 (cF (vs.set k v))) (dM (aD v E 1 (bI enc x)) (bT ((inner E enc vs l).set k emp))))).set j emp).set i (iO vo T E enc (l.set k x))=((hp.set j emp).set m emp).set i (iO vo T E enc (l.set k x)):=by
     apply List.ext_getElem?
     intro q
     simp only [List.getElem?_set,List.length_set]
     by_cases h1:i=q
     · simp [h1]
     · by_cases h2:j=q
       · subst h2;simp [h1,Ne.symm hjm',hjm']
       · by_cases h3:m=q
         · simp [h1,h2,h3]
         · simp [h1,h2,h3]
   rw [e];exact h
omit [Inhabited α] in
theorem l0(i m:Nat)(hi:hp[i]? = some (aD vo T 1 (List.replicate m [.v (.slice none 0 0)])))(h:awp P n c Q ⟨env,ps,hp.set i (iO vo T E enc (List.replicate m ([]:List α)))⟩):awp P n c Q ⟨env,ps,hp⟩:=by
 refine fH i (iO vo T E enc (List.replicate m ([]:List α))) hi (fun w S F hh=>⟨List.replicate m (.slice none 0 0),by simp,?_⟩) h
 have e:cF (List.replicate m (.slice none 0 0))=List.replicate m [.v (.slice none 0 0)]:=by simp [cF]
 rw [e]
 refine ⟨F,fun _=>False,hh,oL _ fun A hA => ?_,fun _ _ h=>h,fun b=>⟨.inl,fun h=>h.elim id False.elim⟩⟩
 unfold inner at hA
 rw [List.zipWith_replicate] at hA
 obtain ⟨_,rfl⟩:=List.mem_replicate.1 hA
 exact .inl ⟨rfl,rfl,fun _ h=>h⟩
end
def dx(l:Nat)(r:Loop):Res:=⟨fun w _ F=>w.heap[l]? = some (.loop r)∧∀ k,F k↔k=l,fun h h1 _ _=>⟨(h1 l ((h.2 l).2 rfl)).trans h.1,h.2⟩⟩
def mN(D:Nat):Res:=⟨fun w _ F=>w.heap[D]? = some (.deferred (some []))∧∀ k,F k↔k=D,fun h h1 _ _=>⟨(h1 D ((h.2 D).2 rfl)).trans h.1,h.2⟩⟩
def mf(D:Nat):Deferred := { target:=.collected D,args := #[] }
theorem Evo.putObj{w:World}{S X:aT}{l:Nat}{o:Obj}(hl:X l):Evo w S X (w.putObj l o) S where
 os:=rfl
 tape:=rfl
 output:=rfl
 size:=by rw [World.putObj_size];exact Nat.le_refl _
 drawn:=Nat.le_refl _
 block b _ hx:=World.putObj_heap_other (fun e=>hx (by rw [e];exact hl))
 more _ h:=h
 new _ h:=.inl h
theorem St.putObj{w:World}{S:aT}{fp:Nat→aT}{ps:List Per}{hp:List Res}(h:St w S fp ps hp){i l:Nat}(hi:i<hp.length)(hl:fp i l)(o:Obj)(R:Res)(hR:R.holds (w.putObj l o) S (fp i)):St (w.putObj l o) S fp ps (hp.set i R) :=
 h.change hi (by rw [World.putObj_size];exact Nat.le_refl _) (fun b _ hb=>World.putObj_heap_other (fun e=>hb (by rw [e];exact hl))) R hR

def kY(P:Program)(l:Nat)(args:List Value)(ps:List Per)(hp:List Res)(R:Value→List Per→List Res→Prop):Prop :=
 ∀ (w:World) (S:aT) (fp:Nat→aT),St w S fp ps hp→fM P (fun v w'=>∃ ps' hp' S' fp',R v ps' hp'∧St w' S' fp' ps' hp'∧Evo w S (tot fp hp.length) w' S'∧∀ b,tot fp' hp'.length b→tot fp hp.length b∨w.heap.size≤b) ((Instr.yield l args.toArray).run P w)
section
variable {P:Program} {n:Fr} {env:Env} {ps:List Per} {hp:List Res} {ty:TypeId} {pos:String} {af:Array Edge} {gd:Option (Nat × Bool)} {K:Sta→Prop} {d:Option Tmp}
theorem vd{k:Nat}{l:List Operand}{ts:Array TypeId}{g:Operand}{ρ:Operand→Value}(hg:ρ g=.func (.yield k) #[] #[]){vs:List Value}(hv:l.map ρ=vs)(w:World):(execOp ρ ⟨d,.call ⟨.value g,l.toArray,ts⟩,ty,pos,af,gd⟩).run P w=(Instr.yield k vs.toArray).run P w:=by
 unfold execOp
 dsimp only
 show ((resolve ρ ⟨.value g,l.toArray,ts⟩ ty).bind fun x=>invoke x.target x.args).run P w=_
 have:resolve ρ ⟨.value g,l.toArray,ts⟩ ty=Sem.pure { target:=.fn (.yield k) #[],args:=vs.toArray } := by
   unfold resolve
   dsimp only
   rw [hg]
   show Deferred.ofValue _ _=_
   unfold Deferred.ofValue
   dsimp only
   rw [List.map_toArray,hv,Array.empty_append]
   rfl
 rw [this]
 rfl
theorem rj{t k:Nat}{g:Operand}{l:List Operand}{ts:Array TypeId}{vs:List Value}{R:Value→List Per→List Res→Prop}(lp lh:List Nat)(hgv:ev env g=some (true,.func (.yield k) #[] #[]))(hx:evs env l=some vs)(ht:fits n (some t)=true)(ok:okH hp lh=true)
   (hc:kY P k vs (dE ps lp) (bA hp lh) R) (hK:∀ v ps' hp',R v ps' hp'→K ⟨(t,true,v)::env,ps'++ps,fk lh hp' 0 hp⟩) :
   Eff P n ⟨some t,.call ⟨.value g,l.toArray,ts⟩,ty,pos,af,gd⟩ ⟨env,ps,hp⟩ false K:=fun w S fp a hst he hn=>by
 rw [vd (he.val hgv rfl) (fF he l vs hx)]
 obtain ⟨k1,k2⟩:=hst.bA lp lh ok
 refine bC (fun v w' ⟨ps',hp',S',fp',hR,hst',hE,hg⟩ => ?_) (hc w S _ k1)
 obtain ⟨m1,m2⟩:=hst.back lp lh ok hst' hE hg
 exact ⟨_,S',_,hK v ps' hp' hR,m1,he.put (g:=true) (by rw [hn];simpa [fits] using ht) v,hE.wider k2,m2,fun h=>by cases h⟩
end
def busy(r:Loop):Loop := { r with state:=.busy }
def ended(r:Loop)(j:Option Code):Loop := { r with state:=if j.isNone then .ready else .done,pending:=j }
theorem n1{r:Loop}(h1:r.state=.ready)(h2:r.pending=none):ended r none=r:=by cases r;simp only at h1 h2;subst h1 h2;rfl
def z7:Exit→Option (Option Code)
 | .normal=>some none
 | .ret=>some (some .ret)
 | .exit id=>some (some (.exit id))
 | .goto t=>some (some (.goto t))
 | _=>none
def ac6(l:Nat)(r:Loop)(R:Value→List Per→List Res→Prop)(e:Exit)(s:Sta):Prop :=
 ∃ j lp lh,z7 e=some j∧s.hp[0]? = some (dx l (busy r))∧okH s.hp lh=true∧R (.bool j.isNone) (dE s.ps lp) (bA (s.hp.set 0 (dx l (ended r j))) lh)
def ac4(env:Env):List (Nat × Value)→Env
 | []=>env
 | (p,v)::l=>ac4 ((p,true,v)::env) l
theorem wY:∀ (l:List (Nat × Value)) (env:Env) (tmps:Array Value),cg ⟨tmps,[]⟩ env→(∀ x∈l,x.1<tmps.size)→cg ⟨l.foldl (fun t x=>t.setIfInBounds x.1 x.2) tmps,[]⟩ (ac4 env l)
 | [],_,_,h,_=>h
 | (p,v)::l,env,tmps,h,hl=>wY l _ _ (h.put (d:=p) (hl (p,v) List.mem_cons_self) true v) (fun x hx=>by have:=hl x (List.mem_cons_of_mem _ hx);simpa using this)
theorem qb:∀ (l:List (Nat × Value)) (tmps:Array Value),(l.foldl (fun t x=>t.setIfInBounds x.1 x.2) tmps).size=tmps.size
 | [],_=>rfl
 | x::l,tmps=>by rw [List.foldl_cons,qb l];simp
theorem abw{hp hp':List Res}{l:List Nat}(h:hp.length=hp'.length):okH hp l=okH hp' l:=by unfold okH;rw [h]
theorem pX{P:Program}{l:Nat}{r:Loop}{m:Nat}{pm:Array Tmp}{A B:Code}(hm:r.tmps.size=m)(hpm:r.params=pm)(hA:r.assign=A)(hB:r.body=B){args:List Value}{ps:List Per}{hp:List Res}{R:Value→List Per→List Res→Prop}{env:Env}(hr:r.state=.ready)(hs:args.length=pm.size)(he:cg ⟨r.tmps,[]⟩ env)(hps:pm.toList.all (· < m)=true)
   (h:awp P ⟨m,some l,[]⟩ A (thn (fun s=>s.hp[0]? = some (dx l r)∧awp P ⟨m,some l,[]⟩ B (ac6 l r R) ⟨s.env,s.ps,s.hp.set 0 (dx l (busy r))⟩) (fun _ _=>False)) ⟨ac4 env (pm.toList.zip args),ps,dx l r::hp⟩) :
   kY P l args ps (dx l r::hp) R:=fun w S fp hst=>by
 subst hm hpm hA hB
 have hl:w.heap[l]? = some (.loop r):=(hst.res 0 _ rfl).1
 rw [run_yield hl (by simpa using hs)]
 have hz:(r.params.zip args.toArray).foldl (fun tmps (x:Tmp × Value)=>tmps.setIfInBounds x.1 x.2) r.tmps=(r.params.toList.zip args).foldl (fun t x=>t.setIfInBounds x.1 x.2) r.tmps:=by
   rw [← Array.foldl_toList,Array.toList_zip]
 show RoundIn (fnc none) 0 P l r.fn ((r.params.zip args.toArray).foldl (fun tmps (x:Tmp × Value)=>tmps.setIfInBounds x.1 x.2) r.tmps) r.assign r.body w _
 rw [hz]
 refine roundIn_of_wpIn (F:=fnc none) trivial ?_
 refine ck (F:=fnc (some l)) (fun e a1 w1 hq => ?_) (h w S fp ⟨(r.params.toList.zip args).foldl (fun t x=>t.setIfInBounds x.1 x.2) r.tmps,[]⟩ hst (wY _ _ _ he fun x hx=>by simpa using List.all_eq_true.1 hps _ (List.of_mem_zip hx).1) (qb _ _) rfl)
 obtain ⟨s1,S1,fp1,hQ,hst1,he1,hn1,hd1,hE1,hg1⟩:=hq
 cases e with
 | normal =>
   obtain ⟨h0,hb⟩:=hQ
   have hl1:=(hst1.res 0 _ h0).1
   have h0l:0<s1.hp.length:=(List.getElem?_eq_some_iff.1 h0).1
   have hF1:=(hst1.res 0 _ h0).2
   refine ⟨_,run_beginRound hl1 hr,?_⟩
   have hst2:=hst1.putObj h0l ((hF1 l).2 rfl) (.loop (busy r)) (dx l (busy r)) ⟨World.putObj_heap_same (Array.getElem?_eq_some_iff.1 hl1).1,hF1⟩
   refine ck (F:=fnc (some l)) (fun e2 a2 w2 hq2 => ?_) (hb _ S1 fp1 a1 hst2 he1 hn1 hd1)
   obtain ⟨s2,S2,fp2,⟨j,lp,lh,hj,h20,ok,hR⟩,hst3,he3,hn3,hd3,hE3,hg3⟩:=hq2
   have hl2:=(hst3.res 0 _ h20).1
   have h2l:0<s2.hp.length:=(List.getElem?_eq_some_iff.1 h20).1
   have hF2:=(hst3.res 0 _ h20).2
   have hend:=run_endRound (P:=P) j hl2
   have hst4:=hst3.putObj h2l ((hF2 l).2 rfl) (.loop (ended r j)) (dx l (ended r j)) ⟨World.putObj_heap_same (Array.getElem?_eq_some_iff.1 hl2).1,hF2⟩
   obtain ⟨k1,k2⟩:=hst4.bA lp lh (by rw [abw (hp':=s2.hp) (by simp)];exact ok)
   have hX1:tot fp1 s1.hp.length l:=⟨0,h0l,(hF1 l).2 rfl⟩
   have hX2:tot fp2 s2.hp.length l:=⟨0,h2l,(hF2 l).2 rfl⟩
   have hE2:Evo w S (tot fp (dx l r::hp).length) (w1.putObj l (.loop (busy r))) S1:=hE1.trans (Evo.putObj hX1) hg1
   have hsz:(w1.putObj l (.loop (busy r))).heap.size=w1.heap.size:=World.putObj_size
   have hg3':∀ b,tot fp2 s2.hp.length b→tot fp (dx l r::hp).length b∨w.heap.size≤b:=fun b hb=>(hg3 b hb).elim (fun h=>hg1 b (by simpa using h)) (fun h=>.inr (Nat.le_trans hE1.size (by rw [← hsz];exact h)))
   have hE4:Evo w S (tot fp (dx l r::hp).length) (w2.putObj l (.loop (ended r j))) S2:=(hE2.trans hE3 (fun b hb=>hg1 b (by simpa using hb))).trans (Evo.putObj hX2) hg3'
   have goal:∃ v,Ending.returned (.bool j.isNone)=.returned v∧∃ ps' hp' S' fp',R v ps' hp'∧St (w2.putObj l (.loop (ended r j))) S' fp' ps' hp'∧Evo w S (tot fp (dx l r::hp).length) (w2.putObj l (.loop (ended r j))) S'∧∀ b,tot fp' hp'.length b→tot fp (dx l r::hp).length b∨w.heap.size≤b :=
     ⟨_,rfl,_,_,S2,_,hR,k1,hE4,fun b hb=>hg3' b (by simpa using k2 b hb)⟩
   cases e2<;>simp only [z7,Option.some.injEq,reduceCtorEq] at hj<;>subst hj<;>exact ⟨_,_,hend,goal⟩
 | _=>exact hQ.elim
def iQ(P:Program)(fn:Func)(R:Value→List Per→List Res→Prop)(w:World)(S X:aT)(e:Exit)(a':Act)(w':World):Prop :=
 (e=.normal∨e=.ret)∧∃ (v:Value) (ds:List Nat) (ps':List Per) (hp':List Res) (S':aT) (fp':Nat→aT),(∀ w2,(results fn a'.tmps).run P w2=.ok v w2)∧a'.defers=ds.map mf∧ds.Nodup∧R v ps' hp'∧St w' S' fp' ps' hp'∧Evo w S X w' S'∧(∀ b,tot fp' hp'.length b→X b∨w.heap.size≤b) ∧
   ∀ D∈ds,w'.heap[D]? = some (.deferred (some []))∧¬ S' D∧¬ tot fp' hp'.length D∧(X D∨w.heap.size≤D)
def rR(P:Program)(fn:Func)(R:Value→List Per→List Res→Prop)(n:Fr)(e:Exit)(s:Sta):Prop :=
 (e=.normal∨e=.ret)∧∃ (v:Value) (lp lh lm ds:List Nat),okH s.hp (lh++lm)=true∧(∀ a w,cg a s.env→(results fn a.tmps).run P w=.ok v w)∧n.dfr=ds.map mf∧bA s.hp lm=ds.map mN∧R v (dE s.ps lp) (bA s.hp lh)
def fwp(P:Program)(fn:Func)(n:Fr)(c:Code)(R:Value→List Per→List Res→Prop)(s:Sta):Prop :=
 ∀ (w:World) (S:aT) (fp:Nat→aT) (a:Act),St w S fp s.ps s.hp→cg a s.env→a.tmps.size=n.size→a.defers=n.dfr→c.wpIn (fnc n.ro) 0 P (iQ P fn R w S (tot fp s.hp.length)) a w
def adj(P:Program)(fn:Func)(n:Fr)(y z:Code)(R:Value→List Per→List Res→Prop)(s:Sta):Prop :=
 ∀ (w:World) (S:aT) (fp:Nat→aT) (a:Act),St w S fp s.ps s.hp→cg a s.env→a.tmps.size=n.size→a.defers=n.dfr →
   y.wpIn (fnc n.ro) 0 P (Exit.then (z.wpIn (fnc n.ro) 0 P (iQ P fn R w S (tot fp s.hp.length))) (iQ P fn R w S (tot fp s.hp.length))) a w
section
variable {P:Program} {fn:Func} {n:Fr} {R:Value→List Per→List Res→Prop} {s:Sta}
theorem iQ.trans{w w1:World}{S X S1 X1:aT}(hE:Evo w S X w1 S1)(hX:∀ b,X1 b→X b∨w.heap.size≤b){e:Exit}{a:Act}{w2:World}(h:iQ P fn R w1 S1 X1 e a w2):iQ P fn R w S X e a w2:=by
 obtain ⟨he,v,ds,ps',hp',S',fp',h1,h2,h3,h4,h5,h6,h7,h8⟩:=h
 have hX':∀ b,X1 b∨w1.heap.size≤b→X b∨w.heap.size≤b:=fun b hb=>hb.elim (hX b) (fun h=>.inr (Nat.le_trans hE.size h))
 exact ⟨he,v,ds,ps',hp',S',fp',h1,h2,h3,h4,h5,hE.trans h6 hX,fun b hb=>hX' b (h7 b hb),fun D hD=>let ⟨a1,a2,a3,a4⟩:=h8 D hD; ⟨a1,a2,a3,hX' D a4⟩⟩
theorem gq{w:World}{S X:aT}{e:Exit}{a':Act}{w':World}(h:eh (rR P fn R n) n w S X e a' w'):iQ P fn R w S X e a' w':=by
 obtain ⟨s',S',fp',⟨he,v,lp,lh,lm,ds,ok,hr,hds,hlm,hR⟩,hst,henv,hn,hd,hE,hg⟩:=h
 have ok2:=ok
 simp only [okH,Bool.and_eq_true,decide_eq_true_eq] at ok2
 have okh:okH s'.hp lh=true:=by
   simp only [okH,Bool.and_eq_true,decide_eq_true_eq]
   exact ⟨List.all_eq_true.2 fun x hx=>List.all_eq_true.1 ok2.1 x (List.mem_append_left _ hx),(List.nodup_append.1 ok2.2).1⟩
 obtain ⟨k1,k2⟩:=hst.bA lp lh okh
 have hlen:lm.length=ds.length:=by have:=congrArg List.length hlm;simpa [bA] using this
 -- the place of a mark
 have hm:∀ i (hi:i<ds.length),∃ k,lm[i]? = some k∧k<s'.hp.length∧(mN ds[i]).holds w' S' (fp' k):=fun i hi=>by
   have hi':i<lm.length:=by omega
   have hk:lm[i]<s'.hp.length:=by simpa using List.all_eq_true.1 ok2.1 lm[i] (List.mem_append_right _ (List.getElem_mem hi'))
   refine ⟨lm[i],List.getElem?_eq_getElem hi',hk,?_⟩
   have e:=congrArg (·[i]?) hlm
   simp only [bA,List.getElem?_map,List.getElem?_eq_getElem hi',List.getElem?_eq_getElem hi,Option.map_some,Option.some.injEq] at e
   have:=hst.res lm[i] (s'.hp.getD lm[i] emp) (by simp [List.getD,hk])
   rw [e] at this
   exact this
 refine ⟨he,v,ds,_,_,S',_,fun w2=>hr a' w2 henv,hd.trans hds,?_,hR,k1,hE,fun b hb=>hg b (k2 b hb),fun D hD => ?_⟩
 · rw [List.nodup_iff_pairwise_ne,List.pairwise_iff_getElem]
   intro i j hi hj hij e
   obtain ⟨ki,h1,h2,h3⟩:=hm i hi
   obtain ⟨kj,g1,g2,g3⟩:=hm j hj
   have hne:ki≠kj:=fun ek=>by
     have hpw:=List.pairwise_iff_getElem.1 (List.nodup_iff_pairwise_ne.1 (List.nodup_append.1 ok2.2).2.1)
     refine hpw i j (by omega) (by omega) hij ?_
     have a1:=(List.getElem?_eq_some_iff.1 h1).2
     have a2:=(List.getElem?_eq_some_iff.1 g1).2
     rw [a1,a2,ek]
   exact hst.dj ki kj h2 g2 hne ds[i] ((h3.2 _).2 rfl) (by rw [e];exact (g3.2 _).2 rfl)
 · obtain ⟨i,hi,rfl⟩:=List.getElem_of_mem hD
   obtain ⟨k,h1,h2,h3⟩:=hm i hi
   have hfk:fp' k ds[i]:=(h3.2 _).2 rfl
   refine ⟨h3.1,(hst.lt k h2 _ hfk).2,fun ⟨m,hm',hb⟩ => ?_,hg _ ⟨k,h2,hfk⟩⟩
   have hml:m<lh.length:=by simpa [bA] using hm'
   have hkm:lh.getD m 0<s'.hp.length:=by
     have:=List.all_eq_true.1 ok2.1 lh[m] (List.mem_append_left _ (List.getElem_mem hml))
     simpa [List.getD,hml] using this
   refine hst.dj (lh.getD m 0) k hkm h2 (fun ek => ?_) _ hb hfk
   have hk':k∈lm:=List.mem_of_getElem? h1
   have hm2:lh.getD m 0∈lh:=by simp [List.getD,hml]
   exact (List.nodup_append.1 ok2.2).2.2 _ hm2 _ hk' ek
theorem ob{c:Code}(h:awp P n c (rR P fn R n) s):fwp P fn n c R s:=fun w S fp a hst he hn hd=>ck (fun _ _ _ h=>gq h) (h w S fp a hst he hn hd)
theorem wz{x y:Code}(h:awp P n x (thn (fwp P fn n y R) (rR P fn R n)) s):fwp P fn n (.seq x y) R s:=fun w S fp a hst he hn hd =>
 wpIn_seq (ck (fun e a' w' hq=>by
   cases e with
   | normal =>
     obtain ⟨s1,S1,fp1,h1,hst1,he1,hn1,hd1,hE,hg⟩:=hq
     exact ck (fun e a2 w2 h2=>h2.trans hE hg) (h1 w' S1 fp1 a' hst1 he1 hn1 hd1)
   | _=>exact gq hq) (h w S fp a hst he hn hd))
theorem tc{x y z:Code}(h:awp P n x (thn (adj P fn n y z R) (rR P fn R n)) s):fwp P fn n (.seq (.seq x y) z) R s:=fun w S fp a hst he hn hd =>
 wpIn_seq (wpIn_seq (ck (fun e a' w' hq=>by
   cases e with
   | normal =>
     obtain ⟨s1,S1,fp1,h1,hst1,he1,hn1,hd1,hE,hg⟩:=hq
     refine ck (fun e a2 w2 h2 => ?_) (h1 w' S1 fp1 a' hst1 he1 hn1 hd1)
     cases e with
     | normal=>exact ck (fun e a3 w3 h3=>iQ.trans hE hg h3) h2
     | _=>exact iQ.trans hE hg h2
   | _=>exact gq hq) (h w S fp a hst he hn hd)))
theorem zX{c:Code}{env:Env}{ps ps':List Per}{hp hp':List Res}(h1:ps=ps')(h2:hp=hp')(h:fwp P fn n c R ⟨env,ps',hp'⟩):fwp P fn n c R ⟨env,ps,hp⟩:=h1 ▸ h2 ▸ h
theorem ab3{t:Nat}{v:Value}{e:Exit}(lp lh lm ds:List Nat)(ok:okH s.hp (lh++lm)=true)(hr:fn.results = #[.tmp t])(hl:look s.env t=some (true,v))(hd:n.dfr=ds.map mf)(hm:bA s.hp lm=ds.map mN)(h:R v (dE s.ps lp) (bA s.hp lh))(he:e=.normal∨e=.ret):rR P fn R n e s :=
 ⟨he,v,lp,lh,lm,ds,ok,fun a w henv=>by have:=henv t true v hl;simp only [cond_true] at this;rw [results_tmp hr,this],hd,hm,h⟩
theorem qc{id:Nat}{f:FuncId}{g:Operand}{caps:List Value}{pm:Array Tmp}{assign body z:Code}{Rr:Value→List Per→List Res→Prop}(lp lh:List Nat)(hro:n.ro=none)(hgv:ev s.env g=some (true,.func (.func f) #[] caps.toArray))(hf:cM P f=true)
   (ok:okH s.hp lh=true)
   (hc : ∀ (l:Nat) (r:Loop),r.tmps.size=n.size→cg ⟨r.tmps,[]⟩ s.env→r.state=.ready→r.pending=none→r.params=pm→r.assign=assign→r.body=body →
     Con P f (.func (.yield l) #[] #[]::caps) (dE s.ps lp) (dx l r::bA s.hp lh)
       (fun v ps' hp'=>∃ r' hp2,hp'=dx l r'::hp2∧r'.state≠.busy∧r'.pending=none∧Rr v ps' hp2))
   (hz:∀ (D:Nat) (R0 R1:Res) v ps' hp2,Rr v ps' hp2→fwp P fn ⟨n.size,n.ro,mf D::n.dfr⟩ z R ⟨s.env,ps'++s.ps,(fk ((s.hp.length+1)::lh) (R0::hp2) 0 (s.hp++[mN D,R1])).set (s.hp.length+1) emp⟩) :
   adj P fn n (.block id (.rangeFunc g pm assign body)) z R s:=fun w S fp a hst he hn hd=>by
 refine wpIn_block (wpIn_rangeFunc fun fi _ => ?_)
 have hev:=he.val hgv rfl
 have hb1:=ec w (.deferred (some []))
 have hb2:=ec (w.alloc (.deferred (some []))) (.loop { state:=.ready,pending:=none,fn:=fi,tmps:=a.tmps,params:=pm,assign,body,defers:=w.heap.size })
 have hs1:(w.alloc (.deferred (some []))).heap.size=w.heap.size+1:=World.size_alloc ..
 have hst1:=hst.push hb1 (mN w.heap.size) (fun b=>b=w.heap.size) ⟨gX _ _,fun _=>Iff.rfl⟩ (fun b hb=>⟨by omega,by omega⟩)
 have hst2:=hst1.push hb2 (dx (w.heap.size+1) _) (fun b=>b=w.heap.size+1) ⟨by rw [← hs1];exact gX _ _,fun _=>Iff.rfl⟩ (fun b hb=>⟨by omega,by rw [hb,World.size_alloc,hs1];omega⟩)
 rw [List.append_assoc] at hst2
 have hE0:Evo w S (tot fp s.hp.length) _ S:=Evo.of_below _ _ (hb1.trans (hb2.mono hb1.size))
 have ok2:=ok
 simp only [okH,Bool.and_eq_true,decide_eq_true_eq] at ok2
 have hlt:∀ k∈lh,k<s.hp.length:=fun k hk=>by simpa using List.all_eq_true.1 ok2.1 k hk
 have okk:okH (s.hp++[mN w.heap.size,dx (w.heap.size+1) { state:=.ready,pending:=none,fn:=fi,tmps:=a.tmps,params:=pm,assign,body,defers:=w.heap.size }]) ((s.hp.length+1)::lh)=true:=by
   simp only [okH,Bool.and_eq_true,decide_eq_true_eq,List.all_cons,List.length_append,List.nodup_cons]
   exact ⟨⟨by simp,List.all_eq_true.2 fun k hk=>by simpa using Nat.lt_of_lt_of_le (hlt k hk) (Nat.le_add_right _ _)⟩,fun hk=>by have:=hlt _ hk;omega,ok2.2⟩
 obtain ⟨k1,k2⟩:=hst2.bA lp ((s.hp.length+1)::lh) okk
 have hkh:bA (s.hp++[mN w.heap.size,dx (w.heap.size+1) { state:=.ready,pending:=none,fn:=fi,tmps:=a.tmps,params:=pm,assign,body,defers:=w.heap.size }]) ((s.hp.length+1)::lh)
     = dx (w.heap.size+1) { state:=.ready,pending:=none,fn:=fi,tmps:=a.tmps,params:=pm,assign,body,defers:=w.heap.size } :: bA s.hp lh:=by
   unfold bA
   rw [List.map_cons]
   congr 1
   · simp [List.getD]
   · refine List.map_congr_left fun k hk => ?_
     have:=hlt k hk
     simp [List.getD,List.getElem?_append,this]
 have hcc:=hc (w.heap.size+1) { state:=.ready,pending:=none,fn:=fi,tmps:=a.tmps,params:=pm,assign,body,defers:=w.heap.size } hn he rfl rfl rfl rfl rfl
 rw [← hkh] at hcc
 have hcall:=hcc _ S _ k1
 rw [show (Value.func (.yield (w.heap.size+1)) #[] #[]::caps).toArray = #[.func (.yield (w.heap.size+1)) #[] #[]]++caps.toArray by simp] at hcall
 refine ⟨w.heap.size+1,[mf w.heap.size],(w.alloc (.deferred (some []))).alloc (.loop { state:=.ready,pending:=none,fn:=fi,tmps:=a.tmps,params:=pm,assign,body,defers:=w.heap.size }),{ target:=.fn (.func f) caps.toArray,args := #[.func (.yield (w.heap.size+1)) #[] #[]] },(w.alloc (.deferred (some []))).alloc (.loop { state:=.ready,pending:=none,fn:=fi,tmps:=a.tmps,params:=pm,assign,body,defers:=w.heap.size }),f,#[.func (.yield (w.heap.size+1)) #[] #[]]++caps.toArray,(w.alloc (.deferred (some []))).alloc (.loop { state:=.ready,pending:=none,fn:=fi,tmps:=a.tmps,params:=pm,assign,body,defers:=w.heap.size }),by rw [show (fnc n.ro).round=none from hro];exact run_enterLoop_outer ..,?_,fun _ _=>trivial,?_,fun h=>(by cases h),?_⟩
 · have:resolve a.eval (rangeCall g (w.heap.size+1)) 0=Sem.pure { target:=.fn (.func f) caps.toArray,args := #[.func (.yield (w.heap.size+1)) #[] #[]] } := by
     unfold resolve rangeCall
     dsimp only
     rw [hev]
     show Deferred.ofValue _ _=_
     unfold Deferred.ofValue
     dsimp only
     rw [List.map_toArray,Array.empty_append]
     rfl
   rw [this]
   rfl
 · exact fX hf _ _
 · refine (callsIn_wide (n:=0)).2 (Calls.mono hcall fun e w3 ⟨v,ps',hp',S',fp',he',⟨r',hp2,hhp,hnb,hpn,hRr⟩,hst',hE,hg⟩ => ?_)
   subst he' hhp
   obtain ⟨m1,m2⟩:=hst2.back lp _ okk hst' hE hg
   have hi1:s.hp.length+1<(fk ((s.hp.length+1)::lh) (dx (w.heap.size+1) r'::hp2) 0 (s.hp++[mN w.heap.size,dx (w.heap.size+1) { state:=.ready,pending:=none,fn:=fi,tmps:=a.tmps,params:=pm,assign,body,defers:=w.heap.size }])).length:=by
     rw [oA];simp;omega
   have hg1:(fk ((s.hp.length+1)::lh) (dx (w.heap.size+1) r'::hp2) 0 (s.hp++[mN w.heap.size,dx (w.heap.size+1) { state:=.ready,pending:=none,fn:=fi,tmps:=a.tmps,params:=pm,assign,body,defers:=w.heap.size }]))[s.hp.length+1]? = some (dx (w.heap.size+1) r'):=by
     rw [je,if_pos (by simp)]
     simp [place]
   have hr:=m1.res _ _ hg1
   have hend:=(run_endLoop (P:=P) hr.1 hnb).trans (congrArg (fun j=>Result.ok j _) hpn)
   refine ⟨none,_,hend,?_⟩
   have hl':=(Array.getElem?_eq_some_iff.1 hr.1).1
   have m3:=(m1.putObj hi1 ((hr.2 _).2 rfl) (.loop { r' with state:=.exhausted }) (dx (w.heap.size+1) { r' with state:=.exhausted }) ⟨World.putObj_heap_same hl',hr.2⟩).drop (s.hp.length+1)
   rw [List.set_set] at m3
   have hT:∀ b,tot (fun i=>if i=(s.hp++[mN w.heap.size]).length then (fun b=>b=w.heap.size+1) else (fun i=>if i=s.hp.length then (fun b=>b=w.heap.size) else fp i) i) (s.hp++([mN w.heap.size]++[dx (w.heap.size+1) { state:=.ready,pending:=none,fn:=fi,tmps:=a.tmps,params:=pm,assign,body,defers:=w.heap.size }])).length b→tot fp s.hp.length b∨w.heap.size≤b:=fun b ⟨i,hi,hb⟩=>by
     dsimp only at hb
     split at hb
     · exact .inr (by omega)
     · split at hb
       · exact .inr (by omega)
       · rename_i h1 h2
         refine .inl ⟨i,?_,hb⟩
         simp only [List.length_append,List.length_cons,List.length_nil] at hi h1
         omega
   have hE3:Evo w S (tot fp s.hp.length) w3 S':=hE0.trans (hE.wider k2) hT
   have hX3:=fun b hb=>(m2 b hb).elim (hT b) (fun h=>.inr (Nat.le_trans hE0.size h))
   have hE4:=hE3.trans (Evo.putObj (S:=S') (o:=.loop { r' with state:=.exhausted }) ⟨_,hi1,(hr.2 _).2 rfl⟩) hX3
   have h5:=hz w.heap.size _ _ v ps' hp2 hRr _ S' _ { a with defers:=mf w.heap.size::a.defers } m3 he hn (by rw [← hd])
   show z.wpIn (fnc n.ro) 0 P (iQ P fn R w S (tot fp s.hp.length)) { a with defers:=mf w.heap.size::a.defers } _
   refine ck (fun e a5 w5 h6=>iQ.trans hE4 (fun b hb => ?_) h6) h5
   obtain ⟨i,hi,hb⟩:=hb
   split at hb
   · exact hb.elim
   · exact hX3 b ⟨i,by simpa using hi,hb⟩
theorem kF{tmps:Array Value}{v:Value}{Rr:Ending→World→Prop} : ∀ (ds:List Nat) (w:World),ds.Nodup→(∀ D∈ds,w.heap[D]? = some (.deferred (some [])))→(∀ w2,(results fn tmps).run P w2=.ok v w2) →
   (∀ w2,w2.os=w.os→w2.tape=w.tape→(w2.output=w.output∧w2.drawn=w.drawn)→w2.heap.size=w.heap.size→(∀ b,b ∉ ds→w2.heap[b]? = w.heap[b]?)→Rr (.returned v) w2)→LeavesInM (fnc none) 0 P fn tmps Rr (ds.map mf) .returning w
 | [],w,_,_,hr,h=>⟨v,hr w,h w rfl rfl ⟨rfl,rfl⟩ rfl fun _ _=>rfl⟩
 | D :: ds,w,hnd,hd,hr,h=>by
   obtain ⟨h1,h2⟩:=List.nodup_cons.1 hnd
   refine ⟨by simp,.inl ⟨D,_,rfl,run_takeDeferred (hd D List.mem_cons_self),kF ds _ h2 (fun D' hD' => ?_) hr fun w2 e1 e2 e3 e4 e5 => ?_⟩⟩
   · rw [World.putObj_heap_other (fun e=>h1 (by rw [← e];exact hD'))]
     exact hd D' (List.mem_cons_of_mem _ hD')
   · refine h w2 e1 e2 e3 (e4.trans World.putObj_size) fun b hb => ?_
     rw [e5 b (fun hb'=>hb (List.mem_cons_of_mem _ hb')),World.putObj_heap_other (fun e=>hb (by rw [e];exact List.mem_cons_self))]
end
theorem Con.enterM{P:Program}{f:FuncId}{fn:Func}{c:Code}{args:List Value}{ps:List Per}{hp:List Res}{R:Value→List Per→List Res→Prop}(hf:P.funcs[f]? = some fn)(hb:fn.body=some c)(hle:args.length≤fn.ntmps)
   (h:fwp P fn ⟨fn.ntmps,none,[]⟩ c R ⟨(List.range args.length).zipWith (fun i v=>(i,true,v)) args,ps,hp⟩):Con P f args ps hp R:=fun w S fp hst=>by
 refine (callsIn_wide (n:=0)).1 (callsIn_of_wp_marks (F:=fnc none) (n:=0) hf hb trivial (ck (F:=fnc none) (fun e a w' hq => ?_) (h w S fp { tmps:=args.toArray++Array.replicate (fn.ntmps-args.toArray.size) undef,defers:=[] } hst (sZ args fn.ntmps) (by simp;omega) rfl)))
 obtain ⟨he,v,ds,ps',hp',S',fp',h1,h2,h3,h4,h5,h6,h7,h8⟩:=hq
 have key:LeavesInM (fnc none) 0 P fn a.tmps (fun e w'=>∃ v ps' hp' S' fp',e=.returned v∧R v ps' hp'∧St w' S' fp' ps' hp'∧Evo w S (tot fp hp.length) w' S'∧∀ b,tot fp' hp'.length b→tot fp hp.length b∨w.heap.size≤b) a.defers .returning w':=by
   rw [h2]
   refine kF ds w' h3 (fun D hD=>(h8 D hD).1) h1 fun w2 e1 e2 e3 e4 e5=>⟨v,ps',hp',S',fp',rfl,h4,⟨fun p hp=>p.mono (h5.per p hp) (fun b hb=>e5 b fun hD=>(h8 b hD).2.1 hb) (fun _ h=>h),fun i R hR=>R.mono (h5.res i R hR) (fun b hb=>e5 b fun hD=>(h8 b hD).2.2.1 ⟨i,(List.getElem?_eq_some_iff.1 hR).1,hb⟩) (fun b hb=>e5 b fun hD=>(h8 b hD).2.1 hb) (fun _ h=>h),fun i hi b hb=>by rw [e4];exact h5.lt i hi b hb,h5.dj,fun b hb=>by rw [e4];exact h5.slt b hb⟩,?_,h7⟩
   exact ⟨e1.trans h6.os,e2.trans h6.tape,e3.1.trans h6.output,by rw [e4];exact h6.size,by rw [e3.2];exact h6.drawn,fun b hb hx=>(e5 b fun hD=>(h8 b hD).2.2.2.elim hx (fun h=>by omega)).trans (h6.block b hb hx),h6.more,h6.new⟩
 rcases he with rfl | rfl<;>exact key
structure Sl (α:Type) where
 ad:Option Addr
 cap:Nat
 l:List α
instance {α:Type} : Inhabited (Sl α):=⟨⟨none,0,[]⟩⟩
abbrev Sl.val{α:Type}(s:Sl α):Value:=.slice s.ad s.l.length s.cap
abbrev ShF{α:Type}(row:α→List D)(s:Sl α):Per:=Sh (.slice s.ad s.l.length s.cap) (.sl (s.l.map row))
def b6{α:Type}(p:α→Per)(l:List α):Per:=⟨fun w S=>∀ x∈l,(p x).holds w S,fun h h1 h2 x hx=>(p x).mono (h x hx) h1 h2⟩
def b7(p q:Per):Per:=⟨fun w S=>p.holds w S∧q.holds w S,fun h h1 h2=>⟨p.mono h.1 h1 h2,q.mono h.2 h1 h2⟩⟩
section
variable {α:Type} {ps:List Per} {p q:Per}
theorem Ent.all{f:α→Per}{l:List α}{i:Nat}{x:α}(h:Ent ps (b6 f l))(hx:l[i]? = some x):Ent ps (f x):=fun w S hp=>h w S hp x (List.mem_of_getElem? hx)
theorem Ent.allm{f:α→Per}{l:List α}{x:α}(h:Ent ps (b6 f l))(hx:x∈l):Ent ps (f x):=fun w S hp=>h w S hp x hx
theorem Ent.left(h:Ent ps (b7 p q)):Ent ps p:=fun w S hp=>(h w S hp).1
theorem Ent.right(h:Ent ps (b7 p q)):Ent ps q:=fun w S hp=>(h w S hp).2
theorem aJ{row:α→List D}{l:List α}{i:Nat}{x:α}(h:l[i]? = some x):(l.map row)[i]? = some (row x):=by rw [List.getElem?_map,h];rfl
end
theorem Con.quiet2{P:Program}{v:Value}{f:FuncId}{args:List Value}{p q:Per}(h:Con P f args [p,q] [] fun u _ _=>u=v){w:World}{S:aT}{fp:Nat→aT}{ps':List Per}{hp:List Res}(hp1:p∈ps')(hq1:q∈ps')(hst:St w S fp ps' hp) :
   Calls P f args.toArray w fun e w'=>e=.returned v∧Below w.heap.size w w':=h.quiet (fun _ h=>by
     rcases List.mem_cons.1 h with rfl | h
     · exact hp1
     · rw [List.mem_singleton.1 h];exact hq1) hst
theorem cA{P:Program}{n:Fr}{Q:Exit→Sta→Prop}{s:Sta}{c:Code}{ad:Option Addr}{m cp:Nat}{rows:List (List D)}(hs:Ent s.ps (Sh (.slice ad m cp) (.sl rows)))(h:m≤9223372036854775807→awp P n c Q s):awp P n c Q s :=
 gg (fun w S fp hst=>by
   have h:ea w S (.slice ad m cp) (.sl rows):=hs w S hst.per
   cases h with
   | e a c hc=>simp
   | sl b o c sz rows us hb hn hc _ _ _=>unfold maxLen at hc;omega) h
theorem zi{P:Program}{n:Fr}{Q:Exit→Sta→Prop}{s:Sta}{c:Code}{v:Value}{rows:List (List D)}(hs:Ent s.ps (Sh v (.sl rows)))(h:∀ ad k,v=.slice ad rows.length k→awp P n c Q s):awp P n c Q s :=
 gg (φ:=∃ ad k,v=.slice ad rows.length k) (fun w S fp hst=>by
   have h:ea w S v (.sl rows):=hs w S hst.per
   cases h with
   | e a c hc=>exact ⟨_,_,rfl⟩
   | sl b o c sz rows us hb hn hc _ _ _=>exact ⟨_,_,rfl⟩) (fun ⟨ad,k,e⟩=>h ad k e)
theorem lZ{P:Program}{n:Fr}{Q:Exit→Sta→Prop}{env:Env}{ps:List Per}{hp hp':List Res}{c:Code}(h:hp=hp')(k:awp P n c Q ⟨env,ps,hp'⟩):awp P n c Q ⟨env,ps,hp⟩:=h ▸ k
def elt{α:Type}[Inhabited α](l:List α)(i:Int):α:=l.getD i.toNat default
theorem gV{α:Type}[Inhabited α]{l:List α}{i:Int}(h:i<l.length)(h0:0≤i):l[i.toNat]? = some (elt l i):=by
 have:i.toNat<l.length:=by omega
 simp [elt,List.getD,this]
theorem cW{α:Type}[Inhabited α]{l:List α}{i:Nat}(h:i<l.length):l[i]? = some (elt l (i:Int)):=by simp [elt,List.getD,h]
theorem er{α:Type}[Inhabited α]{row:α→List D}{l:List α}{i:Int}(h:i<l.length)(h0:0≤i):(l.map row)[i.toNat]? = some (row (elt l i)):=aJ (gV h h0)
def dU(s:ByteArray):Per:=Fa (s.size≤maxLen)
section
variable {P:Program} {n:Fr} {env:Env} {ps:List Per} {hp:List Res} {c:Code} {Q:Exit→Sta→Prop}
theorem acj{φ:Prop}(h:Ent ps (Fa φ))(k:φ→awp P n c Q ⟨env,ps,hp⟩):awp P n c Q ⟨env,ps,hp⟩:=fun w S fp a hst he hn hd=>k (h w S hst.per) w S fp a hst he hn hd
theorem ei{s:ByteArray}(h:Ent ps (dU s))(k:s.size≤maxLen→awp P n c Q ⟨env,ps,hp⟩):awp P n c Q ⟨env,ps,hp⟩:=acj h k
end
def lf(w:World)(S:aT)(us:List Value)(ds:List D):Prop:=us.length=ds.length∧∀ (j:Nat) (d:D),ds[j]? = some d→∃ u,us[j]? = some u∧ea w S u d
theorem lf.nil{w:World}{S:aT}{us:List Value}(h:lf w S us []):us=[]:=List.eq_nil_of_length_eq_zero h.1
theorem lf.cons{w:World}{S:aT}{us:List Value}{d:D}{ds:List D}(h:lf w S us (d::ds)):∃ u us',us=u::us'∧ea w S u d∧lf w S us' ds:=by
 cases us with
 | nil=>have:=h.1;simp at this
 | cons u us =>
   obtain ⟨u',h1,h2⟩:=h.2 0 d rfl
   simp only [List.getElem?_cons_zero,Option.some.injEq] at h1
   subst h1
   exact ⟨u,us,rfl,h2,by simpa using h.1,fun j e hj=>by have:=h.2 (j+1) e (by simpa using hj);simpa using this⟩
theorem acQ{w:World}{cs:List Value}{ds:List D}(hl:ds.length=cs.length)(h:Rds w cs 0 ds):lf w (fun b=>b<w.heap.size) cs ds:=⟨hl.symm,fun j d hj=>by
 obtain ⟨u,h1,_,h2⟩:=h j d hj
 rw [Nat.zero_add] at h1
 exact ⟨u,h1,h2⟩⟩
section
variable {P:Program} {k:Nat} {t e:TypeId} {w:World} {S:aT} {us:List Value} {ds:List D}
end
mutual
/-- ten times the size of data: each value counts one, and each letter -/
def zD:D→Nat
 | .v (.string s)=>10*(s.size+1)
 | .v _=>10
 | .sl rows=>zR rows+10
def zR:List (List D)→Nat
 | []=>0
 | r::rows=>zL r+zR rows
def zL:List D→Nat
 | []=>0
 | d::ds=>zD d+zL ds
end
theorem aa3:∀ rows:List (List D),zR rows=(rows.map zL).sum
 | []=>rfl
 | r::rows=>by simp only [zR,List.map_cons,List.sum_cons,aa3 rows]
theorem wS{α:Type}{f g:α→Nat} : ∀ (l:List α),(∀ x∈l,f x≤g x)→(l.map f).sum≤(l.map g).sum
 | [],_=>Nat.le_refl _
 | x::l,h=>by
   simp only [List.map_cons,List.sum_cons]
   have h1:=h x List.mem_cons_self
   have h2:=wS l fun y hy=>h y (List.mem_cons_of_mem _ hy)
   omega
theorem zW{α:Type}[Inhabited α]{row:α→List D}{ok:α→Per}{C:α→Prop}(zf:α→Nat){w:World}{S:aT}{v:Value}{rows:List (List D)}(h:ea w S v (.sl rows))
   (hf:∀ r∈rows,∀ us:List Value,lf w S us r→∃ y:α,row y=us.map D.v∧(ok y).holds w S∧C y∧zf y≤zL r):∃ s:Sl α,v=s.val∧(ShF row s).holds w S∧(b6 ok s.l).holds w S∧(∀ y∈s.l,C y)∧(s.l.map zf).sum≤zR rows:=by
 cases h with
 | e a c hc=>exact ⟨⟨a,c,[]⟩,rfl,.e a c hc,fun y hy=>(by cases hy),fun y hy=>(by cases hy),Nat.zero_le _⟩
 | sl b o c sz _ us hb hn hc hrl hcell hd =>
   have each:∀ i:Nat,∃ y:α,i<rows.length→row y=((List.range sz).map fun j=>us i j).map D.v∧(ok y).holds w S∧C y∧zf y≤zL (rows.getD i []):=fun i=>by
     by_cases hi:i<rows.length
     · obtain ⟨r,hr⟩:∃ r,rows[i]? = some r:=⟨_,List.getElem?_eq_getElem hi⟩
       obtain ⟨y,h1,h2,h4,h3⟩:=hf r (List.mem_of_getElem? hr) ((List.range sz).map fun j=>us i j) ⟨by simp [hrl i r hr],fun j d hj=>by
         have hjl:=(List.getElem?_eq_some_iff.1 hj).1
         rw [hrl i r hr] at hjl
         exact ⟨us i j,by rw [List.getElem?_map,List.getElem?_range hjl];rfl,hd i j r d hr hj⟩⟩
       exact ⟨y,fun _=>⟨h1,h2,h4,by rw [List.getD_eq_getElem?_getD,hr];exact h3⟩⟩
     · exact ⟨default,fun h=>absurd h hi⟩
   obtain ⟨Y,hY⟩:=Classical.skolem.1 each
   have hget:∀ (i:Nat) (r:List D),(((List.range rows.length).map Y).map row)[i]? = some r→i<rows.length∧r=((List.range sz).map fun j=>us i j).map D.v:=fun i r hi=>by
     rw [List.getElem?_map,List.getElem?_map] at hi
     by_cases hil:i<rows.length
     · rw [List.getElem?_range hil] at hi
       simp only [Option.map_some,Option.some.injEq] at hi
       exact ⟨hil,by rw [← hi];exact (hY i hil).1⟩
     · rw [List.getElem?_eq_none (by simpa using hil)] at hi;cases hi
   have hcl:∀ (i j:Nat) (r:List D) (d:D),(((List.range rows.length).map Y).map row)[i]? = some r→r[j]? = some d→∃ r0 d0,rows[i]? = some r0∧r0[j]? = some d0∧d=.v (us i j):=fun i j r d hi hj=>by
     obtain ⟨hil,rfl⟩:=hget i r hi
     obtain ⟨r0,hr0⟩:∃ r,rows[i]? = some r:=⟨_,List.getElem?_eq_getElem hil⟩
     have hjl:=(List.getElem?_eq_some_iff.1 hj).1
     rw [List.length_map,List.length_map,List.length_range] at hjl
     rw [List.getElem?_map,List.getElem?_map,List.getElem?_range hjl] at hj
     simp only [Option.map_some,Option.some.injEq] at hj
     exact ⟨r0,_,hr0,List.getElem?_eq_getElem (by rw [hrl i r0 hr0];exact hjl),hj.symm⟩
   refine ⟨⟨some ⟨b,o,none⟩,c,(List.range rows.length).map Y⟩,by simp [Sl.val],?_,fun y hy => ?_,fun y hy => ?_,?_⟩
   · have h:=ea.sl (w:=w) (S:=S) b o c sz (((List.range rows.length).map Y).map row) us hb (by simpa using hn) hc (fun i r hi=>by obtain ⟨_,rfl⟩:=hget i r hi;simp)
       (fun i j r d hi hj=>by obtain ⟨r0,d0,h1,h2,_⟩:=hcl i j r d hi hj;exact hcell i j r0 d0 h1 h2) (fun i j r d hi hj=>by obtain ⟨_,_,_,_,rfl⟩:=hcl i j r d hi hj;exact .v _)
     rw [List.length_map,List.length_map,List.length_range] at h
     show ea w S (.slice (some ⟨b,o,none⟩) ((List.range rows.length).map Y).length c) (.sl (((List.range rows.length).map Y).map row))
     rw [List.length_map,List.length_range];exact h
   · obtain ⟨i,hi,rfl⟩:=List.mem_map.1 hy
     exact (hY i (List.mem_range.1 hi)).2.1
   · obtain ⟨i,hi,rfl⟩:=List.mem_map.1 hy
     exact (hY i (List.mem_range.1 hi)).2.2.1
   · rw [aa3,List.map_map]
     have e:rows.map zL=(List.range rows.length).map fun i=>zL (rows.getD i []):=by
       apply List.ext_getElem?
       intro i
       rw [List.getElem?_map,List.getElem?_map]
       by_cases hi:i<rows.length
       · rw [List.getElem?_range hi,List.getElem?_eq_getElem hi]
         simp [List.getD_eq_getElem?_getD,hi]
       · rw [List.getElem?_eq_none (by omega),List.getElem?_eq_none (by simpa using hi)];rfl
     rw [e]
     exact wS _ fun i hi=>(hY i (List.mem_range.1 hi)).2.2.2
theorem lf.app{w:World}{S:aT}{us:List Value}{a b:List D}(h:lf w S us (a++b)):∃ u1 u2,us=u1++u2∧lf w S u1 a∧lf w S u2 b:=by
 induction a generalizing us with
 | nil=>exact ⟨[],us,rfl,⟨rfl,fun j d hj=>by cases hj⟩,h⟩
 | cons d a ih =>
   obtain ⟨u,us',rfl,hu,hr⟩:=h.cons
   obtain ⟨u1,u2,rfl,h1,h2⟩:=ih hr
   exact ⟨u::u1,u2,rfl,⟨by have:=h1.1;simp [this],fun j e hj=>by
     cases j with
     | zero=>simp at hj;subst hj;exact ⟨u,rfl,hu⟩
     | succ j=>exact h1.2 j e (by simpa using hj)⟩,h2⟩
end Go.Sy

