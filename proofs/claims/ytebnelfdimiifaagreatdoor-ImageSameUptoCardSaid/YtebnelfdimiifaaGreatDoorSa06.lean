/- Parts of the proof, in build order. No condition. -/
import Derived.Test.YtebnelfdimiifaaGreatDoorSa05
import Derived.Test.YtebnelfdimiifaaGreatDoorChecked
import Derived.Test.YtebnelfdimiifaaGreatDoorSa04
import Derived.Lib.UnsafeStr
import Derived.Lib.Builder
set_option linter.unusedSimpArgs false
set_option linter.unusedVariables false
set_option maxHeartbeats 1000000
set_option maxRecDepth 20000
namespace Go.Sy
open Go.RowKit Go.Lp
section
variable {w:World} {S F:bH} {A B C R:Res}
theorem tJ(h:(gm A (gm B C)).holds w S F):(gm B (gm A C)).holds w S F:=by
 obtain ⟨G,H,a,⟨G2,H2,b,c,d2,e2⟩,d,e⟩:=h
 refine ⟨G2,fun x=>G x∨H2 x,b,⟨G,H2,a,c,fun x g h2=>d x g ((e2 x).2 (.inr h2)),fun x=>Iff.rfl⟩,fun x g2 h=>h.elim (fun g=>d x g ((e2 x).2 (.inl g2))) (fun h2=>d2 x g2 h2),fun x => ?_⟩
 rw [e x,e2 x]
 constructor
 · rintro (h | h | h)
   · exact .inr (.inl h)
   · exact .inl h
   · exact .inr (.inr h)
 · rintro (h | h | h)
   · exact .inr (.inl h)
   · exact .inl h
   · exact .inr (.inr h)
theorem gM(h:(gm A B).holds w S F)(hB:∀ F,B.holds w S F→C.holds w S F):(gm A C).holds w S F:=by
 obtain ⟨G,H,a,b,d,e⟩:=h
 exact ⟨G,H,a,hB H b,d,e⟩
theorem aec(h:A.holds w S F):(gm emp A).holds w S F:=⟨fun _=>False,F,fun b h=>h,h,fun b h=>h.elim,fun b=>⟨.inr,fun h=>h.elim False.elim id⟩⟩
theorem ac0(h:(gm emp A).holds w S F):A.holds w S F:=by
 obtain ⟨G,H,a,b,d,e⟩:=h
 have:F=H:=funext fun x=>propext ((e x).trans ⟨fun h=>h.elim (fun g=>absurd g (a x)) id,.inr⟩)
 rw [this];exact b
def fA:List Res→Res
 | []=>emp
 | A::L=>gm A (fA L)
theorem mG:∀ (L:List Res) (k:Nat) (F:bH),L[k]? = some R→(fA L).holds w S F→(gm R (fA (L.set k emp))).holds w S F
 | [],_,_,h,_=>by simp at h
 | A::L,0,F,h,hs=>by
   simp only [List.getElem?_cons_zero,Option.some.injEq] at h
   subst h
   exact gM hs fun F h=>aec h
 | A::L,k+1,F,h,hs=>tJ (gM hs fun F h'=>mG L k F (by simpa using h) h')
theorem tL:∀ (L:List Res) (k:Nat) (F:bH),k<L.length→(gm R (fA (L.set k emp))).holds w S F→(fA (L.set k R)).holds w S F
 | [],_,_,h,_=>by simp at h
 | A::L,0,F,_,hs=>gM hs fun F h=>ac0 h
 | A::L,k+1,F,h,hs=>gM (tJ hs) fun F h'=>tL L k F (by simpa using h) h'
theorem rV:∀ (L:List Res),(∀ A∈L,A.holds w S fun _=>False)→(fA L).holds w S fun _=>False
 | [],_=>fun _ h=>h
 | A::L,h=>⟨fun _=>False,fun _=>False,h A (List.mem_cons_self ..),rV L fun B hB=>h B (List.mem_cons_of_mem _ hB),fun _ h=>h.elim,fun _=>⟨.inl,fun h=>h.elim id id⟩⟩
theorem tK:∀ (L:List Res) (F:bH),(fA L).holds w S F→∀ (k:Nat) (A:Res),L[k]? = some A→∃ G:bH,(∀ b,G b→F b)∧A.holds w S G:=fun L F h k A hk=>by
 obtain ⟨G,H,a,_,_,e⟩:=mG L k F hk h
 exact ⟨G,fun b hb=>(e b).2 (.inl hb),a⟩
theorem ns{v:Value}{T:TypeId}{sz:Nat}{rows:List (List D)}(hr:(aN v T sz rows).holds w S F):fv w (fun b=>S b∨F b) v (.sl rows):=by
 have hS:∀ b,S b→(S b∨F b):=fun _ h=>.inl h
 rcases hr with ⟨rfl,rfl,_⟩ | ⟨b,cap,rfl,⟨cs,sp,hb,hrows,hl,hle,hcap⟩,hF⟩
 · exact .e none 0 (by unfold maxLen;omega)
 · refine .sl b 0 cap sz rows (fun i j=>cs.getD (i*sz+j) undef) (.inr ((hF b).2 rfl)) hle hcap hrows.row (fun i j r d h1 h2 => ?_) (fun i j r d h1 h2 => ?_)
   · obtain ⟨u,hu,_⟩:=hrows.rep i j r d h1 h2
     have e:cs.getD (i*sz+j) undef=u:=by simp [List.getD,hu]
     rw [e]
     refine ⟨?_,hrows.one u (List.mem_of_getElem? hu)⟩
     rw [Nat.zero_add,ec hb,List.getElem?_append_left (List.getElem?_eq_some_iff.1 hu).1];exact hu
   · obtain ⟨u,hu,hr⟩:=hrows.rep i j r d h1 h2
     have e:cs.getD (i*sz+j) undef=u:=by simp [List.getD,hu]
     rw [e]
     exact hr.mono (fun _ _=>rfl) hS
end
theorem ab8{w:World}{S:bH}{fp:Nat→bH}{ps:List Per}{hp:List Res}(hst:St w S fp ps hp)(i:Nat){R:Res}(hi:hp[i]? = some R){p:Per}(h:∀ w S F,R.holds w S F→p.holds w (fun b=>S b∨F b)) :
   St w (fun b=>S b∨fp i b) (fun k=>if k=i then (fun _=>False) else fp k) (p::ps) (hp.set i emp):=by
 have hil:=(List.getElem?_eq_some_iff.1 hi).1
 have hr:=hst.res i _ hi
 have hst0:=hst.drop i
 have hS:∀ b,S b→(S b∨fp i b):=fun _ h=>.inl h
 refine ⟨fun p' hp' => ?_,fun j R hj=>R.mono (hst0.res j R hj) (fun _ _=>rfl) (fun _ _=>rfl) hS,fun j hj b hb => ?_,hst0.dj,fun b hb=>hb.elim (hst.slt b) (fun h=>(hst.lt i hil b h).1)⟩
 · rcases List.mem_cons.1 hp' with rfl | h2
   · exact h w S (fp i) hr
   · exact p'.mono (hst.per p' h2) (fun _ _=>rfl) hS
 · have hj':j<hp.length:=by simpa using hj
   by_cases hji:j=i
   · rw [if_pos hji] at hb;exact hb.elim
   · rw [if_neg hji] at hb
     exact ⟨(hst.lt j hj' b hb).1,fun h=>h.elim (hst.lt j hj' b hb).2 (hst.dj j i hj' hil hji b hb)⟩
section
variable {P:Program} {n:Fr} {env:Env} {ps:List Per} {hp:List Res} {c:Code} {Q:Exit→Sta→Prop}
theorem jX(i:Nat){R:Res}(p:Per)(hi:hp[i]? = some R)(h0:∀ w S F,R.holds w S F→p.holds w (fun b=>S b∨F b))(h:awp P n c Q ⟨env,p::ps,hp.set i emp⟩):awp P n c Q ⟨env,ps,hp⟩:=fun w S fp a hst he hn hd=>by
 have hil:=(List.getElem?_eq_some_iff.1 hi).1
 have h1:=ab8 hst i hi h0
 have htot:∀ b,tot (fun k=>if k=i then (fun _=>False) else fp k) (hp.set i emp).length b→tot fp hp.length b:=fun b ⟨j,hj,hb⟩=>by
   dsimp only at hb
   by_cases hji:j=i
   · rw [if_pos hji] at hb;exact hb.elim
   · rw [if_neg hji] at hb;exact ⟨j,by simpa using hj,hb⟩
 have hE:Evo w S (tot fp hp.length) w (fun b=>S b∨fp i b):=⟨rfl,rfl,rfl,Nat.le_refl _,Nat.le_refl _,fun _ _ _=>rfl,fun _ h=>.inl h,fun b hb=>hb.elim .inl fun h=>.inr (.inl ⟨i,hil,h⟩)⟩
 exact fF (fun e a2 w2 hp2=>hp2.trans hE (fun b hb=>.inl (htot b hb))) (h w _ _ a h1 he hn hd)
theorem bT(i:Nat){b:Nat}{T:TypeId}{cs:List Value}(hi:hp[i]? = some (Box b T cs))(h1:cs.all (·.oneCell')=true)(h:awp P n c Q ⟨env,At b 0 (cs.map D.v)::ps,hp.set i emp⟩):awp P n c Q ⟨env,ps,hp⟩ :=
 jX i (At b 0 (cs.map D.v)) hi (fun w S F ⟨hb,hF⟩=>⟨.inr ((hF b).2 rfl),fun j d hj=>by
   rw [List.getElem?_map] at hj
   cases hc:cs[j]? with
   | none=>rw [hc] at hj;cases hj
   | some u =>
     rw [hc] at hj
     simp only [Option.map_some,Option.some.injEq] at hj
     exact ⟨u,by rw [Nat.zero_add,ec hb];exact hc,List.all_eq_true.1 h1 u (List.mem_of_getElem? hc),by rw [← hj];exact .v u⟩⟩) h
end
section
variable {α:Type} [Inhabited α] {enc:α→Value}
def dy(vs:List Value):List (List D):=vs.map fun v=>[.v v]
@[simp] theorem lV (vs:List Value):(dy vs).length=vs.length:=by simp [dy]
def inner(E:TypeId)(enc:α→Value)(vs:List Value)(l:List (List α)):List Res:=List.zipWith (fun v x=>aN v E 1 (cD enc x)) vs l
def kz(vo:Value)(T E:TypeId)(enc:α→Value)(l:List (List α)):Res :=
 ⟨fun w S F=>∃ vs:List Value,vs.length=l.length∧(gm (aN vo T 1 (dy vs)) (fA (inner E enc vs l))).holds w S F,
  fun ⟨vs,h0,h⟩ h1 h2 h3=>⟨vs,h0,(gm (aN vo T 1 (dy vs)) (fA (inner E enc vs l))).mono h h1 h2 h3⟩⟩
omit [Inhabited α] in
theorem oK{E:TypeId}{vs:List Value}{l:List (List α)}{k:Nat}{v:Value}{x:List α}(hv:vs[k]? = some v)(hx:l[k]? = some x):(inner E enc vs l)[k]? = some (aN v E 1 (cD enc x)):=by
 unfold inner;rw [List.getElem?_zipWith,hv,hx]
omit [Inhabited α] in
theorem tn{E:TypeId}{v:Value}{x:List α} : ∀ (vs:List Value) (l:List (List α)) (k:Nat),inner E enc (vs.set k v) (l.set k x)=(inner E enc vs l).set k (aN v E 1 (cD enc x))
 | [],_,_=>by simp [inner]
 | _::_,[],_=>by simp [inner]
 | a::vs,b::l,0=>rfl
 | a::vs,b::l,k+1=>by
   have:=tn (E:=E) (v:=v) (x:=x) vs l k
   unfold inner at this ⊢
   simp only [List.set_cons_succ,List.zipWith_cons_cons,this]
variable {P:Program} {n:Fr} {env:Env} {ps:List Per} {hp:List Res} {c:Code} {Q:Exit→Sta→Prop} {vo:Value} {T E:TypeId} {l:List (List α)}
omit [Inhabited α] in
theorem jW(i k:Nat){x:List α}(hi:hp[i]? = some (kz vo T E enc l))(hk:l[k]? = some x)
   (h:∀ vs v,vs.length=l.length→vs[k]? = some v→awp P n c Q ⟨env,ps,(hp.set i (aN vo T 1 (dy vs))++[aN v E 1 (cD enc x)])++[fA ((inner E enc vs l).set k emp)]⟩):awp P n c Q ⟨env,ps,hp⟩:=by
 have hil:=(List.getElem?_eq_some_iff.1 hi).1
 refine sX (β := {p:List Value × Value // p.1.length=l.length∧p.1[k]? = some p.2}) i (fun p=>gm (aN vo T 1 (dy p.1.1)) (gm (aN p.1.2 E 1 (cD enc x)) (fA ((inner E enc p.1.1 l).set k emp)))) hi (fun w S F hh => ?_) fun ⟨⟨vs,v⟩,h1,h2⟩ => ?_
 · obtain ⟨vs,h0,hs⟩:=hh
   have hkl:=(List.getElem?_eq_some_iff.1 hk).1
   obtain ⟨v,hv⟩:∃ v,vs[k]? = some v:=⟨vs[k]'(by omega),by simp⟩
   exact ⟨⟨(vs,v),h0,hv⟩,gM hs fun F h=>mG _ k F (oK hv hk) h⟩
 · refine sY i (by rw [List.getElem?_set_self hil]) ?_
   rw [List.set_set]
   refine sY (hp.set i (aN vo T 1 (dy vs))).length (by rw [List.getElem?_append_right (Nat.le_refl _),Nat.sub_self];rfl) ?_
   rw [List.set_append_right _ _ (Nat.le_refl _),Nat.sub_self]
   exact h vs v h1 h2
omit [Inhabited α] in
theorem gR(i j m k:Nat){vs:List Value}{v:Value}{x:List α}(hi:hp[i]? = some (aN vo T 1 (dy (vs.set k v))))(hj:hp[j]? = some (aN v E 1 (cD enc x)))(hm:hp[m]? = some (fA ((inner E enc vs l).set k emp)))
   (hij:(i == j)=false) (him:(i == m)=false) (hjm:(j == m)=false) (hl:vs.length=l.length) (hk:k<l.length) (h:awp P n c Q ⟨env,ps,((hp.set j emp).set m emp).set i (kz vo T E enc (l.set k x))⟩):awp P n c Q ⟨env,ps,hp⟩:=by
 have hij':i≠j:=by simpa using hij
 have him':i≠m:=by simpa using him
 have hjm':j≠m:=by simpa using hjm
 have hil:=(List.getElem?_eq_some_iff.1 hi).1
 have hjl:=(List.getElem?_eq_some_iff.1 hj).1
 refine vz j m hj hm hjm ?_
 refine vz i j (R:=aN vo T 1 (dy (vs.set k v))) (R':=gm (aN v E 1 (cD enc x)) (fA ((inner E enc vs l).set k emp))) ?_ ?_ hij ?_
 · rw [List.getElem?_set_ne (Ne.symm him'),List.getElem?_set_ne (Ne.symm hij')];exact hi
 · rw [List.getElem?_set_ne (Ne.symm hjm'),List.getElem?_set_self hjl]
 refine eZ i (kz vo T E enc (l.set k x)) (R:=gm (aN vo T 1 (dy (vs.set k v))) (gm (aN v E 1 (cD enc x)) (fA ((inner E enc vs l).set k emp)))) ?_ (fun w S F hh => ?_) ?_
 · rw [List.getElem?_set_ne (Ne.symm hij'),List.getElem?_set_self (by simpa using hil)]
 · refine ⟨vs.set k v,by simp [hl],gM hh fun F h => ?_⟩
   rw [tn]
   exact tL _ k F (by unfold inner;simp;omega) h
 · have e:((((hp.set j (gm (aN v E 1 (cD enc x)) (fA ((inner E enc vs l).set k emp)))).set m emp).set i (gm (aN vo T 1 (dy (vs.set k v))) (gm (aN v E 1 (cD enc x)) (fA ((inner E enc vs l).set k emp))))).set j emp).set i (kz vo T E enc (l.set k x))=((hp.set j emp).set m emp).set i (kz vo T E enc (l.set k x)):=by
     apply List.ext_getElem?
     intro q
     simp only [List.getElem?_set,List.length_set]
     by_cases h1:i=q
     · simp [h1]
     · by_cases h2:j=q
       · subst h2;simp [h1,Ne.symm hjm',hjm']
       · by_cases h3:m=q
         · simp [h1,h2,h3]
         · simp [h1,h2,h3]
   rw [e];exact h
omit [Inhabited α] in
theorem oZ(i m:Nat)(hi:hp[i]? = some (aN vo T 1 (List.replicate m [.v (.slice none 0 0)])))(h:awp P n c Q ⟨env,ps,hp.set i (kz vo T E enc (List.replicate m ([]:List α)))⟩):awp P n c Q ⟨env,ps,hp⟩:=by
 refine eZ i (kz vo T E enc (List.replicate m ([]:List α))) hi (fun w S F hh=>⟨List.replicate m (.slice none 0 0),by simp,?_⟩) h
 have e:dy (List.replicate m (.slice none 0 0))=List.replicate m [.v (.slice none 0 0)]:=by simp [dy]
 rw [e]
 refine ⟨F,fun _=>False,hh,rV _ fun A hA => ?_,fun _ _ h=>h,fun b=>⟨.inl,fun h=>h.elim id False.elim⟩⟩
 unfold inner at hA
 rw [List.zipWith_replicate] at hA
 obtain ⟨_,rfl⟩:=List.mem_replicate.1 hA
 exact .inl ⟨rfl,rfl,fun _ h=>h⟩
end
def agT(D:Nat):Deferred := { target:=.collected D,args := #[] }
theorem Evo.putObj{w:World}{S X:bH}{l:Nat}{o:Obj}(hl:X l):Evo w S X (w.putObj l o) S where
 os:=rfl
 tape:=rfl
 output:=rfl
 size:=by rw [World.putObj_size];exact Nat.le_refl _
 drawn:=Nat.le_refl _
 block b _ hx:=World.putObj_heap_other (fun e=>hx (by rw [e];exact hl))
 more _ h:=h
 new _ h:=.inl h
theorem St.putObj{w:World}{S:bH}{fp:Nat→bH}{ps:List Per}{hp:List Res}(h:St w S fp ps hp){i l:Nat}(hi:i<hp.length)(hl:fp i l)(o:Obj)(R:Res)(hR:R.holds (w.putObj l o) S (fp i)):St (w.putObj l o) S fp ps (hp.set i R) :=
 h.change hi (by rw [World.putObj_size];exact Nat.le_refl _) (fun b _ hb=>World.putObj_heap_other (fun e=>hb (by rw [e];exact hl))) R hR

def ahP(P:Program)(l:Nat)(args:List Value)(ps:List Per)(hp:List Res)(R:Value→List Per→List Res→Prop):Prop :=
 ∀ (w:World) (S:bH) (fp:Nat→bH),St w S fp ps hp→gC P (fun v w'=>∃ ps' hp' S' fp',R v ps' hp'∧St w' S' fp' ps' hp'∧Evo w S (tot fp hp.length) w' S'∧∀ b,tot fp' hp'.length b→tot fp hp.length b∨w.heap.size≤b) ((Instr.yield l args.toArray).run P w)
section
variable {P:Program} {n:Fr} {env:Env} {ps:List Per} {hp:List Res} {ty:TypeId} {pos:String} {af:Array Edge} {gd:Option (Nat × Bool)} {K:Sta→Prop} {d:Option Tmp}
end
def zF(P:Program)(fn:Func)(R:Value→List Per→List Res→Prop)(w:World)(S X:bH)(e:Exit)(a':Act)(w':World):Prop :=
 (e=.normal∨e=.ret)∧∃ (v:Value) (ds:List Nat) (ps':List Per) (hp':List Res) (S':bH) (fp':Nat→bH),(∀ w2,(results fn a'.tmps).run P w2=.ok v w2)∧a'.defers=ds.map agT∧ds.Nodup∧R v ps' hp'∧St w' S' fp' ps' hp'∧Evo w S X w' S'∧(∀ b,tot fp' hp'.length b→X b∨w.heap.size≤b) ∧
   ∀ D∈ds,w'.heap[D]? = some (.deferred (some []))∧¬ S' D∧¬ tot fp' hp'.length D∧(X D∨w.heap.size≤D)
def fwp(P:Program)(fn:Func)(n:Fr)(c:Code)(R:Value→List Per→List Res→Prop)(s:Sta):Prop :=
 ∀ (w:World) (S:bH) (fp:Nat→bH) (a:Act),St w S fp s.ps s.hp→dD a s.env→a.tmps.size=n.size→a.defers=n.dfr→c.wpIn (fnc n.ro) 0 P (zF P fn R w S (tot fp s.hp.length)) a w
section
variable {P:Program} {fn:Func} {n:Fr} {R:Value→List Per→List Res→Prop} {s:Sta}
theorem zF.trans{w w1:World}{S X S1 X1:bH}(hE:Evo w S X w1 S1)(hX:∀ b,X1 b→X b∨w.heap.size≤b){e:Exit}{a:Act}{w2:World}(h:zF P fn R w1 S1 X1 e a w2):zF P fn R w S X e a w2:=by
 obtain ⟨he,v,ds,ps',hp',S',fp',h1,h2,h3,h4,h5,h6,h7,h8⟩:=h
 have hX':∀ b,X1 b∨w1.heap.size≤b→X b∨w.heap.size≤b:=fun b hb=>hb.elim (hX b) (fun h=>.inr (Nat.le_trans hE.size h))
 exact ⟨he,v,ds,ps',hp',S',fp',h1,h2,h3,h4,h5,hE.trans h6 hX,fun b hb=>hX' b (h7 b hb),fun D hD=>let ⟨a1,a2,a3,a4⟩:=h8 D hD; ⟨a1,a2,a3,hX' D a4⟩⟩
end
structure Sl (α:Type) where
 ad:Option Addr
 cap:Nat
 l:List α
instance {α:Type} : Inhabited (Sl α):=⟨⟨none,0,[]⟩⟩
abbrev Sl.val{α:Type}(s:Sl α):Value:=.slice s.ad s.l.length s.cap
abbrev ShF{α:Type}(row:α→List D)(s:Sl α):Per:=Sh (.slice s.ad s.l.length s.cap) (.sl (s.l.map row))
def b6{α:Type}(p:α→Per)(l:List α):Per:=⟨fun w S=>∀ x∈l,(p x).holds w S,fun h h1 h2 x hx=>(p x).mono (h x hx) h1 h2⟩
def cF(p q:Per):Per:=⟨fun w S=>p.holds w S∧q.holds w S,fun h h1 h2=>⟨p.mono h.1 h1 h2,q.mono h.2 h1 h2⟩⟩
section
variable {α:Type} {ps:List Per} {p q:Per}
theorem Ent.all{f:α→Per}{l:List α}{i:Nat}{x:α}(h:Ent ps (b6 f l))(hx:l[i]? = some x):Ent ps (f x):=fun w S hp=>h w S hp x (List.mem_of_getElem? hx)
theorem Ent.allm{f:α→Per}{l:List α}{x:α}(h:Ent ps (b6 f l))(hx:x∈l):Ent ps (f x):=fun w S hp=>h w S hp x hx
theorem Ent.left(h:Ent ps (cF p q)):Ent ps p:=fun w S hp=>(h w S hp).1
theorem Ent.right(h:Ent ps (cF p q)):Ent ps q:=fun w S hp=>(h w S hp).2
theorem aI{row:α→List D}{l:List α}{i:Nat}{x:α}(h:l[i]? = some x):(l.map row)[i]? = some (row x):=by rw [List.getElem?_map,h];rfl
end
theorem Con.quiet2{P:Program}{v:Value}{f:FuncId}{args:List Value}{p q:Per}(h:Con P f args [p,q] [] fun u _ _=>u=v){w:World}{S:bH}{fp:Nat→bH}{ps':List Per}{hp:List Res}(hp1:p∈ps')(hq1:q∈ps')(hst:St w S fp ps' hp) :
   Calls P f args.toArray w fun e w'=>e=.returned v∧Below w.heap.size w w':=h.quiet (fun _ h=>by
     rcases List.mem_cons.1 h with rfl | h
     · exact hp1
     · rw [List.mem_singleton.1 h];exact hq1) hst
theorem bS{P:Program}{n:Fr}{Q:Exit→Sta→Prop}{s:Sta}{c:Code}{ad:Option Addr}{m cp:Nat}{rows:List (List D)}(hs:Ent s.ps (Sh (.slice ad m cp) (.sl rows)))(h:m≤9223372036854775807→awp P n c Q s):awp P n c Q s :=
 kE (fun w S fp hst=>by
   have h:fv w S (.slice ad m cp) (.sl rows):=hs w S hst.per
   cases h with
   | e a c hc=>simp
   | sl b o c sz rows us hb hn hc _ _ _=>unfold maxLen at hc;omega) h
theorem acs{P:Program}{n:Fr}{Q:Exit→Sta→Prop}{s:Sta}{c:Code}{v:Value}{rows:List (List D)}(hs:Ent s.ps (Sh v (.sl rows)))(h:∀ ad k,v=.slice ad rows.length k→awp P n c Q s):awp P n c Q s :=
 kE (φ:=∃ ad k,v=.slice ad rows.length k) (fun w S fp hst=>by
   have h:fv w S v (.sl rows):=hs w S hst.per
   cases h with
   | e a c hc=>exact ⟨_,_,rfl⟩
   | sl b o c sz rows us hb hn hc _ _ _=>exact ⟨_,_,rfl⟩) (fun ⟨ad,k,e⟩=>h ad k e)
theorem sU{P:Program}{n:Fr}{Q:Exit→Sta→Prop}{env:Env}{ps:List Per}{hp hp':List Res}{c:Code}(h:hp=hp')(k:awp P n c Q ⟨env,ps,hp'⟩):awp P n c Q ⟨env,ps,hp⟩:=h ▸ k
def elt{α:Type}[Inhabited α](l:List α)(i:Int):α:=l.getD i.toNat default
theorem kO{α:Type}[Inhabited α]{l:List α}{i:Int}(h:i<l.length)(h0:0≤i):l[i.toNat]? = some (elt l i):=by
 have:i.toNat<l.length:=by omega
 simp [elt,List.getD,this]
theorem dU{α:Type}[Inhabited α]{l:List α}{i:Nat}(h:i<l.length):l[i]? = some (elt l (i:Int)):=by simp [elt,List.getD,h]
theorem fJ{α:Type}[Inhabited α]{row:α→List D}{l:List α}{i:Int}(h:i<l.length)(h0:0≤i):(l.map row)[i.toNat]? = some (row (elt l i)):=aI (kO h h0)
theorem Ent.mk2{ps:List Per}{p q:Per}(h1:Ent ps p)(h2:Ent ps q):Ent ps (cF p q):=fun w S hp=>⟨h1 w S hp,h2 w S hp⟩
def Bun(l:List Res):Res :=
 ⟨fun w S F=>∃ fp:Nat→bH,(∀ (i:Nat) (R:Res),l[i]? = some R→R.holds w S (fp i))∧(∀ i j,i<l.length→j<l.length→i≠j→∀ b,fp i b→¬ fp j b)∧∀ b,F b↔tot fp l.length b,
  fun ⟨fp,h1,h2,h3⟩ k1 k2 k3=>⟨fp,fun i R hR=>R.mono (h1 i R hR) (fun b hb=>k1 b ((h3 b).2 ⟨i,(List.getElem?_eq_some_iff.1 hR).1,hb⟩)) k2 k3,h2,h3⟩⟩
section
variable {w:World} {S:bH} {fp:Nat→bH} {ps:List Per} {l:List Res}
theorem St.bun(h:St w S fp ps l):St w S (fun _=>tot fp l.length) ps [Bun l] where
 per:=h.per
 res i R hR:=by
   cases i with
   | zero=>simp only [List.getElem?_cons_zero,Option.some.injEq] at hR;subst hR;exact ⟨fp,h.res,h.dj,fun _=>Iff.rfl⟩
   | succ i=>simp at hR
 lt i hi b hb:=let ⟨j,hj,hjb⟩:=hb;h.lt j hj b hjb
 dj i j hi hj hne:=by simp only [List.length_singleton] at hi hj;omega
 slt:=h.slt
theorem St.unbun(h:St w S fp ps [Bun l]):∃ fp',St w S fp' ps l∧∀ b,tot fp' l.length b→tot fp [Bun l].length b:=by
 obtain ⟨fp',h1,h2,h3⟩:=h.res 0 _ rfl
 have hin:∀ b,tot fp' l.length b→fp 0 b:=fun b hb=>(h3 b).2 hb
 exact ⟨fp',⟨h.per,h1,fun i hi b hb=>h.lt 0 (by simp) b (hin b ⟨i,hi,hb⟩),h2,h.slt⟩,fun b hb=>⟨0,by simp,hin b hb⟩⟩
theorem u9(F:bH)(b:Nat)(R:Res):tot (fun _=>F) [R].length b↔F b:=⟨fun ⟨_,_,h⟩=>h,fun h=>⟨0,by simp,h⟩⟩
variable {P:Program} {R:Value→List Per→List Res→Prop}
theorem aeC{f:FuncId}{args:List Value}(h:Con P f args ps [Bun l] fun v ps' hp'=>∃ l',hp'=[Bun l']∧R v ps' l'):Con P f args ps l R:=fun w S fp hst =>
 (h w S _ hst.bun).mono fun e w' ⟨v,ps',hp',S',fp',he,⟨l',hl,hR⟩,hst',hE,hg⟩=>by
   subst hl
   obtain ⟨fp2,k1,k2⟩:=hst'.unbun
   exact ⟨v,ps',l',S',fp2,he,hR,k1,hE.wider (fun b hb=>(u9 _ b (Bun l)).1 hb),fun b hb=>(hg b (k2 b hb)).imp (fun h=>(u9 _ b (Bun l)).1 h) id⟩
theorem Con.post{f:FuncId}{args:List Value}{R':Value→List Per→List Res→Prop}(h:Con P f args ps l R)(hr:∀ v ps' hp',R v ps' hp'→R' v ps' hp'):Con P f args ps l R':=fun w S fp hst =>
 (h w S fp hst).mono fun e w' ⟨v,ps',hp',S',fp',he,hR,h⟩=>⟨v,ps',hp',S',fp',he,hr _ _ _ hR,h⟩
theorem Con.pre{f:FuncId}{args:List Value}{ps0:List Per}(h:Con P f args ps l R)(hr:∀ p∈ps,Ent ps0 p):Con P f args ps0 l R:=fun w S fp hst =>
 h w S fp ⟨fun p hp=>hr p hp w S hst.per,hst.res,hst.lt,hst.dj,hst.slt⟩
end
section
variable {P:Program} {n:Fr} {ops:Array Oper} {Q:Exit→Sta→Prop} {s:Sta} {o:Oper}
end
def ek(s:ByteArray):Per:=Fa (s.size≤maxLen)
theorem ek.of{w:World}{S:bH}{s:ByteArray}(h:s.size≤maxLen):(ek s).holds w S:=h
section
variable {P:Program} {n:Fr} {env:Env} {ps:List Per} {hp:List Res} {c:Code} {Q:Exit→Sta→Prop}
theorem afL{φ:Prop}(h:Ent ps (Fa φ))(k:φ→awp P n c Q ⟨env,ps,hp⟩):awp P n c Q ⟨env,ps,hp⟩:=fun w S fp a hst he hn hd=>k (h w S hst.per) w S fp a hst he hn hd
theorem fC{s:ByteArray}(h:Ent ps (ek s))(k:s.size≤maxLen→awp P n c Q ⟨env,ps,hp⟩):awp P n c Q ⟨env,ps,hp⟩:=afL h k
end
end Go.Sy

namespace Go.Proofs.YtebnelfdimiifaaGreatDoor
open Go.RowKit Go.Lp Go.Sy
structure aF where
 name:ByteArray
 parents:Sl ByteArray
 deriving Inhabited
abbrev aF.row(x:aF):List D:=[.v (.string x.name),.v (.slice x.parents.ad x.parents.l.length x.parents.cap)]
abbrev aF.vs(x:aF):List Value:=[.string x.name,.slice x.parents.ad x.parents.l.length x.parents.cap]
abbrev aF.val(x:aF):Value:=.agg #[.string x.name,.slice x.parents.ad x.parents.l.length x.parents.cap]
def aF.ok(x:aF):Per:=cF (ek x.name) (cF (ShF (fun s=>[.v (.string s)]) x.parents) (b6 (fun y=>ek y) x.parents.l))
theorem aF.f_name{ps:List Per}{x:aF}(h:Ent ps x.ok):Ent ps (ek x.name):=(Ent.left h)
theorem aF.f_parents{ps:List Per}{x:aF}(h:Ent ps x.ok):Ent ps (ShF (fun s=>[.v (.string s)]) x.parents):=(Ent.left (Ent.right h))
structure dH where
 sec:Int
 at_:Int
 file:ByteArray
 line:Int
 deriving Inhabited
abbrev dH.row(x:dH):List D:=[.v (.int .i64 x.sec),.v (.int .i64 x.at_),.v (.string x.file),.v (.int .i64 x.line)]
abbrev dH.vs(x:dH):List Value:=[.int .i64 x.sec,.int .i64 x.at_,.string x.file,.int .i64 x.line]
abbrev dH.val(x:dH):Value:=.agg #[.int .i64 x.sec,.int .i64 x.at_,.string x.file,.int .i64 x.line]
def dH.ok(x:dH):Per:=ek x.file
structure ca where
 sec:Int
 from_:Int
 to_:Int
 name:ByteArray
 file:ByteArray
 line:Int
 deriving Inhabited
abbrev ca.row(x:ca):List D:=[.v (.int .i64 x.sec),.v (.int .i64 x.from_),.v (.int .i64 x.to_),.v (.string x.name),.v (.string x.file),.v (.int .i64 x.line)]
abbrev ca.vs(x:ca):List Value:=[.int .i64 x.sec,.int .i64 x.from_,.int .i64 x.to_,.string x.name,.string x.file,.int .i64 x.line]
abbrev ca.val(x:ca):Value:=.agg #[.int .i64 x.sec,.int .i64 x.from_,.int .i64 x.to_,.string x.name,.string x.file,.int .i64 x.line]
def ca.ok(x:ca):Per:=cF (ek x.name) (ek x.file)
structure eE where
 sec:Int
 from_:Int
 to_:Int
 name:ByteArray
 where_:Int
 n:Int
 deriving Inhabited
abbrev eE.row(x:eE):List D:=[.v (.int .i64 x.sec),.v (.int .i64 x.from_),.v (.int .i64 x.to_),.v (.string x.name),.v (.int .i64 x.where_),.v (.int .i64 x.n)]
abbrev eE.vs(x:eE):List Value:=[.int .i64 x.sec,.int .i64 x.from_,.int .i64 x.to_,.string x.name,.int .i64 x.where_,.int .i64 x.n]
abbrev eE.val(x:eE):Value:=.agg #[.int .i64 x.sec,.int .i64 x.from_,.int .i64 x.to_,.string x.name,.int .i64 x.where_,.int .i64 x.n]
def eE.ok(x:eE):Per:=ek x.name
structure cG where
 sec:Int
 from_:Int
 to_:Int
 bytes:Int
 deriving Inhabited
abbrev cG.row(x:cG):List D:=[.v (.int .i64 x.sec),.v (.int .i64 x.from_),.v (.int .i64 x.to_),.v (.int .i64 x.bytes)]
abbrev cG.vs(x:cG):List Value:=[.int .i64 x.sec,.int .i64 x.from_,.int .i64 x.to_,.int .i64 x.bytes]
abbrev cG.val(x:cG):Value:=.agg #[.int .i64 x.sec,.int .i64 x.from_,.int .i64 x.to_,.int .i64 x.bytes]
structure dJ where
 from_:Int
 size:Int
 to_:Int
 deriving Inhabited
abbrev dJ.row(x:dJ):List D:=[.v (.int .i64 x.from_),.v (.int .i64 x.size),.v (.int .i64 x.to_)]
abbrev dJ.vs(x:dJ):List Value:=[.int .i64 x.from_,.int .i64 x.size,.int .i64 x.to_]
abbrev dJ.val(x:dJ):Value:=.agg #[.int .i64 x.from_,.int .i64 x.size,.int .i64 x.to_]
structure dm where
 from_:Int
 to_:Int
 deriving Inhabited
abbrev dm.row(x:dm):List D:=[.v (.int .i64 x.from_),.v (.int .i64 x.to_)]
abbrev dm.val(x:dm):Value:=.agg #[.int .i64 x.from_,.int .i64 x.to_]
def I64(n:Int):Prop := -9223372036854775808≤n∧n≤9223372036854775807
theorem tk3:tyk Tryz.prog 3=some (false,1):=by kernel_rfl
theorem tk4:tyk Tryz.prog 4=some (false,1):=by kernel_rfl
theorem tk5:tyk Tryz.prog 5=some (false,1):=by kernel_rfl
theorem tk9:tyk Tryz.prog 9=some (false,1):=by kernel_rfl
theorem tk22:tyk Tryz.prog 22=some (false,1):=by kernel_rfl
theorem tk23:tyk Tryz.prog 23=some (false,1):=by kernel_rfl
theorem tk24:tyk Tryz.prog 24=some (false,1):=by kernel_rfl
theorem tk25:tyk Tryz.prog 25=some (false,1):=by kernel_rfl
theorem tk26:tyk Tryz.prog 26=some (false,1):=by kernel_rfl
theorem tk27:tyk Tryz.prog 27=some (false,1):=by kernel_rfl
theorem tk28:tyk Tryz.prog 28=some (false,1):=by kernel_rfl
theorem tk29:tyk Tryz.prog 29=some (false,1):=by kernel_rfl
theorem tk30:tyk Tryz.prog 30=some (false,1):=by kernel_rfl
theorem tk31:tyk Tryz.prog 31=some (false,1):=by kernel_rfl
theorem tk32:tyk Tryz.prog 32=some (false,1):=by kernel_rfl
theorem tk33:tyk Tryz.prog 33=some (false,1):=by kernel_rfl
theorem tk34:tyk Tryz.prog 34=some (false,1):=by kernel_rfl
theorem tk36:tyk Tryz.prog 36=some (true,6):=by kernel_rfl
theorem tk37:tyk Tryz.prog 37=some (false,1):=by kernel_rfl
theorem tk39:tyk Tryz.prog 39=some (true,26):=by kernel_rfl
theorem tk52:tyk Tryz.prog 52=some (true,3):=by kernel_rfl
theorem tk55:tyk Tryz.prog 55=some (true,2):=by kernel_rfl
theorem tk56:tyk Tryz.prog 56=some (false,1):=by kernel_rfl
theorem tk58:tyk Tryz.prog 58=some (true,5):=by kernel_rfl
theorem tk59:tyk Tryz.prog 59=some (false,1):=by kernel_rfl
theorem tk60:tyk Tryz.prog 60=some (false,1):=by kernel_rfl
theorem tk63:tyk Tryz.prog 63=some (false,1):=by kernel_rfl
theorem tk65:tyk Tryz.prog 65=some (true,3):=by kernel_rfl
theorem tk71:tyk Tryz.prog 71=some (true,7):=by kernel_rfl
theorem tk73:tyk Tryz.prog 73=some (true,5):=by kernel_rfl
theorem tk75:tyk Tryz.prog 75=some (true,4):=by kernel_rfl
theorem tk77:tyk Tryz.prog 77=some (true,6):=by kernel_rfl
theorem tk89:tyk Tryz.prog 89=some (false,1):=by kernel_rfl
theorem tk90:tyk Tryz.prog 90=some (false,1):=by kernel_rfl
theorem tk93:tyk Tryz.prog 93=some (false,1):=by kernel_rfl
theorem tk129:tyk Tryz.prog 129=some (true,3):=by kernel_rfl
theorem tk135:tyk Tryz.prog 135=some (false,1):=by kernel_rfl
theorem tk156:tyk Tryz.prog 156=some (false,1):=by kernel_rfl
theorem tk157:tyk Tryz.prog 157=some (true,2):=by kernel_rfl
theorem tk159:tyk Tryz.prog 159=some (true,2):=by kernel_rfl
theorem tk162:tyk Tryz.prog 162=some (false,1):=by kernel_rfl
theorem tk167:tyk Tryz.prog 167=some (false,1):=by kernel_rfl
theorem tk176:tyk Tryz.prog 176=some (true,4):=by kernel_rfl
theorem tk180:tyk Tryz.prog 180=some (true,4):=by kernel_rfl
theorem tk186:tyk Tryz.prog 186=some (true,6):=by kernel_rfl
theorem tk192:tyk Tryz.prog 192=some (true,6):=by kernel_rfl
theorem tk198:tyk Tryz.prog 198=some (true,4):=by kernel_rfl
theorem tk242:tyk Tryz.prog 242=some (true,2):=by kernel_rfl
theorem tk253:tyk Tryz.prog 253=some (true,2):=by kernel_rfl
theorem tk264:tyk Tryz.prog 264=some (true,24):=by kernel_rfl
theorem tk273:tyk Tryz.prog 273=some (false,1):=by kernel_rfl
theorem tk290:tyk Tryz.prog 290=some (true,6):=by kernel_rfl
theorem tk293:tyk Tryz.prog 293=some (false,1):=by kernel_rfl
theorem tk306:tyk Tryz.prog 306=some (false,1):=by kernel_rfl
theorem tk308:tyk Tryz.prog 308=some (true,2):=by kernel_rfl
theorem el22:elB Tryz.prog 22 71 7=true:=by kernel_rfl
theorem el23:elB Tryz.prog 23 77 6=true:=by kernel_rfl
theorem el24:elB Tryz.prog 24 73 5=true:=by kernel_rfl
theorem el25:elB Tryz.prog 25 3 1=true:=by kernel_rfl
theorem el26:elB Tryz.prog 26 75 4=true:=by kernel_rfl
theorem el27:elB Tryz.prog 27 9 1=true:=by kernel_rfl
theorem el28:elB Tryz.prog 28 55 2=true:=by kernel_rfl
theorem el29:elB Tryz.prog 29 176 4=true:=by kernel_rfl
theorem el30:elB Tryz.prog 30 180 4=true:=by kernel_rfl
theorem el31:elB Tryz.prog 31 159 2=true:=by kernel_rfl
theorem el32:elB Tryz.prog 32 186 6=true:=by kernel_rfl
theorem el33:elB Tryz.prog 33 192 6=true:=by kernel_rfl
theorem el34:elB Tryz.prog 34 198 4=true:=by kernel_rfl
theorem el37:elB Tryz.prog 37 58 5=true:=by kernel_rfl
theorem el45:elB Tryz.prog 45 39 26=true:=by kernel_rfl
theorem el56:elB Tryz.prog 56 129 3=true:=by kernel_rfl
theorem el60:elB Tryz.prog 60 5 1=true:=by kernel_rfl
theorem el139:elB Tryz.prog 139 135 1=true:=by kernel_rfl
theorem el214:elB Tryz.prog 214 90 1=true:=by kernel_rfl
theorem el215:elB Tryz.prog 215 93 1=true:=by kernel_rfl
theorem el251:elB Tryz.prog 251 253 2=true:=by kernel_rfl
theorem el273:elB Tryz.prog 273 25 1=true:=by kernel_rfl
theorem el310:elB Tryz.prog 310 308 2=true:=by kernel_rfl
end Go.Proofs.YtebnelfdimiifaaGreatDoor

namespace Go.Sy
theorem jk{P:Program}{n:Fr}{s:Sta}{d:Option Tmp}{ty:TypeId}{pos:String}{af:Array Edge}{gd:Option (Nat × Bool)}{v:Value}{f:FuncId}{g:Operand}{caps:List Value}(hf:dP P f=true){l:List Operand}{ts:Array TypeId}{vs:List Value}(hg:ev s.env g=some (true,.func (.func f) #[] caps.toArray))(hx:evs s.env l=some vs)
   (hc:∀ w S fp,St w S fp s.ps s.hp→Calls P f (vs++caps).toArray w fun e w'=>e=.returned v∧Go.Sy.Below w.heap.size w w') :
   Quiet P n ⟨d,.call ⟨.value g,l.toArray,ts⟩,ty,pos,af,gd⟩ s v:=fun w S fp a hst he hn=>by
 rw [oG hf (he.val hg rfl) (gV he l vs hx)]
 have:=hc w S fp hst
 rw [show (vs++caps).toArray=vs.toArray++caps.toArray by simp] at this
 exact this.mono fun e w' ⟨h1,h2⟩=>⟨v,h1,rfl,h2⟩
open RowKit in
theorem Con.quiet3{P:Program}{v:Value}{f:FuncId}{args:List Value}{p q t:Per}(h:Con P f args [p,q,t] [] fun u _ _=>u=v){w:World}{S:bH}{fp:Nat→bH}{ps':List Per}{hp:List Res}(hp1:p∈ps')(hq1:q∈ps')(ht1:t∈ps')(hst:St w S fp ps' hp) :
   Calls P f args.toArray w fun e w'=>e=.returned v∧Go.Sy.Below w.heap.size w w':=h.quiet (fun _ h=>by
     simp only [List.mem_cons,List.not_mem_nil,or_false] at h
     rcases h with rfl | rfl | rfl
     · exact hp1
     · exact hq1
     · exact ht1) hst
end Go.Sy
namespace Go.Proofs.YtebnelfdimiifaaGreatDoor
open Go.RowKit Go.Lp Go.Sy
def aaf(n v:Int):Bool:=decide (v≥0) && decide (v<n)
def mc(n:Int)(a:dm):Bool := !aaf n a.from_ || !aaf n a.to_
def zh(n:Int)(l:List dm):Bool:=(decide (n≥0) && decide (n≤262144)) && !l.any (mc n)
open Go.Proofs.Tryz
attribute [local irreducible] aL aB awp aC fwp Quiet
theorem tk78:tyk Tryz.prog 78=some (false,1):=by kernel_rfl
theorem wj(n v:Int)(bn:Nat):Con Tryz.prog 198 [.int .i64 v,.pointer (some ⟨bn,0,none⟩)] [At bn 0 [.v (.int .i64 n)]] [] fun r _ _=>r=.bool (aaf n v):=by
 refine Con.enter Tryz.func198 rfl (by simp [Tryz.ntmps198]) ?_
 show awp _ _ _ _ ⟨[(0,true,_),(1,true,_)],_,_⟩
 refine aSR (aA rfl (aNn (aSR (aM rfl (aU rfl (fH rfl rfl) (aM rfl (aG rfl rfl (fun hc=>aT rfl) (aG rfl rfl (fun hc=>bk (o:=0) tk3 rfl (.of (aH 0 rfl)) rfl) (aG rfl rfl (fun hc=>bC (ae rfl hc) (ae rfl hc)) (aU rfl (bB rfl rfl (fun h=>gt rfl h)) (aA rfl (aNn (az ?_)))))))))))))
 refine nf [] [] rfl Tryz.results198 rfl ?_ (.inr rfl)
 rfl
abbrev aag(bn:Nat):Value:=.func (.func 198) #[] #[.pointer (some ⟨bn,0,none⟩)]
theorem xX(n:Int)(a:dm)(bn b5:Nat):Con Tryz.prog 200 [a.val,.pointer (some ⟨b5,0,none⟩)] [At b5 0 [.v (aag bn)],At bn 0 [.v (.int .i64 n)]] [] fun r _ _=>r=.bool (mc n a):=by
 refine Con.enter Tryz.func200 rfl (by simp [Tryz.ntmps200]) ?_
 show awp _ _ _ _ ⟨[(0,true,_),(1,true,_)],_,_⟩
 refine aSR ?_
 refine aW (q:=true) rfl (cx rfl rfl rfl (fun b0_0 => ?_))
 refine aHN ?_
 refine aA rfl (aNn (aSR (aU rfl (bk (o:=0) tk78 rfl (.of (aH 0 rfl)) rfl) ?_)))
 refine aU rfl (qFA (off:=0) rfl) ?_
 refine aU rfl (bj 0 tk3 rfl rfl rfl) ?_
 refine aU rfl (jk (by kernel_rfl) rfl rfl (fun w S fp hst=>(wj n _ bn).quiet1 (aH 1 rfl) hst)) ?_
 refine aU rfl (dO rfl) (aM rfl (aG rfl rfl (fun hc=>bk (o:=0) tk78 rfl (.of (aH 0 rfl)) rfl) ?_))
 refine aG rfl rfl (fun hc=>qFA (off:=1) rfl) ?_
 refine aG rfl rfl (fun hc=>bj 0 tk3 (ae rfl hc) rfl rfl) ?_
 refine aG rfl rfl (fun hc=>jk (by kernel_rfl) (ae rfl hc) (aK (ae rfl hc) rfl) (fun w S fp hst=>(wj n _ bn).quiet1 (aH 1 rfl) hst)) ?_
 refine aG rfl rfl (fun hc=>dO (ae rfl hc)) (aU rfl (dp rfl rfl (fun h=>gf rfl h)) (aA rfl (aNn (az ?_))))
 refine nf [] [] rfl Tryz.results200 rfl ?_ (.inr rfl)
 rfl
theorem sB(n:Int)(l:Sl dm)(bn b5:Nat):Con Tryz.prog 215 [l.val,.func (.func 200) #[] #[.pointer (some ⟨b5,0,none⟩)]] [ShF dm.row l,At b5 0 [.v (aag bn)],At bn 0 [.v (.int .i64 n)]] []
   fun r ps hp=>(ps=[]∧hp=[])∧∃ z:Int,r=.int .i64 z∧decide (z≥0)=l.l.any (mc n):=by
 refine Con.enter Tryz.func215 rfl (by simp [Tryz.ntmps215]) ?_
 show awp _ _ _ _ ⟨[(0,true,_),(1,true,_)],_,_⟩
 refine bS (.of (aH 0 rfl)) (fun hlen => ?_)
 refine aSR (aA rfl (aNs (aSR ?_)))
 refine aM rfl (aU rfl (aX Tryz.underlying251 rfl) (aM rfl (aNn (aq (aP [0,1,7,8] [2,1,0] [] (fun (k:Nat) s=>(k≤l.l.length∧(l.l.take k).any (mc n)=false)∧s=⟨[(0,true,l.val),(1,true,.func (.func 200) #[] #[.pointer (some ⟨b5,0,none⟩)]),(7,true,.int .i64 l.l.length),(8,true,.int .i64 k)],[ShF dm.row l,At b5 0 [.v (aag bn)],At bn 0 [.v (.int .i64 n)]],[]⟩) (fun k=>l.l.length-k) rfl (⟨0,⟨Nat.zero_le _,rfl⟩,rfl⟩) ?_)))))
 rintro k s ⟨⟨hk,hno⟩,rfl⟩
 refine aSR (aU rfl (bC rfl rfl) (aNs ?_))
 refine ao _ rfl (fun h1 => ?_) (fun h1 => ?_)
 ·skip
  have hk':k<l.l.length:=by simpa using h1
  obtain ⟨a,ha⟩:∃ a,l.l[k]? = some a:=⟨l.l[k]'hk',by simp⟩
  refine ax (an (ai (aq (aSR (aM rfl (aA rfl (aNn (aSR (aM rfl (aM rfl (aM rfl ?_)))))))))))
  refine jo true rfl rfl (fun _=>bI Tryz.underlying251 tk253 rfl ((.of (aH 0 rfl))) rfl (aI ha) rfl rfl) (fun h=>absurd h (by decide)) (fun ⟨b4_3,o4_3⟩ => ?_)
  refine aU rfl (gz (o:=0) tk253 rfl (aH 0 rfl) rfl rfl) ?_
  refine aU rfl (jk (by kernel_rfl) rfl rfl (fun w S fp hst=>(xX n a bn b5).quiet2 (aH 2 rfl) (aH 3 rfl) hst)) ?_
  refine aNn ?_
  refine ao _ rfl (fun h2 => ?_) (fun h2 => ?_)
  ·skip
   refine aSR (aM rfl (aA rfl (aNn (az (cH (bw (bw (cH (bw ?_)))))))))
   refine nf [] [] rfl Tryz.results215 rfl ?_ (.inr rfl)
   refine ⟨⟨rfl,rfl⟩,_,rfl,?_⟩
   rw [List.any_eq_true.2 ⟨a,List.mem_of_getElem? ha,h2⟩];simp
  ·skip
   refine ax (bu (an (aa ?_)))
   refine aU rfl (aV rfl rfl (by omega)) ?_
   refine aM rfl (aNn ?_)
   refine ⟨[0,1,7,8],[2,1,0],[],rfl,?_⟩
   refine ⟨k+1,⟨⟨by omega,?_⟩,rfl⟩,by omega⟩
   rw [List.take_add_one,ha,List.any_append,hno];simpa using h2
 ·skip
  refine aR (aS (aS (aY (an (aSR (aA rfl (aNn (az ?_))))))))
  refine nf [] [] rfl Tryz.results215 rfl ?_ (.inr rfl)
  refine ⟨⟨rfl,rfl⟩,_,rfl,?_⟩
  rw [List.take_of_length_le (by simpa using h1)] at hno
  rw [hno];rfl
theorem uy(n:Int)(l:Sl dm)(bn b5:Nat):Con Tryz.prog 199 [l.val,.func (.func 200) #[] #[.pointer (some ⟨b5,0,none⟩)]] [ShF dm.row l,At b5 0 [.v (aag bn)],At bn 0 [.v (.int .i64 n)]] []
   fun r _ _=>r=.bool (l.l.any (mc n)):=by
 refine Con.enter Tryz.func199 rfl (by simp [Tryz.ntmps199]) ?_
 show awp _ _ _ _ ⟨[(0,true,_),(1,true,_)],_,_⟩
 refine aSR (aA rfl (aNn (aSR (aM rfl (aM rfl ?_)))))
 refine aW (q:=true) rfl (yE [2,1,0] [] (by kernel_rfl) rfl rfl rfl rfl (sB n l bn b5) ?_)
 rintro _ _ _ ⟨⟨rfl,rfl⟩,z,rfl,hz⟩
 refine aST ?_
 refine aU rfl (fH rfl rfl) (aA rfl (aNn (az ?_)))
 refine nf [] [] rfl Tryz.results199 rfl ?_ (.inr rfl)
 rw [hz]
theorem tf(n:Int)(l:Sl dm):Con Tryz.prog 179 [.int .i64 n,l.val] [ShF dm.row l] [] fun r _ _=>r=.bool (zh n l.l):=by
 refine Con.enter Tryz.func179 rfl (by simp [Tryz.ntmps179]) ?_
 show awp _ _ _ _ ⟨[(0,true,_),(1,true,_)],_,_⟩
 refine aSR ?_
 refine aW (q:=true) rfl (cx rfl rfl rfl (fun b0_0 => ?_))
 refine aHN ?_
 refine aA rfl (aNs (bT 0 rfl rfl ?_))
 show awp _ _ _ _ ⟨_,At _ 0 _::_,_⟩
 refine aa (aU rfl (cq (l:=[.tmp 2]) rfl) ?_)
 refine aW (q:=true) rfl (bJ (zs:=[.nilFunc]) (by kernel_rfl) rfl (fun b1_1 => ?_))
 refine aHN ?_
 refine aW rfl (ba 1 tk78 rfl rfl rfl rfl ?_)
 refine aHK ?_
 refine aNs (bT 1 rfl rfl ?_)
 show awp _ _ _ _ ⟨_,At _ 0 _::_,_⟩
 refine aa (aU rfl (bk (o:=0) tk3 rfl (.of (aH 1 rfl)) rfl) (aU rfl (fH rfl rfl) (aM rfl (aG rfl rfl (fun hc=>bk (o:=0) tk3 rfl (.of (aH 1 rfl)) rfl) (aG rfl rfl (fun hc=>eY (ae rfl hc) rfl) (aU rfl (bB rfl rfl (fun h=>gt rfl h)) (aM rfl (aG rfl rfl (fun hc=>aT rfl) (aG rfl rfl (fun hc=>cq (l:=[.tmp 5]) rfl) ?_)))))))))
 refine aG rfl rfl (fun hc=>fb (by kernel_rfl) (aK (ae rfl hc) (aK (ae rfl hc) rfl)) (fun w S fp hst=>(uy n l b0_0 b1_1).quiet3 (aH 2 rfl) (aH 0 rfl) (aH 1 rfl) hst)) ?_
 refine aG rfl rfl (fun hc=>dO (ae rfl hc)) (aU rfl (bB rfl rfl (fun h=>gt rfl h)) (aA rfl (aNn (az ?_))))
 refine nf [] [] rfl Tryz.results179 rfl ?_ (.inr rfl)
 rfl
end Go.Proofs.YtebnelfdimiifaaGreatDoor

namespace Go.Sy
open Go.RowKit Go.Lp
def YN{β:Type}(v:β→Value)(Φ:β→Prop):Value→List Per→List Res→Prop:=fun r ps hp=>(ps=[]∧hp=[])∧∃ b,r=v b∧Φ b
section
variable {P:Program} {n:Fr} {ops:Array Oper} {Q:Exit→Sta→Prop} {env:Env} {ps:List Per} {hp:List Res} {ty:TypeId} {pos:String} {af:Array Edge} {gd:Option (Nat × Bool)} {rest:List Oper} {β:Type} {v:β→Value} {Φ:β→Prop}
theorem fB{t:Nat}{f:FuncId}{g:Operand}{caps:List Value}{l:List Operand}{ts:Array TypeId}{vs:List Value}(lp:List Nat)(b0:β)(hf:dP P f=true)(c:Bool)(hc:guardOf ops env ⟨some t,.call ⟨.value g,l.toArray,ts⟩,ty,pos,af,gd⟩=some c)(ht:fits n.size (some t)=true)
   (hgv:c=true→ev env g=some (true,.func (.func f) #[] caps.toArray)) (hx:c=true→evs env l=some vs) (hcon:c=true→Con P f (vs++caps) (fG ps lp) [] (YN v Φ))
   (h:∀ b,(c=true→Φ b)→aL P n ops Q rest ⟨(t,c,v b)::env,ps,hp⟩):aL P n ops Q (⟨some t,.call ⟨.value g,l.toArray,ts⟩,ty,pos,af,gd⟩::rest) ⟨env,ps,hp⟩:=by
 cases c with
 | true =>
   refine aW (q:=true) hc (fN lp [] hf (hgv rfl) (hx rfl) ht rfl rfl (hcon rfl) ?_)
   rintro _ _ _ ⟨⟨rfl,rfl⟩,b,rfl,hb⟩
   refine iN ?_ (h b fun _=>hb)
   apply List.ext_getElem?;intro i;rw [iX]
   by_cases hi:i<hp.length
   · rw [if_pos hi];rfl
   · rw [if_neg hi,List.getElem?_eq_none (by simp),List.getElem?_eq_none (by omega)]
 | false=>exact kB (v:=v b0) false hc ht (fun h=>by cases h) (h b0 fun h=>by cases h)
theorem p8{V:List Nat}{k:Nat}{L:Array Bool}{t:Nat}{f:FuncId}{g:Operand}{caps:List Value}{l:List Operand}{ts:Array TypeId}{vs:List Value}(i:Nat)(hi:ops[i]? = some ⟨some t,.call ⟨.value g,l.toArray,ts⟩,ty,pos,af,gd⟩)(hr:Region.ready .any ops L=[i])(lp:List Nat)(b0:β)(hf:dP P f=true)(c:Bool)(hc:guardOf ops env ⟨some t,.call ⟨.value g,l.toArray,ts⟩,ty,pos,af,gd⟩=some c)(ht:fits n.size (some t)=true)
   (hgv:c=true→ev env g=some (true,.func (.func f) #[] caps.toArray)) (hx:c=true→evs env l=some vs) (hcon:c=true→Con P f (vs++caps) (fG ps lp) [] (YN v Φ))
   (h:∀ b,(c=true→Φ b)→aB P n ops V Q k (L.setIfInBounds i true) ⟨(t,c,v b)::env,ps,hp⟩):aB P n ops V Q (k+1) L ⟨env,ps,hp⟩:=by
 cases c with
 | true =>
   refine eQ (q:=true) i hi hr rfl hc (fN lp [] hf (hgv rfl) (hx rfl) ht rfl rfl (hcon rfl) ?_)
   rintro _ _ _ ⟨⟨rfl,rfl⟩,b,rfl,hb⟩
   refine agH rfl ?_ (h b fun _=>hb)
   apply List.ext_getElem?;intro j;rw [iX]
   by_cases hj:j<hp.length
   · rw [if_pos hj];rfl
   · rw [if_neg hj,List.getElem?_eq_none (by simp),List.getElem?_eq_none (by omega)]
 | false =>
   intro w S fp a hst he hn hdf w1 hb
   refine ⟨fun h0=>(by rw [hr] at h0;cases h0),fun j hj => ?_⟩
   rw [hr] at hj
   obtain rfl:=List.mem_singleton.1 hj
   refine ⟨_,hi,?_⟩
   rw [if_neg (by rw [ej (ops:=ops) hc he];exact Bool.false_ne_true)]
   refine ⟨fun _=>Below.refl _ _,?_⟩
   have hen:=he.set (dst:=some t) (by rw [hn];exact ht) false (v b0)
   exact jQ (fun a2 w2 hp=>hp.trans (Evo.of_below _ _ hb) (fun _ h=>.inl h)) _ _ _ _ (h b0 (fun h=>by cases h) w1 S fp _ (hst.below hb) hen (by rw [fk];exact hn) (by rw [put_defers];exact hdf))
end
def afI:Res:=⟨fun _ _ _=>True,fun _ _ _ _=>trivial⟩
section
variable {P:Program} {n:Fr} {env:Env} {ps:List Per} {hp:List Res} {d:Option Tmp} {ty:TypeId} {pos:String} {af:Array Edge} {gd:Option (Nat × Bool)}
theorem oh{w:World}{b:Nat}{T:TypeId}{cs:List Value}(h:w.heap[b]? = some (.cells cs.toArray T (0,0))):w.shape? b=some (T,cs.length):=by
 unfold World.shape?;rw [h];simp
theorem zd{src dst t T:TypeId}{x:Operand}{b:Nat}{cs:List Value}(i:Nat)(hs:P.underlying src=some (.pointer t))(hd:P.underlying dst=some .unsafePointer)(ht:((P.info? t).map fun j=>decide (j.size≠0))=some true)(hx:ev env x=some (true,.pointer (some ⟨b,0,none⟩)))(hi:hp[i]? = some (Box b T cs))(h0:0<cs.length) :
   Quiet P n ⟨d,.convert src dst x,ty,pos,af,gd⟩ ⟨env,ps,hp⟩ (.pointer (some ⟨b,0,none⟩)):=fun w S fp a hst he hn=>by
 have h1:=he.val hx rfl
 obtain ⟨hb,_⟩:=hst.res i _ hi
 obtain ⟨j,hj,hjs⟩:=Option.map_eq_some_iff.1 ht
 have hrun:=Lib.run_to_unsafe (P:=P) w ⟨b,0,none⟩ hs hd hj (by simpa using hjs) (oh hb) h0
 have:(execOp a.eval ⟨d,.convert src dst x,ty,pos,af,gd⟩).run P w=.ok (.value (.pointer (some ⟨b,0,none⟩))) w:=by
   unfold execOp;dsimp only;rw [h1]
   show ((convert src dst (.pointer (some ⟨b,0,none⟩))).bind fun r=>Sem.pure (Next.value r)).run P w=_
   rw [Sem.run_bind',hrun];rfl
 rw [this];exact cg _ _
theorem rJ{src dst u T:TypeId}{x:Operand}{b:Nat}{cs:List Value}(i m:Nat)(hs:P.underlying src=some .unsafePointer)(hd:P.underlying dst=some (.pointer u))(hu:(P.info? u).isSome=true)(hx:ev env x=some (true,.pointer (some ⟨b,0,none⟩)))(hi:hp[i]? = some (Box b T cs))(hm:cs.length=m)(hlies:liesAt P P.depth T (m / P.cellsOf T) 0 u 1=true) :
   Quiet P n ⟨d,.convert src dst x,ty,pos,af,gd⟩ ⟨env,ps,hp⟩ (.pointer (some ⟨b,0,none⟩)):=fun w S fp a hst he hn=>by
 have h1:=he.val hx rfl
 obtain ⟨hb,_⟩:=hst.res i _ hi
 obtain ⟨j,hj⟩:=Option.isSome_iff_exists.1 hu
 have hsh:=oh hb
 rw [hm] at hsh
 have hrun:=Lib.run_from_unsafe (P:=P) w ⟨b,0,none⟩ hs hd hj hsh hlies
 have:(execOp a.eval ⟨d,.convert src dst x,ty,pos,af,gd⟩).run P w=.ok (.value (.pointer (some ⟨b,0,none⟩))) w:=by
   unfold execOp;dsimp only;rw [h1]
   show ((convert src dst (.pointer (some ⟨b,0,none⟩))).bind fun r=>Sem.pure (Next.value r)).run P w=_
   rw [Sem.run_bind',hrun];rfl
 rw [this];exact cg _ _
theorem jl{x:Operand}{t t':TypeId}(hT:(match P.underlying t with | some (.pointer _)=>true | _=>false)=true)(hx:ev env x=some (true,.pointer none)):Quiet P n ⟨d,.binOp .eql t x (.const (.pointer none)) t',ty,pos,af,gd⟩ ⟨env,ps,hp⟩ (.bool true):=.run2 hx (y:=.const (.pointer none)) (vy:=.pointer none) rfl fun ρ w h1 h2=>by
 have hu:∃ e,P.underlying t=some (.pointer e):=by
   cases h:P.underlying t with
   | none=>rw [h] at hT;cases hT
   | some dd=>rw [h] at hT;cases dd<;>first | exact ⟨_,rfl⟩ | cases hT
 obtain ⟨e,hu⟩:=hu
 unfold execOp;dsimp only;rw [h1,h2]
 have e1:(do eqGuard BinOp.eql t x (.const (.pointer none)) (Value.pointer none) (Value.pointer none);binOp BinOp.eql t (Value.pointer none) (Value.pointer none))=binOp BinOp.eql t (Value.pointer none) (Value.pointer none):=rfl
 have e2:(binOp BinOp.eql t (Value.pointer none) (Value.pointer none)).run P w=.ok (.bool true) w:=by
   have:=run_eql_pointer_nil (P:=P) (w:=w) t none (by rw [hu];unfold Program.pointee;rw [hu])
   exact this
 show ((do eqGuard BinOp.eql t x (.const (.pointer none)) (Value.pointer none) (Value.pointer none);binOp BinOp.eql t (Value.pointer none) (Value.pointer none)).bind fun r=>Sem.pure (Next.value r)).run P w=_
 rw [e1,Sem.run_bind',e2];rfl
theorem oM{x y:Operand}{t t' te:TypeId}{a0:Addr}(hu:P.underlying t=some (.pointer te))(hte:(P.info? te).isSome=true)(hx:ev env x=some (true,.pointer (some a0)))(hy:ev env y=some (true,.pointer (some a0))):Quiet P n ⟨d,.binOp .neq t x y t',ty,pos,af,gd⟩ ⟨env,ps,hp⟩ (.bool false):=.run2 hx hy fun ρ w h1 h2=>by
 obtain ⟨j,hj⟩:=Option.isSome_iff_exists.1 hte
 unfold execOp;dsimp only;rw [h1,h2]
 have e1:∀ x y:Operand,(do eqGuard BinOp.neq t x y (Value.pointer (some a0)) (Value.pointer (some a0));binOp BinOp.neq t (Value.pointer (some a0)) (Value.pointer (some a0)))=binOp BinOp.neq t (Value.pointer (some a0)) (Value.pointer (some a0)):=fun _ _=>rfl
 have e2:=Lib.run_neq_ptr_same (P:=P) w a0 hu hj
 show ((do eqGuard BinOp.neq t x y (Value.pointer (some a0)) (Value.pointer (some a0));binOp BinOp.neq t (Value.pointer (some a0)) (Value.pointer (some a0))).bind fun r=>Sem.pure (Next.value r)).run P w=_
 rw [e1,Sem.run_bind',e2];rfl
theorem kX{x:Operand}{T:TypeId}{a0:Addr}{m c:Nat}(hc:c≠0)(hx:ev env x=some (true,.slice (some a0) m c)):Quiet P n ⟨d,.call ⟨.builtin .unsafeSliceData,#[x],#[T]⟩,ty,pos,af,gd⟩ ⟨env,ps,hp⟩ (.pointer (some a0)):=.run1 hx fun ρ w h=>by
 have hr:=Lib.run_unsafeSliceData_row (P:=P) w #[T] ty a0 m c hc
 have hexec:execOp ρ ⟨d,.call ⟨.builtin .unsafeSliceData,#[x],#[T]⟩,ty,pos,af,gd⟩=(Builtin.unsafeSliceData_ #[T] ty (#[x].map ρ)).bind fun r=>Sem.pure (Next.value r):=rfl
 rw [hexec,show #[x].map ρ = #[ρ x] by simp,h,Sem.run_bind',hr];rfl
abbrev cE:UInt8→List D:=fun u=>[.v (.int .u8 u.toNat)]
theorem kN{t:Nat}{x y:Operand}{pt it E:TypeId}{g cp:Nat}{l:List UInt8}{K:Sta→Prop}(i:Nat)(hp1:P.underlying pt=some (.pointer E))(hc:P.cellsOf E=1)(h0:l≠[])(hx:ev env x=some (true,.pointer (some ⟨g,0,none⟩)))(hy:ev env y=some (true,.int .i64 l.length))
   (hi:hp[i]? = some (aN (.slice (some ⟨g,0,none⟩) l.length cp) E 1 (l.map cE))) (ht:fits n.size (some t)=true) (hK:K ⟨(t,true,.string ⟨l.toArray⟩)::env,ps,hp.set i afI⟩) :
   Eff P n ⟨some t,.call ⟨.builtin .unsafeString,#[x,y],#[pt,it]⟩,ty,pos,af,gd⟩ ⟨env,ps,hp⟩ false K:=.change i hi fun w S fp a hst he hn hR=>by
 have h1:=he.val hx rfl
 have h2:=he.val hy rfl
 rcases hR with ⟨h,_⟩ | ⟨b,cap,hv,⟨cs,sp,hb,hrows,hcap,hrc,hcm⟩,hF⟩
 · cases h
 · simp only [Value.slice.injEq,Option.some.injEq,Addr.mk.injEq] at hv
   obtain ⟨⟨rfl,_⟩,_,rfl⟩:=hv
   have hlen:cs.length=l.length:=by rw [hrows.len,List.length_map,Nat.mul_one]
   rw [List.length_map] at hrc
   have hsh:=oh hb
   have hcell:∀ j u,l[j]? = some u→w.cell? ((⟨g,0,none⟩:Addr).add j)=some (.int .u8 u.toNat):=fun j u hj=>by
     obtain ⟨v,hv,hrep⟩:=hrows.rep j 0 (cE u) (.v (.int .u8 u.toNat)) (by rw [List.getElem?_map,hj];rfl) rfl
     rw [Nat.mul_one,Nat.add_zero] at hv
     rw [jt hrep] at hv
     have hjl:=(List.getElem?_eq_some_iff.1 hv).1
     have:(⟨g,0,none⟩:Addr).add j=⟨g,j,none⟩:=by
       unfold Addr.add
       by_cases h:j=0
       · subst h;simp
       · simp [h]
     rw [this,ec hb,List.getElem?_append_left hjl];exact hv
   have hcl:l.length≤(cs++sp).length:=by rw [List.length_append];omega
   have hr:=Lib.run_unsafeString_row (P:=P) w pt it ty E hp1 hc g (cs++sp).length hsh l h0 hcl (by unfold maxLen at hcm;omega) hcell
   have hexec:execOp a.eval ⟨some t,.call ⟨.builtin .unsafeString,#[x,y],#[pt,it]⟩,ty,pos,af,gd⟩=(Builtin.unsafeString_ #[pt,it] ty (#[x,y].map a.eval)).bind fun r=>Sem.pure (Next.value r):=rfl
   rw [hexec,show #[x,y].map a.eval = #[a.eval x,a.eval y] by simp,h1,h2,Sem.run_bind',hr]
   have hl0:l.length≠0:=fun h=>h0 (List.eq_nil_of_length_eq_zero h)
   obtain ⟨f,hfz⟩:∃ f:Obj→Obj,w.freeze ⟨g,0,none⟩ l.length = { w with heap:=w.heap.modify g f } := ⟨_,by unfold World.freeze;rw [if_neg hl0]⟩
   refine ⟨afI,⟨(t,true,.string ⟨l.toArray⟩)::env,ps,hp.set i afI⟩,hK,rfl,rfl,?_,trivial,?_,?_,?_,?_,?_⟩
   · exact he.put (g:=true) (by rw [hn];simpa [fits] using ht) _
   · rw [hfz]
   · rw [hfz]
   · rw [hfz];exact ⟨rfl,rfl⟩
   · rw [hfz];simp
   · intro b' hb' hne
     rw [hfz]
     simp only [Array.getElem?_modify]
     rw [if_neg (fun h=>hne ((hF b').2 h.symm))]
end
end Go.Sy

namespace Go.Proofs.YtebnelfdimiifaaGreatDoor
open Go.RowKit Go.Lp Go.Sy
open Go.Proofs.Tryz
attribute [local irreducible] aL aB awp aC fwp Quiet
theorem abD(p:Value)(w:World):(Extern.AbiNoEscape.same #[p]).run Tryz.prog w=.ok p w:=rfl
abbrev og(b:Nat)(p v:Value):Res:=Box b 62 [p,v]
theorem yh(b:Nat)(v:Value):Con Tryz.prog 145 [.pointer (some ⟨b,0,none⟩)] [] [og b (.pointer none) v] fun _ ps hp=>ps=[]∧hp=[og b (.pointer (some ⟨b,0,none⟩)) v]:=by
 refine Con.enter Tryz.func145 rfl (by simp [Tryz.ntmps145]) ?_
 show awp _ _ _ _ ⟨[(0,true,_)],_,_⟩
 refine aSR (aM rfl (aU rfl (dC rfl) ?_))
 refine aU rfl (qFA (off:=0) rfl) ?_
 refine aU rfl (bj 0 tk59 rfl rfl rfl) ?_
 refine aU rfl (jl (by kernel_rfl) rfl) ?_
 refine aNn ?_
 refine ao _ rfl (fun h1 => ?_) (fun h1 => ?_)
 ·skip
  refine aa (aM rfl (aM rfl ?_))
  refine aU rfl (zd (t:=62) 0 (by kernel_rfl) (by kernel_rfl) (by kernel_rfl) rfl rfl (by simp)) ?_
  refine aU rfl (adQ (vs:=_) Tryz.func173 rfl rfl (by kernel_rfl) (by kernel_rfl) rfl (fun w=>abD _ w)) ?_
  refine aU rfl (rJ (u:=62) 0 2 (by kernel_rfl) (by kernel_rfl) (by kernel_rfl) rfl rfl rfl (by kernel_rfl)) ?_
  refine aU rfl (dC rfl) ?_
  refine aU rfl (qFA (off:=0) rfl) ?_
  refine aW rfl (ba 0 tk59 rfl rfl rfl rfl ?_)
  refine aHK ?_
  refine bP ?_
  refine rk [] [0] rfl Tryz.results145 ?_ (.inl rfl)
  exact ⟨rfl,rfl⟩
 ·skip
  exact absurd h1 (by decide)
theorem yi(b:Nat)(v:Value):Con Tryz.prog 145 [.pointer (some ⟨b,0,none⟩)] [] [og b (.pointer (some ⟨b,0,none⟩)) v] fun _ ps hp=>ps=[]∧hp=[og b (.pointer (some ⟨b,0,none⟩)) v]:=by
 refine Con.enter Tryz.func145 rfl (by simp [Tryz.ntmps145]) ?_
 show awp _ _ _ _ ⟨[(0,true,_)],_,_⟩
 refine aSR (aM rfl (aU rfl (dC rfl) ?_))
 refine aU rfl (qFA (off:=0) rfl) ?_
 refine aU rfl (bj 0 tk59 rfl rfl rfl) ?_
 refine aU rfl (ny (by kernel_rfl) rfl) ?_
 refine aNn ?_
 refine ao _ rfl (fun h1 => ?_) (fun h1 => ?_)
 ·skip
  exact absurd h1 (by decide)
 ·skip
  refine aSR (aM rfl (aU rfl (dC rfl) ?_))
  refine aU rfl (qFA (off:=0) rfl) ?_
  refine aU rfl (bj 0 tk59 rfl rfl rfl) (aM rfl ?_)
  refine aU rfl (oM (te:=62) (by kernel_rfl) (by kernel_rfl) rfl rfl) ?_
  refine aNn ?_
  refine ao _ rfl (fun h2 => ?_) (fun h2 => ?_)
  ·skip
   exact absurd h2 (by decide)
  ·skip
   refine ax ?_
   refine rk [] [0] rfl Tryz.results145 ?_ (.inl rfl)
   exact ⟨rfl,rfl⟩
theorem aaS(b:Nat)(p:Value)(hp:p=.pointer none∨p=.pointer (some ⟨b,0,none⟩))(v:Value):Con Tryz.prog 145 [.pointer (some ⟨b,0,none⟩)] [] [og b p v] fun _ ps hp=>ps=[]∧hp=[og b (.pointer (some ⟨b,0,none⟩)) v]:=by
 rcases hp with rfl | rfl
 · exact yh b v
 · exact yi b v
theorem ya(b:Nat)(p:Value)(hp:p=.pointer none∨p=.pointer (some ⟨b,0,none⟩))(v:Value)(l:List UInt8)(hl:l.length≤1000000)(u:UInt8):Con Tryz.prog 68 [.pointer (some ⟨b,0,none⟩),.int .u8 u.toNat] [] [og b p v,aN v 5 1 (l.map cE)]
   fun _ ps hp=>ps=[]∧∃ (ad:Option Addr) (c:Nat),hp=[og b (.pointer (some ⟨b,0,none⟩)) (.slice ad (l++[u]).length c),aN (.slice ad (l++[u]).length c) 5 1 ((l++[u]).map cE)]:=by
 refine Con.enter Tryz.func68 rfl (by simp [Tryz.ntmps68]) ?_
 show awp _ _ _ _ ⟨[(0,true,_),(1,true,_)],_,_⟩
 refine aSR (aA rfl (aNn (aSR (aM rfl ?_))))
 refine aW (q:=false) rfl (yE [] [0] (by kernel_rfl) rfl rfl rfl rfl (aaS b p hp v) ?_)
 rintro _ _ _ ⟨rfl,rfl⟩
 refine aST ?_
 refine aNn (aSR (aM rfl (aM rfl (aU rfl (dC rfl) ?_))))
 refine aU rfl (qFA (off:=1) rfl) ?_
 refine aU rfl (bj 0 tk60 rfl rfl rfl) (aM rfl ?_)
 refine aW (q:=true) rfl (aaA (zs:=[.int .u8 0]) (l:=[(0,.tmp 12)]) el60 (by kernel_rfl) (by decide) (by decide) (by decide) rfl rfl rfl (.more rfl (.v rfl .nil) .nil) rfl rfl (fun v2_6 => ?_))
 refine aHN ?_
 refine aW rfl (cK 1 el60 rfl rfl rfl rfl (dW 2 el60 rfl (by simp)) (by first | assumption | simp) (by show (l.map cE).length+1≤_;rw [List.length_map];exact Nat.le_trans (Nat.add_le_add_right hl 1) (by decide)) ((l++[u]).length) (by show (l.map cE).length+1=_;rw [List.length_map,List.length_append];rfl) (fun v2_7 c2_7 => ?_))
 refine aHK ?_
 refine aU rfl (dC rfl) ?_
 refine aU rfl (qFA (off:=1) rfl) ?_
 refine aW rfl (ba 0 tk60 rfl rfl rfl rfl ?_)
 refine aHK ?_
 refine aNn (aSR (aA rfl (aNn (az ?_))))
 refine nf [] [0,1] rfl Tryz.results68 rfl ?_ (.inr rfl)
 exact ⟨rfl,v2_7,c2_7,by rw [List.map_append];rfl⟩
theorem vN(b:Nat)(p:Value)(g cp:Nat)(hcp:cp≠0)(l:List UInt8)(hl:l≠[]):Con Tryz.prog 18 [.pointer (some ⟨b,0,none⟩)] [] [og b p (.slice (some ⟨g,0,none⟩) l.length cp),aN (.slice (some ⟨g,0,none⟩) l.length cp) 5 1 (l.map cE)]
   fun r ps hp=>ps=[]∧hp=[]∧r=.string ⟨l.toArray⟩:=by
 refine Con.enter Tryz.func18 rfl (by simp [Tryz.ntmps18]) ?_
 show awp _ _ _ _ ⟨[(0,true,_)],_,_⟩
 refine aSR (aA rfl (aNs ?_))
 refine sV [10] (by kernel_rfl) ?_
 show aB _ _ _ _ _ 12 #[false,false,false,false,false,false,false,false,false,false,false,false] _
 refine bV 0 rfl rfl (aT rfl) ?_
 refine bV 1 rfl rfl (dC rfl) ?_
 refine bV 2 rfl rfl (qFA (off:=1) rfl) ?_
 refine bV 3 rfl rfl (bj 0 tk60 rfl rfl rfl) ?_
 refine bV 4 rfl rfl (kX hcp rfl) ?_
 refine bV 5 rfl rfl (aT rfl) ?_
 refine bV 6 rfl rfl (dC rfl) ?_
 refine bV 7 rfl rfl (qFA (off:=1) rfl) ?_
 refine bV 8 rfl rfl (bj 0 tk60 rfl rfl rfl) ?_
 refine bV 9 rfl rfl (aX Tryz.underlying60 rfl) ?_
 refine eQ (q:=false) 10 rfl (by kernel_rfl) rfl rfl (kN 1 (by kernel_rfl) (by kernel_rfl) hl rfl rfl rfl rfl ?_)
 refine bST rfl ?_
 refine bV 11 rfl rfl (bo rfl) ?_
 refine acm (by kernel_rfl) ?_
 refine an (az ?_)
 refine nf [] [] rfl Tryz.results18 rfl ?_ (.inr rfl)
 exact ⟨rfl,rfl,rfl⟩
end Go.Proofs.YtebnelfdimiifaaGreatDoor

