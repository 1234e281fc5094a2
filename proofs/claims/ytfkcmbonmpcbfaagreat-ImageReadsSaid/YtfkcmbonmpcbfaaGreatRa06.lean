/- Parts of the proof, in build order. No condition. -/
import Derived.Test.YtfkcmbonmpcbfaaGreatRa05
import Derived.MapKept
import Derived.Test.YtfkcmbonmpcbfaaGreatRa04
import Derived.Laws.StructEq
import Derived.Laws.Small
import Derived.ChangeKeysEq
set_option linter.unusedSimpArgs false
set_option linter.unusedVariables false
set_option maxHeartbeats 1000000
set_option maxRecDepth 20000
namespace Go.Sy
open Go.RowKit Go.Lp
section
variable {w:World} {S F:bO} {A B C R:Res}
theorem sf(h:(gl A (gl B C)).holds w S F):(gl B (gl A C)).holds w S F:=by
 obtain ⟨G,H,a,⟨G2,H2,b,c,d2,e2⟩,d,e⟩:=h
 refine ⟨G2,fun x=>G x∨H2 x,b,⟨G,H2,a,c,fun x g h2=>d x g ((e2 x).2 (.inr h2)),fun x=>Iff.rfl⟩,fun x g2 h=>h.elim (fun g=>d x g ((e2 x).2 (.inl g2))) (fun h2=>d2 x g2 h2),fun x => ?_⟩
 rw [e x,e2 x]
 constructor
 · rintro (h | h | h)
   · exact .inr (.inl h)
   · exact .inl h
   · exact .inr (.inr h)
 · rintro (h | h | h)
   · exact .inr (.inl h)
   · exact .inl h
   · exact .inr (.inr h)
theorem gO(h:(gl A B).holds w S F)(hB:∀ F,B.holds w S F→C.holds w S F):(gl A C).holds w S F:=by
 obtain ⟨G,H,a,b,d,e⟩:=h
 exact ⟨G,H,a,hB H b,d,e⟩
theorem abQ(h:A.holds w S F):(gl emp A).holds w S F:=⟨fun _=>False,F,fun b h=>h,h,fun b h=>h.elim,fun b=>⟨.inr,fun h=>h.elim False.elim id⟩⟩
theorem aa1(h:(gl emp A).holds w S F):A.holds w S F:=by
 obtain ⟨G,H,a,b,d,e⟩:=h
 have:F=H:=funext fun x=>propext ((e x).trans ⟨fun h=>h.elim (fun g=>absurd g (a x)) id,.inr⟩)
 rw [this];exact b
def fw:List Res→Res
 | []=>emp
 | A::L=>gl A (fw L)
theorem l7:∀ (L:List Res) (k:Nat) (F:bO),L[k]? = some R→(fw L).holds w S F→(gl R (fw (L.set k emp))).holds w S F
 | [],_,_,h,_=>by simp at h
 | A::L,0,F,h,hs=>by
   simp only [List.getElem?_cons_zero,Option.some.injEq] at h
   subst h
   exact gO hs fun F h=>abQ h
 | A::L,k+1,F,h,hs=>sf (gO hs fun F h'=>l7 L k F (by simpa using h) h')
theorem sm:∀ (L:List Res) (k:Nat) (F:bO),k<L.length→(gl R (fw (L.set k emp))).holds w S F→(fw (L.set k R)).holds w S F
 | [],_,_,h,_=>by simp at h
 | A::L,0,F,_,hs=>gO hs fun F h=>aa1 h
 | A::L,k+1,F,h,hs=>gO (sf hs) fun F h'=>sm L k F (by simpa using h) h'
theorem qN:∀ (L:List Res),(∀ A∈L,A.holds w S fun _=>False)→(fw L).holds w S fun _=>False
 | [],_=>fun _ h=>h
 | A::L,h=>⟨fun _=>False,fun _=>False,h A (List.mem_cons_self ..),qN L fun B hB=>h B (List.mem_cons_of_mem _ hB),fun _ h=>h.elim,fun _=>⟨.inl,fun h=>h.elim id id⟩⟩
theorem sg:∀ (L:List Res) (F:bO),(fw L).holds w S F→∀ (k:Nat) (A:Res),L[k]? = some A→∃ G:bO,(∀ b,G b→F b)∧A.holds w S G:=fun L F h k A hk=>by
 obtain ⟨G,H,a,_,_,e⟩:=l7 L k F hk h
 exact ⟨G,fun b hb=>(e b).2 (.inl hb),a⟩
theorem mH{v:Value}{T:TypeId}{sz:Nat}{rows:List (List D)}(hr:(aO v T sz rows).holds w S F):gD w (fun b=>S b∨F b) v (.sl rows):=by
 have hS:∀ b,S b→(S b∨F b):=fun _ h=>.inl h
 rcases hr with ⟨rfl,rfl,_⟩ | ⟨b,cap,rfl,⟨cs,sp,hb,hrows,hl,hle,hcap⟩,hF⟩
 · exact .e none 0 (by unfold maxLen;omega)
 · refine .sl b 0 cap sz rows (fun i j=>cs.getD (i*sz+j) undef) (.inr ((hF b).2 rfl)) hle hcap hrows.row (fun i j r d h1 h2 => ?_) (fun i j r d h1 h2 => ?_)
   · obtain ⟨u,hu,_⟩:=hrows.rep i j r d h1 h2
     have e:cs.getD (i*sz+j) undef=u:=by simp [List.getD,hu]
     rw [e]
     refine ⟨?_,hrows.one u (List.mem_of_getElem? hu)⟩
     rw [Nat.zero_add,ej hb,List.getElem?_append_left (List.getElem?_eq_some_iff.1 hu).1];exact hu
   · obtain ⟨u,hu,hr⟩:=hrows.rep i j r d h1 h2
     have e:cs.getD (i*sz+j) undef=u:=by simp [List.getD,hu]
     rw [e]
     exact hr.mono (fun _ _=>rfl) hS
end
theorem aad{w:World}{S:bO}{fp:Nat→bO}{ps:List Per}{hp:List Res}(hst:St w S fp ps hp)(i:Nat){R:Res}(hi:hp[i]? = some R){p:Per}(h:∀ w S F,R.holds w S F→p.holds w (fun b=>S b∨F b)) :
   St w (fun b=>S b∨fp i b) (fun k=>if k=i then (fun _=>False) else fp k) (p::ps) (hp.set i emp):=by
 have hil:=(List.getElem?_eq_some_iff.1 hi).1
 have hr:=hst.res i _ hi
 have hst0:=hst.drop i
 have hS:∀ b,S b→(S b∨fp i b):=fun _ h=>.inl h
 refine ⟨fun p' hp' => ?_,fun j R hj=>R.mono (hst0.res j R hj) (fun _ _=>rfl) (fun _ _=>rfl) hS,fun j hj b hb => ?_,hst0.dj,fun b hb=>hb.elim (hst.slt b) (fun h=>(hst.lt i hil b h).1)⟩
 · rcases List.mem_cons.1 hp' with rfl | h2
   · exact h w S (fp i) hr
   · exact p'.mono (hst.per p' h2) (fun _ _=>rfl) hS
 · have hj':j<hp.length:=by simpa using hj
   by_cases hji:j=i
   · rw [if_pos hji] at hb;exact hb.elim
   · rw [if_neg hji] at hb
     exact ⟨(hst.lt j hj' b hb).1,fun h=>h.elim (hst.lt j hj' b hb).2 (hst.dj j i hj' hil hji b hb)⟩
section
variable {P:Program} {n:Fr} {env:Env} {ps:List Per} {hp:List Res} {c:Code} {Q:Exit→Sta→Prop}
theorem jQ(i:Nat){R:Res}(p:Per)(hi:hp[i]? = some R)(h0:∀ w S F,R.holds w S F→p.holds w (fun b=>S b∨F b))(h:awp P n c Q ⟨env,p::ps,hp.set i emp⟩):awp P n c Q ⟨env,ps,hp⟩:=fun w S fp a hst he hn hd=>by
 have hil:=(List.getElem?_eq_some_iff.1 hi).1
 have h1:=aad hst i hi h0
 have htot:∀ b,tot (fun k=>if k=i then (fun _=>False) else fp k) (hp.set i emp).length b→tot fp hp.length b:=fun b ⟨j,hj,hb⟩=>by
   dsimp only at hb
   by_cases hji:j=i
   · rw [if_pos hji] at hb;exact hb.elim
   · rw [if_neg hji] at hb;exact ⟨j,by simpa using hj,hb⟩
 have hE:Evo w S (tot fp hp.length) w (fun b=>S b∨fp i b):=⟨rfl,rfl,rfl,Nat.le_refl _,Nat.le_refl _,fun _ _ _=>rfl,fun _ h=>.inl h,fun b hb=>hb.elim .inl fun h=>.inr (.inl ⟨i,hil,h⟩)⟩
 exact fC (fun e a2 w2 hp2=>hp2.trans hE (fun b hb=>.inl (htot b hb))) (h w _ _ a h1 he hn hd)
theorem bS(i:Nat){b:Nat}{T:TypeId}{cs:List Value}(hi:hp[i]? = some (Box b T cs))(h1:cs.all (·.oneCell')=true)(h:awp P n c Q ⟨env,At b 0 (cs.map D.v)::ps,hp.set i emp⟩):awp P n c Q ⟨env,ps,hp⟩ :=
 jQ i (At b 0 (cs.map D.v)) hi (fun w S F ⟨hb,hF⟩=>⟨.inr ((hF b).2 rfl),fun j d hj=>by
   rw [List.getElem?_map] at hj
   cases hc:cs[j]? with
   | none=>rw [hc] at hj;cases hj
   | some u =>
     rw [hc] at hj
     simp only [Option.map_some,Option.some.injEq] at hj
     exact ⟨u,by rw [Nat.zero_add,ej hb];exact hc,List.all_eq_true.1 h1 u (List.mem_of_getElem? hc),by rw [← hj];exact .v u⟩⟩) h
end
section
variable {α:Type} [Inhabited α] {enc:α→Value}
def dB(vs:List Value):List (List D):=vs.map fun v=>[.v v]
@[simp] theorem lC (vs:List Value):(dB vs).length=vs.length:=by simp [dB]
def inner(E:TypeId)(enc:α→Value)(vs:List Value)(l:List (List α)):List Res:=List.zipWith (fun v x=>aO v E 1 (cL enc x)) vs l
def kb(vo:Value)(T E:TypeId)(enc:α→Value)(l:List (List α)):Res :=
 ⟨fun w S F=>∃ vs:List Value,vs.length=l.length∧(gl (aO vo T 1 (dB vs)) (fw (inner E enc vs l))).holds w S F,
  fun ⟨vs,h0,h⟩ h1 h2 h3=>⟨vs,h0,(gl (aO vo T 1 (dB vs)) (fw (inner E enc vs l))).mono h h1 h2 h3⟩⟩
omit [Inhabited α] in
theorem ns{E:TypeId}{vs:List Value}{l:List (List α)}{k:Nat}{v:Value}{x:List α}(hv:vs[k]? = some v)(hx:l[k]? = some x):(inner E enc vs l)[k]? = some (aO v E 1 (cL enc x)):=by
 unfold inner;rw [List.getElem?_zipWith,hv,hx]
omit [Inhabited α] in
theorem rT{E:TypeId}{v:Value}{x:List α} : ∀ (vs:List Value) (l:List (List α)) (k:Nat),inner E enc (vs.set k v) (l.set k x)=(inner E enc vs l).set k (aO v E 1 (cL enc x))
 | [],_,_=>by simp [inner]
 | _::_,[],_=>by simp [inner]
 | a::vs,b::l,0=>rfl
 | a::vs,b::l,k+1=>by
   have:=rT (E:=E) (v:=v) (x:=x) vs l k
   unfold inner at this ⊢
   simp only [List.set_cons_succ,List.zipWith_cons_cons,this]
variable {P:Program} {n:Fr} {env:Env} {ps:List Per} {hp:List Res} {c:Code} {Q:Exit→Sta→Prop} {vo:Value} {T E:TypeId} {l:List (List α)}
omit [Inhabited α] in
theorem jP(i k:Nat){x:List α}(hi:hp[i]? = some (kb vo T E enc l))(hk:l[k]? = some x)
   (h:∀ vs v,vs.length=l.length→vs[k]? = some v→awp P n c Q ⟨env,ps,(hp.set i (aO vo T 1 (dB vs))++[aO v E 1 (cL enc x)])++[fw ((inner E enc vs l).set k emp)]⟩):awp P n c Q ⟨env,ps,hp⟩:=by
 have hil:=(List.getElem?_eq_some_iff.1 hi).1
 refine kO (β := {p:List Value × Value // p.1.length=l.length∧p.1[k]? = some p.2}) i (fun p=>gl (aO vo T 1 (dB p.1.1)) (gl (aO p.1.2 E 1 (cL enc x)) (fw ((inner E enc p.1.1 l).set k emp)))) hi (fun w S F hh => ?_) fun ⟨⟨vs,v⟩,h1,h2⟩ => ?_
 · obtain ⟨vs,h0,hs⟩:=hh
   have hkl:=(List.getElem?_eq_some_iff.1 hk).1
   obtain ⟨v,hv⟩:∃ v,vs[k]? = some v:=⟨vs[k]'(by omega),by simp⟩
   exact ⟨⟨(vs,v),h0,hv⟩,gO hs fun F h=>l7 _ k F (ns hv hk) h⟩
 · refine rE i (by rw [List.getElem?_set_self hil]) ?_
   rw [List.set_set]
   refine rE (hp.set i (aO vo T 1 (dB vs))).length (by rw [List.getElem?_append_right (Nat.le_refl _),Nat.sub_self];rfl) ?_
   rw [List.set_append_right _ _ (Nat.le_refl _),Nat.sub_self]
   exact h vs v h1 h2
omit [Inhabited α] in
theorem gQ(i j m k:Nat){vs:List Value}{v:Value}{x:List α}(hi:hp[i]? = some (aO vo T 1 (dB (vs.set k v))))(hj:hp[j]? = some (aO v E 1 (cL enc x)))(hm:hp[m]? = some (fw ((inner E enc vs l).set k emp)))
   (hij:(i == j)=false) (him:(i == m)=false) (hjm:(j == m)=false) (hl:vs.length=l.length) (hk:k<l.length) (h:awp P n c Q ⟨env,ps,((hp.set j emp).set m emp).set i (kb vo T E enc (l.set k x))⟩):awp P n c Q ⟨env,ps,hp⟩:=by
 have hij':i≠j:=by simpa using hij
 have him':i≠m:=by simpa using him
 have hjm':j≠m:=by simpa using hjm
 have hil:=(List.getElem?_eq_some_iff.1 hi).1
 have hjl:=(List.getElem?_eq_some_iff.1 hj).1
 refine tZ j m hj hm hjm ?_
 refine tZ i j (R:=aO vo T 1 (dB (vs.set k v))) (R':=gl (aO v E 1 (cL enc x)) (fw ((inner E enc vs l).set k emp))) ?_ ?_ hij ?_
 · rw [List.getElem?_set_ne (Ne.symm him'),List.getElem?_set_ne (Ne.symm hij')];exact hi
 · rw [List.getElem?_set_ne (Ne.symm hjm'),List.getElem?_set_self hjl]
 refine iK i (kb vo T E enc (l.set k x)) (R:=gl (aO vo T 1 (dB (vs.set k v))) (gl (aO v E 1 (cL enc x)) (fw ((inner E enc vs l).set k emp)))) ?_ (fun w S F hh => ?_) ?_
 · rw [List.getElem?_set_ne (Ne.symm hij'),List.getElem?_set_self (by simpa using hil)]
 · refine ⟨vs.set k v,by simp [hl],gO hh fun F h => ?_⟩
   rw [rT]
   exact sm _ k F (by unfold inner;simp;omega) h
 · have e:((((hp.set j (gl (aO v E 1 (cL enc x)) (fw ((inner E enc vs l).set k emp)))).set m emp).set i (gl (aO vo T 1 (dB (vs.set k v))) (gl (aO v E 1 (cL enc x)) (fw ((inner E enc vs l).set k emp))))).set j emp).set i (kb vo T E enc (l.set k x))=((hp.set j emp).set m emp).set i (kb vo T E enc (l.set k x)):=by
     apply List.ext_getElem?
     intro q
     simp only [List.getElem?_set,List.length_set]
     by_cases h1:i=q
     · simp [h1]
     · by_cases h2:j=q
       · subst h2;simp [h1,Ne.symm hjm',hjm']
       · by_cases h3:m=q
         · simp [h1,h2,h3]
         · simp [h1,h2,h3]
   rw [e];exact h
omit [Inhabited α] in
theorem n0(i m:Nat)(hi:hp[i]? = some (aO vo T 1 (List.replicate m [.v (.slice none 0 0)])))(h:awp P n c Q ⟨env,ps,hp.set i (kb vo T E enc (List.replicate m ([]:List α)))⟩):awp P n c Q ⟨env,ps,hp⟩:=by
 refine iK i (kb vo T E enc (List.replicate m ([]:List α))) hi (fun w S F hh=>⟨List.replicate m (.slice none 0 0),by simp,?_⟩) h
 have e:dB (List.replicate m (.slice none 0 0))=List.replicate m [.v (.slice none 0 0)]:=by simp [dB]
 rw [e]
 refine ⟨F,fun _=>False,hh,qN _ fun A hA => ?_,fun _ _ h=>h,fun b=>⟨.inl,fun h=>h.elim id False.elim⟩⟩
 unfold inner at hA
 rw [List.zipWith_replicate] at hA
 obtain ⟨_,rfl⟩:=List.mem_replicate.1 hA
 exact .inl ⟨rfl,rfl,fun _ h=>h⟩
end
def aed(D:Nat):Deferred := { target:=.collected D,args := #[] }
theorem Evo.putObj{w:World}{S X:bO}{l:Nat}{o:Obj}(hl:X l):Evo w S X (w.putObj l o) S where
 os:=rfl
 tape:=rfl
 output:=rfl
 size:=by rw [World.putObj_size];exact Nat.le_refl _
 drawn:=Nat.le_refl _
 block b _ hx:=World.putObj_heap_other (fun e=>hx (by rw [e];exact hl))
 more _ h:=h
 new _ h:=.inl h
theorem St.putObj{w:World}{S:bO}{fp:Nat→bO}{ps:List Per}{hp:List Res}(h:St w S fp ps hp){i l:Nat}(hi:i<hp.length)(hl:fp i l)(o:Obj)(R:Res)(hR:R.holds (w.putObj l o) S (fp i)):St (w.putObj l o) S fp ps (hp.set i R) :=
 h.change hi (by rw [World.putObj_size];exact Nat.le_refl _) (fun b _ hb=>World.putObj_heap_other (fun e=>hb (by rw [e];exact hl))) R hR

def ae2(P:Program)(l:Nat)(args:List Value)(ps:List Per)(hp:List Res)(R:Value→List Per→List Res→Prop):Prop :=
 ∀ (w:World) (S:bO) (fp:Nat→bO),St w S fp ps hp→gC P (fun v w'=>∃ ps' hp' S' fp',R v ps' hp'∧St w' S' fp' ps' hp'∧Evo w S (tot fp hp.length) w' S'∧∀ b,tot fp' hp'.length b→tot fp hp.length b∨w.heap.size≤b) ((Instr.yield l args.toArray).run P w)
section
variable {P:Program} {n:Fr} {env:Env} {ps:List Per} {hp:List Res} {ty:TypeId} {pos:String} {af:Array Edge} {gd:Option (Nat × Bool)} {K:Sta→Prop} {d:Option Tmp}
end
def xD(P:Program)(fn:Func)(R:Value→List Per→List Res→Prop)(w:World)(S X:bO)(e:Exit)(a':Act)(w':World):Prop :=
 (e=.normal∨e=.ret)∧∃ (v:Value) (ds:List Nat) (ps':List Per) (hp':List Res) (S':bO) (fp':Nat→bO),(∀ w2,(results fn a'.tmps).run P w2=.ok v w2)∧a'.defers=ds.map aed∧ds.Nodup∧R v ps' hp'∧St w' S' fp' ps' hp'∧Evo w S X w' S'∧(∀ b,tot fp' hp'.length b→X b∨w.heap.size≤b) ∧
   ∀ D∈ds,w'.heap[D]? = some (.deferred (some []))∧¬ S' D∧¬ tot fp' hp'.length D∧(X D∨w.heap.size≤D)
def fwp(P:Program)(fn:Func)(n:Fr)(c:Code)(R:Value→List Per→List Res→Prop)(s:Sta):Prop :=
 ∀ (w:World) (S:bO) (fp:Nat→bO) (a:Act),St w S fp s.ps s.hp→dE a s.env→a.tmps.size=n.size→a.defers=n.dfr→c.wpIn (fnc n.ro) 0 P (xD P fn R w S (tot fp s.hp.length)) a w
section
variable {P:Program} {fn:Func} {n:Fr} {R:Value→List Per→List Res→Prop} {s:Sta}
theorem xD.trans{w w1:World}{S X S1 X1:bO}(hE:Evo w S X w1 S1)(hX:∀ b,X1 b→X b∨w.heap.size≤b){e:Exit}{a:Act}{w2:World}(h:xD P fn R w1 S1 X1 e a w2):xD P fn R w S X e a w2:=by
 obtain ⟨he,v,ds,ps',hp',S',fp',h1,h2,h3,h4,h5,h6,h7,h8⟩:=h
 have hX':∀ b,X1 b∨w1.heap.size≤b→X b∨w.heap.size≤b:=fun b hb=>hb.elim (hX b) (fun h=>.inr (Nat.le_trans hE.size h))
 exact ⟨he,v,ds,ps',hp',S',fp',h1,h2,h3,h4,h5,hE.trans h6 hX,fun b hb=>hX' b (h7 b hb),fun D hD=>let ⟨a1,a2,a3,a4⟩:=h8 D hD; ⟨a1,a2,a3,hX' D a4⟩⟩
end
structure Sl (α:Type) where
 ad:Option Addr
 cap:Nat
 l:List α
instance {α:Type} : Inhabited (Sl α):=⟨⟨none,0,[]⟩⟩
abbrev Sl.val{α:Type}(s:Sl α):Value:=.slice s.ad s.l.length s.cap
abbrev ShF{α:Type}(row:α→List D)(s:Sl α):Per:=Sh (.slice s.ad s.l.length s.cap) (.sl (s.l.map row))
def bz{α:Type}(p:α→Per)(l:List α):Per:=⟨fun w S=>∀ x∈l,(p x).holds w S,fun h h1 h2 x hx=>(p x).mono (h x hx) h1 h2⟩
def cM(p q:Per):Per:=⟨fun w S=>p.holds w S∧q.holds w S,fun h h1 h2=>⟨p.mono h.1 h1 h2,q.mono h.2 h1 h2⟩⟩
section
variable {α:Type} {ps:List Per} {p q:Per}
theorem Ent.all{f:α→Per}{l:List α}{i:Nat}{x:α}(h:Ent ps (bz f l))(hx:l[i]? = some x):Ent ps (f x):=fun w S hp=>h w S hp x (List.mem_of_getElem? hx)
theorem Ent.allm{f:α→Per}{l:List α}{x:α}(h:Ent ps (bz f l))(hx:x∈l):Ent ps (f x):=fun w S hp=>h w S hp x hx
theorem Ent.left(h:Ent ps (cM p q)):Ent ps p:=fun w S hp=>(h w S hp).1
theorem Ent.right(h:Ent ps (cM p q)):Ent ps q:=fun w S hp=>(h w S hp).2
theorem aK{row:α→List D}{l:List α}{i:Nat}{x:α}(h:l[i]? = some x):(l.map row)[i]? = some (row x):=by rw [List.getElem?_map,h];rfl
end
theorem Con.quiet2{P:Program}{v:Value}{f:FuncId}{args:List Value}{p q:Per}(h:Con P f args [p,q] [] fun u _ _=>u=v){w:World}{S:bO}{fp:Nat→bO}{ps':List Per}{hp:List Res}(hp1:p∈ps')(hq1:q∈ps')(hst:St w S fp ps' hp) :
   Calls P f args.toArray w fun e w'=>e=.returned v∧Below w.heap.size w w':=h.quiet (fun _ h=>by
     rcases List.mem_cons.1 h with rfl | h
     · exact hp1
     · rw [List.mem_singleton.1 h];exact hq1) hst
theorem bY{P:Program}{n:Fr}{Q:Exit→Sta→Prop}{s:Sta}{c:Code}{ad:Option Addr}{m cp:Nat}{rows:List (List D)}(hs:Ent s.ps (Sh (.slice ad m cp) (.sl rows)))(h:m≤9223372036854775807→awp P n c Q s):awp P n c Q s :=
 kg (fun w S fp hst=>by
   have h:gD w S (.slice ad m cp) (.sl rows):=hs w S hst.per
   cases h with
   | e a c hc=>simp
   | sl b o c sz rows us hb hn hc _ _ _=>unfold maxLen at hc;omega) h
theorem tX{P:Program}{n:Fr}{Q:Exit→Sta→Prop}{s:Sta}{c:Code}{v:Value}{rows:List (List D)}(hs:Ent s.ps (Sh v (.sl rows)))(h:∀ ad k,v=.slice ad rows.length k→awp P n c Q s):awp P n c Q s :=
 kg (φ:=∃ ad k,v=.slice ad rows.length k) (fun w S fp hst=>by
   have h:gD w S v (.sl rows):=hs w S hst.per
   cases h with
   | e a c hc=>exact ⟨_,_,rfl⟩
   | sl b o c sz rows us hb hn hc _ _ _=>exact ⟨_,_,rfl⟩) (fun ⟨ad,k,e⟩=>h ad k e)
theorem rC{P:Program}{n:Fr}{Q:Exit→Sta→Prop}{env:Env}{ps:List Per}{hp hp':List Res}{c:Code}(h:hp=hp')(k:awp P n c Q ⟨env,ps,hp'⟩):awp P n c Q ⟨env,ps,hp⟩:=h ▸ k
def elt{α:Type}[Inhabited α](l:List α)(i:Int):α:=l.getD i.toNat default
theorem ku{α:Type}[Inhabited α]{l:List α}{i:Int}(h:i<l.length)(h0:0≤i):l[i.toNat]? = some (elt l i):=by
 have:i.toNat<l.length:=by omega
 simp [elt,List.getD,this]
theorem eO{α:Type}[Inhabited α]{l:List α}{i:Nat}(h:i<l.length):l[i]? = some (elt l (i:Int)):=by simp [elt,List.getD,h]
theorem fF{α:Type}[Inhabited α]{row:α→List D}{l:List α}{i:Int}(h:i<l.length)(h0:0≤i):(l.map row)[i.toNat]? = some (row (elt l i)):=aK (ku h h0)
def ef(s:ByteArray):Per:=Fa (s.size≤maxLen)
theorem ef.of{w:World}{S:bO}{s:ByteArray}(h:s.size≤maxLen):(ef s).holds w S:=h
section
variable {P:Program} {n:Fr} {env:Env} {ps:List Per} {hp:List Res} {c:Code} {Q:Exit→Sta→Prop}
theorem adf{φ:Prop}(h:Ent ps (Fa φ))(k:φ→awp P n c Q ⟨env,ps,hp⟩):awp P n c Q ⟨env,ps,hp⟩:=fun w S fp a hst he hn hd=>k (h w S hst.per) w S fp a hst he hn hd
theorem fy{s:ByteArray}(h:Ent ps (ef s))(k:s.size≤maxLen→awp P n c Q ⟨env,ps,hp⟩):awp P n c Q ⟨env,ps,hp⟩:=adf h k
end
end Go.Sy

namespace Go.Proofs.YtfkcmbonmpcbfaaGreat
open Go.RowKit Go.Lp Go.Sy
structure aH where
 name:ByteArray
 parents:Sl ByteArray
 deriving Inhabited
abbrev aH.row(x:aH):List D:=[.v (.string x.name),.v (.slice x.parents.ad x.parents.l.length x.parents.cap)]
abbrev aH.vs(x:aH):List Value:=[.string x.name,.slice x.parents.ad x.parents.l.length x.parents.cap]
abbrev aH.val(x:aH):Value:=.agg #[.string x.name,.slice x.parents.ad x.parents.l.length x.parents.cap]
def aH.ok(x:aH):Per:=cM (ef x.name) (cM (ShF (fun s=>[.v (.string s)]) x.parents) (bz (fun y=>ef y) x.parents.l))
theorem aH.f_name{ps:List Per}{x:aH}(h:Ent ps x.ok):Ent ps (ef x.name):=(Ent.left h)
theorem aH.f_parents{ps:List Per}{x:aH}(h:Ent ps x.ok):Ent ps (ShF (fun s=>[.v (.string s)]) x.parents):=(Ent.left (Ent.right h))
structure acd where
 name:ByteArray
 lib:Bool
 objs:Sl ByteArray
 needs:Sl ByteArray
 entry:ByteArray
 spare:Int
 versions:Sl aH
 deriving Inhabited
structure aam where
 name:ByteArray
 kind:Int
 align:Int
 size:Int
 bytes:ByteArray
 keep:Bool
 deriving Inhabited
structure ace where
 name:ByteArray
 version:ByteArray
 main:Bool
 bind:Int
 vis:Int
 kind:Int
 sec:Int
 at_:Int
 size:Int
 align:Int
 deriving Inhabited
structure ael where
 sec:Int
 at_:Int
 kind:Int
 sym:Int
 add:Int
 deriving Inhabited
structure ac9 where
 name:ByteArray
 secs:Sl Int
 deriving Inhabited
structure adW where
 sym:Int
 order:Int
 last:Bool
 deriving Inhabited
structure cS where
 sec:Int
 at_:Int
 file:ByteArray
 line:Int
 deriving Inhabited
abbrev cS.row(x:cS):List D:=[.v (.int .i64 x.sec),.v (.int .i64 x.at_),.v (.string x.file),.v (.int .i64 x.line)]
abbrev cS.vs(x:cS):List Value:=[.int .i64 x.sec,.int .i64 x.at_,.string x.file,.int .i64 x.line]
abbrev cS.val(x:cS):Value:=.agg #[.int .i64 x.sec,.int .i64 x.at_,.string x.file,.int .i64 x.line]
def cS.ok(x:cS):Per:=ef x.file
structure bF where
 sec:Int
 from_:Int
 to_:Int
 name:ByteArray
 file:ByteArray
 line:Int
 deriving Inhabited
abbrev bF.row(x:bF):List D:=[.v (.int .i64 x.sec),.v (.int .i64 x.from_),.v (.int .i64 x.to_),.v (.string x.name),.v (.string x.file),.v (.int .i64 x.line)]
abbrev bF.vs(x:bF):List Value:=[.int .i64 x.sec,.int .i64 x.from_,.int .i64 x.to_,.string x.name,.string x.file,.int .i64 x.line]
abbrev bF.val(x:bF):Value:=.agg #[.int .i64 x.sec,.int .i64 x.from_,.int .i64 x.to_,.string x.name,.string x.file,.int .i64 x.line]
def bF.ok(x:bF):Per:=cM (ef x.name) (ef x.file)
structure dJ where
 sec:Int
 from_:Int
 to_:Int
 name:ByteArray
 where_:Int
 n:Int
 deriving Inhabited
abbrev dJ.row(x:dJ):List D:=[.v (.int .i64 x.sec),.v (.int .i64 x.from_),.v (.int .i64 x.to_),.v (.string x.name),.v (.int .i64 x.where_),.v (.int .i64 x.n)]
abbrev dJ.vs(x:dJ):List Value:=[.int .i64 x.sec,.int .i64 x.from_,.int .i64 x.to_,.string x.name,.int .i64 x.where_,.int .i64 x.n]
abbrev dJ.val(x:dJ):Value:=.agg #[.int .i64 x.sec,.int .i64 x.from_,.int .i64 x.to_,.string x.name,.int .i64 x.where_,.int .i64 x.n]
def dJ.ok(x:dJ):Per:=ef x.name
structure cC where
 sec:Int
 from_:Int
 to_:Int
 bytes:Int
 deriving Inhabited
abbrev cC.row(x:cC):List D:=[.v (.int .i64 x.sec),.v (.int .i64 x.from_),.v (.int .i64 x.to_),.v (.int .i64 x.bytes)]
abbrev cC.vs(x:cC):List Value:=[.int .i64 x.sec,.int .i64 x.from_,.int .i64 x.to_,.int .i64 x.bytes]
abbrev cC.val(x:cC):Value:=.agg #[.int .i64 x.sec,.int .i64 x.from_,.int .i64 x.to_,.int .i64 x.bytes]
structure dw where
 from_:Int
 size:Int
 to_:Int
 deriving Inhabited
abbrev dw.row(x:dw):List D:=[.v (.int .i64 x.from_),.v (.int .i64 x.size),.v (.int .i64 x.to_)]
abbrev dw.vs(x:dw):List Value:=[.int .i64 x.from_,.int .i64 x.size,.int .i64 x.to_]
abbrev dw.val(x:dw):Value:=.agg #[.int .i64 x.from_,.int .i64 x.size,.int .i64 x.to_]
structure aal where
 sec:Int
 from_:ByteArray
 pieces:Sl dw
 code:Int
 deriving Inhabited
structure acb where
 name:ByteArray
 secs:Sl aam
 syms:Sl ace
 rels:Sl ael
 groups:Sl ac9
 inits:Sl adW
 lines:Sl cS
 inlines:Sl bF
 vars:Sl dJ
 depths:Sl cC
 converts:Sl aal
 deriving Inhabited
structure aca where
 kind:Int
 obj:Int
 sym:Int
 lib:Int
 why:Int
 open_:Bool
 deriving Inhabited
structure aek where
 obj:Int
 sec:Int
 deriving Inhabited
structure dI where
 from_:Int
 to_:Int
 deriving Inhabited
abbrev dI.row(x:dI):List D:=[.v (.int .i64 x.from_),.v (.int .i64 x.to_)]
abbrev dI.val(x:dI):Value:=.agg #[.int .i64 x.from_,.int .i64 x.to_]
structure aex where
 r:acd
 objs:Sl acb
 keep:Sl (Sl Bool)
 choices:Sl (Sl aca)
 first:Sl Int
 count:Int
 deriving Inhabited
structure ba where
 obj:ByteArray
 sec:ByteArray
 kind:Int
 at_:Int
 size:Int
 digest:ByteArray
 form:ByteArray
 deriving Inhabited
abbrev ba.row(x:ba):List D:=[.v (.string x.obj),.v (.string x.sec),.v (.int .i64 x.kind),.v (.int .i64 x.at_),.v (.int .i64 x.size),.v (.string x.digest),.v (.string x.form)]
abbrev ba.vs(x:ba):List Value:=[.string x.obj,.string x.sec,.int .i64 x.kind,.int .i64 x.at_,.int .i64 x.size,.string x.digest,.string x.form]
abbrev ba.val(x:ba):Value:=.agg #[.string x.obj,.string x.sec,.int .i64 x.kind,.int .i64 x.at_,.int .i64 x.size,.string x.digest,.string x.form]
def ba.ok(x:ba):Per:=cM (ef x.obj) (cM (ef x.sec) (cM (ef x.digest) (ef x.form)))
theorem ba.f_obj{ps:List Per}{x:ba}(h:Ent ps x.ok):Ent ps (ef x.obj):=(Ent.left h)
theorem ba.f_sec{ps:List Per}{x:ba}(h:Ent ps x.ok):Ent ps (ef x.sec):=(Ent.left (Ent.right h))
structure bA where
 name:ByteArray
 version:ByteArray
 main:Bool
 kind:Int
 at_:Int
 size:Int
 deriving Inhabited
abbrev bA.row(x:bA):List D:=[.v (.string x.name),.v (.string x.version),.v (.bool x.main),.v (.int .i64 x.kind),.v (.int .i64 x.at_),.v (.int .i64 x.size)]
abbrev bA.vs(x:bA):List Value:=[.string x.name,.string x.version,.bool x.main,.int .i64 x.kind,.int .i64 x.at_,.int .i64 x.size]
abbrev bA.val(x:bA):Value:=.agg #[.string x.name,.string x.version,.bool x.main,.int .i64 x.kind,.int .i64 x.at_,.int .i64 x.size]
def bA.ok(x:bA):Per:=cM (ef x.name) (ef x.version)
theorem bA.f_name{ps:List Per}{x:bA}(h:Ent ps x.ok):Ent ps (ef x.name):=(Ent.left h)
theorem bA.f_version{ps:List Per}{x:bA}(h:Ent ps x.ok):Ent ps (ef x.version):=(Ent.right h)
structure bK where
 name:ByteArray
 version:ByteArray
 kind:Int
 weak:Bool
 own:Bool
 deriving Inhabited
abbrev bK.row(x:bK):List D:=[.v (.string x.name),.v (.string x.version),.v (.int .i64 x.kind),.v (.bool x.weak),.v (.bool x.own)]
abbrev bK.vs(x:bK):List Value:=[.string x.name,.string x.version,.int .i64 x.kind,.bool x.weak,.bool x.own]
abbrev bK.val(x:bK):Value:=.agg #[.string x.name,.string x.version,.int .i64 x.kind,.bool x.weak,.bool x.own]
def bK.ok(x:bK):Per:=cM (ef x.name) (ef x.version)
theorem bK.f_name{ps:List Per}{x:bK}(h:Ent ps x.ok):Ent ps (ef x.name):=(Ent.left h)
theorem bK.f_version{ps:List Per}{x:bK}(h:Ent ps x.ok):Ent ps (ef x.version):=(Ent.right h)
structure fb where
 at_:Int
 kind:Int
 import_:Int
 add:Int
 deriving Inhabited
abbrev fb.row(x:fb):List D:=[.v (.int .i64 x.at_),.v (.int .i64 x.kind),.v (.int .i64 x.import_),.v (.int .i64 x.add)]
abbrev fb.vs(x:fb):List Value:=[.int .i64 x.at_,.int .i64 x.kind,.int .i64 x.import_,.int .i64 x.add]
abbrev fb.val(x:fb):Value:=.agg #[.int .i64 x.at_,.int .i64 x.kind,.int .i64 x.import_,.int .i64 x.add]
structure cN where
 name:ByteArray
 kind:Int
 at_:Int
 size:Int
 deriving Inhabited
abbrev cN.row(x:cN):List D:=[.v (.string x.name),.v (.int .i64 x.kind),.v (.int .i64 x.at_),.v (.int .i64 x.size)]
abbrev cN.vs(x:cN):List Value:=[.string x.name,.int .i64 x.kind,.int .i64 x.at_,.int .i64 x.size]
abbrev cN.val(x:cN):Value:=.agg #[.string x.name,.int .i64 x.kind,.int .i64 x.at_,.int .i64 x.size]
def cN.ok(x:cN):Per:=ef x.name
structure bC where
 at_:Int
 size:Int
 deriving Inhabited
abbrev bC.row(x:bC):List D:=[.v (.int .i64 x.at_),.v (.int .i64 x.size)]
abbrev bC.vs(x:bC):List Value:=[.int .i64 x.at_,.int .i64 x.size]
abbrev bC.val(x:bC):Value:=.agg #[.int .i64 x.at_,.int .i64 x.size]
structure cG where
 marks:Sl cN
 lines:Sl cS
 ends:Sl bC
 inlines:Sl bF
 vars:Sl dJ
 depths:Sl cC
 deriving Inhabited
abbrev cG.row(x:cG):List D:=[.v (.slice x.marks.ad x.marks.l.length x.marks.cap),.v (.slice x.lines.ad x.lines.l.length x.lines.cap),.v (.slice x.ends.ad x.ends.l.length x.ends.cap),.v (.slice x.inlines.ad x.inlines.l.length x.inlines.cap),.v (.slice x.vars.ad x.vars.l.length x.vars.cap),.v (.slice x.depths.ad x.depths.l.length x.depths.cap)]
abbrev cG.vs(x:cG):List Value:=[.slice x.marks.ad x.marks.l.length x.marks.cap,.slice x.lines.ad x.lines.l.length x.lines.cap,.slice x.ends.ad x.ends.l.length x.ends.cap,.slice x.inlines.ad x.inlines.l.length x.inlines.cap,.slice x.vars.ad x.vars.l.length x.vars.cap,.slice x.depths.ad x.depths.l.length x.depths.cap]
abbrev cG.val(x:cG):Value:=.agg #[.slice x.marks.ad x.marks.l.length x.marks.cap,.slice x.lines.ad x.lines.l.length x.lines.cap,.slice x.ends.ad x.ends.l.length x.ends.cap,.slice x.inlines.ad x.inlines.l.length x.inlines.cap,.slice x.vars.ad x.vars.l.length x.vars.cap,.slice x.depths.ad x.depths.l.length x.depths.cap]
def cG.ok(x:cG):Per:=cM (ShF (cN.row) x.marks) (cM (bz (fun y=>cN.ok y) x.marks.l) (cM (ShF (cS.row) x.lines) (cM (bz (fun y=>cS.ok y) x.lines.l) (cM (ShF (bC.row) x.ends) (cM (ShF (bF.row) x.inlines) (cM (bz (fun y=>bF.ok y) x.inlines.l) (cM (ShF (dJ.row) x.vars) (cM (bz (fun y=>dJ.ok y) x.vars.l) (ShF (cC.row) x.depths)))))))))
theorem cG.f_marks{ps:List Per}{x:cG}(h:Ent ps x.ok):Ent ps (ShF (cN.row) x.marks):=(Ent.left h)
theorem cG.f_lines{ps:List Per}{x:cG}(h:Ent ps x.ok):Ent ps (ShF (cS.row) x.lines):=(Ent.left (Ent.right (Ent.right h)))
theorem cG.f_ends{ps:List Per}{x:cG}(h:Ent ps x.ok):Ent ps (ShF (bC.row) x.ends):=(Ent.left (Ent.right (Ent.right (Ent.right (Ent.right h)))))
theorem cG.f_inlines{ps:List Per}{x:cG}(h:Ent ps x.ok):Ent ps (ShF (bF.row) x.inlines):=(Ent.left (Ent.right (Ent.right (Ent.right (Ent.right (Ent.right h))))))
theorem cG.f_vars{ps:List Per}{x:cG}(h:Ent ps x.ok):Ent ps (ShF (dJ.row) x.vars):=(Ent.left (Ent.right (Ent.right (Ent.right (Ent.right (Ent.right (Ent.right (Ent.right h))))))))
theorem cG.f_depths{ps:List Per}{x:cG}(h:Ent ps x.ok):Ent ps (ShF (cC.row) x.depths):=(Ent.right (Ent.right (Ent.right (Ent.right (Ent.right (Ent.right (Ent.right (Ent.right (Ent.right h)))))))))
structure cq where
 obj:ByteArray
 sec:ByteArray
 from_:ByteArray
 pieces:Sl dw
 code:Int
 deriving Inhabited
abbrev cq.row(x:cq):List D:=[.v (.string x.obj),.v (.string x.sec),.v (.string x.from_),.v (.slice x.pieces.ad x.pieces.l.length x.pieces.cap),.v (.int .i64 x.code)]
abbrev cq.vs(x:cq):List Value:=[.string x.obj,.string x.sec,.string x.from_,.slice x.pieces.ad x.pieces.l.length x.pieces.cap,.int .i64 x.code]
abbrev cq.val(x:cq):Value:=.agg #[.string x.obj,.string x.sec,.string x.from_,.slice x.pieces.ad x.pieces.l.length x.pieces.cap,.int .i64 x.code]
def cq.ok(x:cq):Per:=cM (ef x.obj) (cM (ef x.sec) (cM (ef x.from_) (ShF (dw.row) x.pieces)))
theorem cq.f_obj{ps:List Per}{x:cq}(h:Ent ps x.ok):Ent ps (ef x.obj):=(Ent.left h)
theorem cq.f_sec{ps:List Per}{x:cq}(h:Ent ps x.ok):Ent ps (ef x.sec):=(Ent.left (Ent.right h))
theorem cq.f_pieces{ps:List Per}{x:cq}(h:Ent ps x.ok):Ent ps (ShF (dw.row) x.pieces):=(Ent.right (Ent.right (Ent.right h)))
structure az where
 name:ByteArray
 lib:Bool
 code:Int
 data:Int
 zero:Int
 bytes:ByteArray
 tls:ByteArray
 block:Int
 nodes:Sl ba
 exports:Sl bA
 imports:Sl bK
 slots:Sl Int
 stubs:Sl Int
 dyns:Sl fb
 inits:Sl Int
 lasts:Sl Int
 entry:Int
 needs:Sl ByteArray
 versions:Sl aH
 info:cG
 changes:Sl cq
 deriving Inhabited
abbrev az.row(x:az):List D:=[.v (.string x.name),.v (.bool x.lib),.v (.int .i64 x.code),.v (.int .i64 x.data),.v (.int .i64 x.zero),.v (.string x.bytes),.v (.string x.tls),.v (.int .i64 x.block),.v (.slice x.nodes.ad x.nodes.l.length x.nodes.cap),.v (.slice x.exports.ad x.exports.l.length x.exports.cap),.v (.slice x.imports.ad x.imports.l.length x.imports.cap),.v (.slice x.slots.ad x.slots.l.length x.slots.cap),.v (.slice x.stubs.ad x.stubs.l.length x.stubs.cap),.v (.slice x.dyns.ad x.dyns.l.length x.dyns.cap),.v (.slice x.inits.ad x.inits.l.length x.inits.cap),.v (.slice x.lasts.ad x.lasts.l.length x.lasts.cap),.v (.int .i64 x.entry),.v (.slice x.needs.ad x.needs.l.length x.needs.cap),.v (.slice x.versions.ad x.versions.l.length x.versions.cap),.v (.slice x.info.marks.ad x.info.marks.l.length x.info.marks.cap),.v (.slice x.info.lines.ad x.info.lines.l.length x.info.lines.cap),.v (.slice x.info.ends.ad x.info.ends.l.length x.info.ends.cap),.v (.slice x.info.inlines.ad x.info.inlines.l.length x.info.inlines.cap),.v (.slice x.info.vars.ad x.info.vars.l.length x.info.vars.cap),.v (.slice x.info.depths.ad x.info.depths.l.length x.info.depths.cap),.v (.slice x.changes.ad x.changes.l.length x.changes.cap)]
abbrev az.vs(x:az):List Value:=[.string x.name,.bool x.lib,.int .i64 x.code,.int .i64 x.data,.int .i64 x.zero,.string x.bytes,.string x.tls,.int .i64 x.block,.slice x.nodes.ad x.nodes.l.length x.nodes.cap,.slice x.exports.ad x.exports.l.length x.exports.cap,.slice x.imports.ad x.imports.l.length x.imports.cap,.slice x.slots.ad x.slots.l.length x.slots.cap,.slice x.stubs.ad x.stubs.l.length x.stubs.cap,.slice x.dyns.ad x.dyns.l.length x.dyns.cap,.slice x.inits.ad x.inits.l.length x.inits.cap,.slice x.lasts.ad x.lasts.l.length x.lasts.cap,.int .i64 x.entry,.slice x.needs.ad x.needs.l.length x.needs.cap,.slice x.versions.ad x.versions.l.length x.versions.cap,.slice x.info.marks.ad x.info.marks.l.length x.info.marks.cap,.slice x.info.lines.ad x.info.lines.l.length x.info.lines.cap,.slice x.info.ends.ad x.info.ends.l.length x.info.ends.cap,.slice x.info.inlines.ad x.info.inlines.l.length x.info.inlines.cap,.slice x.info.vars.ad x.info.vars.l.length x.info.vars.cap,.slice x.info.depths.ad x.info.depths.l.length x.info.depths.cap,.slice x.changes.ad x.changes.l.length x.changes.cap]
abbrev az.val(x:az):Value:=.agg #[.string x.name,.bool x.lib,.int .i64 x.code,.int .i64 x.data,.int .i64 x.zero,.string x.bytes,.string x.tls,.int .i64 x.block,.slice x.nodes.ad x.nodes.l.length x.nodes.cap,.slice x.exports.ad x.exports.l.length x.exports.cap,.slice x.imports.ad x.imports.l.length x.imports.cap,.slice x.slots.ad x.slots.l.length x.slots.cap,.slice x.stubs.ad x.stubs.l.length x.stubs.cap,.slice x.dyns.ad x.dyns.l.length x.dyns.cap,.slice x.inits.ad x.inits.l.length x.inits.cap,.slice x.lasts.ad x.lasts.l.length x.lasts.cap,.int .i64 x.entry,.slice x.needs.ad x.needs.l.length x.needs.cap,.slice x.versions.ad x.versions.l.length x.versions.cap,.slice x.info.marks.ad x.info.marks.l.length x.info.marks.cap,.slice x.info.lines.ad x.info.lines.l.length x.info.lines.cap,.slice x.info.ends.ad x.info.ends.l.length x.info.ends.cap,.slice x.info.inlines.ad x.info.inlines.l.length x.info.inlines.cap,.slice x.info.vars.ad x.info.vars.l.length x.info.vars.cap,.slice x.info.depths.ad x.info.depths.l.length x.info.depths.cap,.slice x.changes.ad x.changes.l.length x.changes.cap]
def az.ok(x:az):Per:=cM (ef x.name) (cM (ef x.bytes) (cM (ef x.tls) (cM (ShF (ba.row) x.nodes) (cM (bz (fun y=>ba.ok y) x.nodes.l) (cM (ShF (bA.row) x.exports) (cM (bz (fun y=>bA.ok y) x.exports.l) (cM (ShF (bK.row) x.imports) (cM (bz (fun y=>bK.ok y) x.imports.l) (cM (ShF (fun z=>[.v (.int .i64 z)]) x.slots) (cM (ShF (fun z=>[.v (.int .i64 z)]) x.stubs) (cM (ShF (fb.row) x.dyns) (cM (ShF (fun z=>[.v (.int .i64 z)]) x.inits) (cM (ShF (fun z=>[.v (.int .i64 z)]) x.lasts) (cM (ShF (fun s=>[.v (.string s)]) x.needs) (cM (bz (fun y=>ef y) x.needs.l) (cM (ShF (aH.row) x.versions) (cM (bz (fun y=>aH.ok y) x.versions.l) (cM (cG.ok x.info) (cM (ShF (cq.row) x.changes) (bz (fun y=>cq.ok y) x.changes.l))))))))))))))))))))
theorem az.f_name{ps:List Per}{x:az}(h:Ent ps x.ok):Ent ps (ef x.name):=(Ent.left h)
theorem az.f_nodes{ps:List Per}{x:az}(h:Ent ps x.ok):Ent ps (ShF (ba.row) x.nodes):=(Ent.left (Ent.right (Ent.right (Ent.right h))))
theorem az.f_nodesA{ps:List Per}{x:az}(h:Ent ps x.ok):Ent ps (bz (fun y=>ba.ok y) x.nodes.l):=(Ent.left (Ent.right (Ent.right (Ent.right (Ent.right h)))))
theorem az.f_exports{ps:List Per}{x:az}(h:Ent ps x.ok):Ent ps (ShF (bA.row) x.exports):=(Ent.left (Ent.right (Ent.right (Ent.right (Ent.right (Ent.right h))))))
theorem az.f_exportsA{ps:List Per}{x:az}(h:Ent ps x.ok):Ent ps (bz (fun y=>bA.ok y) x.exports.l):=(Ent.left (Ent.right (Ent.right (Ent.right (Ent.right (Ent.right (Ent.right h)))))))
theorem az.f_imports{ps:List Per}{x:az}(h:Ent ps x.ok):Ent ps (ShF (bK.row) x.imports):=(Ent.left (Ent.right (Ent.right (Ent.right (Ent.right (Ent.right (Ent.right (Ent.right h))))))))
theorem az.f_importsA{ps:List Per}{x:az}(h:Ent ps x.ok):Ent ps (bz (fun y=>bK.ok y) x.imports.l):=(Ent.left (Ent.right (Ent.right (Ent.right (Ent.right (Ent.right (Ent.right (Ent.right (Ent.right h)))))))))
theorem az.f_slots{ps:List Per}{x:az}(h:Ent ps x.ok):Ent ps (ShF (fun z=>[.v (.int .i64 z)]) x.slots):=(Ent.left (Ent.right (Ent.right (Ent.right (Ent.right (Ent.right (Ent.right (Ent.right (Ent.right (Ent.right h))))))))))
theorem az.f_stubs{ps:List Per}{x:az}(h:Ent ps x.ok):Ent ps (ShF (fun z=>[.v (.int .i64 z)]) x.stubs):=(Ent.left (Ent.right (Ent.right (Ent.right (Ent.right (Ent.right (Ent.right (Ent.right (Ent.right (Ent.right (Ent.right h)))))))))))
theorem az.f_dyns{ps:List Per}{x:az}(h:Ent ps x.ok):Ent ps (ShF (fb.row) x.dyns):=(Ent.left (Ent.right (Ent.right (Ent.right (Ent.right (Ent.right (Ent.right (Ent.right (Ent.right (Ent.right (Ent.right (Ent.right h))))))))))))
theorem az.f_inits{ps:List Per}{x:az}(h:Ent ps x.ok):Ent ps (ShF (fun z=>[.v (.int .i64 z)]) x.inits):=(Ent.left (Ent.right (Ent.right (Ent.right (Ent.right (Ent.right (Ent.right (Ent.right (Ent.right (Ent.right (Ent.right (Ent.right (Ent.right h)))))))))))))
theorem az.f_lasts{ps:List Per}{x:az}(h:Ent ps x.ok):Ent ps (ShF (fun z=>[.v (.int .i64 z)]) x.lasts):=(Ent.left (Ent.right (Ent.right (Ent.right (Ent.right (Ent.right (Ent.right (Ent.right (Ent.right (Ent.right (Ent.right (Ent.right (Ent.right (Ent.right h))))))))))))))
theorem az.f_needs{ps:List Per}{x:az}(h:Ent ps x.ok):Ent ps (ShF (fun s=>[.v (.string s)]) x.needs):=(Ent.left (Ent.right (Ent.right (Ent.right (Ent.right (Ent.right (Ent.right (Ent.right (Ent.right (Ent.right (Ent.right (Ent.right (Ent.right (Ent.right (Ent.right h)))))))))))))))
theorem az.f_needsA{ps:List Per}{x:az}(h:Ent ps x.ok):Ent ps (bz (fun y=>ef y) x.needs.l):=(Ent.left (Ent.right (Ent.right (Ent.right (Ent.right (Ent.right (Ent.right (Ent.right (Ent.right (Ent.right (Ent.right (Ent.right (Ent.right (Ent.right (Ent.right (Ent.right h))))))))))))))))
theorem az.f_versions{ps:List Per}{x:az}(h:Ent ps x.ok):Ent ps (ShF (aH.row) x.versions):=(Ent.left (Ent.right (Ent.right (Ent.right (Ent.right (Ent.right (Ent.right (Ent.right (Ent.right (Ent.right (Ent.right (Ent.right (Ent.right (Ent.right (Ent.right (Ent.right (Ent.right h)))))))))))))))))
theorem az.f_versionsA{ps:List Per}{x:az}(h:Ent ps x.ok):Ent ps (bz (fun y=>aH.ok y) x.versions.l):=(Ent.left (Ent.right (Ent.right (Ent.right (Ent.right (Ent.right (Ent.right (Ent.right (Ent.right (Ent.right (Ent.right (Ent.right (Ent.right (Ent.right (Ent.right (Ent.right (Ent.right (Ent.right h))))))))))))))))))
theorem az.f_info{ps:List Per}{x:az}(h:Ent ps x.ok):Ent ps (cG.ok x.info):=(Ent.left (Ent.right (Ent.right (Ent.right (Ent.right (Ent.right (Ent.right (Ent.right (Ent.right (Ent.right (Ent.right (Ent.right (Ent.right (Ent.right (Ent.right (Ent.right (Ent.right (Ent.right (Ent.right h)))))))))))))))))))
theorem az.f_changes{ps:List Per}{x:az}(h:Ent ps x.ok):Ent ps (ShF (cq.row) x.changes):=(Ent.left (Ent.right (Ent.right (Ent.right (Ent.right (Ent.right (Ent.right (Ent.right (Ent.right (Ent.right (Ent.right (Ent.right (Ent.right (Ent.right (Ent.right (Ent.right (Ent.right (Ent.right (Ent.right (Ent.right h))))))))))))))))))))
theorem az.f_changesA{ps:List Per}{x:az}(h:Ent ps x.ok):Ent ps (bz (fun y=>cq.ok y) x.changes.l):=(Ent.right (Ent.right (Ent.right (Ent.right (Ent.right (Ent.right (Ent.right (Ent.right (Ent.right (Ent.right (Ent.right (Ent.right (Ent.right (Ent.right (Ent.right (Ent.right (Ent.right (Ent.right (Ent.right (Ent.right h))))))))))))))))))))
structure vX where
 name:ByteArray
 exports:Sl bA
 versions:Sl aH
 deriving Inhabited
abbrev vX.val(x:vX):Value:=.agg #[.string x.name,.slice x.exports.ad x.exports.l.length x.exports.cap,.slice x.versions.ad x.versions.l.length x.versions.cap]
end Go.Proofs.YtfkcmbonmpcbfaaGreat

namespace Go.Sy
open Go.RowKit Go.Lp Go.MapKept
structure ij {α:Type} (P:Program) (kt:TypeId) (κ:α→Value):Prop where
 inj:∀ a b,κ a=κ b→a=b
 check:∀ (w:World) (em:Bool) (a:α),(Instr.checkKey em 10000 kt (κ a)).run P w=.ok () w
 find:∀ (w:World) (x:α) (es:List MapEntry),(∀ e∈es,∃ a,e.key=κ a) →
   ((Instr.findKey kt (κ x) es).run P w=.ok none w∧∀ e∈es,e.key≠κ x)∨∃ j e,(Instr.findKey kt (κ x) es).run P w=.ok (some (j,e.val)) w∧es[j]? = some e∧e.key=κ x
 stays:∀ (w:World) (a:α),(Instr.keyThatStays (κ a) (κ a)).run P w=.ok (κ a) w
theorem oe{α:Type}{P:Program}{kt:TypeId}{d:TypeDesc}{κ:α→Value}(hd:P.underlying kt=some d)(hk:∀ a,IsKey d (κ a))(inj:∀ a b,κ a=κ b→a=b):ij P kt κ where
 inj:=inj
 check w em a:=run_checkKey hd (hk a) em 9999
 find w x es hes:=by
   rcases findNow_spec (hk x) es 0 (fun e he=>by obtain ⟨a,ha⟩:=hes e he;rw [ha];exact hk a) with ⟨h1,h2⟩ | ⟨j,e,h1,h2,h3⟩
   · exact .inl ⟨run_findKey hd h1,h2⟩
   · exact .inr ⟨j,e,by rw [Nat.zero_add] at h1;exact run_findKey hd h1,h2,h3⟩
 stays w a:=run_keyThatStays (hk a)
theorem adu{P:Program}{kt:TypeId}(hd:P.underlying kt=some .string):ij P kt (fun s:ByteArray=>Value.string s):=oe hd (fun _=>trivial) (fun _ _ h=>by injection h)
theorem adt{P:Program}{kt:TypeId}(hd:P.underlying kt=some (.int .i64)):ij P kt (fun z:Int=>Value.int .i64 z):=oe hd (fun _=>rfl) (fun _ _ h=>by injection h)
section
variable {α β:Type}
structure tR (κ:α→Value) (ν:β→Value) (m:α→Option β) (es:List MapEntry):Prop where
 of:∀ e∈es,∃ a v,e.key=κ a∧e.val=ν v∧m a=some v
 mem:∀ a v,m a=some v→∃ e∈es,e.key=κ a∧e.val=ν v
 apart:es.Pairwise fun e e'=>e.key≠e'.key
def fv(b:Nat)(κ:α→Value)(ν:β→Value)(m:α→Option β):Res :=
 ⟨fun w _ F=>(∃ es clock,w.heap[b]? = some (.map es clock)∧tR κ ν m es.toList∧Stamped es clock)∧∀ k,F k↔k=b,fun ⟨⟨es,clock,h,he⟩,hF⟩ h1 _ _=>⟨⟨es,clock,(h1 b ((hF b).2 rfl)).trans h,he⟩,hF⟩⟩
def ic[DecidableEq α](m:α→Option β)(k:α)(v:β):α→Option β:=fun a=>if a=k then some v else m a
variable {κ:α→Value} {ν:β→Value} {m:α→Option β} {P:Program} {kt:TypeId}
theorem tR.put[DecidableEq α](K:ij P kt κ){es:Array MapEntry}(h:tR κ ν m es.toList)(k:α)(v:β){clock:Nat}(h0:∀ e∈es.toList,e.key≠κ k):tR κ ν (ic m k v) (es.push { key:=κ k,val:=ν v,born:=clock }).toList where
 of e he:=by
   rw [Array.toList_push,List.mem_append,List.mem_singleton] at he
   rcases he with he | rfl
   · obtain ⟨a,u,h1,h2,h3⟩:=h.of e he
     refine ⟨a,u,h1,h2,?_⟩
     have:a≠k:=fun e'=>h0 e he (by rw [h1,e'])
     simp [ic,this,h3]
   · exact ⟨k,v,rfl,rfl,by simp [ic]⟩
 mem a u ha:=by
   unfold ic at ha
   split at ha
   · rename_i hak
     simp only [Option.some.injEq] at ha
     subst hak ha
     exact ⟨_,by rw [Array.toList_push];exact List.mem_append_right _ (List.mem_singleton.2 rfl),rfl,rfl⟩
   · obtain ⟨e,he,h1,h2⟩:=h.mem a u ha
     exact ⟨e,by rw [Array.toList_push];exact List.mem_append_left _ he,h1,h2⟩
 apart:=by
   rw [Array.toList_push,List.pairwise_append]
   exact ⟨h.apart,List.pairwise_singleton _ _,fun e he e' he'=>by rw [List.mem_singleton.1 he'];exact h0 e he⟩
theorem tR.turn[DecidableEq α](K:ij P kt κ){es:Array MapEntry}(h:tR κ ν m es.toList)(k:α)(v:β){j:Nat}{e0:MapEntry}(hj:es.toList[j]? = some e0)(h0:e0.key=κ k) :
   tR κ ν (ic m k v) (es.modify j fun e => { e with key:=κ k,val:=ν v }).toList:=by
 have hjl:j<es.toList.length:=(List.getElem?_eq_some_iff.1 hj).1
 have hg:∀ i,(es.modify j fun e => { e with key:=κ k,val:=ν v }).toList[i]? = if i=j then some { e0 with key:=κ k,val:=ν v } else es.toList[i]? := fun i=>by
   rw [Array.getElem?_toList,Array.getElem?_modify]
   by_cases hij:i=j
   · subst hij
     rw [if_pos rfl,if_pos rfl,← Array.getElem?_toList,hj];rfl
   · rw [if_neg hij,if_neg (Ne.symm hij),Array.getElem?_toList]
 have hpw:=List.pairwise_iff_getElem.1 h.apart
 have hne:∀ i e,es.toList[i]? = some e→i≠j→e.key≠κ k:=fun i e hi hij hk=>by
   obtain ⟨hil,rfl⟩:=List.getElem?_eq_some_iff.1 hi
   obtain ⟨_,rfl⟩:=List.getElem?_eq_some_iff.1 hj
   rcases Nat.lt_or_gt_of_ne hij with hlt | hlt
   · exact hpw i j hil hjl hlt (by rw [hk,h0])
   · exact hpw j i hjl hil hlt (by rw [hk,h0])
 refine ⟨fun e he => ?_,fun a u ha => ?_,?_⟩
 · obtain ⟨i,hi⟩:=List.mem_iff_getElem?.1 he
   rw [hg] at hi
   split at hi
   · simp only [Option.some.injEq] at hi
     subst hi
     exact ⟨k,v,rfl,rfl,by simp [ic]⟩
   · rename_i hij
     obtain ⟨a,u,h1,h2,h3⟩:=h.of e (List.mem_of_getElem? hi)
     refine ⟨a,u,h1,h2,?_⟩
     have:a≠k:=fun e'=>hne i e hi hij (by rw [h1,e'])
     simp [ic,this,h3]
 · unfold ic at ha
   split at ha
   · rename_i hak
     simp only [Option.some.injEq] at ha
     subst hak ha
     exact ⟨_,List.mem_of_getElem? (by rw [hg,if_pos rfl]),rfl,rfl⟩
   · rename_i hak
     obtain ⟨e,he,h1,h2⟩:=h.mem a u ha
     obtain ⟨i,hi⟩:=List.mem_iff_getElem?.1 he
     have hij:i≠j:=fun hij=>by
       rw [hij,hj] at hi
       simp only [Option.some.injEq] at hi
       subst hi
       exact hak (K.inj _ _ (by rw [← h1,h0]))
     exact ⟨e,List.mem_of_getElem? (i:=i) (by rw [hg,if_neg hij,hi]),h1,h2⟩
 · rw [List.pairwise_iff_getElem]
   intro i i' hi hi' hlt
   have l1:=List.getElem?_eq_getElem hi
   have l2:=List.getElem?_eq_getElem hi'
   rw [hg] at l1 l2
   split at l1
   · rename_i hij
     rw [if_neg (by omega)] at l2
     simp only [Option.some.injEq] at l1
     rw [← l1]
     exact fun e=>hne i' _ l2 (by omega) e.symm
   · rename_i hij
     split at l2
     · simp only [Option.some.injEq] at l2
       rw [← l2]
       exact hne i _ l1 hij
     · obtain ⟨q1,e1⟩:=List.getElem?_eq_some_iff.1 l1
       obtain ⟨q2,e2⟩:=List.getElem?_eq_some_iff.1 l2
       rw [← e1,← e2]
       exact hpw i i' q1 q2 hlt
variable {n:Fr} {env:Env} {ps:List Per} {hp:List Res} {ty:TypeId} {pos:String} {af:Array Edge} {gd:Option (Nat × Bool)} {K:Sta→Prop} {d:Option Tmp} {q:Bool}
theorem gh{t:Nat}{T:TypeId}(κ:α→Value)(ν:β→Value)(ht:fits n (some t)=true)(hK:∀ b,K ⟨(t,true,.map (some b))::env,ps,hp++[fv b κ ν fun _=>none]⟩) :
   Eff P n ⟨some t,.makeMap T none,ty,pos,af,gd⟩ ⟨env,ps,hp⟩ q K:=.push fun w S fp a hst he hn=>by
 have:(execOp a.eval ⟨some t,.makeMap T none,ty,pos,af,gd⟩).run P w=.ok (.value (.map (some w.heap.size))) (w.alloc (.map #[] 0)):=by
   show ((Instr.makeMap T none).bind fun r=>Sem.pure (Next.value r)).run P w=_
   rw [Sem.run_bind']
   have:(Instr.makeMap T none).run P w=.ok (.map (some w.heap.size)) (w.alloc (.map #[] 0)):=by
     simp [Instr.makeMap,Sem.run_bind,Result.andThen,newObj,Sem.run]
   rw [this];rfl
 rw [this]
 refine ⟨fv w.heap.size κ ν fun _=>none,fun b=>b=w.heap.size,_,hK w.heap.size,rfl,rfl,he.put (g:=true) (by rw [hn];simpa [fits] using ht) _,gE _ _,⟨⟨#[],0,qw _ _,⟨fun e he=>(by simp at he),fun a v h=>(by cases h),List.Pairwise.nil⟩,stamped_empty 0⟩,fun _=>Iff.rfl⟩,fun b hb => ?_⟩
 subst hb
 exact ⟨Nat.le_refl _,by rw [World.size_alloc];omega⟩
theorem fg[DecidableEq α]{T E:TypeId}{x y z:Operand}{b:Nat}{k:α}{v:β}(i:Nat)(hT:P.underlying T=some (.map kt E))(KO:ij P kt κ)(hx:ev env x=some (true,.map (some b)))(hy:ev env y=some (true,κ k))(hz:ev env z=some (true,ν v))(hi:hp[i]? = some (fv b κ ν m))
   (hK:K ⟨env,ps,hp.set i (fv b κ ν (ic m k v))⟩):Eff P n ⟨none,.mapUpdate T x y z,ty,pos,af,gd⟩ ⟨env,ps,hp⟩ false K:=.change i hi fun w S fp a hst he hn ⟨⟨es,clock,hb,hes,hsm⟩,hF⟩=>by
 have h1:=he.val hx rfl
 have h2:=he.val hy rfl
 have h3:=he.val hz rfl
 have key:∃ es' clock',(Instr.mapUpdate T (.map (some b)) (κ k) (ν v)).run P w=.ok () (w.putObj b (.map es' clock'))∧tR κ ν (ic m k v) es'.toList∧Stamped es' clock':=by
   rcases KO.find w k es.toList (fun e he=>let ⟨a,_,h,_⟩:=hes.of e he; ⟨a,h⟩) with ⟨f1,f2⟩ | ⟨j,e0,f1,f2,f3⟩
   · refine ⟨es.push { key:=κ k,val:=ν v,born:=clock },clock+1,?_,hes.put KO k v f2,stamped_push hsm f2⟩
     simp only [Instr.mapUpdate,Sem.run_bind,run_underlying hT,Result.andThen,Go.MapKept.run_getObj_map hb,KO.check,f1,Go.MapKept.run_setObj_map _ hb]
     rfl
   · refine ⟨es.modify j fun e => { e with key:=κ k,val:=ν v },clock,?_,hes.turn KO k v f2 f3,stamped_modify hsm j _ (fun _ _=>rfl) (fun e he h=>by rw [← Array.getElem?_toList,f2] at h;obtain rfl:=Option.some.inj h;exact f3.symm)⟩
     have f2':es[j]? = some e0:=by rw [← Array.getElem?_toList];exact f2
     simp only [Instr.mapUpdate,Sem.run_bind,run_underlying hT,Result.andThen,Go.MapKept.run_getObj_map hb,KO.check,f1,f2',Option.map_some,Option.getD_some,f3,KO.stays,Go.MapKept.run_setObj_map _ hb]
     rfl
 obtain ⟨es',clock',hrun,hes'⟩:=key
 have:(execOp a.eval ⟨none,.mapUpdate T x y z,ty,pos,af,gd⟩).run P w=.ok .skip (w.putObj b (.map es' clock')):=by
   unfold execOp;dsimp only;rw [h1,h2,h3]
   show ((Instr.mapUpdate T (.map (some b)) (κ k) (ν v)).bind fun _=>Sem.pure Next.skip).run P w=_
   rw [Sem.run_bind',hrun];rfl
 rw [this]
 have hbl:=(Array.getElem?_eq_some_iff.1 hb).1
 exact ⟨fv b κ ν (ic m k v),_,hK,rfl,rfl,he,⟨⟨es',clock',World.putObj_heap_same hbl,hes'⟩,hF⟩,rfl,rfl,⟨rfl,rfl⟩,by rw [World.putObj_size];exact Nat.le_refl _,fun b' _ hb'=>World.putObj_heap_other (fun e=>hb' ((hF b').2 e))⟩
theorem vH{T E:TypeId}{x y:Operand}{b:Nat}{k:α}{v0:β}(i:Nat)(ok:Bool)(hT:P.underlying T=some (.map kt E))(KO:ij P kt κ)(hz:(P.info? E).bind (·.zero)=some (ν v0))(hx:ev env x=some (true,.map (some b)))(hy:ev env y=some (true,κ k))(hi:hp[i]? = some (fv b κ ν m)) :
   Quiet P n ⟨d,.lookup T x y ok,ty,pos,af,gd⟩ ⟨env,ps,hp⟩ (bif ok then .tuple #[ν ((m k).getD v0),.bool (m k).isSome] else ν ((m k).getD v0)):=fun w S fp a hst he hn=>by
 have h1:=he.val hx rfl
 have h2:=he.val hy rfl
 obtain ⟨⟨es,clock,hb,hes,_⟩,hF⟩:=hst.res i _ hi
 have hzr:(zeroValue E).run P w=.ok (ν v0) w:=by
   cases hE:P.info? E with
   | none=>rw [hE] at hz;cases hz
   | some it =>
     rw [hE,Option.bind_some] at hz
     simp [zeroValue,typeInfo,hE,hz]
 have hrun:(Instr.lookup T (.map (some b)) (κ k) ok).run P w=.ok (bif ok then .tuple #[ν ((m k).getD v0),.bool (m k).isSome] else ν ((m k).getD v0)) w:=by
   rcases KO.find w k es.toList (fun e he=>let ⟨a,_,h,_⟩:=hes.of e he; ⟨a,h⟩) with ⟨f1,f2⟩ | ⟨j,e0,f1,f2,f3⟩
   · have hm:m k=none:=by
       cases hmk:m k with
       | none=>rfl
       | some u=>obtain ⟨e,he,g1,_⟩:=hes.mem k u hmk;exact (f2 e he g1).elim
     rw [hm]
     simp only [Instr.lookup,Sem.run_bind,run_underlying hT,Result.andThen,Go.MapKept.run_getObj_map hb,KO.check,f1,hzr,Sem.run_pure]
     cases ok<;>rfl
   · obtain ⟨a,u,g1,g2,g3⟩:=hes.of e0 (List.mem_of_getElem? f2)
     obtain rfl:a=k:=KO.inj _ _ (by rw [← g1,f3])
     rw [g3]
     simp only [Instr.lookup,Sem.run_bind,run_underlying hT,Result.andThen,Go.MapKept.run_getObj_map hb,KO.check,f1,Sem.run_pure,g2]
     cases ok<;>rfl
 have:(execOp a.eval ⟨d,.lookup T x y ok,ty,pos,af,gd⟩).run P w=.ok (.value (bif ok then .tuple #[ν ((m k).getD v0),.bool (m k).isSome] else ν ((m k).getD v0))) w:=by
   unfold execOp;dsimp only;rw [h1,h2]
   show ((Instr.lookup T (.map (some b)) (κ k) ok).bind fun r=>Sem.pure (Next.value r)).run P w=_
   rw [Sem.run_bind',hrun];rfl
 rw [this];exact cx _ _
theorem lZ{T E:TypeId}{x y:Operand}{b:Nat}{k:α}{v0:β}(i:Nat)(hT:P.underlying T=some (.map kt E))(KO:ij P kt κ)(hz:(P.info? E).bind (·.zero)=some (ν v0))(hx:ev env x=some (true,.map (some b)))(hy:ev env y=some (true,κ k))(hi:hp[i]? = some (fv b κ ν m)) :
   Quiet P n ⟨d,.lookup T x y false,ty,pos,af,gd⟩ ⟨env,ps,hp⟩ (ν ((m k).getD v0)):=vH i false hT KO hz hx hy hi
theorem vG{T E:TypeId}{x y:Operand}{b:Nat}{k:α}{v0:β}(i:Nat)(hT:P.underlying T=some (.map kt E))(KO:ij P kt κ)(hz:(P.info? E).bind (·.zero)=some (ν v0))(hx:ev env x=some (true,.map (some b)))(hy:ev env y=some (true,κ k))(hi:hp[i]? = some (fv b κ ν m)) :
   Quiet P n ⟨d,.lookup T x y true,ty,pos,af,gd⟩ ⟨env,ps,hp⟩ (.tuple #[ν ((m k).getD v0),.bool (m k).isSome]):=vH i true hT KO hz hx hy hi
end
end Go.Sy

namespace Go.Sy
open Go.RowKit
section
variable {P:Program} {n:Fr} {s:Sta} {d:Option Tmp} {ty:TypeId} {pos:String} {af:Array Edge} {gd:Option (Nat × Bool)} {x y:Operand} {t t':TypeId}
theorem adG{b1 b2:Bool}(hT:P.underlying t=some .bool)(hx:ev s.env x=some (true,.bool b1))(hy:ev s.env y=some (true,.bool b2)):Quiet P n ⟨d,.binOp .neq t x y t',ty,pos,af,gd⟩ s (.bool (!(b1 == b2))) :=
 .run2 hx hy fun ρ w h1 h2=>by
   unfold execOp;dsimp only;rw [h1,h2]
   simp only [eqGuard_at_bool,binOp,Sem.run_bind,Sem.run_pure,run_equal_bool w t b1 b2 hT,Result.andThen_ok]
theorem yl{k yk:IntKind}{a b:Int}(hx:ev s.env x=some (true,.int k a))(hy:ev s.env y=some (true,.int yk b))(hb:0≤b):Quiet P n ⟨d,.binOp .shl t x y t',ty,pos,af,gd⟩ s (.int k (k.wrap (a*2 ^ min b.toNat k.bits))) :=
 .run2 hx hy fun ρ w h1 h2=>by
   have e:Op.shift .shl k a yk b=pure (.int k (k.wrap (a*2 ^ min b.toNat k.bits))):=by unfold Op.shift;rw [if_neg (by omega)]
   unfold execOp;dsimp only;rw [h1,h2]
   have e2:(do eqGuard BinOp.shl t x y (Value.int k a) (Value.int yk b);binOp BinOp.shl t (Value.int k a) (Value.int yk b))=Op.shift .shl k a yk b:=by cases k<;>cases yk<;>rfl
   rw [e2,e];rfl
theorem abH{k yk:IntKind}{a b:Int}(hx:ev s.env x=some (true,.int k a))(hy:ev s.env y=some (true,.int yk b))(hb:0≤b):Quiet P n ⟨d,.binOp .shr t x y t',ty,pos,af,gd⟩ s (.int k (a.fdiv (2 ^ min b.toNat k.bits))) :=
 .run2 hx hy fun ρ w h1 h2=>by
   have e:Op.shift .shr k a yk b=pure (.int k (a.fdiv (2 ^ min b.toNat k.bits))):=by unfold Op.shift;rw [if_neg (by omega)]
   unfold execOp;dsimp only;rw [h1,h2]
   have e2:(do eqGuard BinOp.shr t x y (Value.int k a) (Value.int yk b);binOp BinOp.shr t (Value.int k a) (Value.int yk b))=Op.shift .shr k a yk b:=by cases k<;>cases yk<;>rfl
   rw [e2,e];rfl
theorem yj{k:IntKind}{a b:Int}(hx:ev s.env x=some (true,.int k a))(hy:ev s.env y=some (true,.int k b)):Quiet P n ⟨d,.binOp .or t x y t',ty,pos,af,gd⟩ s (.int k (k.wrap (BitVec.ofInt k.bits a ||| BitVec.ofInt k.bits b).toNat)) :=
 .run2 hx hy fun ρ w h1 h2=>by
   unfold execOp;dsimp only;rw [h1,h2];cases k<;>rfl
theorem abC{k:IntKind}{a b:Int}(hx:ev s.env x=some (true,.int k a))(hy:ev s.env y=some (true,.int k b)):Quiet P n ⟨d,.binOp .and t x y t',ty,pos,af,gd⟩ s (.int k (k.wrap (BitVec.ofInt k.bits a &&& BitVec.ofInt k.bits b).toNat)) :=
 .run2 hx hy fun ρ w h1 h2=>by
   unfold execOp;dsimp only;rw [h1,h2];cases k<;>rfl
end
end Go.Sy

