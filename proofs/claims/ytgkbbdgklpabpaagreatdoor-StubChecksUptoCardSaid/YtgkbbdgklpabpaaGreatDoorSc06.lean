/- Parts of the proof, in build order. No condition. -/
import Derived.Test.YtgkbbdgklpabpaaGreatDoorSc05
import Derived.Test.YtgkbbdgklpabpaaGreatDoorChecked
import Derived.Test.YtgkbbdgklpabpaaGreatDoorSc04
set_option linter.unusedSimpArgs false
set_option linter.unusedVariables false
set_option maxHeartbeats 20000000
set_option maxRecDepth 20000
namespace Go.Sy
open Go.RowKit Go.Lp
section
variable {w:World} {S F:ba} {A B C R:Res}
theorem qb(h:(fa A (fa B C)).holds w S F):(fa B (fa A C)).holds w S F:=by
 obtain ⟨G,H,a,⟨G2,H2,b,c,d2,e2⟩,d,e⟩:=h
 refine ⟨G2,fun x=>G x∨H2 x,b,⟨G,H2,a,c,fun x g h2=>d x g ((e2 x).2 (.inr h2)),fun x=>Iff.rfl⟩,fun x g2 h=>h.elim (fun g=>d x g ((e2 x).2 (.inl g2))) (fun h2=>d2 x g2 h2),fun x => ?_⟩
 rw [e x,e2 x]
 constructor
 · rintro (h | h | h)
   · exact .inr (.inl h)
   · exact .inl h
   · exact .inr (.inr h)
 · rintro (h | h | h)
   · exact .inr (.inl h)
   · exact .inl h
   · exact .inr (.inr h)
theorem fu(h:(fa A B).holds w S F)(hB:∀ F,B.holds w S F→C.holds w S F):(fa A C).holds w S F:=by
 obtain ⟨G,H,a,b,d,e⟩:=h
 exact ⟨G,H,a,hB H b,d,e⟩
theorem aaa(h:A.holds w S F):(fa emp A).holds w S F:=⟨fun _=>False,F,fun b h=>h,h,fun b h=>h.elim,fun b=>⟨.inr,fun h=>h.elim False.elim id⟩⟩
theorem yZ(h:(fa emp A).holds w S F):A.holds w S F:=by
 obtain ⟨G,H,a,b,d,e⟩:=h
 have:F=H:=funext fun x=>propext ((e x).trans ⟨fun h=>h.elim (fun g=>absurd g (a x)) id,.inr⟩)
 rw [this];exact b
def eh:List Res→Res
 | []=>emp
 | A::L=>fa A (eh L)
theorem jQ:∀ (L:List Res) (k:Nat) (F:ba),L[k]? = some R→(eh L).holds w S F→(fa R (eh (L.set k emp))).holds w S F
 | [],_,_,h,_=>by simp at h
 | A::L,0,F,h,hs=>by
   simp only [List.getElem?_cons_zero,Option.some.injEq] at h
   subst h
   exact fu hs fun F h=>aaa h
 | A::L,k+1,F,h,hs=>qb (fu hs fun F h'=>jQ L k F (by simpa using h) h')
theorem qd:∀ (L:List Res) (k:Nat) (F:ba),k<L.length→(fa R (eh (L.set k emp))).holds w S F→(eh (L.set k R)).holds w S F
 | [],_,_,h,_=>by simp at h
 | A::L,0,F,_,hs=>fu hs fun F h=>yZ h
 | A::L,k+1,F,h,hs=>fu (qb hs) fun F h'=>qd L k F (by simpa using h) h'
theorem oD:∀ (L:List Res),(∀ A∈L,A.holds w S fun _=>False)→(eh L).holds w S fun _=>False
 | [],_=>fun _ h=>h
 | A::L,h=>⟨fun _=>False,fun _=>False,h A (List.mem_cons_self ..),oD L fun B hB=>h B (List.mem_cons_of_mem _ hB),fun _ h=>h.elim,fun _=>⟨.inl,fun h=>h.elim id id⟩⟩
theorem qc:∀ (L:List Res) (F:ba),(eh L).holds w S F→∀ (k:Nat) (A:Res),L[k]? = some A→∃ G:ba,(∀ b,G b→F b)∧A.holds w S G:=fun L F h k A hk=>by
 obtain ⟨G,H,a,_,_,e⟩:=jQ L k F hk h
 exact ⟨G,fun b hb=>(e b).2 (.inl hb),a⟩
theorem db{v:Value}{T:TypeId}{sz:Nat}{rows:List (List D)}(hr:(aP v T sz rows).holds w S F):dT w (fun b=>S b∨F b) v (.sl rows):=by
 have hS:∀ b,S b→(S b∨F b):=fun _ h=>.inl h
 rcases hr with ⟨rfl,rfl,_⟩ | ⟨b,cap,rfl,⟨cs,sp,hb,hrows,hl,hle,hcap⟩,hF⟩
 · exact .e none 0 (by unfold maxLen;omega)
 · refine .sl b 0 cap sz rows (fun i j=>cs.getD (i*sz+j) undef) (.inr ((hF b).2 rfl)) hle hcap hrows.row (fun i j r d h1 h2 => ?_) (fun i j r d h1 h2 => ?_)
   · obtain ⟨u,hu,_⟩:=hrows.rep i j r d h1 h2
     have e:cs.getD (i*sz+j) undef=u:=by simp [List.getD,hu]
     rw [e]
     refine ⟨?_,hrows.one u (List.mem_of_getElem? hu)⟩
     rw [Nat.zero_add,dL hb,List.getElem?_append_left (List.getElem?_eq_some_iff.1 hu).1];exact hu
   · obtain ⟨u,hu,hr⟩:=hrows.rep i j r d h1 h2
     have e:cs.getD (i*sz+j) undef=u:=by simp [List.getD,hu]
     rw [e]
     exact hr.mono (fun _ _=>rfl) hS
end
theorem qa{w:World}{S:ba}{fp:Nat→ba}{ps:List Per}{hp:List Res}(hst:St w S fp ps hp)(i:Nat){R:Res}(hi:hp[i]? = some R){p:Per}(h:∀ w S F,R.holds w S F→p.holds w (fun b=>S b∨F b)) :
   St w (fun b=>S b∨fp i b) (fun k=>if k=i then (fun _=>False) else fp k) (p::ps) (hp.set i emp):=by
 have hil:=(List.getElem?_eq_some_iff.1 hi).1
 have hr:=hst.res i _ hi
 have hst0:=hst.drop i
 have hS:∀ b,S b→(S b∨fp i b):=fun _ h=>.inl h
 refine ⟨fun p' hp' => ?_,fun j R hj=>R.mono (hst0.res j R hj) (fun _ _=>rfl) (fun _ _=>rfl) hS,fun j hj b hb => ?_,hst0.dj,fun b hb=>hb.elim (hst.slt b) (fun h=>(hst.lt i hil b h).1)⟩
 · rcases List.mem_cons.1 hp' with rfl | h2
   · exact h w S (fp i) hr
   · exact p'.mono (hst.per p' h2) (fun _ _=>rfl) hS
 · have hj':j<hp.length:=by simpa using hj
   by_cases hji:j=i
   · rw [if_pos hji] at hb;exact hb.elim
   · rw [if_neg hji] at hb
     exact ⟨(hst.lt j hj' b hb).1,fun h=>h.elim (hst.lt j hj' b hb).2 (hst.dj j i hj' hil hji b hb)⟩
section
variable {P:Program} {n:Fr} {env:Env} {ps:List Per} {hp:List Res} {c:Code} {Q:Exit→Sta→Prop}
theorem cK(i:Nat){R:Res}(p:Per)(hi:hp[i]? = some R)(h0:∀ w S F,R.holds w S F→p.holds w (fun b=>S b∨F b))(h:awp P n c Q ⟨env,p::ps,hp.set i emp⟩):awp P n c Q ⟨env,ps,hp⟩:=fun w S fp a hst he hn hd=>by
 have hil:=(List.getElem?_eq_some_iff.1 hi).1
 have h1:=qa hst i hi h0
 have htot:∀ b,tot (fun k=>if k=i then (fun _=>False) else fp k) (hp.set i emp).length b→tot fp hp.length b:=fun b ⟨j,hj,hb⟩=>by
   dsimp only at hb
   by_cases hji:j=i
   · rw [if_pos hji] at hb;exact hb.elim
   · rw [if_neg hji] at hb;exact ⟨j,by simpa using hj,hb⟩
 have hE:Evo w S (tot fp hp.length) w (fun b=>S b∨fp i b):=⟨rfl,rfl,rfl,Nat.le_refl _,Nat.le_refl _,fun _ _ _=>rfl,fun _ h=>.inl h,fun b hb=>hb.elim .inl fun h=>.inr (.inl ⟨i,hil,h⟩)⟩
 exact ei (fun e a2 w2 hp2=>hp2.trans hE (fun b hb=>.inl (htot b hb))) (h w _ _ a h1 he hn hd)
theorem aZ(i:Nat){b:Nat}{T:TypeId}{cs:List Value}(hi:hp[i]? = some (Box b T cs))(h1:cs.all (·.oneCell')=true)(h:awp P n c Q ⟨env,At b 0 (cs.map D.v)::ps,hp.set i emp⟩):awp P n c Q ⟨env,ps,hp⟩ :=
 cK i (At b 0 (cs.map D.v)) hi (fun w S F ⟨hb,hF⟩=>⟨.inr ((hF b).2 rfl),fun j d hj=>by
   rw [List.getElem?_map] at hj
   cases hc:cs[j]? with
   | none=>rw [hc] at hj;cases hj
   | some u =>
     rw [hc] at hj
     simp only [Option.map_some,Option.some.injEq] at hj
     exact ⟨u,by rw [Nat.zero_add,dL hb];exact hc,List.all_eq_true.1 h1 u (List.mem_of_getElem? hc),by rw [← hj];exact .v u⟩⟩) h
end
section
variable {α:Type} [Inhabited α] {enc:α→Value}
def ct(vs:List Value):List (List D):=vs.map fun v=>[.v v]
@[simp] theorem jg (vs:List Value):(ct vs).length=vs.length:=by simp [ct]
def inner(E:TypeId)(enc:α→Value)(vs:List Value)(l:List (List α)):List Res:=List.zipWith (fun v x=>aP v E 1 (bF enc x)) vs l
def iw(vo:Value)(T E:TypeId)(enc:α→Value)(l:List (List α)):Res :=
 ⟨fun w S F=>∃ vs:List Value,vs.length=l.length∧(fa (aP vo T 1 (ct vs)) (eh (inner E enc vs l))).holds w S F,
  fun ⟨vs,h0,h⟩ h1 h2 h3=>⟨vs,h0,(fa (aP vo T 1 (ct vs)) (eh (inner E enc vs l))).mono h h1 h2 h3⟩⟩
omit [Inhabited α] in
theorem lq{E:TypeId}{vs:List Value}{l:List (List α)}{k:Nat}{v:Value}{x:List α}(hv:vs[k]? = some v)(hx:l[k]? = some x):(inner E enc vs l)[k]? = some (aP v E 1 (bF enc x)):=by
 unfold inner;rw [List.getElem?_zipWith,hv,hx]
omit [Inhabited α] in
theorem pO{E:TypeId}{v:Value}{x:List α} : ∀ (vs:List Value) (l:List (List α)) (k:Nat),inner E enc (vs.set k v) (l.set k x)=(inner E enc vs l).set k (aP v E 1 (bF enc x))
 | [],_,_=>by simp [inner]
 | _::_,[],_=>by simp [inner]
 | a::vs,b::l,0=>rfl
 | a::vs,b::l,k+1=>by
   have:=pO (E:=E) (v:=v) (x:=x) vs l k
   unfold inner at this ⊢
   simp only [List.set_cons_succ,List.zipWith_cons_cons,this]
variable {P:Program} {n:Fr} {env:Env} {ps:List Per} {hp:List Res} {c:Code} {Q:Exit→Sta→Prop} {vo:Value} {T E:TypeId} {l:List (List α)}
omit [Inhabited α] in
theorem gM(i k:Nat){x:List α}(hi:hp[i]? = some (iw vo T E enc l))(hk:l[k]? = some x)
   (h:∀ vs v,vs.length=l.length→vs[k]? = some v→awp P n c Q ⟨env,ps,(hp.set i (aP vo T 1 (ct vs))++[aP v E 1 (bF enc x)])++[eh ((inner E enc vs l).set k emp)]⟩):awp P n c Q ⟨env,ps,hp⟩:=by
 have hil:=(List.getElem?_eq_some_iff.1 hi).1
 refine pz (β := {p:List Value × Value // p.1.length=l.length∧p.1[k]? = some p.2}) i (fun p=>fa (aP vo T 1 (ct p.1.1)) (fa (aP p.1.2 E 1 (bF enc x)) (eh ((inner E enc p.1.1 l).set k emp)))) hi (fun w S F hh => ?_) fun ⟨⟨vs,v⟩,h1,h2⟩ => ?_
 · obtain ⟨vs,h0,hs⟩:=hh
   have hkl:=(List.getElem?_eq_some_iff.1 hk).1
   obtain ⟨v,hv⟩:∃ v,vs[k]? = some v:=⟨vs[k]'(by omega),by simp⟩
   exact ⟨⟨(vs,v),h0,hv⟩,fu hs fun F h=>jQ _ k F (lq hv hk) h⟩
 · refine pA i (by rw [List.getElem?_set_self hil]) ?_
   rw [List.set_set]
   refine pA (hp.set i (aP vo T 1 (ct vs))).length (by rw [List.getElem?_append_right (Nat.le_refl _),Nat.sub_self];rfl) ?_
   rw [List.set_append_right _ _ (Nat.le_refl _),Nat.sub_self]
   exact h vs v h1 h2
omit [Inhabited α] in
theorem fx(i j m k:Nat){vs:List Value}{v:Value}{x:List α}(hi:hp[i]? = some (aP vo T 1 (ct (vs.set k v))))(hj:hp[j]? = some (aP v E 1 (bF enc x)))(hm:hp[m]? = some (eh ((inner E enc vs l).set k emp)))
   (hij:(i == j)=false) (him:(i == m)=false) (hjm:(j == m)=false) (hl:vs.length=l.length) (hk:k<l.length) (h:awp P n c Q ⟨env,ps,((hp.set j emp).set m emp).set i (iw vo T E enc (l.set k x))⟩):awp P n c Q ⟨env,ps,hp⟩:=by
 have hij':i≠j:=by simpa using hij
 have him':i≠m:=by simpa using him
 have hjm':j≠m:=by simpa using hjm
 have hil:=(List.getElem?_eq_some_iff.1 hi).1
 have hjl:=(List.getElem?_eq_some_iff.1 hj).1
 refine rH j m hj hm hjm ?_
 refine rH i j (R:=aP vo T 1 (ct (vs.set k v))) (R':=fa (aP v E 1 (bF enc x)) (eh ((inner E enc vs l).set k emp))) ?_ ?_ hij ?_
 · rw [List.getElem?_set_ne (Ne.symm him'),List.getElem?_set_ne (Ne.symm hij')];exact hi
 · rw [List.getElem?_set_ne (Ne.symm hjm'),List.getElem?_set_self hjl]
 refine jU i (iw vo T E enc (l.set k x)) (R:=fa (aP vo T 1 (ct (vs.set k v))) (fa (aP v E 1 (bF enc x)) (eh ((inner E enc vs l).set k emp)))) ?_ (fun w S F hh => ?_) ?_
 · rw [List.getElem?_set_ne (Ne.symm hij'),List.getElem?_set_self (by simpa using hil)]
 · refine ⟨vs.set k v,by simp [hl],fu hh fun F h => ?_⟩
   rw [pO]
   exact qd _ k F (by unfold inner;simp;omega) h
 · have e:((((hp.set j (fa (aP v E 1 (bF enc x)) (eh ((inner E enc vs l).set k emp)))).set m emp).set i (fa (aP vo T 1 (ct (vs.set k v))) (fa (aP v E 1 (bF enc x)) (eh ((inner E enc vs l).set k emp))))).set j emp).set i (iw vo T E enc (l.set k x))=((hp.set j emp).set m emp).set i (iw vo T E enc (l.set k x)):=by
     apply List.ext_getElem?
     intro q
     simp only [List.getElem?_set,List.length_set]
     by_cases h1:i=q
     · simp [h1]
     · by_cases h2:j=q
       · subst h2;simp [h1,Ne.symm hjm',hjm']
       · by_cases h3:m=q
         · simp [h1,h2,h3]
         · simp [h1,h2,h3]
   rw [e];exact h
omit [Inhabited α] in
theorem lI(i m:Nat)(hi:hp[i]? = some (aP vo T 1 (List.replicate m [.v (.slice none 0 0)])))(h:awp P n c Q ⟨env,ps,hp.set i (iw vo T E enc (List.replicate m ([]:List α)))⟩):awp P n c Q ⟨env,ps,hp⟩:=by
 refine jU i (iw vo T E enc (List.replicate m ([]:List α))) hi (fun w S F hh=>⟨List.replicate m (.slice none 0 0),by simp,?_⟩) h
 have e:ct (List.replicate m (.slice none 0 0))=List.replicate m [.v (.slice none 0 0)]:=by simp [ct]
 rw [e]
 refine ⟨F,fun _=>False,hh,oD _ fun A hA => ?_,fun _ _ h=>h,fun b=>⟨.inl,fun h=>h.elim id False.elim⟩⟩
 unfold inner at hA
 rw [List.zipWith_replicate] at hA
 obtain ⟨_,rfl⟩:=List.mem_replicate.1 hA
 exact .inl ⟨rfl,rfl,fun _ h=>h⟩
end
def acv(D:Nat):Deferred := { target:=.collected D,args := #[] }
theorem Evo.putObj{w:World}{S X:ba}{l:Nat}{o:Obj}(hl:X l):Evo w S X (w.putObj l o) S where
 os:=rfl
 tape:=rfl
 output:=rfl
 size:=by rw [World.putObj_size];exact Nat.le_refl _
 drawn:=Nat.le_refl _
 block b _ hx:=World.putObj_heap_other (fun e=>hx (by rw [e];exact hl))
 more _ h:=h
 new _ h:=.inl h
theorem St.putObj{w:World}{S:ba}{fp:Nat→ba}{ps:List Per}{hp:List Res}(h:St w S fp ps hp){i l:Nat}(hi:i<hp.length)(hl:fp i l)(o:Obj)(R:Res)(hR:R.holds (w.putObj l o) S (fp i)):St (w.putObj l o) S fp ps (hp.set i R) :=
 h.change hi (by rw [World.putObj_size];exact Nat.le_refl _) (fun b _ hb=>World.putObj_heap_other (fun e=>hb (by rw [e];exact hl))) R hR

def adL(P:Program)(l:Nat)(args:List Value)(ps:List Per)(hp:List Res)(R:Value→List Per→List Res→Prop):Prop :=
 ∀ (w:World) (S:ba) (fp:Nat→ba),St w S fp ps hp→fB P (fun v w'=>∃ ps' hp' S' fp',R v ps' hp'∧St w' S' fp' ps' hp'∧Evo w S (tot fp hp.length) w' S'∧∀ b,tot fp' hp'.length b→tot fp hp.length b∨w.heap.size≤b) ((Instr.yield l args.toArray).run P w)
section
variable {P:Program} {n:Fr} {env:Env} {ps:List Per} {hp:List Res} {ty:TypeId} {pos:String} {af:Array Edge} {gd:Option (Nat × Bool)} {K:Sta→Prop} {d:Option Tmp}
end
def ve(P:Program)(fn:Func)(R:Value→List Per→List Res→Prop)(w:World)(S X:ba)(e:Exit)(a':Act)(w':World):Prop :=
 (e=.normal∨e=.ret)∧∃ (v:Value) (ds:List Nat) (ps':List Per) (hp':List Res) (S':ba) (fp':Nat→ba),(∀ w2,(results fn a'.tmps).run P w2=.ok v w2)∧a'.defers=ds.map acv∧ds.Nodup∧R v ps' hp'∧St w' S' fp' ps' hp'∧Evo w S X w' S'∧(∀ b,tot fp' hp'.length b→X b∨w.heap.size≤b) ∧
   ∀ D∈ds,w'.heap[D]? = some (.deferred (some []))∧¬ S' D∧¬ tot fp' hp'.length D∧(X D∨w.heap.size≤D)
def fwp(P:Program)(fn:Func)(n:Fr)(c:Code)(R:Value→List Per→List Res→Prop)(s:Sta):Prop :=
 ∀ (w:World) (S:ba) (fp:Nat→ba) (a:Act),St w S fp s.ps s.hp→cG a s.env→a.tmps.size=n.size→a.defers=n.dfr→c.wpIn (fnc n.ro) 0 P (ve P fn R w S (tot fp s.hp.length)) a w
section
variable {P:Program} {fn:Func} {n:Fr} {R:Value→List Per→List Res→Prop} {s:Sta}
theorem ve.trans{w w1:World}{S X S1 X1:ba}(hE:Evo w S X w1 S1)(hX:∀ b,X1 b→X b∨w.heap.size≤b){e:Exit}{a:Act}{w2:World}(h:ve P fn R w1 S1 X1 e a w2):ve P fn R w S X e a w2:=by
 obtain ⟨he,v,ds,ps',hp',S',fp',h1,h2,h3,h4,h5,h6,h7,h8⟩:=h
 have hX':∀ b,X1 b∨w1.heap.size≤b→X b∨w.heap.size≤b:=fun b hb=>hb.elim (hX b) (fun h=>.inr (Nat.le_trans hE.size h))
 exact ⟨he,v,ds,ps',hp',S',fp',h1,h2,h3,h4,h5,hE.trans h6 hX,fun b hb=>hX' b (h7 b hb),fun D hD=>let ⟨a1,a2,a3,a4⟩:=h8 D hD; ⟨a1,a2,a3,hX' D a4⟩⟩
end
structure Sl (α:Type) where
 ad:Option Addr
 cap:Nat
 l:List α
instance {α:Type} : Inhabited (Sl α):=⟨⟨none,0,[]⟩⟩
abbrev Sl.val{α:Type}(s:Sl α):Value:=.slice s.ad s.l.length s.cap
abbrev ShF{α:Type}(row:α→List D)(s:Sl α):Per:=Sh (.slice s.ad s.l.length s.cap) (.sl (s.l.map row))
def bu{α:Type}(p:α→Per)(l:List α):Per:=⟨fun w S=>∀ x∈l,(p x).holds w S,fun h h1 h2 x hx=>(p x).mono (h x hx) h1 h2⟩
def bQ(p q:Per):Per:=⟨fun w S=>p.holds w S∧q.holds w S,fun h h1 h2=>⟨p.mono h.1 h1 h2,q.mono h.2 h1 h2⟩⟩
section
variable {α:Type} {ps:List Per} {p q:Per}
theorem Ent.all{f:α→Per}{l:List α}{i:Nat}{x:α}(h:Ent ps (bu f l))(hx:l[i]? = some x):Ent ps (f x):=fun w S hp=>h w S hp x (List.mem_of_getElem? hx)
theorem Ent.allm{f:α→Per}{l:List α}{x:α}(h:Ent ps (bu f l))(hx:x∈l):Ent ps (f x):=fun w S hp=>h w S hp x hx
theorem Ent.left(h:Ent ps (bQ p q)):Ent ps p:=fun w S hp=>(h w S hp).1
theorem Ent.right(h:Ent ps (bQ p q)):Ent ps q:=fun w S hp=>(h w S hp).2
theorem Ent.yes{c:Bool}(h:Ent ps (cnd c p))(hc:c=true):Ent ps p:=fun w S hp=>h w S hp hc
theorem ak{row:α→List D}{l:List α}{i:Nat}{x:α}(h:l[i]? = some x):(l.map row)[i]? = some (row x):=by rw [List.getElem?_map,h];rfl
end
theorem Con.quiet2{P:Program}{v:Value}{f:FuncId}{args:List Value}{p q:Per}(h:Con P f args [p,q] [] fun u _ _=>u=v){w:World}{S:ba}{fp:Nat→ba}{ps':List Per}{hp:List Res}(hp1:p∈ps')(hq1:q∈ps')(hst:St w S fp ps' hp) :
   Calls P f args.toArray w fun e w'=>e=.returned v∧Below w.heap.size w w':=h.quiet (fun _ h=>by
     rcases List.mem_cons.1 h with rfl | h
     · exact hp1
     · rw [List.mem_singleton.1 h];exact hq1) hst
theorem aO{P:Program}{n:Fr}{Q:Exit→Sta→Prop}{s:Sta}{c:Code}{ad:Option Addr}{m cp:Nat}{rows:List (List D)}(hs:Ent s.ps (Sh (.slice ad m cp) (.sl rows)))(h:m≤9223372036854775807→awp P n c Q s):awp P n c Q s :=
 gp (fun w S fp hst=>by
   have h:dT w S (.slice ad m cp) (.sl rows):=hs w S hst.per
   cases h with
   | e a c hc=>simp
   | sl b o c sz rows us hb hn hc _ _ _=>unfold maxLen at hc;omega) h
theorem pw{P:Program}{n:Fr}{Q:Exit→Sta→Prop}{env:Env}{ps:List Per}{hp hp':List Res}{c:Code}(h:hp=hp')(k:awp P n c Q ⟨env,ps,hp'⟩):awp P n c Q ⟨env,ps,hp⟩:=h ▸ k
def elt{α:Type}[Inhabited α](l:List α)(i:Int):α:=l.getD i.toNat default
theorem cS{α:Type}[Inhabited α]{l:List α}{i:Int}(h:i<l.length)(h0:0≤i):l[i.toNat]? = some (elt l i):=by
 have:i.toNat<l.length:=by omega
 simp [elt,List.getD,this]
theorem bA{α:Type}[Inhabited α]{l:List α}{i:Nat}(h:i<l.length):l[i]? = some (elt l (i:Int)):=by simp [elt,List.getD,h]
theorem bN{α:Type}[Inhabited α]{row:α→List D}{l:List α}{i:Int}(h:i<l.length)(h0:0≤i):(l.map row)[i.toNat]? = some (row (elt l i)):=ak (cS h h0)
theorem Ent.elt{α:Type}[Inhabited α]{ps:List Per}{f:α→Per}{l:List α}{i:Int}(h:Ent ps (bu f l))(h1:i<l.length)(h0:0≤i):Ent ps (f (elt l i)):=h.all (cS h1 h0)
def cX(s:ByteArray):Per:=Fa (s.size≤maxLen)
section
variable {P:Program} {n:Fr} {env:Env} {ps:List Per} {hp:List Res} {c:Code} {Q:Exit→Sta→Prop}
theorem abv{φ:Prop}(h:Ent ps (Fa φ))(k:φ→awp P n c Q ⟨env,ps,hp⟩):awp P n c Q ⟨env,ps,hp⟩:=fun w S fp a hst he hn hd=>k (h w S hst.per) w S fp a hst he hn hd
theorem cL{s:ByteArray}(h:Ent ps (cX s))(k:s.size≤maxLen→awp P n c Q ⟨env,ps,hp⟩):awp P n c Q ⟨env,ps,hp⟩:=abv h k
end
end Go.Sy

namespace Go.Proofs.YtgkbbdgklpabpaaGreatDoor
open Go.RowKit Go.Lp Go.Sy
structure aR where
 name:ByteArray
 parents:Sl ByteArray
 deriving Inhabited
abbrev aR.row(x:aR):List D:=[.v (.string x.name),.v (.slice x.parents.ad x.parents.l.length x.parents.cap)]
abbrev aR.vs(x:aR):List Value:=[.string x.name,.slice x.parents.ad x.parents.l.length x.parents.cap]
def aR.ok(x:aR):Per:=bQ (cX x.name) (bQ (ShF (fun s=>[.v (.string s)]) x.parents) (bu (fun y=>cX y) x.parents.l))
theorem aR.f_name{ps:List Per}{x:aR}(h:Ent ps x.ok):Ent ps (cX x.name):=(Ent.left h)
theorem aR.f_parents{ps:List Per}{x:aR}(h:Ent ps x.ok):Ent ps (ShF (fun s=>[.v (.string s)]) x.parents):=(Ent.left (Ent.right h))
structure bw where
 name:ByteArray
 kind:Int
 align:Int
 size:Int
 bytes:ByteArray
 keep:Bool
 deriving Inhabited
abbrev bw.row(x:bw):List D:=[.v (.string x.name),.v (.int .i64 x.kind),.v (.int .i64 x.align),.v (.int .i64 x.size),.v (.string x.bytes),.v (.bool x.keep)]
abbrev bw.val(x:bw):Value:=.agg #[.string x.name,.int .i64 x.kind,.int .i64 x.align,.int .i64 x.size,.string x.bytes,.bool x.keep]
def bw.ok(x:bw):Per:=bQ (cX x.name) (cX x.bytes)
theorem bw.f_name{ps:List Per}{x:bw}(h:Ent ps x.ok):Ent ps (cX x.name):=(Ent.left h)
theorem bw.f_bytes{ps:List Per}{x:bw}(h:Ent ps x.ok):Ent ps (cX x.bytes):=(Ent.right h)
structure bJ where
 name:ByteArray
 version:ByteArray
 main:Bool
 bind:Int
 vis:Int
 kind:Int
 sec:Int
 at_:Int
 size:Int
 align:Int
 deriving Inhabited
abbrev bJ.row(x:bJ):List D:=[.v (.string x.name),.v (.string x.version),.v (.bool x.main),.v (.int .i64 x.bind),.v (.int .i64 x.vis),.v (.int .i64 x.kind),.v (.int .i64 x.sec),.v (.int .i64 x.at_),.v (.int .i64 x.size),.v (.int .i64 x.align)]
abbrev bJ.val(x:bJ):Value:=.agg #[.string x.name,.string x.version,.bool x.main,.int .i64 x.bind,.int .i64 x.vis,.int .i64 x.kind,.int .i64 x.sec,.int .i64 x.at_,.int .i64 x.size,.int .i64 x.align]
def bJ.ok(x:bJ):Per:=bQ (cX x.name) (cX x.version)
theorem bJ.f_name{ps:List Per}{x:bJ}(h:Ent ps x.ok):Ent ps (cX x.name):=(Ent.left h)
theorem bJ.f_version{ps:List Per}{x:bJ}(h:Ent ps x.ok):Ent ps (cX x.version):=(Ent.right h)
structure eu where
 sec:Int
 at_:Int
 kind:Int
 sym:Int
 add:Int
 deriving Inhabited
abbrev eu.row(x:eu):List D:=[.v (.int .i64 x.sec),.v (.int .i64 x.at_),.v (.int .i64 x.kind),.v (.int .i64 x.sym),.v (.int .i64 x.add)]
abbrev eu.val(x:eu):Value:=.agg #[.int .i64 x.sec,.int .i64 x.at_,.int .i64 x.kind,.int .i64 x.sym,.int .i64 x.add]
structure dm where
 name:ByteArray
 secs:Sl Int
 deriving Inhabited
abbrev dm.row(x:dm):List D:=[.v (.string x.name),.v (.slice x.secs.ad x.secs.l.length x.secs.cap)]
abbrev dm.val(x:dm):Value:=.agg #[.string x.name,.slice x.secs.ad x.secs.l.length x.secs.cap]
def dm.ok(x:dm):Per:=bQ (cX x.name) (ShF (fun z=>[.v (.int .i64 z)]) x.secs)
theorem dm.f_name{ps:List Per}{x:dm}(h:Ent ps x.ok):Ent ps (cX x.name):=(Ent.left h)
theorem dm.f_secs{ps:List Per}{x:dm}(h:Ent ps x.ok):Ent ps (ShF (fun z=>[.v (.int .i64 z)]) x.secs):=(Ent.right h)
structure eY where
 sym:Int
 order:Int
 last:Bool
 deriving Inhabited
abbrev eY.row(x:eY):List D:=[.v (.int .i64 x.sym),.v (.int .i64 x.order),.v (.bool x.last)]
abbrev eY.val(x:eY):Value:=.agg #[.int .i64 x.sym,.int .i64 x.order,.bool x.last]
structure cM where
 sec:Int
 at_:Int
 file:ByteArray
 line:Int
 deriving Inhabited
abbrev cM.row(x:cM):List D:=[.v (.int .i64 x.sec),.v (.int .i64 x.at_),.v (.string x.file),.v (.int .i64 x.line)]
abbrev cM.vs(x:cM):List Value:=[.int .i64 x.sec,.int .i64 x.at_,.string x.file,.int .i64 x.line]
abbrev cM.val(x:cM):Value:=.agg #[.int .i64 x.sec,.int .i64 x.at_,.string x.file,.int .i64 x.line]
def cM.ok(x:cM):Per:=cX x.file
theorem cM.f_file{ps:List Per}{x:cM}(h:Ent ps x.ok):Ent ps (cX x.file):=h
structure br where
 sec:Int
 from_:Int
 to_:Int
 name:ByteArray
 file:ByteArray
 line:Int
 deriving Inhabited
abbrev br.row(x:br):List D:=[.v (.int .i64 x.sec),.v (.int .i64 x.from_),.v (.int .i64 x.to_),.v (.string x.name),.v (.string x.file),.v (.int .i64 x.line)]
abbrev br.vs(x:br):List Value:=[.int .i64 x.sec,.int .i64 x.from_,.int .i64 x.to_,.string x.name,.string x.file,.int .i64 x.line]
abbrev br.val(x:br):Value:=.agg #[.int .i64 x.sec,.int .i64 x.from_,.int .i64 x.to_,.string x.name,.string x.file,.int .i64 x.line]
def br.ok(x:br):Per:=bQ (cX x.name) (cX x.file)
theorem br.f_name{ps:List Per}{x:br}(h:Ent ps x.ok):Ent ps (cX x.name):=(Ent.left h)
theorem br.f_file{ps:List Per}{x:br}(h:Ent ps x.ok):Ent ps (cX x.file):=(Ent.right h)
structure dP where
 sec:Int
 from_:Int
 to_:Int
 name:ByteArray
 where_:Int
 n:Int
 deriving Inhabited
abbrev dP.row(x:dP):List D:=[.v (.int .i64 x.sec),.v (.int .i64 x.from_),.v (.int .i64 x.to_),.v (.string x.name),.v (.int .i64 x.where_),.v (.int .i64 x.n)]
abbrev dP.val(x:dP):Value:=.agg #[.int .i64 x.sec,.int .i64 x.from_,.int .i64 x.to_,.string x.name,.int .i64 x.where_,.int .i64 x.n]
def dP.ok(x:dP):Per:=cX x.name
theorem dP.f_name{ps:List Per}{x:dP}(h:Ent ps x.ok):Ent ps (cX x.name):=h
structure cJ where
 sec:Int
 from_:Int
 to_:Int
 bytes:Int
 deriving Inhabited
abbrev cJ.row(x:cJ):List D:=[.v (.int .i64 x.sec),.v (.int .i64 x.from_),.v (.int .i64 x.to_),.v (.int .i64 x.bytes)]
abbrev cJ.vs(x:cJ):List Value:=[.int .i64 x.sec,.int .i64 x.from_,.int .i64 x.to_,.int .i64 x.bytes]
abbrev cJ.val(x:cJ):Value:=.agg #[.int .i64 x.sec,.int .i64 x.from_,.int .i64 x.to_,.int .i64 x.bytes]
structure cN where
 from_:Int
 size:Int
 to_:Int
 deriving Inhabited
abbrev cN.row(x:cN):List D:=[.v (.int .i64 x.from_),.v (.int .i64 x.size),.v (.int .i64 x.to_)]
abbrev cN.vs(x:cN):List Value:=[.int .i64 x.from_,.int .i64 x.size,.int .i64 x.to_]
abbrev cN.val(x:cN):Value:=.agg #[.int .i64 x.from_,.int .i64 x.size,.int .i64 x.to_]
structure bp where
 sec:Int
 from_:ByteArray
 pieces:Sl cN
 code:Int
 deriving Inhabited
abbrev bp.row(x:bp):List D:=[.v (.int .i64 x.sec),.v (.string x.from_),.v (.slice x.pieces.ad x.pieces.l.length x.pieces.cap),.v (.int .i64 x.code)]
abbrev bp.val(x:bp):Value:=.agg #[.int .i64 x.sec,.string x.from_,.slice x.pieces.ad x.pieces.l.length x.pieces.cap,.int .i64 x.code]
def bp.ok(x:bp):Per:=bQ (cX x.from_) (ShF (cN.row) x.pieces)
theorem bp.f_pieces{ps:List Per}{x:bp}(h:Ent ps x.ok):Ent ps (ShF (cN.row) x.pieces):=(Ent.right h)
structure aI where
 name:ByteArray
 secs:Sl bw
 syms:Sl bJ
 rels:Sl eu
 groups:Sl dm
 inits:Sl eY
 lines:Sl cM
 inlines:Sl br
 vars:Sl dP
 depths:Sl cJ
 converts:Sl bp
 deriving Inhabited
abbrev aI.row(x:aI):List D:=[.v (.string x.name),.v (.slice x.secs.ad x.secs.l.length x.secs.cap),.v (.slice x.syms.ad x.syms.l.length x.syms.cap),.v (.slice x.rels.ad x.rels.l.length x.rels.cap),.v (.slice x.groups.ad x.groups.l.length x.groups.cap),.v (.slice x.inits.ad x.inits.l.length x.inits.cap),.v (.slice x.lines.ad x.lines.l.length x.lines.cap),.v (.slice x.inlines.ad x.inlines.l.length x.inlines.cap),.v (.slice x.vars.ad x.vars.l.length x.vars.cap),.v (.slice x.depths.ad x.depths.l.length x.depths.cap),.v (.slice x.converts.ad x.converts.l.length x.converts.cap)]
abbrev aI.vs(x:aI):List Value:=[.string x.name,.slice x.secs.ad x.secs.l.length x.secs.cap,.slice x.syms.ad x.syms.l.length x.syms.cap,.slice x.rels.ad x.rels.l.length x.rels.cap,.slice x.groups.ad x.groups.l.length x.groups.cap,.slice x.inits.ad x.inits.l.length x.inits.cap,.slice x.lines.ad x.lines.l.length x.lines.cap,.slice x.inlines.ad x.inlines.l.length x.inlines.cap,.slice x.vars.ad x.vars.l.length x.vars.cap,.slice x.depths.ad x.depths.l.length x.depths.cap,.slice x.converts.ad x.converts.l.length x.converts.cap]
abbrev aI.val(x:aI):Value:=.agg #[.string x.name,.slice x.secs.ad x.secs.l.length x.secs.cap,.slice x.syms.ad x.syms.l.length x.syms.cap,.slice x.rels.ad x.rels.l.length x.rels.cap,.slice x.groups.ad x.groups.l.length x.groups.cap,.slice x.inits.ad x.inits.l.length x.inits.cap,.slice x.lines.ad x.lines.l.length x.lines.cap,.slice x.inlines.ad x.inlines.l.length x.inlines.cap,.slice x.vars.ad x.vars.l.length x.vars.cap,.slice x.depths.ad x.depths.l.length x.depths.cap,.slice x.converts.ad x.converts.l.length x.converts.cap]
def aI.ok(x:aI):Per:=bQ (cX x.name) (bQ (ShF (bw.row) x.secs) (bQ (bu (fun y=>bw.ok y) x.secs.l) (bQ (ShF (bJ.row) x.syms) (bQ (bu (fun y=>bJ.ok y) x.syms.l) (bQ (ShF (eu.row) x.rels) (bQ (ShF (dm.row) x.groups) (bQ (bu (fun y=>dm.ok y) x.groups.l) (bQ (ShF (eY.row) x.inits) (bQ (ShF (cM.row) x.lines) (bQ (bu (fun y=>cM.ok y) x.lines.l) (bQ (ShF (br.row) x.inlines) (bQ (bu (fun y=>br.ok y) x.inlines.l) (bQ (ShF (dP.row) x.vars) (bQ (bu (fun y=>dP.ok y) x.vars.l) (bQ (ShF (cJ.row) x.depths) (bQ (ShF (bp.row) x.converts) (bu (fun y=>bp.ok y) x.converts.l)))))))))))))))))
theorem aI.f_name{ps:List Per}{x:aI}(h:Ent ps x.ok):Ent ps (cX x.name):=(Ent.left h)
theorem aI.f_secs{ps:List Per}{x:aI}(h:Ent ps x.ok):Ent ps (ShF (bw.row) x.secs):=(Ent.left (Ent.right h))
theorem aI.f_secsA{ps:List Per}{x:aI}(h:Ent ps x.ok):Ent ps (bu (fun y=>bw.ok y) x.secs.l):=(Ent.left (Ent.right (Ent.right h)))
theorem aI.f_syms{ps:List Per}{x:aI}(h:Ent ps x.ok):Ent ps (ShF (bJ.row) x.syms):=(Ent.left (Ent.right (Ent.right (Ent.right h))))
theorem aI.f_symsA{ps:List Per}{x:aI}(h:Ent ps x.ok):Ent ps (bu (fun y=>bJ.ok y) x.syms.l):=(Ent.left (Ent.right (Ent.right (Ent.right (Ent.right h)))))
theorem aI.f_rels{ps:List Per}{x:aI}(h:Ent ps x.ok):Ent ps (ShF (eu.row) x.rels):=(Ent.left (Ent.right (Ent.right (Ent.right (Ent.right (Ent.right h))))))
theorem aI.f_groups{ps:List Per}{x:aI}(h:Ent ps x.ok):Ent ps (ShF (dm.row) x.groups):=(Ent.left (Ent.right (Ent.right (Ent.right (Ent.right (Ent.right (Ent.right h)))))))
theorem aI.f_groupsA{ps:List Per}{x:aI}(h:Ent ps x.ok):Ent ps (bu (fun y=>dm.ok y) x.groups.l):=(Ent.left (Ent.right (Ent.right (Ent.right (Ent.right (Ent.right (Ent.right (Ent.right h))))))))
theorem aI.f_inits{ps:List Per}{x:aI}(h:Ent ps x.ok):Ent ps (ShF (eY.row) x.inits):=(Ent.left (Ent.right (Ent.right (Ent.right (Ent.right (Ent.right (Ent.right (Ent.right (Ent.right h)))))))))
theorem aI.f_lines{ps:List Per}{x:aI}(h:Ent ps x.ok):Ent ps (ShF (cM.row) x.lines):=(Ent.left (Ent.right (Ent.right (Ent.right (Ent.right (Ent.right (Ent.right (Ent.right (Ent.right (Ent.right h))))))))))
theorem aI.f_linesA{ps:List Per}{x:aI}(h:Ent ps x.ok):Ent ps (bu (fun y=>cM.ok y) x.lines.l):=(Ent.left (Ent.right (Ent.right (Ent.right (Ent.right (Ent.right (Ent.right (Ent.right (Ent.right (Ent.right (Ent.right h)))))))))))
theorem aI.f_inlines{ps:List Per}{x:aI}(h:Ent ps x.ok):Ent ps (ShF (br.row) x.inlines):=(Ent.left (Ent.right (Ent.right (Ent.right (Ent.right (Ent.right (Ent.right (Ent.right (Ent.right (Ent.right (Ent.right (Ent.right h))))))))))))
theorem aI.f_inlinesA{ps:List Per}{x:aI}(h:Ent ps x.ok):Ent ps (bu (fun y=>br.ok y) x.inlines.l):=(Ent.left (Ent.right (Ent.right (Ent.right (Ent.right (Ent.right (Ent.right (Ent.right (Ent.right (Ent.right (Ent.right (Ent.right (Ent.right h)))))))))))))
theorem aI.f_vars{ps:List Per}{x:aI}(h:Ent ps x.ok):Ent ps (ShF (dP.row) x.vars):=(Ent.left (Ent.right (Ent.right (Ent.right (Ent.right (Ent.right (Ent.right (Ent.right (Ent.right (Ent.right (Ent.right (Ent.right (Ent.right (Ent.right h))))))))))))))
theorem aI.f_varsA{ps:List Per}{x:aI}(h:Ent ps x.ok):Ent ps (bu (fun y=>dP.ok y) x.vars.l):=(Ent.left (Ent.right (Ent.right (Ent.right (Ent.right (Ent.right (Ent.right (Ent.right (Ent.right (Ent.right (Ent.right (Ent.right (Ent.right (Ent.right (Ent.right h)))))))))))))))
theorem aI.f_depths{ps:List Per}{x:aI}(h:Ent ps x.ok):Ent ps (ShF (cJ.row) x.depths):=(Ent.left (Ent.right (Ent.right (Ent.right (Ent.right (Ent.right (Ent.right (Ent.right (Ent.right (Ent.right (Ent.right (Ent.right (Ent.right (Ent.right (Ent.right (Ent.right h))))))))))))))))
theorem aI.f_converts{ps:List Per}{x:aI}(h:Ent ps x.ok):Ent ps (ShF (bp.row) x.converts):=(Ent.left (Ent.right (Ent.right (Ent.right (Ent.right (Ent.right (Ent.right (Ent.right (Ent.right (Ent.right (Ent.right (Ent.right (Ent.right (Ent.right (Ent.right (Ent.right (Ent.right h)))))))))))))))))
theorem aI.f_convertsA{ps:List Per}{x:aI}(h:Ent ps x.ok):Ent ps (bu (fun y=>bp.ok y) x.converts.l):=(Ent.right (Ent.right (Ent.right (Ent.right (Ent.right (Ent.right (Ent.right (Ent.right (Ent.right (Ent.right (Ent.right (Ent.right (Ent.right (Ent.right (Ent.right (Ent.right (Ent.right h)))))))))))))))))
structure cj where
 from_:Int
 to_:Int
 deriving Inhabited
abbrev cj.row(x:cj):List D:=[.v (.int .i64 x.from_),.v (.int .i64 x.to_)]
abbrev cj.val(x:cj):Value:=.agg #[.int .i64 x.from_,.int .i64 x.to_]
structure bY where
 kind:Int
 n:Int
 off:Int
 size:Int
 deriving Inhabited
abbrev bY.row(x:bY):List D:=[.v (.int .i64 x.kind),.v (.int .i64 x.n),.v (.int .i64 x.off),.v (.int .i64 x.size)]
abbrev bY.vs(x:bY):List Value:=[.int .i64 x.kind,.int .i64 x.n,.int .i64 x.off,.int .i64 x.size]
abbrev bY.val(x:bY):Value:=.agg #[.int .i64 x.kind,.int .i64 x.n,.int .i64 x.off,.int .i64 x.size]
structure dE where
 at_:Int
 kind:Int
 to_:bY
 add:Int
 deriving Inhabited
abbrev dE.row(x:dE):List D:=[.v (.int .i64 x.at_),.v (.int .i64 x.kind),.v (.int .i64 x.to_.kind),.v (.int .i64 x.to_.n),.v (.int .i64 x.to_.off),.v (.int .i64 x.to_.size),.v (.int .i64 x.add)]
abbrev dE.vs(x:dE):List Value:=[.int .i64 x.at_,.int .i64 x.kind,.int .i64 x.to_.kind,.int .i64 x.to_.n,.int .i64 x.to_.off,.int .i64 x.to_.size,.int .i64 x.add]
abbrev dE.val(x:dE):Value:=.agg #[.int .i64 x.at_,.int .i64 x.kind,.int .i64 x.to_.kind,.int .i64 x.to_.n,.int .i64 x.to_.off,.int .i64 x.to_.size,.int .i64 x.add]
structure fN where
 name:ByteArray
 kind:Int
 at_:Int
 size:Int
 deriving Inhabited
abbrev fN.row(x:fN):List D:=[.v (.string x.name),.v (.int .i64 x.kind),.v (.int .i64 x.at_),.v (.int .i64 x.size)]
abbrev fN.vs(x:fN):List Value:=[.string x.name,.int .i64 x.kind,.int .i64 x.at_,.int .i64 x.size]
def fN.ok(x:fN):Per:=cX x.name
theorem fN.f_name{ps:List Per}{x:fN}(h:Ent ps x.ok):Ent ps (cX x.name):=h
structure bS where
 from_:Int
 to_:Int
 name:ByteArray
 where_:Int
 n:Int
 target:bY
 deriving Inhabited
abbrev bS.row(x:bS):List D:=[.v (.int .i64 x.from_),.v (.int .i64 x.to_),.v (.string x.name),.v (.int .i64 x.where_),.v (.int .i64 x.n),.v (.int .i64 x.target.kind),.v (.int .i64 x.target.n),.v (.int .i64 x.target.off),.v (.int .i64 x.target.size)]
abbrev bS.vs(x:bS):List Value:=[.int .i64 x.from_,.int .i64 x.to_,.string x.name,.int .i64 x.where_,.int .i64 x.n,.int .i64 x.target.kind,.int .i64 x.target.n,.int .i64 x.target.off,.int .i64 x.target.size]
abbrev bS.val(x:bS):Value:=.agg #[.int .i64 x.from_,.int .i64 x.to_,.string x.name,.int .i64 x.where_,.int .i64 x.n,.int .i64 x.target.kind,.int .i64 x.target.n,.int .i64 x.target.off,.int .i64 x.target.size]
def bS.ok(x:bS):Per:=cX x.name
structure aQ where
 obj:ByteArray
 sec:ByteArray
 kind:Int
 align:Int
 size:Int
 bytes:ByteArray
 refs:Sl dE
 marks:Sl fN
 lines:Sl cM
 inlines:Sl br
 vars:Sl bS
 depths:Sl cJ
 deriving Inhabited
abbrev aQ.row(x:aQ):List D:=[.v (.string x.obj),.v (.string x.sec),.v (.int .i64 x.kind),.v (.int .i64 x.align),.v (.int .i64 x.size),.v (.string x.bytes),.v (.slice x.refs.ad x.refs.l.length x.refs.cap),.v (.slice x.marks.ad x.marks.l.length x.marks.cap),.v (.slice x.lines.ad x.lines.l.length x.lines.cap),.v (.slice x.inlines.ad x.inlines.l.length x.inlines.cap),.v (.slice x.vars.ad x.vars.l.length x.vars.cap),.v (.slice x.depths.ad x.depths.l.length x.depths.cap)]
abbrev aQ.vs(x:aQ):List Value:=[.string x.obj,.string x.sec,.int .i64 x.kind,.int .i64 x.align,.int .i64 x.size,.string x.bytes,.slice x.refs.ad x.refs.l.length x.refs.cap,.slice x.marks.ad x.marks.l.length x.marks.cap,.slice x.lines.ad x.lines.l.length x.lines.cap,.slice x.inlines.ad x.inlines.l.length x.inlines.cap,.slice x.vars.ad x.vars.l.length x.vars.cap,.slice x.depths.ad x.depths.l.length x.depths.cap]
abbrev aQ.val(x:aQ):Value:=.agg #[.string x.obj,.string x.sec,.int .i64 x.kind,.int .i64 x.align,.int .i64 x.size,.string x.bytes,.slice x.refs.ad x.refs.l.length x.refs.cap,.slice x.marks.ad x.marks.l.length x.marks.cap,.slice x.lines.ad x.lines.l.length x.lines.cap,.slice x.inlines.ad x.inlines.l.length x.inlines.cap,.slice x.vars.ad x.vars.l.length x.vars.cap,.slice x.depths.ad x.depths.l.length x.depths.cap]
def aQ.ok(x:aQ):Per:=bQ (cX x.obj) (bQ (cX x.sec) (bQ (cX x.bytes) (bQ (ShF (dE.row) x.refs) (bQ (ShF (fN.row) x.marks) (bQ (bu (fun y=>fN.ok y) x.marks.l) (bQ (ShF (cM.row) x.lines) (bQ (bu (fun y=>cM.ok y) x.lines.l) (bQ (ShF (br.row) x.inlines) (bQ (bu (fun y=>br.ok y) x.inlines.l) (bQ (ShF (bS.row) x.vars) (bQ (bu (fun y=>bS.ok y) x.vars.l) (ShF (cJ.row) x.depths))))))))))))
theorem aQ.f_obj{ps:List Per}{x:aQ}(h:Ent ps x.ok):Ent ps (cX x.obj):=(Ent.left h)
theorem aQ.f_sec{ps:List Per}{x:aQ}(h:Ent ps x.ok):Ent ps (cX x.sec):=(Ent.left (Ent.right h))
theorem aQ.f_bytes{ps:List Per}{x:aQ}(h:Ent ps x.ok):Ent ps (cX x.bytes):=(Ent.left (Ent.right (Ent.right h)))
theorem aQ.f_refs{ps:List Per}{x:aQ}(h:Ent ps x.ok):Ent ps (ShF (dE.row) x.refs):=(Ent.left (Ent.right (Ent.right (Ent.right h))))
theorem aQ.f_marks{ps:List Per}{x:aQ}(h:Ent ps x.ok):Ent ps (ShF (fN.row) x.marks):=(Ent.left (Ent.right (Ent.right (Ent.right (Ent.right h)))))
theorem aQ.f_marksA{ps:List Per}{x:aQ}(h:Ent ps x.ok):Ent ps (bu (fun y=>fN.ok y) x.marks.l):=(Ent.left (Ent.right (Ent.right (Ent.right (Ent.right (Ent.right h))))))
theorem aQ.f_lines{ps:List Per}{x:aQ}(h:Ent ps x.ok):Ent ps (ShF (cM.row) x.lines):=(Ent.left (Ent.right (Ent.right (Ent.right (Ent.right (Ent.right (Ent.right h)))))))
theorem aQ.f_linesA{ps:List Per}{x:aQ}(h:Ent ps x.ok):Ent ps (bu (fun y=>cM.ok y) x.lines.l):=(Ent.left (Ent.right (Ent.right (Ent.right (Ent.right (Ent.right (Ent.right (Ent.right h))))))))
theorem aQ.f_inlines{ps:List Per}{x:aQ}(h:Ent ps x.ok):Ent ps (ShF (br.row) x.inlines):=(Ent.left (Ent.right (Ent.right (Ent.right (Ent.right (Ent.right (Ent.right (Ent.right (Ent.right h)))))))))
theorem aQ.f_inlinesA{ps:List Per}{x:aQ}(h:Ent ps x.ok):Ent ps (bu (fun y=>br.ok y) x.inlines.l):=(Ent.left (Ent.right (Ent.right (Ent.right (Ent.right (Ent.right (Ent.right (Ent.right (Ent.right (Ent.right h))))))))))
theorem aQ.f_vars{ps:List Per}{x:aQ}(h:Ent ps x.ok):Ent ps (ShF (bS.row) x.vars):=(Ent.left (Ent.right (Ent.right (Ent.right (Ent.right (Ent.right (Ent.right (Ent.right (Ent.right (Ent.right (Ent.right h)))))))))))
theorem aQ.f_varsA{ps:List Per}{x:aQ}(h:Ent ps x.ok):Ent ps (bu (fun y=>bS.ok y) x.vars.l):=(Ent.left (Ent.right (Ent.right (Ent.right (Ent.right (Ent.right (Ent.right (Ent.right (Ent.right (Ent.right (Ent.right (Ent.right h))))))))))))
theorem aQ.f_depths{ps:List Per}{x:aQ}(h:Ent ps x.ok):Ent ps (ShF (cJ.row) x.depths):=(Ent.right (Ent.right (Ent.right (Ent.right (Ent.right (Ent.right (Ent.right (Ent.right (Ent.right (Ent.right (Ent.right (Ent.right h))))))))))))
structure dp where
 name:ByteArray
 version:ByteArray
 kind:Int
 weak:Bool
 own:Bool
 deriving Inhabited
abbrev dp.row(x:dp):List D:=[.v (.string x.name),.v (.string x.version),.v (.int .i64 x.kind),.v (.bool x.weak),.v (.bool x.own)]
abbrev dp.vs(x:dp):List Value:=[.string x.name,.string x.version,.int .i64 x.kind,.bool x.weak,.bool x.own]
def dp.ok(x:dp):Per:=bQ (cX x.name) (cX x.version)
theorem dp.f_name{ps:List Per}{x:dp}(h:Ent ps x.ok):Ent ps (cX x.name):=(Ent.left h)
theorem dp.f_version{ps:List Per}{x:dp}(h:Ent ps x.ok):Ent ps (cX x.version):=(Ent.right h)
structure dX where
 name:ByteArray
 version:ByteArray
 main:Bool
 kind:Int
 node:Int
 off:Int
 size:Int
 deriving Inhabited
abbrev dX.row(x:dX):List D:=[.v (.string x.name),.v (.string x.version),.v (.bool x.main),.v (.int .i64 x.kind),.v (.int .i64 x.node),.v (.int .i64 x.off),.v (.int .i64 x.size)]
abbrev dX.vs(x:dX):List Value:=[.string x.name,.string x.version,.bool x.main,.int .i64 x.kind,.int .i64 x.node,.int .i64 x.off,.int .i64 x.size]
def dX.ok(x:dX):Per:=bQ (cX x.name) (cX x.version)
theorem dX.f_name{ps:List Per}{x:dX}(h:Ent ps x.ok):Ent ps (cX x.name):=(Ent.left h)
theorem dX.f_version{ps:List Per}{x:dX}(h:Ent ps x.ok):Ent ps (cX x.version):=(Ent.right h)
structure dO where
 node:Int
 from_:ByteArray
 pieces:Sl cN
 code:bY
 deriving Inhabited
abbrev dO.row(x:dO):List D:=[.v (.int .i64 x.node),.v (.string x.from_),.v (.slice x.pieces.ad x.pieces.l.length x.pieces.cap),.v (.int .i64 x.code.kind),.v (.int .i64 x.code.n),.v (.int .i64 x.code.off),.v (.int .i64 x.code.size)]
abbrev dO.vs(x:dO):List Value:=[.int .i64 x.node,.string x.from_,.slice x.pieces.ad x.pieces.l.length x.pieces.cap,.int .i64 x.code.kind,.int .i64 x.code.n,.int .i64 x.code.off,.int .i64 x.code.size]
def dO.ok(x:dO):Per:=bQ (cX x.from_) (ShF (cN.row) x.pieces)
structure aJ where
 name:ByteArray
 lib:Bool
 nodes:Sl aQ
 imports:Sl dp
 offers:Sl dX
 inits:Sl bY
 lasts:Sl bY
 needs:Sl ByteArray
 entry:bY
 versions:Sl aR
 changes:Sl dO
 deriving Inhabited
abbrev aJ.row(x:aJ):List D:=[.v (.string x.name),.v (.bool x.lib),.v (.slice x.nodes.ad x.nodes.l.length x.nodes.cap),.v (.slice x.imports.ad x.imports.l.length x.imports.cap),.v (.slice x.offers.ad x.offers.l.length x.offers.cap),.v (.slice x.inits.ad x.inits.l.length x.inits.cap),.v (.slice x.lasts.ad x.lasts.l.length x.lasts.cap),.v (.slice x.needs.ad x.needs.l.length x.needs.cap),.v (.int .i64 x.entry.kind),.v (.int .i64 x.entry.n),.v (.int .i64 x.entry.off),.v (.int .i64 x.entry.size),.v (.slice x.versions.ad x.versions.l.length x.versions.cap),.v (.slice x.changes.ad x.changes.l.length x.changes.cap)]
abbrev aJ.vs(x:aJ):List Value:=[.string x.name,.bool x.lib,.slice x.nodes.ad x.nodes.l.length x.nodes.cap,.slice x.imports.ad x.imports.l.length x.imports.cap,.slice x.offers.ad x.offers.l.length x.offers.cap,.slice x.inits.ad x.inits.l.length x.inits.cap,.slice x.lasts.ad x.lasts.l.length x.lasts.cap,.slice x.needs.ad x.needs.l.length x.needs.cap,.int .i64 x.entry.kind,.int .i64 x.entry.n,.int .i64 x.entry.off,.int .i64 x.entry.size,.slice x.versions.ad x.versions.l.length x.versions.cap,.slice x.changes.ad x.changes.l.length x.changes.cap]
abbrev aJ.val(x:aJ):Value:=.agg #[.string x.name,.bool x.lib,.slice x.nodes.ad x.nodes.l.length x.nodes.cap,.slice x.imports.ad x.imports.l.length x.imports.cap,.slice x.offers.ad x.offers.l.length x.offers.cap,.slice x.inits.ad x.inits.l.length x.inits.cap,.slice x.lasts.ad x.lasts.l.length x.lasts.cap,.slice x.needs.ad x.needs.l.length x.needs.cap,.int .i64 x.entry.kind,.int .i64 x.entry.n,.int .i64 x.entry.off,.int .i64 x.entry.size,.slice x.versions.ad x.versions.l.length x.versions.cap,.slice x.changes.ad x.changes.l.length x.changes.cap]
def aJ.ok(x:aJ):Per:=bQ (cX x.name) (bQ (ShF (aQ.row) x.nodes) (bQ (bu (fun y=>aQ.ok y) x.nodes.l) (bQ (ShF (dp.row) x.imports) (bQ (bu (fun y=>dp.ok y) x.imports.l) (bQ (ShF (dX.row) x.offers) (bQ (bu (fun y=>dX.ok y) x.offers.l) (bQ (ShF (bY.row) x.inits) (bQ (ShF (bY.row) x.lasts) (bQ (ShF (fun s=>[.v (.string s)]) x.needs) (bQ (bu (fun y=>cX y) x.needs.l) (bQ (ShF (aR.row) x.versions) (bQ (bu (fun y=>aR.ok y) x.versions.l) (bQ (ShF (dO.row) x.changes) (bu (fun y=>dO.ok y) x.changes.l))))))))))))))
theorem aJ.f_name{ps:List Per}{x:aJ}(h:Ent ps x.ok):Ent ps (cX x.name):=(Ent.left h)
theorem aJ.f_nodes{ps:List Per}{x:aJ}(h:Ent ps x.ok):Ent ps (ShF (aQ.row) x.nodes):=(Ent.left (Ent.right h))
theorem aJ.f_nodesA{ps:List Per}{x:aJ}(h:Ent ps x.ok):Ent ps (bu (fun y=>aQ.ok y) x.nodes.l):=(Ent.left (Ent.right (Ent.right h)))
theorem aJ.f_imports{ps:List Per}{x:aJ}(h:Ent ps x.ok):Ent ps (ShF (dp.row) x.imports):=(Ent.left (Ent.right (Ent.right (Ent.right h))))
theorem aJ.f_importsA{ps:List Per}{x:aJ}(h:Ent ps x.ok):Ent ps (bu (fun y=>dp.ok y) x.imports.l):=(Ent.left (Ent.right (Ent.right (Ent.right (Ent.right h)))))
theorem aJ.f_offers{ps:List Per}{x:aJ}(h:Ent ps x.ok):Ent ps (ShF (dX.row) x.offers):=(Ent.left (Ent.right (Ent.right (Ent.right (Ent.right (Ent.right h))))))
theorem aJ.f_offersA{ps:List Per}{x:aJ}(h:Ent ps x.ok):Ent ps (bu (fun y=>dX.ok y) x.offers.l):=(Ent.left (Ent.right (Ent.right (Ent.right (Ent.right (Ent.right (Ent.right h)))))))
theorem aJ.f_inits{ps:List Per}{x:aJ}(h:Ent ps x.ok):Ent ps (ShF (bY.row) x.inits):=(Ent.left (Ent.right (Ent.right (Ent.right (Ent.right (Ent.right (Ent.right (Ent.right h))))))))
theorem aJ.f_lasts{ps:List Per}{x:aJ}(h:Ent ps x.ok):Ent ps (ShF (bY.row) x.lasts):=(Ent.left (Ent.right (Ent.right (Ent.right (Ent.right (Ent.right (Ent.right (Ent.right (Ent.right h)))))))))
theorem aJ.f_needs{ps:List Per}{x:aJ}(h:Ent ps x.ok):Ent ps (ShF (fun s=>[.v (.string s)]) x.needs):=(Ent.left (Ent.right (Ent.right (Ent.right (Ent.right (Ent.right (Ent.right (Ent.right (Ent.right (Ent.right h))))))))))
theorem aJ.f_needsA{ps:List Per}{x:aJ}(h:Ent ps x.ok):Ent ps (bu (fun y=>cX y) x.needs.l):=(Ent.left (Ent.right (Ent.right (Ent.right (Ent.right (Ent.right (Ent.right (Ent.right (Ent.right (Ent.right (Ent.right h)))))))))))
theorem aJ.f_versions{ps:List Per}{x:aJ}(h:Ent ps x.ok):Ent ps (ShF (aR.row) x.versions):=(Ent.left (Ent.right (Ent.right (Ent.right (Ent.right (Ent.right (Ent.right (Ent.right (Ent.right (Ent.right (Ent.right (Ent.right h))))))))))))
theorem aJ.f_versionsA{ps:List Per}{x:aJ}(h:Ent ps x.ok):Ent ps (bu (fun y=>aR.ok y) x.versions.l):=(Ent.left (Ent.right (Ent.right (Ent.right (Ent.right (Ent.right (Ent.right (Ent.right (Ent.right (Ent.right (Ent.right (Ent.right (Ent.right h)))))))))))))
theorem aJ.f_changes{ps:List Per}{x:aJ}(h:Ent ps x.ok):Ent ps (ShF (dO.row) x.changes):=(Ent.left (Ent.right (Ent.right (Ent.right (Ent.right (Ent.right (Ent.right (Ent.right (Ent.right (Ent.right (Ent.right (Ent.right (Ent.right (Ent.right h))))))))))))))
theorem aJ.f_changesA{ps:List Per}{x:aJ}(h:Ent ps x.ok):Ent ps (bu (fun y=>dO.ok y) x.changes.l):=(Ent.right (Ent.right (Ent.right (Ent.right (Ent.right (Ent.right (Ent.right (Ent.right (Ent.right (Ent.right (Ent.right (Ent.right (Ent.right (Ent.right h))))))))))))))
structure bj where
 at_:Int
 kind:Int
 n:Int
 off:Int
 deriving Inhabited
abbrev bj.row(x:bj):List D:=[.v (.int .i64 x.at_),.v (.int .i64 x.kind),.v (.int .i64 x.n),.v (.int .i64 x.off)]
abbrev bj.vs(x:bj):List Value:=[.int .i64 x.at_,.int .i64 x.kind,.int .i64 x.n,.int .i64 x.off]
abbrev bj.val(x:bj):Value:=.agg #[.int .i64 x.at_,.int .i64 x.kind,.int .i64 x.n,.int .i64 x.off]
structure aN where
 nodes:Sl Int
 slots:Sl Int
 stubs:Sl bj
 code:Int
 data:Int
 zero:Int
 tls:Int
 deriving Inhabited
abbrev aN.vs(x:aN):List Value:=[.slice x.nodes.ad x.nodes.l.length x.nodes.cap,.slice x.slots.ad x.slots.l.length x.slots.cap,.slice x.stubs.ad x.stubs.l.length x.stubs.cap,.int .i64 x.code,.int .i64 x.data,.int .i64 x.zero,.int .i64 x.tls]
abbrev aN.val(x:aN):Value:=.agg #[.slice x.nodes.ad x.nodes.l.length x.nodes.cap,.slice x.slots.ad x.slots.l.length x.slots.cap,.slice x.stubs.ad x.stubs.l.length x.stubs.cap,.int .i64 x.code,.int .i64 x.data,.int .i64 x.zero,.int .i64 x.tls]
def aN.ok(x:aN):Per:=bQ (ShF (fun z=>[.v (.int .i64 z)]) x.nodes) (bQ (ShF (fun z=>[.v (.int .i64 z)]) x.slots) (ShF (bj.row) x.stubs))
theorem aN.f_nodes{ps:List Per}{x:aN}(h:Ent ps x.ok):Ent ps (ShF (fun z=>[.v (.int .i64 z)]) x.nodes):=(Ent.left h)
theorem aN.f_slots{ps:List Per}{x:aN}(h:Ent ps x.ok):Ent ps (ShF (fun z=>[.v (.int .i64 z)]) x.slots):=(Ent.left (Ent.right h))
theorem aN.f_stubs{ps:List Per}{x:aN}(h:Ent ps x.ok):Ent ps (ShF (bj.row) x.stubs):=(Ent.right (Ent.right h))
structure fX where
 at_:Int
 size:Int
 deriving Inhabited
abbrev fX.row(x:fX):List D:=[.v (.int .i64 x.at_),.v (.int .i64 x.size)]
abbrev fX.val(x:fX):Value:=.agg #[.int .i64 x.at_,.int .i64 x.size]
structure bt where
 at_:Int
 r:dE
 deriving Inhabited
abbrev bt.row(x:bt):List D:=[.v (.int .i64 x.at_),.v (.int .i64 x.r.at_),.v (.int .i64 x.r.kind),.v (.int .i64 x.r.to_.kind),.v (.int .i64 x.r.to_.n),.v (.int .i64 x.r.to_.off),.v (.int .i64 x.r.to_.size),.v (.int .i64 x.r.add)]
abbrev bt.val(x:bt):Value:=.agg #[.int .i64 x.at_,.int .i64 x.r.at_,.int .i64 x.r.kind,.int .i64 x.r.to_.kind,.int .i64 x.r.to_.n,.int .i64 x.r.to_.off,.int .i64 x.r.to_.size,.int .i64 x.r.add]
end Go.Proofs.YtgkbbdgklpabpaaGreatDoor

namespace Go.Sy
open Go.RowKit Go.Lp
theorem Ent.mk2{ps:List Per}{p q:Per}(h1:Ent ps p)(h2:Ent ps q):Ent ps (bQ p q):=fun w S hp=>⟨h1 w S hp,h2 w S hp⟩
section
variable {w:World} {S:ba} {fp:Nat→ba} {ps:List Per} {l:List Res}
variable {P:Program} {R:Value→List Per→List Res→Prop}
theorem Con.post{f:FuncId}{args:List Value}{R':Value→List Per→List Res→Prop}(h:Con P f args ps l R)(hr:∀ v ps' hp',R v ps' hp'→R' v ps' hp'):Con P f args ps l R':=fun w S fp hst =>
 (h w S fp hst).mono fun e w' ⟨v,ps',hp',S',fp',he,hR,h⟩=>⟨v,ps',hp',S',fp',he,hr _ _ _ hR,h⟩
theorem Con.pre{f:FuncId}{args:List Value}{ps0:List Per}(h:Con P f args ps l R)(hr:∀ p∈ps,Ent ps0 p):Con P f args ps0 l R:=fun w S fp hst =>
 h w S fp ⟨fun p hp=>hr p hp w S hst.per,hst.res,hst.lt,hst.dj,hst.slt⟩
end
section
variable {P:Program} {n:Fr} {ops:Array Oper} {Q:Exit→Sta→Prop} {s:Sta} {o:Oper}
end
end Go.Sy

namespace Go.Proofs.YtgkbbdgklpabpaaGreatDoor
open Go.RowKit Go.Lp Go.Sy
def I64(n:Int):Prop := -9223372036854775808≤n∧n≤9223372036854775807
theorem tk3:tyk Tryz.prog 3=some (false,1):=by kernel_rfl
theorem tk4:tyk Tryz.prog 4=some (false,1):=by kernel_rfl
theorem tk5:tyk Tryz.prog 5=some (false,1):=by kernel_rfl
theorem tk9:tyk Tryz.prog 9=some (false,1):=by kernel_rfl
theorem tk22:tyk Tryz.prog 22=some (false,1):=by kernel_rfl
theorem tk23:tyk Tryz.prog 23=some (false,1):=by kernel_rfl
theorem tk24:tyk Tryz.prog 24=some (false,1):=by kernel_rfl
theorem tk28:tyk Tryz.prog 28=some (true,4):=by kernel_rfl
theorem tk30:tyk Tryz.prog 30=some (false,1):=by kernel_rfl
theorem tk32:tyk Tryz.prog 32=some (true,14):=by kernel_rfl
theorem tk33:tyk Tryz.prog 33=some (false,1):=by kernel_rfl
theorem tk34:tyk Tryz.prog 34=some (false,1):=by kernel_rfl
theorem tk36:tyk Tryz.prog 36=some (true,7):=by kernel_rfl
theorem tk44:tyk Tryz.prog 44=some (true,4):=by kernel_rfl
theorem tk45:tyk Tryz.prog 45=some (false,1):=by kernel_rfl
theorem tk47:tyk Tryz.prog 47=some (false,1):=by kernel_rfl
theorem tk49:tyk Tryz.prog 49=some (false,1):=by kernel_rfl
theorem tk52:tyk Tryz.prog 52=some (true,12):=by kernel_rfl
theorem tk54:tyk Tryz.prog 54=some (true,7):=by kernel_rfl
theorem tk67:tyk Tryz.prog 67=some (true,8):=by kernel_rfl
theorem tk81:tyk Tryz.prog 81=some (true,4):=by kernel_rfl
theorem tk95:tyk Tryz.prog 95=some (true,2):=by kernel_rfl
theorem tk114:tyk Tryz.prog 114=some (true,2):=by kernel_rfl
theorem tk126:tyk Tryz.prog 126=some (true,11):=by kernel_rfl
theorem tk134:tyk Tryz.prog 134=some (true,9):=by kernel_rfl
theorem tk137:tyk Tryz.prog 137=some (true,5):=by kernel_rfl
theorem tk139:tyk Tryz.prog 139=some (true,7):=by kernel_rfl
theorem tk144:tyk Tryz.prog 144=some (true,7):=by kernel_rfl
theorem tk146:tyk Tryz.prog 146=some (true,4):=by kernel_rfl
theorem tk165:tyk Tryz.prog 165=some (true,2):=by kernel_rfl
theorem tk168:tyk Tryz.prog 168=some (true,2):=by kernel_rfl
theorem tk174:tyk Tryz.prog 174=some (true,6):=by kernel_rfl
theorem tk176:tyk Tryz.prog 176=some (true,10):=by kernel_rfl
theorem tk178:tyk Tryz.prog 178=some (true,5):=by kernel_rfl
theorem tk180:tyk Tryz.prog 180=some (true,6):=by kernel_rfl
theorem tk182:tyk Tryz.prog 182=some (true,4):=by kernel_rfl
theorem tk190:tyk Tryz.prog 190=some (true,3):=by kernel_rfl
theorem tk201:tyk Tryz.prog 201=some (false,1):=by kernel_rfl
theorem tk217:tyk Tryz.prog 217=some (true,5):=by kernel_rfl
theorem tk225:tyk Tryz.prog 225=some (true,2):=by kernel_rfl
theorem tk233:tyk Tryz.prog 233=some (true,3):=by kernel_rfl
theorem tk236:tyk Tryz.prog 236=some (true,4):=by kernel_rfl
theorem tk243:tyk Tryz.prog 243=some (true,6):=by kernel_rfl
theorem tk253:tyk Tryz.prog 253=some (true,4):=by kernel_rfl
theorem tk260:tyk Tryz.prog 260=some (true,3):=by kernel_rfl
theorem tk271:tyk Tryz.prog 271=some (true,6):=by kernel_rfl
theorem tk275:tyk Tryz.prog 275=some (false,1):=by kernel_rfl
theorem tk289:tyk Tryz.prog 289=some (true,2):=by kernel_rfl
theorem tk307:tyk Tryz.prog 307=some (true,4):=by kernel_rfl
theorem el22:elB Tryz.prog 22 52 12=true:=by kernel_rfl
theorem el26:elB Tryz.prog 26 9 1=true:=by kernel_rfl
theorem el33:elB Tryz.prog 33 3 1=true:=by kernel_rfl
theorem el34:elB Tryz.prog 34 44 4=true:=by kernel_rfl
theorem el42:elB Tryz.prog 42 4 1=true:=by kernel_rfl
theorem el45:elB Tryz.prog 45 54 7=true:=by kernel_rfl
theorem el48:elB Tryz.prog 48 243 6=true:=by kernel_rfl
theorem el64:elB Tryz.prog 64 67 8=true:=by kernel_rfl
theorem el76:elB Tryz.prog 76 37 1=true:=by kernel_rfl
theorem el78:elB Tryz.prog 78 95 2=true:=by kernel_rfl
theorem el118:elB Tryz.prog 118 174 6=true:=by kernel_rfl
theorem el119:elB Tryz.prog 119 176 10=true:=by kernel_rfl
theorem el120:elB Tryz.prog 120 178 5=true:=by kernel_rfl
theorem el123:elB Tryz.prog 123 180 6=true:=by kernel_rfl
theorem el124:elB Tryz.prog 124 146 4=true:=by kernel_rfl
theorem el163:elB Tryz.prog 163 168 2=true:=by kernel_rfl
theorem el185:elB Tryz.prog 185 5 1=true:=by kernel_rfl
theorem el201:elB Tryz.prog 201 33 1=true:=by kernel_rfl
theorem el291:elB Tryz.prog 291 289 2=true:=by kernel_rfl
end Go.Proofs.YtgkbbdgklpabpaaGreatDoor

namespace Go.Sy
theorem mA{P:Program}{n:Fr}{s:Sta}{d:Option Tmp}{ty:TypeId}{pos:String}{af:Array Edge}{gd:Option (Nat × Bool)}{v:Value}{f:FuncId}{g:Operand}{caps:List Value}(hf:aX P f=true){l:List Operand}{ts:Array TypeId}{vs:List Value}(hg:ev s.env g=some (true,.func (.func f) #[] caps.toArray))(hx:evs s.env l=some vs)
   (hc:∀ w S fp,St w S fp s.ps s.hp→Calls P f (vs++caps).toArray w fun e w'=>e=.returned v∧Go.Sy.Below w.heap.size w w') :
   Quiet P n ⟨d,.call ⟨.value g,l.toArray,ts⟩,ty,pos,af,gd⟩ s v:=fun w S fp a hst he hn=>by
 rw [ld hf (he.val hg rfl) (eM he l vs hx)]
 have:=hc w S fp hst
 rw [show (vs++caps).toArray=vs.toArray++caps.toArray by simp] at this
 exact this.mono fun e w' ⟨h1,h2⟩=>⟨v,h1,rfl,h2⟩
open RowKit in
theorem Con.quiet3{P:Program}{v:Value}{f:FuncId}{args:List Value}{p q t:Per}(h:Con P f args [p,q,t] [] fun u _ _=>u=v){w:World}{S:ba}{fp:Nat→ba}{ps':List Per}{hp:List Res}(hp1:p∈ps')(hq1:q∈ps')(ht1:t∈ps')(hst:St w S fp ps' hp) :
   Calls P f args.toArray w fun e w'=>e=.returned v∧Go.Sy.Below w.heap.size w w':=h.quiet (fun _ h=>by
     simp only [List.mem_cons,List.not_mem_nil,or_false] at h
     rcases h with rfl | rfl | rfl
     · exact hp1
     · exact hq1
     · exact ht1) hst
end Go.Sy
namespace Go.Proofs.YtgkbbdgklpabpaaGreatDoor
open Go.RowKit Go.Lp Go.Sy
def vB(n v:Int):Bool:=decide (v≥0) && decide (v<n)
def jv(n:Int)(a:cj):Bool := !vB n a.from_ || !vB n a.to_
def uR(n:Int)(l:List cj):Bool:=(decide (n≥0) && decide (n≤262144)) && !l.any (jv n)
end Go.Proofs.YtgkbbdgklpabpaaGreatDoor

