/- Parts of the proof, in build order. No condition. -/
import Derived.Test.YtebnelfdimiifaaGreatDoorSa10
import Derived.Test.YtebnelfdimiifaaGreatDoorSa06
import Derived.Test.YtebnelfdimiifaaGreatDoorSa08
import Derived.Test.YtebnelfdimiifaaGreatDoorSa09
import Derived.Test.YtebnelfdimiifaaGreatDoorSa05
import Derived.Test.YtebnelfdimiifaaGreatDoorSa07
set_option linter.unusedSimpArgs false
set_option linter.unusedVariables false
set_option maxHeartbeats 1000000
set_option maxRecDepth 20000
namespace Go.Proofs.YtebnelfdimiifaaGreatDoor
open Go.RowKit Go.Lp Go.Sy
theorem wrapN(N:Nat)(hN:N≤1000000):IntKind.i64.wrap (N:Int)=N:=by rw [IntKind.wrap_i64];omega
def part(N k:Nat)(v:Int):List Int:=List.replicate k v++List.replicate (N-k) 0
theorem wZ{N k:Nat}(v:Int)(h:k≤N):(part N k v).length=N:=by simp [part];omega
theorem abR{N k j:Nat}(v:Int)(hj:j≤k)(h:k+j≤N):(part N k v).take k++(part N k v).take j++(part N k v).drop (k+j)=part N (k+j) v:=by
 unfold part
 rw [List.take_append_of_le_length (by simp),List.take_append_of_le_length (by simpa using hj),List.drop_append,List.drop_of_length_le (by simp)]
 simp only [List.take_replicate,List.drop_replicate,List.length_replicate,List.nil_append,Nat.min_self,Nat.min_eq_left hj]
 rw [List.replicate_append_replicate]
 congr 2;omega
end Go.Proofs.YtebnelfdimiifaaGreatDoor

namespace Go.Sy
open Go.RowKit Go.Lp
section
variable {α:Type} {enc:α→Value}
def rz(v:Value)(x:List α):Sl α:=match v with
 | .slice ad _ cap=>⟨ad,cap,x⟩
 | _=>⟨none,0,x⟩
theorem af3(v:Value)(x:List α):(rz v x).l=x:=by unfold rz;split<;>rfl
theorem aac:∀ (vs:List Value) (l:List (List α)),vs.length=l.length→(List.zipWith rz vs l).map (·.l)=l
 | [],[],_=>rfl
 | [],_::_,h=>by cases h
 | _::_,[],h=>by cases h
 | v::vs,x::l,h=>by rw [List.zipWith_cons_cons,List.map_cons,af3,aac vs l (by simpa using h)]
theorem tv:∀ (vs:List Value) (l:List (List α)),vs.length=l.length→(∀ (k:Nat) (v:Value) (x:List α),vs[k]? = some v→l[k]? = some x→(rz v x).val=v)→(List.zipWith rz vs l).map Sl.val=vs
 | [],[],_,_=>rfl
 | [],_::_,h,_=>by cases h
 | _::_,[],h,_=>by cases h
 | v::vs,x::l,h,hk=>by
   rw [List.zipWith_cons_cons,List.map_cons,hk 0 v x rfl rfl,tv vs l (by simpa using h) (fun k v x h1 h2=>hk (k+1) v x (by simpa using h1) (by simpa using h2))]
variable {P:Program} {n:Fr} {env:Env} {ps:List Per} {hp:List Res} {c:Code} {Q:Exit→Sta→Prop} {vo:Value} {T E:TypeId} {l:List (List α)}

theorem ga{w:World}{S F:bH}{v:Value}{sz:Nat}{rows:List (List D)}(h:(aN v E sz rows).holds w S F):∃ ad cap,v=.slice ad rows.length cap:=by
 rcases h with ⟨h1,h2,_⟩ | ⟨b,cap,h1,_⟩
 · subst h2;exact ⟨none,0,h1⟩
 · exact ⟨_,cap,h1⟩
theorem iO(i:Nat)(hi:hp[i]? = some (kz vo T E enc l))
   (h:∀ s:Sl (Sl α),vo=s.val→s.l.map (·.l)=l→awp P n c Q ⟨env,b6 (ShF fun x=>[.v (enc x)]) s.l::ShF (fun t:Sl α=>[.v t.val]) s::ps,hp.set i emp⟩):awp P n c Q ⟨env,ps,hp⟩:=by
 have hil:=(List.getElem?_eq_some_iff.1 hi).1
 refine sX (β := {s:Sl (Sl α) // vo=s.val∧s.l.map (·.l)=l}) i (fun p=>gm (aN vo T 1 (dy (p.1.l.map Sl.val))) (fA (inner E enc (p.1.l.map Sl.val) l))) hi (fun w S F hh => ?_) fun ⟨s,h1,h2⟩ => ?_
 · obtain ⟨vs,hl,hs⟩:=hh
   obtain ⟨G,H,hG,hH,hd,he⟩:=hs
   have hval:∀ (k:Nat) (v:Value) (x:List α),vs[k]? = some v→l[k]? = some x→(rz v x).val=v:=fun k v x hv hx=>by
     obtain ⟨G2,_,ho⟩:=tK _ _ hH k _ (oK (enc:=enc) (E:=E) hv hx)
     obtain ⟨ad,cap,rfl⟩:=ga ho
     rw [dG];rfl
   obtain ⟨ad,cap,hvo⟩:=ga hG
   have hzl:(List.zipWith rz vs l).length=vs.length:=by simp [hl]
   refine ⟨⟨⟨ad,cap,List.zipWith rz vs l⟩,?_,aac vs l hl⟩,?_⟩
   · rw [hvo]
     show _=Value.slice ad (List.zipWith rz vs l).length cap
     rw [hzl,lV]
   · show (gm (aN vo T 1 (dy ((List.zipWith rz vs l).map Sl.val))) (fA (inner E enc ((List.zipWith rz vs l).map Sl.val) l))).holds w S F
     rw [tv vs l hl hval]
     exact ⟨G,H,hG,hH,hd,he⟩
 · dsimp only
   have hsh:=jX (P:=P) (n:=n) (env:=env) (ps:=ps) (hp:=hp.set i (gm (aN vo T 1 (dy (s.l.map Sl.val))) (fA (inner E enc (s.l.map Sl.val) l)))) (c:=c) (Q:=Q) i
     (cF (ShF (fun t:Sl α=>[.v t.val]) s) (b6 (ShF fun x=>[.v (enc x)]) s.l)) (by rw [List.getElem?_set_self hil]) (fun w S F hh => ?_) ?_
   · exact hsh
   · obtain ⟨G,H,hG,hH,_,e⟩:=hh
     have hS:∀ b,(S b∨G b)→(S b∨F b):=fun b h=>h.imp id fun g=>(e b).2 (.inl g)
     refine ⟨?_,fun t ht => ?_⟩
     · have:=(ns hG).mono (fun _ _=>rfl) hS
       rw [h1] at this
       show fv w _ _ (.sl (s.l.map fun t:Sl α=>[.v t.val]))
       have e2:dy (s.l.map Sl.val)=s.l.map fun t:Sl α=>[D.v t.val]:=by simp [dy]
       rw [e2] at this
       exact this
     · obtain ⟨k,hk⟩:=List.mem_iff_getElem?.1 ht
       have hlk:l[k]? = some t.l:=by rw [← h2,List.getElem?_map,hk];rfl
       obtain ⟨G2,hs,ho⟩:=tK _ _ hH k _ (oK (enc:=enc) (E:=E) (v:=t.val) (by rw [List.getElem?_map,hk];rfl) hlk)
       exact (ns ho).mono (fun _ _=>rfl) fun b h=>h.imp id fun g=>(e b).2 (.inr (hs b g))
   · rw [List.set_set]
     refine ua (ps':=b6 (ShF fun x=>[.v (enc x)]) s.l::ShF (fun t:Sl α=>[.v t.val]) s::ps) (hp':=hp.set i emp) (fun w S fp hst=>⟨fp,⟨fun q hq => ?_,hst.res,hst.lt,hst.dj,hst.slt⟩,fun _ h=>h⟩) (h s h1 h2)
     have h0:=hst.per _ List.mem_cons_self
     rcases List.mem_cons.1 hq with rfl | hq
     · exact h0.2
     · rcases List.mem_cons.1 hq with rfl | hq
       · exact h0.1
       · exact hst.per _ (List.mem_cons_of_mem _ hq)
end
theorem sW{P:Program}{n:Fr}{env:Env}{ps:List Per}{hp:List Res}{c:Code}{Q:Exit→Sta→Prop}{v:Value}{E:TypeId}{sz:Nat}{rows:List (List D)}(i:Nat)(hi:hp[i]? = some (aN v E sz rows))(h:∀ ad cp,v=.slice ad rows.length cp→awp P n c Q ⟨env,ps,hp⟩):awp P n c Q ⟨env,ps,hp⟩ :=
 fK (φ:=∃ ad cp,v=.slice ad rows.length cp) i hi (fun w S F hh=>ga hh) (fun ⟨ad,cp,e⟩=>h ad cp e)
theorem Con.ofOwn{P:Program}{f:FuncId}{args:List Value}{ps:List Per}{v:Value}{E:TypeId}{sz:Nat}{rows:List (List D)}{R:Value→List Per→List Res→Prop}(h:Con P f args (Sh v (.sl rows)::ps) [] R):Con P f args ps [aN v E sz rows] R:=fun w S fp hst=>by
 have h1:=nU hst 0 rfl
 have h2:St w (fun b=>S b∨fp 0 b) (fun _ _=>False) (Sh v (.sl rows)::ps) []:=⟨h1.per,fun i R hi=>by simp at hi,fun i hi=>by simp at hi,fun i j hi=>by simp at hi,h1.slt⟩
 have hE:Evo w S (tot fp 1) w (fun b=>S b∨fp 0 b):=⟨rfl,rfl,rfl,Nat.le_refl _,Nat.le_refl _,fun _ _ _=>rfl,fun _ h=>.inl h,fun b hb=>hb.elim .inl fun h=>.inr (.inl ⟨0,Nat.zero_lt_one,h⟩)⟩
 have h0:∀ b,¬ tot (fun _ _=>False) ([]:List Res).length b:=fun b ⟨j,hj,_⟩=>by simp at hj
 exact (h w _ _ h2).mono fun e w' ⟨u,ps',hp',S',fp',he,hR,hst',hE',hb⟩=>⟨u,ps',hp',S',fp',he,hR,hst',hE.trans hE' (fun b hb=>(h0 b hb).elim),fun b hb'=>(hb b hb').elim (fun h=>(h0 b h).elim) .inr⟩
end Go.Sy
namespace Go.Proofs.YtebnelfdimiifaaGreatDoor
open Go.RowKit Go.Lp Go.Sy Go.Lv
def ja(N:Nat)(a:dm):Prop:=(0≤a.from_∧a.from_<N)∧0≤a.to_∧a.to_<N
theorem yO(l:List dm):∀ (L:List (List Int)) (u:Int) (x:Int),(∀ a∈l,0≤a.from_∧a.from_<L.length)→(0≤u∧u<L.length)→(x∈elt (l.foldl gn L) u↔x∈elt L u∨∃ a∈l,a.from_=u∧a.to_=x):=by
 induction l with
 | nil=>intro L u x _ _;simp
 | cons a l ih =>
   intro L u x ha hu
   have hae:=ha a List.mem_cons_self
   rw [List.foldl_cons,ih (gn L a) u x (fun b hb=>by rw [mb];exact ha b (List.mem_cons_of_mem _ hb)) (by rw [mb];exact hu)]
   have e:elt (gn L a) u=if a.from_=u then elt L u++[a.to_] else elt L u:=by
     unfold gn elt
     rw [List.getD_eq_getElem?_getD,List.getD_eq_getElem?_getD,List.getD_eq_getElem?_getD,List.getElem?_set]
     by_cases h:a.from_=u
     · subst h;rw [if_pos rfl,if_pos (by omega),if_pos rfl];rfl
     · rw [if_neg (by omega),if_neg h]
   rw [e]
   split
   · rename_i h
     rw [List.mem_append,List.mem_singleton]
     simp only [List.mem_cons,exists_eq_or_imp]
     constructor
     · rintro ((h1 | h1) | h1)
       · exact .inl h1
       · exact .inr (.inl ⟨h,h1.symm⟩)
       · exact .inr (.inr h1)
     · rintro (h1 | ⟨_,h1⟩ | h1)
       · exact .inl (.inl h1)
       · exact .inl (.inr h1.symm)
       · exact .inr h1
   · rename_i h
     simp only [List.mem_cons,exists_eq_or_imp]
     constructor
     · rintro (h1 | h1)
       · exact .inl h1
       · exact .inr (.inr h1)
     · rintro (h1 | ⟨h1,_⟩ | h1)
       · exact .inl h1
       · exact (h h1).elim
       · exact .inr h1
theorem jy(d:Array Int)(hs:∀ i j,i<j→j<d.size→d[i]! ≤ d[j]!):∀ m,m≤d.size→(Lib.compactUpTo d m).Pairwise (· < ·)∧(∀ x∈Lib.compactUpTo d m,(∃ j,j<m∧d[j]! = x))∧(∀ j,j<m→d[j]! ∈ Lib.compactUpTo d m)
 | 0,_=>⟨by simp [Lib.compactUpTo],by simp [Lib.compactUpTo],by simp⟩
 | m + 1,hm=>by
   obtain ⟨h1,h2,h3⟩:=jy d hs m (by omega)
   rw [Lib.compactUpTo_succ]
   have hk:Lib.keeps d m=true∨(0<m∧d[m]! = d[m-1]! ∧ Lib.keeps d m=false):=by
     rcases Nat.eq_zero_or_pos m with h0 | h0
     · exact .inl (Lib.keeps_lt_one d m (by omega))
     · by_cases he:d[m]! = d[m-1]!
       · exact .inr ⟨h0,he,Lib.keeps_neg h0 he⟩
       · exact .inl (Lib.keeps_pos he)
   by_cases hkm:Lib.keeps d m=true
   · rw [if_pos hkm]
     refine ⟨?_,fun x hx => ?_,fun j hj => ?_⟩
     · refine List.pairwise_append.2 ⟨h1,List.pairwise_singleton _ _,fun x hx y hy => ?_⟩
       rw [List.mem_singleton.1 hy]
       obtain ⟨j,hj,rfl⟩:=h2 x hx
       have hle:=hs j m hj (by omega)
       rcases Nat.eq_zero_or_pos m with h0 | h0
       · omega
       · have hne:d[m]! ≠ d[m-1]! := fun he=>by rw [Lib.keeps_neg h0 he] at hkm;cases hkm
         have hle2:=hs (m-1) m (by omega) (by omega)
         by_cases hjm:j=m-1
         · subst hjm;omega
         · have:=hs j (m-1) (by omega) (by omega);omega
     · rcases List.mem_append.1 hx with h | h
       · obtain ⟨j,hj,he⟩:=h2 x h;exact ⟨j,by omega,he⟩
       · exact ⟨m,by omega,(List.mem_singleton.1 h).symm⟩
     · by_cases hjm:j=m
       · subst hjm;simp
       · exact List.mem_append_left _ (h3 j (by omega))
   · obtain ⟨h0,he,_⟩:=hk.resolve_left hkm
     rw [if_neg hkm,List.append_nil]
     refine ⟨h1,fun x hx => ?_,fun j hj => ?_⟩
     · obtain ⟨j,hj,he⟩:=h2 x hx;exact ⟨j,by omega,he⟩
     · by_cases hjm:j=m
       · subst hjm;rw [he];exact h3 (j-1) (by omega)
       · exact h3 j (by omega)
theorem r9(zs:List Int):(dx zs).Pairwise (· < ·)∧∀ x,x∈dx zs↔x∈zs:=by
 have hp:(fT zs).Pairwise (fun x y=>(decide (x≤y))=true):=List.pairwise_mergeSort (fun a b c h1 h2=>by simp at *;omega) (fun a b=>by simp;omega) zs
 have hg:∀ j (hj:j<(fT zs).length),(fT zs).toArray[j]! = (fT zs)[j]:=fun j hj=>by simp [hj]
 have hs:∀ i j,i<j→j<(fT zs).toArray.size→(fT zs).toArray[i]! ≤ (fT zs).toArray[j]! := fun i j hij hj=>by
   have hj':j<(fT zs).length:=by simpa using hj
   rw [hg i (by omega),hg j hj']
   simpa using List.pairwise_iff_getElem.1 hp i j (by omega) hj' hij
 obtain ⟨h1,h2,h3⟩:=jy (fT zs).toArray hs (fT zs).length (by simp)
 refine ⟨h1,fun x=>⟨fun hx => ?_,fun hx => ?_⟩⟩
 · obtain ⟨j,hj,rfl⟩:=h2 x hx
   rw [hg j hj]
   exact List.mem_mergeSort.1 (List.getElem_mem hj)
 · have hm:x∈fT zs:=List.mem_mergeSort.2 hx
   obtain ⟨j,hj,he⟩:=List.getElem_of_mem hm
   rw [← he,← hg j hj];exact h3 j hj
theorem tu{zs:List Int}{x:Int} : x∈dx zs↔x∈zs:=(r9 zs).2 x
theorem acZ{α:Type}[Inhabited α](l:List α)(u:Int):elt l u=elt l (u.toNat:Int):=rfl
theorem jK{N:Nat}{l:List dm}(h:∀ a∈l,ja N a){u x:Int}(hu:0≤u∧u<N):x∈elt (dv N l) u↔∃ a∈l,a.from_=u∧a.to_=x:=by
 have e:elt (dv N l) u=dx (elt (dZ N l) u):=by
   unfold dv elt
   rw [List.getD_eq_getElem?_getD,List.getD_eq_getElem?_getD,List.getElem?_map]
   have hlt:u.toNat<(dZ N l).length:=by rw [dB];omega
   rw [List.getElem?_eq_getElem hlt];rfl
 rw [e,tu]
 unfold dZ
 rw [yO l (List.replicate N []) u x (fun a ha=>by simpa using (h a ha).1) (by simpa using hu)]
 have:elt (List.replicate N ([]:List Int)) u=[]:=by
   unfold elt;rw [List.getD_eq_getElem?_getD,List.getElem?_replicate];split<;>rfl
 rw [this];simp
theorem pw{N:Nat}{l:List dm}(h:∀ a∈l,ja N a):l4 N (dv N l):=fun u x hx=>by
 rw [acZ] at hx
 by_cases hu:u.toNat<N
 · obtain ⟨a,ha,_,rfl⟩:=(jK h (by omega)).1 hx;exact (h a ha).2
 · unfold elt at hx
   rw [List.getD_eq_getElem?_getD,List.getElem?_eq_none (by unfold dv;rw [List.length_map,dB];omega)] at hx
   cases hx
theorem xD(zs:List Int):(dx zs).length≤zs.length:=by
 unfold dx Lib.compact Lib.compactUpTo
 rw [List.length_map]
 refine Nat.le_trans (List.length_filter_le _ _) ?_
 simp [fT]
theorem jH{l:List Int}{k:Nat}{v:Int}(h:l[k]? = some v):(cD encI l)[k]? = some [.v (encI v)]:=by simp [cD,h]
theorem na{l:List Int}(h:0<l.length):cD encI l≠[]:=fun h0=>by
 have:=congrArg List.length h0
 rw [dG,List.length_nil] at this;omega
theorem wJ(l:List Int)(i:Nat)(v:Int):cD encI (l.set i v)=(cD encI l).set i [.v (encI v)]:=by simp [cD,List.map_set]
theorem lJ(l:List Int)(v:Int):cD encI (l++[v])=cD encI l++[[.v (encI v)]]:=by simp [cD]
end Go.Proofs.YtebnelfdimiifaaGreatDoor

namespace Go.Lv
open Go.Sy
inductive Rc (nx:List (List Int)):Int→Int→Prop
 | refl (v:Int):Rc nx v v
 | step {u w v:Int} (h:w∈elt nx u) (k:Rc nx w v):Rc nx u v
theorem Rc.trans{nx:List (List Int)}{a b c:Int}(h:Rc nx a b)(k:Rc nx b c):Rc nx a c:=by
 induction h with
 | refl=>exact k
 | step h _ ih=>exact .step h (ih k)
theorem Rc.one{nx:List (List Int)}{a b:Int}(h:b∈elt nx a):Rc nx a b:=.step h (.refl _)
abbrev nodes(s:TS):List Int:=s.calls.map (·.1)
def kA(s:TS)(c u:Int):Prop:=c∈nodes s∧elt s.idx c≤elt s.idx u∧∀ c'∈nodes s,elt s.idx c'≤elt s.idx u→elt s.idx c'≤elt s.idx c
structure TJ (nx:List (List Int)) (s:TS):Prop where
 asc:s.stk.Pairwise fun a b=>elt s.idx a<elt s.idx b
 rc:∀ u∈s.stk,∀ c,kA s c u→Rc nx c u
 ch:∀ c∈nodes s,∀ c'∈nodes s,elt s.idx c≤elt s.idx c'→Rc nx c c'
 lr:∀ v∈s.stk,elt s.low v≤elt s.idx v∧∃ x∈s.stk,Rc nx v x∧elt s.idx x=elt s.low v
 rt:∀ u∈s.stk,u ∉ nodes s→elt s.low u<elt s.idx u
 ex:∀ u∈s.stk,∀ c,kA s c u→∀ (j:Nat) (w:Int),(elt nx u)[j]? = some w→(∀ i,(u,i)∈s.calls→(j:Int)<i)→elt s.idx w≠0∧(elt s.part w=0→elt s.low c≤elt s.idx w)
 cl:∀ v,0≤v→elt s.part v≠0→∀ w∈elt nx v,elt s.part w≠0∧elt s.part w≤elt s.part v
 sc:∀ u v,0≤u→0≤v→elt s.part u≠0→elt s.part u=elt s.part v→Rc nx u v
theorem pX{f:Int→Int} : ∀ {l:List Int},(l.Pairwise fun a b=>f a<f b)→∀ {x y:Int},x∈l→y∈l→f x=f y→x=y
 | [],_,_,_,h,_,_=>by cases h
 | a :: l,h,x,y,hx,hy,e=>by
   rw [List.pairwise_cons] at h
   rcases List.mem_cons.1 hx with rfl | hx
   · rcases List.mem_cons.1 hy with rfl | hy
     · rfl
     · have:=h.1 y hy;omega
   · rcases List.mem_cons.1 hy with e2 | hy
     · have:=h.1 x hx;rw [e2] at e;omega
     · exact pX h.2 hx hy e
theorem aeI{l:List Int}{v:Int}(h:(l.length:Int)≤v):elt l v=0:=by
 unfold elt;rw [List.getD_eq_getElem?_getD,List.getElem?_eq_none (by omega)];rfl
section
variable {N:Nat} {nx:List (List Int)} {r:Int} {s:TS}
theorem TJ.nil(hp:∀ v,0≤v→elt s.part v=0)(hc:s.calls=[])(hs:s.stk=[]):TJ nx s:=by
 refine ⟨by rw [hs];exact .nil,fun u hu => ?_,fun c h => ?_,fun u hu => ?_,fun u hu => ?_,fun u hu => ?_,fun v h0 hv=>absurd (hp v h0) hv,fun u v h0 _ hu=>absurd (hp u h0) hu⟩
 · rw [hs] at hu;cases hu
 · simp only [nodes,hc,List.map_nil] at h;cases h
 · rw [hs] at hu;cases hu
 · rw [hs] at hu;cases hu
 · rw [hs] at hu;cases hu
theorem TI.sub'(h:TI N nx r s){c:Int}(hc:c∈nodes s):c∈s.stk:=h.sub.subset hc
theorem TI.inr(h:TI N nx r s){c:Int}(hc:c∈s.stk):0≤c∧c<N:=((h.stk c).1 hc).1
theorem TI.once(h:TI N nx r s){v i i':Int}(h1:(v,i)∈s.calls)(h2:(v,i')∈s.calls):i=i':=by
 have hn:(s.calls.map (·.1)).Nodup:=h.sub.nodup h.nd
 have key:∀ l:List (Int × Int),(l.map (·.1)).Nodup→(v,i)∈l→(v,i')∈l→i=i':=fun l=>by
   induction l with
   | nil=>intro _ h;cases h
   | cons a l ih =>
     intro hn h1 h2
     rw [List.map_cons,List.nodup_cons] at hn
     rcases List.mem_cons.1 h1 with rfl | h1
     · rcases List.mem_cons.1 h2 with h3 | h2
       · exact (Prod.mk.inj h3).2.symm
       · exact absurd (List.mem_map_of_mem (f:=(·.1)) h2) hn.1
     · rcases List.mem_cons.1 h2 with h3 | h2
       · refine absurd (List.mem_map_of_mem (f:=(·.1)) h1) ?_
         rw [← h3] at hn;exact hn.1
       · exact ih hn.2 h1 h2
 exact key _ hn h1 h2
theorem kA.self(h:TI N nx r s)(j:TJ nx s){c v:Int}(hv:v∈nodes s)(ho:kA s c v):c=v :=
 pX (f:=elt s.idx) j.asc (h.sub' ho.1) (h.sub' hv) (by have:=ho.2.2 v hv (Int.le_refl _);have:=ho.2.1;omega)
theorem TJ.lower(h:TI N nx r s)(j:TJ nx s){u x:Int}(hu:u∈s.stk)(hx:x∈s.stk)(hr:Rc nx u x){z:Int}(hz:elt s.idx x=z):TJ nx { s with low:=s.low.set u.toNat (min (elt s.low u) z) } := by
 have hur:=h.inr hu
 have hll:=h.ll
 have eL:∀ y,0≤y→elt (s.low.set u.toNat (min (elt s.low u) z)) y=if u=y then min (elt s.low u) z else elt s.low y:=fun y hy=>ei hur.1 (by omega) hy
 have hle:∀ y,0≤y→elt (s.low.set u.toNat (min (elt s.low u) z)) y≤elt s.low y:=fun y hy=>by
   rw [eL y hy];split
   · rename_i e;subst e;omega
   · omega
 refine ⟨j.asc,j.rc,j.ch,fun v hv => ?_,fun v hv hn => ?_,fun v hv c ho k w hw he => ?_,j.cl,j.sc⟩
 · have h1:=j.lr v hv
   have h0:=(h.inr hv).1
   refine ⟨Int.le_trans (hle v h0) h1.1,?_⟩
   show ∃ y∈s.stk,Rc nx v y∧elt s.idx y=elt (s.low.set _ _) v
   rw [eL v h0]
   split
   · rename_i e;subst e
     by_cases hm:elt s.low u≤z
     · rw [Int.min_eq_left hm];exact h1.2
     · rw [Int.min_eq_right (by omega)];exact ⟨x,hx,hr,hz⟩
   · exact h1.2
 · exact Int.lt_of_le_of_lt (hle v (h.inr hv).1) (j.rt v hv hn)
 · have h1:=j.ex v hv c ho k w hw he
   exact ⟨h1.1,fun hp=>Int.le_trans (hle c (h.inr (h.sub' ho.1)).1) (h1.2 hp)⟩
theorem TJ.adv(h:TI N nx r s)(j:TJ nx s){cs ds:List (Int × Int)}{v i w:Int}(hc:s.calls=cs++(v,i)::ds)(hi:0≤i)(ha:(elt nx v)[i.toNat]? = some w)(hw:elt s.idx w≠0)(hl:elt s.part w=0→elt s.low v≤elt s.idx w) :
   TJ nx { s with calls:=cs++(v,i+1)::ds } := by
 have hn:nodes { s with calls:=cs++(v,i+1)::ds } = nodes s:=by simp [nodes,hc]
 have hO:∀ c u,kA { s with calls:=cs++(v,i+1)::ds } c u→kA s c u:=fun c u ho=>by unfold kA at ho ⊢;rw [hn] at ho;exact ho
 have hvn:v∈nodes s:=by simp [nodes,hc]
 refine ⟨j.asc,fun u hu c ho=>j.rc u hu c (hO c u ho),fun c hc1 c' hc2=>j.ch c (hn ▸ hc1) c' (hn ▸ hc2),j.lr,fun u hu hnn=>j.rt u hu (hn ▸ hnn),fun u hu c ho k y hy he => ?_,j.cl,j.sc⟩
 have ho2:=hO c u ho
 clear ho
 rename kA s c u=>ho
 by_cases huv:u=v
 · subst huv
   have hk:(k:Int)<i+1:=he (i+1) (by simp)
   by_cases hki:(k:Int)<i
   · exact j.ex u hu c ho k y hy fun i' h'=>by rw [h.once h' (by rw [hc];simp:(u,i)∈s.calls)];exact hki
   · have e:k=i.toNat:=by omega
     rw [e,ha] at hy
     obtain rfl:=Option.some.inj hy
     rw [ho.self h j hvn]
     exact ⟨hw,hl⟩
 · refine j.ex u hu c ho k y hy fun i' h'=>he i' ?_
   rw [hc] at h'
   rcases List.mem_append.1 h' with h1 | h1
   · exact List.mem_append_left _ h1
   · rcases List.mem_cons.1 h1 with h2 | h2
     · exact absurd (Prod.mk.inj h2).1 huv
     · exact List.mem_append_right _ (List.mem_cons_of_mem _ h2)
theorem TJ.enter(h:TI N nx r s)(j:TJ nx s)(hnr:∀ v w,w∈elt nx v→0≤w∧w<N){w:Int}(hw:0≤w∧w<N)(h0:elt s.idx w=0)(hv:s.stk=[]∨∃ v∈nodes s,(∀ c∈nodes s,elt s.idx c≤elt s.idx v)∧w∈elt nx v):TJ nx (di s w):=by
 have hli:=h.li
 have hll:=h.ll
 have hc0:=h.cnt0
 have eI:∀ v,0≤v→elt (di s w).idx v=if w=v then s.cnt+1 else elt s.idx v:=fun v hv=>ei hw.1 (by omega) hv
 have eL:∀ v,0≤v→elt (di s w).low v=if w=v then s.cnt+1 else elt s.low v:=fun v hv=>ei hw.1 (by omega) hv
 have hws:w ∉ s.stk:=fun hm=>((h.stk w).1 hm).2.1 h0
 have hst:∀ x∈s.stk,w≠x∧elt s.idx x≤s.cnt:=fun x hx=>⟨fun e=>hws (e ▸ hx),(h.ile x (h.inr hx).1 (h.inr hx).2).2⟩
 have eIo:∀ x∈s.stk,elt (di s w).idx x=elt s.idx x:=fun x hx=>by rw [eI x (h.inr hx).1,if_neg (hst x hx).1]
 have eLo:∀ x∈s.stk,elt (di s w).low x=elt s.low x:=fun x hx=>by rw [eL x (h.inr hx).1,if_neg (hst x hx).1]
 have eIw:elt (di s w).idx w=s.cnt+1:=by rw [eI w hw.1,if_pos rfl]
 have eLw:elt (di s w).low w=s.cnt+1:=by rw [eL w hw.1,if_pos rfl]
 have hn:nodes (di s w)=nodes s++[w]:=by simp [nodes,di]
 have hO:∀ u∈s.stk,∀ c,kA (di s w) c u→kA s c u:=fun u hu c ⟨h1,h2,h3⟩=>by
   rw [hn] at h1 h3
   rw [eIo u hu] at h2 h3
   rcases List.mem_append.1 h1 with h1 | h1
   · have hcs:=h.sub' h1
     rw [eIo c hcs] at h2 h3
     exact ⟨h1,h2,fun c' hc' hle=>by have:=h3 c' (List.mem_append_left _ hc') (by rw [eIo c' (h.sub' hc')];exact hle);rw [eIo c' (h.sub' hc')] at this;exact this⟩
   · rw [List.mem_singleton.1 h1,eIw] at h2
     have:=(hst u hu).2
     omega
 have hOw:∀ c,kA (di s w) c w→c=w:=fun c ⟨h1,_,h3⟩=>by
   rw [hn] at h1 h3
   rcases List.mem_append.1 h1 with h1 | h1
   · have:=h3 w (by simp) (Int.le_refl _)
     rw [eIw,eIo c (h.sub' h1)] at this
     have:=(hst c (h.sub' h1)).2
     omega
   · exact List.mem_singleton.1 h1
 have hmem:∀ u,u∈(di s w).stk→u∈s.stk∨u=w:=fun u hu=>(List.mem_append.1 hu).imp id List.mem_singleton.1
 refine ⟨?_,fun u hu c ho => ?_,fun c hc c' hc' hle => ?_,fun u hu => ?_,fun u hu hnn => ?_,fun u hu c ho k y hy he => ?_,j.cl,j.sc⟩
 · show (s.stk++[w]).Pairwise _
   rw [List.pairwise_append]
   refine ⟨j.asc.imp_of_mem fun ha hb hab=>by rw [eIo _ ha,eIo _ hb];exact hab,List.pairwise_singleton _ _,fun a ha b hb => ?_⟩
   rw [List.mem_singleton.1 hb,eIw,eIo a ha]
   have:=(hst a ha).2;omega
 · rcases hmem u hu with hu | rfl
   · exact j.rc u hu c (hO u hu c ho)
   · rw [hOw c ho];exact .refl _
 · rw [hn] at hc hc'
   rcases List.mem_append.1 hc with h1 | h1
   · have hcs:=h.sub' h1
     rcases List.mem_append.1 hc' with h2 | h2
     · rw [eIo c hcs,eIo c' (h.sub' h2)] at hle
       exact j.ch c h1 c' h2 hle
     · rw [List.mem_singleton.1 h2]
       rcases hv with hv | ⟨v,hv1,hv2,hv3⟩
       · rw [hv] at hcs;cases hcs
       · exact (j.ch c h1 v hv1 (hv2 c h1)).trans (.one hv3)
   · rw [List.mem_singleton.1 h1] at hle ⊢
     rcases List.mem_append.1 hc' with h2 | h2
     · rw [eIw,eIo c' (h.sub' h2)] at hle
       have:=(hst c' (h.sub' h2)).2
       omega
     · rw [List.mem_singleton.1 h2];exact .refl _
 · rcases hmem u hu with hu | rfl
   · obtain ⟨h1,x,h2,h3,h4⟩:=j.lr u hu
     rw [eIo u hu,eLo u hu]
     exact ⟨h1,x,List.mem_append_left _ h2,h3,by rw [eIo x h2];exact h4⟩
   · rw [eIw,eLw]
     exact ⟨Int.le_refl _,u,List.mem_append_right _ (by simp),.refl _,eIw⟩
 · rw [hn] at hnn
   rcases hmem u hu with hu | rfl
   · rw [eIo u hu,eLo u hu]
     exact j.rt u hu fun hm=>hnn (List.mem_append_left _ hm)
   · exact absurd (List.mem_append_right _ (by simp)) hnn
 · have hy0:=(hnr u y (List.mem_of_getElem? hy)).1
   rcases hmem u hu with hu | rfl
   · have ho:=hO u hu c ho
     have h1:=j.ex u hu c ho k y hy fun i hi=>he i (List.mem_append_left _ hi)
     have hcs:=h.sub' ho.1
     refine ⟨?_,fun hp => ?_⟩
     · rw [eI y hy0];split
       · omega
       · exact h1.1
     · rw [eLo c hcs,eI y hy0]
       split
       · have:=(j.lr c hcs).1;have:=(hst c hcs).2;omega
       · exact h1.2 hp
   · have:=he 0 (List.mem_append_right _ (by simp))
     omega
theorem TJ.pop(h:TI N nx r s)(j:TJ nx s){cs:List (Int × Int)}{v i:Int}(hc:s.calls=cs++[(v,i)])(hi:(elt nx v).length≤i)(hlt:elt s.low v<elt s.idx v)(hup:∀ c∈cs.map (·.1),(∀ c'∈cs.map (·.1),elt s.idx c'≤elt s.idx c)→elt s.low c≤elt s.low v):TJ nx { s with calls:=cs } := by
 have hn:nodes s=cs.map (·.1)++[v]:=by simp [nodes,hc]
 have hvn:v∈nodes s:=by rw [hn];simp
 have hasc:(nodes s).Pairwise fun a b=>elt s.idx a<elt s.idx b:=j.asc.sublist h.sub
 have hmax:∀ c∈cs.map (·.1),elt s.idx c<elt s.idx v:=fun c hc=>by
   rw [hn,List.pairwise_append] at hasc
   exact hasc.2.2 c hc v (by simp)
 have hin:∀ c∈cs.map (·.1),c∈nodes s:=fun c hc=>by rw [hn];exact List.mem_append_left _ hc
 have hO:∀ u c,kA { s with calls:=cs } c u→(elt s.idx u<elt s.idx v∧kA s c u)∨(kA s v u∧Rc nx c v∧elt s.low c≤elt s.low v):=fun u c ⟨h1,h2,h3⟩=>by
   by_cases hlt:elt s.idx u<elt s.idx v
   · refine .inl ⟨hlt,hin c h1,h2,fun c' hc' hle => ?_⟩
     rw [hn] at hc'
     rcases List.mem_append.1 hc' with h4 | h4
     · exact h3 c' h4 hle
     · have h5:c'=v:=List.mem_singleton.1 h4
       rw [h5] at hle;omega
   · have hvu:elt s.idx v≤elt s.idx u:=by omega
     refine .inr ⟨⟨hvn,hvu,fun c' hc' _ => ?_⟩,j.ch c (hin c h1) v hvn (by have:=hmax c h1;omega),hup c h1 fun c' hc'=>h3 c' hc' (by have:=hmax c' hc';show elt s.idx c'≤elt s.idx u;omega)⟩
     rw [hn] at hc'
     rcases List.mem_append.1 hc' with h4 | h4
     · have:=hmax c' h4;omega
     · rw [List.mem_singleton.1 h4];exact Int.le_refl _
 refine ⟨j.asc,fun u hu c ho => ?_,fun c hc1 c' hc2=>j.ch c (hin c hc1) c' (hin c' hc2),j.lr,fun u hu hnn => ?_,fun u hu c ho k w hw he => ?_,j.cl,j.sc⟩
 · rcases hO u c ho with ⟨_,h1⟩ | ⟨h1,h2,_⟩
   · exact j.rc u hu c h1
   · exact h2.trans (j.rc u hu v h1)
 · by_cases e:u=v
   · subst e;exact hlt
   · refine j.rt u hu fun hm => ?_
     rw [hn] at hm
     rcases List.mem_append.1 hm with h4 | h4
     · exact hnn h4
     · exact e (List.mem_singleton.1 h4)
 · have he2:∀ i',(u,i')∈s.calls→(k:Int)<i':=fun i' h'=>by
     rw [hc] at h'
     rcases List.mem_append.1 h' with h4 | h4
     · exact he i' h4
     · have h5:=Prod.mk.inj (List.mem_singleton.1 h4)
       have hk:=(List.getElem?_eq_some_iff.1 hw).1
       rw [h5.1] at hk
       rw [h5.2];omega
   rcases hO u c ho with ⟨_,h1⟩ | ⟨h1,_,h3⟩
   · exact j.ex u hu c h1 k w hw he2
   · have h4:=j.ex u hu v h1 k w hw he2
     exact ⟨h4.1,fun hp=>Int.le_trans h3 (h4.2 hp)⟩
theorem TJ.close(h:TI N nx r s)(j:TJ nx s)(hnr:∀ v w,w∈elt nx v→0≤w∧w<N){cs:List (Int × Int)}{v i:Int}(hc:s.calls=cs++[(v,i)])(hi:(elt nx v).length≤i)(heq:elt s.low v=elt s.idx v){A B p:List Int}(hs:s.stk=A++v::B)(hp:∀ x,x∈p↔x∈v::B) :
   TJ nx { s with calls:=cs,stk:=A,part:=df s.part ((s.np:Int)+1) p,np:=s.np+1 } := by
 have hn:nodes s=cs.map (·.1)++[v]:=by simp [nodes,hc]
 have hvn:v∈nodes s:=by rw [hn];simp
 have hasc:(nodes s).Pairwise fun a b=>elt s.idx a<elt s.idx b:=j.asc.sublist h.sub
 have hmax:∀ c∈cs.map (·.1),elt s.idx c<elt s.idx v:=fun c hc=>by
   rw [hn,List.pairwise_append] at hasc
   exact hasc.2.2 c hc v (by simp)
 have hmax2:∀ c∈nodes s,elt s.idx c≤elt s.idx v:=fun c hc=>by
   rw [hn] at hc
   rcases List.mem_append.1 hc with h4 | h4
   · have:=hmax c h4;omega
   · rw [List.mem_singleton.1 h4];exact Int.le_refl _
 have hin:∀ c∈cs.map (·.1),c∈nodes s:=fun c hc=>by rw [hn];exact List.mem_append_left _ hc
 have hA:∀ x∈A,x∈s.stk:=fun x hx=>by rw [hs];exact List.mem_append_left _ hx
 have hB:∀ x∈v::B,x∈s.stk:=fun x hx=>by rw [hs];exact List.mem_append_right _ hx
 have hpw:=j.asc
 rw [hs,List.pairwise_append,List.pairwise_cons] at hpw
 have hAv:∀ x∈A,elt s.idx x<elt s.idx v:=fun x hx=>hpw.2.2 x hx v (by simp)
 have hBv:∀ x∈v::B,elt s.idx v≤elt s.idx x:=fun x hx=>by
   rcases List.mem_cons.1 hx with rfl | hx
   · exact Int.le_refl _
   · have:=hpw.2.1.1 x hx;omega
 have hsp:∀ x∈s.stk,elt s.idx v≤elt s.idx x→x∈v::B:=fun x hx hle=>by
   rw [hs] at hx
   rcases List.mem_append.1 hx with h1 | h1
   · have:=hAv x h1;omega
   · exact h1
 have hlp:=h.lp
 have hpr:∀ w∈p,0≤w∧w<s.part.length:=fun w hw=>by rw [hlp];exact h.inr (hB w ((hp w).1 hw))
 have eP:∀ x,0≤x→elt (df s.part ((s.np:Int)+1) p) x=if x∈p then (s.np:Int)+1 else elt s.part x:=ka p s.part hpr
 have hp0:∀ x∈p,elt s.part x=0:=fun x hx=>((h.stk x).1 (hB x ((hp x).1 hx))).2.2
 have hOB:∀ u∈v::B,kA s v u:=fun u hu=>⟨hvn,hBv u hu,fun c hc _=>hmax2 c hc⟩
 have hO:∀ u∈A,∀ c,kA { s with calls:=cs,stk:=A,part:=df s.part ((s.np:Int)+1) p,np:=s.np+1 } c u→kA s c u:=fun u hu c ⟨h1,h2,h3⟩=>⟨hin c h1,h2,fun c' hc' hle=>by
   rw [hn] at hc'
   rcases List.mem_append.1 hc' with h4 | h4
   · exact h3 c' h4 hle
   · rw [List.mem_singleton.1 h4] at hle
     have:=hAv u hu;omega⟩
 -- where the arcs of the part lead
 have hout:∀ u∈v::B,∀ w∈elt nx u,w∈v::B∨elt s.part w≠0:=fun u hu w hw=>by
   obtain ⟨k,hk⟩:=List.mem_iff_getElem?.1 hw
   have h1:=j.ex u (hB u hu) v (hOB u hu) k w hk fun i' h'=>by
     have hun:u∈nodes s:=List.mem_map_of_mem (f:=(·.1)) h'
     have huv:u=v:=pX (f:=elt s.idx) j.asc (h.sub' hun) (h.sub' hvn) (by have:=hmax2 u hun;have:=hBv u hu;omega)
     subst huv
     rw [h.once h' (by rw [hc];simp:(u,i)∈s.calls)]
     have:=(List.getElem?_eq_some_iff.1 hk).1
     omega
   by_cases hpz:elt s.part w=0
   · refine .inl (hsp w ((h.stk w).2 ⟨hnr u w hw,h1.1,hpz⟩) ?_)
     have:=h1.2 hpz;omega
   · exact .inr hpz
 have hgo:∀ a b,Rc nx a b→(a∈v::B∨(0≤a∧elt s.part a≠0))→(b∈v::B∨elt s.part b≠0):=fun a b hab=>by
   induction hab with
   | refl a=>exact fun h1=>h1.imp id (·.2)
   | step hw _ ih =>
     rintro (h1 | ⟨h1,h2⟩)
     · rcases hout _ h1 _ hw with h3 | h3
       · exact ih (.inl h3)
       · exact ih (.inr ⟨(hnr _ _ hw).1,h3⟩)
     · exact ih (.inr ⟨(hnr _ _ hw).1,(j.cl _ h1 h2 _ hw).1⟩)
 have hback:∀ (m:Nat) (u:Int),u∈v::B→(elt s.idx u).toNat≤m→Rc nx u v:=fun m=>by
   induction m with
   | zero =>
     intro u hu hm
     have h1:=h.ile u (h.inr (hB u hu)).1 (h.inr (hB u hu)).2
     have h2:=((h.stk u).1 (hB u hu)).2.1
     omega
   | succ m ih =>
     intro u hu hm
     by_cases huv:u=v
     · subst huv;exact .refl _
     · have hun:u ∉ nodes s:=fun hun=>huv (pX (f:=elt s.idx) j.asc (h.sub' hun) (h.sub' hvn) (by have:=hmax2 u hun;have:=hBv u hu;omega))
       have h1:=j.rt u (hB u hu) hun
       obtain ⟨_,x,hx,hux,hxi⟩:=j.lr u (hB u hu)
       have hxB:x∈v::B:=(hgo u x hux (.inl hu)).resolve_right fun hne=>hne ((h.stk x).1 hx).2.2
       have h2:=h.ile x (h.inr hx).1 (h.inr hx).2
       exact hux.trans (ih x hxB (by omega))
 have hnp:∀ x,0≤x→elt s.part x≤s.np∧0≤elt s.part x:=fun x hx=>by
   by_cases hxN:x<N
   · have:=h.pr x hx hxN;exact ⟨this.2.1,this.1⟩
   · rw [aeI (by omega)];omega
 refine ⟨hpw.1,fun u hu c ho=>j.rc u (hA u hu) c (hO u hu c ho),fun c hc1 c' hc2=>j.ch c (hin c hc1) c' (hin c' hc2),fun u hu => ?_,fun u hu hnn => ?_,fun u hu c ho k w hw he => ?_,fun u h0 hu w hw => ?_,fun u y h0 hy0 hu huy => ?_⟩
 · obtain ⟨h1,x,hx,hux,hxi⟩:=j.lr u (hA u hu)
   refine ⟨h1,x,?_,hux,hxi⟩
   rw [hs] at hx
   rcases List.mem_append.1 hx with h2 | h2
   · exact h2
   · have:=hBv x h2;have:=hAv u hu;omega
 · refine j.rt u (hA u hu) fun hm => ?_
   rw [hn] at hm
   rcases List.mem_append.1 hm with h4 | h4
   · exact hnn h4
   · rw [List.mem_singleton.1 h4] at hu
     have:=hAv v hu;omega
 · have h1:=j.ex u (hA u hu) c (hO u hu c ho) k w hw fun i' h'=>by
     rw [hc] at h'
     rcases List.mem_append.1 h' with h4 | h4
     · exact he i' h4
     · have h5:=(Prod.mk.inj (List.mem_singleton.1 h4)).1
       rw [h5] at hu
       have:=hAv v hu;omega
   refine ⟨h1.1,fun hz=>h1.2 ?_⟩
   have hw0:=(hnr u w (List.mem_of_getElem? hw)).1
   have hz':elt (df s.part ((s.np:Int)+1) p) w=0:=hz
   rw [eP w hw0] at hz'
   split at hz'
   · omega
   · exact hz'
 · have hu':elt (df s.part ((s.np:Int)+1) p) u≠0:=hu
   have hw0:=(hnr u w hw).1
   show elt (df s.part ((s.np:Int)+1) p) w≠0∧elt (df s.part ((s.np:Int)+1) p) w≤elt (df s.part ((s.np:Int)+1) p) u
   rw [eP w hw0,eP u h0]
   rw [eP u h0] at hu'
   by_cases hup:u∈p
   · rw [if_pos hup]
     by_cases hwp:w∈p
     · rw [if_pos hwp];omega
     · rw [if_neg hwp]
       have h1:=(hout u ((hp u).1 hup) w hw).resolve_left fun hB'=>hwp ((hp w).2 hB')
       have:=hnp w hw0
       exact ⟨h1,by omega⟩
   · rw [if_neg hup] at hu' ⊢
     have h1:=j.cl u h0 hu' w hw
     have hwp:w ∉ p:=fun hwp=>h1.1 (hp0 w hwp)
     rw [if_neg hwp];exact h1
 · have hu':elt (df s.part ((s.np:Int)+1) p) u≠0:=hu
   have huy':elt (df s.part ((s.np:Int)+1) p) u=elt (df s.part ((s.np:Int)+1) p) y:=huy
   rw [eP u h0] at hu' huy'
   rw [eP y hy0] at huy'
   have hnu:=hnp u h0
   have hny:=hnp y hy0
   by_cases hup:u∈p
   · rw [if_pos hup] at huy'
     by_cases hyp:y∈p
     · have h1:=hback _ u ((hp u).1 hup) (Nat.le_refl _)
       exact h1.trans (j.rc y (hB y ((hp y).1 hyp)) v (hOB y ((hp y).1 hyp)))
     · rw [if_neg hyp] at huy';omega
   · rw [if_neg hup] at huy' hu'
     by_cases hyp:y∈p
     · rw [if_pos hyp] at huy';omega
     · rw [if_neg hyp] at huy';exact j.sc u y h0 hy0 hu' huy'
end
section
variable {N:Nat} {nx:List (List Int)} {r:Int} {s:TS}
theorem TJ.last(h:TI N nx r s)(j:TJ nx s){cs:List (Int × Int)}{v i:Int}(hc:s.calls=cs++[(v,i)]):∀ c∈nodes s,elt s.idx c≤elt s.idx v:=fun c hcm=>by
 have hn:nodes s=cs.map (·.1)++[v]:=by simp [nodes,hc]
 have hasc:(nodes s).Pairwise fun a b=>elt s.idx a<elt s.idx b:=j.asc.sublist h.sub
 rw [hn] at hcm
 rw [hn,List.pairwise_append] at hasc
 rcases List.mem_append.1 hcm with h1 | h1
 · exact Int.le_of_lt (hasc.2.2 c h1 v (by simp))
 · rw [List.mem_singleton.1 h1];exact Int.le_refl _
theorem TJ.rEnter(h:TI N nx r s)(j:TJ nx s)(hnr:∀ v w,w∈elt nx v→0≤w∧w<N){cs:List (Int × Int)}{v i w:Int}(hc:s.calls=cs++[(v,i)])(hi:0≤i)(ha:(elt nx v)[i.toNat]? = some w)(hw:0≤w∧w<N)(h0:elt s.idx w=0) :
   TJ nx (di { s with calls:=cs++[(v,i+1)] } w):=by
 have hvn:v∈nodes s:=by simp [nodes,hc]
 have hvs:=h.sub' hvn
 have hvi:=(h.stk v).1 hvs
 have hne:s.calls≠[]:=by rw [hc];simp
 have j1:=j.enter h hnr hw h0 (.inr ⟨v,hvn,j.last h hc,List.mem_of_getElem? ha⟩)
 have h1:=h.enter hw h0 (.inl hne)
 have hwv:w≠v:=fun e=>hvi.2.1 (e ▸ h0)
 have hli:=h.li
 have hll:=h.ll
 have hc0:=h.cnt0
 have e1:elt (di s w).idx w=s.cnt+1:=by
   show elt (s.idx.set _ _) w=_
   rw [ei hw.1 (by omega) hw.1,if_pos rfl]
 have e2:elt (di s w).low v=elt s.low v:=by
   show elt (s.low.set _ _) v=_
   rw [ei hw.1 (by omega) hvi.1.1,if_neg hwv]
 have j2:=j1.adv h1 (cs:=cs) (ds:=[(w,0)]) (v:=v) (i:=i) (w:=w) (by show s.calls++[(w,0)]=_;rw [hc];simp) hi ha (by rw [e1];omega) (fun _=>by
   rw [e1,e2]
   have:=(j.lr v hvs).1
   have:=(h.ile v hvi.1.1 hvi.1.2).2
   omega)
 have e3:cs++(v,i+1)::[(w,0)]=(cs++[(v,i+1)])++[(w,0)]:=by simp
 rw [e3] at j2
 exact j2
theorem TJ.rBack(h:TI N nx r s)(j:TJ nx s){cs:List (Int × Int)}{v i w:Int}(hc:s.calls=cs++[(v,i)])(hi:0≤i)(ha:(elt nx v)[i.toNat]? = some w)(hws:w∈s.stk) :
   TJ nx { s with calls:=cs++[(v,i+1)],low:=s.low.set v.toNat (min (elt s.low v) (elt s.idx w)) } := by
 have hvn:v∈nodes s:=by simp [nodes,hc]
 have hvs:=h.sub' hvn
 have hvi:=(h.stk v).1 hvs
 have hll:=h.ll
 have j1:=j.lower h hvs hws (Rc.one (List.mem_of_getElem? ha)) rfl
 have h1:=h.lower hvs (h.low' w hws).2
 exact j1.adv h1 (cs:=cs) (ds:=[]) hc hi ha ((h.stk w).1 hws).2.1 (fun _=>by
   show elt (s.low.set _ _) v≤elt s.idx w
   rw [ei hvi.1.1 (by omega) hvi.1.1,if_pos rfl];omega)
theorem TJ.rSkip(h:TI N nx r s)(j:TJ nx s){cs:List (Int × Int)}{v i w:Int}(hc:s.calls=cs++[(v,i)])(hi:0≤i)(ha:(elt nx v)[i.toNat]? = some w)(hw:elt s.idx w≠0)(hp:elt s.part w≠0) :
   TJ nx { s with calls:=cs++[(v,i+1)] } := j.adv h (cs:=cs) (ds:=[]) hc hi ha hw fun h=>absurd h hp
theorem TJ.rUp(h:TI N nx r s)(j:TJ nx s){cs ds:List (Int × Int)}{v i u k:Int}(hc:s.calls=cs++[(v,i)])(hd:cs=ds++[(u,k)]){l:List Int}(hl:l=s.low.set u.toNat (min (elt s.low u) (elt s.low v))) :
   TI N nx r { s with low:=l } ∧ TJ nx { s with low:=l } ∧ elt l v=elt s.low v∧∀ c∈cs.map (·.1),(∀ c'∈cs.map (·.1),elt s.idx c'≤elt s.idx c)→elt l c≤elt l v:=by
 subst hl
 have hvn:v∈nodes s:=by simp [nodes,hc]
 have hun:u∈nodes s:=by simp [nodes,hc,hd]
 have hvs:=h.sub' hvn
 have hus:=h.sub' hun
 have hvi:=(h.stk v).1 hvs
 have hui:=(h.stk u).1 hus
 have hll:=h.ll
 have hn:nodes s=cs.map (·.1)++[v]:=by simp [nodes,hc]
 have hasc:(nodes s).Pairwise fun a b=>elt s.idx a<elt s.idx b:=j.asc.sublist h.sub
 rw [hn,List.pairwise_append] at hasc
 have huc:u∈cs.map (·.1):=by rw [hd];simp
 have hlt:=hasc.2.2 u huc v (by simp)
 have huv:u≠v:=fun e=>by rw [e] at hlt;omega
 obtain ⟨x,hx,hrx,hz⟩:=(j.lr v hvs).2
 have hr:Rc nx u v:=j.ch u hun v hvn (Int.le_of_lt hlt)
 have e1:elt (s.low.set u.toNat (min (elt s.low u) (elt s.low v))) v=elt s.low v:=by rw [ei hui.1.1 (by omega) hvi.1.1,if_neg huv]
 refine ⟨h.lower hus (h.low' v hvs).1,j.lower h hus hx (hr.trans hrx) hz,e1,fun c hcm hmx => ?_⟩
 have hcu:c=u:=by
   have h1:=hasc.1
   rw [hd,List.map_append,List.pairwise_append] at h1
   rw [hd,List.map_append] at hcm
   rcases List.mem_append.1 hcm with h2 | h2
   · have:=h1.2.2 c h2 u (by simp)
     have:=hmx u huc
     omega
   · simpa using h2
 rw [e1,hcu,ei hui.1.1 (by omega) hui.1.1,if_pos rfl]
 omega
end
def PC(N:Nat)(part:List Int)(ps:List (List Int)):Prop:=∀ v:Int,0≤v→v<N→elt part v≠0→∃ (k:Nat) (p:List Int),ps[k]? = some p∧v∈p∧elt part v=(k:Int)+1
theorem PC.nil{N:Nat}{part:List Int}(h:∀ v:Int,0≤v→elt part v=0):PC N part []:=fun v h0 _ hv=>absurd (h v h0) hv
theorem PC.close{N:Nat}{nx:List (List Int)}{r:Int}{s:TS}(h:TI N nx r s){ps:List (List Int)}(hP:PC N s.part ps)(hn:s.np=ps.length){A B p:List Int}{v:Int}(hs:s.stk=A++v::B)(hp:p.Perm (v::B)):PC N (df s.part ((s.np:Int)+1) p) (ps++[p]):=fun x h0 h1 hx=>by
 have hst:∀ x∈p,(0≤x∧x<(N:Int))∧elt s.part x=0:=fun x hx=>by
   have:=(h.stk x).1 (by rw [hs];exact List.mem_append_right _ (hp.mem_iff.1 hx))
   exact ⟨this.1,this.2.2⟩
 have hlp:=h.lp
 rw [ka p s.part (fun w hw=>by rw [hlp];exact (hst w hw).1) x h0] at hx ⊢
 by_cases hm:x∈p
 · rw [if_pos hm]
   exact ⟨ps.length,p,by simp,hm,by rw [hn]⟩
 · rw [if_neg hm] at hx ⊢
   obtain ⟨k,q,h2,h3,h4⟩:=hP x h0 h1 hx
   exact ⟨k,q,by rw [List.getElem?_append_left (List.getElem?_eq_some_iff.1 h2).1];exact h2,h3,h4⟩
theorem rX(f:Nat→Nat):∀ l:List Nat,((l.filter fun x=>decide (f x≠0)).map f).sum=(l.map f).sum
 | []=>rfl
 | a::l=>by
   rw [List.filter_cons,List.map_cons,List.sum_cons,← rX f l]
   by_cases h:f a=0
   · rw [if_neg (by simp [h]),h];omega
   · rw [if_pos (by simp [h]),List.map_cons,List.sum_cons]
theorem KI.all{M:Nat}{us:List (List Int)}{w D:List Int}(h:KI M us w D [] [])(hlt:∀ q:Nat,∀ p∈elt us (q:Int),1≤q∧(q:Int)<p):∀ p:Int,1≤p→p≤M→p∈D:=by
 have key:∀ n:Nat,∀ p:Int,p.toNat≤n→1≤p→p≤M→p∈D:=by
   intro n
   induction n with
   | zero=>intro p h1 h2;omega
   | succ n ih =>
     intro p hpn h1 h2
     refine Classical.byContradiction fun hno => ?_
     have hz:=h.zr p h1 h2
     rw [List.append_nil] at hz
     have hw:=h.wt p h1 h2
     have hne:elt w p≠0:=fun e=>hno (hz.2 e)
     have hn:D.Nodup:=by have:=h.nd;rwa [List.append_nil] at this
     have hrg:∀ q∈D,1≤q∧q≤M:=fun q hq=>h.rg q (by simpa using hq)
     have hle:rZ us p≤dnU us D p:=by
       have e:dnU us D p=((D.map Int.toNat).map fun q:Nat=>(elt us (q:Int)).count p).sum:=by
         unfold dnU
         rw [List.map_map]
         refine congrArg List.sum (List.map_congr_left fun q hq => ?_)
         show _=(elt us ((q.toNat:Nat):Int)).count p
         rw [Int.toNat_of_nonneg (by have:=hrg q hq;omega)]
       rw [e]
       unfold rZ
       rw [← rX]
       refine dV _ _ _ (List.nodup_range.filter _) fun q hq => ?_
       obtain ⟨_,h4⟩:=List.mem_filter.1 hq
       have h4:(elt us (q:Int)).count p≠0:=by simpa using h4
       have h5:p∈elt us (q:Int):=List.count_pos_iff.1 (by omega)
       have h6:=hlt q p h5
       exact List.mem_map.2 ⟨(q:Int),ih q (by omega) (by omega) (by omega),by simp⟩
     have h7:List.count p ([]:List Int)=0:=rfl
     have h8:=tl (us:=us) (D:=D) (p:=p) hn (fun x hx=>by have:=hrg x hx;have:=h.lu;omega)
     rw [h7] at hw
     omega
 exact fun p h1 h2=>key p.toNat p (Nat.le_refl _) h1 h2
def UL(us:List (List Int)):Prop:=∀ q:Nat,∀ p∈elt us (q:Int),1≤q∧(q:Int)<p
theorem UL.start(M:Nat):UL (List.replicate (M+1) []):=fun q p hp=>by
 unfold elt at hp
 rw [List.getD_eq_getElem?_getD,List.getElem?_replicate] at hp
 split at hp<;>cases hp
theorem UL.step{us:List (List Int)}(h:UL us){q:Nat}{p:Int}(hq:q<us.length)(h1:1≤q)(hlt:(q:Int)<p):UL (us.set q (elt us (q:Int)++[p])):=fun k x hx=>by
 have e:=wH (l:=us) (q:=(q:Int)) (y:=elt us (q:Int)++[p]) (by omega) (by omega) (x:=(k:Int)) (by omega)
 rw [Int.toNat_natCast] at e
 rw [e] at hx
 split at hx
 · rename_i e2
   rcases List.mem_append.1 hx with h2 | h2
   · have:=h q x h2;omega
   · rw [List.mem_singleton.1 h2];omega
 · exact h k x hx
theorem Rc.last{nx:List (List Int)}{u v:Int}(h:Rc nx u v):u=v∨∃ z,Rc nx u z∧v∈elt nx z:=by
 induction h with
 | refl=>exact .inl rfl
 | step h _ ih =>
   rcases ih with rfl | ⟨z,h1,h2⟩
   · exact .inr ⟨_,.refl _,h⟩
   · exact .inr ⟨z,.step h h1,h2⟩
def OnC(nx:List (List Int))(v:Int):Prop:=∃ w∈elt nx v,Rc nx w v
theorem OnC.of_two{nx:List (List Int)}{x y:Int}(h:Rc nx x y)(k:Rc nx y x)(hne:x≠y):OnC nx x:=by
 cases h with
 | refl=>exact absurd rfl hne
 | step h1 h2=>exact ⟨_,h1,h2.trans k⟩
theorem OnC.back{nx:List (List Int)}{v:Int}(h:OnC nx v):∃ z,Rc nx v z∧v∈elt nx z:=by
 obtain ⟨w,h1,h2⟩:=h
 rcases h2.last with rfl | ⟨z,h3,h4⟩
 · exact ⟨_,.refl _,h1⟩
 · exact ⟨z,.step h1 h3,h4⟩
structure PX (N:Nat) (nx:List (List Int)) (ps:List (List Int)):Prop where
 sc:∀ p∈ps,∀ x∈p,∀ y∈p,Rc nx x y
 cy:∀ v w:Int,0≤v→v<N→0≤w→w<N→Rc nx v w→Rc nx w v→∃ p∈ps,v∈p∧w∈p
theorem PX.mono{N:Nat}{nx ps qs:List (List Int)}(h:PX N nx ps)(h1:∀ p∈qs,p∈ps)(h2:∀ p∈ps,p∈qs):PX N nx qs :=
 ⟨fun p hp=>h.sc p (h1 p hp),fun v w a b c d e f=>let ⟨p,hp,q⟩:=h.cy v w a b c d e f; ⟨p,h2 p hp,q⟩⟩
theorem TJ.down{nx:List (List Int)}{s:TS}(j:TJ nx s)(hnr:∀ v w,w∈elt nx v→0≤w){v w:Int}(h:Rc nx v w):0≤v→elt s.part v≠0→elt s.part w≠0∧elt s.part w≤elt s.part v:=by
 induction h with
 | refl=>exact fun _ h=>⟨h,Int.le_refl _⟩
 | step h _ ih =>
   intro h0 hp
   have h1:=j.cl _ h0 hp _ h
   have h2:=ih (hnr _ _ h) h1.1
   exact ⟨h2.1,Int.le_trans h2.2 h1.2⟩
theorem TJ.px{N:Nat}{nx:List (List Int)}{s:TS}(j:TJ nx s)(hnr:∀ v w,w∈elt nx v→0≤w∧w<N){ps:List (List Int)}(hP:PL N s.part ps)(hC:PC N s.part ps)(hall:∀ v:Int,0≤v→v<N→elt s.part v≠0):PX N nx ps:=by
 refine ⟨fun p hp x hx y hy => ?_,fun v w v0 v1 w0 w1 h k => ?_⟩
 · obtain ⟨k,hk⟩:=List.mem_iff_getElem?.1 hp
   have h1:=hP.of k p hk x hx
   have h2:=hP.of k p hk y hy
   exact j.sc x y h1.1.1 h2.1.1 (hall x h1.1.1 h1.1.2) (by rw [h1.2,h2.2])
 · have h1:=j.down (fun a b h=>(hnr a b h).1) h v0 (hall v v0 v1)
   have h2:=j.down (fun a b h=>(hnr a b h).1) k w0 (hall w w0 w1)
   obtain ⟨k1,p1,a1,b1,c1⟩:=hC v v0 v1 (hall v v0 v1)
   obtain ⟨k2,p2,a2,b2,c2⟩:=hC w w0 w1 (hall w w0 w1)
   have e:k1=k2:=by have:=h1.2;have:=h2.2;omega
   subst e
   rw [a1] at a2
   exact ⟨p1,List.mem_of_getElem? a1,b1,by rw [Option.some.inj a2];exact b2⟩
end Go.Lv

namespace Go.Proofs.YtebnelfdimiifaaGreatDoor
open Go.RowKit Go.Lp Go.Sy Go.Lv
def oS(vs:List aF)(s:ByteArray):Option Nat:=vs.findIdx? fun d=>decide (d.name=s)
abbrev kx(vs:List aF):ByteArray→Option Int:=fun s=>(oS vs s).map fun i:Nat=>(i:Int)
theorem tN(l:List aF)(d:aF)(s:ByteArray):oS (l++[d]) s=(oS l s).or (if d.name=s then some l.length else none):=by
 unfold oS
 rw [List.findIdx?_append]
 congr 1
 by_cases h:d.name=s<;>simp [h,List.findIdx?_cons]
theorem tO(l:List aF)(s:ByteArray):(oS l s).isSome=true↔s∈l.map (·.name):=by
 unfold oS
 rw [List.findIdx?_isSome,List.any_eq_true,List.mem_map]
 simp
theorem afj{l:List aF}{s:ByteArray}{i:Nat}(h:oS l s=some i):i<l.length:=(List.findIdx?_eq_some_iff_getElem.1 h).1
theorem tQ(l:List aF)(s:ByteArray):(kx l s).isSome=true↔s∈l.map (·.name):=by
 rw [← tO];simp [kx]
theorem nc{γ:Type}[DecidableEq γ]:∀ l:List γ,∃ ks:List γ,ks.Nodup∧(∀ a,a∈l↔a∈ks)∧(ks.length=l.length→l.Nodup)
 | []=>⟨[],List.nodup_nil,fun _=>Iff.rfl,fun _=>List.nodup_nil⟩
 | a :: l=>by
   obtain ⟨ks,h1,h2,h3⟩:=nc l
   have hle:ks.length≤l.length:=eT ks l h1 fun x hx=>(h2 x).2 hx
   by_cases ha:a∈ks
   · refine ⟨ks,h1,fun x => ?_,fun h => ?_⟩
     · rw [List.mem_cons,h2]
       exact ⟨fun h=>h.elim (fun e=>e ▸ ha) id,.inr⟩
     · rw [List.length_cons] at h;omega
   · refine ⟨a::ks,List.nodup_cons.2 ⟨ha,h1⟩,fun x => ?_,fun h => ?_⟩
     · rw [List.mem_cons,List.mem_cons,h2]
     · rw [List.length_cons,List.length_cons] at h
       exact List.nodup_cons.2 ⟨fun k=>ha ((h2 a).1 k),h3 (by omega)⟩
theorem tP(l:List aF):tr (kx l)=l.length↔(l.map (·.name)).Nodup:=by
 obtain ⟨ks,h1,h2,h3⟩:=nc (l.map (·.name))
 rw [wR h1 fun a=>(tQ l a).trans (h2 a)]
 constructor
 · intro h;exact h3 (by rw [List.length_map];exact h)
 · intro h
   have:=eT _ _ h fun x hx=>(h2 x).1 hx
   have h4:=eT _ _ h1 fun x hx=>(h2 x).2 hx
   rw [List.length_map] at this h4;omega
def fg(s:ByteArray):Bool:=(il s).all (fun u=>decide (33≤u.toNat) && decide (u.toNat≤126)) && (decide (1≤s.size) && decide (s.size≤64))
structure lj (l:List aF):Prop where
 len:l.length≤1
 nm:∀ d∈l,fg d.name=true
 par:∀ d∈l,d.parents.l=[]
theorem lj.nd{l:List aF}(h:lj l):(l.map (·.name)).Nodup:=by
 have:=h.len
 match l with
 | []=>exact List.nodup_nil
 | [a]=>simp
 | a::b::l=>simp at this
def vr(l:List aF)(k:Nat)(p:ByteArray):dm:=⟨(k:Int),(((oS l p).getD 0:Nat):Int)⟩
def kD(l:List aF)(k:Nat):List dm:=((List.range k).map fun i:Nat=>((l[i]?.map fun d=>d.parents.l).getD []).map (vr l i)).flatten
theorem vt{l:List aF}{k:Nat}{d:aF}(h:l[k]? = some d):kD l (k+1)=kD l k++d.parents.l.map (vr l k):=by
 unfold kD
 rw [List.range_succ,List.map_append,List.flatten_append]
 simp [h]
structure aew (l:List aF):Prop where
 len:l.length≤4096
 nd:(l.map (·.name)).Nodup
 nm:∀ d∈l,fg d.name=true
 pk:∀ d∈l,d.parents.l.Nodup∧∀ x∈d.parents.l,x∈l.map (·.name)
 ac:∀ v:Int,0≤v→v<l.length→¬ OnC (dv l.length (kD l l.length)) v
theorem lj.all{l:List aF}(h:lj l):aew l:=by
 have e:kD l l.length=[]:=by
   unfold kD
   rw [List.flatten_eq_nil_iff]
   intro x hx
   obtain ⟨i,_,rfl⟩:=List.mem_map.1 hx
   cases hd:l[i]? with
   | none=>rfl
   | some d=>simp [h.par d (List.mem_of_getElem? hd)]
 refine ⟨Nat.le_trans h.len (by decide),h.nd,h.nm,fun d hd=>by rw [h.par d hd];exact ⟨List.nodup_nil,fun x hx=>by cases hx⟩,fun v h0 h1 ⟨w,hw,_⟩ => ?_⟩
 rw [e] at hw
 obtain ⟨a,ha,_⟩:=(jK (fun a ha=>by cases ha) ⟨h0,h1⟩).1 hw
 cases ha
theorem abA{l:List ByteArray}(h:l.Nodup){m:Nat}{p:ByteArray}(hp:l[m]? = some p):p ∉ l.take m:=fun hm=>by
 obtain ⟨i,hi⟩:=List.mem_iff_getElem?.1 hm
 rw [List.getElem?_take] at hi
 split at hi
 · rename_i hlt
   obtain ⟨h1,e1⟩:=List.getElem?_eq_some_iff.1 hi
   obtain ⟨h2,e2⟩:=List.getElem?_eq_some_iff.1 hp
   exact List.pairwise_iff_getElem.1 h i m h1 h2 hlt (e1.trans e2.symm)
 · cases hi
structure VI (l:List aF) (k:Nat) (gs:List dm):Prop where
 le:k≤l.length
 ok:∀ a∈gs,ja l.length a
 ln:gs.length≤l.length*k
 nm:∀ d∈l.take k,fg d.name=true
 ar:gs=kD l k
 pk:∀ d∈l.take k,d.parents.l.Nodup∧∀ x∈d.parents.l,x∈l.map (·.name)
structure VJ (l:List aF) (k:Nat) (d:aF) (m:Nat) (gs:List dm):Prop where
 le:k<l.length
 ml:m≤d.parents.l.length
 ok:∀ a∈gs,ja l.length a
 ln:gs.length≤l.length*k+m
 nm:∀ d∈l.take k,fg d.name=true
 ar:gs=kD l k++(d.parents.l.take m).map (vr l k)
 pk:∀ d∈l.take k,d.parents.l.Nodup∧∀ x∈d.parents.l,x∈l.map (·.name)
 nd:(d.parents.l.take m).Nodup
 kn:∀ x∈d.parents.l.take m,x∈l.map (·.name)
section
variable {l:List aF} {k m:Nat} {d:aF} {gs:List dm} {p:ByteArray}
theorem VI.start(l:List aF):VI l 0 []:=⟨Nat.zero_le _,fun a h=>(by cases h),Nat.zero_le _,fun d h=>(by cases h),rfl,fun d h=>(by cases h)⟩
theorem VI.into(h:VI l k gs)(hd:l[k]? = some d):VJ l k d 0 gs:=⟨(List.getElem?_eq_some_iff.1 hd).1,Nat.zero_le _,h.ok,h.ln,h.nm,by rw [h.ar];simp,h.pk,List.nodup_nil,fun x hx=>(by cases hx)⟩
theorem VJ.short(h:VJ l k d m gs):m≤l.length:=by
 have:=eT _ _ h.nd h.kn
 rw [List.length_take,List.length_map] at this
 have:=h.ml;omega
theorem VJ.step(h:VJ l k d m gs)(hd:l[k]? = some d)(hp:d.parents.l[m]? = some p){i:Nat}(hi:oS l p=some i)(hs:p ∉ d.parents.l.take m):VJ l k d (m+1) (gs++[⟨k,i⟩]):=by
 have hm:=(List.getElem?_eq_some_iff.1 hp).1
 have hlt:=afj hi
 have hle:=h.le
 refine ⟨h.le,hm,fun a ha => ?_,?_,h.nm,?_,h.pk,?_,fun x hx => ?_⟩
 · rcases List.mem_append.1 ha with h1 | h1
   · exact h.ok a h1
   · rw [List.mem_singleton.1 h1];exact ⟨⟨Int.natCast_nonneg _,Int.ofNat_lt.2 hle⟩,Int.natCast_nonneg _,Int.ofNat_lt.2 hlt⟩
 · rw [List.length_append,List.length_singleton];have:=h.ln;omega
 · have e:vr l k p=⟨(k:Int),(i:Int)⟩:=by unfold vr;rw [hi];rfl
   rw [List.take_add_one,hp,Option.toList_some,List.map_append,List.map_singleton,e,← List.append_assoc,← h.ar]
 · rw [List.take_add_one,hp,Option.toList_some,List.nodup_append]
   exact ⟨h.nd,by simp,fun x hx y hy e=>hs (by rw [List.mem_singleton.1 hy] at e;exact e ▸ hx)⟩
 · rw [List.take_add_one,hp,Option.toList_some] at hx
   rcases List.mem_append.1 hx with h1 | h1
   · exact h.kn x h1
   · rw [List.mem_singleton.1 h1,← tO,hi];rfl
theorem VJ.done(h:VJ l k d m gs)(hd:l[k]? = some d)(hn:fg d.name=true)(hml:d.parents.l.length≤m):VI l (k+1) gs:=by
 have ht:=List.take_of_length_le hml
 have:=h.short
 refine ⟨h.le,h.ok,?_,fun x hx => ?_,?_,fun x hx => ?_⟩
 · rw [Nat.mul_add,Nat.mul_one];have:=h.ln;omega
 · rw [List.take_add_one,hd,Option.toList_some] at hx
   rcases List.mem_append.1 hx with h1 | h1
   · exact h.nm x h1
   · rw [List.mem_singleton.1 h1];exact hn
 · rw [vt hd,h.ar,ht]
 · rw [List.take_add_one,hd,Option.toList_some] at hx
   rcases List.mem_append.1 hx with h1 | h1
   · exact h.pk x h1
   · rw [List.mem_singleton.1 h1]
     have h2:=h.nd
     have h3:=h.kn
     rw [ht] at h2 h3
     exact ⟨h2,h3⟩
end
end Go.Proofs.YtebnelfdimiifaaGreatDoor

namespace Go.Proofs.YtebnelfdimiifaaGreatDoor
open Go.RowKit Go.Lp Go.Sy
open Go.Proofs.Tryz
attribute [local irreducible] aL aB awp aC fwp Quiet
theorem ye(l:Sl Int)(hl:l.l.length≤1000000):Con Tryz.prog 202 [l.val] [ShF cO l] [] fun r ps hp=>ps=[]∧∃ (ad:Option Addr) (c:Nat),r=.slice ad l.l.length c∧hp=[aN (.slice ad l.l.length c) 3 1 (l.l.map cO)]:=by
 refine EN1 Tryz.func202 rfl ?_
 refine kE (φ:=l.ad=none→l.l=[]) (fun w S fp hst => ?_) (fun hnil => ?_)
 · intro hn
   have hrep:fv w S (.slice l.ad l.l.length l.cap) (.sl (l.l.map cO)):=hst.per _ (aH 0 rfl)
   rw [hn] at hrep
   generalize hrw:l.l.map cO=rows at hrep
   generalize l.l.length=m at hrep
   cases hrep with
   | e=>exact List.map_eq_nil_iff.1 hrw
 refine aSR (aA rfl (aNs (aSR (aM rfl (aU rfl (zg Tryz.underlying25 rfl) (aNn ?_))))))
 refine ao _ rfl (fun h1 => ?_) (fun h1 => ?_)
 ·skip
  have hl0:l.l=[]:=hnil (by simpa using h1)
  refine ai (ef 3 1 ?_)
  show awp _ _ _ _ ⟨_,_,[_]⟩
  refine aa (aA rfl (aNn (az (bw (FZ1 [0] Tryz.results202 rfl ?_)))))
  exact ⟨rfl,none,0,by rw [hl0];rfl,by rw [hl0];rfl⟩
 ·skip
  refine ax (an (aSR (LT rfl (zu el25 rfl (fun v3_0=>(aHN ?_))))))
  refine aM rfl ?_
  refine aW rfl (tS 0 el25 el25 rfl rfl rfl rfl (aH 0 rfl) ((fun r hr=>by obtain ⟨z,_,rfl⟩:=List.mem_map.1 hr;rfl)) (by show ([]:List (List D)).length+(l.l.map cO).length≤_;rw [List.length_map];exact Nat.le_trans (show 0+l.l.length≤1000000 by omega) (by decide)) (l.l.length) (by simp;try omega) (fun v3_2 c3_2 => ?_))
  refine aHK ?_
  refine aA rfl (aNn (az (FZ1 [0] Tryz.results202 rfl ?_)))
  exact ⟨rfl,v3_2,c3_2,rfl,rfl⟩
end Go.Proofs.YtebnelfdimiifaaGreatDoor

