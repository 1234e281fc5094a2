/- Parts of the proof, in build order. No condition. -/
import Derived.Test.YtfkcmbonmpcbfaaGreatTb07
import Derived.Test.YtfkcmbonmpcbfaaGreatTb11
import Derived.Test.YtfkcmbonmpcbfaaGreatTb12
import Derived.Test.YtfkcmbonmpcbfaaGreatTb06
import Derived.Test.YtfkcmbonmpcbfaaGreatTb03
import Derived.Test.YtfkcmbonmpcbfaaGreatTb05
import Derived.Test.YtfkcmbonmpcbfaaGreatTb10
set_option linter.unusedSimpArgs false
set_option linter.unusedVariables false
set_option maxHeartbeats 1000000
set_option maxRecDepth 20000
namespace Go.Lv
open Go.Sy
structure G (N:Nat) (out:List (List Int)) (rs:List Int) (k:Nat) (s:BS):Prop where
 len:s.1.length=N
 mem:∀ v∈s.2,0≤v∧v<N
 iff:∀ v:Int,0≤v→v<N→(0≤elt s.1 v↔v∈s.2)
 nodup:s.2.Nodup
 par:∀ (j:Nat) (v:Int),s.2[j]? = some v→(elt s.1 v=v∧v∈rs)∨∃ (i:Nat) (u:Int),i<j∧i≤k∧s.2[i]? = some u∧elt s.1 v=u∧v∈elt out u∧∀ i'<i,∀ u',s.2[i']? = some u'→v ∉ elt out u'
 clo:∀ i<k,∀ u,s.2[i]? = some u→∀ x∈elt out u,x∈s.2
 root:∀ v∈rs,0≤v→v<N→v∈s.2
theorem kz(N:Nat)(v:Int)(h0:0≤v)(h1:v<N):elt (List.replicate N (-1:Int)) v = -1:=by
 unfold elt;rw [List.getD_eq_getElem?_getD,List.getElem?_replicate,if_pos (by omega)];rfl
structure G0 (N:Nat) (rd:List Int) (s:BS):Prop where
 len:s.1.length=N
 mem:∀ v∈s.2,(0≤v∧v<N)∧elt s.1 v=v∧v∈rd
 iff:∀ v:Int,0≤v→v<N→(0≤elt s.1 v↔v∈s.2)
 nodup:s.2.Nodup
 root:∀ v∈rd,0≤v→v<N→v∈s.2
theorem tJ{N:Nat}{rd:List Int}{s:BS}{v:Int}(h:G0 N rd s)(hv:v ∉ rd):G0 N (rd++[v]) (dr N s v):=by
 unfold dr
 split
 · rename_i hvn
   have hvs:v ∉ s.2:=fun hm=>hv (h.mem v hm).2.2
   have he:∀ y,0≤y→elt (s.1.set v.toNat v) y=if v=y then v else elt s.1 y:=fun y hy=>du hvn.1 (by rw [h.len];exact hvn.2) hy
   refine ⟨by simpa using h.len,fun y hy => ?_,fun y hy0 hy1 => ?_,?_,fun y hy h0 h1 => ?_⟩
   · dsimp only
     rcases List.mem_append.1 hy with hy | hy
     · obtain ⟨h1,h2,h3⟩:=h.mem y hy
       refine ⟨h1,?_,List.mem_append_left _ h3⟩
       rw [he y h1.1];split
       · rename_i e;exact e
       · exact h2
     · rw [List.mem_singleton.1 hy]
       exact ⟨hvn,by rw [he v hvn.1,if_pos rfl],by simp⟩
   · dsimp only
     rw [he y hy0,List.mem_append,List.mem_singleton]
     split
     · rename_i e;exact ⟨fun _=>.inr e.symm,fun _=>hvn.1⟩
     · rename_i e
       rw [h.iff y hy0 hy1]
       exact ⟨.inl,fun h=>h.elim id fun h=>(e h.symm).elim⟩
   · refine List.nodup_append.2 ⟨h.nodup,by simp,fun a ha b hb => ?_⟩
     rw [List.mem_singleton.1 hb];rintro rfl;exact hvs ha
   · rcases List.mem_append.1 hy with hy | hy
     · exact List.mem_append_left _ (h.root y hy h0 h1)
     · exact List.mem_append_right _ hy
 · rename_i hvn
   refine ⟨h.len,fun y hy=>⟨(h.mem y hy).1,(h.mem y hy).2.1,List.mem_append_left _ (h.mem y hy).2.2⟩,h.iff,h.nodup,fun y hy h0 h1 => ?_⟩
   rcases List.mem_append.1 hy with hy | hy
   · exact h.root y hy h0 h1
   · rw [List.mem_singleton.1 hy] at h0 h1;exact (hvn ⟨h0,h1⟩).elim
theorem pK(N:Nat):∀ (l rd:List Int) (s:BS),G0 N rd s→(rd++l).Nodup→G0 N (rd++l) (l.foldl (dr N) s)
 | [],rd,s,h,_=>by simpa using h
 | v::l,rd,s,h,hn=>by
   rw [List.foldl_cons,show rd++v::l=(rd++[v])++l by simp]
   refine pK N l (rd++[v]) _ (tJ h fun hm => ?_) (by simpa using hn)
   have:=(List.nodup_append.1 hn).2.2 v hm v List.mem_cons_self
   exact this rfl
theorem zo{N:Nat}{out:List (List Int)}{rs:List Int}(hn:rs.Nodup):G N out rs 0 (cS N rs):=by
 have h:G0 N rs (cS N rs):=by
   have h0:G0 N [] (List.replicate N (-1),[]):=by
     refine ⟨by simp,(fun v hv=>by cases hv),fun v h0 h1 => ?_,by simp,fun v hv=>by cases hv⟩
     dsimp only;rw [kz N v h0 h1];simp
   have:=pK N rs [] _ h0 (by simpa using hn)
   unfold cS;simpa using this
 exact ⟨h.len,fun v hv=>(h.mem v hv).1,h.iff,h.nodup,fun j v hj=>.inl (h.mem v (List.mem_of_getElem? hj)).2,fun i hi=>by omega,h.root⟩
theorem abT{N:Nat}{out:List (List Int)}{rs:List Int}{k:Nat}{s:BS}{u x:Int}(h:G N out rs k s)(hu:s.2[k]? = some u)(hx:x∈elt out u)(hxn:0≤x∧x<N):G N out rs k (visit u s x)∧x∈(visit u s x).2:=by
 unfold visit
 split
 · rename_i h0
   have hxs:x ∉ s.2:=fun hm=>by have:=(h.iff x hxn.1 hxn.2).2 hm;omega
   have hun:=h.mem u (List.mem_of_getElem? hu)
   have he:∀ y,0≤y→elt (s.1.set x.toNat u) y=if x=y then u else elt s.1 y:=fun y hy=>du hxn.1 (by rw [h.len];exact hxn.2) hy
   have hkl:=(List.getElem?_eq_some_iff.1 hu).1
   have hget:∀ (i:Nat),i<s.2.length→(s.2++[x])[i]? = s.2[i]? := fun i hi=>List.getElem?_append_left hi
   refine ⟨⟨by simpa using h.len,fun y hy => ?_,fun y hy0 hy1 => ?_,?_,fun j v hj => ?_,fun i hi w hw y hy => ?_,fun y hy h1 h2=>List.mem_append_left _ (h.root y hy h1 h2)⟩,by simp⟩
   · rcases List.mem_append.1 hy with hy | hy
     · exact h.mem y hy
     · rw [List.mem_singleton.1 hy];exact hxn
   · dsimp only
     rw [he y hy0,List.mem_append,List.mem_singleton]
     split
     · rename_i e;exact ⟨fun _=>.inr e.symm,fun _=>hun.1⟩
     · rename_i e
       rw [h.iff y hy0 hy1]
       exact ⟨.inl,fun h=>h.elim id fun h=>(e h.symm).elim⟩
   · refine List.nodup_append.2 ⟨h.nodup,by simp,fun a ha b hb => ?_⟩
     rw [List.mem_singleton.1 hb];rintro rfl;exact hxs ha
   · dsimp only at hj ⊢
     by_cases hjl:j<s.2.length
     · rw [hget j hjl] at hj
       have hvm:=List.mem_of_getElem? hj
       have hvx:x≠v:=fun e=>hxs (e ▸ hvm)
       rw [he v (h.mem v hvm).1,if_neg hvx]
       rcases h.par j v hj with h1 | ⟨i,w,h1,h2,h3,h4,h5,h6⟩
       · exact .inl h1
       · refine .inr ⟨i,w,h1,h2,by rw [hget i (by omega)];exact h3,h4,h5,fun i' hi' u' hu'=>h6 i' hi' u' ?_⟩
         rwa [hget i' (by omega)] at hu'
     · have hjx:v=x:=by
         have hjl2:=(List.getElem?_eq_some_iff.1 hj).1
         rw [List.length_append,List.length_singleton] at hjl2
         rw [List.getElem?_append_right (by omega),show j-s.2.length=0 by omega] at hj
         simpa using hj.symm
       subst hjx
       refine .inr ⟨k,u,by omega,Nat.le_refl _,by rw [hget k hkl];exact hu,by rw [he v hxn.1,if_pos rfl],hx,fun i' hi' u' hu' hm=>hxs (h.clo i' hi' u' ?_ v hm)⟩
       rwa [hget i' (by omega)] at hu'
   · dsimp only at hw ⊢
     rw [hget i (by omega)] at hw
     exact List.mem_append_left _ (h.clo i hi w hw y hy)
 · rename_i h0
   exact ⟨h,(h.iff x hxn.1 hxn.2).1 (by omega)⟩
theorem ub{N:Nat}{out:List (List Int)}{rs:List Int}{k:Nat}{u:Int} : ∀ (l:List Int) (s:BS),G N out rs k s→s.2[k]? = some u→(∀ x∈l,x∈elt out u∧0≤x∧x<N)→G N out rs k (l.foldl (visit u) s)∧∀ x∈l,x∈(l.foldl (visit u) s).2
 | [],s,h,_,_=>⟨h,fun _ h=>by cases h⟩
 | x::l,s,h,hu,hl=>by
   obtain ⟨h1,h2⟩:=abT h hu (hl x List.mem_cons_self).1 (hl x List.mem_cons_self).2
   obtain ⟨h3,h4⟩:=ub l (visit u s x) h1 (rC qB hu) (fun y hy=>hl y (List.mem_cons_of_mem _ hy))
   refine ⟨h3,fun y hy => ?_⟩
   rcases List.mem_cons.1 hy with rfl | hy
   · exact (iJ l (visit u s y)).subset h2
   · exact h4 y hy
theorem ab0{N:Nat}{out:List (List Int)}{rs:List Int}(hn:rs.Nodup)(ho:jN N out):∀ k,G N out rs k (bfs out (cS N rs) k)
 | 0=>zo hn
 | k + 1 => by
   have ih:=ab0 hn ho k
   unfold bfs mZ
   split
   · rename_i hnone
     refine ⟨ih.len,ih.mem,ih.iff,ih.nodup,fun j v hj => ?_,fun i hi u hu x hx => ?_,ih.root⟩
     · exact (ih.par j v hj).imp id fun ⟨i,u,h1,h2,h⟩=>⟨i,u,h1,by omega,h⟩
     · by_cases hik:i=k
       · subst hik;rw [hnone] at hu;cases hu
       · exact ih.clo i (by omega) u hu x hx
   · rename_i u hu
     obtain ⟨h1,h2⟩:=ub (elt out u) _ ih hu (fun x hx=>⟨hx,ho u x hx⟩)
     refine ⟨h1.len,h1.mem,h1.iff,h1.nodup,fun j v hj => ?_,fun i hi w hw x hx => ?_,h1.root⟩
     · exact (h1.par j v hj).imp id fun ⟨i,u,h1,h2,h⟩=>⟨i,u,h1,by omega,h⟩
     · by_cases hik:i=k
       · subst hik
         have:=rC (iJ (u:=u) (elt out u) _) hu
         rw [this] at hw
         simp only [Option.some.injEq] at hw
         subst hw
         exact h2 x hx
       · exact h1.clo i (by omega) w hw x hx
inductive Rch (N:Nat) (out:List (List Int)) (rs:List Int):Int→Prop where
 | root {v:Int} : v∈rs→0≤v→v<N→Rch N out rs v
 | arc {u v:Int} : Rch N out rs u→v∈elt out u→Rch N out rs v
def ud(N:Nat)(out:List (List Int))(rs:List Int):List Int:=(bfs out (cS N rs) (rs.length+N)).2
section
variable {N:Nat} {out:List (List Int)} {rs:List Int}
theorem ue(ho:jN N out):(ud N out rs).length≤rs.length+N:=(mW ho (jt N rs) _).le
theorem rn(hn:rs.Nodup)(ho:jN N out):G N out rs (rs.length+N) (iH N out rs,ud N out rs):=ab0 hn ho _
theorem aaj(hn:rs.Nodup)(ho:jN N out)(v:Int):v∈ud N out rs↔Rch N out rs v:=by
 have hG:=rn (rs:=rs) hn ho
 have hl:=ue (rs:=rs) ho
 constructor
 · have:∀ (j:Nat) (v:Int),(ud N out rs)[j]? = some v→Rch N out rs v:=by
     intro j
     induction j using Nat.strongRecOn with
     | _ j ih =>
       intro v hj
       have hvn:=hG.mem v (List.mem_of_getElem? hj)
       rcases hG.par j v hj with ⟨_,h1⟩ | ⟨i,u,h1,_,h3,_,h5,_⟩
       · exact .root h1 hvn.1 hvn.2
       · exact .arc (ih i h1 u h3) h5
   intro hv
   obtain ⟨j,hj⟩:=List.mem_iff_getElem?.1 hv
   exact this j v hj
 · intro h
   induction h with
   | root h h0 h1=>exact hG.root _ h h0 h1
   | arc _ h ih =>
     obtain ⟨i,hi⟩:=List.mem_iff_getElem?.1 ih
     have:=(List.getElem?_eq_some_iff.1 hi).1
     exact hG.clo i (by omega) _ hi _ h
theorem vR(ho:jN N out):(iH N out rs).length=N:=(mW ho (jt N rs) _).len
theorem pA(hn:rs.Nodup)(ho:jN N out){v:Int}(h0:0≤v)(h1:v<N):0≤elt (iH N out rs) v↔Rch N out rs v:=by
 rw [← aaj hn ho];exact (rn hn ho).iff v h0 h1
theorem acP(ho:jN N out){v:Int}(h:Rch N out rs v):0≤v∧v<N:=by
 cases h with
 | root _ h0 h1=>exact ⟨h0,h1⟩
 | arc _ h=>exact ho _ _ h
def aaD(w:List Int)(v:Int):Nat:=w.idxOf v
theorem tD{w:List Int}(hn:w.Nodup){j:Nat}{v:Int}(h:w[j]? = some v):aaD w v=j:=by
 obtain ⟨hj,rfl⟩:=List.getElem?_eq_some_iff.1 h
 exact hn.idxOf_getElem j hj
end
end Go.Lv

namespace Go.Proofs.YtfkcmbonmpcbfaaGreat
open Go.RowKit Go.Lp Go.Sy Go.Lv
theorem tI{N:Nat}{l:List ct}(hN:N≤100000)(hr:∀ a∈l,gz N a):vO (N:Int) l=true:=by
 unfold vO
 have h:l.any (jW (N:Int))=false:=by
   rw [List.any_eq_false]
   intro a ha
   have:=hr a ha
   unfold gz at this
   obtain ⟨⟨h1,h2⟩,h3,h4⟩:=this
   simp [jW,wG,h1,h2,h3,h4]
 rw [h]
 simp;omega
theorem jk(zs:List Int):(cE zs).Nodup:=(oV zs).1.imp fun h=>by omega
abbrev lE(N:Nat)(l:List ct)(rs:List Int):List Int:=iH N (cC N l) (cE rs)
abbrev oc(N:Nat)(l:List ct)(rs:List Int):List Int:=ud N (cC N l) (cE rs)
theorem vg{N:Nat}{l:List ct}(hr:∀ a∈l,gz N a)(rs:List Int):Tree (lE N l rs) (aaD (oc N l rs)):=⟨fun v hv hne=>by
 have hG:=rn (rs:=cE rs) (jk rs) (mh hr)
 have hlen:=hG.len
 have hvm:=(hG.iff v hv.1 (by have:=hv.2.1;rw [← hlen];exact this)).1 hv.2.2
 obtain ⟨j,hj⟩:=List.mem_iff_getElem?.1 hvm
 rcases hG.par j v hj with ⟨h,_⟩ | ⟨i,u,h1,_,h3,h4,_⟩
 · exact (hne h).elim
 · have h4':elt (lE N l rs) v=u:=h4
   have hum:=List.mem_of_getElem? h3
   have hun:=hG.mem u hum
   rw [h4',tD hG.nodup h3,tD hG.nodup hj]
   exact ⟨⟨hun.1,by rw [show (lE N l rs).length=N from hlen];exact hun.2,(hG.iff u hun.1 hun.2).2 hum⟩,h1⟩⟩
theorem abA(w:List Int)(v:Int):aaD w v≤w.length:=List.idxOf_le_length
open Go.Proofs.Tryz
theorem sF(N:Nat)(hN:N≤1000000)(l:Sl ct)(hl:l.l.length≤100000000)(hr:∀ a∈l.l,gz N a)(rs:Sl Int)(hrs:rs.l.length≤1000000){b:List Int}(hb:lE N l.l rs.l=b) :
   Con Tryz.prog 305 [.int .i64 N,l.val,rs.val] [ShF ct.row l,ShF (fun z=>[.v (encI z)]) rs] [] fun r ps hp=>ps=[]∧hp=[aD r 3 1 (bI encI b)]:=by
 subst hb;exact uI N hN l hl hr rs hrs
end Go.Proofs.YtfkcmbonmpcbfaaGreat

namespace Go.Proofs.YtfkcmbonmpcbfaaGreat
open Go.RowKit Go.Lp Go.Sy
abbrev slR{α:Type} : Sl α→List D:=fun s=>[.v (.slice s.ad s.l.length s.cap)]
end Go.Proofs.YtfkcmbonmpcbfaaGreat

namespace Go.Sy
open Go.RowKit Go.Lp
def kH(P:Program)(t:TypeId)(name:String):Option (FuncId × Bool) :=
 match P.info? t with
 | some i=>match i.methods.find? (·.name == name) with
   | some m=>if m.path.toList=[] then m.func else none
   | none=>none
 | none=>none
section
variable {P:Program} {w:World}
theorem oE{t e f:Nat}{p:Bool}{v u:Value}{name:String}(h:kH P t name=some (f,p))(hr:∀ x,(receiverAt t (.val v) p x).run P w=.ok u w)(k:Nat):(method (k+1) t v name).run P w=.ok (f,u) w:=by
 unfold kH at h
 split at h
 · rename_i i hi
   split at h
   · rename_i m hm
     split at h
     · rename_i hp
       unfold method
       simp only [Sem.run_bind,run_typeInfo w hi,Result.andThen,hm,hp,follow,h]
       simp only [pure,Sem.run,Result.andThen]
       rw [hr]
     · cases h
   · cases h
 · cases h
theorem yJ{t e:Nat}{v:Value}{x:Option String}(hu:P.underlying t=some (.pointer e)):(receiverAt t (.val v) true x).run P w=.ok v w:=by
 unfold receiverAt
 simp only [Sem.run_bind,run_underlying hu,Result.andThen]
 rfl
theorem yK{t e b o:Nat}{v u:Value}{x:Option String}(hu:P.underlying t=some (.pointer e))(hv:v=.pointer (some ⟨b,o,none⟩))(hl:(loadVar e ⟨b,o,none⟩).run P w=.ok u w):(receiverAt t (.val v) false x).run P w=.ok u w:=by
 subst hv
 unfold receiverAt
 simp only [Sem.run_bind,run_underlying hu,Result.andThen]
 cases x with
 | none=>exact hl
 | some y=>exact hl
theorem s6{f:FuncId}(hf:cM P f=true){l:List Operand}{ts:Array TypeId}{r:Operand}{name:String}{t:TypeId}{v u:Value}{ρ:Operand→Value}{d:Option Tmp}{ty:TypeId}{pos:String}{af:Array Edge}{gd:Option (Nat × Bool)}(hr:ρ r=.iface t v){vs:List Value}(hv:l.map ρ=vs)
   (hm:∀ k,(method (k+1) t v name).run P w=.ok (f,u) w) :
   (execOp ρ ⟨d,.call ⟨.invoke r name,l.toArray,ts⟩,ty,pos,af,gd⟩).run P w=.ok (.enter f (u::vs).toArray) w:=by
 unfold execOp
 dsimp only
 show ((resolve ρ ⟨.invoke r name,l.toArray,ts⟩ ty).bind fun x=>invoke x.target x.args).run P w=_
 have:resolve ρ ⟨.invoke r name,l.toArray,ts⟩ ty=Sem.pure { target:=.fn (.method name) #[],args := #[.iface t v]++vs.toArray } := by
   unfold resolve
   dsimp only
   rw [hr,List.map_toArray,hv]
   rfl
 rw [this]
 show (invoke (.fn (.method name) #[]) (#[.iface t v]++vs.toArray)).run P w=_
 have e0:(#[Value.iface t v]++vs.toArray)[0]? = some (.iface t v):=by simp
 unfold invoke
 dsimp only
 rw [e0]
 show (callMethod (.iface t v) name ((#[Value.iface t v]++vs.toArray).extract 1 (#[Value.iface t v]++vs.toArray).size)).run P w=_
 unfold callMethod
 simp only [Sem.run_bind,program,Sem.run,Result.andThen]
 have h1:=hm (P.types.size+99)
 rw [show P.types.size+99+1=P.types.size+Made.depth from rfl] at h1
 rw [h1]
 show (callFunc f _).run P w=_
 rw [show (#[u]++(#[Value.iface t v]++vs.toArray).extract 1 (#[Value.iface t v]++vs.toArray).size)=(u::vs).toArray by simp]
 exact fX hf _ w
end
section
variable {P:Program} {n:Fr} {K:Sta→Prop} {env:Env} {ps:List Per} {hp:List Res} {s:Sta} {d:Option Tmp} {ty:TypeId} {pos:String} {af:Array Edge} {gd:Option (Nat × Bool)} {v:Value}
theorem jD{x:Operand}{T:TypeId}(hT:(match P.underlying T with | some (.interface _)=>false | some _=>true | none=>false)=true)(hx:ev s.env x=some (true,v)):Quiet P n ⟨d,.makeInterface T x,ty,pos,af,gd⟩ s (.iface T v):=fun w S fp a hst he hn=>by
 have h1:=he.val hx rfl
 have:(execOp a.eval ⟨d,.makeInterface T x,ty,pos,af,gd⟩).run P w=.ok (.value (.iface T v)) w:=by
   unfold execOp;dsimp only;rw [h1]
   show ((Instr.makeInterface T v).bind fun r=>Sem.pure (Next.value r)).run P w=_
   rw [Sem.run_bind']
   cases hu:P.underlying T with
   | none=>rw [hu] at hT;cases hT
   | some u =>
     rw [hu] at hT
     unfold Instr.makeInterface
     simp only [Sem.run_bind,run_underlying hu,Result.andThen]
     cases u<;>first | rfl | cases hT
 rw [this];exact bu _ _
theorem tw{x:Operand}{X T:TypeId}(hT:(match P.underlying T with | some (.interface _)=>false | some _=>true | none=>false)=true)(hx:ev s.env x=some (true,.iface T v)):Quiet P n ⟨d,.typeAssert x X T false,ty,pos,af,gd⟩ s v:=fun w S fp a hst he hn=>by
 have h1:=he.val hx rfl
 have:(execOp a.eval ⟨d,.typeAssert x X T false,ty,pos,af,gd⟩).run P w=.ok (.value v) w:=by
   unfold execOp;dsimp only;rw [h1]
   show ((Instr.typeAssert (.iface T v) X T false).bind fun r=>Sem.pure (Next.value r)).run P w=_
   rw [Sem.run_bind']
   cases hu:P.underlying T with
   | none=>rw [hu] at hT;cases hT
   | some u =>
     rw [hu] at hT
     unfold Instr.typeAssert
     simp only [Sem.run_bind,run_underlying hu,Result.andThen]
     cases u<;>first | (simp only [if_true];rfl) | cases hT
 rw [this];exact bu _ _
theorem fj{t:Nat}{f:FuncId}{g:Operand}{T:TypeId}{u:Value}{name:String}{l:List Operand}{ts:Array TypeId}{vs:List Value}{q:Bool}{R:Value→List Per→List Res→Prop}(lp lh:List Nat)(hf:cM P f=true)(hgv:ev env g=some (true,.iface T v))(hm:∀ w S fp,St w S fp ps hp→∀ k,(method (k+1) T v name).run P w=.ok (f,u) w)(hx:evs env l=some vs)(ht:fits n (some t)=true)(ok:okH hp lh=true)
   (hq:(!q || lh.isEmpty)=true) (hc:Con P f (u::vs) (dE ps lp) (bA hp lh) R) (hK:∀ v ps' hp',R v ps' hp'→K ⟨(t,true,v)::env,ps'++ps,fk lh hp' 0 hp⟩) :
   Eff P n ⟨some t,.call ⟨.invoke g name,l.toArray,ts⟩,ty,pos,af,gd⟩ ⟨env,ps,hp⟩ q K:=fun w S fp a hst he hn=>by
 rw [s6 hf (he.val hgv rfl) (fF he l vs hx) (hm w S fp hst)]
 obtain ⟨k1,k2⟩:=hst.bA lp lh ok
 have hcc:=hc w S _ k1
 refine hcc.mono fun e w' ⟨v,ps',hp',S',fp',he',hR,hst',hE,hg⟩=>⟨v,he',?_⟩
 obtain ⟨m1,m2⟩:=hst.back lp lh ok hst' hE hg
 refine ⟨_,S',_,hK v ps' hp' hR,m1,?_,hE.wider k2,m2,fun hq' => ?_⟩
 · exact he.put (g:=true) (by rw [hn];simpa [fits] using ht) v
 · rw [hq'] at hq
   have:lh=[]:=by simpa using hq
   subst this
   exact hE.toX (fun b hb=>wW _ b hb)
theorem adk{T e:TypeId}{f:FuncId}{name:String}(hk:kH P T name=some (f,true))(hu:P.underlying T=some (.pointer e)):∀ w S fp,St w S fp ps hp→∀ k,(method (k+1) T v name).run P w=.ok (f,v) w :=
 fun _ _ _ _ k=>oE (e:=0) hk (fun _=>yJ hu) k
theorem rq{T e U:TypeId}{f:FuncId}{name:String}{b o kk:Nat}{ag:Bool}{cs:List Value}{u:Value}(i:Nat)(hk:kH P T name=some (f,false))(hu:P.underlying T=some (.pointer e))(htk:tyk P e=some (ag,kk))(hi:hp[i]? = some (Box b U cs))(hv:rdC ag kk cs o=some u) :
   ∀ w S fp,St w S fp ps hp→∀ k,(method (k+1) T (.pointer (some ⟨b,o,none⟩)) name).run P w=.ok (f,u) w:=fun w S fp hst k=>by
 refine oE (e:=0) hk (fun _=>yK hu rfl ?_) k
 have hb:=(hst.res i _ hi).1
 have:=mK (w:=w) htk hv (b:=b) (p:=0) (fun j u hu=>by rw [Nat.zero_add,c9 hb];exact hu)
 rwa [Nat.zero_add] at this
end
end Go.Sy

namespace Go.Proofs.YtfkcmbonmpcbfaaGreat
open Go.RowKit Go.Lp Go.Sy Go.Lv
open Go.Proofs.Tryz
attribute [local irreducible] aL aB awp aC fwp Quiet
abbrev eR:List Int→List (List D):=fun l=>l.map bZ
abbrev xW(bf bc:Nat)(nx iv lv sv pv qv:Value)(s:TS)(P:List (Sl Int)):List Res :=
 [Box bf 406 [nx,iv,lv,sv,pv,qv],aD iv 3 1 (eR s.idx),aD lv 3 1 (eR s.low),aD sv 3 1 (eR s.stk),aD pv 3 1 (eR s.part),aD qv 26 1 (P.map slR),Box bc 3 [.int .i64 s.cnt]]
theorem pO(bf bc b5 b3:Nat)(nx iv lv sv pv qv:Value)(s:TS)(P:List (Sl Int))(w:Nat)(hi:w<s.idx.length)(hl:w<s.low.length)(hc:0≤s.cnt∧s.cnt≤1000000)(hs:s.stk.length≤1000000) :
   Con Tryz.prog 371 [.int .i64 w,.pointer (some ⟨b5,0,none⟩),.pointer (some ⟨b3,0,none⟩)] [At b5 0 [.v (.pointer (some ⟨bc,0,none⟩))],At b3 0 [.v (.pointer (some ⟨bf,0,none⟩))]] (xW bf bc nx iv lv sv pv qv s P)
     fun r ps hp=>r=.agg #[.int .i64 w,.int .i64 0]∧ps=[]∧∃ sv':Value,hp=xW bf bc nx iv lv sv' pv qv (cq s w) P:=by
 obtain ⟨io,hio⟩:∃ z,s.idx[w]? = some z:=⟨_,List.getElem?_eq_getElem hi⟩
 obtain ⟨lo,hlo⟩:∃ z,s.low[w]? = some z:=⟨_,List.getElem?_eq_getElem hl⟩
 refine EN3 Tryz.func371 rfl (aSR (LT rfl (bt (zs:=[.int .i64 0,.int .i64 0]) (by kernel_rfl) rfl (fun b0_0=>(aHN ?_)))))
 refine aNn (aSR (UD 0 tk165 0 rfl rfl rfl rfl (UN rfl rfl (UL 6 tk3 rfl rfl rfl rfl (aU rfl (aO rfl rfl (by omega)) (UN rfl rfl (aI rfl (aW 6 tk3 rfl rfl rfl rfl (aHK ?_)))))))))
 refine aNs (DR [17,19] 20 (VD 0 0 tk432 1 rfl rfl rfl rfl rfl (VN 1 rfl rfl rfl (VO 2 1 rfl rfl rfl (VL 3 0 tk26 rfl rfl rfl rfl rfl (VM 4 rfl rfl (VD 5 0 tk432 1 rfl rfl rfl rfl rfl (VN 6 rfl rfl rfl (VO 7 2 rfl rfl rfl (VL 8 0 tk26 rfl rfl rfl rfl rfl (y9 9 rfl (by kernel_rfl) true rfl rfl (fun _=>az rfl) (VD 10 0 tk165 0 rfl rfl rfl rfl rfl (VN 11 rfl rfl rfl (VL 12 6 tk3 rfl rfl rfl rfl rfl (VD 13 0 tk165 0 rfl rfl rfl rfl rfl ?_)))))))))))))))
 refine VN 14 rfl rfl rfl (VL 15 6 tk3 rfl rfl rfl rfl rfl ?_)
 refine bV 16 rfl rfl (bE 1 w el26 rfl rfl rfl rfl (by rw [List.length_map];exact hi)) ?_
 refine VE 17 rfl rfl (dm 1 w 0 tk3 rfl rfl rfl (aJ hio) rfl (.v rfl .nil) rfl (by decide) (bST rfl ?_))
 refine bV 18 rfl rfl (bE 2 w el26 rfl rfl rfl rfl (by rw [List.length_map];exact hl)) ?_
 refine VE 19 rfl rfl (dm 2 w 0 tk3 rfl rfl rfl (aJ hlo) rfl (.v rfl .nil) rfl (by decide) (bST rfl ?_))
 refine BN (an (aq (DC [7,10] [10] [bf] 11 (CF 0 rfl rfl rfl (aP (o:=0) tk432 rfl (.of (aF 1 rfl)) rfl) (CF 1 rfl rfl rfl (aP (o:=0) tk432 rfl (.of (aF 1 rfl)) rfl) (CF 2 rfl rfl rfl (cH rfl) (CF 3 rfl rfl rfl (qFA (off:=3) rfl) ?_)))))))
 refine dt 4 0 rfl (by kernel_rfl) true rfl rfl (by simp) tk26 (fun _=>rfl) rfl rfl ?_
 refine CF 5 rfl rfl rfl (az rfl) ?_
 refine cr 6 [] (by kernel_rfl) (bD ?_ bX)
 refine c7 6 rfl rfl (Eff.x (id (WL (zs:=[.int .i64 0]) el26 rfl rfl rfl (.more rfl (.v rfl .nil) .nil) rfl rfl (fun v3_6=>(CST ?_)))))
 refine cr 7 [] (by kernel_rfl) (bD ?_ bX)
 refine c7 7 rfl rfl (Eff.framed (q:=false) [3,8] rfl rfl (gF 0 rfl rfl oX) ?_)
 refine id (cJ 0 el26 rfl rfl rfl rfl (dY 1 el26 rfl (by simp)) (by first | assumption | simp) (by show (eR s.stk).length+1≤_;rw [List.length_map];exact Nat.le_trans (show s.stk.length+1≤1000001 by omega) (by decide)) (s.stk.length+1) (by simp) (fun v3_7 c3_7 => ?_))
 refine i7 (CST ?_)
 refine CF 8 rfl rfl rfl (cH rfl) (CF 9 rfl rfl rfl (qFA (off:=3) rfl) ?_)
 refine cr 10 [] (by kernel_rfl) (bD ?_ bX)
 refine c7 10 rfl rfl (Eff.wild (q:=false) (id (aW 0 tk26 rfl rfl rfl rfl (CST ?_))))
 refine fg (by kernel_rfl) (an (aSR (aM rfl (aU rfl (gr (l:=[(0,.tmp 38)]) (zs:=[.int .i64 0,.int .i64 0]) (pl:=[(0,1),(1,1)]) (by kernel_rfl) (by kernel_rfl) (by kernel_rfl) rfl rfl rfl) (aI rfl (aW 7 tk434 rfl rfl rfl rfl (aHK ?_)))))))
 refine aNn (aj ?_)
 refine ab4 [] [0,1,2,3,4,5,6] rfl Tryz.results371 (mL 7 tk434 rfl rfl rfl) ?_ (.inr rfl)
 refine ⟨rfl,rfl,.slice v3_7 (s.stk.length+1) c3_7,?_⟩
 show _=[_,aD iv _ 1 ((s.idx.set (w:Int).toNat (s.cnt+1)).map bZ),aD lv _ 1 ((s.low.set (w:Int).toNat (s.cnt+1)).map bZ),aD _ _ 1 ((s.stk++[(w:Int)]).map bZ),_,_,Box bc _ [.int .i64 (s.cnt+1)]]
 rw [Int.toNat_natCast,List.map_set,List.map_set,List.map_append]
 rfl
end Go.Proofs.YtfkcmbonmpcbfaaGreat

namespace Go.Sy
open Go.RowKit Go.Lp
section
variable {P:Program} {n:Fr} {s:Sta} {d:Option Tmp} {ty:TypeId} {pos:String} {af:Array Edge} {gd:Option (Nat × Bool)} {x y1 y2 y3:Operand}
end
def abW(R:Res):Prop:=∀ w S S' F,R.holds w S F→R.holds w S' F
theorem yb{v:Value}{E:TypeId}{sz:Nat}{rows:List (List D)}(hr:∀ r∈rows,∀ d∈r,∃ u,d=D.v u):abW (aD v E sz rows):=fun w S S' F h=>by
 rcases h with ⟨h1,h2,h3⟩ | ⟨b,cap,h1,⟨cs,sp,hb,ha,hl,hle,hc⟩,hF⟩
 · exact .inl ⟨h1,h2,h3⟩
 · refine .inr ⟨b,cap,h1,⟨cs,sp,hb,⟨ha.len,ha.row,ha.one,fun i j r d h1 h2 => ?_⟩,hl,hle,hc⟩,hF⟩
   obtain ⟨u,hu,hd⟩:=ha.rep i j r d h1 h2
   obtain ⟨u',rfl⟩:=hr r (List.mem_of_getElem? h1) d (List.mem_of_getElem? h2)
   refine ⟨u,hu,?_⟩
   cases hd;exact .v _
section
variable {P:Program} {n:Fr} {s:Sta} {d:Option Tmp} {ty:TypeId} {pos:String} {af:Array Edge} {gd:Option (Nat × Bool)} {x y1 y2 y3:Operand}
end
theorem wP{w:World}{S:aT}{fp:Nat→aT}{ps:List Per}{p:Per}{L:List Res}(hst:St w S fp ps L)(hp:p.holds w (fun b=>S b∨tot fp L.length b)) :
   St w (fun b=>S b∨tot fp L.length b) (fun _ _=>False) (p::ps) [] :=
 ⟨fun q hq=>by
     rcases List.mem_cons.1 hq with rfl | hq
     · exact hp
     · exact q.mono (hst.per q hq) (fun _ _=>rfl) (fun _ h=>.inl h),fun i R hi=>by simp at hi,fun i hi=>by simp at hi,fun i j hi=>by simp at hi,fun b hb=>hb.elim (hst.slt b) fun ⟨i,hi,h⟩=>(hst.lt i hi b h).1⟩
theorem Con.borrowL{P:Program}{f:FuncId}{args:List Value}{ps:List Per}{p:Per}{R:Value→List Per→List Res→Prop}(h:Con P f args (p::ps) [] R)(L:List Res)
   (hB:∀ (w:World) (S:aT) (fp:Nat→aT),(∀ (i:Nat) (A:Res),L[i]? = some A→A.holds w S (fp i))→p.holds w (fun b=>S b∨tot fp L.length b)) (hR:∀ v ps' hp',R v ps' hp'→∀ r∈hp',abW r) :
   Con P f args ps L (fun v ps' hp'=>ps'=[]∧∃ ps2 hp2,R v ps2 hp2∧hp'=L++hp2):=fun w S fp hst=>by
 have h2:=wP hst (hB w S fp hst.res)
 have h0:∀ b,¬ tot (fun _ _=>False) ([]:List Res).length b:=fun b ⟨j,hj,_⟩=>by simp at hj
 refine (h w _ _ h2).mono fun e w' ⟨v,ps',hp',S',fp',he,hR',hst',hE,hb⟩ => ?_
 have hFlt:∀ b,tot fp L.length b→b<w.heap.size∧¬ S b:=fun b ⟨i,hi,h⟩=>hst.lt i hi b h
 have hsame:∀ b,b<w.heap.size→w'.heap[b]? = w.heap[b]? := fun b hb'=>hE.block b hb' (h0 b)
 have hfp:∀ i,i<L.length→∀ b,fp i b→tot fp L.length b:=fun i hi b hb=>⟨i,hi,hb⟩
 refine ⟨v,[],L++hp',fun b=>S' b∧¬ tot fp L.length b,fun i=>if i<L.length then fp i else fp' (i-L.length),he,⟨rfl,ps',hp',hR',rfl⟩,⟨fun q hq=>(by cases hq),fun i A hi => ?_,fun i hi b hbi => ?_,fun i j hi hj hne b hbi hbj => ?_,fun b hb'=>hst'.slt b hb'.1⟩,⟨hE.os,hE.tape,hE.output,hE.size,hE.drawn,fun b hb' _=>hsame b hb',fun b hb'=>⟨hE.more b (.inl hb'),fun hf=>(hFlt b hf).2 hb'⟩,fun b hb' => ?_⟩,fun b ⟨i,hi,hbi⟩ => ?_⟩
 · by_cases hil:i<L.length
   · rw [if_pos hil]
     rw [List.getElem?_append_left hil] at hi
     exact A.mono (hst.res i A hi) (fun b hb'=>hsame b (hFlt b (hfp i hil b hb')).1) (fun b hb'=>hsame b (hst.slt b hb')) (fun b hb'=>⟨hE.more b (.inl hb'),fun hf=>(hFlt b hf).2 hb'⟩)
   · rw [if_neg hil]
     rw [List.getElem?_append_right (by omega)] at hi
     exact hR v ps' hp' hR' A (List.mem_of_getElem? hi) _ _ _ _ (hst'.res _ A hi)
 · by_cases hil:i<L.length
   · rw [if_pos hil] at hbi
     exact ⟨Nat.lt_of_lt_of_le (hFlt b (hfp i hil b hbi)).1 hE.size,fun h=>h.2 (hfp i hil b hbi)⟩
   · rw [if_neg hil] at hbi
     rw [List.length_append] at hi
     have:=hst'.lt (i-L.length) (by omega) b hbi
     exact ⟨this.1,fun h=>this.2 h.1⟩
 · rw [List.length_append] at hi hj
   by_cases hil:i<L.length
   · rw [if_pos hil] at hbi
     by_cases hjl:j<L.length
     · rw [if_pos hjl] at hbj;exact hst.dj i j hil hjl hne b hbi hbj
     · rw [if_neg hjl] at hbj;exact (hst'.lt (j-L.length) (by omega) b hbj).2 (hE.more b (.inr (hfp i hil b hbi)))
   · rw [if_neg hil] at hbi
     by_cases hjl:j<L.length
     · rw [if_pos hjl] at hbj;exact (hst'.lt (i-L.length) (by omega) b hbi).2 (hE.more b (.inr (hfp j hjl b hbj)))
     · rw [if_neg hjl] at hbj;exact hst'.dj (i-L.length) (j-L.length) (by omega) (by omega) (by omega) b hbi hbj
 · rcases hE.new b hb'.1 with (h | h) | h | h
   · exact .inl h
   · exact (hb'.2 h).elim
   · exact (h0 b h).elim
   · exact .inr (.inr h)
 · dsimp only at hbi
   by_cases hil:i<L.length
   · rw [if_pos hil] at hbi;exact .inl ⟨i,hil,hbi⟩
   · rw [if_neg hil] at hbi
     rw [List.length_append] at hi
     exact (hb b ⟨i-L.length,by omega,hbi⟩).elim (fun h=>(h0 b h).elim) .inr
theorem Con.ofRes{P:Program}{f:FuncId}{args:List Value}{ps:List Per}{p:Per}{R:Value→List Per→List Res→Prop}(h:Con P f args (p::ps) [] R)(L:List Res)
   (hB:∀ (w:World) (S:aT) (fp:Nat→aT),(∀ (i:Nat) (A:Res),L[i]? = some A→A.holds w S (fp i))→p.holds w (fun b=>S b∨tot fp L.length b)):Con P f args ps L R:=fun w S fp hst=>by
 have h2:=wP hst (hB w S fp hst.res)
 have h0:∀ b,¬ tot (fun _ _=>False) ([]:List Res).length b:=fun b ⟨j,hj,_⟩=>by simp at hj
 have hE:Evo w S (tot fp L.length) w (fun b=>S b∨tot fp L.length b):=⟨rfl,rfl,rfl,Nat.le_refl _,Nat.le_refl _,fun _ _ _=>rfl,fun _ h=>.inl h,fun b hb=>hb.elim .inl fun h=>.inr (.inl h)⟩
 exact (h w _ _ h2).mono fun e w' ⟨u,ps',hp',S',fp',he,hR,hst',hE',hb⟩=>⟨u,ps',hp',S',fp',he,hR,hst',hE.trans hE' (fun b hb=>(h0 b hb).elim),fun b hb'=>(hb b hb').elim (fun h=>(h0 b h).elim) .inr⟩
theorem Con.clean{P:Program}{f:FuncId}{args:List Value}{ps:List Per}{hp:List Res}{R:Value→List Per→List Res→Prop}{φ:Value→Prop}(h:Con P f args ps hp R)(hR:∀ v ps' hp',R v ps' hp'→φ v):Con P f args ps hp (fun v ps' hp'=>φ v∧ps'=[]∧hp'=[]):=fun w S fp hst =>
 (h w S fp hst).mono fun e w' ⟨v,ps',hp',S',fp',he,hr,hst',hE,hb⟩=>⟨v,[],[],S',fun _ _=>False,he,⟨hR _ _ _ hr,rfl,rfl⟩,⟨fun q hq=>(by cases hq),fun i A hi=>(by simp at hi),fun i hi=>(by simp at hi),fun i j hi=>(by simp at hi),hst'.slt⟩,hE,fun b ⟨i,hi,_⟩=>(by simp at hi)⟩
theorem mi{w:World}{S:aT}{sz:Nat}{cs:List Value}{rows:List (List D)}(h:cZ w S sz cs rows){k:Nat}(hk:k≤rows.length):cZ w S sz (cs.take (k*sz)) (rows.take k) where
 len:=by
   have:=h.len
   have h2:k*sz≤rows.length*sz:=Nat.mul_le_mul_right _ hk
   rw [List.length_take,List.length_take,Nat.min_eq_left hk,Nat.min_eq_left (by omega)]
 row i r hr:=h.row i r (by
   have hl:=(List.getElem?_eq_some_iff.1 hr).1
   rw [List.length_take] at hl
   rw [List.getElem?_take_of_lt (by omega)] at hr;exact hr)
 one v hv:=h.one v (List.mem_of_mem_take hv)
 rep i j r d hr hd:=by
   have hl:=(List.getElem?_eq_some_iff.1 hr).1
   rw [List.length_take] at hl
   rw [List.getElem?_take_of_lt (by omega)] at hr
   obtain ⟨u,hu,hrep⟩:=h.rep i j r d hr hd
   refine ⟨u,?_,hrep⟩
   have hj:=(List.getElem?_eq_some_iff.1 hd).1
   rw [h.row i r hr] at hj
   have h3:(i+1)*sz≤k*sz:=Nat.mul_le_mul_right _ (by omega)
   rw [Nat.add_mul] at h3
   rw [List.getElem?_take_of_lt (by omega)];exact hu
theorem aav{w:World}{S F:aT}{b:Nat}{T:TypeId}{sz cap:Nat}{rows:List (List D)}{k:Nat}(hk:k≤rows.length)(h:(Own b T sz cap rows).holds w S F):(Own b T sz cap (rows.take k)).holds w S F:=by
 obtain ⟨⟨cs,sp,hb,hr,hl,hle,hc⟩,hF⟩:=h
 refine ⟨⟨cs.take (k*sz),cs.drop (k*sz)++sp,?_,mi hr hk,?_,by rw [List.length_take];omega,hc⟩,hF⟩
 · rw [← List.append_assoc,List.take_append_drop];exact hb
 · rw [← List.append_assoc,List.take_append_drop];exact hl
theorem qo{w:World}{S F:aT}{B m cp:Nat}{T:TypeId}{sz:Nat}{rows:List (List D)}{k:Nat}(hk:k≤rows.length)(h:(aD (.slice (some ⟨B,0,none⟩) m cp) T sz rows).holds w S F):(aD (.slice (some ⟨B,0,none⟩) k cp) T sz (rows.take k)).holds w S F:=by
 rcases h with ⟨h1,_⟩ | ⟨b,cap,h1,ho⟩
 · cases h1
 · simp only [Value.slice.injEq,Option.some.injEq,Addr.mk.injEq] at h1
   obtain ⟨⟨rfl,_⟩,rfl,rfl⟩:=h1
   exact .inr ⟨B,cp,by rw [List.length_take,Nat.min_eq_left hk],aav hk ho⟩
theorem rW{P:Program}{n:Fr}{env:Env}{ps:List Per}{hp:List Res}{c:Code}{Q:Exit→Sta→Prop}(i k:Nat){B m cp:Nat}{T:TypeId}{sz:Nat}{rows:List (List D)}(hi:hp[i]? = some (aD (.slice (some ⟨B,0,none⟩) m cp) T sz rows))(hk:k≤rows.length)
   (h:awp P n c Q ⟨env,ps,hp.set i (aD (.slice (some ⟨B,0,none⟩) k cp) T sz (rows.take k))⟩):awp P n c Q ⟨env,ps,hp⟩:=fH i _ hi (fun _ _ _ hh=>qo hk hh) h
theorem eu{P:Program}{n:Fr}{env:Env}{ps:List Per}{hp:List Res}{c:Code}{Q:Exit→Sta→Prop}(i:Nat){v:Value}{E:TypeId}{sz:Nat}{rows:List (List D)}(hi:hp[i]? = some (aD v E sz rows))(h0:rows≠[])(h:∀ B cp,v=.slice (some ⟨B,0,none⟩) rows.length cp→rows.length≤cp→awp P n c Q ⟨env,ps,hp⟩):awp P n c Q ⟨env,ps,hp⟩:=fun w S fp a hst he hn hd=>by
 rcases hst.res i _ hi with ⟨_,h1,_⟩ | ⟨B,cp,h1,⟨⟨_,_,_,_,_,hle,_⟩,_⟩⟩
 · exact (h0 h1).elim
 · exact h B cp h1 hle w S fp a hst he hn hd
theorem aaE{w:World}{S:aT}{b o n c sz:Nat}{rows:List (List D)}(h:ea w S (.slice (some ⟨b,o,none⟩) n c) (.sl rows))(l:Nat)(hsz:∀ r∈rows,r.length=sz)(hl:l<rows.length) :
   ea w S (.slice (some ⟨b,o+l*sz,none⟩) (rows.drop l).length (c-l)) (.sl (rows.drop l)):=by
 cases h with
 | e a c hc=>simp at hl
 | sl b o c sz2 rows us hb hn hc hr hcell hd =>
   have h0:rows[0]? = some (rows[0]'(by omega)):=List.getElem?_eq_getElem (by omega)
   obtain rfl:sz2=sz:=by rw [← hr 0 _ h0,hsz _ (List.getElem_mem _)]
   have key:∀ (i:Nat) (r:List D),(rows.drop l)[i]? = some r→rows[l+i]? = some r:=fun i r h=>by
     rw [List.getElem?_drop] at h;exact h
   refine .sl b (o+l*sz2) (c-l) sz2 _ (fun i j=>us (l+i) j) hb (by simp;omega) (by omega) (fun i r hi=>hr _ r (key i r hi)) (fun i j r d hi hj => ?_) (fun i j r d hi hj=>hd _ j r d (key i r hi) hj)
   rw [show o+l*sz2+i*sz2+j=o+(l+i)*sz2+j by rw [Nat.add_mul];omega]
   exact hcell _ j r d (key i r hi) hj
theorem aas{w:World}{S F:aT}{E:TypeId}{sz B m cap k:Nat}{rows:List (List D)}(h:(aD (.slice (some ⟨B,0,none⟩) m cap) E sz rows).holds w S F)(hsz:∀ r∈rows,r.length=sz)(hk:k<rows.length) :
   ea w (fun b=>S b∨F b) (.slice (some ⟨B,k*sz,none⟩) (rows.drop k).length (cap-k)) (.sl (rows.drop k)):=by
 have:=aaE (kL h) k hsz hk
 rwa [Nat.zero_add] at this
theorem Con.keepF{P:Program}{f:FuncId}{args:List Value}{ps:List Per}{hp:List Res}{R:Value→List Per→List Res→Prop}(h:Con P f args ps hp R):Con P f args ps hp (fun v ps' hp'=>∃ ps0,ps'=ps0++ps∧R v ps0 hp'):=fun w S fp hst =>
 (h w S fp hst).mono fun e w' ⟨v,ps',hp',S',fp',he,hr,hst',hE,hb⟩=>⟨v,ps'++ps,hp',S',fp',he,⟨ps',rfl,hr⟩,⟨fun p hp=>(List.mem_append.1 hp).elim (hst'.per p) fun hp=>p.mono (hst.per p hp) (fun b hbS=>hE.block b (hst.slt b hbS) fun ⟨i,hi,hbi⟩=>(hst.lt i hi b hbi).2 hbS) hE.more,hst'.res,hst'.lt,hst'.dj,hst'.slt⟩,hE,hb⟩
end Go.Sy

namespace Go.Proofs.YtfkcmbonmpcbfaaGreat
open Go.RowKit Go.Lp Go.Sy Go.Lv
open Go.Proofs.Tryz
attribute [local irreducible] aL aB awp aC fwp Quiet
theorem acp(l:List Int):∀ r∈eR l,r.length=1:=fun r hr=>by obtain ⟨z,_,rfl⟩:=List.mem_map.1 hr;rfl
theorem uz(B0 cp:Nat)(A D:List Int)(hD:D≠[])(hl:D.length≤1000000) :
   Con Tryz.prog 347 [.slice (some ⟨B0,A.length*1,none⟩) D.length (cp-A.length)] [] [aD (.slice (some ⟨B0,0,none⟩) (A++D).length cp) 3 1 (eR (A++D))]
     fun r ps hp=>ps=[]∧hp=[aD (.slice (some ⟨B0,0,none⟩) (A++D).length cp) 3 1 (eR (A++D)),aD r 3 1 (eR D)]:=by
 refine (Con.borrowL (nq (ad:=some ⟨B0,A.length*1,none⟩) (c:=cp-A.length) D hl) [aD (.slice (some ⟨B0,0,none⟩) (A++D).length cp) 3 1 (eR (A++D))] (fun w S fp h => ?_) fun v ps' hp' ⟨_,e⟩ r hr => ?_).post fun v ps' hp' ⟨h1,ps2,hp2,⟨_,h3⟩,h5⟩=>⟨h1,by rw [h5,h3];rfl⟩
 · have h0:=aas (k:=A.length) (h 0 _ rfl) (acp _) (by rw [List.length_map,List.length_append];have:=List.length_pos_iff.2 hD;omega)
   have e:(eR (A++D)).drop A.length=eR D:=by rw [← List.map_drop,List.drop_left]
   rw [e,List.length_map] at h0
   exact h0.mono (fun _ _=>rfl) fun b hb=>hb.imp id fun hf=>⟨0,by simp,hf⟩
 · rw [e] at hr;rw [List.mem_singleton.1 hr]
   exact yb fun r hr d hd=>by
     obtain ⟨z,_,rfl⟩:=List.mem_map.1 hr
     rw [List.mem_singleton.1 hd];exact ⟨_,rfl⟩
theorem tN{part p:List Int}{u:Int}{k:Nat}{w:Int}(h:p[k]? = some w):b9 part u (p.take (k+1))=(b9 part u (p.take k)).set w.toNat u:=by
 unfold b9;rw [List.take_add_one,h,List.foldl_append];rfl
theorem xm(bf:Nat)(nx iv lv sv pv qv:Value)(A B part:List Int)(v:Int)(P:List (Sl Int))(hv:v ∉ B)(hlen:(A++v::B).length≤1000000)(hpr:∀ x∈v::B,0≤x∧x<part.length)(hP:P.length≤1000000) :
   Con Tryz.prog 372 [.pointer (some ⟨bf,0,none⟩),.int .i64 v] [] [Box bf 406 [nx,iv,lv,sv,pv,qv],aD sv 3 1 (eR (A++v::B)),aD pv 3 1 (eR part),aD qv 26 1 (P.map slR)]
     fun _ ps hp=>∃ (pl:Sl Int) (sv' qv':Value),pl.l.Perm (v::B)∧ps=[ShF bZ pl]∧hp=[Box bf 406 [nx,iv,lv,sv',pv,qv'],aD sv' 3 1 (eR A),aD pv 3 1 (eR (b9 part ((P.length:Int)+1) pl.l)),aD qv' 26 1 ((P++[pl]).map slR)]:=by
 obtain ⟨S,hS⟩:∃ S,S=A++v::B:=⟨_,rfl⟩
 rw [← hS] at hlen ⊢
 have hSl:S.length=A.length+(B.length+1):=by rw [hS];simp
 have hSA:S[A.length]? = some v:=by rw [hS];simp
 have hSB:∀ i z,A.length<i→S[i]? = some z→z≠v:=fun i z hi hz e=>by
   rw [hS,List.getElem?_append_right (by omega)] at hz
   obtain ⟨k,hk⟩:∃ k,i-A.length=k+1:=⟨i-A.length-1,by omega⟩
   rw [hk,List.getElem?_cons_succ] at hz
   exact hv (e ▸ List.mem_of_getElem? hz)
 have hE:(eR S).length=S.length:=List.length_map _
 refine EN2 Tryz.func372 rfl (aSR (aM rfl (UN rfl rfl (UO 3 rfl rfl (UL 0 tk26 rfl rfl rfl rfl (aU rfl (dF 1 Tryz.underlying26 rfl rfl) (aU rfl (bN rfl rfl (by omega)) (aA rfl (aNs (ao ?_))))))))))
 refine aR [0,1,4] [] [0,1,2,3] (fun (i:Nat) st=>(A.length≤i∧i<S.length)∧st=⟨[(0,true,.pointer (some ⟨bf,0,none⟩)),(1,true,.int .i64 v),(4,true,.int .i64 i)],[],[Box bf 406 [nx,iv,lv,sv,pv,qv],aD sv 3 1 (eR S),aD pv 3 1 (eR part),aD qv 26 1 (P.map slR)]⟩) (fun i=>i) rfl (⟨S.length-1,⟨by omega,by omega⟩,by rw [show ((S.length-1:Nat):Int)=(S.length:Int)-1 by omega,List.length_map];rfl⟩) ?_
 rintro i st ⟨⟨hiA,hiS⟩,rfl⟩
 obtain ⟨z,hz⟩:∃ z,S[i]? = some z:=⟨_,List.getElem?_eq_getElem hiS⟩
 refine aq (aSR (aM rfl (UN rfl rfl (UO 3 rfl rfl (UL 0 tk26 rfl rfl rfl rfl (aM rfl ?_))))))
 refine aU rfl (bE 1 i el26 rfl rfl rfl rfl (by rw [List.length_map];exact hiS)) ?_
 refine aU rfl (bb 1 i 0 tk3 rfl rfl (aJ hz) rfl rfl) (aM rfl (aU rfl (dS rfl rfl) (aNn ?_)))
 refine ah _ rfl (fun h1 => ?_) (fun h1 => ?_)
 ·skip
  have hzv:z≠v:=by simpa using h1
  have hlt:A.length<i:=by
    rcases Nat.lt_or_ge A.length i with h | h
    · exact h
    · obtain rfl:i=A.length:=by omega
      rw [hSA] at hz;exact absurd (Option.some.inj hz).symm hzv
  refine ai (an (ao (ae (aM rfl (aU rfl (bN rfl rfl (by omega)) (aA rfl (bK (bo (an ?_)))))))))
  refine ⟨[0,1,4],[],[0,1,2,3],rfl,?_⟩
  exact ⟨i-1,⟨⟨by omega,by omega⟩,by rw [show ((i-1:Nat):Int)=(i:Int)-1 by omega];rfl⟩,by omega⟩
 ·skip
  have hzv:z=v:=by simpa using h1
  obtain rfl:i=A.length:=by
    rcases Nat.lt_or_ge A.length i with h | h
    · exact absurd hzv (hSB i z h hz)
    · omega
  refine aS (aV (aV (ba (an (aq ?_)))))
  refine eu 1 rfl (fun h0=>by have:=congrArg List.length h0;rw [hE,List.length_nil] at this;omega) (fun B0 cp hv0 hcp => ?_)
  rw [hE] at hv0 hcp
  subst hv0
  refine ae (aM rfl (UN rfl rfl (UO 3 rfl rfl (UL 0 tk26 rfl rfl rfl rfl (aM rfl ?_)))))
  refine aU rfl (jE A.length (v::B).length (A.length*1) el26 rfl rfl rfl (by omega) hcp (by rw [hSl,List.length_cons];omega) (by omega)) ?_
  refine LF rfl (EC [] [1] rfl ((by rw [hS];exact uz B0 cp A (v::B) (by simp) (by rw [hSl] at hlen;simp;omega))) ?_)
  rintro r3_6 _ _ ⟨rfl,rfl⟩
  refine aST ?_
  refine aA rfl (aNn (aSR (aM rfl (aM rfl (UN rfl rfl (UO 3 rfl rfl (UL 0 tk26 rfl rfl rfl rfl (aM rfl (aU rfl (fA A.length el26 rfl rfl rfl (by omega) hcp) (UN rfl rfl (UO 3 rfl rfl (aI rfl (aW 0 tk26 rfl rfl rfl rfl (aHK ?_))))))))))))))
  refine aNs ?_
  refine fH 1 (aD (.slice (some ⟨B0,0,none⟩) A.length cp) 3 1 (eR A)) rfl (fun w S F h=>by have:=qo (k:=A.length) (by rw [List.length_map,List.length_append];omega) h;rwa [show (eR (A++v::B)).take A.length=eR A by rw [← List.map_take,List.take_left]] at this) ?_
  refine ae (aM rfl ?_)
  refine LF rfl (EC [] [4] rfl (jv (v::B) (by rw [hSl] at hlen;simp;omega)) ?_)
  rintro _ _ _ ⟨rfl,rfl⟩
  refine aST ?_
  refine aNs ?_
  have hsp:(ed (v::B)).Perm (v::B):=List.mergeSort_perm _ _
  generalize ed (v::B)=p at hsp
  have hpl:=hsp.length_eq
  rw [List.length_cons] at hpl
  refine rX 4 rfl (fun ad cpp hv4 => ?_)
  rw [show (bI encI p).length=p.length by simp [bI]] at hv4
  subst hv4
  refine jV 4 (ShF bZ ⟨ad,cpp,p⟩) rfl (fun _ _ _ h=>kL h) ?_
  show awp _ _ _ _ ⟨_,[ShF bZ _],[_,_,_,_,emp]⟩
  refine ae (aM rfl (aM rfl (UN rfl rfl (UO 5 rfl rfl (UL 0 tk381 rfl rfl rfl rfl (aM rfl (LT rfl (WL (zs:=[.slice none 0 0]) el381 rfl rfl rfl (.more rfl (.v rfl .nil) .nil) rfl rfl (fun v6_6=>(aHN ?_))))))))))
  refine aI rfl (cJ 3 el381 rfl rfl rfl rfl (dY 5 el381 rfl (by simp)) (by first | assumption | simp) (by show (P.map slR).length+1≤_;rw [List.length_map];exact Nat.le_trans (show P.length+1≤1000001 by omega) (by decide)) (P.length+1) (by simp) (fun v6_7 c6_7 => ?_))
  refine aHK ?_
  refine UN rfl rfl (UO 5 rfl rfl (aI rfl (aW 0 tk381 rfl rfl rfl rfl (aHK ?_))))
  refine aNn (aSR (aM rfl (aU rfl (aY Tryz.underlying26 rfl) (aM rfl (aNn (ao ?_))))))
  refine aR [0,53,54,55] [0] [0,1,2,3] (fun (k:Nat) st=>k≤p.length∧st=⟨[(0,true,.pointer (some ⟨bf,0,none⟩)),(53,true,.slice ad p.length cpp),(54,true,.int .i64 p.length),(55,true,.int .i64 k)],[ShF bZ ⟨ad,cpp,p⟩],[Box bf 406 [nx,iv,lv,.slice (some ⟨B0,0,none⟩) A.length cp,pv,.slice v6_7 (P.length+1) c6_7],aD (.slice (some ⟨B0,0,none⟩) A.length cp) 3 1 (eR A),aD pv 3 1 (eR (b9 part ((P.length:Int)+1) (p.take k))),aD (.slice v6_7 (P.length+1) c6_7) 26 1 ((P++[(⟨ad,cpp,p⟩:Sl Int)]).map slR)]⟩) (fun k=>p.length-k) rfl (⟨0,Nat.zero_le _,by rw [List.map_append];rfl⟩) ?_
  rintro k st ⟨hk,rfl⟩
  refine aSR (aU rfl (bg rfl rfl) (aNs ?_))
  refine ah _ rfl (fun h2 => ?_) (fun h2 => ?_)
  ·skip
   have hk':k<p.length:=by simpa using h2
   obtain ⟨w,hw⟩:∃ w,p[k]? = some w:=⟨_,List.getElem?_eq_getElem hk'⟩
   have hwr:=hpr w (hsp.mem_iff.1 (List.mem_of_getElem? hw))
   have hsn:=tN (part:=part) (u:=(P.length:Int)+1) hw
   have hsl:=oG ((P.length:Int)+1) (p.take k) part
   obtain ⟨w0,rfl⟩:=Int.eq_ofNat_of_zero_le hwr.1
   obtain ⟨po,hpo⟩:∃ z,(b9 part ((P.length:Int)+1) (p.take k))[w0]? = some z:=⟨_,List.getElem?_eq_getElem (by omega)⟩
   refine ai (an (aq (ao (aSR (UI Tryz.underlying26 tk3 0 rfl rfl rfl rfl rfl (aJ hw) rfl rfl (fun ⟨b9_0,o9_0⟩=>(US 0 tk3 0 rfl rfl rfl rfl rfl (aA rfl (aNn (DR [11] 12 (VM 0 rfl rfl (VN 1 rfl rfl rfl (VO 2 4 rfl rfl rfl (VL 3 0 tk26 rfl rfl rfl rfl rfl (VM 4 rfl rfl ?_)))))))))))))))
   refine VM 5 rfl rfl (VN 6 rfl rfl rfl (VO 7 5 rfl rfl rfl (VL 8 0 tk381 rfl rfl rfl rfl rfl (bV 9 rfl rfl (dF 3 Tryz.underlying381 rfl rfl) ?_))))
   refine bV 10 rfl rfl (bE 2 w0 el26 rfl rfl rfl rfl (by rw [List.length_map];omega)) ?_
   refine VE 11 rfl rfl (dm 2 w0 0 tk3 rfl rfl rfl (aJ hpo) rfl (.v rfl .nil) rfl (by decide) (bST rfl ?_))
   refine BN (bo (an (ae (aU rfl (aO rfl rfl (by omega)) (aM rfl (aNn ?_))))))
   refine ⟨[0,53,54,55],[0],[0,1,2,3],rfl,?_⟩
   refine ⟨k+1,⟨by omega,?_⟩,by omega⟩
   rw [hsn,List.length_map,List.length_append]
   show _=(⟨_,_,[_,_,aD pv _ 1 ((List.set _ (w0:Int).toNat _).map bZ),_]⟩:Sta)
   rw [List.map_set];rfl
  ·skip
   refine aS (aV (aV (ba ?_)))
   refine xX [0] [0,1,2,3] rfl Tryz.results372 ?_ (.inl rfl)
   have hkp:k=p.length:=by simp at h2;omega
   subst hkp
   rw [List.take_length]
   exact ⟨⟨ad,cpp,p⟩,_,_,hsp,rfl,rfl⟩
theorem uB(bf:Nat)(nx iv lv sv pv qv:Value)(A B part:List Int)(v:Int)(P:List (Sl Int))(hv:v ∉ B)(hlen:(A++v::B).length≤1000000)(hpr:∀ x∈v::B,0≤x∧x<part.length)(hP:P.length≤1000000) :
   Con Tryz.prog 372 [.pointer (some ⟨bf,0,none⟩),.int .i64 v] [b6 (ShF bZ) P] [Box bf 406 [nx,iv,lv,sv,pv,qv],aD sv 3 1 (eR (A++v::B)),aD pv 3 1 (eR part),aD qv 26 1 (P.map slR)]
     fun _ ps hp=>∃ (pl:Sl Int) (sv' qv':Value),pl.l.Perm (v::B)∧ps=[b6 (ShF bZ) (P++[pl])]∧hp=[Box bf 406 [nx,iv,lv,sv',pv,qv'],aD sv' 3 1 (eR A),aD pv 3 1 (eR (b9 part ((P.length:Int)+1) pl.l)),aD qv' 26 1 ((P++[pl]).map slR)] :=
 Con.conv (((xm bf nx iv lv sv pv qv A B part v P hv hlen hpr hP).pre (ps0:=[b6 (ShF bZ) P]) fun p hp=>by cases hp).keepF) fun _ ps' hp' ⟨ps0,e,pl,sv',qv',h1,h2,h3⟩=>by
   subst e h2 h3
   exact ⟨_,_,StE.ents (ps':=[b6 (ShF bZ) (P++[pl])]) (fun p hp=>by
     rw [List.mem_singleton.1 hp]
     exact fun w S hps x hx=>(List.mem_append.1 hx).elim (fun h=>hps (b6 (ShF bZ) P) (by simp) x h) fun h=>by rw [List.mem_singleton.1 h];exact hps (ShF bZ pl) (by simp)),pl,sv',qv',h1,rfl,rfl⟩
end Go.Proofs.YtfkcmbonmpcbfaaGreat

