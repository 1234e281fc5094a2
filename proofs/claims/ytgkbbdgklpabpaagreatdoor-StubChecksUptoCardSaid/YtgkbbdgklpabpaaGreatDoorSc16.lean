/- Parts of the proof, in build order. No condition. -/
import Derived.Test.YtgkbbdgklpabpaaGreatDoorSc13
import Derived.Test.YtgkbbdgklpabpaaGreatDoorSc14
import Derived.Test.YtgkbbdgklpabpaaGreatDoorSc15
import Derived.Test.YtgkbbdgklpabpaaGreatDoorSc07
import Derived.Test.YtgkbbdgklpabpaaGreatDoorSc06
import Derived.Test.YtgkbbdgklpabpaaGreatDoorSc03
import Derived.Test.YtgkbbdgklpabpaaGreatDoorSc05
import Derived.Test.YtgkbbdgklpabpaaGreatDoorSc09
import Derived.Test.YtgkbbdgklpabpaaGreatDoorSc11
import Derived.Test.YtgkbbdgklpabpaaGreatDoorSc12
set_option linter.unusedSimpArgs false
set_option linter.unusedVariables false
set_option maxHeartbeats 20000000
set_option maxRecDepth 20000
namespace Go.Lv
open Go.Sy
structure G (N:Nat) (out:List (List Int)) (rs:List Int) (k:Nat) (s:BS):Prop where
 len:s.1.length=N
 mem:∀ v∈s.2,0≤v∧v<N
 iff:∀ v:Int,0≤v→v<N→(0≤elt s.1 v↔v∈s.2)
 nodup:s.2.Nodup
 par:∀ (j:Nat) (v:Int),s.2[j]? = some v→(elt s.1 v=v∧v∈rs)∨∃ (i:Nat) (u:Int),i<j∧i≤k∧s.2[i]? = some u∧elt s.1 v=u∧v∈elt out u∧∀ i'<i,∀ u',s.2[i']? = some u'→v ∉ elt out u'
 clo:∀ i<k,∀ u,s.2[i]? = some u→∀ x∈elt out u,x∈s.2
 root:∀ v∈rs,0≤v→v<N→v∈s.2
theorem kb(N:Nat)(v:Int)(h0:0≤v)(h1:v<N):elt (List.replicate N (-1:Int)) v = -1:=by
 unfold elt;rw [List.getD_eq_getElem?_getD,List.getElem?_replicate,if_pos (by omega)];rfl
structure G0 (N:Nat) (rd:List Int) (s:BS):Prop where
 len:s.1.length=N
 mem:∀ v∈s.2,(0≤v∧v<N)∧elt s.1 v=v∧v∈rd
 iff:∀ v:Int,0≤v→v<N→(0≤elt s.1 v↔v∈s.2)
 nodup:s.2.Nodup
 root:∀ v∈rd,0≤v→v<N→v∈s.2
theorem sX{N:Nat}{rd:List Int}{s:BS}{v:Int}(h:G0 N rd s)(hv:v ∉ rd):G0 N (rd++[v]) (dk N s v):=by
 unfold dk
 split
 · rename_i hvn
   have hvs:v ∉ s.2:=fun hm=>hv (h.mem v hm).2.2
   have he:∀ y,0≤y→elt (s.1.set v.toNat v) y=if v=y then v else elt s.1 y:=fun y hy=>dq hvn.1 (by rw [h.len];exact hvn.2) hy
   refine ⟨by simpa using h.len,fun y hy => ?_,fun y hy0 hy1 => ?_,?_,fun y hy h0 h1 => ?_⟩
   · dsimp only
     rcases List.mem_append.1 hy with hy | hy
     · obtain ⟨h1,h2,h3⟩:=h.mem y hy
       refine ⟨h1,?_,List.mem_append_left _ h3⟩
       rw [he y h1.1];split
       · rename_i e;exact e
       · exact h2
     · rw [List.mem_singleton.1 hy]
       exact ⟨hvn,by rw [he v hvn.1,if_pos rfl],by simp⟩
   · dsimp only
     rw [he y hy0,List.mem_append,List.mem_singleton]
     split
     · rename_i e;exact ⟨fun _=>.inr e.symm,fun _=>hvn.1⟩
     · rename_i e
       rw [h.iff y hy0 hy1]
       exact ⟨.inl,fun h=>h.elim id fun h=>(e h.symm).elim⟩
   · refine List.nodup_append.2 ⟨h.nodup,by simp,fun a ha b hb => ?_⟩
     rw [List.mem_singleton.1 hb];rintro rfl;exact hvs ha
   · rcases List.mem_append.1 hy with hy | hy
     · exact List.mem_append_left _ (h.root y hy h0 h1)
     · exact List.mem_append_right _ hy
 · rename_i hvn
   refine ⟨h.len,fun y hy=>⟨(h.mem y hy).1,(h.mem y hy).2.1,List.mem_append_left _ (h.mem y hy).2.2⟩,h.iff,h.nodup,fun y hy h0 h1 => ?_⟩
   rcases List.mem_append.1 hy with hy | hy
   · exact h.root y hy h0 h1
   · rw [List.mem_singleton.1 hy] at h0 h1;exact (hvn ⟨h0,h1⟩).elim
theorem pC(N:Nat):∀ (l rd:List Int) (s:BS),G0 N rd s→(rd++l).Nodup→G0 N (rd++l) (l.foldl (dk N) s)
 | [],rd,s,h,_=>by simpa using h
 | v::l,rd,s,h,hn=>by
   rw [List.foldl_cons,show rd++v::l=(rd++[v])++l by simp]
   refine pC N l (rd++[v]) _ (sX h fun hm => ?_) (by simpa using hn)
   have:=(List.nodup_append.1 hn).2.2 v hm v List.mem_cons_self
   exact this rfl
theorem yl{N:Nat}{out:List (List Int)}{rs:List Int}(hn:rs.Nodup):G N out rs 0 (cO N rs):=by
 have h:G0 N rs (cO N rs):=by
   have h0:G0 N [] (List.replicate N (-1),[]):=by
     refine ⟨by simp,(fun v hv=>by cases hv),fun v h0 h1 => ?_,by simp,fun v hv=>by cases hv⟩
     dsimp only;rw [kb N v h0 h1];simp
   have:=pC N rs [] _ h0 (by simpa using hn)
   unfold cO;simpa using this
 exact ⟨h.len,fun v hv=>(h.mem v hv).1,h.iff,h.nodup,fun j v hj=>.inl (h.mem v (List.mem_of_getElem? hj)).2,fun i hi=>by omega,h.root⟩
theorem abf{N:Nat}{out:List (List Int)}{rs:List Int}{k:Nat}{s:BS}{u x:Int}(h:G N out rs k s)(hu:s.2[k]? = some u)(hx:x∈elt out u)(hxn:0≤x∧x<N):G N out rs k (visit u s x)∧x∈(visit u s x).2:=by
 unfold visit
 split
 · rename_i h0
   have hxs:x ∉ s.2:=fun hm=>by have:=(h.iff x hxn.1 hxn.2).2 hm;omega
   have hun:=h.mem u (List.mem_of_getElem? hu)
   have he:∀ y,0≤y→elt (s.1.set x.toNat u) y=if x=y then u else elt s.1 y:=fun y hy=>dq hxn.1 (by rw [h.len];exact hxn.2) hy
   have hkl:=(List.getElem?_eq_some_iff.1 hu).1
   have hget:∀ (i:Nat),i<s.2.length→(s.2++[x])[i]? = s.2[i]? := fun i hi=>List.getElem?_append_left hi
   refine ⟨⟨by simpa using h.len,fun y hy => ?_,fun y hy0 hy1 => ?_,?_,fun j v hj => ?_,fun i hi w hw y hy => ?_,fun y hy h1 h2=>List.mem_append_left _ (h.root y hy h1 h2)⟩,by simp⟩
   · rcases List.mem_append.1 hy with hy | hy
     · exact h.mem y hy
     · rw [List.mem_singleton.1 hy];exact hxn
   · dsimp only
     rw [he y hy0,List.mem_append,List.mem_singleton]
     split
     · rename_i e;exact ⟨fun _=>.inr e.symm,fun _=>hun.1⟩
     · rename_i e
       rw [h.iff y hy0 hy1]
       exact ⟨.inl,fun h=>h.elim id fun h=>(e h.symm).elim⟩
   · refine List.nodup_append.2 ⟨h.nodup,by simp,fun a ha b hb => ?_⟩
     rw [List.mem_singleton.1 hb];rintro rfl;exact hxs ha
   · dsimp only at hj ⊢
     by_cases hjl:j<s.2.length
     · rw [hget j hjl] at hj
       have hvm:=List.mem_of_getElem? hj
       have hvx:x≠v:=fun e=>hxs (e ▸ hvm)
       rw [he v (h.mem v hvm).1,if_neg hvx]
       rcases h.par j v hj with h1 | ⟨i,w,h1,h2,h3,h4,h5,h6⟩
       · exact .inl h1
       · refine .inr ⟨i,w,h1,h2,by rw [hget i (by omega)];exact h3,h4,h5,fun i' hi' u' hu'=>h6 i' hi' u' ?_⟩
         rwa [hget i' (by omega)] at hu'
     · have hjx:v=x:=by
         have hjl2:=(List.getElem?_eq_some_iff.1 hj).1
         rw [List.length_append,List.length_singleton] at hjl2
         rw [List.getElem?_append_right (by omega),show j-s.2.length=0 by omega] at hj
         simpa using hj.symm
       subst hjx
       refine .inr ⟨k,u,by omega,Nat.le_refl _,by rw [hget k hkl];exact hu,by rw [he v hxn.1,if_pos rfl],hx,fun i' hi' u' hu' hm=>hxs (h.clo i' hi' u' ?_ v hm)⟩
       rwa [hget i' (by omega)] at hu'
   · dsimp only at hw ⊢
     rw [hget i (by omega)] at hw
     exact List.mem_append_left _ (h.clo i hi w hw y hy)
 · rename_i h0
   exact ⟨h,(h.iff x hxn.1 hxn.2).1 (by omega)⟩
theorem te{N:Nat}{out:List (List Int)}{rs:List Int}{k:Nat}{u:Int} : ∀ (l:List Int) (s:BS),G N out rs k s→s.2[k]? = some u→(∀ x∈l,x∈elt out u∧0≤x∧x<N)→G N out rs k (l.foldl (visit u) s)∧∀ x∈l,x∈(l.foldl (visit u) s).2
 | [],s,h,_,_=>⟨h,fun _ h=>by cases h⟩
 | x::l,s,h,hu,hl=>by
   obtain ⟨h1,h2⟩:=abf h hu (hl x List.mem_cons_self).1 (hl x List.mem_cons_self).2
   obtain ⟨h3,h4⟩:=te l (visit u s x) h1 (rh qj hu) (fun y hy=>hl y (List.mem_cons_of_mem _ hy))
   refine ⟨h3,fun y hy => ?_⟩
   rcases List.mem_cons.1 hy with rfl | hy
   · exact (gZ l (visit u s y)).subset h2
   · exact h4 y hy
theorem abk{N:Nat}{out:List (List Int)}{rs:List Int}(hn:rs.Nodup)(ho:jn N out):∀ k,G N out rs k (bfs out (cO N rs) k)
 | 0=>yl hn
 | k + 1 => by
   have ih:=abk hn ho k
   unfold bfs mO
   split
   · rename_i hnone
     refine ⟨ih.len,ih.mem,ih.iff,ih.nodup,fun j v hj => ?_,fun i hi u hu x hx => ?_,ih.root⟩
     · exact (ih.par j v hj).imp id fun ⟨i,u,h1,h2,h⟩=>⟨i,u,h1,by omega,h⟩
     · by_cases hik:i=k
       · subst hik;rw [hnone] at hu;cases hu
       · exact ih.clo i (by omega) u hu x hx
   · rename_i u hu
     obtain ⟨h1,h2⟩:=te (elt out u) _ ih hu (fun x hx=>⟨hx,ho u x hx⟩)
     refine ⟨h1.len,h1.mem,h1.iff,h1.nodup,fun j v hj => ?_,fun i hi w hw x hx => ?_,h1.root⟩
     · exact (h1.par j v hj).imp id fun ⟨i,u,h1,h2,h⟩=>⟨i,u,h1,by omega,h⟩
     · by_cases hik:i=k
       · subst hik
         have:=rh (gZ (u:=u) (elt out u) _) hu
         rw [this] at hw
         simp only [Option.some.injEq] at hw
         subst hw
         exact h2 x hx
       · exact h1.clo i (by omega) w hw x hx
inductive Rch (N:Nat) (out:List (List Int)) (rs:List Int):Int→Prop where
 | root {v:Int} : v∈rs→0≤v→v<N→Rch N out rs v
 | arc {u v:Int} : Rch N out rs u→v∈elt out u→Rch N out rs v
def th(N:Nat)(out:List (List Int))(rs:List Int):List Int:=(bfs out (cO N rs) (rs.length+N)).2
section
variable {N:Nat} {out:List (List Int)} {rs:List Int}
theorem tk(ho:jn N out):(th N out rs).length≤rs.length+N:=(mL ho (iU N rs) _).le
theorem qY(hn:rs.Nodup)(ho:jn N out):G N out rs (rs.length+N) (gY N out rs,th N out rs):=abk hn ho _
theorem zk(hn:rs.Nodup)(ho:jn N out)(v:Int):v∈th N out rs↔Rch N out rs v:=by
 have hG:=qY (rs:=rs) hn ho
 have hl:=tk (rs:=rs) ho
 constructor
 · have:∀ (j:Nat) (v:Int),(th N out rs)[j]? = some v→Rch N out rs v:=by
     intro j
     induction j using Nat.strongRecOn with
     | _ j ih =>
       intro v hj
       have hvn:=hG.mem v (List.mem_of_getElem? hj)
       rcases hG.par j v hj with ⟨_,h1⟩ | ⟨i,u,h1,_,h3,_,h5,_⟩
       · exact .root h1 hvn.1 hvn.2
       · exact .arc (ih i h1 u h3) h5
   intro hv
   obtain ⟨j,hj⟩:=List.mem_iff_getElem?.1 hv
   exact this j v hj
 · intro h
   induction h with
   | root h h0 h1=>exact hG.root _ h h0 h1
   | arc _ h ih =>
     obtain ⟨i,hi⟩:=List.mem_iff_getElem?.1 ih
     have:=(List.getElem?_eq_some_iff.1 hi).1
     exact hG.clo i (by omega) _ hi _ h
theorem uV(ho:jn N out):(gY N out rs).length=N:=(mL ho (iU N rs) _).len
theorem pj(hn:rs.Nodup)(ho:jn N out){v:Int}(h0:0≤v)(h1:v<N):0≤elt (gY N out rs) v↔Rch N out rs v:=by
 rw [← zk hn ho];exact (qY hn ho).iff v h0 h1
theorem abV(ho:jn N out){v:Int}(h:Rch N out rs v):0≤v∧v<N:=by
 cases h with
 | root _ h0 h1=>exact ⟨h0,h1⟩
 | arc _ h=>exact ho _ _ h
def zM(w:List Int)(v:Int):Nat:=w.idxOf v
theorem sT{w:List Int}(hn:w.Nodup){j:Nat}{v:Int}(h:w[j]? = some v):zM w v=j:=by
 obtain ⟨hj,rfl⟩:=List.getElem?_eq_some_iff.1 h
 exact hn.idxOf_getElem j hj
end
end Go.Lv

namespace Go.Proofs.YtgkbbdgklpabpaaGreatDoor
open Go.RowKit Go.Lp Go.Sy Go.Lv
theorem sW{N:Nat}{l:List cj}(hN:N≤100000)(hr:∀ a∈l,fZ N a):uR (N:Int) l=true:=by
 unfold uR
 have h:l.any (jv (N:Int))=false:=by
   rw [List.any_eq_false]
   intro a ha
   have:=hr a ha
   unfold fZ at this
   obtain ⟨⟨h1,h2⟩,h3,h4⟩:=this
   simp [jv,vB,h1,h2,h3,h4]
 rw [h]
 simp;omega
theorem iP(zs:List Int):(cr zs).Nodup:=(oK zs).1.imp fun h=>by omega
abbrev lg(N:Nat)(l:List cj)(rs:List Int):List Int:=gY N (ck N l) (cr rs)
abbrev ny(N:Nat)(l:List cj)(rs:List Int):List Int:=th N (ck N l) (cr rs)
theorem uB{N:Nat}{l:List cj}(hr:∀ a∈l,fZ N a)(rs:List Int):Tree (lg N l rs) (zM (ny N l rs)):=⟨fun v hv hne=>by
 have hG:=qY (rs:=cr rs) (iP rs) (lW hr)
 have hlen:=hG.len
 have hvm:=(hG.iff v hv.1 (by have:=hv.2.1;rw [← hlen];exact this)).1 hv.2.2
 obtain ⟨j,hj⟩:=List.mem_iff_getElem?.1 hvm
 rcases hG.par j v hj with ⟨h,_⟩ | ⟨i,u,h1,_,h3,h4,_⟩
 · exact (hne h).elim
 · have h4':elt (lg N l rs) v=u:=h4
   have hum:=List.mem_of_getElem? h3
   have hun:=hG.mem u hum
   rw [h4',sT hG.nodup h3,sT hG.nodup hj]
   exact ⟨⟨hun.1,by rw [show (lg N l rs).length=N from hlen];exact hun.2,(hG.iff u hun.1 hun.2).2 hum⟩,h1⟩⟩
theorem aaW(w:List Int)(v:Int):zM w v≤w.length:=List.idxOf_le_length
open Go.Proofs.Tryz
theorem rY(N:Nat)(hN:N≤1000000)(l:Sl cj)(hl:l.l.length≤100000000)(hr:∀ a∈l.l,fZ N a)(rs:Sl Int)(hrs:rs.l.length≤1000000){b:List Int}(hb:lg N l.l rs.l=b) :
   Con Tryz.prog 131 [.int .i64 N,l.val,rs.val] [ShF cj.row l,ShF (fun z=>[.v (encI z)]) rs] [] fun r ps hp=>ps=[]∧hp=[aP r 3 1 (bF encI b)]:=by
 subst hb;exact tZ N hN l hl hr rs hrs
end Go.Proofs.YtgkbbdgklpabpaaGreatDoor

namespace Go.Proofs.YtgkbbdgklpabpaaGreatDoor
open Go.RowKit Go.Lp Go.Sy
abbrev slR{α:Type} : Sl α→List D:=fun s=>[.v (.slice s.ad s.l.length s.cap)]
end Go.Proofs.YtgkbbdgklpabpaaGreatDoor

namespace Go.Sy
open Go.RowKit Go.Lp
def ko(P:Program)(t:TypeId)(name:String):Option (FuncId × Bool) :=
 match P.info? t with
 | some i=>match i.methods.find? (·.name == name) with
   | some m=>if m.path.toList=[] then m.func else none
   | none=>none
 | none=>none
section
variable {P:Program} {w:World}
theorem oy{t e f:Nat}{p:Bool}{v u:Value}{name:String}(h:ko P t name=some (f,p))(hr:∀ x,(receiverAt t (.val v) p x).run P w=.ok u w)(k:Nat):(method (k+1) t v name).run P w=.ok (f,u) w:=by
 unfold ko at h
 split at h
 · rename_i i hi
   split at h
   · rename_i m hm
     split at h
     · rename_i hp
       unfold method
       simp only [Sem.run_bind,run_typeInfo w hi,Result.andThen,hm,hp,follow,h]
       simp only [pure,Sem.run,Result.andThen]
       rw [hr]
     · cases h
   · cases h
 · cases h
theorem xC{t e:Nat}{v:Value}{x:Option String}(hu:P.underlying t=some (.pointer e)):(receiverAt t (.val v) true x).run P w=.ok v w:=by
 unfold receiverAt
 simp only [Sem.run_bind,run_underlying hu,Result.andThen]
 rfl
theorem xD{t e b o:Nat}{v u:Value}{x:Option String}(hu:P.underlying t=some (.pointer e))(hv:v=.pointer (some ⟨b,o,none⟩))(hl:(loadVar e ⟨b,o,none⟩).run P w=.ok u w):(receiverAt t (.val v) false x).run P w=.ok u w:=by
 subst hv
 unfold receiverAt
 simp only [Sem.run_bind,run_underlying hu,Result.andThen]
 cases x with
 | none=>exact hl
 | some y=>exact hl
theorem sm{f:FuncId}(hf:aX P f=true){l:List Operand}{ts:Array TypeId}{r:Operand}{name:String}{t:TypeId}{v u:Value}{ρ:Operand→Value}{d:Option Tmp}{ty:TypeId}{pos:String}{af:Array Edge}{gd:Option (Nat × Bool)}(hr:ρ r=.iface t v){vs:List Value}(hv:l.map ρ=vs)
   (hm:∀ k,(method (k+1) t v name).run P w=.ok (f,u) w) :
   (execOp ρ ⟨d,.call ⟨.invoke r name,l.toArray,ts⟩,ty,pos,af,gd⟩).run P w=.ok (.enter f (u::vs).toArray) w:=by
 unfold execOp
 dsimp only
 show ((resolve ρ ⟨.invoke r name,l.toArray,ts⟩ ty).bind fun x=>invoke x.target x.args).run P w=_
 have:resolve ρ ⟨.invoke r name,l.toArray,ts⟩ ty=Sem.pure { target:=.fn (.method name) #[],args := #[.iface t v]++vs.toArray } := by
   unfold resolve
   dsimp only
   rw [hr,List.map_toArray,hv]
   rfl
 rw [this]
 show (invoke (.fn (.method name) #[]) (#[.iface t v]++vs.toArray)).run P w=_
 have e0:(#[Value.iface t v]++vs.toArray)[0]? = some (.iface t v):=by simp
 unfold invoke
 dsimp only
 rw [e0]
 show (callMethod (.iface t v) name ((#[Value.iface t v]++vs.toArray).extract 1 (#[Value.iface t v]++vs.toArray).size)).run P w=_
 unfold callMethod
 simp only [Sem.run_bind,program,Sem.run,Result.andThen]
 have h1:=hm (P.types.size+99)
 rw [show P.types.size+99+1=P.types.size+Made.depth from rfl] at h1
 rw [h1]
 show (callFunc f _).run P w=_
 rw [show (#[u]++(#[Value.iface t v]++vs.toArray).extract 1 (#[Value.iface t v]++vs.toArray).size)=(u::vs).toArray by simp]
 exact fK hf _ w
end
section
variable {P:Program} {n:Fr} {K:Sta→Prop} {env:Env} {ps:List Per} {hp:List Res} {s:Sta} {d:Option Tmp} {ty:TypeId} {pos:String} {af:Array Edge} {gd:Option (Nat × Bool)} {v:Value}
theorem jc{x:Operand}{T:TypeId}(hT:(match P.underlying T with | some (.interface _)=>false | some _=>true | none=>false)=true)(hx:ev s.env x=some (true,v)):Quiet P n ⟨d,.makeInterface T x,ty,pos,af,gd⟩ s (.iface T v):=fun w S fp a hst he hn=>by
 have h1:=he.val hx rfl
 have:(execOp a.eval ⟨d,.makeInterface T x,ty,pos,af,gd⟩).run P w=.ok (.value (.iface T v)) w:=by
   unfold execOp;dsimp only;rw [h1]
   show ((Instr.makeInterface T v).bind fun r=>Sem.pure (Next.value r)).run P w=_
   rw [Sem.run_bind']
   cases hu:P.underlying T with
   | none=>rw [hu] at hT;cases hT
   | some u =>
     rw [hu] at hT
     unfold Instr.makeInterface
     simp only [Sem.run_bind,run_underlying hu,Result.andThen]
     cases u<;>first | rfl | cases hT
 rw [this];exact bE _ _
theorem sO{x:Operand}{X T:TypeId}(hT:(match P.underlying T with | some (.interface _)=>false | some _=>true | none=>false)=true)(hx:ev s.env x=some (true,.iface T v)):Quiet P n ⟨d,.typeAssert x X T false,ty,pos,af,gd⟩ s v:=fun w S fp a hst he hn=>by
 have h1:=he.val hx rfl
 have:(execOp a.eval ⟨d,.typeAssert x X T false,ty,pos,af,gd⟩).run P w=.ok (.value v) w:=by
   unfold execOp;dsimp only;rw [h1]
   show ((Instr.typeAssert (.iface T v) X T false).bind fun r=>Sem.pure (Next.value r)).run P w=_
   rw [Sem.run_bind']
   cases hu:P.underlying T with
   | none=>rw [hu] at hT;cases hT
   | some u =>
     rw [hu] at hT
     unfold Instr.typeAssert
     simp only [Sem.run_bind,run_underlying hu,Result.andThen]
     cases u<;>first | (simp only [if_true];rfl) | cases hT
 rw [this];exact bE _ _
theorem ff{t:Nat}{f:FuncId}{g:Operand}{T:TypeId}{u:Value}{name:String}{l:List Operand}{ts:Array TypeId}{vs:List Value}{q:Bool}{R:Value→List Per→List Res→Prop}(lp lh:List Nat)(hf:aX P f=true)(hgv:ev env g=some (true,.iface T v))(hm:∀ w S fp,St w S fp ps hp→∀ k,(method (k+1) T v name).run P w=.ok (f,u) w)(hx:evs env l=some vs)(ht:fits n (some t)=true)(ok:okH hp lh=true)
   (hq:(!q || lh.isEmpty)=true) (hc:Con P f (u::vs) (el ps lp) (bT hp lh) R) (hK:∀ v ps' hp',R v ps' hp'→K ⟨(t,true,v)::env,ps'++ps,fD lh hp' 0 hp⟩) :
   Eff P n ⟨some t,.call ⟨.invoke g name,l.toArray,ts⟩,ty,pos,af,gd⟩ ⟨env,ps,hp⟩ q K:=fun w S fp a hst he hn=>by
 rw [sm hf (he.val hgv rfl) (eM he l vs hx) (hm w S fp hst)]
 obtain ⟨k1,k2⟩:=hst.bT lp lh ok
 have hcc:=hc w S _ k1
 refine hcc.mono fun e w' ⟨v,ps',hp',S',fp',he',hR,hst',hE,hg⟩=>⟨v,he',?_⟩
 obtain ⟨m1,m2⟩:=hst.back lp lh ok hst' hE hg
 refine ⟨_,S',_,hK v ps' hp' hR,m1,?_,hE.wider k2,m2,fun hq' => ?_⟩
 · exact he.put (g:=true) (by rw [hn];simpa [fits] using ht) v
 · rw [hq'] at hq
   have:lh=[]:=by simpa using hq
   subst this
   exact hE.toX (fun b hb=>mE _ b hb)
theorem acu{T e:TypeId}{f:FuncId}{name:String}(hk:ko P T name=some (f,true))(hu:P.underlying T=some (.pointer e)):∀ w S fp,St w S fp ps hp→∀ k,(method (k+1) T v name).run P w=.ok (f,v) w :=
 fun _ _ _ _ k=>oy (e:=0) hk (fun _=>xC hu) k
theorem qZ{T e U:TypeId}{f:FuncId}{name:String}{b o kk:Nat}{ag:Bool}{cs:List Value}{u:Value}(i:Nat)(hk:ko P T name=some (f,false))(hu:P.underlying T=some (.pointer e))(htk:tyk P e=some (ag,kk))(hi:hp[i]? = some (Box b U cs))(hv:rdC ag kk cs o=some u) :
   ∀ w S fp,St w S fp ps hp→∀ k,(method (k+1) T (.pointer (some ⟨b,o,none⟩)) name).run P w=.ok (f,u) w:=fun w S fp hst k=>by
 refine oy (e:=0) hk (fun _=>xD hu rfl ?_) k
 have hb:=(hst.res i _ hi).1
 have:=mC (w:=w) htk hv (b:=b) (p:=0) (fun j u hu=>by rw [Nat.zero_add,dL hb];exact hu)
 rwa [Nat.zero_add] at this
end
end Go.Sy

namespace Go.Proofs.YtgkbbdgklpabpaaGreatDoor
open Go.RowKit Go.Lp Go.Sy Go.Lv
open Go.Proofs.Tryz
attribute [local irreducible] aL aB awp aC fwp Quiet
abbrev eR:List Int→List (List D):=fun l=>l.map bd
abbrev wY(bf bc:Nat)(nx iv lv sv pv qv:Value)(s:TS)(P:List (Sl Int)):List Res :=
 [Box bf 271 [nx,iv,lv,sv,pv,qv],aP iv 3 1 (eR s.idx),aP lv 3 1 (eR s.low),aP sv 3 1 (eR s.stk),aP pv 3 1 (eR s.part),aP qv 33 1 (P.map slR),Box bc 3 [.int .i64 s.cnt]]
theorem pE(bf bc b5 b3:Nat)(nx iv lv sv pv qv:Value)(s:TS)(P:List (Sl Int))(w:Nat)(hi:w<s.idx.length)(hl:w<s.low.length)(hc:0≤s.cnt∧s.cnt≤1000000)(hs:s.stk.length≤1000000) :
   Con Tryz.prog 232 [.int .i64 w,.pointer (some ⟨b5,0,none⟩),.pointer (some ⟨b3,0,none⟩)] [At b5 0 [.v (.pointer (some ⟨bc,0,none⟩))],At b3 0 [.v (.pointer (some ⟨bf,0,none⟩))]] (wY bf bc nx iv lv sv pv qv s P)
     fun r ps hp=>r=.agg #[.int .i64 w,.int .i64 0]∧ps=[]∧∃ sv':Value,hp=wY bf bc nx iv lv sv' pv qv (cg s w) P:=by
 obtain ⟨io,hio⟩:∃ z,s.idx[w]? = some z:=⟨_,List.getElem?_eq_getElem hi⟩
 obtain ⟨lo,hlo⟩:∃ z,s.low[w]? = some z:=⟨_,List.getElem?_eq_getElem hl⟩
 refine EN3 Tryz.func232 rfl (aSR (LT rfl (aW (zs:=[.int .i64 0,.int .i64 0]) (by kernel_rfl) rfl (fun b0_0=>(aHN ?_)))))
 refine go 3 [1,0,18,0,0,18] ?_
 refine DR [17,19] 20 (go 0 [8,0,2,0,0,8,0,4,0,3,0,2,0,36,2,0,36] ?_)
 refine bV 16 rfl rfl (bK 1 w el33 rfl rfl rfl rfl (by rw [List.length_map];exact hi)) ?_
 refine VE 17 rfl rfl (cY 1 w 0 tk3 rfl rfl rfl (ak hio) rfl (.v rfl .nil) rfl (by decide) (bST rfl ?_))
 refine bV 18 rfl rfl (bK 2 w el33 rfl rfl rfl rfl (by rw [List.length_map];exact hl)) ?_
 refine VE 19 rfl rfl (cY 2 w 0 tk3 rfl rfl rfl (ak hlo) rfl (.v rfl .nil) rfl (by decide) (bST rfl ?_))
 refine BN (an (aq (DC [7,10] [10] [bf] 11 (go 0 [8,8,0,6] ?_))))
 refine jr 4 0 rfl (by kernel_rfl) true rfl rfl (by simp) tk33 (fun _=>rfl) rfl rfl ?_
 refine CF 5 rfl rfl rfl (bo rfl) ?_
 refine ed 6 [] (by kernel_rfl) (cZ ?_ dK)
 refine fb 6 rfl rfl (Eff.x (id (WL (zs:=[.int .i64 0]) el33 rfl rfl rfl (.more rfl (.v rfl .nil) .nil) rfl rfl (fun v3_6=>(CST ?_)))))
 refine ed 7 [] (by kernel_rfl) (cZ ?_ dK)
 refine fb 7 rfl rfl (Eff.framed (q:=false) [3,8] rfl rfl (vQ 0 rfl rfl abi) ?_)
 refine id (bH 0 el33 rfl rfl rfl rfl (cP 1 el33 rfl (by simp)) (by first | assumption | simp) (by show (eR s.stk).length+1≤_;rw [List.length_map];exact Nat.le_trans (show s.stk.length+1≤1000001 by omega) (by decide)) (s.stk.length+1) (by simp) (fun v3_7 c3_7 => ?_))
 refine vr (CST ?_)
 refine go 0 [0,6] ?_
 refine ed 10 [] (by kernel_rfl) (cZ ?_ dK)
 refine fb 10 rfl rfl (Eff.wild (q:=false) (id (bX 0 tk33 rfl rfl rfl rfl (CST ?_))))
 refine kI (by kernel_rfl) (go 0 [0] ?_)
 refine aU rfl (bP (l:=[(0,.tmp 38)]) (zs:=[.int .i64 0,.int .i64 0]) (pl:=[(0,1),(1,1)]) (by kernel_rfl) (by kernel_rfl) (by kernel_rfl) rfl rfl rfl) (go 2 [4629] ?_)
 refine ae ?_
 refine sr [] [0,1,2,3,4,5,6] rfl Tryz.results232 (ef 7 tk289 rfl rfl rfl) ?_ (.inr rfl)
 refine ⟨rfl,rfl,.slice v3_7 (s.stk.length+1) c3_7,?_⟩
 show _=[_,aP iv _ 1 ((s.idx.set (w:Int).toNat (s.cnt+1)).map bd),aP lv _ 1 ((s.low.set (w:Int).toNat (s.cnt+1)).map bd),aP _ _ 1 ((s.stk++[(w:Int)]).map bd),_,_,Box bc _ [.int .i64 (s.cnt+1)]]
 rw [Int.toNat_natCast,List.map_set,List.map_set,List.map_append]
 rfl
end Go.Proofs.YtgkbbdgklpabpaaGreatDoor

namespace Go.Sy
open Go.RowKit Go.Lp
theorem zS{w:World}{S:ba}{b o n c sz:Nat}{rows:List (List D)}(h:dT w S (.slice (some ⟨b,o,none⟩) n c) (.sl rows))(l:Nat)(hsz:∀ r∈rows,r.length=sz)(hl:l<rows.length) :
   dT w S (.slice (some ⟨b,o+l*sz,none⟩) (rows.drop l).length (c-l)) (.sl (rows.drop l)):=by
 cases h with
 | e a c hc=>simp at hl
 | sl b o c sz2 rows us hb hn hc hr hcell hd =>
   have h0:rows[0]? = some (rows[0]'(by omega)):=List.getElem?_eq_getElem (by omega)
   obtain rfl:sz2=sz:=by rw [← hr 0 _ h0,hsz _ (List.getElem_mem _)]
   have key:∀ (i:Nat) (r:List D),(rows.drop l)[i]? = some r→rows[l+i]? = some r:=fun i r h=>by
     rw [List.getElem?_drop] at h;exact h
   refine .sl b (o+l*sz2) (c-l) sz2 _ (fun i j=>us (l+i) j) hb (by simp;omega) (by omega) (fun i r hi=>hr _ r (key i r hi)) (fun i j r d hi hj => ?_) (fun i j r d hi hj=>hd _ j r d (key i r hi) hj)
   rw [show o+l*sz2+i*sz2+j=o+(l+i)*sz2+j by rw [Nat.add_mul];omega]
   exact hcell _ j r d (key i r hi) hj
theorem zx{w:World}{S F:ba}{E:TypeId}{sz B m cap k:Nat}{rows:List (List D)}(h:(aP (.slice (some ⟨B,0,none⟩) m cap) E sz rows).holds w S F)(hsz:∀ r∈rows,r.length=sz)(hk:k<rows.length) :
   dT w (fun b=>S b∨F b) (.slice (some ⟨B,k*sz,none⟩) (rows.drop k).length (cap-k)) (.sl (rows.drop k)):=by
 have:=zS (db h) k hsz hk
 rwa [Nat.zero_add] at this
theorem Con.keepF{P:Program}{f:FuncId}{args:List Value}{ps:List Per}{hp:List Res}{R:Value→List Per→List Res→Prop}(h:Con P f args ps hp R):Con P f args ps hp (fun v ps' hp'=>∃ ps0,ps'=ps0++ps∧R v ps0 hp'):=fun w S fp hst =>
 (h w S fp hst).mono fun e w' ⟨v,ps',hp',S',fp',he,hr,hst',hE,hb⟩=>⟨v,ps'++ps,hp',S',fp',he,⟨ps',rfl,hr⟩,⟨fun p hp=>(List.mem_append.1 hp).elim (hst'.per p) fun hp=>p.mono (hst.per p hp) (fun b hbS=>hE.block b (hst.slt b hbS) fun ⟨i,hi,hbi⟩=>(hst.lt i hi b hbi).2 hbS) hE.more,hst'.res,hst'.lt,hst'.dj,hst'.slt⟩,hE,hb⟩
end Go.Sy

namespace Go.Proofs.YtgkbbdgklpabpaaGreatDoor
open Go.RowKit Go.Lp Go.Sy Go.Lv
open Go.Proofs.Tryz
attribute [local irreducible] aL aB awp aC fwp Quiet
theorem abB(l:List Int):∀ r∈eR l,r.length=1:=fun r hr=>by obtain ⟨z,_,rfl⟩:=List.mem_map.1 hr;rfl
theorem tD(B0 cp:Nat)(A D:List Int)(hD:D≠[])(hl:D.length≤1000000) :
   Con Tryz.prog 202 [.slice (some ⟨B0,A.length*1,none⟩) D.length (cp-A.length)] [] [aP (.slice (some ⟨B0,0,none⟩) (A++D).length cp) 3 1 (eR (A++D))]
     fun r ps hp=>ps=[]∧hp=[aP (.slice (some ⟨B0,0,none⟩) (A++D).length cp) 3 1 (eR (A++D)),aP r 3 1 (eR D)]:=by
 refine (Con.borrowL (mS (ad:=some ⟨B0,A.length*1,none⟩) (c:=cp-A.length) D hl) [aP (.slice (some ⟨B0,0,none⟩) (A++D).length cp) 3 1 (eR (A++D))] (fun w S fp h => ?_) fun v ps' hp' ⟨_,e⟩ r hr => ?_).post fun v ps' hp' ⟨h1,ps2,hp2,⟨_,h3⟩,h5⟩=>⟨h1,by rw [h5,h3];rfl⟩
 · have h0:=zx (k:=A.length) (h 0 _ rfl) (abB _) (by rw [List.length_map,List.length_append];have:=List.length_pos_iff.2 hD;omega)
   have e:(eR (A++D)).drop A.length=eR D:=by rw [← List.map_drop,List.drop_left]
   rw [e,List.length_map] at h0
   exact h0.mono (fun _ _=>rfl) fun b hb=>hb.imp id fun hf=>⟨0,by simp,hf⟩
 · rw [e] at hr;rw [List.mem_singleton.1 hr]
   exact xa fun r hr d hd=>by
     obtain ⟨z,_,rfl⟩:=List.mem_map.1 hr
     rw [List.mem_singleton.1 hd];exact ⟨_,rfl⟩
theorem ta{part p:List Int}{u:Int}{k:Nat}{w:Int}(h:p[k]? = some w):b8 part u (p.take (k+1))=(b8 part u (p.take k)).set w.toNat u:=by
 unfold b8;rw [List.take_add_one,h,List.foldl_append];rfl
theorem wj(bf:Nat)(nx iv lv sv pv qv:Value)(A B part:List Int)(v:Int)(P:List (Sl Int))(hv:v ∉ B)(hlen:(A++v::B).length≤1000000)(hpr:∀ x∈v::B,0≤x∧x<part.length)(hP:P.length≤1000000) :
   Con Tryz.prog 233 [.pointer (some ⟨bf,0,none⟩),.int .i64 v] [] [Box bf 271 [nx,iv,lv,sv,pv,qv],aP sv 3 1 (eR (A++v::B)),aP pv 3 1 (eR part),aP qv 33 1 (P.map slR)]
     fun _ ps hp=>∃ (pl:Sl Int) (sv' qv':Value),pl.l.Perm (v::B)∧ps=[ShF bd pl]∧hp=[Box bf 271 [nx,iv,lv,sv',pv,qv'],aP sv' 3 1 (eR A),aP pv 3 1 (eR (b8 part ((P.length:Int)+1) pl.l)),aP qv' 33 1 ((P++[pl]).map slR)]:=by
 obtain ⟨S,hS⟩:∃ S,S=A++v::B:=⟨_,rfl⟩
 rw [← hS] at hlen ⊢
 have hSl:S.length=A.length+(B.length+1):=by rw [hS];simp
 have hSA:S[A.length]? = some v:=by rw [hS];simp
 have hSB:∀ i z,A.length<i→S[i]? = some z→z≠v:=fun i z hi hz e=>by
   rw [hS,List.getElem?_append_right (by omega)] at hz
   obtain ⟨k,hk⟩:∃ k,i-A.length=k+1:=⟨i-A.length-1,by omega⟩
   rw [hk,List.getElem?_cons_succ] at hz
   exact hv (e ▸ List.mem_of_getElem? hz)
 have hE:(eR S).length=S.length:=List.length_map _
 refine EN2 Tryz.func233 rfl (go 0 [0,0,3,0] ?_)
 refine aU rfl (dQ 1 Tryz.underlying33 rfl rfl) (go 4 [0,0] ?_)
 refine aF [0,1,4] [] [0,1,2,3] (fun (i:Nat) st=>(A.length≤i∧i<S.length)∧st=⟨[(0,true,.pointer (some ⟨bf,0,none⟩)),(1,true,.int .i64 v),(4,true,.int .i64 i)],[],[Box bf 271 [nx,iv,lv,sv,pv,qv],aP sv 3 1 (eR S),aP pv 3 1 (eR part),aP qv 33 1 (P.map slR)]⟩) (fun i=>i) rfl (⟨S.length-1,⟨by omega,by omega⟩,by rw [show ((S.length-1:Nat):Int)=(S.length:Int)-1 by omega,List.length_map];rfl⟩) ?_
 rintro i st ⟨⟨hiA,hiS⟩,rfl⟩
 obtain ⟨z,hz⟩:∃ z,S[i]? = some z:=⟨_,List.getElem?_eq_getElem hiS⟩
 refine go 0 [0,0,3,0,0] ?_
 refine aU rfl (bK 1 i el33 rfl rfl rfl rfl (by rw [List.length_map];exact hiS)) ?_
 refine aU rfl (bl 1 i 0 tk3 rfl rfl (ak hz) rfl rfl) (go 2 [0,0] ?_)
 refine aa _ rfl (fun h1 => ?_) (fun h1 => ?_)
 ·skip
  have hzv:z≠v:=by simpa using h1
  have hlt:A.length<i:=by
    rcases Nat.lt_or_ge A.length i with h | h
    · exact h
    · obtain rfl:i=A.length:=by omega
      rw [hSA] at hz;exact absurd (Option.some.inj hz).symm hzv
  refine go 2 [0,0,0] ?_
  refine an ?_
  refine ⟨[0,1,4],[],[0,1,2,3],rfl,?_⟩
  exact ⟨i-1,⟨⟨by omega,by omega⟩,by rw [show ((i-1:Nat):Int)=(i:Int)-1 by omega];rfl⟩,by omega⟩
 ·skip
  have hzv:z=v:=by simpa using h1
  obtain rfl:i=A.length:=by
    rcases Nat.lt_or_ge A.length i with h | h
    · exact absurd hzv (hSB i z h hz)
    · omega
  refine aY (bb (bb (bg (an (aq ?_)))))
  refine iS 1 rfl (fun h0=>by have:=congrArg List.length h0;rw [hE,List.length_nil] at this;omega) (fun B0 cp hv0 hcp => ?_)
  rw [hE] at hv0 hcp
  subst hv0
  refine go 0 [0,0,3,0,0] ?_
  refine aU rfl (p5 A.length (v::B).length (A.length*1) el33 rfl rfl rfl (by omega) hcp (by rw [hSl,List.length_cons];omega) (by omega)) ?_
  refine LF rfl (EC [] [1] rfl ((by rw [hS];exact tD B0 cp A (v::B) (by simp) (by rw [hSl] at hlen;simp;omega))) ?_)
  rintro r3_6 _ _ ⟨rfl,rfl⟩
  refine aST ?_
  refine go 0 [0,0,0,0,3,0,0] ?_
  refine aU rfl (gB A.length el33 rfl rfl rfl (by omega) hcp) (go 3 [0,3,0] ?_)
  refine jU 1 (aP (.slice (some ⟨B0,0,none⟩) A.length cp) 3 1 (eR A)) rfl (fun w S F h=>by have:=pZ (k:=A.length) (by rw [List.length_map,List.length_append];omega) h;rwa [show (eR (A++v::B)).take A.length=eR A by rw [← List.map_take,List.take_left]] at this) ?_
  refine az (aM rfl ?_)
  refine LF rfl (EC [] [4] rfl (k7 (v::B) (by rw [hSl] at hlen;simp;omega)) ?_)
  rintro _ _ _ ⟨rfl,rfl⟩
  refine aST ?_
  refine aNs ?_
  have hsp:(eB (v::B)).Perm (v::B):=List.mergeSort_perm _ _
  generalize eB (v::B)=p at hsp
  have hpl:=hsp.length_eq
  rw [List.length_cons] at hpl
  refine lJ 4 rfl (fun ad cpp hv4 => ?_)
  rw [show (bF encI p).length=p.length by simp [bF]] at hv4
  subst hv4
  refine cK 4 (ShF bd ⟨ad,cpp,p⟩) rfl (fun _ _ _ h=>db h) ?_
  show awp _ _ _ _ ⟨_,[ShF bd _],[_,_,_,_,emp]⟩
  refine go 0 [0,0,0,5,0,0] ?_
  refine LT rfl (WL (zs:=[.slice none 0 0]) el201 rfl rfl rfl (.more rfl (.v rfl .nil) .nil) rfl rfl (fun v6_6=>(aHN ?_)))
  refine aT rfl (bH 3 el201 rfl rfl rfl rfl (cP 5 el201 rfl (by simp)) (by first | assumption | simp) (by show (P.map slR).length+1≤_;rw [List.length_map];exact Nat.le_trans (show P.length+1≤1000001 by omega) (by decide)) (P.length+1) (by simp) (fun v6_7 c6_7 => ?_))
  refine aHK ?_
  refine go 3 [0,5,0,0,3,0] ?_
  refine aF [0,53,54,55] [0] [0,1,2,3] (fun (k:Nat) st=>k≤p.length∧st=⟨[(0,true,.pointer (some ⟨bf,0,none⟩)),(53,true,.slice ad p.length cpp),(54,true,.int .i64 p.length),(55,true,.int .i64 k)],[ShF bd ⟨ad,cpp,p⟩],[Box bf 271 [nx,iv,lv,.slice (some ⟨B0,0,none⟩) A.length cp,pv,.slice v6_7 (P.length+1) c6_7],aP (.slice (some ⟨B0,0,none⟩) A.length cp) 3 1 (eR A),aP pv 3 1 (eR (b8 part ((P.length:Int)+1) (p.take k))),aP (.slice v6_7 (P.length+1) c6_7) 33 1 ((P++[(⟨ad,cpp,p⟩:Sl Int)]).map slR)]⟩) (fun k=>p.length-k) rfl (⟨0,Nat.zero_le _,by rw [List.map_append];rfl⟩) ?_
  rintro k st ⟨hk,rfl⟩
  refine go 3 [0] ?_
  refine aa _ rfl (fun h2 => ?_) (fun h2 => ?_)
  ·skip
   have hk':k<p.length:=by simpa using h2
   obtain ⟨w,hw⟩:∃ w,p[k]? = some w:=⟨_,List.getElem?_eq_getElem hk'⟩
   have hwr:=hpr w (hsp.mem_iff.1 (List.mem_of_getElem? hw))
   have hsn:=ta (part:=part) (u:=(P.length:Int)+1) hw
   have hsl:=oA ((P.length:Int)+1) (p.take k) part
   obtain ⟨w0,rfl⟩:=Int.eq_ofNat_of_zero_le hwr.1
   obtain ⟨po,hpo⟩:∃ z,(b8 part ((P.length:Int)+1) (p.take k))[w0]? = some z:=⟨_,List.getElem?_eq_getElem (by omega)⟩
   refine aD (an (aq (aH (aSR (UI Tryz.underlying33 tk3 0 rfl rfl rfl rfl rfl (ak hw) rfl rfl (fun ⟨b9_0,o9_0⟩=>(go 2 [2,0] ?_)))))))
   refine DR [11] 12 (go 0 [0,0,8,0,0,0,0,10,0] ?_)
   refine bV 9 rfl rfl (dQ 3 Tryz.underlying201 rfl rfl) ?_
   refine bV 10 rfl rfl (bK 2 w0 el33 rfl rfl rfl rfl (by rw [List.length_map];omega)) ?_
   refine VE 11 rfl rfl (cY 2 w0 0 tk3 rfl rfl rfl (ak hpo) rfl (.v rfl .nil) rfl (by decide) (bST rfl ?_))
   refine go 1 [0,0] ?_
   refine an ?_
   refine ⟨[0,53,54,55],[0],[0,1,2,3],rfl,?_⟩
   refine ⟨k+1,⟨by omega,?_⟩,by omega⟩
   rw [hsn,List.length_map,List.length_append]
   show _=(⟨_,_,[_,_,aP pv _ 1 ((List.set _ (w0:Int).toNat _).map bd),_]⟩:Sta)
   rw [List.map_set];rfl
  ·skip
   refine aY (bb (bb (bg ?_)))
   refine y9 [0] [0,1,2,3] rfl Tryz.results233 ?_ (.inl rfl)
   have hkp:k=p.length:=by simp at h2;omega
   subst hkp
   rw [List.take_length]
   exact ⟨⟨ad,cpp,p⟩,_,_,hsp,rfl,rfl⟩
theorem tE(bf:Nat)(nx iv lv sv pv qv:Value)(A B part:List Int)(v:Int)(P:List (Sl Int))(hv:v ∉ B)(hlen:(A++v::B).length≤1000000)(hpr:∀ x∈v::B,0≤x∧x<part.length)(hP:P.length≤1000000) :
   Con Tryz.prog 233 [.pointer (some ⟨bf,0,none⟩),.int .i64 v] [bu (ShF bd) P] [Box bf 271 [nx,iv,lv,sv,pv,qv],aP sv 3 1 (eR (A++v::B)),aP pv 3 1 (eR part),aP qv 33 1 (P.map slR)]
     fun _ ps hp=>∃ (pl:Sl Int) (sv' qv':Value),pl.l.Perm (v::B)∧ps=[bu (ShF bd) (P++[pl])]∧hp=[Box bf 271 [nx,iv,lv,sv',pv,qv'],aP sv' 3 1 (eR A),aP pv 3 1 (eR (b8 part ((P.length:Int)+1) pl.l)),aP qv' 33 1 ((P++[pl]).map slR)] :=
 Con.conv (((wj bf nx iv lv sv pv qv A B part v P hv hlen hpr hP).pre (ps0:=[bu (ShF bd) P]) fun p hp=>by cases hp).keepF) fun _ ps' hp' ⟨ps0,e,pl,sv',qv',h1,h2,h3⟩=>by
   subst e h2 h3
   exact ⟨_,_,StE.ents (ps':=[bu (ShF bd) (P++[pl])]) (fun p hp=>by
     rw [List.mem_singleton.1 hp]
     exact fun w S hps x hx=>(List.mem_append.1 hx).elim (fun h=>hps (bu (ShF bd) P) (by simp) x h) fun h=>by rw [List.mem_singleton.1 h];exact hps (ShF bd pl) (by simp)),pl,sv',qv',h1,rfl,rfl⟩
end Go.Proofs.YtgkbbdgklpabpaaGreatDoor

