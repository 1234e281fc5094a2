/- Parts of the proof, in build order. No condition. -/
import Derived.Test.YtfkcmbonmpcbfaaGreatRa07
import Derived.Test.YtfkcmbonmpcbfaaGreatRa10
import Derived.Test.YtfkcmbonmpcbfaaGreatRa06
import Derived.Test.YtfkcmbonmpcbfaaGreatRa03
import Derived.Test.YtfkcmbonmpcbfaaGreatRa05
import Derived.Test.YtfkcmbonmpcbfaaGreatRa09
set_option linter.unusedSimpArgs false
set_option linter.unusedVariables false
set_option maxHeartbeats 1000000
set_option maxRecDepth 20000
namespace Go.Lv
open Go.Sy
structure G (N:Nat) (out:List (List Int)) (rs:List Int) (k:Nat) (s:BS):Prop where
 len:s.1.length=N
 mem:∀ v∈s.2,0≤v∧v<N
 iff:∀ v:Int,0≤v→v<N→(0≤elt s.1 v↔v∈s.2)
 nodup:s.2.Nodup
 par:∀ (j:Nat) (v:Int),s.2[j]? = some v→(elt s.1 v=v∧v∈rs)∨∃ (i:Nat) (u:Int),i<j∧i≤k∧s.2[i]? = some u∧elt s.1 v=u∧v∈elt out u∧∀ i'<i,∀ u',s.2[i']? = some u'→v ∉ elt out u'
 clo:∀ i<k,∀ u,s.2[i]? = some u→∀ x∈elt out u,x∈s.2
 root:∀ v∈rs,0≤v→v<N→v∈s.2
theorem mu(N:Nat)(v:Int)(h0:0≤v)(h1:v<N):elt (List.replicate N (-1:Int)) v = -1:=by
 unfold elt;rw [List.getD_eq_getElem?_getD,List.getElem?_replicate,if_pos (by omega)];rfl
structure G0 (N:Nat) (rd:List Int) (s:BS):Prop where
 len:s.1.length=N
 mem:∀ v∈s.2,(0≤v∧v<N)∧elt s.1 v=v∧v∈rd
 iff:∀ v:Int,0≤v→v<N→(0≤elt s.1 v↔v∈s.2)
 nodup:s.2.Nodup
 root:∀ v∈rd,0≤v→v<N→v∈s.2
theorem vN{N:Nat}{rd:List Int}{s:BS}{v:Int}(h:G0 N rd s)(hv:v ∉ rd):G0 N (rd++[v]) (ey N s v):=by
 unfold ey
 split
 · rename_i hvn
   have hvs:v ∉ s.2:=fun hm=>hv (h.mem v hm).2.2
   have he:∀ y,0≤y→elt (s.1.set v.toNat v) y=if v=y then v else elt s.1 y:=fun y hy=>gu hvn.1 (by rw [h.len];exact hvn.2) hy
   refine ⟨by simpa using h.len,fun y hy => ?_,fun y hy0 hy1 => ?_,?_,fun y hy h0 h1 => ?_⟩
   · dsimp only
     rcases List.mem_append.1 hy with hy | hy
     · obtain ⟨h1,h2,h3⟩:=h.mem y hy
       refine ⟨h1,?_,List.mem_append_left _ h3⟩
       rw [he y h1.1];split
       · rename_i e;exact e
       · exact h2
     · rw [List.mem_singleton.1 hy]
       exact ⟨hvn,by rw [he v hvn.1,if_pos rfl],by simp⟩
   · dsimp only
     rw [he y hy0,List.mem_append,List.mem_singleton]
     split
     · rename_i e;exact ⟨fun _=>.inr e.symm,fun _=>hvn.1⟩
     · rename_i e
       rw [h.iff y hy0 hy1]
       exact ⟨.inl,fun h=>h.elim id fun h=>(e h.symm).elim⟩
   · refine List.nodup_append.2 ⟨h.nodup,by simp,fun a ha b hb => ?_⟩
     rw [List.mem_singleton.1 hb];rintro rfl;exact hvs ha
   · rcases List.mem_append.1 hy with hy | hy
     · exact List.mem_append_left _ (h.root y hy h0 h1)
     · exact List.mem_append_right _ hy
 · rename_i hvn
   refine ⟨h.len,fun y hy=>⟨(h.mem y hy).1,(h.mem y hy).2.1,List.mem_append_left _ (h.mem y hy).2.2⟩,h.iff,h.nodup,fun y hy h0 h1 => ?_⟩
   rcases List.mem_append.1 hy with hy | hy
   · exact h.root y hy h0 h1
   · rw [List.mem_singleton.1 hy] at h0 h1;exact (hvn ⟨h0,h1⟩).elim
theorem rF(N:Nat):∀ (l rd:List Int) (s:BS),G0 N rd s→(rd++l).Nodup→G0 N (rd++l) (l.foldl (ey N) s)
 | [],rd,s,h,_=>by simpa using h
 | v::l,rd,s,h,hn=>by
   rw [List.foldl_cons,show rd++v::l=(rd++[v])++l by simp]
   refine rF N l (rd++[v]) _ (vN h fun hm => ?_) (by simpa using hn)
   have:=(List.nodup_append.1 hn).2.2 v hm v List.mem_cons_self
   exact this rfl
theorem aaA{N:Nat}{out:List (List Int)}{rs:List Int}(hn:rs.Nodup):G N out rs 0 (dQ N rs):=by
 have h:G0 N rs (dQ N rs):=by
   have h0:G0 N [] (List.replicate N (-1),[]):=by
     refine ⟨by simp,(fun v hv=>by cases hv),fun v h0 h1 => ?_,by simp,fun v hv=>by cases hv⟩
     dsimp only;rw [mu N v h0 h1];simp
   have:=rF N rs [] _ h0 (by simpa using hn)
   unfold dQ;simpa using this
 exact ⟨h.len,fun v hv=>(h.mem v hv).1,h.iff,h.nodup,fun j v hj=>.inl (h.mem v (List.mem_of_getElem? hj)).2,fun i hi=>by omega,h.root⟩
theorem acT{N:Nat}{out:List (List Int)}{rs:List Int}{k:Nat}{s:BS}{u x:Int}(h:G N out rs k s)(hu:s.2[k]? = some u)(hx:x∈elt out u)(hxn:0≤x∧x<N):G N out rs k (visit u s x)∧x∈(visit u s x).2:=by
 unfold visit
 split
 · rename_i h0
   have hxs:x ∉ s.2:=fun hm=>by have:=(h.iff x hxn.1 hxn.2).2 hm;omega
   have hun:=h.mem u (List.mem_of_getElem? hu)
   have he:∀ y,0≤y→elt (s.1.set x.toNat u) y=if x=y then u else elt s.1 y:=fun y hy=>gu hxn.1 (by rw [h.len];exact hxn.2) hy
   have hkl:=(List.getElem?_eq_some_iff.1 hu).1
   have hget:∀ (i:Nat),i<s.2.length→(s.2++[x])[i]? = s.2[i]? := fun i hi=>List.getElem?_append_left hi
   refine ⟨⟨by simpa using h.len,fun y hy => ?_,fun y hy0 hy1 => ?_,?_,fun j v hj => ?_,fun i hi w hw y hy => ?_,fun y hy h1 h2=>List.mem_append_left _ (h.root y hy h1 h2)⟩,by simp⟩
   · rcases List.mem_append.1 hy with hy | hy
     · exact h.mem y hy
     · rw [List.mem_singleton.1 hy];exact hxn
   · dsimp only
     rw [he y hy0,List.mem_append,List.mem_singleton]
     split
     · rename_i e;exact ⟨fun _=>.inr e.symm,fun _=>hun.1⟩
     · rename_i e
       rw [h.iff y hy0 hy1]
       exact ⟨.inl,fun h=>h.elim id fun h=>(e h.symm).elim⟩
   · refine List.nodup_append.2 ⟨h.nodup,by simp,fun a ha b hb => ?_⟩
     rw [List.mem_singleton.1 hb];rintro rfl;exact hxs ha
   · dsimp only at hj ⊢
     by_cases hjl:j<s.2.length
     · rw [hget j hjl] at hj
       have hvm:=List.mem_of_getElem? hj
       have hvx:x≠v:=fun e=>hxs (e ▸ hvm)
       rw [he v (h.mem v hvm).1,if_neg hvx]
       rcases h.par j v hj with h1 | ⟨i,w,h1,h2,h3,h4,h5,h6⟩
       · exact .inl h1
       · refine .inr ⟨i,w,h1,h2,by rw [hget i (by omega)];exact h3,h4,h5,fun i' hi' u' hu'=>h6 i' hi' u' ?_⟩
         rwa [hget i' (by omega)] at hu'
     · have hjx:v=x:=by
         have hjl2:=(List.getElem?_eq_some_iff.1 hj).1
         rw [List.length_append,List.length_singleton] at hjl2
         rw [List.getElem?_append_right (by omega),show j-s.2.length=0 by omega] at hj
         simpa using hj.symm
       subst hjx
       refine .inr ⟨k,u,by omega,Nat.le_refl _,by rw [hget k hkl];exact hu,by rw [he v hxn.1,if_pos rfl],hx,fun i' hi' u' hu' hm=>hxs (h.clo i' hi' u' ?_ v hm)⟩
       rwa [hget i' (by omega)] at hu'
   · dsimp only at hw ⊢
     rw [hget i (by omega)] at hw
     exact List.mem_append_left _ (h.clo i hi w hw y hy)
 · rename_i h0
   exact ⟨h,(h.iff x hxn.1 hxn.2).1 (by omega)⟩
theorem vU{N:Nat}{out:List (List Int)}{rs:List Int}{k:Nat}{u:Int} : ∀ (l:List Int) (s:BS),G N out rs k s→s.2[k]? = some u→(∀ x∈l,x∈elt out u∧0≤x∧x<N)→G N out rs k (l.foldl (visit u) s)∧∀ x∈l,x∈(l.foldl (visit u) s).2
 | [],s,h,_,_=>⟨h,fun _ h=>by cases h⟩
 | x::l,s,h,hu,hl=>by
   obtain ⟨h1,h2⟩:=acT h hu (hl x List.mem_cons_self).1 (hl x List.mem_cons_self).2
   obtain ⟨h3,h4⟩:=vU l (visit u s x) h1 (tu su hu) (fun y hy=>hl y (List.mem_cons_of_mem _ hy))
   refine ⟨h3,fun y hy => ?_⟩
   rcases List.mem_cons.1 hy with rfl | hy
   · exact (j8 l (visit u s y)).subset h2
   · exact h4 y hy
theorem acZ{N:Nat}{out:List (List Int)}{rs:List Int}(hn:rs.Nodup)(ho:o0 N out):∀ k,G N out rs k (bfs out (dQ N rs) k)
 | 0=>aaA hn
 | k + 1 => by
   have ih:=acZ hn ho k
   unfold bfs pa
   split
   · rename_i hnone
     refine ⟨ih.len,ih.mem,ih.iff,ih.nodup,fun j v hj => ?_,fun i hi u hu x hx => ?_,ih.root⟩
     · exact (ih.par j v hj).imp id fun ⟨i,u,h1,h2,h⟩=>⟨i,u,h1,by omega,h⟩
     · by_cases hik:i=k
       · subst hik;rw [hnone] at hu;cases hu
       · exact ih.clo i (by omega) u hu x hx
   · rename_i u hu
     obtain ⟨h1,h2⟩:=vU (elt out u) _ ih hu (fun x hx=>⟨hx,ho u x hx⟩)
     refine ⟨h1.len,h1.mem,h1.iff,h1.nodup,fun j v hj => ?_,fun i hi w hw x hx => ?_,h1.root⟩
     · exact (h1.par j v hj).imp id fun ⟨i,u,h1,h2,h⟩=>⟨i,u,h1,by omega,h⟩
     · by_cases hik:i=k
       · subst hik
         have:=tu (j8 (u:=u) (elt out u) _) hu
         rw [this] at hw
         simp only [Option.some.injEq] at hw
         subst hw
         exact h2 x hx
       · exact h1.clo i (by omega) w hw x hx
inductive Rch (N:Nat) (out:List (List Int)) (rs:List Int):Int→Prop where
 | root {v:Int} : v∈rs→0≤v→v<N→Rch N out rs v
 | arc {u v:Int} : Rch N out rs u→v∈elt out u→Rch N out rs v
def ab5(N:Nat)(out:List (List Int))(rs:List Int):List Int:=(bfs out (dQ N rs) (rs.length+N)).2
section
variable {N:Nat} {out:List (List Int)} {rs:List Int}
theorem ab6(ho:o0 N out):(ab5 N out rs).length≤rs.length+N:=(o8 ho (kP N rs) _).le
theorem acx(hn:rs.Nodup)(ho:o0 N out):G N out rs (rs.length+N) (lz N out rs,ab5 N out rs):=acZ hn ho _
theorem xt(ho:o0 N out):(lz N out rs).length=N:=(o8 ho (kP N rs) _).len
def abJ(w:List Int)(v:Int):Nat:=w.idxOf v
theorem vI{w:List Int}(hn:w.Nodup){j:Nat}{v:Int}(h:w[j]? = some v):abJ w v=j:=by
 obtain ⟨hj,rfl⟩:=List.getElem?_eq_some_iff.1 h
 exact hn.idxOf_getElem j hj
end
end Go.Lv

namespace Go.Proofs.YtfkcmbonmpcbfaaGreat
open Go.RowKit Go.Lp Go.Sy Go.Lv
theorem vM{N:Nat}{l:List dI}(hN:N≤100000)(hr:∀ a∈l,kf N a):xo (N:Int) l=true:=by
 unfold xo
 have h:l.any (lM (N:Int))=false:=by
   rw [List.any_eq_false]
   intro a ha
   have:=hr a ha
   unfold kf at this
   obtain ⟨⟨h1,h2⟩,h3,h4⟩:=this
   simp [lM,xZ,h1,h2,h3,h4]
 rw [h]
 simp;omega
theorem oo(zs:List Int):(dK zs).Nodup:=(qS zs).1.imp fun h=>by omega
abbrev qs(N:Nat)(l:List dI)(rs:List Int):List Int:=lz N (fh N l) (dK rs)
abbrev qt(N:Nat)(l:List dI)(rs:List Int):List Int:=ab5 N (fh N l) (dK rs)
theorem wY{N:Nat}{l:List dI}(hr:∀ a∈l,kf N a)(rs:List Int):Tree (qs N l rs) (abJ (qt N l rs)):=⟨fun v hv hne=>by
 have hG:=acx (rs:=dK rs) (oo rs) (vk hr)
 have hlen:=hG.len
 have hvm:=(hG.iff v hv.1 (by have:=hv.2.1;rw [← hlen];exact this)).1 hv.2.2
 obtain ⟨j,hj⟩:=List.mem_iff_getElem?.1 hvm
 rcases hG.par j v hj with ⟨h,_⟩ | ⟨i,u,h1,_,h3,h4,_⟩
 · exact (hne h).elim
 · have h4':elt (qs N l rs) v=u:=h4
   have hum:=List.mem_of_getElem? h3
   have hun:=hG.mem u hum
   rw [h4',vI hG.nodup h3,vI hG.nodup hj]
   exact ⟨⟨hun.1,by rw [show (qs N l rs).length=N from hlen];exact hun.2,(hG.iff u hun.1 hun.2).2 hum⟩,h1⟩⟩
theorem acL(w:List Int)(v:Int):abJ w v≤w.length:=List.idxOf_le_length
open Go.Proofs.Tryz
theorem uS(N:Nat)(hN:N≤1000000)(l:Sl dI)(hl:l.l.length≤100000000)(hr:∀ a∈l.l,kf N a)(rs:Sl Int)(hrs:rs.l.length≤1000000){b:List Int}(hb:qs N l.l rs.l=b) :
   Con Tryz.prog 305 [.int .i64 N,l.val,rs.val] [ShF dI.row l,ShF (fun z=>[.v (encI z)]) rs] [] fun r ps hp=>ps=[]∧hp=[aO r 3 1 (cL encI b)]:=by
 subst hb;exact wL N hN l hl hr rs hrs
end Go.Proofs.YtfkcmbonmpcbfaaGreat

namespace Go.Proofs.YtfkcmbonmpcbfaaGreat
open Go.RowKit Go.Lp Go.Sy
abbrev slR{α:Type} : Sl α→List D:=fun s=>[.v (.slice s.ad s.l.length s.cap)]
end Go.Proofs.YtfkcmbonmpcbfaaGreat

namespace Go.Sy
open Go.RowKit Go.Lp
def mA(P:Program)(t:TypeId)(name:String):Option (FuncId × Bool) :=
 match P.info? t with
 | some i=>match i.methods.find? (·.name == name) with
   | some m=>if m.path.toList=[] then m.func else none
   | none=>none
 | none=>none
section
variable {P:Program} {w:World}
theorem qH{t e f:Nat}{p:Bool}{v u:Value}{name:String}(h:mA P t name=some (f,p))(hr:∀ x,(receiverAt t (.val v) p x).run P w=.ok u w)(k:Nat):(method (k+1) t v name).run P w=.ok (f,u) w:=by
 unfold mA at h
 split at h
 · rename_i i hi
   split at h
   · rename_i m hm
     split at h
     · rename_i hp
       unfold method
       simp only [Sem.run_bind,run_typeInfo w hi,Result.andThen,hm,hp,follow,h]
       simp only [pure,Sem.run,Result.andThen]
       rw [hr]
     · cases h
   · cases h
 · cases h
theorem z8{t e:Nat}{v:Value}{x:Option String}(hu:P.underlying t=some (.pointer e)):(receiverAt t (.val v) true x).run P w=.ok v w:=by
 unfold receiverAt
 simp only [Sem.run_bind,run_underlying hu,Result.andThen]
 rfl
theorem aaa{t e b o:Nat}{v u:Value}{x:Option String}(hu:P.underlying t=some (.pointer e))(hv:v=.pointer (some ⟨b,o,none⟩))(hl:(loadVar e ⟨b,o,none⟩).run P w=.ok u w):(receiverAt t (.val v) false x).run P w=.ok u w:=by
 subst hv
 unfold receiverAt
 simp only [Sem.run_bind,run_underlying hu,Result.andThen]
 cases x with
 | none=>exact hl
 | some y=>exact hl
theorem u4{f:FuncId}(hf:dV P f=true){l:List Operand}{ts:Array TypeId}{r:Operand}{name:String}{t:TypeId}{v u:Value}{ρ:Operand→Value}{d:Option Tmp}{ty:TypeId}{pos:String}{af:Array Edge}{gd:Option (Nat × Bool)}(hr:ρ r=.iface t v){vs:List Value}(hv:l.map ρ=vs)
   (hm:∀ k,(method (k+1) t v name).run P w=.ok (f,u) w) :
   (execOp ρ ⟨d,.call ⟨.invoke r name,l.toArray,ts⟩,ty,pos,af,gd⟩).run P w=.ok (.enter f (u::vs).toArray) w:=by
 unfold execOp
 dsimp only
 show ((resolve ρ ⟨.invoke r name,l.toArray,ts⟩ ty).bind fun x=>invoke x.target x.args).run P w=_
 have:resolve ρ ⟨.invoke r name,l.toArray,ts⟩ ty=Sem.pure { target:=.fn (.method name) #[],args := #[.iface t v]++vs.toArray } := by
   unfold resolve
   dsimp only
   rw [hr,List.map_toArray,hv]
   rfl
 rw [this]
 show (invoke (.fn (.method name) #[]) (#[.iface t v]++vs.toArray)).run P w=_
 have e0:(#[Value.iface t v]++vs.toArray)[0]? = some (.iface t v):=by simp
 unfold invoke
 dsimp only
 rw [e0]
 show (callMethod (.iface t v) name ((#[Value.iface t v]++vs.toArray).extract 1 (#[Value.iface t v]++vs.toArray).size)).run P w=_
 unfold callMethod
 simp only [Sem.run_bind,program,Sem.run,Result.andThen]
 have h1:=hm (P.types.size+99)
 rw [show P.types.size+99+1=P.types.size+Made.depth from rfl] at h1
 rw [h1]
 show (callFunc f _).run P w=_
 rw [show (#[u]++(#[Value.iface t v]++vs.toArray).extract 1 (#[Value.iface t v]++vs.toArray).size)=(u::vs).toArray by simp]
 exact j7 hf _ w
end
section
variable {P:Program} {n:Fr} {K:Sta→Prop} {env:Env} {ps:List Per} {hp:List Res} {s:Sta} {d:Option Tmp} {ty:TypeId} {pos:String} {af:Array Edge} {gd:Option (Nat × Bool)} {v:Value}
theorem lx{x:Operand}{T:TypeId}(hT:(match P.underlying T with | some (.interface _)=>false | some _=>true | none=>false)=true)(hx:ev s.env x=some (true,v)):Quiet P n ⟨d,.makeInterface T x,ty,pos,af,gd⟩ s (.iface T v):=fun w S fp a hst he hn=>by
 have h1:=he.val hx rfl
 have:(execOp a.eval ⟨d,.makeInterface T x,ty,pos,af,gd⟩).run P w=.ok (.value (.iface T v)) w:=by
   unfold execOp;dsimp only;rw [h1]
   show ((Instr.makeInterface T v).bind fun r=>Sem.pure (Next.value r)).run P w=_
   rw [Sem.run_bind']
   cases hu:P.underlying T with
   | none=>rw [hu] at hT;cases hT
   | some u =>
     rw [hu] at hT
     unfold Instr.makeInterface
     simp only [Sem.run_bind,run_underlying hu,Result.andThen]
     cases u<;>first | rfl | cases hT
 rw [this];exact cx _ _
theorem vB{x:Operand}{X T:TypeId}(hT:(match P.underlying T with | some (.interface _)=>false | some _=>true | none=>false)=true)(hx:ev s.env x=some (true,.iface T v)):Quiet P n ⟨d,.typeAssert x X T false,ty,pos,af,gd⟩ s v:=fun w S fp a hst he hn=>by
 have h1:=he.val hx rfl
 have:(execOp a.eval ⟨d,.typeAssert x X T false,ty,pos,af,gd⟩).run P w=.ok (.value v) w:=by
   unfold execOp;dsimp only;rw [h1]
   show ((Instr.typeAssert (.iface T v) X T false).bind fun r=>Sem.pure (Next.value r)).run P w=_
   rw [Sem.run_bind']
   cases hu:P.underlying T with
   | none=>rw [hu] at hT;cases hT
   | some u =>
     rw [hu] at hT
     unfold Instr.typeAssert
     simp only [Sem.run_bind,run_underlying hu,Result.andThen]
     cases u<;>first | (simp only [if_true];rfl) | cases hT
 rw [this];exact cx _ _
theorem gr{t:Nat}{f:FuncId}{g:Operand}{T:TypeId}{u:Value}{name:String}{l:List Operand}{ts:Array TypeId}{vs:List Value}{q:Bool}{R:Value→List Per→List Res→Prop}(lp lh:List Nat)(hf:dV P f=true)(hgv:ev env g=some (true,.iface T v))(hm:∀ w S fp,St w S fp ps hp→∀ k,(method (k+1) T v name).run P w=.ok (f,u) w)(hx:evs env l=some vs)(ht:fits n (some t)=true)(ok:okH hp lh=true)
   (hq:(!q || lh.isEmpty)=true) (hc:Con P f (u::vs) (fD ps lp) (cO hp lh) R) (hK:∀ v ps' hp',R v ps' hp'→K ⟨(t,true,v)::env,ps'++ps,iU lh hp' 0 hp⟩) :
   Eff P n ⟨some t,.call ⟨.invoke g name,l.toArray,ts⟩,ty,pos,af,gd⟩ ⟨env,ps,hp⟩ q K:=fun w S fp a hst he hn=>by
 rw [u4 hf (he.val hgv rfl) (gV he l vs hx) (hm w S fp hst)]
 obtain ⟨k1,k2⟩:=hst.cO lp lh ok
 have hcc:=hc w S _ k1
 refine hcc.mono fun e w' ⟨v,ps',hp',S',fp',he',hR,hst',hE,hg⟩=>⟨v,he',?_⟩
 obtain ⟨m1,m2⟩:=hst.back lp lh ok hst' hE hg
 refine ⟨_,S',_,hK v ps' hp' hR,m1,?_,hE.wider k2,m2,fun hq' => ?_⟩
 · exact he.put (g:=true) (by rw [hn];simpa [fits] using ht) v
 · rw [hq'] at hq
   have:lh=[]:=by simpa using hq
   subst this
   exact hE.toX (fun b hb=>yx _ b hb)
theorem aeb{T e:TypeId}{f:FuncId}{name:String}(hk:mA P T name=some (f,true))(hu:P.underlying T=some (.pointer e)):∀ w S fp,St w S fp ps hp→∀ k,(method (k+1) T v name).run P w=.ok (f,v) w :=
 fun _ _ _ _ k=>qH (e:=0) hk (fun _=>z8 hu) k
theorem tk{T e U:TypeId}{f:FuncId}{name:String}{b o kk:Nat}{ag:Bool}{cs:List Value}{u:Value}(i:Nat)(hk:mA P T name=some (f,false))(hu:P.underlying T=some (.pointer e))(htk:tyk P e=some (ag,kk))(hi:hp[i]? = some (Box b U cs))(hv:rdC ag kk cs o=some u) :
   ∀ w S fp,St w S fp ps hp→∀ k,(method (k+1) T (.pointer (some ⟨b,o,none⟩)) name).run P w=.ok (f,u) w:=fun w S fp hst k=>by
 refine qH (e:=0) hk (fun _=>aaa hu rfl ?_) k
 have hb:=(hst.res i _ hi).1
 have:=ly (w:=w) htk hv (b:=b) (p:=0) (fun j u hu=>by rw [Nat.zero_add,ej hb];exact hu)
 rwa [Nat.zero_add] at this
end
end Go.Sy

namespace Go.Proofs.YtfkcmbonmpcbfaaGreat
open Go.RowKit Go.Lp Go.Sy Go.Lv
open Go.Proofs.Tryz
attribute [local irreducible] aL aB awp aC fwp Quiet
abbrev eR:List Int→List (List D):=fun l=>l.map cX
abbrev zx(bf bc:Nat)(nx iv lv sv pv qv:Value)(s:TS)(P:List (Sl Int)):List Res :=
 [Box bf 406 [nx,iv,lv,sv,pv,qv],aO iv 3 1 (eR s.idx),aO lv 3 1 (eR s.low),aO sv 3 1 (eR s.stk),aO pv 3 1 (eR s.part),aO qv 26 1 (P.map slR),Box bc 3 [.int .i64 s.cnt]]
theorem rJ(bf bc b5 b3:Nat)(nx iv lv sv pv qv:Value)(s:TS)(P:List (Sl Int))(w:Nat)(hi:w<s.idx.length)(hl:w<s.low.length)(hc:0≤s.cnt∧s.cnt≤1000000)(hs:s.stk.length≤1000000) :
   Con Tryz.prog 371 [.int .i64 w,.pointer (some ⟨b5,0,none⟩),.pointer (some ⟨b3,0,none⟩)] [At b5 0 [.v (.pointer (some ⟨bc,0,none⟩))],At b3 0 [.v (.pointer (some ⟨bf,0,none⟩))]] (zx bf bc nx iv lv sv pv qv s P)
     fun r ps hp=>r=.agg #[.int .i64 w,.int .i64 0]∧ps=[]∧∃ sv':Value,hp=zx bf bc nx iv lv sv' pv qv (fo s w) P:=by
 obtain ⟨io,hio⟩:∃ z,s.idx[w]? = some z:=⟨_,List.getElem?_eq_getElem hi⟩
 obtain ⟨lo,hlo⟩:∃ z,s.low[w]? = some z:=⟨_,List.getElem?_eq_getElem hl⟩
 refine EN3 Tryz.func371 rfl (aSR (LT rfl (bk (zs:=[.int .i64 0,.int .i64 0]) (by kernel_rfl) rfl (fun b0_0=>(aHN ?_)))))
 refine aNn (aSR (UD 0 tk165 0 rfl rfl rfl rfl (UN rfl rfl (UL 6 tk3 rfl rfl rfl rfl (aU rfl (aX rfl rfl (by omega)) (UN rfl rfl (aD rfl (aF 6 tk3 rfl rfl rfl rfl (aHK ?_)))))))))
 refine aNs (DR [17,19] 20 (VD 0 0 tk432 1 rfl rfl rfl rfl rfl (VN 1 rfl rfl rfl (VO 2 1 rfl rfl rfl (VL 3 0 tk26 rfl rfl rfl rfl rfl (VM 4 rfl rfl (VD 5 0 tk432 1 rfl rfl rfl rfl rfl (VN 6 rfl rfl rfl (VO 7 2 rfl rfl rfl (VL 8 0 tk26 rfl rfl rfl rfl rfl (yC 9 rfl (by kernel_rfl) true rfl rfl (fun _=>aS rfl) (VD 10 0 tk165 0 rfl rfl rfl rfl rfl (VN 11 rfl rfl rfl (VL 12 6 tk3 rfl rfl rfl rfl rfl (VD 13 0 tk165 0 rfl rfl rfl rfl rfl ?_)))))))))))))))
 refine VN 14 rfl rfl rfl (VL 15 6 tk3 rfl rfl rfl rfl rfl ?_)
 refine bV 16 rfl rfl (cr 1 w el26 rfl rfl rfl rfl (by rw [List.length_map];exact hi)) ?_
 refine VE 17 rfl rfl (dO 1 w 0 tk3 rfl rfl rfl (aK hio) rfl (.v rfl .nil) rfl (by decide) (bST rfl ?_))
 refine bV 18 rfl rfl (cr 2 w el26 rfl rfl rfl rfl (by rw [List.length_map];exact hl)) ?_
 refine VE 19 rfl rfl (dO 2 w 0 tk3 rfl rfl rfl (aK hlo) rfl (.v rfl .nil) rfl (by decide) (bST rfl ?_))
 refine BN (aj (ah (DC [7,10] [10] [bf] 11 (CF 0 rfl rfl rfl (bg (o:=0) tk432 rfl (.of (aI 1 rfl)) rfl) (CF 1 rfl rfl rfl (bg (o:=0) tk432 rfl (.of (aI 1 rfl)) rfl) (CF 2 rfl rfl rfl (cD rfl) (CF 3 rfl rfl rfl (qFA (off:=3) rfl) ?_)))))))
 refine mQ 4 0 rfl (by kernel_rfl) true rfl rfl (by simp) tk26 (fun _=>rfl) rfl rfl ?_
 refine CF 5 rfl rfl rfl (aS rfl) ?_
 refine dt 6 [] (by kernel_rfl) (cm ?_ cU)
 refine dC 6 rfl rfl (Eff.x (id (WL (zs:=[.int .i64 0]) el26 rfl rfl rfl (.more rfl (.v rfl .nil) .nil) rfl rfl (fun v3_6=>(CST ?_)))))
 refine dt 7 [] (by kernel_rfl) (cm ?_ cU)
 refine dC 7 rfl rfl (Eff.framed (q:=false) [3,8] rfl rfl (ac7 0 rfl rfl acW) ?_)
 refine id (cj 0 el26 rfl rfl rfl rfl (cY 1 el26 rfl (by simp)) (by first | assumption | simp) (by show (eR s.stk).length+1≤_;rw [List.length_map];exact Nat.le_trans (show s.stk.length+1≤1000001 by omega) (by decide)) (s.stk.length+1) (by simp) (fun v3_7 c3_7 => ?_))
 refine xP (CST ?_)
 refine CF 8 rfl rfl rfl (cD rfl) (CF 9 rfl rfl rfl (qFA (off:=3) rfl) ?_)
 refine dt 10 [] (by kernel_rfl) (cm ?_ cU)
 refine dC 10 rfl rfl (Eff.wild (q:=false) (id (aF 0 tk26 rfl rfl rfl rfl (CST ?_))))
 refine fX (by kernel_rfl) (aj (aSR (aM rfl (aU rfl (eb (l:=[(0,.tmp 38)]) (zs:=[.int .i64 0,.int .i64 0]) (pl:=[(0,1),(1,1)]) (by kernel_rfl) (by kernel_rfl) (by kernel_rfl) rfl rfl rfl) (aD rfl (aF 7 tk434 rfl rfl rfl rfl (aHK ?_)))))))
 refine aNn (ax ?_)
 refine u6 [] [0,1,2,3,4,5,6] rfl Tryz.results371 (iD 7 tk434 rfl rfl rfl) ?_ (.inr rfl)
 refine ⟨rfl,rfl,.slice v3_7 (s.stk.length+1) c3_7,?_⟩
 show _=[_,aO iv _ 1 ((s.idx.set (w:Int).toNat (s.cnt+1)).map cX),aO lv _ 1 ((s.low.set (w:Int).toNat (s.cnt+1)).map cX),aO _ _ 1 ((s.stk++[(w:Int)]).map cX),_,_,Box bc _ [.int .i64 (s.cnt+1)]]
 rw [Int.toNat_natCast,List.map_set,List.map_set,List.map_append]
 rfl
end Go.Proofs.YtfkcmbonmpcbfaaGreat

namespace Go.Sy
open Go.RowKit Go.Lp
section
variable {P:Program} {n:Fr} {s:Sta} {d:Option Tmp} {ty:TypeId} {pos:String} {af:Array Edge} {gd:Option (Nat × Bool)} {x y1 y2 y3:Operand}
end
def acX(R:Res):Prop:=∀ w S S' F,R.holds w S F→R.holds w S' F
theorem zA{v:Value}{E:TypeId}{sz:Nat}{rows:List (List D)}(hr:∀ r∈rows,∀ d∈r,∃ u,d=D.v u):acX (aO v E sz rows):=fun w S S' F h=>by
 rcases h with ⟨h1,h2,h3⟩ | ⟨b,cap,h1,⟨cs,sp,hb,ha,hl,hle,hc⟩,hF⟩
 · exact .inl ⟨h1,h2,h3⟩
 · refine .inr ⟨b,cap,h1,⟨cs,sp,hb,⟨ha.len,ha.row,ha.one,fun i j r d h1 h2 => ?_⟩,hl,hle,hc⟩,hF⟩
   obtain ⟨u,hu,hd⟩:=ha.rep i j r d h1 h2
   obtain ⟨u',rfl⟩:=hr r (List.mem_of_getElem? h1) d (List.mem_of_getElem? h2)
   refine ⟨u,hu,?_⟩
   cases hd;exact .v _
section
variable {P:Program} {n:Fr} {s:Sta} {d:Option Tmp} {ty:TypeId} {pos:String} {af:Array Edge} {gd:Option (Nat × Bool)} {x y1 y2 y3:Operand}
end
theorem yr{w:World}{S:bO}{fp:Nat→bO}{ps:List Per}{p:Per}{L:List Res}(hst:St w S fp ps L)(hp:p.holds w (fun b=>S b∨tot fp L.length b)) :
   St w (fun b=>S b∨tot fp L.length b) (fun _ _=>False) (p::ps) [] :=
 ⟨fun q hq=>by
     rcases List.mem_cons.1 hq with rfl | hq
     · exact hp
     · exact q.mono (hst.per q hq) (fun _ _=>rfl) (fun _ h=>.inl h),fun i R hi=>by simp at hi,fun i hi=>by simp at hi,fun i j hi=>by simp at hi,fun b hb=>hb.elim (hst.slt b) fun ⟨i,hi,h⟩=>(hst.lt i hi b h).1⟩
theorem Con.borrowL{P:Program}{f:FuncId}{args:List Value}{ps:List Per}{p:Per}{R:Value→List Per→List Res→Prop}(h:Con P f args (p::ps) [] R)(L:List Res)
   (hB:∀ (w:World) (S:bO) (fp:Nat→bO),(∀ (i:Nat) (A:Res),L[i]? = some A→A.holds w S (fp i))→p.holds w (fun b=>S b∨tot fp L.length b)) (hR:∀ v ps' hp',R v ps' hp'→∀ r∈hp',acX r) :
   Con P f args ps L (fun v ps' hp'=>ps'=[]∧∃ ps2 hp2,R v ps2 hp2∧hp'=L++hp2):=fun w S fp hst=>by
 have h2:=yr hst (hB w S fp hst.res)
 have h0:∀ b,¬ tot (fun _ _=>False) ([]:List Res).length b:=fun b ⟨j,hj,_⟩=>by simp at hj
 refine (h w _ _ h2).mono fun e w' ⟨v,ps',hp',S',fp',he,hR',hst',hE,hb⟩ => ?_
 have hFlt:∀ b,tot fp L.length b→b<w.heap.size∧¬ S b:=fun b ⟨i,hi,h⟩=>hst.lt i hi b h
 have hsame:∀ b,b<w.heap.size→w'.heap[b]? = w.heap[b]? := fun b hb'=>hE.block b hb' (h0 b)
 have hfp:∀ i,i<L.length→∀ b,fp i b→tot fp L.length b:=fun i hi b hb=>⟨i,hi,hb⟩
 refine ⟨v,[],L++hp',fun b=>S' b∧¬ tot fp L.length b,fun i=>if i<L.length then fp i else fp' (i-L.length),he,⟨rfl,ps',hp',hR',rfl⟩,⟨fun q hq=>(by cases hq),fun i A hi => ?_,fun i hi b hbi => ?_,fun i j hi hj hne b hbi hbj => ?_,fun b hb'=>hst'.slt b hb'.1⟩,⟨hE.os,hE.tape,hE.output,hE.size,hE.drawn,fun b hb' _=>hsame b hb',fun b hb'=>⟨hE.more b (.inl hb'),fun hf=>(hFlt b hf).2 hb'⟩,fun b hb' => ?_⟩,fun b ⟨i,hi,hbi⟩ => ?_⟩
 · by_cases hil:i<L.length
   · rw [if_pos hil]
     rw [List.getElem?_append_left hil] at hi
     exact A.mono (hst.res i A hi) (fun b hb'=>hsame b (hFlt b (hfp i hil b hb')).1) (fun b hb'=>hsame b (hst.slt b hb')) (fun b hb'=>⟨hE.more b (.inl hb'),fun hf=>(hFlt b hf).2 hb'⟩)
   · rw [if_neg hil]
     rw [List.getElem?_append_right (by omega)] at hi
     exact hR v ps' hp' hR' A (List.mem_of_getElem? hi) _ _ _ _ (hst'.res _ A hi)
 · by_cases hil:i<L.length
   · rw [if_pos hil] at hbi
     exact ⟨Nat.lt_of_lt_of_le (hFlt b (hfp i hil b hbi)).1 hE.size,fun h=>h.2 (hfp i hil b hbi)⟩
   · rw [if_neg hil] at hbi
     rw [List.length_append] at hi
     have:=hst'.lt (i-L.length) (by omega) b hbi
     exact ⟨this.1,fun h=>this.2 h.1⟩
 · rw [List.length_append] at hi hj
   by_cases hil:i<L.length
   · rw [if_pos hil] at hbi
     by_cases hjl:j<L.length
     · rw [if_pos hjl] at hbj;exact hst.dj i j hil hjl hne b hbi hbj
     · rw [if_neg hjl] at hbj;exact (hst'.lt (j-L.length) (by omega) b hbj).2 (hE.more b (.inr (hfp i hil b hbi)))
   · rw [if_neg hil] at hbi
     by_cases hjl:j<L.length
     · rw [if_pos hjl] at hbj;exact (hst'.lt (i-L.length) (by omega) b hbi).2 (hE.more b (.inr (hfp j hjl b hbj)))
     · rw [if_neg hjl] at hbj;exact hst'.dj (i-L.length) (j-L.length) (by omega) (by omega) (by omega) b hbi hbj
 · rcases hE.new b hb'.1 with (h | h) | h | h
   · exact .inl h
   · exact (hb'.2 h).elim
   · exact (h0 b h).elim
   · exact .inr (.inr h)
 · dsimp only at hbi
   by_cases hil:i<L.length
   · rw [if_pos hil] at hbi;exact .inl ⟨i,hil,hbi⟩
   · rw [if_neg hil] at hbi
     rw [List.length_append] at hi
     exact (hb b ⟨i-L.length,by omega,hbi⟩).elim (fun h=>(h0 b h).elim) .inr
theorem Con.ofRes{P:Program}{f:FuncId}{args:List Value}{ps:List Per}{p:Per}{R:Value→List Per→List Res→Prop}(h:Con P f args (p::ps) [] R)(L:List Res)
   (hB:∀ (w:World) (S:bO) (fp:Nat→bO),(∀ (i:Nat) (A:Res),L[i]? = some A→A.holds w S (fp i))→p.holds w (fun b=>S b∨tot fp L.length b)):Con P f args ps L R:=fun w S fp hst=>by
 have h2:=yr hst (hB w S fp hst.res)
 have h0:∀ b,¬ tot (fun _ _=>False) ([]:List Res).length b:=fun b ⟨j,hj,_⟩=>by simp at hj
 have hE:Evo w S (tot fp L.length) w (fun b=>S b∨tot fp L.length b):=⟨rfl,rfl,rfl,Nat.le_refl _,Nat.le_refl _,fun _ _ _=>rfl,fun _ h=>.inl h,fun b hb=>hb.elim .inl fun h=>.inr (.inl h)⟩
 exact (h w _ _ h2).mono fun e w' ⟨u,ps',hp',S',fp',he,hR,hst',hE',hb⟩=>⟨u,ps',hp',S',fp',he,hR,hst',hE.trans hE' (fun b hb=>(h0 b hb).elim),fun b hb'=>(hb b hb').elim (fun h=>(h0 b h).elim) .inr⟩
theorem Con.clean{P:Program}{f:FuncId}{args:List Value}{ps:List Per}{hp:List Res}{R:Value→List Per→List Res→Prop}{φ:Value→Prop}(h:Con P f args ps hp R)(hR:∀ v ps' hp',R v ps' hp'→φ v):Con P f args ps hp (fun v ps' hp'=>φ v∧ps'=[]∧hp'=[]):=fun w S fp hst =>
 (h w S fp hst).mono fun e w' ⟨v,ps',hp',S',fp',he,hr,hst',hE,hb⟩=>⟨v,[],[],S',fun _ _=>False,he,⟨hR _ _ _ hr,rfl,rfl⟩,⟨fun q hq=>(by cases hq),fun i A hi=>(by simp at hi),fun i hi=>(by simp at hi),fun i j hi=>(by simp at hi),hst'.slt⟩,hE,fun b ⟨i,hi,_⟩=>(by simp at hi)⟩
theorem om{w:World}{S:bO}{sz:Nat}{cs:List Value}{rows:List (List D)}(h:eV w S sz cs rows){k:Nat}(hk:k≤rows.length):eV w S sz (cs.take (k*sz)) (rows.take k) where
 len:=by
   have:=h.len
   have h2:k*sz≤rows.length*sz:=Nat.mul_le_mul_right _ hk
   rw [List.length_take,List.length_take,Nat.min_eq_left hk,Nat.min_eq_left (by omega)]
 row i r hr:=h.row i r (by
   have hl:=(List.getElem?_eq_some_iff.1 hr).1
   rw [List.length_take] at hl
   rw [List.getElem?_take_of_lt (by omega)] at hr;exact hr)
 one v hv:=h.one v (List.mem_of_mem_take hv)
 rep i j r d hr hd:=by
   have hl:=(List.getElem?_eq_some_iff.1 hr).1
   rw [List.length_take] at hl
   rw [List.getElem?_take_of_lt (by omega)] at hr
   obtain ⟨u,hu,hrep⟩:=h.rep i j r d hr hd
   refine ⟨u,?_,hrep⟩
   have hj:=(List.getElem?_eq_some_iff.1 hd).1
   rw [h.row i r hr] at hj
   have h3:(i+1)*sz≤k*sz:=Nat.mul_le_mul_right _ (by omega)
   rw [Nat.add_mul] at h3
   rw [List.getElem?_take_of_lt (by omega)];exact hu
theorem abw{w:World}{S F:bO}{b:Nat}{T:TypeId}{sz cap:Nat}{rows:List (List D)}{k:Nat}(hk:k≤rows.length)(h:(Own b T sz cap rows).holds w S F):(Own b T sz cap (rows.take k)).holds w S F:=by
 obtain ⟨⟨cs,sp,hb,hr,hl,hle,hc⟩,hF⟩:=h
 refine ⟨⟨cs.take (k*sz),cs.drop (k*sz)++sp,?_,om hr hk,?_,by rw [List.length_take];omega,hc⟩,hF⟩
 · rw [← List.append_assoc,List.take_append_drop];exact hb
 · rw [← List.append_assoc,List.take_append_drop];exact hl
theorem rZ{w:World}{S F:bO}{B m cp:Nat}{T:TypeId}{sz:Nat}{rows:List (List D)}{k:Nat}(hk:k≤rows.length)(h:(aO (.slice (some ⟨B,0,none⟩) m cp) T sz rows).holds w S F):(aO (.slice (some ⟨B,0,none⟩) k cp) T sz (rows.take k)).holds w S F:=by
 rcases h with ⟨h1,_⟩ | ⟨b,cap,h1,ho⟩
 · cases h1
 · simp only [Value.slice.injEq,Option.some.injEq,Addr.mk.injEq] at h1
   obtain ⟨⟨rfl,_⟩,rfl,rfl⟩:=h1
   exact .inr ⟨B,cp,by rw [List.length_take,Nat.min_eq_left hk],abw hk ho⟩
theorem tW{P:Program}{n:Fr}{env:Env}{ps:List Per}{hp:List Res}{c:Code}{Q:Exit→Sta→Prop}(i k:Nat){B m cp:Nat}{T:TypeId}{sz:Nat}{rows:List (List D)}(hi:hp[i]? = some (aO (.slice (some ⟨B,0,none⟩) m cp) T sz rows))(hk:k≤rows.length)
   (h:awp P n c Q ⟨env,ps,hp.set i (aO (.slice (some ⟨B,0,none⟩) k cp) T sz (rows.take k))⟩):awp P n c Q ⟨env,ps,hp⟩:=iK i _ hi (fun _ _ _ hh=>rZ hk hh) h
theorem jq{P:Program}{n:Fr}{env:Env}{ps:List Per}{hp:List Res}{c:Code}{Q:Exit→Sta→Prop}(i:Nat){v:Value}{E:TypeId}{sz:Nat}{rows:List (List D)}(hi:hp[i]? = some (aO v E sz rows))(h0:rows≠[])(h:∀ B cp,v=.slice (some ⟨B,0,none⟩) rows.length cp→rows.length≤cp→awp P n c Q ⟨env,ps,hp⟩):awp P n c Q ⟨env,ps,hp⟩:=fun w S fp a hst he hn hd=>by
 rcases hst.res i _ hi with ⟨_,h1,_⟩ | ⟨B,cp,h1,⟨⟨_,_,_,_,_,hle,_⟩,_⟩⟩
 · exact (h0 h1).elim
 · exact h B cp h1 hle w S fp a hst he hn hd
theorem abL{w:World}{S:bO}{b o n c sz:Nat}{rows:List (List D)}(h:gD w S (.slice (some ⟨b,o,none⟩) n c) (.sl rows))(l:Nat)(hsz:∀ r∈rows,r.length=sz)(hl:l<rows.length) :
   gD w S (.slice (some ⟨b,o+l*sz,none⟩) (rows.drop l).length (c-l)) (.sl (rows.drop l)):=by
 cases h with
 | e a c hc=>simp at hl
 | sl b o c sz2 rows us hb hn hc hr hcell hd =>
   have h0:rows[0]? = some (rows[0]'(by omega)):=List.getElem?_eq_getElem (by omega)
   obtain rfl:sz2=sz:=by rw [← hr 0 _ h0,hsz _ (List.getElem_mem _)]
   have key:∀ (i:Nat) (r:List D),(rows.drop l)[i]? = some r→rows[l+i]? = some r:=fun i r h=>by
     rw [List.getElem?_drop] at h;exact h
   refine .sl b (o+l*sz2) (c-l) sz2 _ (fun i j=>us (l+i) j) hb (by simp;omega) (by omega) (fun i r hi=>hr _ r (key i r hi)) (fun i j r d hi hj => ?_) (fun i j r d hi hj=>hd _ j r d (key i r hi) hj)
   rw [show o+l*sz2+i*sz2+j=o+(l+i)*sz2+j by rw [Nat.add_mul];omega]
   exact hcell _ j r d (key i r hi) hj
theorem abt{w:World}{S F:bO}{E:TypeId}{sz B m cap k:Nat}{rows:List (List D)}(h:(aO (.slice (some ⟨B,0,none⟩) m cap) E sz rows).holds w S F)(hsz:∀ r∈rows,r.length=sz)(hk:k<rows.length) :
   gD w (fun b=>S b∨F b) (.slice (some ⟨B,k*sz,none⟩) (rows.drop k).length (cap-k)) (.sl (rows.drop k)):=by
 have:=abL (mH h) k hsz hk
 rwa [Nat.zero_add] at this
theorem Con.keepF{P:Program}{f:FuncId}{args:List Value}{ps:List Per}{hp:List Res}{R:Value→List Per→List Res→Prop}(h:Con P f args ps hp R):Con P f args ps hp (fun v ps' hp'=>∃ ps0,ps'=ps0++ps∧R v ps0 hp'):=fun w S fp hst =>
 (h w S fp hst).mono fun e w' ⟨v,ps',hp',S',fp',he,hr,hst',hE,hb⟩=>⟨v,ps'++ps,hp',S',fp',he,⟨ps',rfl,hr⟩,⟨fun p hp=>(List.mem_append.1 hp).elim (hst'.per p) fun hp=>p.mono (hst.per p hp) (fun b hbS=>hE.block b (hst.slt b hbS) fun ⟨i,hi,hbi⟩=>(hst.lt i hi b hbi).2 hbS) hE.more,hst'.res,hst'.lt,hst'.dj,hst'.slt⟩,hE,hb⟩
end Go.Sy

namespace Go.Proofs.YtfkcmbonmpcbfaaGreat
open Go.RowKit Go.Lp Go.Sy Go.Lv
open Go.Proofs.Tryz
attribute [local irreducible] aL aB awp aC fwp Quiet
theorem adk(l:List Int):∀ r∈eR l,r.length=1:=fun r hr=>by obtain ⟨z,_,rfl⟩:=List.mem_map.1 hr;rfl
theorem wx(B0 cp:Nat)(A D:List Int)(hD:D≠[])(hl:D.length≤1000000) :
   Con Tryz.prog 347 [.slice (some ⟨B0,A.length*1,none⟩) D.length (cp-A.length)] [] [aO (.slice (some ⟨B0,0,none⟩) (A++D).length cp) 3 1 (eR (A++D))]
     fun r ps hp=>ps=[]∧hp=[aO (.slice (some ⟨B0,0,none⟩) (A++D).length cp) 3 1 (eR (A++D)),aO r 3 1 (eR D)]:=by
 refine (Con.borrowL (pL (ad:=some ⟨B0,A.length*1,none⟩) (c:=cp-A.length) D hl) [aO (.slice (some ⟨B0,0,none⟩) (A++D).length cp) 3 1 (eR (A++D))] (fun w S fp h => ?_) fun v ps' hp' ⟨_,e⟩ r hr => ?_).post fun v ps' hp' ⟨h1,ps2,hp2,⟨_,h3⟩,h5⟩=>⟨h1,by rw [h5,h3];rfl⟩
 · have h0:=abt (k:=A.length) (h 0 _ rfl) (adk _) (by rw [List.length_map,List.length_append];have:=List.length_pos_iff.2 hD;omega)
   have e:(eR (A++D)).drop A.length=eR D:=by rw [← List.map_drop,List.drop_left]
   rw [e,List.length_map] at h0
   exact h0.mono (fun _ _=>rfl) fun b hb=>hb.imp id fun hf=>⟨0,by simp,hf⟩
 · rw [e] at hr;rw [List.mem_singleton.1 hr]
   exact zA fun r hr d hd=>by
     obtain ⟨z,_,rfl⟩:=List.mem_map.1 hr
     rw [List.mem_singleton.1 hd];exact ⟨_,rfl⟩
theorem vP{part p:List Int}{u:Int}{k:Nat}{w:Int}(h:p[k]? = some w):eG part u (p.take (k+1))=(eG part u (p.take k)).set w.toNat u:=by
 unfold eG;rw [List.take_add_one,h,List.foldl_append];rfl
theorem yP(bf:Nat)(nx iv lv sv pv qv:Value)(A B part:List Int)(v:Int)(P:List (Sl Int))(hv:v ∉ B)(hlen:(A++v::B).length≤1000000)(hpr:∀ x∈v::B,0≤x∧x<part.length)(hP:P.length≤1000000) :
   Con Tryz.prog 372 [.pointer (some ⟨bf,0,none⟩),.int .i64 v] [] [Box bf 406 [nx,iv,lv,sv,pv,qv],aO sv 3 1 (eR (A++v::B)),aO pv 3 1 (eR part),aO qv 26 1 (P.map slR)]
     fun _ ps hp=>∃ (pl:Sl Int) (sv' qv':Value),pl.l.Perm (v::B)∧ps=[ShF cX pl]∧hp=[Box bf 406 [nx,iv,lv,sv',pv,qv'],aO sv' 3 1 (eR A),aO pv 3 1 (eR (eG part ((P.length:Int)+1) pl.l)),aO qv' 26 1 ((P++[pl]).map slR)]:=by
 obtain ⟨S,hS⟩:∃ S,S=A++v::B:=⟨_,rfl⟩
 rw [← hS] at hlen ⊢
 have hSl:S.length=A.length+(B.length+1):=by rw [hS];simp
 have hSA:S[A.length]? = some v:=by rw [hS];simp
 have hSB:∀ i z,A.length<i→S[i]? = some z→z≠v:=fun i z hi hz e=>by
   rw [hS,List.getElem?_append_right (by omega)] at hz
   obtain ⟨k,hk⟩:∃ k,i-A.length=k+1:=⟨i-A.length-1,by omega⟩
   rw [hk,List.getElem?_cons_succ] at hz
   exact hv (e ▸ List.mem_of_getElem? hz)
 have hE:(eR S).length=S.length:=List.length_map _
 refine EN2 Tryz.func372 rfl (aSR (aM rfl (UN rfl rfl (UO 3 rfl rfl (UL 0 tk26 rfl rfl rfl rfl (aU rfl (gL 1 Tryz.underlying26 rfl rfl) (aU rfl (dp rfl rfl (by omega)) (aA rfl (aNs (aq ?_))))))))))
 refine aQ [0,1,4] [] [0,1,2,3] (fun (i:Nat) st=>(A.length≤i∧i<S.length)∧st=⟨[(0,true,.pointer (some ⟨bf,0,none⟩)),(1,true,.int .i64 v),(4,true,.int .i64 i)],[],[Box bf 406 [nx,iv,lv,sv,pv,qv],aO sv 3 1 (eR S),aO pv 3 1 (eR part),aO qv 26 1 (P.map slR)]⟩) (fun i=>i) rfl (⟨S.length-1,⟨by omega,by omega⟩,by rw [show ((S.length-1:Nat):Int)=(S.length:Int)-1 by omega,List.length_map];rfl⟩) ?_
 rintro i st ⟨⟨hiA,hiS⟩,rfl⟩
 obtain ⟨z,hz⟩:∃ z,S[i]? = some z:=⟨_,List.getElem?_eq_getElem hiS⟩
 refine ah (aSR (aM rfl (UN rfl rfl (UO 3 rfl rfl (UL 0 tk26 rfl rfl rfl rfl (aM rfl ?_))))))
 refine aU rfl (cr 1 i el26 rfl rfl rfl rfl (by rw [List.length_map];exact hiS)) ?_
 refine aU rfl (bN 1 i 0 tk3 rfl rfl (aK hz) rfl rfl) (aM rfl (aU rfl (ft rfl rfl) (aNn ?_)))
 refine ao _ rfl (fun h1 => ?_) (fun h1 => ?_)
 ·skip
  have hzv:z≠v:=by simpa using h1
  have hlt:A.length<i:=by
    rcases Nat.lt_or_ge A.length i with h | h
    · exact h
    · obtain rfl:i=A.length:=by omega
      rw [hSA] at hz;exact absurd (Option.some.inj hz).symm hzv
  refine ar (aj (aq (aa (aM rfl (aU rfl (dp rfl rfl (by omega)) (aA rfl (bj (bp (aj ?_)))))))))
  refine ⟨[0,1,4],[],[0,1,2,3],rfl,?_⟩
  exact ⟨i-1,⟨⟨by omega,by omega⟩,by rw [show ((i-1:Nat):Int)=(i:Int)-1 by omega];rfl⟩,by omega⟩
 ·skip
  have hzv:z=v:=by simpa using h1
  obtain rfl:i=A.length:=by
    rcases Nat.lt_or_ge A.length i with h | h
    · exact absurd hzv (hSB i z h hz)
    · omega
  refine aT (aW (aW (aY (aj (ah ?_)))))
  refine jq 1 rfl (fun h0=>by have:=congrArg List.length h0;rw [hE,List.length_nil] at this;omega) (fun B0 cp hv0 hcp => ?_)
  rw [hE] at hv0 hcp
  subst hv0
  refine aa (aM rfl (UN rfl rfl (UO 3 rfl rfl (UL 0 tk26 rfl rfl rfl rfl (aM rfl ?_)))))
  refine aU rfl (nw A.length (v::B).length (A.length*1) el26 rfl rfl rfl (by omega) hcp (by rw [hSl,List.length_cons];omega) (by omega)) ?_
  refine LF rfl (EC [] [1] rfl ((by rw [hS];exact wx B0 cp A (v::B) (by simp) (by rw [hSl] at hlen;simp;omega))) ?_)
  rintro r3_6 _ _ ⟨rfl,rfl⟩
  refine aST ?_
  refine aA rfl (aNn (aSR (aM rfl (aM rfl (UN rfl rfl (UO 3 rfl rfl (UL 0 tk26 rfl rfl rfl rfl (aM rfl (aU rfl (iH A.length el26 rfl rfl rfl (by omega) hcp) (UN rfl rfl (UO 3 rfl rfl (aD rfl (aF 0 tk26 rfl rfl rfl rfl (aHK ?_))))))))))))))
  refine aNs ?_
  refine iK 1 (aO (.slice (some ⟨B0,0,none⟩) A.length cp) 3 1 (eR A)) rfl (fun w S F h=>by have:=rZ (k:=A.length) (by rw [List.length_map,List.length_append];omega) h;rwa [show (eR (A++v::B)).take A.length=eR A by rw [← List.map_take,List.take_left]] at this) ?_
  refine aa (aM rfl ?_)
  refine LF rfl (EC [] [4] rfl (ni (v::B) (by rw [hSl] at hlen;simp;omega)) ?_)
  rintro _ _ _ ⟨rfl,rfl⟩
  refine aST ?_
  refine aNs ?_
  have hsp:(fP (v::B)).Perm (v::B):=List.mergeSort_perm _ _
  generalize fP (v::B)=p at hsp
  have hpl:=hsp.length_eq
  rw [List.length_cons] at hpl
  refine tY 4 rfl (fun ad cpp hv4 => ?_)
  rw [show (cL encI p).length=p.length by simp [cL]] at hv4
  subst hv4
  refine jQ 4 (ShF cX ⟨ad,cpp,p⟩) rfl (fun _ _ _ h=>mH h) ?_
  show awp _ _ _ _ ⟨_,[ShF cX _],[_,_,_,_,emp]⟩
  refine aa (aM rfl (aM rfl (UN rfl rfl (UO 5 rfl rfl (UL 0 tk381 rfl rfl rfl rfl (aM rfl (LT rfl (WL (zs:=[.slice none 0 0]) el381 rfl rfl rfl (.more rfl (.v rfl .nil) .nil) rfl rfl (fun v6_6=>(aHN ?_))))))))))
  refine aD rfl (cj 3 el381 rfl rfl rfl rfl (cY 5 el381 rfl (by simp)) (by first | assumption | simp) (by show (P.map slR).length+1≤_;rw [List.length_map];exact Nat.le_trans (show P.length+1≤1000001 by omega) (by decide)) (P.length+1) (by simp) (fun v6_7 c6_7 => ?_))
  refine aHK ?_
  refine UN rfl rfl (UO 5 rfl rfl (aD rfl (aF 0 tk381 rfl rfl rfl rfl (aHK ?_))))
  refine aNn (aSR (aM rfl (aU rfl (aZ Tryz.underlying26 rfl) (aM rfl (aNn (aq ?_))))))
  refine aQ [0,53,54,55] [0] [0,1,2,3] (fun (k:Nat) st=>k≤p.length∧st=⟨[(0,true,.pointer (some ⟨bf,0,none⟩)),(53,true,.slice ad p.length cpp),(54,true,.int .i64 p.length),(55,true,.int .i64 k)],[ShF cX ⟨ad,cpp,p⟩],[Box bf 406 [nx,iv,lv,.slice (some ⟨B0,0,none⟩) A.length cp,pv,.slice v6_7 (P.length+1) c6_7],aO (.slice (some ⟨B0,0,none⟩) A.length cp) 3 1 (eR A),aO pv 3 1 (eR (eG part ((P.length:Int)+1) (p.take k))),aO (.slice v6_7 (P.length+1) c6_7) 26 1 ((P++[(⟨ad,cpp,p⟩:Sl Int)]).map slR)]⟩) (fun k=>p.length-k) rfl (⟨0,Nat.zero_le _,by rw [List.map_append];rfl⟩) ?_
  rintro k st ⟨hk,rfl⟩
  refine aSR (aU rfl (bu rfl rfl) (aNs ?_))
  refine ao _ rfl (fun h2 => ?_) (fun h2 => ?_)
  ·skip
   have hk':k<p.length:=by simpa using h2
   obtain ⟨w,hw⟩:∃ w,p[k]? = some w:=⟨_,List.getElem?_eq_getElem hk'⟩
   have hwr:=hpr w (hsp.mem_iff.1 (List.mem_of_getElem? hw))
   have hsn:=vP (part:=part) (u:=(P.length:Int)+1) hw
   have hsl:=qJ ((P.length:Int)+1) (p.take k) part
   obtain ⟨w0,rfl⟩:=Int.eq_ofNat_of_zero_le hwr.1
   obtain ⟨po,hpo⟩:∃ z,(eG part ((P.length:Int)+1) (p.take k))[w0]? = some z:=⟨_,List.getElem?_eq_getElem (by omega)⟩
   refine ar (aj (ah (aq (aSR (UI Tryz.underlying26 tk3 0 rfl rfl rfl rfl rfl (aK hw) rfl rfl (fun ⟨b9_0,o9_0⟩=>(US 0 tk3 0 rfl rfl rfl rfl rfl (aA rfl (aNn (DR [11] 12 (VM 0 rfl rfl (VN 1 rfl rfl rfl (VO 2 4 rfl rfl rfl (VL 3 0 tk26 rfl rfl rfl rfl rfl (VM 4 rfl rfl ?_)))))))))))))))
   refine VM 5 rfl rfl (VN 6 rfl rfl rfl (VO 7 5 rfl rfl rfl (VL 8 0 tk381 rfl rfl rfl rfl rfl (bV 9 rfl rfl (gL 3 Tryz.underlying381 rfl rfl) ?_))))
   refine bV 10 rfl rfl (cr 2 w0 el26 rfl rfl rfl rfl (by rw [List.length_map];omega)) ?_
   refine VE 11 rfl rfl (dO 2 w0 0 tk3 rfl rfl rfl (aK hpo) rfl (.v rfl .nil) rfl (by decide) (bST rfl ?_))
   refine BN (bp (aj (aa (aU rfl (aX rfl rfl (by omega)) (aM rfl (aNn ?_))))))
   refine ⟨[0,53,54,55],[0],[0,1,2,3],rfl,?_⟩
   refine ⟨k+1,⟨by omega,?_⟩,by omega⟩
   rw [hsn,List.length_map,List.length_append]
   show _=(⟨_,_,[_,_,aO pv _ 1 ((List.set _ (w0:Int).toNat _).map cX),_]⟩:Sta)
   rw [List.map_set];rfl
  ·skip
   refine aT (aW (aW (aY ?_)))
   refine th [0] [0,1,2,3] rfl Tryz.results372 ?_ (.inl rfl)
   have hkp:k=p.length:=by simp at h2;omega
   subst hkp
   rw [List.take_length]
   exact ⟨⟨ad,cpp,p⟩,_,_,hsp,rfl,rfl⟩
theorem wy(bf:Nat)(nx iv lv sv pv qv:Value)(A B part:List Int)(v:Int)(P:List (Sl Int))(hv:v ∉ B)(hlen:(A++v::B).length≤1000000)(hpr:∀ x∈v::B,0≤x∧x<part.length)(hP:P.length≤1000000) :
   Con Tryz.prog 372 [.pointer (some ⟨bf,0,none⟩),.int .i64 v] [bz (ShF cX) P] [Box bf 406 [nx,iv,lv,sv,pv,qv],aO sv 3 1 (eR (A++v::B)),aO pv 3 1 (eR part),aO qv 26 1 (P.map slR)]
     fun _ ps hp=>∃ (pl:Sl Int) (sv' qv':Value),pl.l.Perm (v::B)∧ps=[bz (ShF cX) (P++[pl])]∧hp=[Box bf 406 [nx,iv,lv,sv',pv,qv'],aO sv' 3 1 (eR A),aO pv 3 1 (eR (eG part ((P.length:Int)+1) pl.l)),aO qv' 26 1 ((P++[pl]).map slR)] :=
 Con.conv (((yP bf nx iv lv sv pv qv A B part v P hv hlen hpr hP).pre (ps0:=[bz (ShF cX) P]) fun p hp=>by cases hp).keepF) fun _ ps' hp' ⟨ps0,e,pl,sv',qv',h1,h2,h3⟩=>by
   subst e h2 h3
   exact ⟨_,_,StE.ents (ps':=[bz (ShF cX) (P++[pl])]) (fun p hp=>by
     rw [List.mem_singleton.1 hp]
     exact fun w S hps x hx=>(List.mem_append.1 hx).elim (fun h=>hps (bz (ShF cX) P) (by simp) x h) fun h=>by rw [List.mem_singleton.1 h];exact hps (ShF cX pl) (by simp)),pl,sv',qv',h1,rfl,rfl⟩
end Go.Proofs.YtfkcmbonmpcbfaaGreat

