/- Parts of the proof, in build order. No condition. -/
import Derived.Test.YtgkbbdgklpabpaaGreatDoorSc01
import Derived.WalkKit
import Derived.WalkSpells
import Derived.WalkLawsBesides
import Derived.Deep.QuietTactic
import Derived.BigQuiet
import Derived.Still
import Derived.Deep.Cut
import Derived.Deep.CutRange
import Derived.Deep.DeepCutAuto
import Derived.Laws.CopyRow
import Derived.Laws.CopyOwn
import Derived.Deep.AppendSrc
import Derived.Lib.AppendZerosOnto
import Derived.Lib.Overlaps
import Derived.Lib.Hide
set_option linter.unusedSimpArgs false
set_option linter.unusedVariables false
set_option maxHeartbeats 20000000
set_option maxRecDepth 20000
namespace Go.Sy
open Go.RowKit
section
variable {P:Program} {n:Fr} {ops:Array Oper} {Q:Exit→Sta→Prop} {s:Sta}

theorem eO(env:Env):∀ (l:List Nat) (t:Nat) (g:Bool) (v:Value),look (vt env l) t=some (g,v)→look env t=some (g,v)
 | [],_,_,_,h=>by cases h
 | k :: l,t,g,v,h=>by
   unfold vt at h
   rw [List.filterMap_cons] at h
   cases hk:look env k with
   | none=>rw [hk] at h;exact eO env l t g v h
   | some x =>
     rw [hk] at h
     simp only [Option.map_some,look] at h
     split at h
     · rename_i hkt
       obtain rfl:k=t:=by simpa using hkt
       rw [hk];exact h
     · exact eO env l t g v h
theorem St.bT{w:World}{S:ba}{fp:Nat→ba}{ps:List Per}{hp:List Res}(h:St w S fp ps hp)(lp lh:List Nat)(ok:okH hp lh=true) :
   St w S (fun k=>fp (lh.getD k 0)) (el ps lp) (bT hp lh)∧∀ b,tot (fun k=>fp (lh.getD k 0)) (Sy.bT hp lh).length b→tot fp hp.length b:=by
 simp only [okH,Bool.and_eq_true,decide_eq_true_eq] at ok
 have hlt:∀ k (hk:k<lh.length),lh[k]<hp.length:=fun k hk=>by simpa using List.all_eq_true.1 ok.1 _ (List.getElem_mem hk)
 have hg:∀ k,k<lh.length→lh.getD k 0<hp.length:=fun k hk=>by simpa [List.getD,hk] using hlt k hk
 have hnd:∀ i j,i<lh.length→j<lh.length→i≠j→lh.getD i 0≠lh.getD j 0:=fun i j hi hj hne he=>by
   simp only [List.getD,List.getElem?_eq_getElem hi,List.getElem?_eq_getElem hj,Option.getD_some] at he
   have hp:=List.pairwise_iff_getElem.1 ok.2
   rcases Nat.lt_or_gt_of_ne hne with hlt' | hlt'
   · exact hp i j hi hj hlt' he
   · exact hp j i hj hi hlt' he.symm
 refine ⟨⟨fun p hp' => ?_,fun i R hR => ?_,fun i hi b hb => ?_,fun i j hi hj hne b hb => ?_,h.slt⟩,fun b ⟨i,hi,hb⟩=>⟨lh.getD i 0,hg i (by simpa [Sy.bT] using hi),hb⟩⟩
 · obtain ⟨k,_,hk⟩:=List.mem_filterMap.1 hp'
   exact h.per p (List.mem_reverse.1 (List.mem_of_getElem? hk))
 · unfold Sy.bT at hR
   rw [List.getElem?_map] at hR
   cases hk:lh[i]? with
   | none=>rw [hk] at hR;cases hR
   | some k =>
     rw [hk] at hR
     simp only [Option.map_some,Option.some.injEq] at hR
     have hik:=(List.getElem?_eq_some_iff.1 hk).1
     have e:lh.getD i 0=k:=by simp [List.getD,hk]
     have hlt':k<hp.length:=by have:=hg i hik;rw [e] at this;exact this
     rw [e]
     refine h.res k R ?_
     rw [← hR,List.getElem?_eq_getElem hlt']
     simp [List.getD,hlt']
 · have hi':i<lh.length:=by simpa [Sy.bT] using hi
   exact h.lt _ (hg i hi') b hb
 · have hi':i<lh.length:=by simpa [Sy.bT] using hi
   have hj':j<lh.length:=by simpa [Sy.bT] using hj
   exact h.dj _ _ (hg i hi') (hg j hj') (hnd i j hi' hj' hne) b hb
theorem jW{c:Code}(le lp lh:List Nat)(ok:okH s.hp lh=true)(h:awp P n c Q ⟨vt s.env le,el s.ps lp,bT s.hp lh⟩):awp P n c Q s:=fun w S fp a hst he hn hd=>by
 obtain ⟨h1,h2⟩:=hst.bT lp lh ok
 exact ei (fun e a' w' hp=>eA.trans (Evo.refl _ _ _) (fun b hb=>.inl (h2 b hb)) hp) (h w S _ a h1 (he.sub (eO _ le)) hn hd)
theorem gp{c:Code}{φ:Prop}(h0:∀ w S fp,St w S fp s.ps s.hp→φ)(h:φ→awp P n c Q s):awp P n c Q s:=fun w S fp a hst he hn hd=>h (h0 w S fp hst) w S fp a hst he hn hd
theorem eA.keepN{w w':World}{S X:ba}{a:Act}{K:Sta→Prop}(h:eA (thn (fun s=>∃ le lp lh,okH s.hp lh=true∧K (ki s le lp lh)) Q) n w S X .normal a w'):eA (thn K Q) n w S X .normal a w':=by
 obtain ⟨s,S',fp',⟨le,lp,lh,ok,hK⟩,hst,he,hn,hd,hE,hg⟩:=h
 obtain ⟨k1,k2⟩:=hst.bT lp lh ok
 exact ⟨_,S',_,hK,k1,he.sub (eO _ _),hn,hd,hE,fun b hb=>hg b (k2 b hb)⟩
theorem aF{X:Type}{c:Code}(le lp lh:List Nat)(I:X→Sta→Prop)(μ:X→Nat)(ok:okH s.hp lh=true)(h0:∃ x,I x (ki s le lp lh))
   (round:∀ x s,I x s→awp P n c (thn (fun s'=>∃ le lp lh,okH s'.hp lh=true∧∃ x',I x' (ki s' le lp lh)∧μ x'<μ x) Q) s):awp P n (.loop c) Q s:=by
 obtain ⟨x,h0⟩:=h0
 refine jW le lp lh ok (yh I μ x h0 fun x s hI w S fp a hst he hn hd => ?_)
 exact ei (fun e a' w' hp=>by
   cases e with
   | normal=>exact eA.keepN hp
   | _=>exact hp) (round x s hI w S fp a hst he hn hd)
end

section
variable {P:Program} {n:Fr} {s:Sta} {d:Option Tmp} {ty:TypeId} {pos:String} {af:Array Edge} {gd:Option (Nat × Bool)} {v:Value}
theorem bE(v:Value)(w:World):l0 P v w (.ok (.value v) w):=⟨rfl,Below.refl _ _⟩
theorem Quiet.run1{o:Oper}{x:Operand}{vx:Value}(hx:ev s.env x=some (true,vx))(h:∀ (ρ:Operand→Value) (w:World),ρ x=vx→(execOp ρ o).run P w=.ok (.value v) w):Quiet P n o s v:=fun w S fp a hst he hn=>by
 rw [h a.eval w (he.val hx rfl)];exact bE v w
theorem Quiet.run2{o:Oper}{x y:Operand}{vx vy:Value}(hx:ev s.env x=some (true,vx))(hy:ev s.env y=some (true,vy))(h:∀ (ρ:Operand→Value) (w:World),ρ x=vx→ρ y=vy→(execOp ρ o).run P w=.ok (.value v) w):Quiet P n o s v:=fun w S fp a hst he hn=>by
 rw [h a.eval w (he.val hx rfl) (he.val hy rfl)];exact bE v w
theorem ah{env:Env}{x:Operand}{g:Bool}{v:Value}(h:ev env x=some (g,v))(hg:g=true):ev env x=some (true,v):=by rw [h,hg]

theorem bo{x:Operand}(hx:ev s.env x=some (true,v)):Quiet P n ⟨d,.move x,ty,pos,af,gd⟩ s v:=.run1 hx fun ρ w h=>by subst h;rfl
theorem dM{x:Operand}(hx:ev s.env x=some (true,v)):Quiet P n ⟨d,.assign x,ty,pos,af,gd⟩ s v:=.run1 hx fun ρ w h=>by subst h;rfl
theorem dv{c x:Operand}{b1 b2 gx:Bool}(hc:ev s.env c=some (true,.bool b1))(hx:ev s.env x=some (gx,.bool b2))(hg:b1=true→gx=true) :
   Quiet P n ⟨d,.pick c x (.const (.bool false)),ty,pos,af,gd⟩ s (.bool (b1 && b2)):=fun w S fp a hst he hn=>by
 have h1:=he.val hc rfl
 have h2:=he.eval hx
 have:(execOp a.eval ⟨d,.pick c x (.const (.bool false)),ty,pos,af,gd⟩).run P w=.ok (.value (if b1 then a.eval x else .bool false)) w:=by
   unfold execOp;dsimp only;rw [h1];cases b1<;>rfl
 rw [this]
 cases b1 with
 | true=>rw [h2,hg rfl];exact bE _ _
 | false=>exact bE _ _
theorem eX{c x:Operand}{b1 b2 gx:Bool}(hc:ev s.env c=some (true,.bool b1))(hx:ev s.env x=some (gx,.bool b2))(hg:b1=false→gx=true) :
   Quiet P n ⟨d,.pick c (.const (.bool true)) x,ty,pos,af,gd⟩ s (.bool (b1 || b2)):=fun w S fp a hst he hn=>by
 have h1:=he.val hc rfl
 have h2:=he.eval hx
 have:(execOp a.eval ⟨d,.pick c (.const (.bool true)) x,ty,pos,af,gd⟩).run P w=.ok (.value (if b1 then .bool true else a.eval x)) w:=by
   unfold execOp;dsimp only;rw [h1];cases b1<;>rfl
 rw [this]
 cases b1 with
 | true=>exact bE _ _
 | false=>rw [if_neg Bool.false_ne_true,h2,hg rfl];exact bE _ _
section
variable {x y:Operand} {k:IntKind} {a b:Int} {t t':TypeId}
theorem zB(hx:ev s.env x=some (true,.int k a))(hy:ev s.env y=some (true,.int k b)):Quiet P n ⟨d,.binOp .add t x y t',ty,pos,af,gd⟩ s (.int k (k.wrap (a+b))) :=
 .run2 hx hy fun ρ w h1 h2=>by unfold execOp;dsimp only;rw [h1,h2];cases k<;>rfl
theorem sS(hx:ev s.env x=some (true,.int k a))(hy:ev s.env y=some (true,.int k b)):Quiet P n ⟨d,.binOp .sub t x y t',ty,pos,af,gd⟩ s (.int k (k.wrap (a-b))) :=
 .run2 hx hy fun ρ w h1 h2=>by unfold execOp;dsimp only;rw [h1,h2];cases k<;>rfl
theorem acB(hx:ev s.env x=some (true,.int k a))(hy:ev s.env y=some (true,.int k b)):Quiet P n ⟨d,.binOp .mul t x y t',ty,pos,af,gd⟩ s (.int k (k.wrap (a*b))) :=
 .run2 hx hy fun ρ w h1 h2=>by unfold execOp;dsimp only;rw [h1,h2];cases k<;>rfl
theorem i64_in{n:Int}(h : -9223372036854775808≤n∧n≤9223372036854775807):IntKind.i64.wrap n=n:=by rw [IntKind.wrap_i64];omega
theorem bz(hx:ev s.env x=some (true,.int .i64 a))(hy:ev s.env y=some (true,.int .i64 b))(h : -9223372036854775808≤a+b∧a+b≤9223372036854775807):Quiet P n ⟨d,.binOp .add t x y t',ty,pos,af,gd⟩ s (.int .i64 (a+b)):=by
 have:=zB (P:=P) (n:=n) (d:=d) (ty:=ty) (pos:=pos) (af:=af) (gd:=gd) (t:=t) (t':=t') hx hy;rw [i64_in h] at this;exact this
theorem lB(hx:ev s.env x=some (true,.int .i64 a))(hy:ev s.env y=some (true,.int .i64 b))(h : -9223372036854775808≤a-b∧a-b≤9223372036854775807):Quiet P n ⟨d,.binOp .sub t x y t',ty,pos,af,gd⟩ s (.int .i64 (a-b)):=by
 have:=sS (P:=P) (n:=n) (d:=d) (ty:=ty) (pos:=pos) (af:=af) (gd:=gd) (t:=t) (t':=t') hx hy;rw [i64_in h] at this;exact this
theorem abO(hx:ev s.env x=some (true,.int .i64 a))(hy:ev s.env y=some (true,.int .i64 b))(h : -9223372036854775808≤a*b∧a*b≤9223372036854775807):Quiet P n ⟨d,.binOp .mul t x y t',ty,pos,af,gd⟩ s (.int .i64 (a*b)):=by
 have:=acB (P:=P) (n:=n) (d:=d) (ty:=ty) (pos:=pos) (af:=af) (gd:=gd) (t:=t) (t':=t') hx hy;rw [i64_in h] at this;exact this
theorem cf(hx:ev s.env x=some (true,.int k a))(hy:ev s.env y=some (true,.int k b)):Quiet P n ⟨d,.binOp .lss t x y t',ty,pos,af,gd⟩ s (.bool (decide (a<b))) :=
 .run2 hx hy fun ρ w h1 h2=>by unfold execOp;dsimp only;rw [h1,h2];cases k<;>rfl
theorem lY(hx:ev s.env x=some (true,.int k a))(hy:ev s.env y=some (true,.int k b)):Quiet P n ⟨d,.binOp .leq t x y t',ty,pos,af,gd⟩ s (.bool (decide (a≤b))) :=
 .run2 hx hy fun ρ w h1 h2=>by unfold execOp;dsimp only;rw [h1,h2];cases k<;>rfl
theorem eH(hx:ev s.env x=some (true,.int k a))(hy:ev s.env y=some (true,.int k b)):Quiet P n ⟨d,.binOp .gtr t x y t',ty,pos,af,gd⟩ s (.bool (decide (b<a))) :=
 .run2 hx hy fun ρ w h1 h2=>by unfold execOp;dsimp only;rw [h1,h2];cases k<;>rfl
theorem eT(hx:ev s.env x=some (true,.int k a))(hy:ev s.env y=some (true,.int k b)):Quiet P n ⟨d,.binOp .geq t x y t',ty,pos,af,gd⟩ s (.bool (decide (b≤a))) :=
 .run2 hx hy fun ρ w h1 h2=>by unfold execOp;dsimp only;rw [h1,h2];cases k<;>rfl
theorem dw(hx:ev s.env x=some (true,.int k a))(hy:ev s.env y=some (true,.int k b)):Quiet P n ⟨d,.binOp .eql t x y t',ty,pos,af,gd⟩ s (.bool (decide (a=b))) :=
 .run2 hx hy fun ρ w h1 h2=>by unfold execOp;dsimp only;rw [h1,h2];cases k<;>rfl
theorem fg(hx:ev s.env x=some (true,.int k a))(hy:ev s.env y=some (true,.int k b)):Quiet P n ⟨d,.binOp .neq t x y t',ty,pos,af,gd⟩ s (.bool (!decide (a=b))) :=
 .run2 hx hy fun ρ w h1 h2=>by unfold execOp;dsimp only;rw [h1,h2];cases k<;>rfl
theorem ee(hx:ev s.env x=some (true,.int k a))(hy:ev s.env y=some (true,.int k b))(h0:b≠0):Quiet P n ⟨d,.binOp .rem t x y t',ty,pos,af,gd⟩ s (.int k (a.tmod b)) :=
 .run2 hx hy fun ρ w h1 h2=>by
   have e:Op.intDiv .rem k a b=pure (.int k (a.tmod b)):=by unfold Op.intDiv;rw [if_neg h0]
   unfold execOp;dsimp only;rw [h1,h2]
   have e2:(do eqGuard BinOp.rem t x y (Value.int k a) (Value.int k b);binOp BinOp.rem t (Value.int k a) (Value.int k b))=Op.intDiv .rem k a b:=by cases k<;>rfl
   rw [e2,e];rfl
theorem acD(hx:ev s.env x=some (true,.int k a))(hy:ev s.env y=some (true,.int k b))(h0:b≠0):Quiet P n ⟨d,.binOp .quo t x y t',ty,pos,af,gd⟩ s (.int k (k.wrap (a.tdiv b))) :=
 .run2 hx hy fun ρ w h1 h2=>by
   have e:Op.intDiv .quo k a b=pure (.int k (k.wrap (a.tdiv b))):=by unfold Op.intDiv;rw [if_neg h0]
   unfold execOp;dsimp only;rw [h1,h2]
   have e2:(do eqGuard BinOp.quo t x y (Value.int k a) (Value.int k b);binOp BinOp.quo t (Value.int k a) (Value.int k b))=Op.intDiv .quo k a b:=by cases k<;>rfl
   rw [e2,e];rfl
end
theorem eJ{x:Operand}{t:TypeId}{b:Bool}(hx:ev s.env x=some (true,.bool b)):Quiet P n ⟨d,.unOp .not t x,ty,pos,af,gd⟩ s (.bool (!b)):=.run1 hx fun ρ w h=>by unfold execOp;dsimp only;rw [h];rfl
theorem cT{x:Operand}{i:Nat}{vs:Array Value}(hx:ev s.env x=some (true,.tuple vs))(hi:vs[i]? = some v):Quiet P n ⟨d,.extract x i,ty,pos,af,gd⟩ s v:=.run1 hx fun ρ w h=>by
 unfold execOp;dsimp only;rw [h];unfold Instr.extract;dsimp only;rw [hi];rfl
theorem uO{fn:Fn}{l:List Operand}{vs:List Value}(hx:∀ a:Act,cG a s.env→l.map a.eval=vs) :
   Quiet P n ⟨d,.makeFunc fn #[] l.toArray,ty,pos,af,gd⟩ s (.func fn #[] vs.toArray):=fun w S fp a hst he hn=>by
 have:(execOp a.eval ⟨d,.makeFunc fn #[] l.toArray,ty,pos,af,gd⟩).run P w=.ok (.value (.func fn #[] (l.toArray.map a.eval))) w:=by
   show Result.ok (Next.value (.func fn ((#[]:Array Operand).map a.eval) (l.toArray.map a.eval))) w=_
   rw [Array.map_empty]
 rw [this,List.map_toArray,hx a he]
 exact bE _ _
theorem gW{x:Operand}{p:Addr}(hx:ev s.env x=some (true,.pointer (some p))):Quiet P n ⟨d,.nilCheck x,ty,pos,af,gd⟩ s (.pointer (some p)):=.run1 hx fun ρ w h=>by
 unfold execOp;dsimp only;rw [h];rfl
end
end Go.Sy

namespace Go.Lp
open Go.RowKit
def _root_.Go.World.ext(w:World)(objs:Array Obj)(d:Nat):World := { w with heap:=w.heap++objs,drawn:=d }
section
variable (w:World) (objs:Array Obj) (d:Nat)
@[simp,go_sem] theorem size_ext:(w.ext objs d).heap.size=w.heap.size+objs.size:=by simp [World.ext]
theorem nz{k:Nat}(h:k<w.heap.size):(w.ext objs d).heap[k]? = w.heap[k]? := by
 simp only [World.ext]
 rw [Array.getElem?_append,if_pos h]
@[go_sem] theorem ack {a:Addr} (h:a.block<w.heap.size):(w.ext objs d).cell? a=w.cell? a:=by
 unfold World.cell?;rw [nz w objs d h]
@[go_sem] theorem abE {a:Addr} (h:a.block<w.heap.size):(w.ext objs d).frozen? a=w.frozen? a:=by
 unfold World.frozen?;rw [nz w objs d h]
@[simp,go_sem] theorem drew_ext:(w.ext objs d).drew=w.ext objs (d+1):=rfl
@[simp,go_sem] theorem ext_ext (objs':Array Obj) (d':Nat):(w.ext objs d).ext objs' d'=w.ext (objs++objs') d':=by
 simp [World.ext,Array.append_assoc]
theorem vZ:Below w.heap.size w (w.ext objs d):=⟨rfl,rfl,rfl,by simp,fun _ h=>nz w objs d h⟩
end
def y8(objs:Array Obj)(k:Nat)(a:Addr)(v:Value):Array Obj :=
 objs.modify k fun
   | .cells c elem frozen=>.cells (if a.spot.isSome then c else c.setIfInBounds a.off v) elem frozen
   | o=>o
theorem oB(w:World)(objs:Array Obj)(d b o:Nat)(s:Option Nat)(v:Value) :
   (w.ext objs d).setCell ⟨b,o,s⟩ v=if b<w.heap.size then (w.setCell ⟨b,o,s⟩ v).ext objs d else w.ext (y8 objs (b-w.heap.size) ⟨b,o,s⟩ v) d:=by
 by_cases h:b<w.heap.size
 · rw [if_pos h]
   unfold World.setCell World.ext
   simp only [World.mk.injEq,and_true]
   apply Array.ext_getElem?
   intro i
   simp only [Array.getElem?_modify,Array.getElem?_append,Array.size_modify]
   by_cases hi:b=i
   · subst hi;simp [h]
   · simp [hi]
 · rw [if_neg h]
   unfold World.setCell World.ext y8
   simp only [World.mk.injEq,and_true]
   apply Array.ext_getElem?
   intro i
   simp only [Array.getElem?_modify,Array.getElem?_append]
   by_cases hi:b=i
   · subst hi;simp [h];rfl
   · by_cases hlt:i<w.heap.size
     · simp [hi,hlt]
     · have:¬ b-w.heap.size=i-w.heap.size:=by omega
       simp [hi,hlt,this]
@[go_sem] theorem abo (w:World) (objs:Array Obj) (d:Nat) {a:Addr} (v:Value) (h:a.block<w.heap.size):(w.ext objs d).setCell a v=(w.setCell a v).ext objs d:=by
 obtain ⟨b,o,s⟩:=a
 rw [oB,if_pos h]
@[go_sem] theorem adx {p n a1:Nat} (h:p<n):(p<n+a1)=True:=eq_true (by omega)
@[go_sem] theorem adh {p n a1:Nat} (h:p<n):(p≤n+a1)=True:=eq_true (by omega)
@[go_sem] theorem adp (n a1 a2:Nat):(n≤n+a1+a2)=True:=eq_true (by omega)
@[go_sem] theorem ady {p n a1 a2:Nat} (h:p<n):(p<n+a1+a2)=True:=eq_true (by omega)
@[go_sem] theorem adi {p n a1 a2:Nat} (h:p<n):(p≤n+a1+a2)=True:=eq_true (by omega)
@[go_sem] theorem adq (n a1 a2 a3:Nat):(n≤n+a1+a2+a3)=True:=eq_true (by omega)
@[go_sem] theorem adz {p n a1 a2 a3:Nat} (h:p<n):(p<n+a1+a2+a3)=True:=eq_true (by omega)
@[go_sem] theorem adj {p n a1 a2 a3:Nat} (h:p<n):(p≤n+a1+a2+a3)=True:=eq_true (by omega)
@[go_sem] theorem adr (n a1 a2 a3 a4:Nat):(n≤n+a1+a2+a3+a4)=True:=eq_true (by omega)
@[go_sem] theorem adA {p n a1 a2 a3 a4:Nat} (h:p<n):(p<n+a1+a2+a3+a4)=True:=eq_true (by omega)
@[go_sem] theorem adk {p n a1 a2 a3 a4:Nat} (h:p<n):(p≤n+a1+a2+a3+a4)=True:=eq_true (by omega)
@[go_sem] theorem ads (n a1 a2 a3 a4 a5:Nat):(n≤n+a1+a2+a3+a4+a5)=True:=eq_true (by omega)
@[go_sem] theorem adB {p n a1 a2 a3 a4 a5:Nat} (h:p<n):(p<n+a1+a2+a3+a4+a5)=True:=eq_true (by omega)
@[go_sem] theorem adl {p n a1 a2 a3 a4 a5:Nat} (h:p<n):(p≤n+a1+a2+a3+a4+a5)=True:=eq_true (by omega)
@[go_sem] theorem adt (n a1 a2 a3 a4 a5 a6:Nat):(n≤n+a1+a2+a3+a4+a5+a6)=True:=eq_true (by omega)
@[go_sem] theorem adC {p n a1 a2 a3 a4 a5 a6:Nat} (h:p<n):(p<n+a1+a2+a3+a4+a5+a6)=True:=eq_true (by omega)
@[go_sem] theorem adm {p n a1 a2 a3 a4 a5 a6:Nat} (h:p<n):(p≤n+a1+a2+a3+a4+a5+a6)=True:=eq_true (by omega)
@[go_sem] theorem adu (n a1 a2 a3 a4 a5 a6 a7:Nat):(n≤n+a1+a2+a3+a4+a5+a6+a7)=True:=eq_true (by omega)
@[go_sem] theorem adD {p n a1 a2 a3 a4 a5 a6 a7:Nat} (h:p<n):(p<n+a1+a2+a3+a4+a5+a6+a7)=True:=eq_true (by omega)
@[go_sem] theorem adn {p n a1 a2 a3 a4 a5 a6 a7:Nat} (h:p<n):(p≤n+a1+a2+a3+a4+a5+a6+a7)=True:=eq_true (by omega)
@[go_sem] theorem adw (n a1 a2 a3 a4 a5 a6 a7 a8:Nat):(n≤n+a1+a2+a3+a4+a5+a6+a7+a8)=True:=eq_true (by omega)
@[go_sem] theorem adE {p n a1 a2 a3 a4 a5 a6 a7 a8:Nat} (h:p<n):(p<n+a1+a2+a3+a4+a5+a6+a7+a8)=True:=eq_true (by omega)
@[go_sem] theorem ado {p n a1 a2 a3 a4 a5 a6 a7 a8:Nat} (h:p<n):(p≤n+a1+a2+a3+a4+a5+a6+a7+a8)=True:=eq_true (by omega)
@[go_sem] theorem adg {p n:Nat} (h:p<n):(p≤n)=True:=eq_true (by omega)
@[go_sem] theorem adF (n a1:Nat):(n<n+1+a1)=True:=eq_true (by omega)
@[go_sem] theorem adG (n a1 a2:Nat):(n<n+1+a1+a2)=True:=eq_true (by omega)
@[go_sem] theorem adH (n a1 a2 a3:Nat):(n<n+1+a1+a2+a3)=True:=eq_true (by omega)
@[go_sem] theorem adI (n a1 a2 a3 a4:Nat):(n<n+1+a1+a2+a3+a4)=True:=eq_true (by omega)
@[go_sem] theorem adJ (n a1 a2 a3 a4 a5:Nat):(n<n+1+a1+a2+a3+a4+a5)=True:=eq_true (by omega)
@[go_sem] theorem adK (n a1 a2 a3 a4 a5 a6:Nat):(n<n+1+a1+a2+a3+a4+a5+a6)=True:=eq_true (by omega)
theorem i64_in{n:Int}(h : -9223372036854775808≤n)(h':n≤9223372036854775807):IntKind.i64.wrap n=n:=by rw [IntKind.wrap_i64];omega
theorem kh{w w':World}(h:Below w.heap.size w w'):∃ objs d,w'=w.ext objs d:=by
 refine ⟨w'.heap.extract w.heap.size w'.heap.size,w'.drawn,?_⟩
 obtain ⟨hos,htape,hout,hsize,hblock⟩:=h
 cases w with | mk heap tape drawn os output =>
 cases w' with | mk heap' tape' drawn' os' output' =>
 simp only at hos htape hout hsize hblock
 subst hos htape hout
 simp only [World.ext,World.mk.injEq,and_true]
 apply Array.ext_getElem?
 intro i
 rw [Array.getElem?_append]
 split
 · rename_i hi;exact hblock i hi
 · rename_i hi
   rw [Array.getElem?_extract]
   split
   · congr 1;omega
   · rename_i h2
     rw [Array.getElem?_eq_none];omega
section
variable {P:Program} {ops:Array Oper} {md:Region.Mode}

@[go_sem] def ab6 (P:Program) (D:World→Prop) (v:Value):Result Next→Prop
 | .ok (.value u) w'=>D w'∧u=v
 | .ok .skip w'=>D w'∧v=undef
 | .ok (.enter f args) w'=>Calls P f args w' (fun e w''=>e=.returned v∧D w'')
 | _=>False

def jR(P:Program)(ops:Array Oper)(C:Array Bool→World→Prop)(i:Nat)(o:Oper)(v:Value)(a:Act):Prop :=
 (Region.wanted o (yielded ops a.tmps)=true∧∀ L w,L.getD i true=false→C L w→ab6 P (C (L.setIfInBounds i true)) v ((execOp a.eval o).run P w)) ∨
 (Region.wanted o (yielded ops a.tmps)=false∧v=undef∧∀ L w,L.getD i true=false→C L w→C (L.setIfInBounds i true) w)

variable {C:Array Bool→World→Prop}

theorem jR.of_same{i:Nat}{o:Oper}{v:Value}{a a':Act}(hy:jR P ops C i o v a)(he:execOp a'.eval o=execOp a.eval o)
   (hw:Region.wanted o (yielded ops a'.tmps)=Region.wanted o (yielded ops a.tmps)):jR P ops C i o v a':=by
 unfold jR at *
 rw [he,hw]
 exact hy

theorem getD_set_true{L:Array Bool}{k j:Nat}(h:L.getD j true=true∨j=k):(L.setIfInBounds k true).getD j true=true:=by
 by_cases hjk:k=j
 · subst hjk
   rcases Nat.lt_or_ge k L.size with h' | h'
   · simp [h']
   · simp
 · rw [getD_set_ne true hjk];exact h.resolve_right (Ne.symm hjk)

end
def gv(c:Bool)(v:Value):Value:=bif c then v else undef
@[simp,go_sem] theorem gv_true (v:Value):gv true v=v:=rfl
@[simp,go_sem] theorem gv_false (v:Value):gv false v=undef:=rfl
@[simp,go_sem] theorem gv_self_t {g:Bool} (h:g=true) (v:Value):gv g v=v:=by subst h;rfl
section
variable {P:Program} {ops:Array Oper} {s k:Nat} {D:Bool→World→Prop} {U:World→Prop} {Q:Act→Prop} {o:Oper} {rest:List Oper} {a:Act}

end

structure PD where
 b:Bool
 d:Nat
structure PX where
 b:Bool
 o:Array Obj
 d:Nat
structure XD where
 o:Array Obj
 d:Nat
instance:Nonempty PD:=⟨⟨true,0⟩⟩
instance:Nonempty PX:=⟨⟨true,#[],0⟩⟩
instance:Nonempty XD:=⟨⟨#[],0⟩⟩
def wif(b:Bool)(x y:World):World:=bif b then x else y
@[simp,go_sem] theorem wif_true (x y:World):wif true x y=x:=rfl
@[simp,go_sem] theorem wif_false (x y:World):wif false x y=y:=rfl
@[simp,go_sem] theorem wif_cell (b:Bool) (x y:World) (a:Addr):(wif b x y).cell? a=bif b then x.cell? a else y.cell? a:=by cases b<;>rfl
@[simp,go_sem] theorem wif_frozen (b:Bool) (x y:World) (a:Addr):(wif b x y).frozen? a=bif b then x.frozen? a else y.frozen? a:=by cases b<;>rfl
@[simp,go_sem] theorem wif_size (b:Bool) (x y:World):(wif b x y).heap.size=bif b then x.heap.size else y.heap.size:=by cases b<;>rfl
@[go_sem] def Dr (W w':World):Prop:=∃ d,w'=W.ext #[] d
@[go_sem] def Ex (W w':World):Prop:=∃ x:XD,w'=W.ext x.o x.d

theorem Dr.drew(W:World):Dr W W.drew:=⟨W.drawn+1,by unfold World.ext World.drew;rw [Array.append_empty]⟩
theorem Ex.drew(W:World):Ex W W.drew:=⟨⟨#[],W.drawn+1⟩,by unfold World.ext World.drew;rw [Array.append_empty]⟩
theorem Ex.refl(W:World):Ex W W:=⟨⟨#[],W.drawn⟩,by simp [World.ext]⟩
theorem Ex.of_below{W w:World}(h:Below W.heap.size W w):Ex W w:=by obtain ⟨o,d,h⟩:=kh h;exact ⟨⟨o,d⟩,h⟩
theorem Ex.below{W w:World}(h:Ex W w):Below W.heap.size W w:=by obtain ⟨x,rfl⟩:=h;exact vZ _ _ _
theorem Calls.ex{P:Program}{f:FuncId}{args:Array Value}{W:World}{objs:Array Obj}{d:Nat}{v u:Value}
   (h:Calls P f args (W.ext objs d) fun e w'=>e=.returned u∧Below (W.ext objs d).heap.size (W.ext objs d) w') (hv:u=v):Calls P f args (W.ext objs d) fun e w''=>e=.returned v∧Ex W w'' :=
 h.mono fun _ _ ⟨he,hb⟩=>⟨hv ▸ he,by obtain ⟨o',d',rfl⟩:=kh hb;exact ⟨⟨_,_⟩,ext_ext _ _ _ _ _⟩⟩

section
variable {P:Program} {id:Nat} {Q:Exit→Act→World→Prop} {a:Act} {w:World} {l:List Oper}
end

variable {P:Program}

theorem sA(w:World)(g:Nat)(cs:Array Value)(k:Nat)(hk:k≠g):(w.setRow g cs).heap[k]? = w.heap[k]? := by
 simp only [World.setRow,Array.getElem?_modify]
 rw [if_neg (by omega)]
theorem jM(w:World)(g o size n cap:Nat)(cur:List Value)(t:TypeId)(fz:Nat × Nat)(hg:w.heap[g]? = some (.cells cur.toArray t fz))(h:o+n*size≤cur.length) :
   (Builtin.firstCells size n (.slice (some ⟨g,o,none⟩) n cap)).run P w=.ok ((cur.drop o).take (n*size)).toArray w:=by
 have hl:=run_loadCells_list (P:=P) w ⟨g,o,none⟩ ((cur.drop o).take (n*size)) (fun j v hv=>by
   rw [List.getElem?_take] at hv
   split at hv
   · rw [List.getElem?_drop] at hv
     unfold World.cell?
     by_cases hj:j=0
     · subst hj;simp only [Addr.add,if_true,hg];simpa using hv
     · simp only [Addr.add,if_neg hj,hg];simpa using hv
   · cases hv)
 have hlen:((cur.drop o).take (n*size)).length=n*size:=by simp;omega
 rw [hlen] at hl
 exact hl
theorem nextslicecap_le(a b:Nat):Builtin.nextslicecap a b≤a+2*b+2048+b:=by
 unfold Builtin.nextslicecap
 split
 · omega
 · split
   · omega
   · have h:∀ r c,c≤a+(a+768) / 4→Builtin.growBy a r c≤a+(a+768) / 4:=by
       intro r
       induction r with
       | zero=>intro c hc;exact hc
       | succ r ih =>
         intro c hc
         unfold Builtin.growBy
         split
         · exact hc
         · exact ih _ (by omega)
     by_cases hb:b≤a+(a+768) / 4
     · have:=h 4 b hb;omega
     · have h1:Builtin.growBy a 4 b=b:=by unfold Builtin.growBy;rw [if_pos (by omega)]
       omega
theorem jH{w:World}{b:Nat}{x:Obj}(h:w.heap[b]? = some x):b<w.heap.size:=by
 rcases Nat.lt_or_ge b w.heap.size with h' | h'
 · exact h'
 · rw [Array.getElem?_eq_none h'] at h;cases h

theorem Src.row(w:World)(t e':TypeId)(hk:P.underlying t=some (.slice e'))(size V o m vc:Nat)(news:List Value)(hl:news.length=m*size)(hV:∀ j v,news[j]? = some v→w.cell? ⟨V,o+j,none⟩=some v)(h1:∀ v∈news,v.oneCell'=true) :
   Src P size t (.slice (some ⟨V,o,none⟩) m vc) m news w :=
 Src.ofSlice w hk ⟨V,o,none⟩ m vc news hl (fun j v hj=>by
   have:=hV j v hj
   unfold Addr.add;split
   · rename_i h;subst h;exact this
   · exact this) h1

theorem lH(w:World)(t tx ty e:TypeId)(i:TypeInfo)(z:Value)(ht:P.underlying t=some (.slice e))(hi:P.info? e=some i)(hz:i.zero=some z)(hzs:z.cells.size=i.size)
   (base:Option Addr) (n c k:Nat) (olds:List Value) (hold:(Builtin.firstCells i.size n (.slice base n c)).run P w.drew=.ok olds.toArray w.drew) (hol:olds.length=n*i.size) (x:Value) (news:List Value) (hsrc:Src P i.size tx x k news w)
   (hg:c<n+k) (hn:n+k≤1000000000) (hb:i.bytes≤4096) :
   ∃ C w1,n+k≤C∧C≤maxLen∧(Builtin.append_ #[t,tx] ty #[.slice base n c,x]).run P w=.ok (.slice (some ⟨w.heap.size,0,none⟩) (n+k) C) w1 ∧
     (∃ cur1:List Value,w1.heap[w.heap.size]? = some (.cells cur1.toArray e (0,0))∧cur1.length=C*i.size∧cur1.take ((n+k)*i.size)=olds++news)∧w1.heap.size=w.heap.size+1∧Below w.heap.size w w1:=by
 have hbytes:Builtin.nextslicecap (n+k) c*i.bytes≤281474976710656:=by
   have h1:=nextslicecap_le (n+k) c
   have h2:Builtin.nextslicecap (n+k) c*i.bytes≤5000000000*4096:=Nat.mul_le_mul (by omega) hb
   omega
 have hr:=run_append_grow_src (P:=P) (w:=w) t tx ty e i z ht hi hz base n c olds hold x k news hsrc hg (by omega) hbytes
 have hC:=grownCap_ge w (n+k) c e
 have hnl:=hsrc.newsLen
 refine ⟨grownCap w (n+k) c e,_,hC,grownCap_le_maxLen w (n+k) c e (by unfold maxLen;omega),hr,⟨((olds++news).toArray++Builtin.zeroCells z.cells (grownCap w (n+k) c e-(n+k))).toList,?_,?_,?_⟩,by simp,(Below.refl _ w).drew.alloc (Nat.le_refl _) _⟩
 · show (w.drew.heap.push _)[w.drew.heap.size]? = _
   rw [Array.getElem?_push_size]
 · simp only [Array.toList_append,List.length_append,Array.length_toList,Builtin.zeroCells,Array.size_map,Array.size_range,hzs,hol,hnl]
   rw [← Nat.add_mul,← Nat.add_mul]
   congr 1;omega
 · rw [Array.toList_append,List.take_append_of_le_length (by simp [hol,hnl,Nat.add_mul])]
   show List.take _ (olds++news)=_
   rw [List.take_of_length_le (by simp [hol,hnl,Nat.add_mul])]

theorem rE(w:World)(t tx ty e:TypeId)(i:TypeInfo)(ht:P.underlying t=some (.slice e))(hi:P.info? e=some i)(B o n c:Nat)(x:Value)(k:Nat)(news:List Value)(hsrc:Src P i.size tx x k news w)
   (hroom:n+k≤c) (cur:Array Value) (t':TypeId) (hB:w.heap[B]? = some (.cells cur t' (0,0))) (hfit:o+n*i.size+news.length≤cur.size) :
   (Builtin.append_ #[t,tx] ty #[.slice (some ⟨B,o,none⟩) n c,x]).run P w=.ok (.slice (some ⟨B,o,none⟩) (n+k) c) (w.setRow B (splice cur.toList (o+n*i.size) news).toArray):=by
 have hst:=run_storeCells_at P B (o+n*i.size) t' news 0 cur w hB (by simpa using hfit) hsrc.one
 rcases hsrc.kind with ⟨e',hk⟩ | hk<;>simp [Builtin.append_,run_underlying ht,run_underlying hk,sizeOf,typeInfo,hi,hsrc.len,hroom,hsrc.cells,Addr.add_lit,hst,splice]
end Go.Lp

namespace Go.Sy
open Go.RowKit Go.Lp
def aau:TypeDesc→Bool
 | .struct _ | .array _ _=>true
 | _=>false
def tyk(P:Program)(T:TypeId):Option (Bool × Nat):=(P.underlying T).bind fun d=>(P.info? T).map fun i=>(aau d,i.size)
theorem gE{P:Program}{T:TypeId}{ag:Bool}{k:Nat}(h:tyk P T=some (ag,k)):∃ d i,P.underlying T=some d∧P.info? T=some i∧aau d=ag∧i.size=k:=by
 unfold tyk at h
 cases hd:P.underlying T with
 | none=>rw [hd] at h;cases h
 | some d =>
   cases hi:P.info? T with
   | none=>rw [hd,hi] at h;cases h
   | some i =>
     rw [hd,hi] at h
     simp only [Option.bind_some,Option.map_some,Option.some.injEq,Prod.mk.injEq] at h
     exact ⟨d,i,rfl,rfl,h.1,h.2⟩
section
variable {P:Program}
theorem cF{w:World}{T:TypeId}{i:TypeInfo}(hi:P.info? T=some i):(sizeOf T).run P w=.ok i.size w:=by
 simp [sizeOf,typeInfo,hi]
theorem ox{w:World}{T:TypeId}{d:TypeDesc}(hd:P.underlying T=some d):(isAgg T).run P w=.ok (aau d) w:=by
 simp only [isAgg,underlying,program,Sem.run_bind,Sem.run,hd,Result.andThen]
 cases d<;>rfl
theorem gk{w:World}{T:TypeId}{ag:Bool}{k:Nat}(h:tyk P T=some (ag,k))(b o:Nat)(f:Nat→Value)(hc:∀ j,j<(if ag then k else 1)→w.cell? ⟨b,o+j,none⟩=some (f j)) :
   (loadVar T ⟨b,o,none⟩).run P w=.ok (if ag then .agg ((List.range k).map f).toArray else f 0) w:=by
 obtain ⟨d,i,hd,hi,ha,hs⟩:=gE h
 have hadd:∀ j,(Addr.mk b o none).add j=⟨b,o+j,none⟩:=fun j=>by
   unfold Addr.add;split
   · rename_i h;subst h;rfl
   · rfl
 simp only [loadVar,Sem.run_bind,ox hd,Result.andThen]
 rw [ha]
 cases ag with
 | true =>
   simp only [if_true,Sem.run_bind,cF hi,Result.andThen]
   rw [hs,run_loadCells w ⟨b,o,none⟩ k f (fun j hj=>by rw [hadd];exact hc j (by simpa using hj))]
   rfl
 | false =>
   have h0:=hc 0 (by simp)
   simp only [Bool.false_eq_true,if_false,load,Sem.run]
   rw [show (⟨b,o,none⟩:Addr)=⟨b,o+0,none⟩ from rfl,h0]
def tkL:Nat→List Value→Option (List Value)
 | 0,_=>some []
 | k+1,c::cs=>match tkL k cs with
   | some l=>some (c::l)
   | none=>none
 | _+1,[]=>none
theorem uX:∀ (k:Nat) (cs l:List Value),tkL k cs=some l→k≤cs.length∧l=cs.take k
 | 0,_,l,h=>by simp only [tkL,Option.some.injEq] at h;subst h;simp
 | k + 1,c::cs,l,h=>by
   unfold tkL at h
   split at h
   · rename_i l' hl
     simp only [Option.some.injEq] at h
     subst h
     obtain ⟨h1,rfl⟩:=uX k cs l' hl
     exact ⟨by simp;omega,by simp⟩
   · cases h
 | k+1,[],l,h=>by cases h
def rdC(ag:Bool)(k:Nat)(cs:List Value)(o:Nat):Option Value :=
 match ag with
 | true=>match tkL k (cs.drop o) with
   | some l=>some (.agg l.toArray)
   | none=>none
 | false=>cs[o]?
theorem mC{w:World}{T:TypeId}{ag:Bool}{k:Nat}(h:tyk P T=some (ag,k)){b o:Nat}{cs:List Value}{v:Value}(hv:rdC ag k cs o=some v){p:Nat}(hc:∀ j u,cs[j]? = some u→w.cell? ⟨b,p+j,none⟩=some u) :
   (loadVar T ⟨b,p+o,none⟩).run P w=.ok v w:=by
 unfold rdC at hv
 cases ag with
 | true =>
   simp only at hv
   split at hv
   · rename_i l hl
     obtain ⟨hle,rfl⟩:=uX _ _ _ hl
     rw [List.length_drop] at hle
     simp only [Option.some.injEq] at hv
     rw [gk h b (p+o) (fun j=>cs.getD (o+j) undef) (fun j hj=>by
       have:o+j<cs.length:=by simp at hj;omega
       rw [Nat.add_assoc]
       exact hc (o+j) _ (by simp [List.getD,this]))]
     rw [← hv]
     simp only [if_true]
     congr 3
     apply List.ext_getElem
     · simp;omega
     · intro j h1 h2
       simp at h1 h2 ⊢
       simp [List.getD,show o+j<cs.length by omega]
   · cases hv
 | false =>
   simp only at hv
   rw [gk h b (p+o) (fun _=>v) (fun j hj=>by
     have:j=0:=by simp at hj;omega
     subst this
     exact hc o v hv)]
   rfl
theorem dL{w:World}{b:Nat}{T:TypeId}{cs:List Value}(h:w.heap[b]? = some (.cells cs.toArray T (0,0)))(j:Nat):w.cell? ⟨b,j,none⟩=cs[j]? := by
 unfold World.cell?
 simp only [h]
 simp
variable {n:Fr} {s:Sta} {d:Option Tmp} {ty:TypeId} {pos:String} {af:Array Edge} {gd:Option (Nat × Bool)} {v:Value}
theorem fq{x:Operand}{U T:TypeId}{ag:Bool}{k b o:Nat}{cs:List Value}(i:Nat)(hk:tyk P U=some (ag,k))(hx:ev s.env x=some (true,.pointer (some ⟨b,o,none⟩)))(hi:s.hp[i]? = some (Box b T cs))(hv:rdC ag k cs o=some v) :
   Quiet P n ⟨d,.load U x,ty,pos,af,gd⟩ s v:=fun w S fp a hst he hn=>by
 have h1:=he.val hx rfl
 have hb:=(hst.res i _ hi).1
 have:(execOp a.eval ⟨d,.load U x,ty,pos,af,gd⟩).run P w=.ok (.value v) w:=by
   unfold execOp;dsimp only;rw [h1]
   have:=mC (w:=w) hk hv (b:=b) (p:=0) (fun j u hu=>by rw [Nat.zero_add,dL hb];exact hu)
   rw [Nat.zero_add] at this
   show ((loadVar U ⟨b,o,none⟩).bind fun r=>Sem.pure (Next.value r)).run P w=_
   rw [Sem.run_bind',this];rfl
 rw [this];exact bE _ _
def At(b o:Nat)(row:List D):Per :=
 ⟨fun w S=>S b∧∀ j d,row[j]? = some d→∃ u,w.cell? ⟨b,o+j,none⟩=some u∧u.oneCell'=true∧dT w S u d,
  fun h h1 h2=>⟨h2 _ h.1,fun j d hj=>let ⟨u,hu,ho,hr⟩:=h.2 j d hj; ⟨u,by rw [← hu];exact World.cell?_of_block (h1 b h.1),ho,hr.mono h1 h2⟩⟩⟩
def tkD:Nat→List D→Option (List Value)
 | 0,_=>some []
 | k+1,.v x::cs=>match tkD k cs with
   | some l=>some (x::l)
   | none=>none
 | _+1,_=>none
theorem aag:∀ (k:Nat) (cs:List D) (l:List Value),tkD k cs=some l→l.length=k∧∀ j,j<k→cs[j]? = some (.v (l.getD j undef))
 | 0,_,l,h=>by simp only [tkD,Option.some.injEq] at h;subst h;exact ⟨rfl,fun j hj=>by omega⟩
 | k + 1,.v x::cs,l,h=>by
   unfold tkD at h
   split at h
   · rename_i l' hl
     simp only [Option.some.injEq] at h
     subst h
     obtain ⟨h1,h2⟩:=aag k cs l' hl
     refine ⟨by simp [h1],fun j hj => ?_⟩
     cases j with
     | zero=>rfl
     | succ j=>simpa using h2 j (by omega)
   · cases h
 | k+1,.sl _::_,l,h=>by simp [tkD] at h
 | k+1,[],l,h=>by simp [tkD] at h
def rdD(ag:Bool)(k:Nat)(row:List D)(o:Nat):Option Value :=
 match ag with
 | true=>match tkD k (row.drop o) with
   | some l=>some (.agg l.toArray)
   | none=>none
 | false=>match row[o]? with
   | some (.v x)=>some x
   | _=>none
theorem jL{w:World}{S:ba}{u x:Value}(h:dT w S u (.v x)):u=x:=by cases h;rfl
theorem mD{w:World}{S:ba}{T:TypeId}{ag:Bool}{k:Nat}(h:tyk P T=some (ag,k)){b o p:Nat}{row:List D}{v:Value}(hv:rdD ag k row o=some v)(hp:(At b p row).holds w S) :
   (loadVar T ⟨b,p+o,none⟩).run P w=.ok v w:=by
 obtain ⟨_,hc⟩:=hp
 unfold rdD at hv
 cases ag with
 | true =>
   simp only at hv
   split at hv
   · rename_i vs hm
     simp only [Option.some.injEq] at hv
     obtain ⟨hl,hg⟩:=aag _ _ _ hm
     rw [gk h b (p+o) (fun j=>vs.getD j undef) (fun j hj=>by
         have hj':j<k:=by simpa using hj
         have e2:=hg j hj'
         rw [List.getElem?_drop] at e2
         obtain ⟨u,hu,_,hr⟩:=hc _ _ e2
         rw [Nat.add_assoc,hu,jL hr])]
     rw [← hv]
     simp only [if_true]
     congr 3
     apply List.ext_getElem
     · simp [hl]
     · intro j h1 h2
       simp [List.getD,h2]
   · cases hv
 | false =>
   simp only at hv
   split at hv
   · rename_i x hx
     simp only [Option.some.injEq] at hv
     subst hv
     obtain ⟨u,hu,_,hr⟩:=hc _ _ hx
     rw [gk h b (p+o) (fun _=>x) (fun j hj=>by
       have:j=0:=by simp at hj;omega
       subst this
       rw [Nat.add_zero,hu,jL hr])]
     rfl
   · cases hv
def Ent(ps:List Per)(p:Per):Prop:=∀ w S,(∀ q∈ps,q.holds w S)→p.holds w S
theorem Ent.of{ps:List Per}{p:Per}(h:p∈ps):Ent ps p:=fun _ _ hq=>hq p h
theorem cm{x:Operand}{U:TypeId}{ag:Bool}{k b p o:Nat}{row:List D}(hk:tyk P U=some (ag,k))(hx:ev s.env x=some (true,.pointer (some ⟨b,p+o,none⟩)))(hi:Ent s.ps (At b p row))(hv:rdD ag k row o=some v) :
   Quiet P n ⟨d,.load U x,ty,pos,af,gd⟩ s v:=fun w S fp a hst he hn=>by
 have h1:=he.val hx rfl
 have:(execOp a.eval ⟨d,.load U x,ty,pos,af,gd⟩).run P w=.ok (.value v) w:=by
   unfold execOp;dsimp only;rw [h1]
   have:=mD (P:=P) hk hv (hi w S hst.per)
   show ((loadVar U ⟨b,p+o,none⟩).bind fun r=>Sem.pure (Next.value r)).run P w=_
   rw [Sem.run_bind',this];rfl
 rw [this];exact bE _ _
theorem cq{x:Operand}{U:TypeId}{ag:Bool}{k b p o:Nat}{row:List D}(hk:tyk P U=some (ag,k))(hx:ev s.env x=some (true,.pointer (some ⟨b,p+o,none⟩))){c':Bool}(hi:cnd c' (At b p row)∈s.ps)(hc':c'=true)(hv:rdD ag k row o=some v) :
   Quiet P n ⟨d,.load U x,ty,pos,af,gd⟩ s v:=fun w S fp a hst he hn=>by
 have h1:=he.val hx rfl
 have:(execOp a.eval ⟨d,.load U x,ty,pos,af,gd⟩).run P w=.ok (.value v) w:=by
   unfold execOp;dsimp only;rw [h1]
   have:=mD (P:=P) hk hv (hst.per _ hi hc')
   show ((loadVar U ⟨b,p+o,none⟩).bind fun r=>Sem.pure (Next.value r)).run P w=_
   rw [Sem.run_bind',this];rfl
 rw [this];exact bE _ _
theorem jo{R:World→World→Prop}{x y:Operand}{T E:TypeId}{ag:Bool}{sz i c nn:Nat}{z:Int}{ad:Option Addr}{rows:List (List D)}{row:List D}(hT:P.underlying T=some (.slice E))(hk:tyk P E=some (ag,sz))(hx:ev s.env x=some (true,.slice ad nn c))(hs:Ent s.ps (Sh (.slice ad nn c) (.sl rows)))
   (hy:ev s.env y=some (true,.int .i64 z)) (hr:rows[i]? = some row) (hz:z=(i:Int)) (hl:row.length=sz) :
   kG (β:=Nat × Nat) P R n ⟨d,.indexAddr T x y,ty,pos,af,gd⟩ s (fun p=>.pointer (some ⟨p.1,p.2,none⟩)) (fun p=>[At p.1 p.2 row]):=fun w S fp a hst he hn=>by
 have h1:=he.val hx rfl
 subst hz
 have h2:=he.val hy rfl
 obtain ⟨de,ie,_,hie,_,hsz⟩:=gE hk
 have hrep:dT w S (.slice ad nn c) (.sl rows):=hs w S hst.per
 have hilt:i<rows.length:=(List.getElem?_eq_some_iff.1 hr).1
 cases hrep with
 | e a c hc=>simp at hr
 | sl b o _ sz' _ us hb hn' hc hrl hcell hd =>
   have hsz':sz'=sz:=by rw [← hrl i row hr];exact hl
   subst hsz'
   refine ⟨(b,o+i*sz'),fun w1 hb1 => ?_,fun p hp => ?_⟩
   · have:(execOp a.eval ⟨d,.indexAddr T x y,ty,pos,af,gd⟩).run P w1=.ok (.value (.pointer (some ⟨b,o+i*sz',none⟩))) w1:=by
       unfold execOp;dsimp only;rw [h1,h2]
       show ((Instr.indexAt T (.slice (some ⟨b,o,none⟩) rows.length c) (.int .i64 i)).bind fun r=>Sem.pure (Next.value r)).run P w1=_
       have hT':P.underlying T=some (.slice (P.elem T)):=by rw [hT];unfold Program.elem;rw [hT]
       have hE:P.elem T=E:=by unfold Program.elem;rw [hT]
       rw [Sem.run_bind',run_indexAt_slice _ _ _ _ _ _ _ hT',if_pos (by omega),hE,cF hie,hsz]
       simp only [Result.andThen,Int.toNat_natCast]
       unfold Addr.add
       split
       · rename_i h0;rw [h0];rfl
       · rfl
     rw [this];exact bE _ _
   · simp only [List.mem_singleton] at hp
     subst hp
     exact ⟨hb,fun j dj hj=>⟨us i j,by rw [← (hcell i j row dj hr hj).1],(hcell i j row dj hr hj).2,hd i j row dj hr hj⟩⟩
theorem rj{R:World→World→Prop}{x y:Operand}{T E:TypeId}{ag:Bool}{sz i c nn:Nat}{z:Int}{ad:Option Addr}{rows:List (List D)}{row:List D}(hT:P.underlying T=some (.slice E))(hk:tyk P E=some (ag,sz))(hx:ev s.env x=some (true,.slice ad nn c))(hs:Sh (.slice ad nn c) (.sl rows)∈s.ps)
   (hy:ev s.env y=some (true,.int .i64 z)) (hr:rows[i]? = some row) (hz:z=(i:Int)) (hl:row.length=sz) :
   kG (β:=Nat × Nat) P R n ⟨d,.indexAddr T x y,ty,pos,af,gd⟩ s (fun p=>.pointer (some ⟨p.1,p.2,none⟩)) (fun p=>[At p.1 p.2 row]):=jo hT hk hx (.of hs) hy hr hz hl
theorem eV{x y:Operand}{T E:TypeId}{ag:Bool}{sz i c nn:Nat}{z:Int}{ad:Option Addr}{rows:List (List D)}{row:List D}(hT:P.underlying T=some (.slice E))(hk:tyk P E=some (ag,sz))(hx:ev s.env x=some (true,.slice ad nn c))(hs:Sh (.slice ad nn c) (.sl rows)∈s.ps)
   (hy:ev s.env y=some (true,.int .i64 z)) (hr:rows[i]? = some row) (hz:z=(i:Int)) (hl:row.length=sz) :
   jq (β:=Nat × Nat) P n ⟨d,.indexAddr T x y,ty,pos,af,gd⟩ s (fun p=>.pointer (some ⟨p.1,p.2,none⟩)) (fun p=>[At p.1 p.2 row]):=rj hT hk hx hs hy hr hz hl
theorem ai{x y:Operand}{T E:TypeId}{ag:Bool}{sz i c nn:Nat}{z:Int}{ad:Option Addr}{rows:List (List D)}{row:List D}(hT:P.underlying T=some (.slice E))(hk:tyk P E=some (ag,sz))(hx:ev s.env x=some (true,.slice ad nn c))(hs:Ent s.ps (Sh (.slice ad nn c) (.sl rows)))
   (hy:ev s.env y=some (true,.int .i64 z)) (hr:rows[i]? = some row) (hz:z=(i:Int)) (hl:row.length=sz) :
   jq (β:=Nat × Nat) P n ⟨d,.indexAddr T x y,ty,pos,af,gd⟩ s (fun p=>.pointer (some ⟨p.1,p.2,none⟩)) (fun p=>[At p.1 p.2 row]):=jo hT hk hx hs hy hr hz hl
end
section
variable {P:Program} {n:Fr} {s:Sta} {d:Option Tmp} {ty:TypeId} {pos:String} {af:Array Edge} {gd:Option (Nat × Bool)} {v:Value} {K:Sta→Prop}

def evs(env:Env):List Operand→Option (List Value)
 | []=>some []
 | x::l=>match ev env x,evs env l with
   | some (true,v),some vs=>some (v::vs)
   | _,_=>none
theorem eM{a:Act}{env:Env}(he:cG a env):∀ (l:List Operand) (vs:List Value),evs env l=some vs→l.map a.eval=vs
 | [],vs,h=>by simp only [evs,Option.some.injEq] at h;subst h;rfl
 | x :: l,vs,h=>by
   unfold evs at h
   split at h
   · rename_i v vs' hx hl
     simp only [Option.some.injEq] at h
     subst h
     rw [List.map_cons,he.val hx rfl,eM he l vs' hl]
   · cases h

theorem cA{fn:Fn}{l:List Operand}{vs:List Value}(hx:evs s.env l=some vs):Quiet P n ⟨d,.makeFunc fn #[] l.toArray,ty,pos,af,gd⟩ s (.func fn #[] vs.toArray):=uO fun a he=>eM he l vs hx
def jG(P:Program)(T:TypeId)(i:Nat):Option Nat :=
 match P.underlying T with
 | some (.struct fs)=>(fs[i]?).bind fun f=>(P.info? f.type).bind fun j=>if j.size=0 then none else some f.offset
 | _=>none
theorem lX {x:Operand} {T:TypeId} {i b o off:Nat} (hf:jG P T i=some off) (hx:ev s.env x=some (true,.pointer (some ⟨b,o,none⟩))) :
   Quiet P n ⟨d,.fieldAddr T x i,ty,pos,af,gd⟩ s (.pointer (some ⟨b,o+off,none⟩)):=.run1 hx fun ρ w h1=>by
 unfold jG at hf
 split at hf
 · rename_i fs hT
   cases hi:fs[i]? with
   | none=>rw [hi] at hf;cases hf
   | some f =>
     rw [hi] at hf
     cases hj:P.info? f.type with
     | none=>rw [Option.bind_some,hj] at hf;cases hf
     | some j =>
       rw [Option.bind_some,hj,Option.bind_some] at hf
       split at hf
       · cases hf
       · rename_i h0
         simp only [Option.some.injEq] at hf
         subst hf
         unfold execOp;dsimp only;rw [h1]
         show ((Instr.fieldAt T (.pointer (some ⟨b,o,none⟩)) i).bind fun r=>Sem.pure (Next.value r)).run P w=_
         rw [Sem.run_bind']
         have:(Instr.fieldAt T (.pointer (some ⟨b,o,none⟩)) i).run P w=.ok (.pointer (some ⟨b,o+f.offset,none⟩)) w:=by
           have hadd:(Addr.mk b o none).add f.offset=⟨b,o+f.offset,none⟩:=by
             unfold Addr.add;split
             · rename_i h;rw [h];rfl
             · rfl
           simp only [Instr.fieldAt,Sem.run_bind,run_underlying hT,Result.andThen,hi,Instr.sureAddr,fieldPlace,Sem.run_pure,cF hj,if_neg h0,hadd]
         rw [this];rfl
 · cases hf
theorem bk{x:Operand}{T E:TypeId}{ad:Option Addr}{k c:Nat}(hT:P.underlying T=some (.slice E))(hx:ev s.env x=some (true,.slice ad k c)) :
   Quiet P n ⟨d,.call ⟨.builtin .len,#[x],#[T]⟩,ty,pos,af,gd⟩ s (.int .i64 k):=.run1 hx fun ρ w h1=>by
 have hT':P.underlying T=some (.slice (P.elem T)):=by rw [hT];unfold Program.elem;rw [hT]
 have:(Builtin.len_ #[T] ty #[.slice ad k c]).run P w=.ok (.int .i64 k) w:=run_len_slice _ _ _ _ _ _ hT'
 have e:(execOp ρ ⟨d,.call ⟨.builtin .len,#[x],#[T]⟩,ty,pos,af,gd⟩)=(Builtin.len_ #[T] ty (#[x].map ρ)).bind fun r=>Sem.pure (Next.value r):=rfl
 rw [e,show #[x].map ρ = #[.slice ad k c] by simp [h1],Sem.run_bind',this];rfl
theorem sP{x:Operand}{T:TypeId}{b:ByteArray}(hT:P.underlying T=some .string)(hx:ev s.env x=some (true,.string b)) :
   Quiet P n ⟨d,.call ⟨.builtin .len,#[x],#[T]⟩,ty,pos,af,gd⟩ s (.int .i64 b.size):=.run1 hx fun ρ w h1=>by
 have:(Builtin.len_ #[T] ty #[.string b]).run P w=.ok (.int .i64 b.size) w:=run_len_string _ _ _ _ hT
 have e:(execOp ρ ⟨d,.call ⟨.builtin .len,#[x],#[T]⟩,ty,pos,af,gd⟩)=(Builtin.len_ #[T] ty (#[x].map ρ)).bind fun r=>Sem.pure (Next.value r):=rfl
 rw [e,show #[x].map ρ = #[.string b] by simp [h1],Sem.run_bind',this];rfl
theorem acA{x y:Operand}{ts:Array TypeId}{k:IntKind}{a b:Int}(hx:ev s.env x=some (true,.int k a))(hy:ev s.env y=some (true,.int k b)) :
   Quiet P n ⟨d,.call ⟨.builtin .min,#[x,y],ts⟩,ty,pos,af,gd⟩ s (.int k (min a b)):=.run2 hx hy fun ρ w h1 h2=>by
 have e:(execOp ρ ⟨d,.call ⟨.builtin .min,#[x,y],ts⟩,ty,pos,af,gd⟩)=(Builtin.min_ ts ty (#[x,y].map ρ)).bind fun r=>Sem.pure (Next.value r):=rfl
 rw [e,show #[x,y].map ρ = #[.int k a,.int k b] by simp [h1,h2],Sem.run_bind',run_min_int2]
 have:(if b<a then b else a)=min a b:=by omega
 rw [this];rfl
theorem zE{x y:Operand}{ts:Array TypeId}{k:IntKind}{a b:Int}(hx:ev s.env x=some (true,.int k a))(hy:ev s.env y=some (true,.int k b)) :
   Quiet P n ⟨d,.call ⟨.builtin .max,#[x,y],ts⟩,ty,pos,af,gd⟩ s (.int k (max a b)):=.run2 hx hy fun ρ w h1 h2=>by
 have e:(execOp ρ ⟨d,.call ⟨.builtin .max,#[x,y],ts⟩,ty,pos,af,gd⟩)=(Builtin.max_ ts ty (#[x,y].map ρ)).bind fun r=>Sem.pure (Next.value r):=rfl
 rw [e,show #[x,y].map ρ = #[.int k a,.int k b] by simp [h1,h2],Sem.run_bind',run_max_int2]
 have:(if b>a then b else a)=max a b:=by omega
 rw [this];rfl
def aX(P:Program)(f:FuncId):Bool :=
 match P.funcs[f]? with
 | some fn=>fn.name != "runtime.NumGoroutine" && fn.body.isSome
 | none=>false
theorem fK{f:FuncId}(hf:aX P f=true)(args:Array Value)(w:World):(callFunc f args).run P w=.ok (.enter f args) w:=by
 unfold aX at hf
 cases h:P.funcs[f]? with
 | none=>rw [h] at hf;cases hf
 | some fn =>
   rw [h] at hf
   simp only [Bool.and_eq_true,bne_iff_ne,ne_eq] at hf
   obtain ⟨h1,h2⟩:=hf
   cases hb:fn.body with
   | none=>rw [hb] at h2;cases h2
   | some c=>simp [callFunc,program,Sem.run_bind,Sem.run,h,Result.andThen,h1,hb]
theorem ld{f:FuncId}(hf:aX P f=true){l:List Operand}{ts:Array TypeId}{g:Operand}{caps:Array Value}{ρ:Operand→Value}(hg:ρ g=.func (.func f) #[] caps){vs:List Value}(hv:l.map ρ=vs)(w:World) :
   (execOp ρ ⟨d,.call ⟨.value g,l.toArray,ts⟩,ty,pos,af,gd⟩).run P w=.ok (.enter f (vs.toArray++caps)) w:=by
 unfold execOp
 dsimp only
 show ((resolve ρ ⟨.value g,l.toArray,ts⟩ ty).bind fun x=>invoke x.target x.args).run P w=_
 have:resolve ρ ⟨.value g,l.toArray,ts⟩ ty=Sem.pure { target:=.fn (.func f) caps,args:=vs.toArray } := by
   unfold resolve
   dsimp only
   rw [hg]
   show Deferred.ofValue _ _=_
   unfold Deferred.ofValue
   dsimp only
   rw [List.map_toArray,hv,Array.empty_append]
   rfl
 rw [this]
 show (callFunc f (vs.toArray++caps)).run P w=_
 exact fK hf _ w
theorem jK{f:FuncId}(hf:aX P f=true){l:List Operand}{ts:Array TypeId}{vs:List Value}(hx:evs s.env l=some vs)
   (hc:∀ w S fp,St w S fp s.ps s.hp→Calls P f vs.toArray w fun e w'=>e=.returned v∧Below w.heap.size w w') :
   Quiet P n ⟨d,.call ⟨.value (.func f),l.toArray,ts⟩,ty,pos,af,gd⟩ s v:=fun w S fp a hst he hn=>by
 rw [ld hf (caps := #[]) rfl (eM he l vs hx),Array.append_empty]
 exact (hc w S fp hst).mono fun e w' ⟨h1,h2⟩=>⟨v,h1,rfl,h2⟩

def Con(P:Program)(f:FuncId)(args:List Value)(ps:List Per)(hp:List Res)(R:Value→List Per→List Res→Prop):Prop :=
 ∀ (w:World) (S:ba) (fp:Nat→ba),St w S fp ps hp→Calls P f args.toArray w fun e w'=>∃ v ps' hp' S' fp',e=.returned v∧R v ps' hp'∧St w' S' fp' ps' hp'∧Evo w S (tot fp hp.length) w' S' ∧
   ∀ b,tot fp' hp'.length b→tot fp hp.length b∨w.heap.size≤b
def fy(P:Program)(fn:Func)(R:Value→List Per→List Res→Prop)(e:Exit)(s:Sta):Prop :=
 (e=.normal∨e=.ret)∧∃ v lp lh,okH s.hp lh=true∧(∀ a w S fp,St w S fp s.ps s.hp→cG a s.env→(results fn a.tmps).run P w=.ok v w)∧R v (el s.ps lp) (bT s.hp lh)
theorem y7(args:List Value)(m:Nat):cG { tmps:=args.toArray++Array.replicate (m-args.toArray.size) undef,defers:=[] } ((List.range args.length).zipWith (fun i v=>(i,true,v)) args):=by
 intro t g v ht
 have key:∀ (l:List Value) (k:Nat),look ((List.range' k l.length).zipWith (fun i v=>(i,true,v)) l) t=some (g,v)→k≤t∧g=true∧l[t-k]? = some v:=by
   intro l
   induction l with
   | nil=>intro k h;simp [look] at h
   | cons x l ih =>
     intro k h
     rw [List.length_cons,List.range'_succ,List.zipWith_cons_cons] at h
     unfold look at h
     split at h
     · rename_i hkt
       obtain rfl:k=t:=by simpa using hkt
       simp only [Option.some.injEq,Prod.mk.injEq] at h
       obtain ⟨rfl,rfl⟩:=h
       simp
     · obtain ⟨h1,h2,h3⟩:=ih (k+1) h
       refine ⟨by omega,h2,?_⟩
       rw [show t-k=(t-(k+1))+1 by omega,List.getElem?_cons_succ]
       exact h3
 rw [List.range_eq_range'] at ht
 obtain ⟨_,rfl,h3⟩:=key args 0 ht
 simp only [Nat.sub_zero] at h3
 have hlt:=(List.getElem?_eq_some_iff.1 h3).1
 simp only [Array.getD_eq_getD_getElem?,Array.getElem?_append,List.size_toArray,if_pos hlt,List.getElem?_toArray,h3,cond_true,Option.getD_some]
theorem Con.enter{f:FuncId}{fn:Func}{c:Code}{args:List Value}{ps:List Per}{hp:List Res}{R:Value→List Per→List Res→Prop}(hf:P.funcs[f]? = some fn)(hb:fn.body=some c)(hle:args.length≤fn.ntmps)
   (h:awp P ⟨fn.ntmps,none,[]⟩ c (fy P fn R) ⟨(List.range args.length).zipWith (fun i v=>(i,true,v)) args,ps,hp⟩):Con P f args ps hp R:=fun w S fp hst=>by
 refine calls_of_wp hf hb ((wpIn_wide (n:=0)).1 (ei (F:=fnc none) (fun e a w' hq => ?_) (h w S fp { tmps:=args.toArray++Array.replicate (fn.ntmps-args.toArray.size) undef,defers:=[] } hst ?_ ?_ rfl)))
 · obtain ⟨s',S',fp',⟨he,v,lp,lh,ok,hr,hR⟩,hst',henv,hn,hd,hE,hg⟩:=hq
   obtain ⟨k1,k2⟩:=hst'.bT lp lh ok
   have:=hr a w' S' fp' hst' henv
   rcases he with rfl | rfl
   · exact ⟨hd,v,this,v,_,_,S',_,rfl,hR,k1,hE,fun b hb=>hg b (k2 b hb)⟩
   · exact ⟨hd,v,this,v,_,_,S',_,rfl,hR,k1,hE,fun b hb=>hg b (k2 b hb)⟩
 · exact y7 args fn.ntmps
 · simp
   omega
theorem Evo.toX{w w':World}{S X S':ba}(h:Evo w S X w' S')(hX:∀ b,¬ X b):Below w.heap.size w w':=h.toBelow fun b _=>hX b
theorem Con.quiet{f:FuncId}{args:List Value}{ps:List Per}(h:Con P f args ps [] fun u _ _=>u=v){w:World}{S:ba}{fp:Nat→ba}{ps':List Per}{hp:List Res}(hsub:∀ p∈ps,p∈ps')(hst:St w S fp ps' hp) :
   Calls P f args.toArray w fun e w'=>e=.returned v∧Below w.heap.size w w' :=
 (h w S fp ⟨fun p hp=>hst.per p (hsub p hp),fun i R hR=>by simp at hR,fun i hi=>by simp at hi,fun i j hi=>by simp at hi,hst.slt⟩).mono fun e w' ⟨u,_,_,_,_,he,hu,_,hE,_⟩=>⟨hu ▸ he,hE.toX fun b ⟨i,hi,_⟩=>by simp at hi⟩
theorem Con.quiet0{f:FuncId}{args:List Value}(h:Con P f args [] [] fun u _ _=>u=v){w:World}{S:ba}{fp:Nat→ba}{ps':List Per}{hp:List Res}(hst:St w S fp ps' hp) :
   Calls P f args.toArray w fun e w'=>e=.returned v∧Below w.heap.size w w':=h.quiet (fun _ h=>by cases h) hst
theorem Con.quiet1{f:FuncId}{args:List Value}{p:Per}(h:Con P f args [p] [] fun u _ _=>u=v){w:World}{S:ba}{fp:Nat→ba}{ps':List Per}{hp:List Res}(hp1:p∈ps')(hst:St w S fp ps' hp) :
   Calls P f args.toArray w fun e w'=>e=.returned v∧Below w.heap.size w w':=h.quiet (fun _ h=>by rw [List.mem_singleton.1 h];exact hp1) hst
end
end Go.Sy

