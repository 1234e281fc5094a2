/- Parts of the proof, in build order. No condition. -/
import Derived.WalkKit
import Derived.Below
import Derived.Still
import Derived.Deep.Quiet
import Derived.OrdersIn
import Derived.RangeFuncLeaves
import Derived.RangeFuncRecord
set_option linter.unusedSimpArgs false
set_option linter.unusedVariables false
set_option maxHeartbeats 20000000
set_option maxRecDepth 20000
namespace Go.Sy
open Go.RowKit
theorem nu{P:Program}{w w':World}{a:Addr}{v:Value}{at_:Bool}{l:List Addr}(h:w.farStore P a v at_=.ok (w',l)):w'.drawn=w.drawn:=by
 unfold World.farStore at h
 split at h
 · split at h
   · rename_i r hr
     cases h
     unfold World.viewStore at hr
     simp only [bind,Except.bind,pure,Except.pure,throw,throwThe,MonadExceptOf.throw] at hr
     repeat' split at hr
     all_goals first
       | cases hr;done
       | (cases hr;rfl)
   · cases h
 · cases h
theorem kL{α:Type} : ∀ (x:Ask α) (w:World),w.drawn≤(w.ask x).2.drawn
 | .done a,w=>Nat.le_refl _
 | .ask what range k,w=>by
   unfold World.ask
   dsimp only
   split
   · exact kL (k 0) w
   · exact Nat.le_trans (Nat.le_succ _) (kL (k _) { w with drawn:=w.drawn+1 })
theorem xM(w:World)(c:Sys):w.drawn≤(w.sys c).2.drawn:=by
 unfold World.sys
 have:=kL (Kernel.perform c w.os) w
 split
 · exact Nat.le_refl _
 · rename_i r os w1 hne heq
   rw [heq] at this;exact this
theorem p7{α:Type}{P:Program} : ∀ (x:Sem α) (w w':World) (v:α),x.run P w=.ok v w'→w.drawn≤w'.drawn:=by
 intro x
 induction x with
 | pure a=>intro w w' v h;simp [Sem.run] at h;rw [h.2];exact Nat.le_refl _
 | load m a k ih =>
   intro w w' v h
   simp only [Sem.run] at h
   split at h
   · exact ih _ _ _ _ h
   · split at h
     · exact ih _ _ _ _ h
     · cases h
 | store m a u k ih =>
   intro w w' v h
   have key:(match w.cell? a with
       | some _=>if w.frozen? a then Result.halt (.unsupported (.unsafePointer "a write to bytes that a string shares")) w else k.run P (w.setCell a u)
       | none=>match w.farStore P a u (m == Mode.atomic) with
         | .ok (w,_)=>k.run P w
         | .error h=>.halt h w)=.ok v w'→w.drawn≤w'.drawn:=fun h=>by
     split at h
     · split at h
       · cases h
       · have h1:=ih _ _ _ h
         have h2:(w.setCell a u).drawn=w.drawn:=by unfold World.setCell;(repeat' split)<;>rfl
         omega
     · split at h
       · rename_i w1 l hf
         have h1:=ih _ _ _ h
         rw [nu hf] at h1;exact h1
       · cases h
   cases u with
   | agg cs=>simp [Sem.run] at h
   | tuple cs=>simp [Sem.run] at h
   | _=>exact key h
 | new o k ih =>
   intro w w' v h
   simp only [Sem.run] at h
   exact ih _ { w with heap:=w.heap.push o } _ _ h
 | shape r k ih=>intro w w' v h;simp only [Sem.run] at h;exact ih _ _ _ _ h
 | freeze a n k ih =>
   intro w w' v h
   simp only [Sem.run] at h
   have h1:=ih _ _ _ h
   have h2:(w.freeze a n).drawn=w.drawn:=by unfold World.freeze;(repeat' split)<;>rfl
   omega
 | frozen a k ih=>intro w w' v h;simp only [Sem.run] at h;exact ih _ _ _ _ h
 | getObj r k ih =>
   intro w w' v h
   simp only [Sem.run] at h
   split at h
   · cases h
   · exact ih _ _ _ _ h
   · cases h
 | setObj r o k ih =>
   intro w w' v h
   simp only [Sem.run] at h
   split at h
   · cases h
   · exact ih { w with heap:=w.heap.setIfInBounds r o } _ _ h
   · cases h
 | choose q k ih =>
   intro w w' v h
   simp only [Sem.run] at h
   split at h
   · exact ih _ _ _ _ h
   · exact Nat.le_trans (Nat.le_succ _) (ih _ _ _ _ h)
 | sys c k ih =>
   intro w w' v h
   simp only [Sem.run] at h
   exact Nat.le_trans (xM w c) (ih _ _ _ _ h)
 | program k ih=>intro w w' v h;simp only [Sem.run] at h;exact ih _ _ _ _ h
 | mark m k ih=>intro w w' v h;simp only [Sem.run] at h;exact ih _ _ _ h
 | halt h=>intro w w' v h;simp [Sem.run] at h
structure Below (B:Nat) (w w':World):Prop where
 os:w'.os=w.os
 tape:w'.tape=w.tape
 output:w'.output=w.output
 size:w.heap.size≤w'.heap.size
 drawn:w.drawn≤w'.drawn
 block:∀ k,k<B→w'.heap[k]? = w.heap[k]?
theorem Below.kit{B:Nat}{w w':World}(h:Below B w w'):Go.RowKit.Below B w w':=⟨h.os,h.tape,h.output,h.size,h.block⟩
theorem Below.of_kit{B:Nat}{w w':World}(h:Go.RowKit.Below B w w')(hd:w.drawn≤w'.drawn):Below B w w':=⟨h.os,h.tape,h.output,h.size,hd,h.block⟩
theorem Below.refl(B:Nat)(w:World):Below B w w:=⟨rfl,rfl,rfl,Nat.le_refl _,Nat.le_refl _,fun _ _=>rfl⟩
theorem Below.trans{B:Nat}{a b c:World}(h:Below B a b)(k:Below B b c):Below B a c :=
 ⟨k.os.trans h.os,k.tape.trans h.tape,k.output.trans h.output,Nat.le_trans h.size k.size,Nat.le_trans h.drawn k.drawn,fun i hi=>(k.block i hi).trans (h.block i hi)⟩
theorem Below.mono{B B':Nat}{w w':World}(h:Below B w w')(hB:B'≤B):Below B' w w':=⟨h.os,h.tape,h.output,h.size,h.drawn,fun k hk=>h.block k (Nat.lt_of_lt_of_le hk hB)⟩
theorem Below.drew{B:Nat}{w w':World}(h:Below B w w'):Below B w w'.drew:=.of_kit h.kit.drew (Nat.le_trans h.drawn (Nat.le_succ _))
theorem Below.alloc{B:Nat}{w w':World}(h:Below B w w')(hB:B≤w'.heap.size)(o:Obj):Below B w (w'.alloc o):=.of_kit (h.kit.alloc hB o) h.drawn
abbrev ba:=Nat→Prop

inductive D where
 | v (x:Value)
 | sl (rows:List (List D))

inductive dT (w:World) (S:ba):Value→D→Prop where
 | v (x:Value):dT w S x (.v x)
 | e (a:Option Addr) (c:Nat) (hc:c≤maxLen):dT w S (.slice a 0 c) (.sl [])
 | sl (b o c sz:Nat) (rows:List (List D)) (us:Nat→Nat→Value) (hb:S b) (hn:rows.length≤c) (hc:c≤maxLen)
     (hr:∀ (i:Nat) (r:List D),rows[i]? = some r→r.length=sz)
     (hcell:∀ (i j:Nat) (r:List D) (d:D),rows[i]? = some r→r[j]? = some d→w.cell? ⟨b,o+i*sz+j,none⟩=some (us i j)∧(us i j).oneCell'=true)
     (hd:∀ (i j:Nat) (r:List D) (d:D),rows[i]? = some r→r[j]? = some d→dT w S (us i j) d):dT w S (.slice (some ⟨b,o,none⟩) rows.length c) (.sl rows)

theorem dT.mono{w w':World}{S S':ba}{u:Value}{d:D}(h:dT w S u d)(hw:∀ b,S b→w'.heap[b]? = w.heap[b]?)(hS:∀ b,S b→S' b):dT w' S' u d:=by
 induction h with
 | v x=>exact .v x
 | e a c hc=>exact .e a c hc
 | sl b o c sz rows us hb hn hc hr hcell hd ih =>
   refine .sl b o c sz rows us (hS b hb) hn hc hr (fun i j r d h1 h2=>⟨?_,(hcell i j r d h1 h2).2⟩) ih
   rw [← (hcell i j r d h1 h2).1]
   exact World.cell?_of_block (w:=w) (w':=w') (hw b hb)

structure Per where
 holds:World→ba→Prop
 mono:∀ {w w':World} {S S':ba},holds w S→(∀ b,S b→w'.heap[b]? = w.heap[b]?)→(∀ b,S b→S' b)→holds w' S'

structure Res where
 holds:World→ba→ba→Prop
 mono:∀ {w w':World} {S S' F:ba},holds w S F→(∀ b,F b→w'.heap[b]? = w.heap[b]?)→(∀ b,S b→w'.heap[b]? = w.heap[b]?)→(∀ b,S b→S' b)→holds w' S' F

def Sh(u:Value)(d:D):Per:=⟨fun w S=>dT w S u d,fun h h1 h2=>h.mono h1 h2⟩
def Fa(φ:Prop):Per:=⟨fun _ _=>φ,fun h _ _=>h⟩

def emp:Res:=⟨fun _ _ F=>∀ b,¬ F b,fun h _ _ _=>h⟩
def Box(b:Nat)(T:TypeId)(cs:List Value):Res :=
 ⟨fun w _ F=>w.heap[b]? = some (.cells cs.toArray T (0,0))∧∀ k,F k↔k=b,fun h h1 _ _=>⟨(h1 b ((h.2 b).2 rfl)).trans h.1,h.2⟩⟩
structure dF (w:World) (S:ba) (sz:Nat) (cs:List Value) (rows:List (List D)):Prop where
 len:cs.length=rows.length*sz
 row:∀ (i:Nat) (r:List D),rows[i]? = some r→r.length=sz
 one:∀ v∈cs,v.oneCell'=true
 rep:∀ (i j:Nat) (r:List D) (d:D),rows[i]? = some r→r[j]? = some d→∃ u,cs[i*sz+j]? = some u∧dT w S u d
theorem dF.mono{w w':World}{S S':ba}{sz:Nat}{cs:List Value}{rows:List (List D)}(h:dF w S sz cs rows)(hw:∀ b,S b→w'.heap[b]? = w.heap[b]?)(hS:∀ b,S b→S' b):dF w' S' sz cs rows :=
 ⟨h.len,h.row,h.one,fun i j r d h1 h2=>let ⟨u,hu,hr⟩:=h.rep i j r d h1 h2; ⟨u,hu,hr.mono hw hS⟩⟩
def Own(b:Nat)(T:TypeId)(sz cap:Nat)(rows:List (List D)):Res :=
 ⟨fun w S F=>(∃ cs sp:List Value,w.heap[b]? = some (.cells (cs++sp).toArray T (0,0))∧dF w S sz cs rows∧(cs++sp).length=cap*sz∧rows.length≤cap∧cap≤maxLen)∧∀ k,F k↔k=b,
  fun h h1 h2 h3=>let ⟨⟨cs,sp,e,hr,hl⟩,hF⟩:=h; ⟨⟨cs,sp,(h1 b ((hF b).2 rfl)).trans e,hr.mono h2 h3,hl⟩,hF⟩⟩

structure St (w:World) (S:ba) (fp:Nat→ba) (ps:List Per) (hp:List Res):Prop where
 per:∀ p∈ps,p.holds w S
 res:∀ (i:Nat) (R:Res),hp[i]? = some R→R.holds w S (fp i)
 lt:∀ i,i<hp.length→∀ b,fp i b→b<w.heap.size∧¬ S b
 dj:∀ i j,i<hp.length→j<hp.length→i≠j→∀ b,fp i b→¬ fp j b
 slt:∀ b,S b→b<w.heap.size

theorem St.keep{w w':World}{S:ba}{fp:Nat→ba}{ps:List Per}{hp:List Res}(h:St w S fp ps hp)(hs:w.heap.size≤w'.heap.size)
   (hw:∀ b,b<w.heap.size→w'.heap[b]? = w.heap[b]?):St w' S fp ps hp where
 per p hp:=p.mono (h.per p hp) (fun b hb=>hw b (h.slt b hb)) (fun _ h=>h)
 res i R hR:=R.mono (h.res i R hR) (fun b hb=>hw b (h.lt i (List.getElem?_eq_some_iff.1 hR).1 b hb).1) (fun b hb=>hw b (h.slt b hb)) (fun _ h=>h)
 lt i hi b hb:=⟨Nat.lt_of_lt_of_le (h.lt i hi b hb).1 hs,(h.lt i hi b hb).2⟩
 dj:=h.dj
 slt b hb:=Nat.lt_of_lt_of_le (h.slt b hb) hs
theorem St.below{w w':World}{S:ba}{fp:Nat→ba}{ps:List Per}{hp:List Res}(h:St w S fp ps hp)(hb:Below w.heap.size w w'):St w' S fp ps hp :=
 h.keep hb.size hb.block

def tot(fp:Nat→ba)(n:Nat):ba:=fun b=>∃ i,i<n∧fp i b

structure Evo (w:World) (S X:ba) (w':World) (S':ba):Prop where
 os:w'.os=w.os
 tape:w'.tape=w.tape
 output:w'.output=w.output
 size:w.heap.size≤w'.heap.size
 drawn:w.drawn≤w'.drawn
 block:∀ b,b<w.heap.size→¬ X b→w'.heap[b]? = w.heap[b]?
 more:∀ b,S b→S' b
 new:∀ b,S' b→S b∨X b∨w.heap.size≤b
theorem Evo.refl(w:World)(S X:ba):Evo w S X w S:=⟨rfl,rfl,rfl,Nat.le_refl _,Nat.le_refl _,fun _ _ _=>rfl,fun _ h=>h,fun _ h=>.inl h⟩
theorem Evo.trans{w w1 w2:World}{S S1 S2 X X1:ba}(h:Evo w S X w1 S1)(k:Evo w1 S1 X1 w2 S2)(hX:∀ b,X1 b→X b∨w.heap.size≤b):Evo w S X w2 S2 where
 os:=k.os.trans h.os
 tape:=k.tape.trans h.tape
 output:=k.output.trans h.output
 size:=Nat.le_trans h.size k.size
 drawn:=Nat.le_trans h.drawn k.drawn
 block b hb hx:=(k.block b (Nat.lt_of_lt_of_le hb h.size) fun hx1=>(hX b hx1).elim hx (fun hle=>by omega)).trans (h.block b hb hx)
 more b hb:=k.more b (h.more b hb)
 new b hb:=by
   rcases k.new b hb with h1 | h1 | h1
   · exact h.new b h1
   · exact (hX b h1).elim (fun h=>.inr (.inl h)) (fun h=>.inr (.inr h))
   · exact .inr (.inr (Nat.le_trans h.size h1))
theorem Evo.of_below{w w':World}(S X:ba)(h:Below w.heap.size w w'):Evo w S X w' S:=⟨h.os,h.tape,h.output,h.size,h.drawn,fun b hb _=>h.block b hb,fun _ h=>h,fun _ h=>.inl h⟩
theorem Evo.wider{w w':World}{S X X' S':ba}(h:Evo w S X w' S')(hX:∀ b,X b→X' b):Evo w S X' w' S' :=
 ⟨h.os,h.tape,h.output,h.size,h.drawn,fun b hb hx=>h.block b hb fun k=>hx (hX b k),h.more,fun b hb=>(h.new b hb).imp id (Or.imp (hX b) id)⟩
theorem Evo.toBelow{w w':World}{S X S':ba}(h:Evo w S X w' S')(hX:∀ b,b<w.heap.size→¬ X b):Below w.heap.size w w' :=
 ⟨h.os,h.tape,h.output,h.size,h.drawn,fun b hb=>h.block b hb (hX b hb)⟩

abbrev Env:=List (Nat × Bool × Value)
def look:Env→Nat→Option (Bool × Value)
 | [],_=>none
 | (t,g,v)::e,k=>if t == k then some (g,v) else look e k
def cG(a:Act)(env:Env):Prop:=∀ t g v,look env t=some (g,v)→a.tmps.getD t undef=bif g then v else undef
theorem cG.put{a:Act}{env:Env}(h:cG a env){d:Nat}(hd:d<a.tmps.size)(g:Bool)(v:Value):cG (a.put (some d) (bif g then v else undef)) ((d,g,v)::env):=by
 intro t g' v' ht
 unfold look at ht
 simp only [Act.put]
 by_cases hdt:d=t
 · subst hdt
   simp only [beq_self_eq_true,if_true,Option.some.injEq,Prod.mk.injEq] at ht
   obtain ⟨rfl,rfl⟩:=ht
   simp [hd]
 · have:(d == t)=false:=by simpa using hdt
   rw [this] at ht
   simp only [Bool.false_eq_true,if_false] at ht
   rw [← h t g' v' ht,Array.getD_eq_getD_getElem?,Array.getD_eq_getD_getElem?,Array.getElem?_setIfInBounds_ne hdt]
theorem cG.sub{a:Act}{env env':Env}(h:cG a env)(hs:∀ t g v,look env' t=some (g,v)→look env t=some (g,v)):cG a env':=fun t g v ht=>h t g v (hs t g v ht)
def ev(env:Env):Operand→Option (Bool × Value)
 | .tmp t=>look env t
 | .const v=>some (true,v)
 | .global g=>some (true,.pointer (some ⟨g,0,none⟩))
 | .func f=>some (true,.func (.func f) #[] #[])
theorem cG.eval{a:Act}{env:Env}(h:cG a env){x:Operand}{g:Bool}{v:Value}(hx:ev env x=some (g,v)):a.eval x=bif g then v else undef:=by
 cases x with
 | tmp t=>exact h t g v hx
 | const c=>simp only [ev,Option.some.injEq,Prod.mk.injEq] at hx;obtain ⟨rfl,rfl⟩:=hx;rfl
 | global c=>simp only [ev,Option.some.injEq,Prod.mk.injEq] at hx;obtain ⟨rfl,rfl⟩:=hx;rfl
 | func c=>simp only [ev,Option.some.injEq,Prod.mk.injEq] at hx;obtain ⟨rfl,rfl⟩:=hx;rfl
theorem cG.val{a:Act}{env:Env}(h:cG a env){x:Operand}{g:Bool}{v:Value}(hx:ev env x=some (g,v))(hg:g=true):a.eval x=v:=by
 rw [h.eval hx,hg];rfl

structure Sta where
 env:Env
 ps:List Per
 hp:List Res

structure Fr where
 size:Nat
 ro:Option Nat:=none
 dfr:List Deferred:=[]
instance (k:Nat):OfNat Fr k:=⟨⟨k,none,[]⟩⟩
instance:Coe Fr Nat:=⟨Fr.size⟩
def fnc(r:Option Nat):Fence := { fn:=fun _=>True,depth:=none,alive:=false,round:=r }
theorem ei{F:Fence}{m:Nat}{P:Program}{c:Code}{Q Q':Exit→Act→World→Prop}{a:Act}{w:World}(hq:∀ e a w,Q e a w→Q' e a w)(h:c.wpIn F m P Q a w):c.wpIn F m P Q' a w:=wpIn_mono h hq

def eA(Q:Exit→Sta→Prop)(n:Fr)(w:World)(S X:ba)(e:Exit)(a':Act)(w':World):Prop :=
 ∃ s S' fp',Q e s∧St w' S' fp' s.ps s.hp∧cG a' s.env∧a'.tmps.size=n.size∧a'.defers=n.dfr∧Evo w S X w' S'∧∀ b,tot fp' s.hp.length b→X b∨w.heap.size≤b

theorem eA.trans{Q:Exit→Sta→Prop}{n:Fr}{w w1:World}{S X S1 X1:ba}(hE:Evo w S X w1 S1)(hX:∀ b,X1 b→X b∨w.heap.size≤b){e:Exit}{a:Act}{w2:World}(h:eA Q n w1 S1 X1 e a w2):eA Q n w S X e a w2:=by
 obtain ⟨s,S',fp',hq,hst,henv,hn,hd,hE',hg⟩:=h
 exact ⟨s,S',fp',hq,hst,henv,hn,hd,hE.trans hE' hX,fun b hb=>(hg b hb).elim (hX b) (fun h=>.inr (Nat.le_trans hE.size h))⟩
def awp(P:Program)(n:Fr)(c:Code)(Q:Exit→Sta→Prop)(s:Sta):Prop :=
 ∀ (w:World) (S:ba) (fp:Nat→ba) (a:Act),St w S fp s.ps s.hp→cG a s.env→a.tmps.size=n.size→a.defers=n.dfr →
   c.wpIn (fnc n.ro) 0 P (eA Q n w S (tot fp s.hp.length)) a w

section rules
variable {P:Program} {n:Fr} {Q:Exit→Sta→Prop} {s:Sta}

theorem fO{w:World}{S:ba}{fp:Nat→ba}{a:Act}(hst:St w S fp s.ps s.hp)(he:cG a s.env)(hn:a.tmps.size=n.size)(hd:a.defers=n.dfr){e:Exit}(h:Q e s):eA Q n w S (tot fp s.hp.length) e a w :=
 ⟨s,S,fp,h,hst,he,hn,hd,Evo.refl _ _ _,fun _ h=>.inl h⟩
theorem aD(h:Q .normal s):awp P n .skip Q s:=fun w S fp a hst he hn hd=>wpIn_skip (fO hst he hn hd h)
theorem ae(h:Q .ret s):awp P n .ret Q s:=fun w S fp a hst he hn hd=>wpIn_ret (fO hst he hn hd h)
theorem aY{id:Nat}(h:Q (.exit id) s):awp P n (.exit id) Q s:=fun w S fp a hst he hn hd=>wpIn_exit (fO hst he hn hd h)
theorem vY{id:Nat}(h:Q .normal s):awp P n (.label id) Q s:=fun w S fp a hst he hn hd=>wpIn_label (fO hst he hn hd h)
def thn(K:Sta→Prop)(Q:Exit→Sta→Prop):Exit→Sta→Prop
 | .normal,s=>K s
 | e,s=>Q e s
theorem aq{x y:Code}(h:awp P n x (thn (awp P n y Q) Q) s):awp P n (.seq x y) Q s:=fun w S fp a hst he hn hd =>
 wpIn_seq (ei (fun e a' w' hq=>by
   cases e with
   | normal =>
     obtain ⟨s1,S1,fp1,h1,hst1,he1,hn1,hd1,hE,hg⟩:=hq
     exact ei (fun e a2 w2 h2=>h2.trans hE hg) (h1 w' S1 fp1 a' hst1 he1 hn1 hd1)
   | _=>exact hq) (h w S fp a hst he hn hd))
theorem aa{c:Operand}{x y:Code}(t:Bool)(hc:ev s.env c=some (true,.bool t))(h1:t=true→awp P n x Q s)(h2:t=false→awp P n y Q s):awp P n (.cond c x y) Q s:=fun w S fp a hst he hn hd =>
 wpIn_cond_split (t:=t) (he.val hc rfl) (fun ht=>h1 ht w S fp a hst he hn hd) (fun ht=>h2 ht w S fp a hst he hn hd)
def blk(id:Nat)(Q:Exit→Sta→Prop):Exit→Sta→Prop
 | .exit id',s=>if id'=id then Q .normal s else Q (.exit id') s
 | e,s=>Q e s
theorem aH{id:Nat}{c:Code}(h:awp P n c (blk id Q) s):awp P n (.block id c) Q s:=fun w S fp a hst he hn hd =>
 wpIn_block (ei (fun e a' w' hq=>by
   obtain ⟨s',S',fp',h1,h⟩:=hq
   cases e with
   | exit id' =>
     unfold Exit.inBlock
     unfold blk at h1
     dsimp only at h1 ⊢
     split
     · rename_i hid;rw [if_pos hid] at h1;exact ⟨s',S',fp',h1,h⟩
     · rename_i hid;rw [if_neg hid] at h1;exact ⟨s',S',fp',h1,h⟩
   | _=>exact ⟨s',S',fp',h1,h⟩) (h w S fp a hst he hn hd))
def vt(env:Env)(l:List Nat):Env:=l.filterMap fun t=>(look env t).map fun x=>(t,x.1,x.2)
def el(ps:List Per)(l:List Nat):List Per:=l.filterMap (ps.reverse[·]?)
def bT(hp:List Res)(l:List Nat):List Res:=l.map fun i=>hp.getD i emp
def ki(s:Sta)(le lp lh:List Nat):Sta:=⟨vt s.env le,el s.ps lp,bT s.hp lh⟩
def okH(hp:List Res)(l:List Nat):Bool:=l.all (· < hp.length) && decide l.Nodup
theorem yh{X:Type}{c:Code}(I:X→Sta→Prop)(μ:X→Nat)(x:X)(h0:I x s)
   (round:∀ x s,I x s→awp P n c (thn (fun s'=>∃ x',I x' s'∧μ x'<μ x) Q) s):awp P n (.loop c) Q s:=fun w S fp a hst he hn hd=>by
 intro b k cs hro hb hr
 have key:∀ (m:Nat) (x:X) (s1:Sta) (w1:World) (S1:ba) (fp1:Nat→ba) (a1:Act),μ x=m→I x s1→St w1 S1 fp1 s1.ps s1.hp→cG a1 s1.env→a1.tmps.size=n.size→a1.defers=n.dfr →
     ∃ e a' w',eA Q n w1 S1 (tot fp1 s1.hp.length) e a' w'∧ArrivesIn (Machine.fenced P (fnc n.ro)) P (lone (b.atR a1 (.code c::.inLoop c::k)) cs w1) b k cs e a' w':=by
   intro m
   induction m using Nat.strongRecOn with
   | _ m ih =>
     intro x s1 w1 S1 fp1 a1 hm hI hst1 he1 hn1 hd1
     obtain ⟨e,a2,w2,hq,harr⟩:=round x s1 hI w1 S1 fp1 a1 hst1 he1 hn1 hd1 b (.inLoop c::k) cs hro hb hr
     cases e with
     | normal =>
       obtain ⟨s2,S2,fp2,⟨x2,hI2,hlt⟩,hst2,he2,hn2,hd2,hE,hg⟩:=hq
       obtain ⟨e3,a3,w3,hq3,harr3⟩:=ih (μ x2) (hm ▸ hlt) x2 s2 w2 S2 fp2 a2 rfl hI2 hst2 he2 hn2 hd2
       exact ⟨e3,a3,w3,hq3.trans hE hg,.of_steps (StepsIn.trans harr (.one (fenced_calm hb hr rfl) stepR_inLoop)) harr3⟩
     | exit id=>exact ⟨_,a2,w2,hq,.pass (x:=.inLoop c) rfl (fun _ _=>.inl (by simp)) harr⟩
     | goto l=>exact ⟨_,a2,w2,hq,.pass (x:=.inLoop c) rfl (fun _ _=>.inl (by simp)) harr⟩
     | ret=>exact ⟨_,a2,w2,hq,.pass (x:=.inLoop c) rfl (fun _ _=>.inl (by simp)) harr⟩
     | panic ch=>exact ⟨_,a2,w2,hq,.pass (x:=.inLoop c) rfl (fun _ _=>.inl (by simp)) harr⟩
     | outgrown=>exact ⟨_,a2,w2,hq,.pass (x:=.inLoop c) rfl (fun _ _=>.inl (by simp)) harr⟩
 obtain ⟨e,a',w',hq,harr⟩:=key _ x s w S fp a rfl h0 hst he hn hd
 exact ⟨e,a',w',hq,.of_steps (.one (fenced_calm hb hr rfl) stepR_loop) harr⟩
end rules
section
variable {α β:Type} {f:α→β} {a b x:α} {l m:List α} {n k:Nat}
theorem nA:(false=true)=False:=Bool.false_eq_true
theorem nB:Option.map f none=none:=rfl
theorem nC:Option.map f (some a)=some (f a):=rfl
theorem nD:(a::l).getD 0 x=a:=rfl
theorem nE:(a::l).getD (n+1) x=l.getD n x:=rfl
theorem nF:(a::l).drop (n+1)=l.drop n:=rfl
theorem nG:l.drop 0=l:=rfl
theorem nH:(a::l).length=l.length+1:=rfl
theorem nI:([]:List α).length=0:=rfl
theorem nJ:([]:List α).drop n=[]:=by cases n<;>rfl
theorem nK:(a::l).set (n+1) b=a::l.set n b:=rfl
theorem nL:(a::l).set 0 b=b::l:=rfl
theorem nM:(a::l)++m=a::(l++m):=rfl
theorem nN:[]++l=l:=rfl
theorem nO:l.toArray.setIfInBounds n a=(l.set n a).toArray:=List.setIfInBounds_toArray _ _ _
theorem nP{c:Bool} : (c == c)=true:=beq_self_eq_true c
theorem nQ{f:α→β} : (a::l).map f=f a::l.map f:=rfl
theorem nR{f:α→β} : ([]:List α).map f=[]:=rfl
end
section
variable {P:Program} {ops:Array Oper} {md:Region.Mode}

def fB(P:Program)(Φ:Value→World→Prop):Result Next→Prop
 | .ok (.value u) w'=>Φ u w'
 | .ok .skip w'=>Φ undef w'
 | .ok (.enter f args) w'=>Calls P f args w' (fun e w''=>∃ v,e=.returned v∧Φ v w'')
 | .ok (.round l f tmps assign body) w'=>RoundIn (fnc none) 0 P l f tmps assign body w' (fun e w''=>∃ v,e=.returned v∧Φ v w'')
 | _=>False
theorem bO{Φ Ψ:Value→World→Prop}(h:∀ v w,Φ v w→Ψ v w){r:Result Next}(hr:fB P Φ r):fB P Ψ r:=by
 cases r with
 | halt x w'=>simp only [fB] at hr
 | ok n w' =>
   cases n with
   | value u=>exact h _ _ hr
   | skip=>exact h _ _ hr
   | enter f args=>exact Calls.mono hr fun e w'' ⟨v,he,hv⟩=>⟨v,he,h _ _ hv⟩
   | round l f tmps assign body=>exact RoundIn.mono hr fun e w'' ⟨v,he,hv⟩=>⟨v,he,h _ _ hv⟩
   | _=>simp only [fB] at hr
def l0(P:Program)(v:Value)(w:World)(r:Result Next):Prop:=fB P (fun u w'=>u=v∧Below w.heap.size w w') r

theorem rn{o:Oper}{r:Option Nat}{ρ:Operand→Value}{w:World}{Φ:Value→World→Prop}(h:fB P Φ ((execOp ρ o).run P w)):o.semAt r ρ=execOp ρ o:=by
 cases r with
 | none=>rfl
 | some l =>
   refine Oper.semAt_eq _ _ _ fun c hc => ?_
   unfold execOp at h
   rw [hc] at h
   dsimp only at h
   rw [Sem.run_bind] at h
   cases hr:(resolve ρ c o.type).run P w with
   | ok d w'=>rw [hr] at h;exact h
   | halt x w'=>rw [hr] at h;exact h
theorem tl{r:Option Nat}{o:Oper}{a:Act}{w:World}{K:Act→World→Prop}{Q:Exit→Act→World→Prop}(h:fB P (fun v w'=>K (a.put o.dst v) w') ((execOp a.eval o).run P w)):o.wpIn (fnc r) 0 P a w K Q:=by
 unfold Oper.wpIn
 refine ⟨fun _ _=>trivial,?_⟩
 rw [show (o.semAt (fnc r).round a.eval)=execOp a.eval o from rn h]
 generalize (execOp a.eval o).run P w=r at *
 cases r with
 | halt x w'=>simp only [fB] at h
 | ok n w' =>
   cases n with
   | value u=>exact h
   | skip=>exact h
   | enter f args=>exact ⟨fun h=>(by cases h),(callsIn_wide (n:=0)).2 (Calls.mono h fun e w'' ⟨v,he,hv⟩=>by subst he;exact hv)⟩
   | round l f tmps assign body=>exact ⟨fun h=>(by cases h),RoundIn.mono h fun e w'' ⟨v,he,hv⟩=>by subst he;exact hv⟩
   | _=>simp only [fB] at h

def opB(P:Program)(ops:Array Oper)(i:Nat)(K:Act→World→Prop)(a:Act)(w:World):Prop :=
 ∃ o,ops[i]? = some o∧if Region.wanted o (yielded ops a.tmps) then fB P (fun v w'=>K (a.put o.dst v) w') ((execOp a.eval o).run P w) else K (a.put o.dst undef) w
theorem sH{i:Nat}{K K':Act→World→Prop}{a:Act}{w:World}(h:∀ a w,K a w→K' a w)(hh:opB P ops i K a w):opB P ops i K' a w:=by
 obtain ⟨o,ho,hr⟩:=hh
 refine ⟨o,ho,?_⟩
 split
 · rename_i hw;rw [if_pos hw] at hr;exact bO (fun _ _=>h _ _) hr
 · rename_i hw;rw [if_neg hw] at hr;exact h _ _ hr
theorem iR{r:Option Nat}{Q:Exit→Act→World→Prop}{i:Nat}{K:Act→World→Prop}{a:Act}{w:World}(h:opB P ops i K a w):wpOpIn (fnc r) 0 P ops Q i K a w:=by
 obtain ⟨o,ho,hr⟩:=h
 unfold wpOpIn
 simp only [ho]
 split
 · rename_i hw;rw [if_pos hw] at hr;exact tl hr
 · rename_i hw;rw [if_neg hw] at hr;exact ⟨fun _ _=>trivial,hr⟩

def wpB(P:Program)(md:Region.Mode)(ops:Array Oper)(V:Nat→Bool)(Q:Act→World→Prop):Nat→Array Bool→Act→World→Prop
 | 0,L,a,w=>∀ w1,Below w.heap.size w w1→Region.ready md ops L=[]∧Q a w1
 | k + 1,L,a,w=>∀ w1,Below w.heap.size w w1→(Region.ready md ops L=[]→Q a w1) ∧
     ∀ i∈Region.ready md ops L,opB P ops i (fun a' w'=>(V i=false→Below w1.heap.size w1 w')∧wpB P md ops V Q k (L.setIfInBounds i true) a' w') a w1
variable {V:Nat→Bool} {Q:Act→World→Prop}
theorem dx{a b c:World}(h:Below a.heap.size a b)(k:Below b.heap.size b c):Below a.heap.size a c:=h.trans (k.mono h.size)
theorem rr{k:Nat}{L:Array Bool}{a:Act}{w w1:World}(h:wpB P md ops V Q k L a w)(hb:Below w.heap.size w w1):wpB P md ops V Q k L a w1:=by
 cases k with
 | zero=>exact fun w2 h2=>h w2 (dx hb h2)
 | succ k=>exact fun w2 h2=>h w2 (dx hb h2)
theorem kC{r:Option Nat}{Q':Exit→Act→World→Prop}(hQ:∀ a w,Q a w→Q' .normal a w):∀ (k:Nat) (L:Array Bool) (a:Act) (w:World),wpB P md ops V Q k L a w→wpAnyIn (fnc r) 0 P md ops Q' k L a w
 | 0,_,_,w,h=>⟨(h w (Below.refl _ _)).1,hQ _ _ (h w (Below.refl _ _)).2⟩
 | k+1,_,_,w,h=>⟨fun h0=>hQ _ _ ((h w (Below.refl _ _)).1 h0),fun i hi=>wpOpIn_mono (fun _ _ h=>kC hQ k _ _ _ h.2) (iR ((h w (Below.refl _ _)).2 i hi))⟩

def closed(md:Region.Mode)(ops:Array Oper)(L:Array Bool):Prop:=∀ j o,ops[j]? = some o→L.getD j true=true→∀ e∈o.after,Region.binds md e=true→L.getD e.on false=true
theorem i4{L:Array Bool}{j:Nat}(h:L.getD j false=true):L.getD j true=true:=by
 rcases Nat.lt_or_ge j L.size with h' | h'
 · simpa [h'] using h
 · simp [Array.getElem?_eq_none h'] at h
theorem gP{L:Array Bool}{i:Nat}(h:closed md ops L)(hi:i∈Region.ready md ops L):closed md ops (L.setIfInBounds i true):=by
 intro j o ho hj e he hb
 by_cases hji:j=i
 · subst hji
   obtain ⟨_,o',ho',hall⟩:=mem_ready.1 hi
   obtain rfl:o=o':=Option.some.inj (ho.symm.trans ho')
   exact Go.getD_set_true (hall e he hb)
 · rw [getD_set_ne true (Ne.symm hji)] at hj
   exact Go.getD_set_true (h j o ho hj e he hb)
def mx(md:Region.Mode)(ops:Array Oper)(L:Array Bool):Bool :=
 (List.range ops.size).all fun j=>match ops[j]? with
   | none=>true
   | some o => !L.getD j true || o.after.all fun e => !Region.binds md e || L.getD e.on false
theorem iW{L:Array Bool}(h:mx md ops L=true):closed md ops L:=by
 intro j o ho hj e he hb
 unfold mx at h
 have h1:=List.all_eq_true.1 h j (List.mem_range.2 (Array.getElem?_eq_some_iff.1 ho).1)
 simp only [ho,hj,Bool.not_true,Bool.false_or] at h1
 have h2:=Array.all_eq_true_iff_forall_mem.1 h1 e he
 simpa [hb] using h2
def ni(md:Region.Mode)(ops:Array Oper):Nat→Nat→Nat→Bool
 | 0,_,_=>false
 | n+1,j,i=>match ops[j]? with
   | none=>false
   | some o=>o.after.any fun e=>Region.binds md e && (e.on == i || ni md ops n e.on i)
theorem ux{L:Array Bool}(hc:closed md ops L){i:Nat} : ∀ (n j:Nat),ni md ops n j i=true→L.getD j true=true→L.getD i false=true
 | 0,_,h,_=>by cases h
 | n + 1,j,h,hj=>by
   unfold ni at h
   cases ho:ops[j]? with
   | none=>rw [ho] at h;cases h
   | some o =>
     rw [ho] at h
     obtain ⟨e,he,hb⟩:=Array.any_eq_true'.1 h
     simp only [Bool.and_eq_true,Bool.or_eq_true,beq_iff_eq] at hb
     have h1:=hc j o ho hj e he hb.1
     rcases hb.2 with rfl | h2
     · exact h1
     · exact ux hc n _ h2 (i4 h1)

def gG(P:Program)(ops:Array Oper)(o:Oper)(v:Value)(a:Act)(w:World):Prop :=
 (Region.wanted o (yielded ops a.tmps)=true∧∀ w1,Below w.heap.size w w1→l0 P v w1 ((execOp a.eval o).run P w1))∨(Region.wanted o (yielded ops a.tmps)=false∧v=undef)
theorem gG.of_same{o:Oper}{v:Value}{a a':Act}{w w':World}(hy:gG P ops o v a w)(he:execOp a'.eval o=execOp a.eval o)
   (hw:Region.wanted o (yielded ops a'.tmps)=Region.wanted o (yielded ops a.tmps)) (hb:Below w.heap.size w w'):gG P ops o v a' w':=by
 unfold gG at *
 rw [he,hw]
 exact hy.imp (fun ⟨h1,h2⟩=>⟨h1,fun w1 h=>h2 w1 (dx hb h)⟩) id
theorem gG.op{o:Oper}{i:Nat}{v:Value}{a:Act}{w:World}(hi:ops[i]? = some o)(hy:gG P ops o v a w){K:Act→World→Prop}(h:∀ w',Below w.heap.size w w'→K (a.put o.dst v) w'):opB P ops i K a w:=by
 refine ⟨o,hi,?_⟩
 rcases hy with ⟨h1,h2⟩ | ⟨h1,rfl⟩
 · rw [if_pos h1]
   exact bO (fun u w' ⟨hu,hb⟩=>by subst hu;exact h w' hb) (h2 w (Below.refl _ _))
 · rw [if_neg (by rw [h1];exact Bool.false_ne_true)]
   exact h w (Below.refl _ _)

theorem qk {i:Nat} {oi:Oper} {v:Value} (hi:ops[i]? = some oi) (hsel:∀ (j:Nat) (o:Oper) cs b,ops[j]? = some o→o.op≠.select cs b) (m:Nat) (hVi:V i=false) :
   ∀ (n:Nat) (L:Array Bool) (a:Act) (w:World),closed md ops L→(∀ c,V c=true→L.getD c true=false→ni md ops m c i=true) →
     (∀ j oj,ops[j]? = some oj→j≠i→L.getD j true=false→(∀ e∈oj.after,Region.binds md e=true→e.on≠i)→oi.apart ops oj=true) →
     i∈Region.ready md ops L→gG P ops oi v a w →
     wpB P md ops V Q n (L.setIfInBounds i true) (a.put oi.dst v) w→wpB P md ops V Q (n+1) L a w:=by
 intro n
 induction n with
 | zero =>
   intro L a w hcl hV _ hr hy H w1 hb
   refine ⟨fun h=>(by rw [h] at hr;cases hr),fun j hj => ?_⟩
   by_cases hji:j=i
   · subst hji
     exact (hy.of_same rfl rfl hb).op hi fun w' hb'=>⟨fun _=>hb',rr H (dx hb hb')⟩
   · have:=ready_mono hj hji
     rw [(H w1 hb).1] at this
     cases this
 | succ n ih =>
   intro L a w hcl hV hfree hr hy H w1 hb
   refine ⟨fun h=>(by rw [h] at hr;cases hr),fun j hj => ?_⟩
   by_cases hji:j=i
   · subst hji
     exact (hy.of_same rfl rfl hb).op hi fun w' hb'=>⟨fun _=>hb',rr H (dx hb hb')⟩
   · obtain ⟨oj,hoj,hrun⟩:=(H w1 hb).2 j (ready_mono hj hji)
     obtain ⟨hjun,oj',hoj',hall⟩:=mem_ready.1 hj
     obtain rfl:oj=oj':=Option.some.inj (hoj.symm.trans hoj')
     have hnot:∀ e∈oj.after,Region.binds md e=true→e.on≠i:=fun e he hb heq=>by
       have h1:=hall e he hb
       have h0:=(mem_ready.1 hr).1
       rw [heq] at h1
       rw [i4 h1] at h0;cases h0
     have hVj:V j=false:=by
       cases hVj:V j with
       | false=>rfl
       | true =>
         have h1:=hV j hVj hjun
         have hcl':=gP hcl hj
         have hjs:(L.setIfInBounds j true).getD j true=true:=by
           rcases Nat.lt_or_ge j L.size with h' | h'
           · simp [h']
           · simp
         have h2:=i4 (ux hcl' m j h1 hjs)
         rw [getD_set_ne true hji,(mem_ready.1 hr).1] at h2
         cases h2
     obtain ⟨p1,p2,p3⟩:=Oper.apart_spec (hfree j oj hoj hji hjun hnot)
     rw [execOp_put oj (fun cs b=>hsel j oj cs b hoj) a oi.dst v p1,wanted_put oj a oi.dst v p1] at hrun
     have hfree':∀ k ok,ops[k]? = some ok→k≠i→(L.setIfInBounds j true).getD k true=false →
         (∀ e∈ok.after,Region.binds md e=true→e.on≠i)→oi.apart ops ok=true:=fun k ok hk hki hun hno=>by
       refine hfree k ok hk hki ?_ hno
       by_cases hjk:j=k
       · subst hjk;exact hjun
       · rw [getD_set_ne true hjk] at hun;exact hun
     have hV':∀ c,V c=true→(L.setIfInBounds j true).getD c true=false→ni md ops m c i=true:=fun c hc hun=>by
       refine hV c hc ?_
       by_cases hjc:j=c
       · subst hjc;exact hjun
       · rw [getD_set_ne true hjc] at hun;exact hun
     have step:∀ u w',Below w1.heap.size w1 w'→wpB P md ops V Q n ((L.setIfInBounds i true).setIfInBounds j true) ((a.put oi.dst v).put oj.dst u) w'→wpB P md ops V Q (n+1) (L.setIfInBounds j true) (a.put oj.dst u) w':=fun u w' hb' h=>by
       refine ih (L.setIfInBounds j true) (a.put oj.dst u) w' (gP hcl hj) hV' hfree' (ready_mono hr (Ne.symm hji)) ?_ ?_
       · exact hy.of_same (execOp_put oi (fun cs b=>hsel i oi cs b hi) a oj.dst u p3) (wanted_put oi a oj.dst u p3) (dx hb hb')
       · rw [Array.setIfInBounds_comm _ _ hji,Act.put_comm a u v (fun d hd hd'=>p2 d hd' hd)]
         exact h
     refine ⟨oj,hoj,?_⟩
     split
     · rename_i hw
       rw [if_pos hw] at hrun
       exact bO (fun u w' h=>⟨h.1,step u w' (h.1 hVj) h.2⟩) hrun
     · rename_i hw
       rw [if_neg hw] at hrun
       exact ⟨hrun.1,step undef w1 (hrun.1 hVj) hrun.2⟩
end

def cnd(c:Bool)(p:Per):Per:=⟨fun w S=>c=true→p.holds w S,fun h h1 h2 hc=>p.mono (h hc) h1 h2⟩
section
variable {P:Program} {n:Fr} {ops:Array Oper}

def wpU(P:Program)(ops:Array Oper)(Q:Exit→Act→World→Prop):List Oper→Act→World→Prop
 | [],a,w=>Q .normal a w
 | o::rest,a,w=>if Region.wanted o (yielded ops a.tmps) then fB P (fun v w'=>wpU P ops Q rest (a.put o.dst v) w') ((execOp a.eval o).run P w) else wpU P ops Q rest (a.put o.dst undef) w
theorem ez{ops:Array Oper}{Q Q':Exit→Act→World→Prop}(hq:∀ e a w,Q e a w→Q' e a w):∀ (l:List Oper) (a:Act) (w:World),wpU P ops Q l a w→wpU P ops Q' l a w
 | [],_,_,h=>hq _ _ _ h
 | o :: l,a,w,h=>by
   unfold wpU at *
   split
   · rename_i hw
     rw [if_pos hw] at h
     exact bO (fun v w' h=>ez hq l _ _ h) h
   · rename_i hw
     rw [if_neg hw] at h
     exact ez hq l _ _ h
theorem abg{r:Option Nat}{ops:Array Oper}{Q:Exit→Act→World→Prop}(l:List Oper):∀ (k:Nat) (a:Act) (w:World),(∀ j,l[j]? = ops[k+j]?)→wpU P ops Q l a w→wpOpsIn (fnc r) 0 P ops Q (List.range' k l.length) a w:=by
 induction l with
 | nil=>intro k a w _ h;exact h
 | cons o l ih =>
   intro k a w hk h
   have h0:ops[k]? = some o:=by simpa using (hk 0).symm
   have hk':∀ j,l[j]? = ops[k+1+j]? := fun j=>by have:=hk (j+1);simpa [Nat.add_assoc,Nat.add_comm 1 j] using this
   rw [List.length_cons,List.range'_succ,wpOpsIn_cons]
   refine iR ⟨o,h0,?_⟩
   unfold wpU at h
   split
   · rename_i hw
     rw [if_pos hw] at h
     exact bO (fun v w' h=>ih (k+1) _ _ hk' h) h
   · rename_i hw
     rw [if_neg hw] at h
     exact ih (k+1) _ _ hk' h
theorem wpIn_region_lit{r:Option Nat}{id:Nat}{l:List Oper}{Q:Exit→Act→World→Prop}{a:Act}{w:World}(h:wpU P l.toArray Q l a w):(Code.region id l.toArray false).wpIn (fnc r) 0 P Q a w :=
 wpIn_region (by rw [List.range_eq_range',List.size_toArray];exact abg l 0 a w (by simp) h)

def guardOf(ops:Array Oper)(env:Env)(o:Oper):Option Bool :=
 match o.guard with
 | none=>some true
 | some (j,want)=>match (ops[j]?).bind (·.dst) with
   | none=>none
   | some d=>match look env d with
     | some (g,.bool b)=>some (g && (b == want))
     | _=>none
theorem dD {env:Env} {o:Oper} {c:Bool} {a:Act} (hc:guardOf ops env o=some c) (he:cG a env):Region.wanted o (yielded ops a.tmps)=c:=by
 unfold guardOf at hc
 split at hc
 · rename_i hg;simp only [Option.some.injEq] at hc;subst hc;simp [Region.wanted,hg]
 · rename_i j want hg
   split at hc
   · cases hc
   · rename_i d hd
     split at hc
     · rename_i g b hl
       simp only [Option.some.injEq] at hc
       have h1:=he d g (.bool b) hl
       have hy:yielded ops a.tmps j=if g then some b else none:=by
         unfold yielded
         simp only [hd,Option.bind_some]
         rcases Nat.lt_or_ge d a.tmps.size with hlt | hge
         · simp only [Array.getD,hlt,dite_true] at h1
           have h':a.tmps[d]? = some (bif g then .bool b else undef):=by rw [Array.getElem?_eq_getElem hlt];exact congrArg some h1
           rw [h']
           cases g<;>simp [undef]
         · have h':a.tmps[d]? = none:=by simp [hge]
           rw [h']
           cases g with
           | true=>simp [Array.getD,Nat.not_lt.2 hge,undef] at h1
           | false=>rfl
       rw [← hc]
       unfold Region.wanted
       rw [hg]
       simp only [hy]
       cases g<;>cases b<;>cases want<;>rfl
     · cases hc
def setEnv(env:Env)(dst:Option Tmp)(c:Bool)(v:Value):Env :=
 match dst with
 | some d=>(d,c,v)::env
 | none=>env
def fits(n:Nat)(dst:Option Tmp):Bool :=
 match dst with
 | some d=>decide (d<n)
 | none=>true
theorem cG.set{a:Act}{env:Env}(h:cG a env){dst:Option Tmp}(hd:fits a.tmps.size dst=true)(c:Bool)(v:Value):cG (a.put dst (bif c then v else undef)) (setEnv env dst c v):=by
 cases dst with
 | none=>exact h
 | some d=>exact h.put (by simpa [fits] using hd) c v
theorem ep(a:Act)(dst:Option Tmp)(v:Value):(a.put dst v).tmps.size=a.tmps.size:=by
 cases dst<;>simp [Act.put]
theorem put_defers(a:Act)(dst:Option Tmp)(v:Value):(a.put dst v).defers=a.defers:=by
 cases dst<;>rfl

def Quiet(P:Program)(n:Fr)(o:Oper)(s:Sta)(v:Value):Prop :=
 ∀ (w:World) (S:ba) (fp:Nat→ba) (a:Act),St w S fp s.ps s.hp→cG a s.env→a.tmps.size=n.size→l0 P v w ((execOp a.eval o).run P w)
def jq{β:Type}(P:Program)(n:Fr)(o:Oper)(s:Sta)(v:β→Value)(ps:β→List Per):Prop :=
 ∀ (w:World) (S:ba) (fp:Nat→ba) (a:Act),St w S fp s.ps s.hp→cG a s.env→a.tmps.size=n.size →
   ∃ x,(∀ w1,Below w.heap.size w w1→l0 P (v x) w1 ((execOp a.eval o).run P w1))∧∀ p∈ps x,p.holds w S
def kG{β:Type}(P:Program)(R:World→World→Prop)(n:Fr)(o:Oper)(s:Sta)(v:β→Value)(ps:β→List Per):Prop :=
 ∀ (w:World) (S:ba) (fp:Nat→ba) (a:Act),St w S fp s.ps s.hp→cG a s.env→a.tmps.size=n.size →
   ∃ x,(∀ w1,R w w1→l0 P (v x) w1 ((execOp a.eval o).run P w1))∧∀ p∈ps x,p.holds w S
def Eff(P:Program)(n:Fr)(o:Oper)(s:Sta)(quiet:Bool)(K:Sta→Prop):Prop :=
 ∀ (w:World) (S:ba) (fp:Nat→ba) (a:Act),St w S fp s.ps s.hp→cG a s.env→a.tmps.size=n.size →
   fB P (fun u w'=>∃ s' S' fp',K s'∧St w' S' fp' s'.ps s'.hp∧cG (a.put o.dst u) s'.env∧Evo w S (tot fp s.hp.length) w' S'∧(∀ b,tot fp' s'.hp.length b→tot fp s.hp.length b∨w.heap.size≤b) ∧
     (quiet=true→Below w.heap.size w w')) ((execOp a.eval o).run P w)

def aL(P:Program)(n:Fr)(ops:Array Oper)(Q:Exit→Sta→Prop)(l:List Oper)(s:Sta):Prop :=
 ∀ (w:World) (S:ba) (fp:Nat→ba) (a:Act),St w S fp s.ps s.hp→cG a s.env→a.tmps.size=n.size→a.defers=n.dfr→wpU P ops (eA Q n w S (tot fp s.hp.length)) l a w
def aB(P:Program)(n:Fr)(ops:Array Oper)(V:List Nat)(Q:Exit→Sta→Prop)(k:Nat)(L:Array Bool)(s:Sta):Prop :=
 ∀ (w:World) (S:ba) (fp:Nat→ba) (a:Act),St w S fp s.ps s.hp→cG a s.env→a.tmps.size=n.size→a.defers=n.dfr→wpB P .any ops (fun i=>V.contains i) (eA Q n w S (tot fp s.hp.length) .normal) k L a w

variable {Q:Exit→Sta→Prop} {s:Sta} {o:Oper} {rest:List Oper}
theorem dJ(h:Q .normal s):aL P n ops Q [] s:=fun w S fp a hst he hn hd=>fO hst he hn hd h
theorem pq{β:Type}{v:β→Value}{ps:β→List Per}(c:Bool)(hc:guardOf ops s.env o=some c)(hd:fits n.size o.dst=true)(hq:c=true→jq P n o s v ps)(hin:c=false→Nonempty β)
   (h:∀ x,aL P n ops Q rest ⟨setEnv s.env o.dst c (v x),(ps x).map (cnd c)++s.ps,s.hp⟩):aL P n ops Q (o::rest) s:=fun w S fp a hst he hn hdf=>by
 have hw:=dD hc he
 unfold wpU
 rw [hw]
 cases c with
 | true =>
   rw [if_pos rfl]
   obtain ⟨x,hx,hps⟩:=hq rfl w S fp a hst he hn
   refine bO (fun u w' ⟨hu,hb⟩ => ?_) (hx w (Below.refl _ _))
   subst hu
   have hst':=hst.below hb
   have:=h x w' S fp (a.put o.dst (v x)) ⟨fun p hp => ?_,hst'.res,hst'.lt,hst'.dj,hst'.slt⟩ (he.set (c:=true) (by rw [hn];exact hd) (v x)) (by rw [ep];exact hn) (by rw [put_defers];exact hdf)
   · exact ez (fun e a' w2 hp=>hp.trans (Evo.of_below _ _ hb) (fun _ h=>.inl h)) _ _ _ this
   · rcases List.mem_append.1 hp with h1 | h1
     · obtain ⟨p0,h2,rfl⟩:=List.mem_map.1 h1
       exact fun _=>p0.mono (hps p0 h2) (fun b hb'=>hb.block b (hst.slt b hb')) (fun _ h=>h)
     · exact hst'.per p h1
 | false =>
   rw [if_neg Bool.false_ne_true]
   obtain ⟨x⟩:=hin rfl
   exact h x w S fp (a.put o.dst undef) ⟨fun p hp=>(List.mem_append.1 hp).elim (fun h1=>by obtain ⟨p0,h2,rfl⟩:=List.mem_map.1 h1;exact fun h=>by cases h) (hst.per p),hst.res,hst.lt,hst.dj,hst.slt⟩ (he.set (c:=false) (by rw [hn];exact hd) (v x)) (by rw [ep];exact hn) (by rw [put_defers];exact hdf)
theorem Quiet.toE{v:Value}(h:Quiet P n o s v):jq (β:=Unit) P n o s (fun _=>v) (fun _=>[]):=fun w S fp a hst he hn =>
 ⟨(),fun w1 hb=>h w1 S fp a (hst.below hb) he hn,fun _ h=>by cases h⟩
theorem mG{v:Value}(c:Bool)(hc:guardOf ops s.env o=some c)(hd:fits n.size o.dst=true)(hq:c=true→Quiet P n o s v)
   (h:aL P n ops Q rest ⟨setEnv s.env o.dst c v,s.ps,s.hp⟩):aL P n ops Q (o::rest) s :=
 pq c hc hd (fun hc=>(hq hc).toE) (fun _=>⟨()⟩) (fun _=>h)
theorem aT{q:Bool}(hc:guardOf ops s.env o=some true)(h:Eff P n o s q (aL P n ops Q rest)):aL P n ops Q (o::rest) s:=fun w S fp a hst he hn hdf=>by
 have hw:=dD hc he
 unfold wpU
 rw [hw,if_pos rfl]
 refine bO (fun u w' ⟨s',S',fp',hK,hst',he',hE,hg,_⟩ => ?_) (h w S fp a hst he hn)
 exact ez (fun e a' w2 hp=>hp.trans hE hg) _ _ _ (hK w' S' fp' _ hst' he' (by rw [ep];exact hn) (by rw [put_defers];exact hdf))
theorem az{l:List Oper}{id:Nat}(h:aL P n l.toArray Q l s):awp P n (.region id l.toArray false) Q s:=fun w S fp a hst he hn hd=>wpIn_region_lit (h w S fp a hst he hn hd)

theorem xW{V:List Nat}{L:Array Bool}(hr:Region.ready .any ops L=[])(h:Q .normal s):aB P n ops V Q 0 L s:=fun w S fp a hst he hn hd w1 hb =>
 ⟨hr,(fO (hst.below hb) he hn hd h).trans (Evo.of_below _ _ hb) (fun _ h=>.inl h)⟩
theorem iQ{V:Nat→Bool}{Q Q':Act→World→Prop}(hq:∀ a w,Q a w→Q' a w):∀ (k:Nat) (L:Array Bool) (a:Act) (w:World),wpB P .any ops V Q k L a w→wpB P .any ops V Q' k L a w
 | 0,_,_,_,h=>fun w1 hb=>⟨(h w1 hb).1,hq _ _ (h w1 hb).2⟩
 | k+1,_,_,_,h=>fun w1 hb=>⟨fun h0=>hq _ _ ((h w1 hb).1 h0),fun i hi=>sH (fun a w h=>⟨h.1,iQ hq k _ _ _ h.2⟩) ((h w1 hb).2 i hi)⟩
def cC(ops:Array Oper)(V:List Nat)(L:Array Bool)(i:Nat):Bool :=
 Region.noSelect ops && !V.contains i && mx .any ops L && Region.free .any ops L i && (Region.ready .any ops L).contains i &&
   V.all fun c=>L.getD c true || ni .any ops 60 c i
theorem pn{β:Type}{V:List Nat}{k:Nat}{L:Array Bool}{v:β→Value}{ps:β→List Per}(i:Nat)(hi:ops[i]? = some o)(hf:cC ops V L i=true)(c:Bool)(hc:guardOf ops s.env o=some c)(hd:fits n.size o.dst=true)
   (hq:c=true→jq P n o s v ps) (hin:c=false→Nonempty β)
   (h:∀ x,aB P n ops V Q k (L.setIfInBounds i true) ⟨setEnv s.env o.dst c (v x),(ps x).map (cnd c)++s.ps,s.hp⟩):aB P n ops V Q (k+1) L s:=fun w S fp a hst he hn hdf=>by
 simp only [cC,Bool.and_eq_true] at hf
 obtain ⟨⟨⟨⟨⟨f1,f2⟩,f3⟩,f4⟩,f5⟩,f6⟩:=hf
 have hV:∀ c,(fun i=>V.contains i) c=true→L.getD c true=false→ni .any ops 60 c i=true:=fun c hVc hL=>by
   have:=List.all_eq_true.1 f6 c (by simpa using hVc)
   simpa [hL] using this
 have hVi:(fun i=>V.contains i) i=false:=by simpa using f2
 have hw:=dD (ops:=ops) hc he
 cases c with
 | true =>
   obtain ⟨x,hx,hps⟩:=hq rfl w S fp a hst he hn
   refine qk hi (Region.noSelect_spec f1) 60 hVi k L a w (iW f3) hV (Region.free_spec hi f4) (by simpa using f5) (v:=v x) (.inl ⟨hw,hx⟩) ?_
   refine h x w S fp (a.put o.dst (v x)) ⟨fun p hp => ?_,hst.res,hst.lt,hst.dj,hst.slt⟩ (he.set (c:=true) (by rw [hn];exact hd) (v x)) (by rw [ep];exact hn) (by rw [put_defers];exact hdf)
   rcases List.mem_append.1 hp with h1 | h1
   · obtain ⟨p0,h2,rfl⟩:=List.mem_map.1 h1
     exact fun _=>hps p0 h2
   · exact hst.per p h1
 | false =>
   obtain ⟨x⟩:=hin rfl
   refine qk hi (Region.noSelect_spec f1) 60 hVi k L a w (iW f3) hV (Region.free_spec hi f4) (by simpa using f5) (v:=undef) (.inr ⟨hw,rfl⟩) ?_
   exact h x w S fp (a.put o.dst undef) ⟨fun p hp=>(List.mem_append.1 hp).elim (fun h1=>by obtain ⟨p0,h2,rfl⟩:=List.mem_map.1 h1;exact fun h=>by cases h) (hst.per p),hst.res,hst.lt,hst.dj,hst.slt⟩ (he.set (c:=false) (by rw [hn];exact hd) (v x)) (by rw [ep];exact hn) (by rw [put_defers];exact hdf)
theorem xX{V:List Nat}{k:Nat}{L:Array Bool}{v:Value}(i:Nat)(hi:ops[i]? = some o)(hf:cC ops V L i=true)(c:Bool)(hc:guardOf ops s.env o=some c)(hd:fits n.size o.dst=true)
   (hq:c=true→Quiet P n o s v) (h:aB P n ops V Q k (L.setIfInBounds i true) ⟨setEnv s.env o.dst c v,s.ps,s.hp⟩):aB P n ops V Q (k+1) L s :=
 pn i hi hf c hc hd (fun hc=>(hq hc).toE) (fun _=>⟨()⟩) (fun _=>h)
theorem dG{V:List Nat}{k:Nat}{L:Array Bool}{q:Bool}(i:Nat)(hi:ops[i]? = some o)(hr:Region.ready .any ops L=[i])(hq:(q || V.contains i)=true)(hc:guardOf ops s.env o=some true)
   (h:Eff P n o s q (aB P n ops V Q k (L.setIfInBounds i true))):aB P n ops V Q (k+1) L s:=fun w S fp a hst he hn hdf w1 hb=>by
 refine ⟨fun h0=>(by rw [hr] at h0;cases h0),fun j hj => ?_⟩
 rw [hr] at hj
 obtain rfl:=List.mem_singleton.1 hj
 refine ⟨o,hi,?_⟩
 rw [if_pos (dD (ops:=ops) hc he)]
 refine bO (fun u w' ⟨s',S',fp',hK,hst',he',hE,hg,hqb⟩=>⟨fun hVj=>hqb (by have h0:V.contains j=false:=hVj;rw [h0,Bool.or_false] at hq;exact hq),?_⟩) (h w1 S fp a (hst.below hb) he hn)
 refine iQ (fun a2 w2 hp=>(hp.trans hE hg).trans (Evo.of_below _ _ hb) (fun _ h=>.inl h)) _ _ _ _ (hK w' S' fp' _ hst' he' (by rw [ep];exact hn) (by rw [put_defers];exact hdf))
theorem fk{l:List Oper}{id:Nat}(V:List Nat)(hm:P.follows .mixedOrders=true)(h:aB P n l.toArray V Q l.length (Array.replicate l.length false) s):awp P n (.region id l.toArray true) Q s:=fun w S fp a hst he hn hd=>by
 refine wpIn_region_any hm ?_
 have hb:Below w.heap.size w w.drew:=(Below.refl _ _).drew
 have h1:=h w.drew S fp a (hst.below hb) he hn hd
 have h2:=kC (r:=n.ro) (Q':=eA Q n w S (tot fp s.hp.length)) (fun a' w' hp=>eA.trans (Evo.of_below _ _ hb) (fun _ h=>.inl h) hp) _ _ _ _ h1
 simpa using h2
end
end Go.Sy

