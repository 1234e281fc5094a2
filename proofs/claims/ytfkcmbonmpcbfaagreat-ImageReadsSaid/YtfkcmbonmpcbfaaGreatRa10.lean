/- Parts of the proof, in build order. No condition. -/
import Derived.Test.YtfkcmbonmpcbfaaGreatRa06
import Derived.Test.YtfkcmbonmpcbfaaGreatRa09
import Derived.Test.YtfkcmbonmpcbfaaGreatRa07
import Derived.Test.YtfkcmbonmpcbfaaGreatRa08
import Derived.Test.YtfkcmbonmpcbfaaGreatRa05
import Derived.Shelf.Slices.Clone
import Derived.Shelf.Slices.Reverse
import Derived.Shelf.Slices.In.SortNone
set_option linter.unusedSimpArgs false
set_option linter.unusedVariables false
set_option maxHeartbeats 1000000
set_option maxRecDepth 20000
namespace Go.Sy
open Go.RowKit Go.Lp
section
variable {α:Type} {enc:α→Value}
def qz(v:Value)(x:List α):Sl α:=match v with
 | .slice ad _ cap=>⟨ad,cap,x⟩
 | _=>⟨none,0,x⟩
theorem adw(v:Value)(x:List α):(qz v x).l=x:=by unfold qz;split<;>rfl
theorem xW:∀ (vs:List Value) (l:List (List α)),vs.length=l.length→(List.zipWith qz vs l).map (·.l)=l
 | [],[],_=>rfl
 | [],_::_,h=>by cases h
 | _::_,[],h=>by cases h
 | v::vs,x::l,h=>by rw [List.zipWith_cons_cons,List.map_cons,adw,xW vs l (by simpa using h)]
theorem rW:∀ (vs:List Value) (l:List (List α)),vs.length=l.length→(∀ (k:Nat) (v:Value) (x:List α),vs[k]? = some v→l[k]? = some x→(qz v x).val=v)→(List.zipWith qz vs l).map Sl.val=vs
 | [],[],_,_=>rfl
 | [],_::_,h,_=>by cases h
 | _::_,[],h,_=>by cases h
 | v::vs,x::l,h,hk=>by
   rw [List.zipWith_cons_cons,List.map_cons,hk 0 v x rfl rfl,rW vs l (by simpa using h) (fun k v x h1 h2=>hk (k+1) v x (by simpa using h1) (by simpa using h2))]
variable {P:Program} {n:Fr} {env:Env} {ps:List Per} {hp:List Res} {c:Code} {Q:Exit→Sta→Prop} {vo:Value} {T E:TypeId} {l:List (List α)}

theorem fW{w:World}{S F:bO}{v:Value}{sz:Nat}{rows:List (List D)}(h:(aO v E sz rows).holds w S F):∃ ad cap,v=.slice ad rows.length cap:=by
 rcases h with ⟨h1,h2,_⟩ | ⟨b,cap,h1,_⟩
 · subst h2;exact ⟨none,0,h1⟩
 · exact ⟨_,cap,h1⟩
theorem iL(i:Nat)(hi:hp[i]? = some (kb vo T E enc l))
   (h:∀ s:Sl (Sl α),vo=s.val→s.l.map (·.l)=l→awp P n c Q ⟨env,bz (ShF fun x=>[.v (enc x)]) s.l::ShF (fun t:Sl α=>[.v t.val]) s::ps,hp.set i emp⟩):awp P n c Q ⟨env,ps,hp⟩:=by
 have hil:=(List.getElem?_eq_some_iff.1 hi).1
 refine kO (β := {s:Sl (Sl α) // vo=s.val∧s.l.map (·.l)=l}) i (fun p=>gl (aO vo T 1 (dB (p.1.l.map Sl.val))) (fw (inner E enc (p.1.l.map Sl.val) l))) hi (fun w S F hh => ?_) fun ⟨s,h1,h2⟩ => ?_
 · obtain ⟨vs,hl,hs⟩:=hh
   obtain ⟨G,H,hG,hH,hd,he⟩:=hs
   have hval:∀ (k:Nat) (v:Value) (x:List α),vs[k]? = some v→l[k]? = some x→(qz v x).val=v:=fun k v x hv hx=>by
     obtain ⟨G2,_,ho⟩:=sg _ _ hH k _ (ns (enc:=enc) (E:=E) hv hx)
     obtain ⟨ad,cap,rfl⟩:=fW ho
     rw [dF];rfl
   obtain ⟨ad,cap,hvo⟩:=fW hG
   have hzl:(List.zipWith qz vs l).length=vs.length:=by simp [hl]
   refine ⟨⟨⟨ad,cap,List.zipWith qz vs l⟩,?_,xW vs l hl⟩,?_⟩
   · rw [hvo]
     show _=Value.slice ad (List.zipWith qz vs l).length cap
     rw [hzl,lC]
   · show (gl (aO vo T 1 (dB ((List.zipWith qz vs l).map Sl.val))) (fw (inner E enc ((List.zipWith qz vs l).map Sl.val) l))).holds w S F
     rw [rW vs l hl hval]
     exact ⟨G,H,hG,hH,hd,he⟩
 · dsimp only
   have hsh:=jQ (P:=P) (n:=n) (env:=env) (ps:=ps) (hp:=hp.set i (gl (aO vo T 1 (dB (s.l.map Sl.val))) (fw (inner E enc (s.l.map Sl.val) l)))) (c:=c) (Q:=Q) i
     (cM (ShF (fun t:Sl α=>[.v t.val]) s) (bz (ShF fun x=>[.v (enc x)]) s.l)) (by rw [List.getElem?_set_self hil]) (fun w S F hh => ?_) ?_
   · exact hsh
   · obtain ⟨G,H,hG,hH,_,e⟩:=hh
     have hS:∀ b,(S b∨G b)→(S b∨F b):=fun b h=>h.imp id fun g=>(e b).2 (.inl g)
     refine ⟨?_,fun t ht => ?_⟩
     · have:=(mH hG).mono (fun _ _=>rfl) hS
       rw [h1] at this
       show gD w _ _ (.sl (s.l.map fun t:Sl α=>[.v t.val]))
       have e2:dB (s.l.map Sl.val)=s.l.map fun t:Sl α=>[D.v t.val]:=by simp [dB]
       rw [e2] at this
       exact this
     · obtain ⟨k,hk⟩:=List.mem_iff_getElem?.1 ht
       have hlk:l[k]? = some t.l:=by rw [← h2,List.getElem?_map,hk];rfl
       obtain ⟨G2,hs,ho⟩:=sg _ _ hH k _ (ns (enc:=enc) (E:=E) (v:=t.val) (by rw [List.getElem?_map,hk];rfl) hlk)
       exact (mH ho).mono (fun _ _=>rfl) fun b h=>h.imp id fun g=>(e b).2 (.inr (hs b g))
   · rw [List.set_set]
     refine sE (ps':=bz (ShF fun x=>[.v (enc x)]) s.l::ShF (fun t:Sl α=>[.v t.val]) s::ps) (hp':=hp.set i emp) (fun w S fp hst=>⟨fp,⟨fun q hq => ?_,hst.res,hst.lt,hst.dj,hst.slt⟩,fun _ h=>h⟩) (h s h1 h2)
     have h0:=hst.per _ List.mem_cons_self
     rcases List.mem_cons.1 hq with rfl | hq
     · exact h0.2
     · rcases List.mem_cons.1 hq with rfl | hq
       · exact h0.1
       · exact hst.per _ (List.mem_cons_of_mem _ hq)
end
theorem rD{P:Program}{n:Fr}{env:Env}{ps:List Per}{hp:List Res}{c:Code}{Q:Exit→Sta→Prop}{v:Value}{E:TypeId}{sz:Nat}{rows:List (List D)}(i:Nat)(hi:hp[i]? = some (aO v E sz rows))(h:∀ ad cp,v=.slice ad rows.length cp→awp P n c Q ⟨env,ps,hp⟩):awp P n c Q ⟨env,ps,hp⟩ :=
 fH (φ:=∃ ad cp,v=.slice ad rows.length cp) i hi (fun w S F hh=>fW hh) (fun ⟨ad,cp,e⟩=>h ad cp e)
theorem Con.ofOwn{P:Program}{f:FuncId}{args:List Value}{ps:List Per}{v:Value}{E:TypeId}{sz:Nat}{rows:List (List D)}{R:Value→List Per→List Res→Prop}(h:Con P f args (Sh v (.sl rows)::ps) [] R):Con P f args ps [aO v E sz rows] R:=fun w S fp hst=>by
 have h1:=mN hst 0 rfl
 have h2:St w (fun b=>S b∨fp 0 b) (fun _ _=>False) (Sh v (.sl rows)::ps) []:=⟨h1.per,fun i R hi=>by simp at hi,fun i hi=>by simp at hi,fun i j hi=>by simp at hi,h1.slt⟩
 have hE:Evo w S (tot fp 1) w (fun b=>S b∨fp 0 b):=⟨rfl,rfl,rfl,Nat.le_refl _,Nat.le_refl _,fun _ _ _=>rfl,fun _ h=>.inl h,fun b hb=>hb.elim .inl fun h=>.inr (.inl ⟨0,Nat.zero_lt_one,h⟩)⟩
 have h0:∀ b,¬ tot (fun _ _=>False) ([]:List Res).length b:=fun b ⟨j,hj,_⟩=>by simp at hj
 exact (h w _ _ h2).mono fun e w' ⟨u,ps',hp',S',fp',he,hR,hst',hE',hb⟩=>⟨u,ps',hp',S',fp',he,hR,hst',hE.trans hE' (fun b hb=>(h0 b hb).elim),fun b hb'=>(hb b hb').elim (fun h=>(h0 b h).elim) .inr⟩
end Go.Sy
namespace Go.Proofs.YtfkcmbonmpcbfaaGreat
open Go.RowKit Go.Lp Go.Sy Go.Lv
def kf(N:Nat)(a:dI):Prop:=(0≤a.from_∧a.from_<N)∧0≤a.to_∧a.to_<N
theorem w8(l:List dI):∀ (L:List (List Int)) (u:Int) (x:Int),(∀ a∈l,0≤a.from_∧a.from_<L.length)→(0≤u∧u<L.length)→(x∈elt (l.foldl gn L) u↔x∈elt L u∨∃ a∈l,a.from_=u∧a.to_=x):=by
 induction l with
 | nil=>intro L u x _ _;simp
 | cons a l ih =>
   intro L u x ha hu
   have hae:=ha a List.mem_cons_self
   rw [List.foldl_cons,ih (gn L a) u x (fun b hb=>by rw [lL];exact ha b (List.mem_cons_of_mem _ hb)) (by rw [lL];exact hu)]
   have e:elt (gn L a) u=if a.from_=u then elt L u++[a.to_] else elt L u:=by
     unfold gn elt
     rw [List.getD_eq_getElem?_getD,List.getD_eq_getElem?_getD,List.getD_eq_getElem?_getD,List.getElem?_set]
     by_cases h:a.from_=u
     · subst h;rw [if_pos rfl,if_pos (by omega),if_pos rfl];rfl
     · rw [if_neg (by omega),if_neg h]
   rw [e]
   split
   · rename_i h
     rw [List.mem_append,List.mem_singleton]
     simp only [List.mem_cons,exists_eq_or_imp]
     constructor
     · rintro ((h1 | h1) | h1)
       · exact .inl h1
       · exact .inr (.inl ⟨h,h1.symm⟩)
       · exact .inr (.inr h1)
     · rintro (h1 | ⟨_,h1⟩ | h1)
       · exact .inl (.inl h1)
       · exact .inl (.inr h1.symm)
       · exact .inr h1
   · rename_i h
     simp only [List.mem_cons,exists_eq_or_imp]
     constructor
     · rintro (h1 | h1)
       · exact .inl h1
       · exact .inr (.inr h1)
     · rintro (h1 | ⟨h1,_⟩ | h1)
       · exact .inl h1
       · exact (h h1).elim
       · exact .inr h1
theorem ju(d:Array Int)(hs:∀ i j,i<j→j<d.size→d[i]! ≤ d[j]!):∀ m,m≤d.size→(Lib.compactUpTo d m).Pairwise (· < ·)∧(∀ x∈Lib.compactUpTo d m,(∃ j,j<m∧d[j]! = x))∧(∀ j,j<m→d[j]! ∈ Lib.compactUpTo d m)
 | 0,_=>⟨by simp [Lib.compactUpTo],by simp [Lib.compactUpTo],by simp⟩
 | m + 1,hm=>by
   obtain ⟨h1,h2,h3⟩:=ju d hs m (by omega)
   rw [Lib.compactUpTo_succ]
   have hk:Lib.keeps d m=true∨(0<m∧d[m]! = d[m-1]! ∧ Lib.keeps d m=false):=by
     rcases Nat.eq_zero_or_pos m with h0 | h0
     · exact .inl (Lib.keeps_lt_one d m (by omega))
     · by_cases he:d[m]! = d[m-1]!
       · exact .inr ⟨h0,he,Lib.keeps_neg h0 he⟩
       · exact .inl (Lib.keeps_pos he)
   by_cases hkm:Lib.keeps d m=true
   · rw [if_pos hkm]
     refine ⟨?_,fun x hx => ?_,fun j hj => ?_⟩
     · refine List.pairwise_append.2 ⟨h1,List.pairwise_singleton _ _,fun x hx y hy => ?_⟩
       rw [List.mem_singleton.1 hy]
       obtain ⟨j,hj,rfl⟩:=h2 x hx
       have hle:=hs j m hj (by omega)
       rcases Nat.eq_zero_or_pos m with h0 | h0
       · omega
       · have hne:d[m]! ≠ d[m-1]! := fun he=>by rw [Lib.keeps_neg h0 he] at hkm;cases hkm
         have hle2:=hs (m-1) m (by omega) (by omega)
         by_cases hjm:j=m-1
         · subst hjm;omega
         · have:=hs j (m-1) (by omega) (by omega);omega
     · rcases List.mem_append.1 hx with h | h
       · obtain ⟨j,hj,he⟩:=h2 x h;exact ⟨j,by omega,he⟩
       · exact ⟨m,by omega,(List.mem_singleton.1 h).symm⟩
     · by_cases hjm:j=m
       · subst hjm;simp
       · exact List.mem_append_left _ (h3 j (by omega))
   · obtain ⟨h0,he,_⟩:=hk.resolve_left hkm
     rw [if_neg hkm,List.append_nil]
     refine ⟨h1,fun x hx => ?_,fun j hj => ?_⟩
     · obtain ⟨j,hj,he⟩:=h2 x hx;exact ⟨j,by omega,he⟩
     · by_cases hjm:j=m
       · subst hjm;rw [he];exact h3 (j-1) (by omega)
       · exact h3 j (by omega)
theorem qS(zs:List Int):(dK zs).Pairwise (· < ·)∧∀ x,x∈dK zs↔x∈zs:=by
 have hp:(fP zs).Pairwise (fun x y=>(decide (x≤y))=true):=List.pairwise_mergeSort (fun a b c h1 h2=>by simp at *;omega) (fun a b=>by simp;omega) zs
 have hg:∀ j (hj:j<(fP zs).length),(fP zs).toArray[j]! = (fP zs)[j]:=fun j hj=>by simp [hj]
 have hs:∀ i j,i<j→j<(fP zs).toArray.size→(fP zs).toArray[i]! ≤ (fP zs).toArray[j]! := fun i j hij hj=>by
   have hj':j<(fP zs).length:=by simpa using hj
   rw [hg i (by omega),hg j hj']
   simpa using List.pairwise_iff_getElem.1 hp i j (by omega) hj' hij
 obtain ⟨h1,h2,h3⟩:=ju (fP zs).toArray hs (fP zs).length (by simp)
 refine ⟨h1,fun x=>⟨fun hx => ?_,fun hx => ?_⟩⟩
 · obtain ⟨j,hj,rfl⟩:=h2 x hx
   rw [hg j hj]
   exact List.mem_mergeSort.1 (List.getElem_mem hj)
 · have hm:x∈fP zs:=List.mem_mergeSort.2 hx
   obtain ⟨j,hj,he⟩:=List.getElem_of_mem hm
   rw [← he,← hg j hj];exact h3 j hj
theorem zH{zs:List Int}{x:Int} : x∈dK zs↔x∈zs:=(qS zs).2 x
theorem aaZ{α:Type}[Inhabited α](l:List α)(u:Int):elt l u=elt l (u.toNat:Int):=rfl
theorem zG{N:Nat}{l:List dI}(h:∀ a∈l,kf N a){u x:Int}(hu:0≤u∧u<N):x∈elt (fh N l) u↔∃ a∈l,a.from_=u∧a.to_=x:=by
 have e:elt (fh N l) u=dK (elt (ee N l) u):=by
   unfold fh elt
   rw [List.getD_eq_getElem?_getD,List.getD_eq_getElem?_getD,List.getElem?_map]
   have hlt:u.toNat<(ee N l).length:=by rw [dD];omega
   rw [List.getElem?_eq_getElem hlt];rfl
 rw [e,zH]
 unfold ee
 rw [w8 l (List.replicate N []) u x (fun a ha=>by simpa using (h a ha).1) (by simpa using hu)]
 have:elt (List.replicate N ([]:List Int)) u=[]:=by
   unfold elt;rw [List.getD_eq_getElem?_getD,List.getElem?_replicate];split<;>rfl
 rw [this];simp
theorem vk{N:Nat}{l:List dI}(h:∀ a∈l,kf N a):o0 N (fh N l):=fun u x hx=>by
 rw [aaZ] at hx
 by_cases hu:u.toNat<N
 · obtain ⟨a,ha,_,rfl⟩:=(zG h (by omega)).1 hx;exact (h a ha).2
 · unfold elt at hx
   rw [List.getD_eq_getElem?_getD,List.getElem?_eq_none (by unfold fh;rw [List.length_map,dD];omega)] at hx
   cases hx
theorem vS(zs:List Int):(dK zs).length≤zs.length:=by
 unfold dK Lib.compact Lib.compactUpTo
 rw [List.length_map]
 refine Nat.le_trans (List.length_filter_le _ _) ?_
 simp [fP]
theorem jE{l:List Int}{k:Nat}{v:Int}(h:l[k]? = some v):(cL encI l)[k]? = some [.v (encI v)]:=by simp [cL,h]
theorem mw{l:List Int}(h:0<l.length):cL encI l≠[]:=fun h0=>by
 have:=congrArg List.length h0
 rw [dF,List.length_nil] at this;omega
theorem uZ(l:List Int)(i:Nat)(v:Int):cL encI (l.set i v)=(cL encI l).set i [.v (encI v)]:=by simp [cL,List.map_set]
theorem la(l:List Int)(v:Int):cL encI (l++[v])=cL encI l++[[.v (encI v)]]:=by simp [cL]
def oI(vs:List aH)(s:ByteArray):Option Nat:=vs.findIdx? fun d=>decide (d.name=s)
abbrev kJ(vs:List aH):ByteArray→Option Int:=fun s=>(oI vs s).map fun i:Nat=>(i:Int)
theorem sq(l:List aH)(d:aH)(s:ByteArray):oI (l++[d]) s=(oI l s).or (if d.name=s then some l.length else none):=by
 unfold oI
 rw [List.findIdx?_append]
 congr 1
 by_cases h:d.name=s<;>simp [h,List.findIdx?_cons]
theorem sr(l:List aH)(s:ByteArray):(oI l s).isSome=true↔s∈l.map (·.name):=by
 unfold oI
 rw [List.findIdx?_isSome,List.any_eq_true,List.mem_map]
 simp
theorem acS{l:List aH}{s:ByteArray}{i:Nat}(h:oI l s=some i):i<l.length:=(List.findIdx?_eq_some_iff_getElem.1 h).1
theorem aaj(l:List aH)(s:ByteArray):(kJ l s).isSome=true↔s∈l.map (·.name):=by
 rw [← sr];simp [kJ]
theorem mx{γ:Type}[DecidableEq γ]:∀ l:List γ,∃ ks:List γ,ks.Nodup∧(∀ a,a∈l↔a∈ks)∧(ks.length=l.length→l.Nodup)
 | []=>⟨[],List.nodup_nil,fun _=>Iff.rfl,fun _=>List.nodup_nil⟩
 | a :: l=>by
   obtain ⟨ks,h1,h2,h3⟩:=mx l
   have hle:ks.length≤l.length:=eY ks l h1 fun x hx=>(h2 x).2 hx
   by_cases ha:a∈ks
   · refine ⟨ks,h1,fun x => ?_,fun h => ?_⟩
     · rw [List.mem_cons,h2]
       exact ⟨fun h=>h.elim (fun e=>e ▸ ha) id,.inr⟩
     · rw [List.length_cons] at h;omega
   · refine ⟨a::ks,List.nodup_cons.2 ⟨ha,h1⟩,fun x => ?_,fun h => ?_⟩
     · rw [List.mem_cons,List.mem_cons,h2]
     · rw [List.length_cons,List.length_cons] at h
       exact List.nodup_cons.2 ⟨fun k=>ha ((h2 a).1 k),h3 (by omega)⟩
theorem ss(l:List aH):rV (kJ l)=l.length↔(l.map (·.name)).Nodup:=by
 obtain ⟨ks,h1,h2,h3⟩:=mx (l.map (·.name))
 rw [ve h1 fun a=>(aaj l a).trans (h2 a)]
 constructor
 · intro h;exact h3 (by rw [List.length_map];exact h)
 · intro h
   have:=eY _ _ h fun x hx=>(h2 x).1 hx
   have h4:=eY _ _ h1 fun x hx=>(h2 x).2 hx
   rw [List.length_map] at this h4;omega
def fj(s:ByteArray):Bool:=(gH s).all (fun u=>decide (33≤u.toNat) && decide (u.toNat≤126)) && (decide (1≤s.size) && decide (s.size≤64))
structure VOk (l:List aH):Prop where
 len:l.length≤4096
 nd:(l.map (·.name)).Nodup
 nm:∀ d∈l,fj d.name=true
structure iY (l:List aH):Prop where
 len:l.length≤1
 nm:∀ d∈l,fj d.name=true
 par:∀ d∈l,d.parents.l=[]
theorem iY.nd{l:List aH}(h:iY l):(l.map (·.name)).Nodup:=by
 have:=h.len
 match l with
 | []=>exact List.nodup_nil
 | [a]=>simp
 | a::b::l=>simp at this
structure VI (l:List aH) (k:Nat) (gs:List dI):Prop where
 le:k≤l.length
 ok:∀ a∈gs,kf l.length a
 ln:gs.length≤l.length*k
 nm:∀ d∈l.take k,fj d.name=true
 si:iY l→gs=[]
structure VJ (l:List aH) (k:Nat) (d:aH) (m:Nat) (gs:List dI):Prop where
 le:k<l.length
 ml:m≤d.parents.l.length
 ok:∀ a∈gs,kf l.length a
 ln:gs.length≤l.length*k+m
 nm:∀ d∈l.take k,fj d.name=true
 si:iY l→gs=[]
 nd:(d.parents.l.take m).Nodup
 kn:∀ x∈d.parents.l.take m,x∈l.map (·.name)
section
variable {l:List aH} {k m:Nat} {d:aH} {gs:List dI} {p:ByteArray}
theorem VI.start(l:List aH):VI l 0 []:=⟨Nat.zero_le _,fun a h=>(by cases h),Nat.zero_le _,fun d h=>(by cases h),fun _=>rfl⟩
theorem VI.into(h:VI l k gs)(hd:l[k]? = some d):VJ l k d 0 gs:=⟨(List.getElem?_eq_some_iff.1 hd).1,Nat.zero_le _,h.ok,h.ln,h.nm,h.si,List.nodup_nil,fun x hx=>(by cases hx)⟩
theorem VJ.short(h:VJ l k d m gs):m≤l.length:=by
 have:=eY _ _ h.nd h.kn
 rw [List.length_take,List.length_map] at this
 have:=h.ml;omega
theorem VJ.step(h:VJ l k d m gs)(hd:l[k]? = some d)(hp:d.parents.l[m]? = some p){i:Nat}(hi:oI l p=some i)(hs:p ∉ d.parents.l.take m):VJ l k d (m+1) (gs++[⟨k,i⟩]):=by
 have hm:=(List.getElem?_eq_some_iff.1 hp).1
 have hlt:=acS hi
 have hle:=h.le
 refine ⟨h.le,hm,fun a ha => ?_,?_,h.nm,fun hv => ?_,?_,fun x hx => ?_⟩
 · rcases List.mem_append.1 ha with h1 | h1
   · exact h.ok a h1
   · rw [List.mem_singleton.1 h1];exact ⟨⟨Int.natCast_nonneg _,Int.ofNat_lt.2 hle⟩,Int.natCast_nonneg _,Int.ofNat_lt.2 hlt⟩
 · rw [List.length_append,List.length_singleton];have:=h.ln;omega
 · have:=hv.par d (List.mem_of_getElem? hd)
   rw [this] at hp;cases hp
 · rw [List.take_add_one,hp,Option.toList_some,List.nodup_append]
   exact ⟨h.nd,by simp,fun x hx y hy e=>hs (by rw [List.mem_singleton.1 hy] at e;exact e ▸ hx)⟩
 · rw [List.take_add_one,hp,Option.toList_some] at hx
   rcases List.mem_append.1 hx with h1 | h1
   · exact h.kn x h1
   · rw [List.mem_singleton.1 h1,← sr,hi];rfl
theorem VJ.done(h:VJ l k d m gs)(hd:l[k]? = some d)(hn:fj d.name=true):VI l (k+1) gs:=by
 have:=h.short
 refine ⟨h.le,h.ok,?_,fun x hx => ?_,h.si⟩
 · rw [Nat.mul_add,Nat.mul_one];have:=h.ln;omega
 · rw [List.take_add_one,hd,Option.toList_some] at hx
   rcases List.mem_append.1 hx with h1 | h1
   · exact h.nm x h1
   · rw [List.mem_singleton.1 h1];exact hn
end
end Go.Proofs.YtfkcmbonmpcbfaaGreat

namespace Go.Proofs.YtfkcmbonmpcbfaaGreat
open Go.RowKit Go.Lp Go.Sy
open Go.Proofs.Tryz
attribute [local irreducible] aL aB awp aC fwp Quiet
theorem wu(l:Sl Int)(hl:l.l.length≤1000000):Con Tryz.prog 347 [l.val] [ShF cX l] [] fun r ps hp=>ps=[]∧∃ (ad:Option Addr) (c:Nat),r=.slice ad l.l.length c∧hp=[aO (.slice ad l.l.length c) 3 1 (l.l.map cX)]:=by
 refine EN1 Tryz.func347 rfl ?_
 refine kg (φ:=l.ad=none→l.l=[]) (fun w S fp hst => ?_) (fun hnil => ?_)
 · intro hn
   have hrep:gD w S (.slice l.ad l.l.length l.cap) (.sl (l.l.map cX)):=hst.per _ (aI 0 rfl)
   rw [hn] at hrep
   generalize hrw:l.l.map cX=rows at hrep
   generalize l.l.length=m at hrep
   cases hrep with
   | e=>exact List.map_eq_nil_iff.1 hrw
 refine aSR (aA rfl (aNs (aSR (aM rfl (aU rfl (xm Tryz.underlying26 rfl) (aNn ?_))))))
 refine ao _ rfl (fun h1 => ?_) (fun h1 => ?_)
 ·skip
  have hl0:l.l=[]:=hnil (by simpa using h1)
  refine ah (cW 3 1 ?_)
  show awp _ _ _ _ ⟨_,_,[_]⟩
  refine aa (aA rfl (aNn (ax (bB (FZ1 [0] Tryz.results347 rfl ?_)))))
  exact ⟨rfl,none,0,by rw [hl0];rfl,by rw [hl0];rfl⟩
 ·skip
  refine ar (aj (aSR (LT rfl (xy el26 rfl (fun v3_0=>(aHN ?_))))))
  refine aM rfl ?_
  refine aD rfl (sw 0 el26 el26 rfl rfl rfl rfl (aI 0 rfl) ((fun r hr=>by obtain ⟨z,_,rfl⟩:=List.mem_map.1 hr;rfl)) (by show ([]:List (List D)).length+(l.l.map cX).length≤_;rw [List.length_map];exact Nat.le_trans (show 0+l.l.length≤1000000 by omega) (by decide)) (l.l.length) (by simp;try omega) (fun v3_2 c3_2 => ?_))
  refine aHK ?_
  refine aA rfl (aNn (ax (FZ1 [0] Tryz.results347 rfl ?_)))
  exact ⟨rfl,v3_2,c3_2,rfl,rfl⟩
end Go.Proofs.YtfkcmbonmpcbfaaGreat

namespace Go.Proofs.YtfkcmbonmpcbfaaGreat
open Go.RowKit Go.Lp Go.Sy Go.Sort Go.Shelf
open Go.Proofs.Tryz
theorem ni{v:Value}{T:TypeId}(zs:List Int)(hz:zs.length<4611686018427387904):Con Tryz.prog 185 [v] [] [aO v T 1 (cL encI zs)] fun _ ps' hp'=>ps'=[]∧hp'=[aO v T 1 (cL encI (fP zs))]:=by
 have hlen:(fP zs).length=zs.length:=List.length_mergeSort _
 refine lS (zs1:=fP zs) (rest:=[]) (fun _=>rfl) (by simp [hlen]) (fun hv hz w => ?_) (fun b cap w hv hb hc hm hH => ?_)
 · subst hv;subst hz
   refine (Any.slices_Sort_int_none Tryz.lays189 none 0 w).mono fun e w' ⟨he,hw⟩=>⟨_,he,hw,rfl,?_⟩
   rw [show fP []=[] by simp [fP]]
 · refine (Any.slices_Sort_int Tryz.lays189 b 0 cap zs w hH hb hz).mono fun e w' ⟨he,n,os,hw⟩=>⟨⟨_,he,rfl,by rw [hlen,hv]⟩,n,os,by rw [List.append_nil];exact hw⟩
theorem mo{v:Value}{T:TypeId}(zs:List Int):Con Tryz.prog 348 [v] [] [aO v T 1 (cL encI zs)] fun r ps' hp'=>ps'=[]∧∃ ad c,r=.slice ad (Lib.compact zs).length c∧hp'=[aO r T 1 (cL encI (Lib.compact zs))]:=by
 have hle:(Lib.compact zs).length≤zs.length:=by
   unfold Lib.compact Lib.compactUpTo
   rw [List.length_map]
   exact Nat.le_trans (List.length_filter_le _ _) (by simp)
 refine lS (zs1:=Lib.compact zs) (rest:=List.replicate (zs.length-(Lib.compact zs).length) 0) (fun _=>rfl) (by simp;omega) (fun hv hz w => ?_) (fun b cap w hv hb hc hm hH => ?_)
 · subst hv;subst hz
   refine (Any.slices_Compact_int_empty Tryz.lays20 none 0 w).mono fun e w' ⟨he,hw⟩=>⟨_,he,hw,rfl,none,0,rfl,rfl⟩
 · refine (Any.slices_Compact_int Tryz.lays20 b 0 cap zs w hH (by unfold maxLen at hm;omega) hc).mono fun e w' ⟨he,n,hw⟩=>⟨⟨_,he,rfl,_,_,rfl,rfl⟩,n,#[],?_⟩
   rw [Sort.grow_empty];exact hw
theorem s8{v:Value}{T:TypeId}(zs:List Int):Con Tryz.prog 349 [v] [] [aO v T 1 (cL encI zs)] fun _ ps' hp'=>ps'=[]∧hp'=[aO v T 1 (cL encI zs.reverse)]:=by
 refine lS (zs1:=zs.reverse) (rest:=[]) (fun _=>rfl) (by simp) (fun hv hz w => ?_) (fun b cap w hv hb hc hm hH => ?_)
 · subst hv;subst hz
   exact (Any.slices_Reverse_int_empty Tryz.lays112 none 0 w).mono fun e w' ⟨he,hw⟩=>⟨_,he,hw,rfl,rfl⟩
 · refine (Any.slices_Reverse_int Tryz.lays112 b 0 cap zs w hH (by unfold maxLen at hm;omega)).mono fun e w' ⟨he,n,hw⟩=>⟨⟨_,he,rfl,by rw [List.length_reverse,hv]⟩,n,#[],?_⟩
   rw [Sort.grow_empty,List.append_nil];exact hw
theorem pL{ad:Option Addr}{c:Nat}(zs:List Int)(hz:zs.length≤1000000):Con Tryz.prog 347 [.slice ad zs.length c] [Sh (.slice ad zs.length c) (.sl (cL encI zs))] [] fun r ps' hp'=>ps'=[]∧hp'=[aO r 3 1 (cL encI zs)] :=
 (wu ⟨ad,c,zs⟩ hz).post fun _ _ _ ⟨h1,_,_,h2,h3⟩=>⟨h1,by rw [h2];exact h3⟩
end Go.Proofs.YtfkcmbonmpcbfaaGreat

namespace Go.Proofs.YtfkcmbonmpcbfaaGreat
open Go.RowKit Go.Lp Go.Sy
open Go.Proofs.Tryz
attribute [local irreducible] aL aB awp aC fwp Quiet
set_option maxHeartbeats 1000000 in
theorem uH(N:Nat)(hN:N≤1000000)(l:Sl dI)(hl:l.l.length≤100000000)(hr:∀ a∈l.l,0≤a.from_∧a.from_<N) :
   Con Tryz.prog 339 [.int .i64 N,l.val] [ShF dI.row l] [] fun r ps hp=>ps=[]∧hp=[kb r 26 3 encI (fh N l.l)]:=by
 refine EN2 Tryz.func339 rfl (aSR (aA rfl (aNn (aSR (aM rfl (LT rfl (ig (m:=N) (zs:=[.slice none 0 0]) el381 (by kernel_rfl) rfl (by decide) (ed rfl (rfl)) (ed rfl (rfl)) (by omega) rfl (fun v1_1=>(aHN ?_)))))))))
 refine aA rfl (aNs (ah (n0 (α:=Int) (E:=3) (enc:=encI) 0 N rfl (bY (.of (aI 0 rfl)) (fun hlen=>(aa (aM rfl (aU rfl (aZ Tryz.underlying354 rfl) (aM rfl (aNn (aq (aQ [5,11,12,13] [0] [0] (fun (k:Nat) s=>k≤l.l.length∧∃ vo,s=⟨[(5,true,vo),(11,true,l.val),(12,true,.int .i64 l.l.length),(13,true,.int .i64 k)],[ShF dI.row l],[kb vo 26 3 encI (ee N (l.l.take k))]⟩) (fun k=>l.l.length-k) rfl (⟨0,Nat.zero_le _,_,rfl⟩) ?_))))))))))))
 rintro k s ⟨hk,vo,rfl⟩
 refine aSR (aU rfl (bu rfl rfl) (aNs ?_))
 refine ao _ rfl (fun h1 => ?_) (fun h1 => ?_)
 ·skip
  have hk':k<l.l.length:=by simpa using h1
  obtain ⟨a,ha⟩:∃ a,l.l[k]? = some a:=⟨l.l[k]'hk',by simp⟩
  have har:=hr a (List.mem_of_getElem? ha)
  refine ar (aj (ah (aq (aSR (UI Tryz.underlying354 tk356 0 rfl rfl rfl rfl rfl (aK ha) rfl rfl (fun ⟨b4_0,o4_0⟩=>(US 0 tk356 0 rfl rfl rfl rfl rfl (LT rfl (bk (zs:=[.int .i64 0,.int .i64 0]) (by kernel_rfl) rfl (fun b4_2=>(aHN ?_)))))))))))
  refine aD rfl (aF 1 tk356 rfl rfl rfl rfl (aHK ?_))
  refine aNn ?_
  have hkk:a.from_.toNat<(ee N (l.l.take k)).length:=by rw [dD];omega
  obtain ⟨xr,hxr⟩:∃ xr,(ee N (l.l.take k))[a.from_.toNat]? = some xr:=⟨(ee N (l.l.take k))[a.from_.toNat]'hkk,by simp⟩
  have hxl:xr.length≤100000000:=by have:=sd N _ (List.mem_of_getElem? hxr);rw [List.length_take] at this;omega
  refine jP 0 a.from_.toNat rfl hxr (fun vs v hvl hv => ?_)
  rw [dD] at hvl
  have hne:dB vs≠[]:=fun h0=>by
    have:=congrArg List.length h0
    simp [dB,hvl] at this;omega
  refine fG 0 rfl hne (fun B cp hvo => ?_)
  have hvr:(dB vs).length=N:=by simp [dB,hvl]
  rw [hvr] at hvo
  subst hvo
  have hrow:(dB vs)[a.from_.toNat]? = some [.v v]:=by simp [dB,hv]
  show awp _ _ _ _ ⟨_,_,[_,_,_,_]⟩
  refine DC [11,13] [13] [b4_2] 14 (CF 0 rfl rfl rfl (aS rfl) (CF 1 rfl rfl rfl (qFA (off:=0) rfl) ?_))
  refine mQ 2 1 rfl (by kernel_rfl) true rfl rfl (by simp) tk3 (fun _=>rfl) rfl rfl ?_
  refine CF 3 rfl rfl rfl (aS rfl) (CF 4 rfl rfl rfl (qFA (off:=0) rfl) ?_)
  refine mQ 5 1 rfl (by kernel_rfl) true rfl rfl (by simp) tk3 (fun _=>rfl) rfl rfl ?_
  refine CF 6 rfl rfl rfl (fR a.from_.toNat el381 rfl rfl (by omega) (by omega)) (CQ 7 rfl rfl rfl (bN (v:=.slice (some ⟨B,0,none⟩) N cp) (u:=v) 0 a.from_.toNat 0 tk26 rfl rfl hrow rfl rfl) (CF 8 rfl rfl rfl (qFA (off:=1) rfl) ?_))
  refine mQ 9 1 rfl (by kernel_rfl) true rfl rfl (by simp) tk3 (fun _=>rfl) rfl rfl ?_
  refine dt 10 [] (by kernel_rfl) (cm ?_ cU)
  refine dC 10 rfl rfl (Eff.x (id (WL (zs:=[.int .i64 0]) el26 rfl rfl rfl (.more rfl (.v rfl .nil) .nil) rfl rfl (fun v5_10=>(CST ?_)))))
  refine dt 11 [] (by kernel_rfl) (cm ?_ cU)
  refine dC 11 rfl rfl (Eff.framed (q:=false) [2,4] rfl rfl (ac7 1 rfl rfl acW) ?_)
  refine id (cj 0 el26 rfl rfl rfl rfl (cY 1 el26 rfl (by simp)) (by first | assumption | simp) (by simp [dF];omega) _ rfl (fun v5_11 c5_11 => ?_))
  refine xP (CST ?_)
  refine CF 12 rfl rfl rfl (fR a.from_.toNat el381 rfl rfl (by omega) (by omega)) ?_
  refine dt 13 [] (by kernel_rfl) (cm ?_ cU)
  refine dC 13 rfl rfl (Eff.wild (q:=false) (dO 0 a.from_.toNat 0 tk26 rfl rfl rfl hrow rfl (.v rfl .nil) rfl (by decide) (CST ?_)))
  refine fX (by kernel_rfl) (bp (aj ?_))
  refine rC (hp':=[aO (.slice (some ⟨B,0,none⟩) N cp) 26 1 (dB (vs.set a.from_.toNat (.slice v5_11 (xr.length+1) c5_11))),_,aO (.slice v5_11 (xr.length+1) c5_11) 3 1 (cL encI (xr++[a.to_])),fw ((inner 3 encI vs (ee N (l.l.take k))).set a.from_.toNat emp),_]) (by rw [lD,dF];simp [cL,l5];exact ⟨rfl,rfl⟩) ?_
  refine gQ 0 2 3 a.from_.toNat rfl rfl rfl rfl rfl rfl (by rw [hvl,dD]) hkk ?_
  show awp _ _ _ _ ⟨_,_,[_,_,_,_,_]⟩
  refine aa (aU rfl (aX rfl rfl (by omega)) (aM rfl (aNn ?_)))
  refine ⟨[5,11,12,13],[0],[0],rfl,?_⟩
  refine ⟨k+1,⟨by omega,.slice (some ⟨B,0,none⟩) N cp,?_⟩,by omega⟩
  rw [vr _ _ ha,show gn (ee N (l.l.take k)) a=(ee N (l.l.take k)).set a.from_.toNat (xr++[a.to_]) by unfold gn;rw [List.getD_eq_getElem?_getD,hxr];rfl]
  rfl
 ·skip
  have hkl:k=l.l.length:=by simp at h1;omega
  rw [hkl,List.take_length]
  refine aT (aW (aW (aY (aj (ah (ah (yG 0 rfl (fun ad cp hvo => ?_))))))))
  rw [dD] at hvo
  subst hvo
  refine aa (aM rfl (aU rfl (aZ Tryz.underlying381 rfl) (aM rfl (aNn (aq ?_)))))
  refine aQ [5,32,33] [] [0] (fun (j:Nat) s=>j≤N∧s=⟨[(5,true,.slice ad N cp),(32,true,.int .i64 N),(33,true,.int .i64 j)],[],[kb (.slice ad N cp) 26 3 encI (gJ (ee N l.l) j)]⟩) (fun j=>N-j) rfl (⟨0,Nat.zero_le _,by rw [show gJ (ee N l.l) 0=ee N l.l by simp [gJ]];rfl⟩) ?_
  rintro j s ⟨hj,rfl⟩
  refine aSR (aU rfl (bu rfl rfl) (aNs ?_))
  refine ao _ rfl (fun h2 => ?_) (fun h2 => ?_)
  ·skip
   have hj':j<N:=by simpa using h2
   have hjj:j<(ee N l.l).length:=by rw [dD];omega
   obtain ⟨xr,hxr⟩:∃ xr,(ee N l.l)[j]? = some xr:=⟨(ee N l.l)[j]'hjj,by simp⟩
   have hxl:xr.length≤100000000:=by have:=sd N _ (List.mem_of_getElem? hxr);omega
   refine ar (aj (ah (aq (aSR (aM rfl (aA rfl (aNs (jP 0 j rfl (xj hxr) (fun vs v hvl hv => ?_)))))))))
   rw [lX _ _ (by rw [dD];omega),dD] at hvl
   have hne:dB vs≠[]:=fun h0=>by
     have:=congrArg List.length h0
     simp [dB,hvl] at this;omega
   refine fG 0 rfl hne (fun B cp2 hvo => ?_)
   obtain ⟨rfl,rfl⟩:ad=some ⟨B,0,none⟩∧cp=cp2:=by simp at hvo;exact ⟨hvo.1,hvo.2.2⟩
   have hrow:(dB vs)[j]? = some [.v v]:=by simp [dB,hv]
   show awp _ _ _ _ ⟨_,_,[_,_,_]⟩
   refine aa (aM rfl (aM rfl (aU rfl (fR j el381 rfl rfl (by omega) (by omega)) (aU rfl (bN (v:=.slice (some ⟨B,0,none⟩) N cp) (u:=v) 0 j 0 tk26 rfl rfl hrow rfl rfl) (LF rfl (EC [] [1] rfl (ni _ (by omega)) ?_))))))
   rintro _ _ _ ⟨rfl,rfl⟩
   refine aST ?_
   refine aNn (aa (aM rfl (aM rfl (aM rfl (aM rfl (aU rfl (fR j el381 rfl rfl (by omega) (by omega)) (aU rfl (bN (v:=.slice (some ⟨B,0,none⟩) N cp) (u:=v) 0 j 0 tk26 rfl rfl hrow rfl rfl) (LF rfl (EC [] [1] rfl (mo _) ?_)))))))))
   rintro r11 _ _ ⟨rfl,ad2,c2,rfl,rfl⟩
   refine aST ?_
   refine aU rfl (fR j el381 rfl rfl (by omega) (by omega)) (LF rfl (dO 0 j 0 tk26 rfl rfl rfl hrow rfl (.v rfl .nil) rfl (by decide) (bj (bp (aj ?_)))))
   refine rC (hp':=[aO (.slice (some ⟨B,0,none⟩) N cp) 26 1 (dB (vs.set j (.slice ad2 (Lib.compact (fP xr)).length c2))),aO (.slice ad2 (Lib.compact (fP xr)).length c2) 3 1 (cL encI (dK xr)),fw ((inner 3 encI vs (gJ (ee N l.l) j)).set j emp)]) (by rw [lD];simp [l5];rfl) ?_
   refine gQ 0 1 2 j rfl rfl rfl rfl rfl rfl (by rw [hvl,lX _ _ (by rw [dD];omega),dD]) (by rw [lX _ _ (by rw [dD];omega)];exact hjj) ?_
   show awp _ _ _ _ ⟨_,_,[_,_,_]⟩
   refine aa (aU rfl (aX rfl rfl (by omega)) (aM rfl (aNn ?_)))
   refine ⟨[5,32,33],[],[0],rfl,?_⟩
   refine ⟨j+1,⟨by omega,?_⟩,by omega⟩
   rw [← vt hxr];rfl
  ·skip
   have hjl:j=N:=by simp at h2;omega
   subst hjl
   have e:gJ (ee j l.l) j=fh j l.l:=by have:=dD j l.l;unfold gJ fh;rw [List.take_of_length_le (by omega),List.drop_of_length_le (by omega),List.append_nil]
   rw [e]
   refine aT (aW (aW (aY (aj (aSR (aM rfl (aA rfl (aNn (ax (FZ1 [0] Tryz.results339 rfl ?_))))))))))
   exact ⟨rfl,rfl⟩
theorem aee(N:Nat)(hN:N≤1000000)(w:World):Calls Tryz.prog 210 #[.int .u64 (IntKind.u64.wrap 1),.int .u64 (IntKind.u64.wrap (N:Int))] w fun e w'=>e=.returned (.tuple #[.int .u64 0,.int .u64 N])∧Go.Sy.Below w.heap.size w w':=by
 have h:=Any.bits_Mul Tryz.lays212 1 N (by omega) (by omega) w
 have e1:IntKind.u64.wrap 1=1:=by decide
 have e2:IntKind.u64.wrap (N:Int)=N:=by rw [IntKind.wrap_u64];omega
 rw [e1,e2]
 refine h.mono fun e w' ⟨h1,h2⟩=>⟨?_,by rw [h2];exact Go.Sy.Below.refl _ _⟩
 rw [h1]
 have e3:1*N / 18446744073709551616=0:=by omega
 have e4:1*N % 18446744073709551616=N:=by omega
 rw [e3,e4];rfl
theorem uP{ad:Option Addr}{c:Nat}(v:Int):Con Tryz.prog 346 [.slice ad 1 c,.int .i64 ((0:Nat):Int)] [Sh (.slice ad 1 c) (.sl (cL encI [v]))] [] fun r ps hp=>ps=[]∧hp=[aO r 3 1 (cL encI [])]:=by
 refine EN2 Tryz.func346 rfl (aSR (aA rfl (aNs (aSR (aM rfl (aU rfl (bu rfl rfl) (aNn ?_)))))))
 refine ao _ rfl (fun h1 => ?_) (fun h1 => ?_)
 ·skip
  exact absurd h1 (by simp)
 ·skip
  refine ar (aj (aSR (aM rfl (aU rfl (aZ Tryz.underlying26 rfl) (aU rfl (dm (by kernel_rfl) Tryz.underlying305 rfl) (aM rfl (aU rfl (dm (by kernel_rfl) Tryz.underlying305 rfl) (aU rfl (QC rfl (fun w S fp hst=>aee 0 (by omega) w)) ?_))))))))
  refine aM rfl (aU rfl (ck rfl rfl) (aU rfl (ck rfl rfl) (aA rfl (aA rfl (aNs (aSR (aM rfl (aU rfl (eA rfl rfl) (aM rfl (aG rfl rfl (fun hc=>aS rfl) (aG rfl rfl (fun hc=>eA (ae rfl hc) rfl) (aU rfl (eu rfl rfl (fun h=>gf rfl h)) (aNn ?_)))))))))))))
  refine ao _ rfl (fun h2 => ?_) (fun h2 => ?_)
  ·skip
   exact absurd h2 (by decide)
  ·skip
   refine ar (aj (aSR (aM rfl (aU rfl (dm (by kernel_rfl) Tryz.underlying3 rfl) (LT rfl (ig (m:=0) (zs:=[.int .i64 0]) el26 (by kernel_rfl) rfl (by decide) (ed rfl (rfl)) (ed rfl (rfl)) (by omega) rfl (fun v6_2=>(aHN ?_))))))))
   refine aA rfl (aNn (aSR (aM rfl (aM rfl (aU rfl (yf el26 rfl rfl) (aA rfl (aNs (aq (aQ [7,8] [] [0] (fun (k:Nat) s=>s=⟨[(7,true,.slice v6_2 0 0),(8,true,.int .i64 0)],[],[aO (.slice v6_2 0 0) 3 1 (cL encI [])]⟩) (fun k=>k) rfl (⟨0,rfl⟩) ?_)))))))))
   rintro k s rfl
   refine ah (aSR (aM rfl (aM rfl (aU rfl (gL 0 Tryz.underlying26 rfl rfl) (aU rfl (bu rfl rfl) (aNn ?_))))))
   refine ao _ rfl (fun h3 => ?_) (fun h3 => ?_)
   ·skip
    exact absurd h3 (by decide)
   ·skip
    refine aT (aW (aW (aY (aj (aSR (aM rfl (aA rfl (aNn (ax (FZ1 [0] Tryz.results346 rfl ?_))))))))))
    exact ⟨rfl,rfl⟩
theorem uQ{ad:Option Addr}{c:Nat}(v:Int)(N:Nat)(hN:N≤1000000)(h0:0<N):Con Tryz.prog 346 [.slice ad 1 c,.int .i64 N] [Sh (.slice ad 1 c) (.sl (cL encI [v]))] [] fun r ps hp=>ps=[]∧hp=[aO r 3 1 (cL encI (List.replicate N v))]:=by
 refine EN2 Tryz.func346 rfl (aSR (aA rfl (aNs (aSR (aM rfl (aU rfl (bu rfl rfl) (aNn ?_)))))))
 refine ao _ rfl (fun h1 => ?_) (fun h1 => ?_)
 ·skip
  exact absurd h1 (by simp)
 ·skip
  refine ar (aj (aSR (aM rfl (aU rfl (aZ Tryz.underlying26 rfl) (aU rfl (dm (by kernel_rfl) Tryz.underlying305 rfl) (aM rfl (aU rfl (dm (by kernel_rfl) Tryz.underlying305 rfl) (aU rfl (QC rfl (fun w S fp hst=>aee N hN w)) ?_))))))))
  refine aM rfl (aU rfl (ck rfl rfl) (aU rfl (ck rfl rfl) (aA rfl (aA rfl (aNs (aSR (aM rfl (aU rfl (eA rfl rfl) (aM rfl (aG rfl rfl (fun hc=>aS rfl) (aG rfl rfl (fun hc=>eA (ae rfl hc) rfl) (aU rfl (eu rfl rfl (fun h=>gf rfl h)) (aNn ?_)))))))))))))
  refine ao _ rfl (fun h2 => ?_) (fun h2 => ?_)
  ·skip
   exact absurd h2 (by simp;omega)
  ·skip
   refine ar (aj (ah ?_))
   have hw:=wrapN N hN
   refine aa (aM rfl (aU rfl (dm (by kernel_rfl) Tryz.underlying3 rfl) (LT rfl (ig (m:=N) (zs:=[.int .i64 0]) el26 (by kernel_rfl) rfl (by decide) (ed rfl (hw)) (ed rfl (hw)) (by omega) rfl (fun v6_2=>(aHN ?_))))))
   refine aA rfl (aNs ?_)
   refine rC (hp':=[aO (.slice v6_2 N N) 3 1 (cL encI (List.replicate N 0))]) (by simp [cL]) ?_
   refine fG 0 rfl (by simp [cL];omega) (fun B cp hvo => ?_)
   obtain ⟨rfl,rfl⟩:v6_2=some ⟨B,0,none⟩∧N=cp:=by simp at hvo;exact ⟨hvo.1,hvo.2.2⟩
   refine aa (aM rfl (aM rfl ?_))
   refine LF rfl (acs (zs:=List.replicate N 0) (xs:=[v]) 0 el26 (fun _=>rfl) rfl rfl rfl rfl (by simp) (aI 0 rfl) (by simp) (by simp;omega) (by simp;omega) (part N 1 v) (by simp [part]) rfl ?_)
   refine aA rfl (aNs (aq (aQ [7,8] [] [0] (fun (k:Nat) s=>(1≤k∧k≤N)∧s=⟨[(7,true,.slice (some ⟨B,0,none⟩) N N),(8,true,.int .i64 k)],[],[aO (.slice (some ⟨B,0,none⟩) N N) 3 1 (cL encI (part N k v))]⟩) (fun k=>N-k) rfl (⟨1,⟨by omega,by omega⟩,rfl⟩) ?_)))
   rintro k s ⟨⟨hk1,hk2⟩,rfl⟩
   refine ah (aSR (aM rfl (aM rfl (aU rfl (aZ Tryz.underlying26 rfl) (aU rfl (bu rfl rfl) (aNn ?_))))))
   refine ao _ rfl (fun h3 => ?_) (fun h3 => ?_)
   ·skip
    have hkN:k<N:=by simp at h3;omega
    obtain ⟨j,hj⟩:∃ j,j=min k (N-k):=⟨_,rfl⟩
    refine ar (aj (aq (DR [7] 10 (yC 0 rfl (by kernel_rfl) true rfl rfl (fun _=>aS rfl) (VM 1 rfl rfl (VM 2 rfl rfl (bV 3 rfl rfl (nw k (N-k) k el26 rfl rfl rfl hkN (Nat.le_refl _) rfl (by omega)) (VM 4 rfl rfl (VM 5 rfl rfl (bV 6 rfl rfl (iH k el26 rfl rfl rfl (by omega) (Nat.le_refl _)) ?_))))))))))
    refine VE 7 rfl rfl (acr (zs:=part N k v) 0 el26 (fun _=>rfl) rfl rfl rfl rfl (vq v hk2) j hj (by rw [vq v hk2];omega) (part N (k+j) v) (zU v (by omega) (by omega)) ?_)
    refine bST rfl ?_
    refine bV 8 rfl rfl (aX rfl rfl (by omega)) (bV 9 rfl rfl (bE rfl) (BN (bp (aj ?_))))
    refine ⟨[7,8],[],[0],rfl,?_⟩
    refine ⟨k+j,⟨⟨by omega,by omega⟩,?_⟩,by omega⟩
    rw [Int.natCast_add];rfl
   ·skip
    have hkN:k=N:=by simp at h3;omega
    subst hkN
    rw [show part k k v=List.replicate k v by simp [part]]
    refine aT (aW (aW (aY (aj (aSR (aM rfl (aA rfl (aNn (ax (FZ1 [0] Tryz.results346 rfl ?_))))))))))
    exact ⟨rfl,rfl⟩
end Go.Proofs.YtfkcmbonmpcbfaaGreat

namespace Go.Proofs.YtfkcmbonmpcbfaaGreat
open Go.RowKit Go.Lp Go.Sy Go.Lv
open Go.Proofs.Tryz
attribute [local irreducible] aL aB awp aC fwp Quiet
theorem wK{ad:Option Addr}{c:Nat}(v:Int)(N:Nat)(hN:N≤1000000):Con Tryz.prog 346 [.slice ad 1 c,.int .i64 N] [Sh (.slice ad 1 c) (.sl (cL encI [v]))] [] fun r ps hp=>ps=[]∧hp=[aO r 3 1 (cL encI (List.replicate N v))]:=by
 cases N with
 | zero=>exact uP v
 | succ N=>exact uQ v (N+1) hN (Nat.succ_pos _)
set_option maxHeartbeats 4000000 in
theorem wL(N:Nat)(hN:N≤1000000)(l:Sl dI)(hl:l.l.length≤100000000)(hr:∀ a∈l.l,kf N a)(rs:Sl Int)(hrs:rs.l.length≤1000000) :
   Con Tryz.prog 305 [.int .i64 N,l.val,rs.val] [ShF dI.row l,ShF (fun z=>[.v (encI z)]) rs] [] fun r ps hp=>ps=[]∧hp=[aO r 3 1 (cL encI (lz N (fh N l.l) (dK rs.l)))]:=by
 have hro:=vk hr
 have hrl:=vS rs.l
 obtain ⟨M,hM⟩:∃ M,M=(dK rs.l).length+N:=⟨_,rfl⟩
 have hB:=kP N (dK rs.l)
 rw [← hM] at hB
 refine EN3 Tryz.func305 rfl (aSR (aA rfl (aNn (aSR (LT rfl (WL (zs:=[.int .i64 0]) el26 rfl rfl rfl (.more rfl (.v rfl .nil) .nil) rfl rfl (fun v1_0=>(aHN ?_))))))))
 refine aM rfl (LF rfl (EC [] [0] rfl (Con.ofOwn (wK (-1) N hN)) ?_))
 rintro vb _ _ ⟨rfl,rfl⟩
 refine aST ?_
 refine aA rfl (aNs (rD 0 rfl (fun ab cb hvb => ?_)))
 rw [dF,List.length_replicate] at hvb
 subst hvb
 refine aa (aM rfl (LT rfl (EC [0] [] rfl (pL rs.l hrs) ?_)))
 rintro vc _ _ ⟨rfl,rfl⟩
 refine aST ?_
 refine aA rfl (aNn (aSR (aM rfl (LF rfl (EC [] [1] rfl (ni rs.l (by omega)) ?_)))))
 rintro _ _ _ ⟨rfl,rfl⟩
 refine aST ?_
 refine aNs (cW 3 1 ?_)
 show awp _ _ _ _ ⟨_,_,[_,_,_]⟩
 refine aa (aA rfl (aNs (aSR (aM rfl (LF rfl (EC [] [1] rfl (mo _) ?_))))))
 rintro _ _ _ ⟨rfl,au,cu,rfl,rfl⟩
 refine aST ?_
 refine aU rfl (aZ Tryz.underlying26 rfl) (aM rfl (aNn (aq (aQ [0,1,7,9,24,25,26] [1] [0,1,2] (fun (p:Nat × Value) s=>p.1≤(dK rs.l).length∧s=⟨[(0,true,.int .i64 N),(1,true,l.val),(7,true,.slice ab N cb),(9,true,p.2),(24,true,.slice au (dK rs.l).length cu),(25,true,.int .i64 (dK rs.l).length),(26,true,.int .i64 p.1)],[ShF dI.row l],[aO (.slice ab N cb) 3 1 (cL encI (dQ N ((dK rs.l).take p.1)).1),aO (.slice au (dK rs.l).length cu) 3 1 (cL encI (dK rs.l)),aO p.2 3 1 (cL encI (dQ N ((dK rs.l).take p.1)).2)]⟩) (fun p=>(dK rs.l).length-p.1) rfl (⟨(0,.slice none 0 0),Nat.zero_le _,rfl⟩) ?_))))
 rintro ⟨k,vw⟩ s ⟨hk,rfl⟩
 dsimp only at hk
 refine aSR (aU rfl (bu rfl rfl) (aNs ?_))
 refine ao _ rfl (fun h1 => ?_) (fun h1 => ?_)
 ·skip
  have hk':k<(dK rs.l).length:=by simp at h1;omega
  obtain ⟨v,hv⟩:∃ v,(dK rs.l)[k]? = some v:=⟨_,List.getElem?_eq_getElem hk'⟩
  have hst:=ub N _ hv
  refine ar (aj (ah (aq (ah (fG 1 rfl (mw (by omega)) (fun Bu cpu hvu => ?_))))))
  obtain ⟨rfl,rfl⟩:au=some ⟨Bu,0,none⟩∧cu=cpu:=by simp at hvu;exact ⟨hvu.1,hvu.2.2⟩
  refine aa (aU rfl (fR k el26 rfl rfl rfl hk') (aU rfl (bN (v:=.slice (some ⟨Bu,0,none⟩) (dK rs.l).length cu) (u:=encI v) 1 k 0 tk3 rfl rfl (jE hv) rfl rfl) (aA rfl (aNn (aSR (aM rfl (aU rfl (fi rfl rfl) (aM rfl (aG rfl rfl (fun hc=>aS rfl) (aG rfl rfl (fun hc=>aS rfl) (aG rfl rfl (fun hc=>bu (ae rfl hc) (ae rfl hc)) (aU rfl (bo rfl rfl (fun h=>gt rfl h)) (aNn ?_)))))))))))))
  refine ao _ rfl (fun h2 => ?_) (fun h2 => ?_)
  ·skip
   have hvn:0≤v∧v<N:=by simpa using h2
   refine ah ?_
   have hbl:=(jR N ((dK rs.l).take k)).1
   refine fG 0 rfl (mw (by rw [hbl];omega)) (fun B cp hvb => ?_)
   obtain ⟨rfl,rfl⟩:ab=some ⟨B,0,none⟩∧cb=cp:=by simp at hvb;exact ⟨hvb.1,hvb.2.2⟩
   obtain ⟨o,ho⟩:∃ o,(dQ N ((dK rs.l).take k)).1[v.toNat]? = some o:=⟨_,List.getElem?_eq_getElem (by rw [hbl];omega)⟩
   have hrow:=jE ho
   refine aa (aM rfl (aM rfl (aM rfl (aU rfl (fR v.toNat el26 rfl rfl (by omega) (by omega)) (LF rfl (dO 0 v.toNat 0 tk3 rfl rfl rfl hrow rfl (.v rfl .nil) rfl (by decide) (aNn (aa (aM rfl (aM rfl (LT rfl (WL (zs:=[.int .i64 0]) el26 rfl rfl rfl (.more rfl (.v rfl .nil) .nil) rfl rfl (fun v10_2=>(aHN ?_))))))))))))))
   refine aD rfl (cj 2 el26 rfl rfl rfl rfl (cY 3 el26 rfl (by simp)) (by first | assumption | simp) (by have:=(jR N ((dK rs.l).take k)).2;rw [List.length_take] at this;simp [dF];omega) _ rfl (fun v10_3 c10_3 => ?_))
   refine aHK ?_
   refine aA rfl (bj (bp (aj (aa (aU rfl (aX rfl rfl (by omega)) (aM rfl (aNn ?_)))))))
   refine ⟨[0,1,7,9,24,25,26],[0],[0,1,2],rfl,?_⟩
   refine ⟨(k+1,.slice v10_3 ((cL encI (dQ N ((dK rs.l).take k)).2).length+1) c10_3),⟨by omega,?_⟩,by omega⟩
   dsimp only
   rw [hst]
   unfold ey
   rw [if_pos hvn,uZ,la]
   rfl
  ·skip
   have hvn:¬ (0≤v∧v<N):=by simpa using h2
   refine ar (bp (aj (aa (aU rfl (aX rfl rfl (by omega)) (aM rfl (aNn ?_))))))
   refine ⟨[0,1,7,9,24,25,26],[0],[0,1,2],rfl,?_⟩
   refine ⟨(k+1,vw),⟨by omega,?_⟩,by omega⟩
   dsimp only
   rw [hst]
   unfold ey
   rw [if_neg hvn]
   rfl
 ·skip
  have hkl:k=(dK rs.l).length:=by simp at h1;omega
  subst hkl
  rw [List.take_length]
  refine aT (aW (aW (aY (aj (aSR (aM rfl (aM rfl (LT rfl (EC [0] [] rfl (uH N hN l hl (fun a ha=>(hr a ha).1)) ?_)))))))))
  rintro vn _ _ ⟨rfl,rfl⟩
  refine aST ?_
  refine aA rfl (aNs (ah (iL 3 rfl (fun so hso hsl => ?_))))
  subst hso
  refine aa (aA rfl (aNn (aq (aQ [7,9,12,13] [2,1] [0,2] (fun (p:Nat × Value) s=>p.1≤(bfs (fh N l.l) (dQ N (dK rs.l)) p.1).2.length∧s=⟨[(7,true,.slice ab N cb),(9,true,p.2),(12,true,so.val),(13,true,.int .i64 p.1)],[bz (ShF fun z=>[.v (encI z)]) so.l,ShF (fun t:Sl Int=>[.v t.val]) so],[aO (.slice ab N cb) 3 1 (cL encI (bfs (fh N l.l) (dQ N (dK rs.l)) p.1).1),aO p.2 3 1 (cL encI (bfs (fh N l.l) (dQ N (dK rs.l)) p.1).2)]⟩) (fun p=>M-p.1) rfl (⟨(0,vw),Nat.zero_le _,rfl⟩) ?_))))
  rintro ⟨k,vw2⟩ s ⟨hk,rfl⟩
  dsimp only at hk
  have hBk:=o8 hro hB k
  have hkM:=hBk.le
  refine ah (ah ?_)
  obtain ⟨sk,hsk⟩:∃ sk,bfs (fh N l.l) (dQ N (dK rs.l)) k=sk:=⟨_,rfl⟩
  rw [hsk] at hk hBk hkM ⊢
  refine rD 1 rfl (fun aw cw hvw => ?_)
  rw [dF] at hvw
  subst hvw
  refine aa (aM rfl (aM rfl (aU rfl (aZ Tryz.underlying26 rfl) (aU rfl (bu rfl rfl) (aNn ?_)))))
  refine ao _ rfl (fun h3 => ?_) (fun h3 => ?_)
  ·skip
   have hk':k<sk.2.length:=by simp at h3;omega
   obtain ⟨u,hu⟩:∃ u,sk.2[k]? = some u:=⟨_,List.getElem?_eq_getElem hk'⟩
   have hun:=hBk.mem u (List.mem_of_getElem? hu)
   have hsol:so.l.length=N:=by rw [← List.length_map (f:=Sl.l),hsl];unfold fh;rw [List.length_map,dD]
   refine ar (aj (ah (aq (ah (fG 1 rfl (mw (by omega)) (fun Bw cpw hvw => ?_))))))
   obtain ⟨rfl,rfl⟩:aw=some ⟨Bw,0,none⟩∧cw=cpw:=by simp at hvw;exact ⟨hvw.1,hvw.2.2⟩
   refine aa (aM rfl (aM rfl (aM rfl (aU rfl (fR k el26 rfl rfl rfl hk') (aU rfl (bN (v:=.slice (some ⟨Bw,0,none⟩) sk.2.length cw) (u:=encI u) 1 k 0 tk3 rfl rfl (jE hu) rfl rfl) (iJ true rfl rfl (fun _=>bI Tryz.underlying381 tk26 rfl ((.of (aI 1 rfl))) rfl (fF (i:=u) (by omega) (by omega)) (by omega) rfl) (fun h=>absurd h (by decide)) (fun ⟨b16_5,o16_5⟩=>(US 0 tk26 0 rfl rfl rfl rfl rfl (aU rfl (aZ Tryz.underlying26 rfl) (aM rfl (aNn (aq ?_))))))))))))
   obtain ⟨row,hrow⟩:∃ row,elt so.l u=row:=⟨_,rfl⟩
   have hrm:row∈so.l:=by rw [← hrow];exact List.mem_of_getElem? (ku (by omega) hun.1)
   have hrl:row.l=elt (fh N l.l) u:=by rw [← hrow,← hsl];unfold elt;rw [List.getD_eq_getElem?_getD,List.getD_eq_getElem?_getD,List.getElem?_map];cases so.l[u.toNat]? <;> rfl
   have hrb:∀ x∈row.l,0≤x∧x<N:=by rw [hrl];exact hro u
   rw [hrow]
   refine bY (Ent.allm (f:=ShF fun z:Int=>[.v (encI z)]) (.of (aI 1 rfl)) hrm) (fun hrlen=>(aQ [7,9,12,13,61,62,63] [1,0] [0,1] (fun (q:Nat × Value) s=>q.1≤row.l.length∧s=⟨[(7,true,.slice ab N cb),(9,true,q.2),(12,true,so.val),(13,true,.int .i64 k),(61,true,row.val),(62,true,.int .i64 row.l.length),(63,true,.int .i64 q.1)],[bz (ShF fun z=>[.v (encI z)]) so.l,ShF (fun t:Sl Int=>[.v t.val]) so],[aO (.slice ab N cb) 3 1 (cL encI ((row.l.take q.1).foldl (visit u) sk).1),aO q.2 3 1 (cL encI ((row.l.take q.1).foldl (visit u) sk).2)]⟩) (fun q=>row.l.length-q.1) rfl (⟨(0,.slice (some ⟨Bw,0,none⟩) sk.2.length cw),Nat.zero_le _,rfl⟩) ?_))
   rintro ⟨j,vw3⟩ s ⟨hj,rfl⟩
   dsimp only at hj
   have hBj:=nT hun.1 (row.l.take j) sk hBk (fun x hx=>hrb x (List.mem_of_mem_take hx))
   have huj:=tu (j8 (u:=u) (row.l.take j) sk) hu
   refine aSR (aU rfl (bu rfl rfl) (aNs ?_))
   refine ao _ rfl (fun h4 => ?_) (fun h4 => ?_)
   ·skip
    have hj':j<row.l.length:=by simp at h4;omega
    obtain ⟨x,hx⟩:∃ x,row.l[j]? = some x:=⟨_,List.getElem?_eq_getElem hj'⟩
    have hxn:=hrb x (List.mem_of_getElem? hx)
    have hvs:=vV (u:=u) row.l sk hx
    obtain ⟨sj,hsj⟩:∃ sj,(row.l.take j).foldl (visit u) sk=sj:=⟨_,rfl⟩
    rw [hsj] at hBj huj hvs ⊢
    refine ar (aj (ah (aq (aSR (iJ true rfl rfl (fun _=>bI Tryz.underlying26 tk3 rfl ((Ent.allm (f:=ShF fun z:Int=>[.v (encI z)]) (.of (aI 0 rfl)) hrm)) rfl (aK hx) rfl rfl) (fun h=>absurd h (by decide)) (fun ⟨b18_0,o18_0⟩=>(US 0 tk3 0 rfl rfl rfl rfl rfl (aA rfl (aNs ?_)))))))))
    refine fG 0 rfl (mw (by rw [hBj.len];omega)) (fun B cp hvb => ?_)
    obtain ⟨rfl,rfl⟩:ab=some ⟨B,0,none⟩∧cb=cp:=by simp at hvb;exact ⟨hvb.1,hvb.2.2⟩
    have hbx:sj.1[x.toNat]? = some (elt sj.1 x):=ku (by rw [hBj.len];exact hxn.2) hxn.1
    refine aa (aM rfl (aM rfl (aU rfl (fR x.toNat el26 rfl rfl (by omega) (by omega)) (aU rfl (bN (v:=.slice (some ⟨B,0,none⟩) N cb) (u:=encI (elt sj.1 x)) 0 x.toNat 0 tk3 rfl rfl (jE hbx) rfl rfl) (aU rfl (bu rfl rfl) (aNn ?_))))))
    refine ao _ rfl (fun h5 => ?_) (fun h5 => ?_)
    ·skip
     have hneg:elt sj.1 x<0:=by simpa using h5
     refine ah ?_
     have hklt:k<sj.2.length:=(List.getElem?_eq_some_iff.1 huj).1
     refine fG 1 rfl (mw (by omega)) (fun Bw2 cpw2 hvw => ?_)
     rw [dF] at hvw
     subst hvw
     refine aa (aM rfl (aM rfl (aM rfl (aM rfl (aU rfl (fR k el26 rfl rfl rfl hklt) (aU rfl (bN (v:=.slice (some ⟨Bw2,0,none⟩) sj.2.length cpw2) (u:=encI u) 1 k 0 tk3 rfl rfl (jE huj) rfl rfl) (aU rfl (fR x.toNat el26 rfl rfl (by omega) (by omega)) (LF rfl (dO 0 x.toNat 0 tk3 rfl rfl rfl (jE hbx) rfl (.v rfl .nil) rfl (by decide) (aNn (aa (aM rfl (aM rfl ?_)))))))))))))
     refine LT rfl (WL (zs:=[.int .i64 0]) el26 rfl rfl rfl (.more rfl (.v rfl .nil) .nil) rfl rfl (fun v21_2=>(aHN ?_)))
     refine aD rfl (cj 1 el26 rfl rfl rfl rfl (cY 2 el26 rfl (by simp)) (by first | assumption | simp) (by have:=hBj.le;simp [dF];omega) _ rfl (fun v21_3 c21_3 => ?_))
     refine aHK ?_
     refine aA rfl (bj (bp (aj (aa (aU rfl (aX rfl rfl (by omega)) (aM rfl (aNn ?_)))))))
     refine ⟨[7,9,12,13,61,62,63],[1,0],[0,1],rfl,?_⟩
     refine ⟨(j+1,.slice v21_3 ((cL encI sj.2).length+1) c21_3),⟨by omega,?_⟩,by omega⟩
     dsimp only
     rw [hvs]
     unfold visit
     rw [if_pos hneg,uZ,la]
     rfl
    ·skip
     have hneg:¬ elt sj.1 x<0:=by simpa using h5
     refine ar (bp (aj (aa (aU rfl (aX rfl rfl (by omega)) (aM rfl (aNn ?_))))))
     refine ⟨[7,9,12,13,61,62,63],[1,0],[0,1],rfl,?_⟩
     refine ⟨(j+1,vw3),⟨by omega,?_⟩,by omega⟩
     dsimp only
     rw [hvs]
     unfold visit
     rw [if_neg hneg]
     rfl
   ·skip
    have hjl:j=row.l.length:=by simp at h4;omega
    subst hjl
    have hk1:bfs (fh N l.l) (dQ N (dK rs.l)) (k+1)=row.l.foldl (visit u) sk:=by show pa _ (bfs (fh N l.l) (dQ N (dK rs.l)) k) k=_;rw [hsk];unfold pa;rw [hu,hrl]
    refine aT (aW (aW (aY (bp (aj (aa (aM rfl (aU rfl (aX rfl rfl (by omega)) (aA rfl (aNn ?_))))))))))
    refine ⟨[7,9,12,13],[1,0],[0,1],rfl,?_⟩
    refine ⟨(k+1,vw3),⟨?_,?_⟩,?_⟩
    · dsimp only;rw [hk1,← List.take_length (l:=row.l)];exact (List.getElem?_eq_some_iff.1 huj).1
    · dsimp only;rw [hk1,List.take_length];rfl
    · dsimp only;omega
  ·skip
   have hkl:k=sk.2.length:=by simp at h3;omega
   refine aT (aW (aW (aY (aj (aSR (aM rfl (aA rfl (aNn (ax (FZ1 [0] Tryz.results305 rfl ?_))))))))))
   refine ⟨rfl,?_⟩
   rw [← xq hro (k:=k) (by rw [hsk];exact hkl),hsk];rfl
end Go.Proofs.YtfkcmbonmpcbfaaGreat

namespace Go.Proofs.YtfkcmbonmpcbfaaGreat
open Go.RowKit Go.Lp Go.Sy
def zy(l:List Int)(v:Int):Prop:=0≤v∧v<l.length∧0≤elt l v
def chain(l:List Int):Nat→Int→List Int
 | 0,v=>[v]
 | f+1,v=>if elt l v=v then [v] else v::chain l f (elt l v)
structure Tree (l:List Int) (ρ:Int→Nat):Prop where
 step:∀ v,zy l v→elt l v≠v→zy l (elt l v)∧ρ (elt l v)<ρ v
theorem ud{l:List Int}{ρ:Int→Nat}(hT:Tree l ρ):∀ (f g:Nat) (v:Int),zy l v→ρ v≤f→ρ v≤g→chain l f v=chain l g v
 | 0,0,v,_,_,_=>rfl
 | 0,g+1,v,h,hf,_=>by
   unfold chain
   split
   · rfl
   · rename_i hne;have:=(hT.step v h hne).2;omega
 | f+1,0,v,h,_,hg=>by
   unfold chain
   split
   · rfl
   · rename_i hne;have:=(hT.step v h hne).2;omega
 | f + 1,g+1,v,h,hf,hg=>by
   unfold chain
   split
   · rfl
   · rename_i hne
     obtain ⟨h1,h2⟩:=hT.step v h hne
     rw [ud hT f g _ h1 (by omega) (by omega)]
theorem pc(l:List Int)(f:Nat)(v:Int):chain l f v=v::(chain l f v).tail:=by
 cases f with
 | zero=>rfl
 | succ f=>unfold chain;split<;>rfl
theorem we{l:List Int}{ρ:Int→Nat}(hT:Tree l ρ){v:Int}(h:zy l v)(hne:elt l v≠v):(chain l (ρ v) v).tail=chain l (ρ (elt l v)) (elt l v):=by
 obtain ⟨h1,h2⟩:=hT.step v h hne
 obtain ⟨f,hf⟩:∃ f,ρ v=f+1:=⟨ρ v-1,by omega⟩
 rw [hf]
 show (if elt l v=v then [v] else v::chain l f (elt l v)).tail=_
 rw [if_neg hne,List.tail_cons]
 exact ud hT _ _ _ h1 (by omega) (Nat.le_refl _)
theorem yK{l:List Int}(f:Nat){v:Int}(h:elt l v=v):chain l f v=[v]:=by
 cases f with
 | zero=>rfl
 | succ f=>unfold chain;rw [if_pos h]
def kI(l:List Int)(ρ:Int→Nat)(to_:Int):List Int:=if elt l to_<0 then [] else (chain l (ρ to_) to_).reverse
open Go.Proofs.Tryz
attribute [local irreducible] aL aB awp aC fwp Quiet
theorem zn(l:Sl Int)(ρ:Int→Nat)(hT:Tree l.l ρ)(to_:Int)(ht:0≤to_∧to_<l.l.length)(hb:ρ to_≤100000) :
   Con Tryz.prog 306 [l.val,.int .i64 to_] [ShF (fun z=>[.v (encI z)]) l] [] fun r ps hp=>hp=[]∧∃ ad c,r=.slice ad (kI l.l ρ to_).length c∧ps=[Sh (.slice ad (kI l.l ρ to_).length c) (.sl (cL encI (kI l.l ρ to_)))]:=by
 refine EN2 Tryz.func306 rfl (aSR (aA rfl (aNs (aSR (aM rfl (aM rfl (iJ true rfl rfl (fun _=>bI Tryz.underlying26 tk3 rfl ((.of (aI 0 rfl))) rfl (fF (i:=to_) (by omega) (by omega)) (by omega) rfl) (fun h=>absurd h (by decide)) (fun ⟨b1_2,o1_2⟩=>(US 0 tk3 0 rfl rfl rfl rfl rfl (aU rfl (bu rfl rfl) (aNn ?_)))))))))))
 refine ao _ rfl (fun h1 => ?_) (fun h1 => ?_)
 ·skip
  refine aSR (aA rfl (aNn ?_))
  refine aau (Sh (.slice none 0 0) (.sl [])) (fun _ _ _=>gD.e _ _ (by unfold maxLen;omega)) ?_
  refine ax (bB ?_)
  refine iX [2] [] rfl Tryz.results306 rfl ?_ (.inr rfl)
  exact ⟨rfl,none,0,by rw [show kI l.l ρ to_=[] from if_pos (by simpa using h1)];rfl,by rw [show kI l.l ρ to_=[] from if_pos (by simpa using h1)];rfl⟩
 ·skip
  have hgo:zy l.l to_:=⟨ht.1,ht.2,by simpa using h1⟩
  refine ar (aj (aSR (aM rfl (LT rfl (WL (zs:=[.int .i64 0]) el26 rfl rfl rfl (.more rfl (.v rfl .nil) .nil) rfl rfl (fun v3_1=>(aHN ?_)))))))
  refine aA rfl (aNs (aq ?_))
  refine aQ [0,1,5] [0] [0] (fun (p:Int × List Int × Value) s=>(zy l.l p.1∧p.2.1++(chain l.l (ρ p.1) p.1).tail=chain l.l (ρ to_) to_∧p.2.1.length+ρ p.1≤ρ to_+1)∧s=⟨[(0,true,l.val),(1,true,.int .i64 p.1),(5,true,p.2.2)],[ShF (fun z=>[.v (encI z)]) l],[aO p.2.2 3 1 (cL encI p.2.1)]⟩) (fun p=>ρ p.1) rfl (⟨(to_,[to_],_),⟨hgo,(pc _ _ _).symm,by simp;omega⟩,rfl⟩) ?_
  rintro ⟨v,acc,out⟩ s ⟨⟨hv,hch,hlen⟩,rfl⟩
  dsimp only at hv hch hlen
  have hv1:=hv.1
  have hv2:=hv.2.1
  refine ah (aSR (aM rfl (aM rfl (iJ true rfl rfl (fun _=>bI Tryz.underlying26 tk3 rfl ((.of (aI 0 rfl))) rfl (fF (i:=v) (by omega) (by omega)) (by omega) rfl) (fun h=>absurd h (by decide)) (fun ⟨b4_2,o4_2⟩=>(US 0 tk3 0 rfl rfl rfl rfl rfl (aM rfl (aU rfl (ft rfl rfl) (aNn ?_)))))))))
  refine ao _ rfl (fun h2 => ?_) (fun h2 => ?_)
  ·skip
   have hne:elt l.l v≠v:=by simpa using h2
   have hst:=hT.step v hv hne
   have hcs:=we hT hv hne
   refine ar (aj (aq (aSR (aM rfl (aM rfl (iJ true rfl rfl (fun _=>bI Tryz.underlying26 tk3 rfl ((.of (aI 1 rfl))) rfl (fF (i:=v) (by omega) (by omega)) (by omega) rfl) (fun h=>absurd h (by decide)) (fun ⟨b5_2,o5_2⟩=>(US 0 tk3 0 rfl rfl rfl rfl rfl (aA rfl (aNn (aa (aM rfl (aM rfl ?_)))))))))))))
   refine LT rfl (WL (zs:=[.int .i64 0]) el26 rfl rfl rfl (.more rfl (.v rfl .nil) .nil) rfl rfl (fun v6_2=>(aHN ?_)))
   refine aD rfl (cj 0 el26 rfl rfl rfl rfl (cY 1 el26 rfl (by simp)) (by first | assumption | simp) (by simp [dF];omega) _ rfl (fun v6_3 c6_3 => ?_))
   refine aHK ?_
   refine aA rfl (bj (bp (aj ?_)))
   refine ⟨[0,1,5],[0],[0],rfl,?_⟩
   refine ⟨(elt l.l v,acc++[elt l.l v],.slice v6_3 ((cL encI acc).length+1) c6_3),⟨⟨hst.1,?_,by simp;omega⟩,?_⟩,hst.2⟩
   · rw [← hch,hcs,List.append_assoc]
     exact congrArg _ (pc _ _ _).symm
   · show _=(⟨_,_,[aO _ _ 1 (cL encI (acc++[elt l.l v]))]⟩:Sta)
     rw [show cL encI (acc++[elt l.l v])=cL encI acc++[[.v (encI (elt l.l v))]] by simp [cL]]
     rfl
  ·skip
   have heq:elt l.l v=v:=by simpa using h2
   rw [yK _ heq,List.tail_cons,List.append_nil] at hch
   subst hch
   refine aT (aW (aW (aY (aj (aSR (aM rfl (LF rfl (EC [] [0] rfl (s8 _) ?_))))))))
   rintro r7 _ _ ⟨rfl,rfl⟩
   refine aST ?_
   refine aNn (aSR (aM rfl (aA rfl (aNn (cB 0 rfl (tX (.of (aI 0 rfl)) (fun ad kc hv => ?_)))))))
   rw [dF] at hv
   refine ax ?_
   refine iX [2] [] rfl Tryz.results306 rfl ?_ (.inr rfl)
   have e:kI l.l ρ to_=(chain l.l (ρ to_) to_).reverse:=if_neg (by simpa using h1)
   exact ⟨rfl,ad,kc,by rw [e];exact hv,by rw [e,← hv];rfl⟩
end Go.Proofs.YtfkcmbonmpcbfaaGreat

