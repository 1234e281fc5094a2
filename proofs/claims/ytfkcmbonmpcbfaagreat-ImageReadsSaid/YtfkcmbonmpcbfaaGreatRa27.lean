/- Parts of the proof, in build order. No condition. -/
import Derived.Test.YtfkcmbonmpcbfaaGreatRa18
import Derived.Lib.FrozenHead
import Derived.Lib.MakeNoZero
import Derived.Test.YtfkcmbonmpcbfaaGreatRa09
import Derived.Test.YtfkcmbonmpcbfaaGreatRa05
import Derived.Test.YtfkcmbonmpcbfaaGreatRa10
import Derived.Test.YtfkcmbonmpcbfaaGreatRa26
import Derived.Test.YtfkcmbonmpcbfaaGreatRa04
import Derived.Test.YtfkcmbonmpcbfaaGreatRa06
import Derived.Lib.ConvBytes
import Derived.Laws.IdiomCopy
import Derived.Deep.Upon
import Derived.Test.YtfkcmbonmpcbfaaGreatRa08
set_option linter.unusedSimpArgs false
set_option linter.unusedVariables false
set_option maxHeartbeats 1000000
set_option maxRecDepth 20000
namespace Go.Sy
open Go.RowKit Go.Lp Go.Lv
def lE(g cap:Nat)(E:TypeId)(l:List UInt8):Res :=
 ⟨fun w _ F=>(∃ (cur:Array Value) (fz:Nat × Nat),w.heap[g]? = some (.cells cur E fz)∧fz.2≤l.length∧l.length≤cap∧cap≤maxLen∧cur.size=cap∧cur.toList.take l.length=Lib.strCells (bytesOf l))∧∀ k,F k↔k=g,
  fun ⟨⟨cur,fz,h,hr⟩,hF⟩ h1 _ _=>⟨⟨cur,fz,(h1 g ((hF g).2 rfl)).trans h,hr⟩,hF⟩⟩
section
variable {P:Program} {n:Fr} {env:Env} {ps:List Per} {hp:List Res} {d:Option Tmp} {ty:TypeId} {pos:String} {af:Array Edge} {gd:Option (Nat × Bool)} {K:Sta→Prop}
theorem zw{t:Nat}{x y:Operand}{T tx E:TypeId}{g cap:Nat}{l s:List UInt8}(i:Nat)(hT:P.underlying T=some (.slice E))(hu:P.underlying tx=some .string)(hi1:(P.info? E).map (·.size)=some 1)
   (hx:ev env x=some (true,.slice (some ⟨g,0,none⟩) l.length cap)) (hy:ev env y=some (true,.string (bytesOf s))) (ht:fits n.size (some t)=true) (hi:hp[i]? = some (lE g cap E l)) (hr:l.length+s.length≤cap)
   (hK:K ⟨(t,true,.slice (some ⟨g,0,none⟩) (l++s).length cap)::env,ps,hp.set i (lE g cap E (l++s))⟩) :
   Eff P n ⟨some t,.call ⟨.builtin .append,#[x,y],#[T,tx]⟩,ty,pos,af,gd⟩ ⟨env,ps,hp⟩ false K:=.change i hi fun w S fp a hst he hn hR=>by
 have h1:=he.val hx rfl
 have h2:=he.val hy rfl
 obtain ⟨⟨cur,fz,hg,hfz,hlc,hcm,hcs,htk⟩,hF⟩:=hR
 obtain ⟨j,hj,hjs⟩:=Option.map_eq_some_iff.1 hi1
 have hss:(bytesOf s).size=s.length:=rfl
 have hr2:=Lib.run_append_room_stringF (P:=P) w T tx ty E j hT hu hj hjs g l.length cap cur fz hg hfz (bytesOf s) (by rw [hss];exact hr) (by rw [hss,hcs];exact hr)
 have hexec:execOp a.eval ⟨some t,.call ⟨.builtin .append,#[x,y],#[T,tx]⟩,ty,pos,af,gd⟩=(Builtin.append_ #[T,tx] ty (#[x,y].map a.eval)).bind fun r=>Sem.pure (Next.value r):=rfl
 rw [hexec,show #[x,y].map a.eval = #[a.eval x,a.eval y] by simp,h1,h2,Sem.run_bind',hr2]
 rw [hss]
 refine ⟨lE g cap E (l++s),_,hK,rfl,rfl,by rw [List.length_append];exact he.put (g:=true) (by rw [hn];simpa [fits] using ht) _,⟨⟨_,fz,setRow_heap w g cur _ E _ hg,by rw [List.length_append];omega,by rw [List.length_append];omega,hcm,?_,?_⟩,hF⟩,rfl,rfl,⟨rfl,rfl⟩,by simp [World.setRow],fun b hb hne=>setRow_other _ _ _ _ (fun h=>hne ((hF b).2 h))⟩
 · simp only [List.size_toArray,List.length_append,List.length_take,List.length_drop,Array.length_toList,Lib.strCells_length,hss];omega
 · rw [htk]
   have e:Lib.strCells (bytesOf (l++s))=Lib.strCells (bytesOf l)++Lib.strCells (bytesOf s):=by unfold Lib.strCells bytesOf;simp
   have el:(l++s).length=(Lib.strCells (bytesOf l)++Lib.strCells (bytesOf s)).length:=by rw [← e,Lib.strCells_length];rfl
   rw [el,e]
   exact List.take_left
theorem oG{t:Nat}{x y:Operand}{pt it E:TypeId}{g cp:Nat}{l:List UInt8}(i:Nat)(hp1:P.underlying pt=some (.pointer E))(hc:P.cellsOf E=1)(h0:l≠[])(hx:ev env x=some (true,.pointer (some ⟨g,0,none⟩)))(hy:ev env y=some (true,.int .i64 l.length))
   (hi:hp[i]? = some (lE g cp E l)) (ht:fits n.size (some t)=true) (hK:K ⟨(t,true,.string (bytesOf l))::env,ps,hp.set i (lE g cp E l)⟩) :
   Eff P n ⟨some t,.call ⟨.builtin .unsafeString,#[x,y],#[pt,it]⟩,ty,pos,af,gd⟩ ⟨env,ps,hp⟩ false K:=.change i hi fun w S fp a hst he hn hR=>by
 have h1:=he.val hx rfl
 have h2:=he.val hy rfl
 obtain ⟨⟨cur,fz,hg,hfz,hlc,hcm,hcs,htk⟩,hF⟩:=hR
 have hsh:w.shape? g=some (E,cur.size):=by unfold World.shape?;rw [hg]
 have hcell:∀ j u,l[j]? = some u→w.cell? ((⟨g,0,none⟩:Addr).add j)=some (.int .u8 u.toNat):=fun j u hj=>by
   have hjl:=(List.getElem?_eq_some_iff.1 hj).1
   have:(⟨g,0,none⟩:Addr).add j=⟨g,j,none⟩:=by
     unfold Addr.add
     by_cases h:j=0
     · subst h;simp
     · simp [h]
   rw [this]
   have e:(Lib.strCells (bytesOf l))[j]? = some (.int .u8 u.toNat):=by
     unfold Lib.strCells bytesOf
     simp [hj]
   rw [← htk,List.getElem?_take,if_pos hjl] at e
   unfold World.cell?
   rw [hg]
   simpa using e
 have hr:=Lib.run_unsafeString_row (P:=P) w pt it ty E hp1 hc g cur.size hsh l h0 (by omega) (by unfold maxLen at hcm;omega) hcell
 have hexec:execOp a.eval ⟨some t,.call ⟨.builtin .unsafeString,#[x,y],#[pt,it]⟩,ty,pos,af,gd⟩=(Builtin.unsafeString_ #[pt,it] ty (#[x,y].map a.eval)).bind fun r=>Sem.pure (Next.value r):=rfl
 rw [hexec,show #[x,y].map a.eval = #[a.eval x,a.eval y] by simp,h1,h2,Sem.run_bind',hr]
 have hl0:l.length≠0:=fun h=>h0 (List.eq_nil_of_length_eq_zero h)
 have hfr:∃ fz',fz'.2≤l.length∧(w.freeze ⟨g,0,none⟩ l.length).heap[g]? = some (.cells cur E fz'):=by
   unfold World.freeze
   rw [if_neg hl0]
   obtain ⟨lo,hi'⟩:=fz
   refine ⟨_,?_,by dsimp only;rw [Array.getElem?_modify,if_pos rfl,hg];rfl⟩
   dsimp only at hfz ⊢
   split
   · dsimp only;omega
   · dsimp only;omega
 obtain ⟨fz',hz1,hz2⟩:=hfr
 obtain ⟨f,hfz2⟩:∃ f:Obj→Obj,w.freeze ⟨g,0,none⟩ l.length = { w with heap:=w.heap.modify g f } := ⟨_,by unfold World.freeze;rw [if_neg hl0]⟩
 refine ⟨lE g cp E l,⟨(t,true,.string (bytesOf l))::env,ps,hp.set i (lE g cp E l)⟩,hK,rfl,rfl,?_,⟨⟨cur,fz',hz2,hz1,hlc,hcm,hcs,htk⟩,hF⟩,?_,?_,?_,?_,?_⟩
 · exact he.put (g:=true) (by rw [hn];simpa [fits] using ht) _
 · rw [hfz2]
 · rw [hfz2]
 · rw [hfz2];exact ⟨rfl,rfl⟩
 · rw [hfz2];simp
 · intro b' hb' hne
   rw [hfz2]
   simp only [Array.getElem?_modify]
   rw [if_neg (fun h=>hne ((hF b').2 h.symm))]
theorem aaX {f:FuncId} {fn:Func} {t:Nat} {x:Operand} {ts pts:Array TypeId} {T E:TypeId} {m:Nat} {q:Bool} (hf:P.funcs[f]? = some fn) (h1:(fn.name == "runtime.NumGoroutine")=false) (h2:fn.body.isNone=true) (h3:Extern.findNext fn=none) (h4:Extern.find fn=some (Extern.BytealgMakeNoZero.makeNoZero pts #[T]))
   (hT:P.underlying T=some (.slice E)) (hm:m≤1000000000000) (hx:ev env x=some (true,.int .i64 m)) (ht:fits n.size (some t)=true)
   (hK:∀ g c,m≤c→K ⟨(t,true,.slice (some ⟨g,0,none⟩) m c)::env,ps,hp++[lE g c E []]⟩):Eff P n ⟨some t,.call ⟨.value (.func f),#[x],ts⟩,ty,pos,af,gd⟩ ⟨env,ps,hp⟩ q K:=.push fun w S' fp a hst he hn=>by
 have e1:=he.val hx rfl
 obtain ⟨cs,hrun,hle,hmx⟩:=Lib.run_makeNoZero (P:=P) w pts T E hT m (by omega)
 have:(execOp a.eval ⟨some t,.call ⟨.value (.func f),#[x],ts⟩,ty,pos,af,gd⟩).run P w=.ok (.value (.slice (some ⟨w.heap.size,0,none⟩) m cs.size)) (w.drew.drew.alloc (.cells cs E)):=by
   unfold execOp
   show ((resolve a.eval ⟨.value (.func f),#[x],ts⟩ ty).bind fun x=>invoke x.target x.args).run P w=_
   have:resolve a.eval ⟨.value (.func f),#[x],ts⟩ ty=Sem.pure { target:=.fn (.func f) #[],args := #[.int .i64 m] } := by
     have hg:a.eval (.func f)=.func (.func f) #[] #[]:=rfl
     unfold resolve
     dsimp only
     rw [hg]
     show Deferred.ofValue _ _=_
     unfold Deferred.ofValue
     dsimp only
     rw [show #[x].map a.eval = #[a.eval x] by simp,e1,Array.empty_append]
     rfl
   rw [this]
   show (callFunc f (#[.int .i64 m] ++ #[])).run P w=_
   rw [Array.append_empty,run_callFunc_extern hf h1 h2 h3 h4,hrun];rfl
 rw [this]
 refine ⟨lE w.heap.size cs.size E [],(fun k=>k=w.heap.size),_,hK _ _ hle,rfl,rfl,he.put (g:=true) (by rw [hn];simpa [fits] using ht) _,?_,⟨⟨cs,(0,0),heap_alloc_new w.drew.drew _,Nat.zero_le _,Nat.zero_le _,hmx (by unfold maxLen;omega),rfl,rfl⟩,fun _=>Iff.rfl⟩,fun k hk=>by subst hk;exact ⟨Nat.le_refl _,by show w.heap.size<(w.heap.push _).size;rw [Array.size_push];exact Nat.lt_succ_self _⟩⟩
 exact ((Below.refl _ w).drew.drew).alloc (Nat.le_refl _) _
end
section
variable {P:Program} {n:Fr} {s:Sta} {d:Option Tmp} {ty:TypeId} {pos:String} {af:Array Edge} {gd:Option (Nat × Bool)}
theorem abD{x:Operand}{T E:TypeId}{ad:Option Addr}{k c:Nat}(hT:P.underlying T=some (.slice E))(hx:ev s.env x=some (true,.slice ad k c)) :
   Quiet P n ⟨d,.call ⟨.builtin .cap,#[x],#[T]⟩,ty,pos,af,gd⟩ s (.int .i64 c):=.run1 hx fun ρ w h1=>by
 have hT':P.underlying T=some (.slice (P.elem T)):=by rw [hT];unfold Program.elem;rw [hT]
 have:(Builtin.cap_ #[T] ty #[.slice ad k c]).run P w=.ok (.int .i64 c) w:=run_cap_slice _ _ _ _ _ _ hT'
 have e:(execOp ρ ⟨d,.call ⟨.builtin .cap,#[x],#[T]⟩,ty,pos,af,gd⟩)=(Builtin.cap_ #[T] ty (#[x].map ρ)).bind fun r=>Sem.pure (Next.value r):=rfl
 rw [e,show #[x].map ρ = #[.slice ad k c] by simp [h1],Sem.run_bind',this];rfl
theorem adF{x y z:Operand}{ts:Array TypeId}{k:IntKind}{a b c:Int}(hx:ev s.env x=some (true,.int k a))(hy:ev s.env y=some (true,.int k b))(hz:ev s.env z=some (true,.int k c)) :
   Quiet P n ⟨d,.call ⟨.builtin .min,#[x,y,z],ts⟩,ty,pos,af,gd⟩ s (.int k (min (min a b) c)):=fun w S fp a' hst he hn=>by
 have h1:=he.val hx rfl
 have h2:=he.val hy rfl
 have h3:=he.val hz rfl
 have hr:(Builtin.min_ ts ty #[.int k a,.int k b,.int k c]).run P w=.ok (.int k (min (min a b) c)) w:=by
   have:(Builtin.min_ ts ty #[.int k a,.int k b,.int k c]).run P w=.ok (.int k (if c<(if b<a then b else a) then c else (if b<a then b else a))) w:=by simp [Builtin.min_,Builtin.min2]
   rw [this]
   congr 2
   split<;>split<;>omega
 have e:(execOp a'.eval ⟨d,.call ⟨.builtin .min,#[x,y,z],ts⟩,ty,pos,af,gd⟩)=(Builtin.min_ ts ty (#[x,y,z].map a'.eval)).bind fun r=>Sem.pure (Next.value r):=rfl
 have:(execOp a'.eval ⟨d,.call ⟨.builtin .min,#[x,y,z],ts⟩,ty,pos,af,gd⟩).run P w=.ok (.value (.int k (min (min a b) c))) w:=by
   rw [e,show #[x,y,z].map a'.eval = #[.int k a,.int k b,.int k c] by simp [h1,h2,h3],Sem.run_bind',hr];rfl
 rw [this];exact cx _ _
end
end Go.Sy

namespace Go.Proofs.YtfkcmbonmpcbfaaGreat
open Go.RowKit Go.Lp Go.Sy Go.Lv
open Go.Proofs.Tryz
attribute [local irreducible] aL aB awp aC fwp Quiet
abbrev lN(b:Nat)(p v:Value):Res:=Box b 91 [p,v]
abbrev slF(g n c:Nat):Value:=.slice (some ⟨g,0,none⟩) n c
theorem wo(b:Nat)(v:Value):Con Tryz.prog 289 [.pointer (some ⟨b,0,none⟩)] [] [lN b (.pointer none) v] fun _ ps hp=>ps=[]∧hp=[lN b (.pointer (some ⟨b,0,none⟩)) v]:=by
 refine EN1 Tryz.func289 rfl (aSR (aM rfl (UN rfl rfl (UO 0 rfl rfl (UL 0 tk88 rfl rfl rfl rfl (aU rfl (kC (by kernel_rfl) rfl) (aNn ?_)))))))
 refine ao _ rfl (fun h1 => ?_) (fun h1 => ?_)
 ·skip
  refine aa (aM rfl (aM rfl ?_))
  refine aU rfl (abI (t:=91) 0 (by kernel_rfl) (by kernel_rfl) (by kernel_rfl) rfl rfl (by simp)) ?_
  refine aU rfl (ac3 (vs:=_) Tryz.func327 rfl rfl (by kernel_rfl) (by kernel_rfl) rfl (fun w=>vg _ w)) (aU rfl (vD (u:=91) 0 2 (by kernel_rfl) (by kernel_rfl) (by kernel_rfl) rfl rfl rfl (by kernel_rfl)) (UN rfl rfl (UO 0 rfl rfl (aD rfl (aF 0 tk88 rfl rfl rfl rfl (aHK ?_))))))
  refine bj (FZ0 [0] Tryz.results289 ?_)
  exact ⟨rfl,rfl⟩
 ·skip
  exact absurd h1 (by decide)
theorem wq(b:Nat)(v:Value):Con Tryz.prog 289 [.pointer (some ⟨b,0,none⟩)] [] [lN b (.pointer (some ⟨b,0,none⟩)) v] fun _ ps hp=>ps=[]∧hp=[lN b (.pointer (some ⟨b,0,none⟩)) v]:=by
 refine EN1 Tryz.func289 rfl (aSR (aM rfl (UN rfl rfl (UO 0 rfl rfl (UL 0 tk88 rfl rfl rfl rfl (aU rfl (qE (by kernel_rfl) rfl) (aNn ?_)))))))
 refine ao _ rfl (fun h1 => ?_) (fun h1 => ?_)
 ·skip
  exact absurd h1 (by decide)
 ·skip
  refine aSR (aM rfl (UN rfl rfl (UO 0 rfl rfl (UL 0 tk88 rfl rfl rfl rfl (aM rfl (aU rfl (se (te:=91) (by kernel_rfl) (by kernel_rfl) rfl rfl) (aNn ?_)))))))
  refine ao _ rfl (fun h2 => ?_) (fun h2 => ?_)
  ·skip
   exact absurd h2 (by decide)
  ·skip
   refine ar (FZ0 [0] Tryz.results289 ?_)
   exact ⟨rfl,rfl⟩
theorem pK(b:Nat)(p:Value)(ad:Option Addr)(m c:Nat):Con Tryz.prog 214 [.pointer (some ⟨b,0,none⟩)] [] [lN b p (.slice ad m c)] fun r ps hp=>ps=[]∧hp=[lN b p (.slice ad m c)]∧r=.int .i64 m:=by
 refine EN1 Tryz.func214 rfl (aSR (aA rfl (aNn (aSR (aM rfl (UN rfl rfl (UO 1 rfl rfl (UL 0 tk89 rfl rfl rfl rfl (aU rfl (aZ Tryz.underlying89 rfl) (aA rfl (aNn (ax (FZ1 [0] Tryz.results214 rfl ?_)))))))))))))
 exact ⟨rfl,rfl,rfl⟩
theorem yO(b:Nat)(p:Value)(m:Nat)(hm:m≤1000000000):Con Tryz.prog 290 [.pointer (some ⟨b,0,none⟩),.int .i64 m] [] [lN b p (.slice none 0 0)]
   fun _ ps hp=>ps=[]∧∃ g c,m≤c∧hp=[lN b p (slF g 0 c),lE g c 5 []]:=by
 refine EN2 Tryz.func290 rfl (ah (DR [] 16 (VM 0 rfl rfl (VN 1 rfl rfl rfl (VO 2 1 rfl rfl rfl (VL 3 0 tk89 rfl rfl rfl rfl rfl (bV 4 rfl rfl (abD Tryz.underlying89 rfl) (bV 5 rfl rfl (gM rfl rfl (by omega)) (VM 6 rfl rfl (bV 7 rfl rfl (aX rfl rfl (by omega)) (VM 9 rfl rfl (VN 10 rfl rfl rfl (VO 11 1 rfl rfl rfl (VL 12 0 tk89 rfl rfl rfl rfl rfl (bV 13 rfl rfl (aZ Tryz.underlying89 rfl) ?_)))))))))))))))
 refine fx (q:=true) 8 rfl (by kernel_rfl) rfl rfl (aaX (m:=m) Tryz.func328 rfl rfl rfl rfl Tryz.underlying89 (by omega) (ed rfl (by omega)) rfl (fun g0 c0 hgc=>(bST rfl ?_)))
 refine bV 14 rfl rfl (iH 0 el89 rfl rfl rfl (Nat.zero_le _) hgc) (bV 15 rfl rfl (bE rfl) (BN (aj (aSR (aM rfl (aM rfl (UN rfl rfl (UO 1 rfl rfl (UL 0 tk89 rfl rfl rfl rfl (aU rfl (yf el89 rfl rfl) (aNn (aa (aM rfl (aM rfl (UN rfl rfl ?_)))))))))))))))
 refine UO 1 rfl rfl (aD rfl (aF 0 tk89 rfl rfl rfl rfl (aHK ?_)))
 refine bj (FZ0 [0,1] Tryz.results290 ?_)
 exact ⟨rfl,g0,c0,hgc,rfl⟩
theorem yN(b:Nat)(m:Nat)(hm:m≤1000000000)(h0:0<m):Con Tryz.prog 212 [.pointer (some ⟨b,0,none⟩),.int .i64 m] [] [lN b (.pointer none) (.slice none 0 0)]
   fun _ ps hp=>ps=[]∧∃ g c,m≤c∧hp=[lN b (.pointer (some ⟨b,0,none⟩)) (slF g 0 c),lE g c 5 []]:=by
 refine EN2 Tryz.func212 rfl (aSR (aM rfl (LF rfl (EC [] [0] rfl (wo b (.slice none 0 0)) ?_))))
 rintro _ _ _ ⟨rfl,rfl⟩
 refine aST ?_
 refine aNs (aSR (aM rfl (aU rfl (bu rfl rfl) (aNn ?_))))
 refine ao _ rfl (fun h1 => ?_) (fun h1 => ?_)
 ·skip
  exact absurd h1 (by simp<;>omega)
 ·skip
  refine ar (aj (ah (DR [] 13 (VM 0 rfl rfl (VN 1 rfl rfl rfl (VO 2 1 rfl rfl rfl (VL 3 0 tk89 rfl rfl rfl rfl rfl (bV 4 rfl rfl (abD Tryz.underlying89 rfl) (VM 5 rfl rfl (VN 6 rfl rfl rfl (VO 7 1 rfl rfl rfl (VL 8 0 tk89 rfl rfl rfl rfl rfl (bV 9 rfl rfl (aZ Tryz.underlying89 rfl) (bV 10 rfl rfl (dp rfl rfl (by omega)) (VM 11 rfl rfl ?_)))))))))))))))
  refine bV 12 rfl rfl (bu rfl rfl) (BN (aj ?_))
  refine ao _ rfl (fun h2 => ?_) (fun h2 => ?_)
  ·skip
   refine aa (aM rfl (aM rfl (LF rfl (EC [] [0] rfl (yO b (.pointer (some ⟨b,0,none⟩)) m hm) ?_))))
   rintro _ _ _ ⟨rfl,g,c,hgc,rfl⟩
   refine aST ?_
   refine bj (FZ0 [0,1] Tryz.results212 ?_)
   exact ⟨rfl,g,c,hgc,rfl⟩
  ·skip
   exact absurd h2 (by simp<;>omega)
theorem rI(b g c:Nat)(l t:List UInt8)(hl:l.length+t.length≤c):Con Tryz.prog 213 [.pointer (some ⟨b,0,none⟩),.string (bytesOf t)] [] [lN b (.pointer (some ⟨b,0,none⟩)) (slF g l.length c),lE g c 5 l]
   fun _ ps hp=>ps=[]∧hp=[lN b (.pointer (some ⟨b,0,none⟩)) (slF g (l++t).length c),lE g c 5 (l++t)]:=by
 refine EN2 Tryz.func213 rfl (aSR (aA rfl (aA rfl (aNn (aSR (aM rfl (LF rfl (EC [] [0] rfl (wq b (slF g l.length c)) ?_))))))))
 rintro _ _ _ ⟨rfl,rfl⟩
 refine aST ?_
 refine aNn (aSR (aM rfl (aM rfl (UN rfl rfl (UO 1 rfl rfl (UL 0 tk89 rfl rfl rfl rfl (aM rfl (LF rfl (zw 1 Tryz.underlying89 Tryz.underlying9 (by kernel_rfl) rfl rfl rfl rfl hl (aHK ?_))))))))))
 refine UN rfl rfl (UO 1 rfl rfl (aD rfl (aF 0 tk89 rfl rfl rfl rfl (aHK ?_))))
 refine aNn (aSR (aM rfl (aU rfl (cP Tryz.underlying9 rfl) (aA rfl (aA rfl (aNn (ax (FZ2 [0,1] Tryz.results213 rfl rfl ?_))))))))
 exact ⟨rfl,rfl⟩
theorem uy(b g c:Nat)(l:List UInt8)(hl:l≠[])(hc:c≠0):Con Tryz.prog 61 [.pointer (some ⟨b,0,none⟩)] [] [lN b (.pointer (some ⟨b,0,none⟩)) (slF g l.length c),lE g c 5 l]
   fun r ps hp=>ps=[]∧hp=[lN b (.pointer (some ⟨b,0,none⟩)) (slF g l.length c),lE g c 5 l]∧r=.string (bytesOf l):=by
 refine EN1 Tryz.func61 rfl (aSR (aA rfl (aNs (DR [10] 12 (VM 0 rfl rfl (VN 1 rfl rfl rfl (VO 2 1 rfl rfl rfl (VL 3 0 tk89 rfl rfl rfl rfl rfl (bV 4 rfl rfl (oh hc rfl) (VM 5 rfl rfl (VN 6 rfl rfl rfl (VO 7 1 rfl rfl rfl (VL 8 0 tk89 rfl rfl rfl rfl rfl (bV 9 rfl rfl (aZ Tryz.underlying89 rfl) ?_))))))))))))))
 refine VE 10 rfl rfl (oG 1 (by kernel_rfl) (by kernel_rfl) hl rfl rfl rfl rfl (bST rfl ?_))
 refine bV 11 rfl rfl (bE rfl) (BN (aj (ax (FZ1 [0,1] Tryz.results61 rfl ?_))))
 exact ⟨rfl,rfl,rfl⟩
theorem aes(N:Nat)(hN:N≤1000000000)(w:World):Calls Tryz.prog 210 #[.int .u64 (IntKind.u64.wrap ((1:Nat):Int)),.int .u64 (IntKind.u64.wrap (N:Int))] w fun e w'=>e=.returned (.tuple #[.int .u64 0,.int .u64 N])∧Go.Sy.Below w.heap.size w w':=by
 have h:=Any.bits_Mul Tryz.lays212 1 N (by omega) (by omega) w
 have e1:IntKind.u64.wrap ((1:Nat):Int)=((1:Nat):Int):=by decide
 have e2:IntKind.u64.wrap (N:Int)=N:=by rw [IntKind.wrap_u64];omega
 rw [e1,e2]
 refine h.mono fun e w' ⟨h1,h2⟩=>⟨?_,by rw [h2];exact Go.Sy.Below.refl _ _⟩
 rw [h1]
 have e3:1*N / 18446744073709551616=0:=by omega
 have e4:1*N % 18446744073709551616=N:=by omega
 rw [e3,e4];rfl
abbrev zsB(n:Nat):List UInt8:=List.replicate n 0
theorem ab9{a b:Nat}{z:Int}(hz:z=(a:Int))(h:a≤b):(bytesOf (zsB b)).extract 0 z.toNat=bytesOf (zsB a):=by
 rw [gp _ hz,List.take_replicate,Nat.min_eq_left h]
theorem zu:Con Tryz.prog 100 [.string ⟨#[0]⟩,.int .i64 ((1:Nat):Int)] [] [] fun r ps hp=>ps=[]∧hp=[]∧r=.string (bytesOf (zsB 1)):=by
 refine EN2 Tryz.func100 rfl (aSR (aA rfl (aNs (aSR (aM rfl (aNn (aq (aSR (aU rfl (cJ rfl rfl) (aA rfl (aNn ?_)))))))))))
 refine ao _ rfl (fun h1 => ?_) (fun h1 => ?_)
 ·skip
  exact absurd h1 (by decide)
 ·skip
  refine aSR (aU rfl (cJ rfl rfl) (aA rfl (aNn ?_)))
  refine ao _ rfl (fun h2 => ?_) (fun h2 => ?_)
  ·skip
   refine aSR (aM rfl (aA rfl (aNn (ax (dr (bB (FZ1 [] Tryz.results100 rfl ?_)))))))
   exact ⟨rfl,rfl,rfl⟩
  ·skip
   exact absurd h2 (by decide)
theorem aaP (m:Nat) (h2m:2≤m) (hm:m≤1048576):Con Tryz.prog 100 [.string ⟨#[0]⟩,.int .i64 m] [] [] fun r ps hp=>ps=[]∧hp=[]∧r=.string (bytesOf (zsB m)):=by
 refine EN2 Tryz.func100 rfl (aSR (aA rfl (aNs (aSR (aM rfl (aNn (aq (aSR (aU rfl (cJ rfl rfl) (aA rfl (aNn ?_)))))))))))
 refine ao _ rfl (fun h1 => ?_) (fun h1 => ?_)
 ·skip
  exact absurd h1 (by simp<;>omega)
 ·skip
  refine aSR (aU rfl (cJ rfl rfl) (aA rfl (aNn ?_)))
  refine ao _ rfl (fun h2 => ?_) (fun h2 => ?_)
  ·skip
   exact absurd h2 (by simp<;>omega)
  ·skip
   refine ar (bp (aj (ah (aSR (aM rfl (aU rfl (bu rfl rfl) (aNn ?_)))))))
   refine ao _ rfl (fun h3 => ?_) (fun h3 => ?_)
   ·skip
    exact absurd h3 (by simp<;>omega)
   ·skip
    refine ar (aj (aSR (aM rfl (aU rfl (cP Tryz.underlying9 rfl) (aU rfl (dm (by kernel_rfl) Tryz.underlying305 rfl) (aM rfl (aU rfl (dm (by kernel_rfl) Tryz.underlying305 rfl) (aU rfl (QC rfl (fun w S fp hst=>aes m (by omega) w)) ?_))))))))
    refine aM rfl (aU rfl (ck rfl rfl) (aU rfl (ck rfl rfl) (aA rfl (aA rfl (aNs (aSR (aM rfl (aU rfl (eA rfl rfl) (aM rfl (aG rfl rfl (fun hc=>aS rfl) (aG rfl rfl (fun hc=>eA (ae rfl hc) rfl) (aU rfl (eu rfl rfl (fun h=>gf rfl h)) (aNn ?_)))))))))))))
    refine ao _ rfl (fun h4 => ?_) (fun h4 => ?_)
    ·skip
     exact absurd h4 (by simp<;>omega)
    ·skip
     refine ar (aj (aSR (aM rfl ?_)))
     refine aU rfl ((dm (by kernel_rfl) Tryz.underlying3 rfl).castV (v':=.int .i64 m) (congrArg (Value.int .i64) (by rw [IntKind.wrap_i64];omega))) ?_
     refine aA rfl (aNs (aSR (aM rfl (aU rfl (cP Tryz.underlying9 rfl) (aU rfl (cJ rfl rfl) (aNn ?_))))))
     refine ao _ rfl (fun h5 => ?_) (fun h5 => ?_)
     ·skip
      exact absurd h5 (by decide)
     ·skip
      refine ar (aj (ah (aSR (aM rfl (aU rfl (mJ (0) Tryz.underlying9 rfl rfl (rfl) (rfl)) (aNn (aq (ah (aSR (aU rfl (cJ rfl rfl) (aA rfl (aNn ?_))))))))))))
      refine ao _ rfl (fun h6 => ?_) (fun h6 => ?_)
      ·skip
       exact absurd h6 (by decide)
      ·skip
       refine aSR (aU rfl (cJ rfl rfl) (aA rfl (aNn ?_)))
       refine ao _ rfl (fun h7 => ?_) (fun h7 => ?_)
       ·skip
        exact absurd h7 (by decide)
       ·skip
        refine aSR (aU rfl (cJ rfl rfl) (aA rfl (aNn ?_)))
        refine ao _ rfl (fun h8 => ?_) (fun h8 => ?_)
        ·skip
         exact absurd h8 (by decide)
        ·skip
         refine aSR (aU rfl (cJ rfl rfl) (aA rfl (aNn ?_)))
         refine ao _ rfl (fun h9 => ?_) (fun h9 => ?_)
         ·skip
          exact absurd h9 (by decide)
         ·skip
          refine aa (aU rfl (cJ rfl rfl) (aA rfl (aNn ?_)))
          refine ao _ rfl (fun h10 => ?_) (fun h10 => ?_)
          ·skip
           exact absurd h10 (by decide)
          ·skip
           refine ar (bp (aj (aSR (aM rfl (aA rfl (aNs ?_))))))
           refine jt (X := {K:Nat // 1≤K}) (fun q=>⟨[(0,true,.string ⟨#[0]⟩),(7,true,.int .i64 m),(8,true,.int .i64 q.1)],[],[]⟩) ?_ ?_
           ·skip
            refine aSR (aM rfl (aU rfl (eA rfl rfl) (aNn ?_)))
            refine ao _ rfl (fun h11 => ?_) (fun h11 => ?_)
            ·skip
             refine aSR (aM rfl (aU rfl (cP Tryz.underlying9 rfl) (aU rfl (qF rfl rfl (by decide)) (aM rfl (aU rfl (cP Tryz.underlying9 rfl) (aU rfl (gM rfl rfl (by decide)) (aA rfl (aNn (aSR (aM rfl (aU rfl (cJ rfl rfl) (aNn ?_))))))))))))
             refine ao _ rfl (fun h12 => ?_) (fun h12 => ?_)
             ·skip
              exact absurd h12 (by decide)
             ·skip
              refine ar (aj ?_)
              first
              | exact ⟨[0,7,8],[],[],⟨8192,by decide⟩,rfl,rfl⟩
              | exact ⟨[0,7,8],[],[],⟨m,by omega⟩,rfl,rfl⟩
            ·skip
             refine ar (aj ?_)
             first
             | exact ⟨[0,7,8],[],[],⟨8192,by decide⟩,rfl,rfl⟩
             | exact ⟨[0,7,8],[],[],⟨m,by omega⟩,rfl,rfl⟩
           ·skip
            rintro ⟨K,hK1⟩
            refine aSR (LT rfl (bk (zs:=[.pointer none,.slice none 0 0]) (by kernel_rfl) rfl (fun b35_0=>(aHN ?_))))
            refine aNn (aSR (aM rfl (LF rfl (EC [] [0] rfl (yN b35_0 m (by omega) (by omega)) ?_))))
            rintro _ _ _ ⟨rfl,g,c,hgc,rfl⟩
            refine aST ?_
            refine aNn (aSR (aM rfl (LF rfl (EC [] [0,1] rfl (rI b35_0 g c [] [0] (show 1≤c by omega)) ?_))))
            rintro _ _ _ ⟨rfl,rfl⟩
            refine aST ?_
            refine aNs (aq (aQ [7,8,9] [] [0,1] (fun (q:Nat) st=>(1≤q∧q≤m)∧st=⟨[(7,true,.int .i64 m),(8,true,.int .i64 K),(9,true,.pointer (some ⟨b35_0,0,none⟩))],[],[lN b35_0 (.pointer (some ⟨b35_0,0,none⟩)) (slF g (zsB q).length c),lE g c 5 (zsB q)]⟩) (fun q=>m-q) rfl (⟨1,⟨Nat.le_refl _,by omega⟩,rfl⟩) ?_))
            rintro q st ⟨⟨hq1,hqm⟩,rfl⟩
            have hlq:(zsB q).length=q:=List.length_replicate
            have hne:zsB q≠[]:=fun h=>by rw [h] at hlq;simp at hlq;omega
            refine ah (aSR (LF rfl (EC [] [0] rfl (pK b35_0 (.pointer (some ⟨b35_0,0,none⟩)) (some ⟨g,0,none⟩) (zsB q).length c) ?_)))
            rintro _ _ _ ⟨rfl,rfl,rfl⟩
            refine aST ?_
            refine aM rfl (aU rfl (bu rfl rfl) (aNn ?_))
            refine ao _ rfl (fun h13 => ?_) (fun h13 => ?_)
            ·skip
             have hlt:q<m:=by simp at h13;omega
             obtain ⟨k,hk⟩:∃ k:Nat,min (min ((m:Int)-((zsB q).length:Int)) ((zsB q).length:Int)) (K:Int)=(k:Int):=⟨min (min (m-q) q) K,by rw [hlq];omega⟩
             have hkq:k≤q∧1≤k∧q+k≤m:=by rw [hlq] at hk;omega
             have hlk:(zsB k).length=k:=List.length_replicate
             refine ar (aj (aq (aSR (aM rfl (LF rfl (EC [] [0] rfl (pK b35_0 (.pointer (some ⟨b35_0,0,none⟩)) (some ⟨g,0,none⟩) (zsB q).length c) ?_))))))
             rintro _ _ _ ⟨rfl,rfl,rfl⟩
             refine aST ?_
             refine aU rfl (dp rfl rfl (by omega)) (LF rfl (EC [] [0] rfl (pK b35_0 (.pointer (some ⟨b35_0,0,none⟩)) (some ⟨g,0,none⟩) (zsB q).length c) ?_))
             rintro _ _ _ ⟨rfl,rfl,rfl⟩
             refine aST ?_
             refine aM rfl (aU rfl (adF rfl rfl rfl) (aA rfl (aNn (aa (LF rfl (EC [] [0,1] rfl (uy b35_0 g c (zsB q) hne (by omega)) ?_))))))
             rintro _ _ _ ⟨rfl,rfl,rfl⟩
             refine aST ?_
             refine aM rfl ?_
             refine aU rfl ((oW Tryz.underlying9 rfl rfl (by rw [hk];omega) (by rw [hk];show (k:Int)≤((zsB q).length:Int);omega)).castV (v':=.string (bytesOf (zsB k))) (congrArg Value.string (ab9 hk hkq.1))) ?_
             refine LF rfl (EC [] [0,1] rfl (rI b35_0 g c (zsB q) (zsB k) (by omega)) ?_)
             rintro _ _ _ ⟨rfl,rfl⟩
             refine aST ?_
             refine bj (bp (aj ?_))
             refine ⟨[7,8,9],[],[0,1],rfl,?_⟩
             refine ⟨q+k,⟨⟨by omega,hkq.2.2⟩,?_⟩,by omega⟩
             rw [show zsB (q+k)=zsB q++zsB k from List.replicate_append_replicate.symm]
             rfl
            ·skip
             have hqe:q=m:=by simp at h13;omega
             subst hqe
             refine aT (aW (aW (aY (aj (aSR (LF rfl (EC [] [0,1] rfl (uy b35_0 g c (zsB q) hne (by omega)) ?_)))))))
             rintro _ _ _ ⟨rfl,rfl,rfl⟩
             refine aST ?_
             refine aA rfl (aNn (ax (FZ1 [] Tryz.results100 rfl ?_)))
             exact ⟨rfl,rfl,rfl⟩
theorem uW(m:Nat)(h1:1≤m)(hm:m≤1048576):Con Tryz.prog 100 [.string ⟨#[0]⟩,.int .i64 m] [] [] fun r ps hp=>ps=[]∧hp=[]∧r=.string (bytesOf (zsB m)):=by
 by_cases h:m=1
 · subst h;exact zu
 · exact aaP m (by omega) hm
def xV(x:az):ByteArray:=if x.zero>1048576∨x.zero≤x.bytes.size then x.bytes else x.bytes++bytesOf (zsB (x.zero-x.bytes.size).toNat)
theorem sY(x:az):Con Tryz.prog 41 [x.val] [] [] fun r ps hp=>ps=[]∧hp=[]∧r=.string (xV x):=by
 refine EN1 Tryz.func41 rfl (aSR (LT rfl (cK rfl rfl rfl (fun b0_0=>(aHN ?_)))))
 refine aA rfl (aNs (aSR (UO 4 rfl rfl (UL 0 tk3 rfl rfl rfl rfl (aU rfl (eA rfl rfl) (aM rfl (GO 4 rfl rfl rfl (GL 0 tk3 rfl rfl rfl rfl rfl (GO 5 rfl rfl rfl (GL 0 tk9 rfl rfl rfl rfl rfl (aG rfl rfl (fun hc=>cP Tryz.underlying9 (ae rfl hc)) (aG rfl rfl (fun hc=>ff (ae rfl hc) (ae rfl hc)) (aU rfl (eu rfl rfl (fun h=>gf rfl h)) (aNn ?_))))))))))))))
 refine ao _ rfl (fun h1 => ?_) (fun h1 => ?_)
 ·skip
  have hc:x.zero>1048576∨x.zero≤x.bytes.size:=by rw [Bool.or_eq_true,decide_eq_true_eq,decide_eq_true_eq] at h1;exact h1
  refine aSR (UO 5 rfl rfl (UL 0 tk9 rfl rfl rfl rfl (aA rfl (aNn (ax (bB (FZ1 [] Tryz.results41 rfl ?_)))))))
  exact ⟨rfl,rfl,by unfold xV;rw [if_pos hc]⟩
 ·skip
  have hc:¬ (x.zero>1048576∨x.zero≤x.bytes.size):=by rw [Bool.or_eq_false_iff,decide_eq_false_iff_not,decide_eq_false_iff_not] at h1;rintro (h | h);exact h1.1 h;exact h1.2 h
  obtain ⟨k,hk⟩:∃ k:Nat,x.zero-(x.bytes.size:Int)=(k:Int):=⟨(x.zero-(x.bytes.size:Int)).toNat,by omega⟩
  refine ar (aj (ah (DR [] 11 (VO 0 5 rfl rfl rfl (VL 1 0 tk9 rfl rfl rfl rfl rfl (VO 2 4 rfl rfl rfl (VL 3 0 tk3 rfl rfl rfl rfl rfl (VO 4 5 rfl rfl rfl (VL 5 0 tk9 rfl rfl rfl rfl rfl (bV 6 rfl rfl (cP Tryz.underlying9 rfl) (bV 7 rfl rfl (dp rfl rfl (by omega)) ?_)))))))))))
  refine bV 8 rfl rfl (QC rfl (fun w S fp hst=>(show Calls Tryz.prog 100 #[.string ⟨#[0]⟩,.int .i64 (x.zero-(x.bytes.size:Int))] w _ from by rw [hk];exact ((uW k (by omega) (by omega)).post (fun _ _ _ h=>h.2.2)).quiet0 hst))) ?_
  refine bV 9 rfl rfl (kE rfl rfl (by have:(bytesOf (zsB k)).size=k:=List.length_replicate;omega)) ?_
  refine bV 10 rfl rfl (bE rfl) (BN (aj (ax (FZ1 [] Tryz.results41 rfl ?_))))
  exact ⟨rfl,rfl,by unfold xV;rw [if_neg hc,hk];rfl⟩
end Go.Proofs.YtfkcmbonmpcbfaaGreat

namespace Go.Proofs.YtfkcmbonmpcbfaaGreat
open Go.RowKit Go.Lp Go.Sy Go.Lv
open Go.Proofs.Tryz
end Go.Proofs.YtfkcmbonmpcbfaaGreat

namespace Go.Sy
open Go.RowKit Go.Lp
theorem xH{w w':World}{g j:Nat}(h:w'.heap[g]? = w.heap[g]?):w'.cell? ⟨g,j,none⟩=w.cell? ⟨g,j,none⟩∧w'.frozen? ⟨g,j,none⟩=w.frozen? ⟨g,j,none⟩:=by
 constructor
 · unfold World.cell?;dsimp only;rw [h]
 · unfold World.frozen?;dsimp only;rw [h]
def ByV (v:Value) (m:Nat):Res :=
 ⟨fun w _ F=>∃ g c,v=.slice (some ⟨g,0,none⟩) m c∧m≤c∧c≤maxLen∧(∀ j,j<c→(∃ u:UInt8,w.cell? ⟨g,j,none⟩=some (.int .u8 u.toNat))∧w.frozen? ⟨g,j,none⟩=false)∧∀ k,F k↔k=g,
  fun ⟨g,c,hv,h1,h2,h,hF⟩ hk _ _=>⟨g,c,hv,h1,h2,fun j hj=>by
    have e:=xH (j:=j) (hk g ((hF g).2 rfl))
    rw [e.1,e.2];exact h j hj,hF⟩⟩
theorem ByV.setCell{w:World}{S F:bO}{v:Value}{m g c k:Nat}{u:UInt8}(hv:v=.slice (some ⟨g,0,none⟩) m c)(h1:m≤c)(h2:c≤maxLen)(h:∀ j,j<c→(∃ u:UInt8,w.cell? ⟨g,j,none⟩=some (.int .u8 u.toNat))∧w.frozen? ⟨g,j,none⟩=false)(hF:∀ b,F b↔b=g)(hk:k<c)(m':Nat)(hm':m'≤c) :
   (ByV (.slice (some ⟨g,0,none⟩) m' c) m').holds (w.setCells g k [.int .u8 u.toNat]) S F:=by
 refine ⟨g,c,rfl,hm',h2,fun j hj=>⟨?_,by rw [World.frozen?_setCells];exact (h j hj).2⟩,hF⟩
 by_cases hjk:j=k
 · subst hjk
   refine ⟨u,?_⟩
   have:=World.cell?_setCells_in g [.int .u8 u.toNat] j w (fun i hi=>by
     have hi0:i=0:=by simpa using hi
     subst hi0
     obtain ⟨⟨u',hu⟩,_⟩:=h j hj
     rw [Nat.add_zero,hu];rfl) 0 (by simp)
   simpa using this
 · obtain ⟨⟨u',hu⟩,_⟩:=h j hj
   refine ⟨u',?_⟩
   rw [World.cell?_setCells_out g _ k w _ (fun _ _=>by simp only [List.length_singleton];omega)]
   exact hu
theorem ec(b:Nat):∀ (vs:List Value) (o:Nat) (w:World),(w.setCells b o vs).drawn=w.drawn∧(w.setCells b o vs).tape=w.tape∧(w.setCells b o vs).heap.size=w.heap.size
 | [],_,_=>⟨rfl,rfl,rfl⟩
 | v::vs,o,w=>by
   obtain ⟨h1,h2,h3⟩:=ec b vs (o+1) (w.setCell ⟨b,o,none⟩ v)
   exact ⟨h1,h2,h3.trans (by simp [World.setCell])⟩
def ByF(v:Value)(m:Nat):Per :=
 ⟨fun w S=>∃ g c,v=.slice (some ⟨g,0,none⟩) m c∧S g∧∀ j,j<m→∃ u:UInt8,w.cell? ⟨g,j,none⟩=some (.int .u8 u.toNat),
  fun ⟨g,c,hv,hg,h⟩ hw hS=>⟨g,c,hv,hS g hg,fun j hj=>by rw [(xH (j:=j) (hw g hg)).1];exact h j hj⟩⟩
theorem vZ{P:Program}{n:Fr}{c:Code}{Q:Exit→Sta→Prop}{env:Env}{ps:List Per}{hp:List Res}{v:Value}{m:Nat}(i:Nat)(hi:hp[i]? = some (ByV v m))(h:awp P n c Q ⟨env,ByF v m::ps,hp.set i emp⟩):awp P n c Q ⟨env,ps,hp⟩ :=
 jQ i (ByF v m) hi (fun w S F ⟨g,c,hv,h1,h2,hB,hF⟩=>⟨g,c,hv,.inr ((hF g).2 rfl),fun j hj=>(hB j (by omega)).1⟩) h
section
variable {P:Program} {n:Fr} {env:Env} {ps:List Per} {hp:List Res} {d:Option Tmp} {ty:TypeId} {pos:String} {af:Array Edge} {gd:Option (Nat × Bool)} {K:Sta→Prop} {q:Bool} {v:Value}
theorem uX{t:Nat}{S T E:TypeId}{u:TypeDesc}{x:Operand}{b:ByteArray}(hS:P.underlying S=some u)(hT:P.underlying T=some (.slice E))(hE:P.underlying E=some (.int .u8))(hb:b.size≤1000000000)(hx:ev env x=some (true,.string b))(ht:fits n.size (some t)=true)
   (hK:∀ v,K ⟨(t,true,v)::env,ps,hp++[ByV v b.size]⟩):Eff P n ⟨some t,.convert S T x,ty,pos,af,gd⟩ ⟨env,ps,hp⟩ q K:=.push fun w S' fp a hst he hn=>by
 have e1:=he.val hx rfl
 have hrun:=Lib.run_convert_string_bytes (P:=P) w S T E b hS hT hE
 have hexec:(execOp a.eval ⟨some t,.convert S T x,ty,pos,af,gd⟩).run P w=.ok (.value (.slice (some ⟨w.heap.size,0,none⟩) b.size (grownCap w b.size 0 E))) (Lib.bytesWorld w E b):=by
   unfold execOp;dsimp only;rw [e1]
   show ((convert S T (.string b)).bind fun r=>Sem.pure (Next.value r)).run P w=_
   rw [Sem.run_bind',hrun];rfl
 rw [hexec]
 have hsz:=Lib.bytesWorld_size w E b
 have hcap:b.size≤grownCap w b.size 0 E:=grownCap_ge w b.size 0 E
 have hcs:(Lib.bytesCells w E b).size=grownCap w b.size 0 E:=by
   unfold Lib.bytesCells
   simp
   show b.size+_=_
   omega
 have hnew:=Lib.bytesWorld_at_new w E b
 refine ⟨ByV _ b.size,(fun k=>k=w.heap.size),_,hK _,rfl,rfl,he.put (g:=true) (by rw [hn];simpa [fits] using ht) _,?_,⟨w.heap.size,_,rfl,hcap,grownCap_le_maxLen w b.size 0 E (by unfold maxLen;omega),fun j hj=>⟨?_,?_⟩,fun _=>Iff.rfl⟩,fun k hk=>by subst hk;rw [hsz];omega⟩
 · exact ⟨by unfold Lib.bytesWorld World.freeze;split<;>rfl,by unfold Lib.bytesWorld World.freeze;split<;>rfl,by unfold Lib.bytesWorld World.freeze;split<;>rfl,by omega,by
     have:(Lib.bytesWorld w E b).drawn=w.drawn+1:=by unfold Lib.bytesWorld World.freeze;split<;>rfl
     omega,fun k hk=>Lib.bytesWorld_at_old w E b k hk⟩
 · unfold World.cell?
   rw [hnew]
   dsimp only
   unfold Lib.bytesCells
   rw [Array.getElem?_append]
   by_cases h:j<b.size
   · refine ⟨b.data.toList.getD j 0,?_⟩
     have hb:j<b.data.size:=h
     simp [h,hb,List.getD]
   · refine ⟨0,?_⟩
     have hb:¬ j<b.data.size:=h
     have hb2:b.data.size=b.size:=rfl
     simp [h,hb,Array.getElem?_replicate]
     omega
 · unfold World.frozen?
   rw [hnew]
   dsimp only
   rw [hcs]
   simp
   omega
theorem tw{x:Operand}{T E:TypeId}{m:Nat}(i:Nat)(hT:P.underlying T=some (.slice E))(hx:ev env x=some (true,v))(hi:hp[i]? = some (ByV v m)):Quiet P n ⟨d,.call ⟨.builtin .len,#[x],#[T]⟩,ty,pos,af,gd⟩ ⟨env,ps,hp⟩ (.int .i64 m):=fun w S fp a hst he hn=>by
 obtain ⟨g,c,rfl,_⟩:=hst.res i _ hi
 exact aZ (P:=P) (n:=n) (s:=⟨env,ps,hp⟩) hT hx w S fp a hst he hn
theorem adD{x:Operand}{T E:TypeId}{m:Nat}(hi:ByF v m∈ps)(hT:P.underlying T=some (.slice E))(hx:ev env x=some (true,v)):Quiet P n ⟨d,.call ⟨.builtin .len,#[x],#[T]⟩,ty,pos,af,gd⟩ ⟨env,ps,hp⟩ (.int .i64 m):=fun w S fp a hst he hn=>by
 obtain ⟨g,c,rfl,_⟩:=hst.per _ hi
 exact aZ (P:=P) (n:=n) (s:=⟨env,ps,hp⟩) hT hx w S fp a hst he hn
theorem yg{x y:Operand}{T E:TypeId}{m:Nat}(i k:Nat)(hel:elB P T E 1=true)(hx:ev env x=some (true,v))(hi:hp[i]? = some (ByV v m)){z:Int}(hy:ev env y=some (true,.int .i64 z))(hz:z=(k:Int))(hk:k<m) :
   Quiet P n ⟨d,.indexAddr T x y,ty,pos,af,gd⟩ ⟨env,ps,hp⟩ (.pointer (some ⟨ki v,k,none⟩)):=fun w S fp a hst he hn=>by
 subst hz
 obtain ⟨hT,it,hit,_,hsz,_⟩:=dT hel
 have h1:=he.val hx rfl
 have h2:=he.val hy rfl
 obtain ⟨g,c,rfl,_⟩:=hst.res i _ hi
 have:(execOp a.eval ⟨d,.indexAddr T x y,ty,pos,af,gd⟩).run P w=.ok (.value (.pointer (some ⟨g,k,none⟩))) w:=by
   unfold execOp;dsimp only;rw [h1,h2]
   show ((Instr.indexAt T (.slice (some ⟨g,0,none⟩) m c) (.int .i64 k)).bind fun r=>Sem.pure (Next.value r)).run P w=_
   have hE:P.elem T=E:=by unfold Program.elem;rw [hT]
   rw [Sem.run_bind',run_indexAt_slice _ _ _ _ _ _ _ (by rw [hE];exact hT),if_pos (by omega),hE,dG hit,hsz]
   simp only [Result.andThen,Int.toNat_natCast]
   unfold Addr.add
   split
   · rename_i h0;simp at h0;subst h0;rfl
   · simp only [Nat.zero_add,Nat.mul_one];rfl
 rw [this];exact cx _ _
theorem abF{x:Operand}{U:TypeId}{k m:Nat}(i:Nat)(hk:tyk P U=some (false,1))(hx:ev env x=some (true,.pointer (some ⟨ki v,k,none⟩)))(hi:hp[i]? = some (ByV v m))(hkm:k<m) :
   jJ P n ⟨d,.load U x,ty,pos,af,gd⟩ ⟨env,ps,hp⟩ (fun u:UInt8=>.int .u8 u.toNat) (fun _=>[Fa True]):=fun w S fp a hst he hn=>by
 have h1:=he.val hx rfl
 obtain ⟨g,c,rfl,hmc,hcm,hB,hF⟩:=hst.res i _ hi
 obtain ⟨⟨u,hu⟩,_⟩:=hB k (by omega)
 have hg:g<w.heap.size:=(hst.lt i (List.getElem?_eq_some_iff.1 hi).1 g ((hF g).2 rfl)).1
 refine ⟨u,fun w1 hw1 => ?_,fun p hp=>by rw [List.mem_singleton.1 hp];trivial⟩
 have hu1:w1.cell? ⟨g,k,none⟩=some (.int .u8 u.toNat):=by rw [(xH (hw1.block g hg)).1];exact hu
 have:(execOp a.eval ⟨d,.load U x,ty,pos,af,gd⟩).run P w1=.ok (.value (.int .u8 u.toNat)) w1:=by
   unfold execOp;dsimp only;rw [h1]
   have hr:=ly (P:=P) (w:=w1) (T:=U) hk (b:=g) (o:=0) (cs:=[.int .u8 u.toNat]) (v:=.int .u8 u.toNat) rfl (p:=k) (fun j y hj=>by
     cases j with
     | zero=>simp at hj;subst hj;exact hu1
     | succ j=>simp at hj)
   show ((loadVar U ⟨g,k,none⟩).bind fun r=>Sem.pure (Next.value r)).run P w1=_
   rw [Sem.run_bind']
   rw [show k=k+0 by omega,hr];rfl
 rw [this];exact cx _ _
theorem adC{x y:Operand}{T E:TypeId}{m:Nat}(k:Nat)(hi:ByF v m∈ps)(hel:elB P T E 1=true)(hx:ev env x=some (true,v)){z:Int}(hy:ev env y=some (true,.int .i64 z))(hz:z=(k:Int))(hk:k<m) :
   Quiet P n ⟨d,.indexAddr T x y,ty,pos,af,gd⟩ ⟨env,ps,hp⟩ (.pointer (some ⟨ki v,k,none⟩)):=fun w S fp a hst he hn=>by
 subst hz
 obtain ⟨hT,it,hit,_,hsz,_⟩:=dT hel
 have h1:=he.val hx rfl
 have h2:=he.val hy rfl
 obtain ⟨g,c,rfl,_⟩:=hst.per _ hi
 have:(execOp a.eval ⟨d,.indexAddr T x y,ty,pos,af,gd⟩).run P w=.ok (.value (.pointer (some ⟨g,k,none⟩))) w:=by
   unfold execOp;dsimp only;rw [h1,h2]
   show ((Instr.indexAt T (.slice (some ⟨g,0,none⟩) m c) (.int .i64 k)).bind fun r=>Sem.pure (Next.value r)).run P w=_
   have hE:P.elem T=E:=by unfold Program.elem;rw [hT]
   rw [Sem.run_bind',run_indexAt_slice _ _ _ _ _ _ _ (by rw [hE];exact hT),if_pos (by omega),hE,dG hit,hsz]
   simp only [Result.andThen,Int.toNat_natCast]
   unfold Addr.add
   split
   · rename_i h0;simp at h0;subst h0;rfl
   · simp only [Nat.zero_add,Nat.mul_one];rfl
 rw [this];exact cx _ _
theorem acK{x:Operand}{U:TypeId}{k m:Nat}(hi:ByF v m∈ps)(hk:tyk P U=some (false,1))(hx:ev env x=some (true,.pointer (some ⟨ki v,k,none⟩)))(hkm:k<m) :
   jJ P n ⟨d,.load U x,ty,pos,af,gd⟩ ⟨env,ps,hp⟩ (fun u:UInt8=>.int .u8 u.toNat) (fun _=>[Fa True]):=fun w S fp a hst he hn=>by
 have h1:=he.val hx rfl
 obtain ⟨g,c,rfl,hS,hB⟩:=hst.per _ hi
 obtain ⟨u,hu⟩:=hB k hkm
 have hg:g<w.heap.size:=hst.slt g hS
 refine ⟨u,fun w1 hw1 => ?_,fun p hp=>by rw [List.mem_singleton.1 hp];trivial⟩
 have hu1:w1.cell? ⟨g,k,none⟩=some (.int .u8 u.toNat):=by rw [(xH (hw1.block g hg)).1];exact hu
 have:(execOp a.eval ⟨d,.load U x,ty,pos,af,gd⟩).run P w1=.ok (.value (.int .u8 u.toNat)) w1:=by
   unfold execOp;dsimp only;rw [h1]
   have hr:=ly (P:=P) (w:=w1) (T:=U) hk (b:=g) (o:=0) (cs:=[.int .u8 u.toNat]) (v:=.int .u8 u.toNat) rfl (p:=k) (fun j y hj=>by
     cases j with
     | zero=>simp at hj;subst hj;exact hu1
     | succ j=>simp at hj)
   show ((loadVar U ⟨g,k,none⟩).bind fun r=>Sem.pure (Next.value r)).run P w1=_
   rw [Sem.run_bind']
   rw [show k=k+0 by omega,hr];rfl
 rw [this];exact cx _ _
theorem aaY{x y:Operand}{U:TypeId}{k m:Nat}{u:UInt8}(i:Nat)(hk:tyk P U=some (false,1))(hx:ev env x=some (true,.pointer (some ⟨ki v,k,none⟩)))(hy:ev env y=some (true,.int .u8 u.toNat))(hi:hp[i]? = some (ByV v m))(hkm:k<m)(hK:K ⟨env,ps,hp⟩) :
   Eff P n ⟨none,.store U x y,ty,pos,af,gd⟩ ⟨env,ps,hp⟩ false K:=.change i hi fun w S fp a hst he hn hR=>by
 have e1:=he.val hx rfl
 have e2:=he.val hy rfl
 obtain ⟨_,it,_,hit,_,hjk⟩:=iI hk
 obtain ⟨g,c,rfl,hmc,hcm,hB,hF⟩:=hR
 obtain ⟨⟨u',hu⟩,hfz⟩:=hB k (by omega)
 have:(execOp a.eval ⟨none,.store U x y,ty,pos,af,gd⟩).run P w=.ok .skip (w.setCells g k [.int .u8 u.toNat]):=by
   show ((Instr.storeAt U (a.eval x) (a.eval y)).bind fun _=>Sem.pure Next.skip).run P w=_
   rw [e1,e2,Sem.run_bind']
   have:(Instr.storeAt U (.pointer (some ⟨g,k,none⟩)) (.int .u8 u.toNat)).run P w=.ok () (w.setCells g k [.int .u8 u.toNat]):=by
     show (storeVar U ⟨g,k,none⟩ (.int .u8 u.toNat)).run P w=_
     unfold storeVar
     simp only [Sem.run_bind,dG hit,Result.andThen]
     rw [if_neg (by rw [hjk];exact fun h=>h rfl)]
     show (storeCells ⟨g,k,none⟩ [.int .u8 u.toNat] 0).run P w=_
     have ha:(⟨g,k,none⟩:Addr).add 0=⟨g,k,none⟩:=by unfold Addr.add;simp
     simp only [storeCells,Sem.run_bind,ha]
     rw [run_store P w _ _ _ rfl,hu]
     simp only [hfz]
     rfl
   show (Result.andThen ((Instr.storeAt U (.pointer (some ⟨g,k,none⟩)) (.int .u8 u.toNat)).run P w) _)=_
   rw [this];rfl
 rw [this]
 refine ⟨ByV _ m,⟨env,ps,hp⟩,hK,rfl,?_,he,ByV.setCell rfl hmc hcm hB hF (by omega) m hmc,World.os_setCells _ _ _ _,(ec _ _ _ _).2.1,⟨World.output_setCells _ _ _ _,(ec _ _ _ _).1⟩,Nat.le_of_eq (ec _ _ _ _).2.2.symm,fun b hb hne=>World.heap_setCells_other _ _ _ _ hb (fun h=>hne ((hF b).2 h))⟩
 apply List.ext_getElem?
 intro j
 rw [List.getElem?_set]
 by_cases hj:i=j
 · subst hj;rw [if_pos rfl,if_pos (List.getElem?_eq_some_iff.1 hi).1];exact hi
 · rw [if_neg hj]
theorem rR{t:Nat}{x y:Operand}{T tx E:TypeId}{m:Nat}{vy:Value}{u:UInt8}(i j:Nat)(hel:elB P T E 1=true)(hel2:elB P tx E 1=true)(hby:(P.info? E).map (fun i=>(i.zero.map fun z=>z.cells.toList))=some (some [.int .u8 0]))
   (hx:ev env x=some (true,v)) (hy:ev env y=some (true,vy)) (ht:fits n.size (some t)=true) (hi:hp[i]? = some (ByV v m)) (hj:hp[j]? = some (aO vy E 1 [[.v (.int .u8 u.toNat)]])) (hm:m≤100000000)
   (hK:∀ v',K ⟨(t,true,v')::env,ps,hp.set i (ByV v' (m+1))⟩) :
   Eff P n ⟨some t,.call ⟨.builtin .append,#[x,y],#[T,tx]⟩,ty,pos,af,gd⟩ ⟨env,ps,hp⟩ false K:=fun w S fp a hst he hn=>by
 have e1:=he.val hx rfl
 have e2:=he.val hy rfl
 have hil:=(List.getElem?_eq_some_iff.1 hi).1
 obtain ⟨hT,it,hin,hzz,hsz,hb4⟩:=dT hel
 obtain ⟨news,hnews,hsrc⟩:=(cY (P:=P) (env:=env) (ps:=ps) (hp:=hp) j hel2 hj (by simp)).src w S fp hst
 have hnl:=hnews.len
 have hn1:news=[.int .u8 u.toNat]:=by
   obtain ⟨y0,hy0,hr⟩:=hnews.rep 0 0 _ (.v (.int .u8 u.toNat)) rfl rfl
   rw [ny hr] at hy0
   match news,hnl,hy0 with
   | [a],_,h=>simp at h;rw [h]
 subst hn1
 obtain ⟨g,c,rfl,hmc,hcm,hB,hF⟩:=hst.res i _ hi
 have hexec:execOp a.eval ⟨some t,.call ⟨.builtin .append,#[x,y],#[T,tx]⟩,ty,pos,af,gd⟩=(Builtin.append_ #[T,tx] ty (#[x,y].map a.eval)).bind fun r=>Sem.pure (Next.value r):=rfl
 have hargs : #[x,y].map a.eval = #[.slice (some ⟨g,0,none⟩) m c,vy]:=by simp [e1,e2]
 rw [hexec,hargs,Sem.run_bind']
 have fin:∀ (w1:World) (v':Value) (F:bO),(Builtin.append_ #[T,tx] ty #[.slice (some ⟨g,0,none⟩) m c,vy]).run P w=.ok v' w1→(ByV v' (m+1)).holds w1 S F→(∀ b,F b→(fp i b∨w.heap.size≤b)∧b<w1.heap.size)→w.heap.size≤w1.heap.size →
     (∀ b',b'<w.heap.size→¬ fp i b'→w1.heap[b']? = w.heap[b']?)→w1.os=w.os→w1.tape=w.tape→w1.output=w.output →
     gC P (fun u w'=>∃ s' S' fp',K s'∧St w' S' fp' s'.ps s'.hp∧dE (a.put (some t) u) s'.env∧Evo w S (tot fp hp.length) w' S'∧(∀ b,tot fp' s'.hp.length b→tot fp hp.length b∨w.heap.size≤b)∧(false=true→Below w.heap.size w w'))
       (((Builtin.append_ #[T,tx] ty #[.slice (some ⟨g,0,none⟩) m c,vy]).run P w).andThen fun r w'=>(Sem.pure (Next.value r)).run P w'):=by
   intro w1 v' F hrun hR hFb hsz1 hw1 o1 o2 o3
   rw [hrun]
   have hst':=hst.change2 hil hsz1 hw1 _ F hR hFb
   refine ⟨_,S,_,hK v',hst',he.put (g:=true) (by rw [hn];simpa [fits] using ht) _,⟨o1,o2,o3,hsz1,nz _ _ _ _ hrun,fun b' hb' hx'=>hw1 b' hb' (fun hf=>hx' ⟨i,hil,hf⟩),fun _ h=>h,fun _ h=>.inl h⟩,fun b' ⟨k,hk,hbk⟩ => ?_,fun h=>by cases h⟩
   have hk':k<hp.length:=by simpa using hk
   dsimp only at hbk
   by_cases hki:k=i
   · rw [if_pos hki] at hbk
     exact ((hFb b' hbk).1).imp (fun h=>⟨i,hil,h⟩) id
   · rw [if_neg hki] at hbk;exact .inl ⟨k,hk',hbk⟩
 by_cases hroom:m+1≤c
 · obtain ⟨⟨u',hu⟩,hfz⟩:=hB m (by omega)
   have hstc:(storeCells ⟨g,m,none⟩ [.int .u8 u.toNat] 0).run P w=.ok () (w.setCells g m [.int .u8 u.toNat]):=by
     have ha:(⟨g,m,none⟩:Addr).add 0=⟨g,m,none⟩:=by unfold Addr.add;simp
     simp only [storeCells,Sem.run_bind,ha]
     rw [run_store P w _ _ _ rfl,hu]
     simp only [hfz]
     rfl
   have hrun:(Builtin.append_ #[T,tx] ty #[.slice (some ⟨g,0,none⟩) m c,vy]).run P w=.ok (.slice (some ⟨g,0,none⟩) (m+1) c) (w.setCells g m [.int .u8 u.toNat]):=by
     have hs1:it.size=1:=hsz
     have hl:=hsrc.len
     have hcl:=hsrc.cells
     simp only [List.length_cons,List.length_nil,Nat.zero_add] at hl hcl
     rcases hsrc.kind with ⟨e',hk⟩ | hk<;>simp [Builtin.append_,run_underlying hT,run_underlying hk,sizeOf,typeInfo,hin,hs1,hl,hroom,hcl,Addr.add_lit,hstc]
   exact fin _ _ (fun k=>k=g) hrun (ByV.setCell rfl hmc hcm hB (fun _=>Iff.rfl) (by omega) (m+1) hroom) (fun b hb=>by subst hb;exact ⟨.inl ((hF b).2 rfl),by rw [(ec _ _ _ _).2.2];exact (hst.lt i hil b ((hF b).2 rfl)).1⟩) (Nat.le_of_eq (ec _ _ _ _).2.2.symm)
     (fun b hb hne=>World.heap_setCells_other _ _ _ _ hb (fun h=>hne ((hF b).2 h))) (World.os_setCells _ _ _ _) (ec _ _ _ _).2.1 (World.output_setCells _ _ _ _)
 · obtain ⟨f,hf⟩:=Classical.skolem.1 (fun j:Nat=>show ∃ u:UInt8,j<c→w.cell? ⟨g,j,none⟩=some (.int .u8 u.toNat) from by
     by_cases h:j<c
     · obtain ⟨⟨u,hu⟩,_⟩:=hB j h;exact ⟨u,fun _=>hu⟩
     · exact ⟨0,fun h2=>absurd h2 h⟩)
   obtain ⟨z,hz,hzc⟩:∃ z,it.zero=some z∧z.cells.toList=[.int .u8 0]:=by
     rw [hin] at hby
     cases hz:it.zero with
     | none=>rw [Option.map_some,hz] at hby;simp at hby
     | some z=>rw [Option.map_some,hz] at hby;exact ⟨z,rfl,by simpa using hby⟩
   have hzs:z.cells.size=it.size:=by rw [hsz];have:=congrArg List.length hzc;simpa using this
   have hfc:(Builtin.firstCells it.size m (.slice (some ⟨g,0,none⟩) m c)).run P w.drew=.ok ((List.range m).map fun j=>Value.int .u8 (f j).toNat).toArray w.drew:=by
     refine run_firstCells_some (P:=P) w.drew it.size m ⟨g,0,none⟩ m c _ (by simp [hsz]) (fun j y hj => ?_)
     have hjl:=(List.getElem?_eq_some_iff.1 hj).1
     rw [List.length_map,List.length_range] at hjl
     rw [List.getElem?_map,List.getElem?_range hjl] at hj
     simp only [Option.map_some,Option.some.injEq] at hj
     subst hj
     have:(⟨g,0,none⟩:Addr).add j=⟨g,j,none⟩:=by
       unfold Addr.add
       by_cases h:j=0
       · subst h;simp
       · simp [h]
     rw [this]
     exact hf j (by omega)
   have hbytes:Builtin.nextslicecap (m+1) c*it.bytes≤281474976710656:=by
     have h1:=Go.Lp.nextslicecap_le (m+1) c
     have h2:Builtin.nextslicecap (m+1) c*it.bytes≤5000000000*4096:=Nat.mul_le_mul (by omega) hb4
     omega
   rw [← hsz] at hsrc
   have hr:=run_append_grow_src (P:=P) (w:=w) T tx ty E it z hT hin hz (some ⟨g,0,none⟩) m c _ hfc vy 1 _ hsrc (by omega) (by omega) hbytes
   have hC:=grownCap_ge w (m+1) c E
   refine fin _ _ (fun k=>k=w.heap.size) hr ⟨w.heap.size,_,rfl,hC,grownCap_le_maxLen w (m+1) c E (by unfold maxLen;omega),fun j hj => ?_,fun _=>Iff.rfl⟩ (fun b hb=>by subst hb;exact ⟨.inr (Nat.le_refl _),by simp⟩) (by simp) (fun b' hb' _=>((Below.refl _ w).drew.alloc (Nat.le_refl _) _).block b' hb') rfl rfl rfl
   have hz1:z.cells = #[.int .u8 0]:=Array.ext' hzc
   have hnew:=heap_alloc_new w.drew (.cells ((((List.range m).map fun j=>Value.int .u8 (f j).toNat)++[Value.int .u8 u.toNat]).toArray++Builtin.zeroCells z.cells (grownCap w (m+1) c E-(m+1))) E)
   have hnew2:(w.drew.alloc (.cells ((((List.range m).map fun j=>Value.int .u8 (f j).toNat)++[Value.int .u8 u.toNat]).toArray++Builtin.zeroCells z.cells (grownCap w (m+1) c E-(m+1))) E)).heap[w.heap.size]? = _:=hnew
   refine ⟨?_,by unfold World.frozen?;dsimp only;rw [hnew2];simp⟩
   unfold World.cell?
   dsimp only
   rw [hnew2]
   dsimp only
   rw [hz1]
   by_cases hjm:j<m
   · exact ⟨f j,by simp [Array.getElem?_append,List.getElem?_append,hjm,Nat.lt_succ_of_lt hjm]⟩
   · by_cases hje:j=m
     · subst hje;exact ⟨u,by simp [Array.getElem?_append,List.getElem?_append]⟩
     · refine ⟨0,?_⟩
       have h1:¬ j<m+1:=by omega
       simp [Array.getElem?_append,h1,Builtin.zeroCells]
       exact ⟨j-(m+1),by rw [Array.getElem?_range,if_pos (by omega)],by rw [Nat.mod_one];rfl⟩
end
end Go.Sy

namespace Go.Proofs.YtfkcmbonmpcbfaaGreat
open Go.RowKit Go.Lp Go.Sy
open Go.Proofs.Tryz
attribute [local irreducible] aL aB awp aC fwp Quiet
abbrev gB:Int→List D:=fun z=>[.v (.int .u64 z)]
abbrev vL:Int→Value:=fun z=>.int .u64 z
theorem p5(x n:Int)(hn:0≤n∧n≤64):Con Tryz.prog 284 [.int .u64 x,.int .u64 n] [] [] (YN vL fun _=>True):=by
 refine EN2 Tryz.func284 rfl (aSR (aA rfl (aNs (aSR (aM rfl (aU rfl (cJ rfl rfl) (aNn ?_)))))))
 refine ao _ rfl (fun h1 => ?_) (fun h1 => ?_)
 ·skip
  refine aSR (aM rfl (aA rfl (aNn (ax (bB (FZ1 [] Tryz.results284 rfl ?_))))))
  exact ⟨⟨rfl,rfl⟩,_,rfl,trivial⟩
 ·skip
  refine ar (aj (aSR (aM rfl (aM rfl ?_))))
  refine aU rfl (yl rfl rfl (by exact hn.1)) ?_
  refine aM rfl (aM rfl (aU rfl (ym rfl rfl) ?_))
  refine aU rfl (abH rfl rfl (by rw [IntKind.wrap_u64];omega)) ?_
  refine aU rfl (yj rfl rfl) (aA rfl (aNn (ax (FZ1 [] Tryz.results284 rfl ?_))))
  exact ⟨⟨rfl,rfl⟩,_,rfl,trivial⟩
def tnL:List Int:=[0,1,62,28,27,36,44,6,55,20,3,10,43,25,39,41,45,15,21,8,18,2,61,56,14]
theorem wI(k:Nat)(hk:k<25):Con Tryz.prog 285 [.int .i64 k] [] [] (YN vL fun z=>0≤z∧z≤64):=by
 have hb:∀ z∈tnL,0≤z∧z≤64:=by decide
 obtain ⟨z,hz⟩:∃ z,tnL[k]? = some z:=⟨_,List.getElem?_eq_getElem hk⟩
 have hzb:=hb z (List.mem_of_getElem? hz)
 have hr:(tnL.map gB)[k]? = some (gB z):=aK hz
 refine EN1 Tryz.func285 rfl (aSR (aA rfl (aNn (aSR (LT rfl (WL (zs:=[.int .u64 0]) el300 rfl rfl rfl (.more rfl (.v rfl .nil) (.more rfl (.v rfl .nil) (.more rfl (.v rfl .nil) (.more rfl (.v rfl .nil) (.more rfl (.v rfl .nil) (.more rfl (.v rfl .nil) (.more rfl (.v rfl .nil) (.more rfl (.v rfl .nil) (.more rfl (.v rfl .nil) (.more rfl (.v rfl .nil) (.more rfl (.v rfl .nil) (.more rfl (.v rfl .nil) (.more rfl (.v rfl .nil) (.more rfl (.v rfl .nil) (.more rfl (.v rfl .nil) (.more rfl (.v rfl .nil) (.more rfl (.v rfl .nil) (.more rfl (.v rfl .nil) (.more rfl (.v rfl .nil) (.more rfl (.v rfl .nil) (.more rfl (.v rfl .nil) (.more rfl (.v rfl .nil) (.more rfl (.v rfl .nil) (.more rfl (.v rfl .nil) (.more rfl (.v rfl .nil) .nil))))))))))))))))))))))))) rfl rfl (fun v1_0=>(aHN ?_))))))))
 refine aA rfl (aNn (aSR (aM rfl (aM rfl (aU rfl (cr 0 k el300 rfl rfl rfl rfl hk) (aU rfl (bN 0 k 0 tk301 rfl rfl hr rfl rfl) (aA rfl (aNn (ax (FZ1 [] Tryz.results285 rfl ?_))))))))))
 exact ⟨⟨rfl,rfl⟩,z,rfl,hzb⟩
def csL:List Int:=[1,32898,9223372036854808714,9223372039002292224,32907,2147483649,9223372039002292353,9223372036854808585,138,136,2147516425,2147483658,2147516555,9223372036854775947,9223372036854808713,9223372036854808579,9223372036854808578,9223372036854775936,32778,9223372039002259466,9223372039002292353,9223372036854808704,2147483649,9223372039002292232]
theorem uM(k:Nat)(hk:k<24):Con Tryz.prog 209 [.int .i64 k] [] [] (YN vL fun _=>True):=by
 obtain ⟨z,hz⟩:∃ z,csL[k]? = some z:=⟨_,List.getElem?_eq_getElem hk⟩
 have hr:(csL.map gB)[k]? = some (gB z):=aK hz
 refine EN1 Tryz.func209 rfl (aSR (aA rfl (aNn (aSR (LT rfl (WL (zs:=[.int .u64 0]) el300 rfl rfl rfl (.more rfl (.v rfl .nil) (.more rfl (.v rfl .nil) (.more rfl (.v rfl .nil) (.more rfl (.v rfl .nil) (.more rfl (.v rfl .nil) (.more rfl (.v rfl .nil) (.more rfl (.v rfl .nil) (.more rfl (.v rfl .nil) (.more rfl (.v rfl .nil) (.more rfl (.v rfl .nil) (.more rfl (.v rfl .nil) (.more rfl (.v rfl .nil) (.more rfl (.v rfl .nil) (.more rfl (.v rfl .nil) (.more rfl (.v rfl .nil) (.more rfl (.v rfl .nil) (.more rfl (.v rfl .nil) (.more rfl (.v rfl .nil) (.more rfl (.v rfl .nil) (.more rfl (.v rfl .nil) (.more rfl (.v rfl .nil) (.more rfl (.v rfl .nil) (.more rfl (.v rfl .nil) (.more rfl (.v rfl .nil) .nil)))))))))))))))))))))))) rfl rfl (fun v1_0=>(aHN ?_))))))))
 refine aA rfl (aNn (aSR (aM rfl (aM rfl (aU rfl (cr 0 k el300 rfl rfl rfl rfl hk) (aU rfl (bN 0 k 0 tk301 rfl rfl hr rfl rfl) (aA rfl (aNn (ax (FZ1 [] Tryz.results209 rfl ?_))))))))))
 exact ⟨⟨rfl,rfl⟩,z,rfl,trivial⟩
theorem wH(v:Value)(m a:Nat)(ha:a+8≤m)(hm:m≤1000000000):Con Tryz.prog 207 [v,.int .i64 a] [ByF v m] [] (YN vL fun _=>True):=by
 refine EN2 Tryz.func207 rfl (aSR (aA rfl (aNn (aSR (aA rfl (aNs (aSR (aA rfl (aNn (aq (aQ [0,1,5,6] [0] [] (fun (q:Nat) st=>q≤8∧∃ z,st=⟨[(0,true,v),(1,true,.int .i64 a),(5,true,.int .u64 z),(6,true,.int .i64 ((q:Int)-1))],[ByF v m],[]⟩) (fun q=>q) rfl (⟨8,Nat.le_refl _,0,rfl⟩) ?_)))))))))))
 rintro k st ⟨hk,z,rfl⟩
 refine ah (aSR (aM rfl (aU rfl (fi rfl rfl) (aNn ?_))))
 refine ao _ rfl (fun h1 => ?_) (fun h1 => ?_)
 ·skip
  obtain ⟨j,rfl⟩:∃ j,k=j+1:=⟨k-1,by simp at h1;omega⟩
  refine ar (aj (ah (aq (aa (aM rfl (aU rfl (yl rfl rfl (by decide)) (aM rfl (aM rfl (aM rfl (aU rfl (aX rfl rfl (by omega)) (aU rfl (adC (a+j) (aI 0 rfl) el89 rfl rfl (by omega) (by omega)) (iJ true rfl rfl (fun _=>acK (aI 0 rfl) tk5 rfl (by omega)) (fun h=>absurd h (by decide)) (fun u=>(aU rfl (dm (by kernel_rfl) Tryz.underlying301 rfl) ?_))))))))))))))
  refine aU rfl (yj rfl rfl) (aA rfl (bj (bp (aj (aa (aM rfl (aU rfl (dp rfl rfl (by omega)) (aA rfl (aNn ?_)))))))))
  refine ⟨[0,1,5,6],[0],[],rfl,?_⟩
  refine ⟨j,⟨by omega,?_⟩,by omega⟩
  have e:((j+1:Nat):Int)-1-1=(j:Int)-1:=by omega
  rw [e]
  exact ⟨_,rfl⟩
 ·skip
  refine aT (aW (aW (aY (aj (aSR (aM rfl (aA rfl (aNn (ax (FZ1 [] Tryz.results207 rfl ?_))))))))))
  exact ⟨⟨rfl,rfl⟩,z,rfl,trivial⟩
end Go.Proofs.YtfkcmbonmpcbfaaGreat

