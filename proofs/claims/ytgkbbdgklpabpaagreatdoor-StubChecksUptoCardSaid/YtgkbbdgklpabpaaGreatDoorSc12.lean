/- Parts of the proof, in build order. No condition. -/
import Derived.Test.YtgkbbdgklpabpaaGreatDoorSc11
import Derived.Test.YtgkbbdgklpabpaaGreatDoorSc09
import Derived.Test.YtgkbbdgklpabpaaGreatDoorSc07
import Derived.Test.YtgkbbdgklpabpaaGreatDoorSc06
import Derived.Test.YtgkbbdgklpabpaaGreatDoorSc05
import Derived.Laws.CopyRow
import Derived.Test.YtgkbbdgklpabpaaGreatDoorSc04
set_option linter.unusedSimpArgs false
set_option linter.unusedVariables false
set_option maxHeartbeats 20000000
set_option maxRecDepth 20000
namespace Go.Proofs.YtgkbbdgklpabpaaGreatDoor
open Go.RowKit Go.Lp Go.Sy
open Go.Proofs.Tryz
attribute [local irreducible] aL aB awp aC fwp Quiet
theorem rP(z:Int):Con Tryz.prog 222 [.int .i64 z] [] [] (fun r _ _=>r=.bool false):=by
 refine EN1 Tryz.func222 rfl (go 2 [0,0,0,0,0] ?_)
 refine ae (FZ1 [] Tryz.results222 rfl ?_)
 simp
theorem rQ(z:ByteArray):Con Tryz.prog 223 [.string z] [] [] (fun r _ _=>r=.bool false):=by
 refine EN1 Tryz.func223 rfl (go 0 [0,0,0] ?_)
 refine aU rfl (aaV rfl rfl) (go 2 [0] ?_)
 refine ae (FZ1 [] Tryz.results223 rfl ?_)
 simp
theorem fQ(a b:Int):Con Tryz.prog 173 [.int .i64 a,.int .i64 b] [] [] (fun r _ _=>r=.int .i64 (oM a b)):=by
 refine EN2 Tryz.func173 rfl (go 0 [0,0] ?_)
 refine aU rfl (Q0 rfl (rP _)) (go 0 [0,0] ?_)
 refine aU rfl (Q0 rfl (rP _)) (go 2 [0,0] ?_)
 refine aa _ rfl (fun h1 => ?_) (fun h1 => ?_)
 ·skip
  exact absurd h1 (by decide)
 ·skip
  refine go 2 [0] ?_
  refine aa _ rfl (fun h2 => ?_) (fun h2 => ?_)
  ·skip
   exact absurd h2 (by decide)
  ·skip
   refine go 2 [0,0,0] ?_
   refine aa _ rfl (fun h3 => ?_) (fun h3 => ?_)
   ·skip
    refine go 2 [0] ?_
    refine ae (aj (FZ1 [] Tryz.results173 rfl ?_))
    have:a<b:=by simpa using h3
    unfold oM;rw [if_pos this]
   ·skip
    refine go 2 [0,0,0] ?_
    refine aa _ rfl (fun h4 => ?_) (fun h4 => ?_)
    ·skip
     refine go 2 [0] ?_
     refine ae (aj (FZ1 [] Tryz.results173 rfl ?_))
     have a1:¬ a<b:=by simpa using h3
     have:b<a:=by simpa using h4
     unfold oM;rw [if_neg a1,if_pos this]
    ·skip
     refine go 2 [0] ?_
     refine ae (FZ1 [] Tryz.results173 rfl ?_)
     have a1:¬ a<b:=by simpa using h3
     have a2:¬ b<a:=by simpa using h4
     unfold oM;rw [if_neg a1,if_neg a2]
theorem yw(a b:ByteArray):Con Tryz.prog 176 [.string a,.string b] [] [] (fun r _ _=>r=.int .i64 (yq a b)):=by
 refine EN2 Tryz.func176 rfl (go 0 [0,0] ?_)
 refine aU rfl (Q0 rfl (rQ _)) (go 0 [0,0] ?_)
 refine aU rfl (Q0 rfl (rQ _)) (go 2 [0,0] ?_)
 refine aa _ rfl (fun h1 => ?_) (fun h1 => ?_)
 ·skip
  exact absurd h1 (by decide)
 ·skip
  refine go 2 [0] ?_
  refine aa _ rfl (fun h2 => ?_) (fun h2 => ?_)
  ·skip
   exact absurd h2 (by decide)
  ·skip
   refine go 0 [0,0] ?_
   refine aU rfl (zJ rfl rfl) (aNn ?_)
   refine aa _ rfl (fun h3 => ?_) (fun h3 => ?_)
   ·skip
    refine go 2 [0] ?_
    refine ae (aj (FZ1 [] Tryz.results176 rfl ?_))
    have:sLt a b:=of_decide_eq_true h3
    unfold yq;rw [if_pos this]
   ·skip
    refine go 0 [0,0] ?_
    refine aU rfl (zI rfl rfl) (aNn ?_)
    refine aa _ rfl (fun h4 => ?_) (fun h4 => ?_)
    ·skip
     refine go 2 [0] ?_
     refine ae (aj (FZ1 [] Tryz.results176 rfl ?_))
     have a1:¬ sLt a b:=of_decide_eq_false h3
     have h4':¬ sLt a b∧¬ a=b:=by simp only [Bool.not_eq_true',Bool.or_eq_false_iff,decide_eq_false_iff_not] at h4;exact h4
     have:sLt b a:=by
       rcases aa2 a b with h | h | h
       · exact (a1 h).elim
       · exact (h4'.2 h).elim
       · exact h
     unfold yq;rw [if_neg a1,if_pos this]
    ·skip
     refine go 2 [0] ?_
     refine ae (FZ1 [] Tryz.results176 rfl ?_)
     have a1:¬ sLt a b:=of_decide_eq_false h3
     have h4':sLt a b∨a=b:=by simp only [Bool.not_eq_false',Bool.or_eq_true,decide_eq_true_eq] at h4;exact h4
     have a2:¬ sLt b a:=by
       rcases h4' with h | h
       · exact xI h
       · rw [h];exact vI _
     unfold yq;rw [if_neg a1,if_neg a2]
theorem wz(b:Nat)(o:aI)(x:eY):Con Tryz.prog 162 [x.val,.pointer (some ⟨b,0,none⟩)] [At b 0 o.row,o.ok] [] (YB True):=by
 refine EN2 Tryz.func162 rfl (aSR (LT rfl (aS rfl rfl rfl (fun b0_0=>(aHN ?_)))))
 refine go 0 [0,32257,0,0] ?_
 refine aE (caps:=[]) [0] (false) (by kernel_rfl) true rfl rfl (fun _=>rfl) (fun hc=>rfl) (fun hc=>by rw [List.append_nil];exact m6 o _ _) (fun c1 hc1 => ?_)
 refine go 2 [0,1,0,0,0,0,1,0,0,0,0] ?_
 refine ae (FZ1 [] Tryz.results162 rfl ?_)
 exact ⟨⟨rfl,rfl⟩,_,rfl,fun _=>trivial⟩
theorem tP(o:aI):Con Tryz.prog 105 [o.val] [o.ok] [] (YB True):=by
 refine EN1 Tryz.func105 rfl (aSR (LT rfl (aS rfl rfl rfl (fun b0_0=>(aHN ?_)))))
 refine go 3 [0] ?_
 refine aZ 0 rfl rfl ?_
 show awp _ _ _ _ ⟨_,At _ 0 _::_,_⟩
 refine go 0 [0,5,241] ?_
 refine aU rfl (cA (l:=[.tmp 1]) rfl) ?_
 refine aE (caps:=[]) [1,0] (false) (by kernel_rfl) true rfl rfl (fun _=>rfl) (fun hc=>rfl) (fun hc=>by rw [List.append_nil];exact (mZ o.inits 162 [.pointer (some ⟨b0_0,0,none⟩)] (bQ (At b0_0 0 o.row) o.ok) (fun _=>True) (by kernel_rfl) (fun x _=>(wz b0_0 o x).pre (ej fA.left fA.right))).pre (ej (aI.f_inits (.of (ax 1 rfl))) (.mk2 (.of (ax 0 rfl)) (.of (ax 1 rfl))))) (fun c1 hc1 => ?_)
 refine go 2 [0] ?_
 refine ae (FZ1 [] Tryz.results105 rfl ?_)
 exact ⟨⟨rfl,rfl⟩,_,rfl,fun _=>trivial⟩
theorem nc(o:aI)(sec f t:Int):Con Tryz.prog 171 [o.val,.int .i64 sec,.int .i64 f,.int .i64 t] [o.ok] [] (YB True):=by
 refine EN4 Tryz.func171 rfl (aO (aI.f_secs (.of (ax 0 rfl))) (fun hlen=>(aSR (LT rfl (aS rfl rfl rfl (fun b0_0=>(aHN ?_)))))))
 refine go 0 [0,32256,0] ?_
 refine eK (zs:=[.int .i64 0]) (l:=[(0,.const (.int .i64 0))]) el33 (by kernel_rfl) (by decide) (by decide) (by decide) rfl _ rfl (fun hc=>rfl) rfl (.more rfl (.v rfl .nil) .nil) rfl rfl (fun v1_2 => ?_)
 refine aE (caps:=[]) [1,0] (false) (by kernel_rfl) true rfl rfl (fun _=>rfl) (fun hc=>rfl) (fun hc=>by rw [List.append_nil];exact (j7 o ⟨v1_2,1,[0]⟩ _).pre (ej (.yes (.of (ax 0 rfl)) rfl) (.of (ax 1 rfl)))) (fun c1 hc1 => ?_)
 refine go 0 [0,0,0,0,0,0,0,0,0,0,0,0,1,0,0] ?_
 refine bI _ rfl rfl (fun hc=>ai Tryz.underlying118 tk174 (ah rfl hc) ((aI.f_secs (.of (ax 1 rfl)))) (ah rfl hc) (bN (i:=sec) (by have:=hc1 rfl (by simp at hc;exact hc.1.1);omega) (by have:=hc1 rfl (by simp at hc;exact hc.1.1);omega)) ((by have:=hc1 rfl (by simp at hc;exact hc.1.1);omega)) rfl) (fun _=>⟨(0,0)⟩) (fun ⟨b1_19,o1_19⟩ => ?_)
 refine go 0 [3,146,0,0,0,0] ?_
 refine aG rfl rfl (fun hc=>ee (ah rfl hc) rfl (by decide)) (go 0 [0,0,0,0] ?_)
 refine aG rfl rfl (fun hc=>ee (ah rfl hc) rfl (by decide)) (go 2 [0,0,0] ?_)
 refine ae (FZ1 [] Tryz.results171 rfl ?_)
 exact ⟨⟨rfl,rfl⟩,_,rfl,fun _=>trivial⟩
theorem wB(b:Nat)(o:aI)(x:cM):Con Tryz.prog 164 [x.val,.pointer (some ⟨b,0,none⟩)] [At b 0 o.row,o.ok,x.ok] [] (YB True):=by
 refine EN2 Tryz.func164 rfl (aO (aI.f_secs (.of (ax 1 rfl))) (fun hlen=>(cL (cM.f_file (.of (ax 2 rfl))) (fun hnl=>(aSR (LT rfl (aS rfl rfl rfl (fun b0_0=>(aHN ?_)))))))))
 refine go 3 [0] ?_
 refine DR [] 40 (go 0 [64514,0,0] ?_)
 refine VB (zs:=[.int .i64 0]) 3 rfl el33 rfl rfl rfl rfl (.more rfl (.v rfl .nil) .nil) rfl rfl (fun v1_3 => ?_)
 refine cQ (caps:=[]) 4 rfl (by kernel_rfl) [3,1] (false) (by kernel_rfl) true rfl rfl (fun _=>rfl) (fun hc=>rfl) (fun hc=>by rw [List.append_nil];exact j7 o ⟨v1_3,1,[0]⟩ _) (fun c1 hc1 => ?_)
 refine go 0 [0,2,0,0,2,104,0,0] ?_
 refine dz 13 rfl (by kernel_rfl) _ rfl rfl (fun hc=>ai Tryz.underlying118 tk174 (ah rfl hc) ((aI.f_secs (.of (ax 2 rfl)))) (ah rfl hc) (bN (i:=x.sec) (by have:=hc1 rfl (by simp at hc;exact hc);omega) (by have:=hc1 rfl (by simp at hc;exact hc);omega)) ((by have:=hc1 rfl (by simp at hc;exact hc);omega)) rfl) (fun _=>⟨(0,0)⟩) (fun ⟨b1_13,o1_13⟩ => ?_)
 refine go 0 [6,292] ?_
 refine bW 16 rfl rfl rfl (fun hc=>Q0 (ao (ah rfl hc) (ao (ah rfl hc) rfl)) (bZ _ _)) (go 0 [0,0,2,0] ?_)
 refine bW 21 rfl rfl rfl (fun hc=>ee (ah rfl hc) rfl (by decide)) (go 0 [0,0,0,4,0] ?_)
 refine cQ (caps:=[]) 27 rfl (by kernel_rfl) [] (false) (by kernel_rfl) _ rfl rfl (fun _=>rfl) (fun hc=>(ao (ah rfl hc) rfl)) (fun hc=>by rw [List.append_nil];exact pG _ hnl) (fun c2 hc2 => ?_)
 refine go 2 [0,0,6,0,0,0,0,6,0,0,0,0] ?_
 refine ae (FZ1 [] Tryz.results164 rfl ?_)
 exact ⟨⟨rfl,rfl⟩,_,rfl,fun _=>trivial⟩
theorem wC(x y:cM)(p:Per):Con Tryz.prog 166 [x.val,y.val] [p] [] (YB True):=by
 refine EN2 Tryz.func166 rfl (aSR (LT rfl (aS rfl rfl rfl (fun b0_0=>(aHN ?_)))))
 refine LT rfl (aS rfl rfl rfl (fun b0_1=>(aHN ?_)))
 refine go 2 [0,0,0,0,3,0,0,0,0,0,3,0,0,1,0,1,3,0,0,0,0] ?_
 refine ae (FZ1 [] Tryz.results166 rfl ?_)
 exact ⟨⟨rfl,rfl⟩,_,rfl,fun _=>trivial⟩
theorem tQ(o:aI):Con Tryz.prog 106 [o.val] [o.ok] [] (YB True):=by
 refine EN1 Tryz.func106 rfl (aSR (LT rfl (aS rfl rfl rfl (fun b0_0=>(aHN ?_)))))
 refine go 4 [0] ?_
 refine aU rfl (cA (l:=[.tmp 1]) rfl) (go 3 [0,0] ?_)
 refine aZ 0 rfl rfl ?_
 show awp _ _ _ _ ⟨_,At _ 0 _::_,_⟩
 refine go 0 [0,6,289,0] ?_
 refine aE (caps:=[]) [1,0] (false) (by kernel_rfl) true rfl rfl (fun _=>rfl) (fun hc=>rfl) (fun hc=>by rw [List.append_nil];exact (m0 o.lines 164 [.pointer (some ⟨b0_0,0,none⟩)] (bQ (At b0_0 0 o.row) o.ok) (fun _=>True) (by kernel_rfl) (fun x hx=>(wB b0_0 o x).pre (jm fA.left fA.right (.allm (aI.f_linesA fA.right) hx)))).pre (ej (aI.f_lines (.of (ax 1 rfl))) (.mk2 (.of (ax 0 rfl)) (.of (ax 1 rfl))))) (fun c1 hc1 => ?_)
 refine go 0 [0,0,6,289,0] ?_
 refine aE (caps:=[]) [0] (false) (by kernel_rfl) _ rfl rfl (fun _=>rfl) (fun hc=>(ao (ah rfl hc) (ao (ah rfl hc) rfl))) (fun hc=>by rw [List.append_nil];exact (m8 o.lines 166 [] o.ok (by kernel_rfl) (fun x _ y _=>wC x y _)).pre (ej (aI.f_lines (.of (ax 0 rfl))) (.of (ax 0 rfl)))) (fun c2 hc2 => ?_)
 refine go 2 [0,0] ?_
 refine ae (FZ1 [] Tryz.results106 rfl ?_)
 exact ⟨⟨rfl,rfl⟩,_,rfl,fun _=>trivial⟩
theorem tH(b:Nat)(o:aI)(x:cJ):Con Tryz.prog 179 [x.val,.pointer (some ⟨b,0,none⟩)] [At b 0 o.row,o.ok] [] (YB True):=by
 refine EN2 Tryz.func179 rfl (aSR (LT rfl (aS rfl rfl rfl (fun b0_0=>(aHN ?_)))))
 refine go 0 [0,32257,0,0,1,0,2,0] ?_
 refine aE (caps:=[]) [0] (false) (by kernel_rfl) true rfl rfl (fun _=>rfl) (fun hc=>rfl) (fun hc=>by rw [List.append_nil];exact nc o _ _ _) (fun c1 hc1 => ?_)
 refine go 0 [0,3,0] ?_
 refine aG rfl rfl (fun hc=>Q0 (ao (ah rfl hc) (ao (ah rfl rfl) rfl)) (bZ _ _)) (go 0 [0,0,3,0] ?_)
 refine aG rfl rfl (fun hc=>ee (ah rfl hc) rfl (by decide)) (go 2 [0,0,0] ?_)
 refine ae (FZ1 [] Tryz.results179 rfl ?_)
 exact ⟨⟨rfl,rfl⟩,_,rfl,fun _=>trivial⟩
theorem tI(x y:cJ)(p:Per):Con Tryz.prog 180 [x.val,y.val] [p] [] (YB True):=by
 refine EN2 Tryz.func180 rfl (aSR (LT rfl (aS rfl rfl rfl (fun b0_0=>(aHN ?_)))))
 refine LT rfl (aS rfl rfl rfl (fun b0_1=>(aHN ?_)))
 refine go 2 [0,0,0,0,3,0,0,0,0,0,3,0,0,2,0,1,3,0,0,0,0] ?_
 refine ae (FZ1 [] Tryz.results180 rfl ?_)
 exact ⟨⟨rfl,rfl⟩,_,rfl,fun _=>trivial⟩
theorem rT(o:aI):Con Tryz.prog 109 [o.val] [o.ok] [] (YB True):=by
 refine EN1 Tryz.func109 rfl (aSR (LT rfl (aS rfl rfl rfl (fun b0_0=>(aHN ?_)))))
 refine go 4 [0] ?_
 refine aU rfl (cA (l:=[.tmp 1]) rfl) (go 3 [0,0] ?_)
 refine aZ 0 rfl rfl ?_
 show awp _ _ _ _ ⟨_,At _ 0 _::_,_⟩
 refine go 0 [0,9,433,0] ?_
 refine aE (caps:=[]) [1,0] (false) (by kernel_rfl) true rfl rfl (fun _=>rfl) (fun hc=>rfl) (fun hc=>by rw [List.append_nil];exact (l8 o.depths 179 [.pointer (some ⟨b0_0,0,none⟩)] (bQ (At b0_0 0 o.row) o.ok) (fun _=>True) (by kernel_rfl) (fun x hx=>(tH b0_0 o x).pre (ej fA.left fA.right))).pre (ej (aI.f_depths (.of (ax 1 rfl))) (.mk2 (.of (ax 0 rfl)) (.of (ax 1 rfl))))) (fun c1 hc1 => ?_)
 refine go 0 [0,0,9,433,0] ?_
 refine aE (caps:=[]) [0] (false) (by kernel_rfl) _ rfl rfl (fun _=>rfl) (fun hc=>(ao (ah rfl hc) (ao (ah rfl hc) rfl))) (fun hc=>by rw [List.append_nil];exact (mf o.depths 180 [] o.ok (by kernel_rfl) (fun x _ y _=>tI x y _)).pre (ej (aI.f_depths (.of (ax 0 rfl))) (.of (ax 0 rfl)))) (fun c2 hc2 => ?_)
 refine go 2 [0,0] ?_
 refine ae (FZ1 [] Tryz.results109 rfl ?_)
 exact ⟨⟨rfl,rfl⟩,_,rfl,fun _=>trivial⟩
end Go.Proofs.YtgkbbdgklpabpaaGreatDoor

namespace Go.Sy
open Go.RowKit Go.Lp Go.Sort
section
variable {P:Program} {n:Fr} {env:Env} {ps:List Per} {hp:List Res} {s:Sta} {d:Option Tmp} {ty:TypeId} {pos:String} {af:Array Edge} {gd:Option (Nat × Bool)} {x y:Operand} {K:Sta→Prop}
theorem gB{T E:TypeId}{sz m c B o:Nat}{kk:IntKind}{z:Int}(k:Nat)(hel:elB P T E sz=true)(hx:ev s.env x=some (true,.slice (some ⟨B,o,none⟩) m c))
   (hy:ev s.env y=some (true,.int kk z)) (hz:z=(k:Int)) (hk:k≤m) (hm:m≤c) :
   Quiet P n ⟨d,.slice T x none (some y) none,ty,pos,af,gd⟩ s (.slice (some ⟨B,o,none⟩) k c):=fun w S fp a hst he hn=>by
 have h1:=he.val hx rfl
 subst hz
 have h2:=he.val hy rfl
 obtain ⟨hT,it,hi,_,hsz,_⟩:=di hel
 have hE:P.elem T=E:=by unfold Program.elem;rw [hT]
 have hrun:∀ w1,(execOp a.eval ⟨d,.slice T x none (some y) none,ty,pos,af,gd⟩).run P w1=.ok (.value (sliced (some ⟨B,o,none⟩) 0 k c sz)) w1:=fun w1=>by
   unfold execOp;dsimp only;simp only [Option.map_some,Option.map_none];rw [h1,h2]
   show ((Instr.sliceAt T (.slice (some ⟨B,o,none⟩) m c) none (some (.int kk k)) none).bind fun r=>Sem.pure (Next.value r)).run P w1=_
   have hT':P.underlying T=some (.slice (P.elem T)):=by rw [hT,hE]
   rw [Sem.run_bind',run_sliceAt_slice w1 T _ _ _ _ hT',run_slice_h w1 T _ m c hT' kk k (by omega) (by omega),hE,cF hi,hsz]
   rfl
 have e:sliced (some ⟨B,o,none⟩) 0 k c sz=.slice (some ⟨B,o,none⟩) k c:=by
   unfold sliced
   simp only [Nat.sub_zero]
   congr 1
   split
   · rfl
   · simp [kJ]
 rw [hrun,e];exact bE _ _
theorem p5{T E:TypeId}{sz m c B o:Nat}{kk:IntKind}{z:Int}(k m' o':Nat)(hel:elB P T E sz=true)(hx:ev s.env x=some (true,.slice (some ⟨B,o,none⟩) m c))
   (hy:ev s.env y=some (true,.int kk z)) (hz:z=(k:Int)) (hk:k<m) (hm:m≤c) (hm':m-k=m') (ho:o+k*sz=o') :
   Quiet P n ⟨d,.slice T x (some y) none none,ty,pos,af,gd⟩ s (.slice (some ⟨B,o',none⟩) m' (c-k)):=fun w S fp a hst he hn=>by
 have h1:=he.val hx rfl
 subst hz
 have h2:=he.val hy rfl
 obtain ⟨hT,it,hi,_,hsz,_⟩:=di hel
 have hE:P.elem T=E:=by unfold Program.elem;rw [hT]
 have hrun:∀ w1,(execOp a.eval ⟨d,.slice T x (some y) none none,ty,pos,af,gd⟩).run P w1=.ok (.value (sliced (some ⟨B,o,none⟩) k m c sz)) w1:=fun w1=>by
   unfold execOp;dsimp only;simp only [Option.map_some,Option.map_none];rw [h1,h2]
   show ((Instr.sliceAt T (.slice (some ⟨B,o,none⟩) m c) (some (.int kk k)) none none).bind fun r=>Sem.pure (Next.value r)).run P w1=_
   have hT':P.underlying T=some (.slice (P.elem T)):=by rw [hT,hE]
   rw [Sem.run_bind',run_sliceAt_slice w1 T _ _ _ _ hT',run_slice_l w1 T _ m c hT' kk k (by omega) (by omega),hE,cF hi,hsz]
   rfl
 have e:sliced (some ⟨B,o,none⟩) k m c sz=.slice (some ⟨B,o',none⟩) m' (c-k):=by
   unfold sliced
   rw [← hm',← ho,if_neg (by omega)]
   simp [kJ]
 rw [hrun,e];exact bE _ _
end
section
variable {α:Type} [Inhabited α] {enc:α→Value}
variable {P:Program} {n:Fr} {env:Env} {ps:List Per} {hp:List Res} {ty:TypeId} {pos:String} {af:Array Edge} {gd:Option (Nat × Bool)} {K:Sta→Prop}
theorem aaS{d:Option Tmp}{x y:Operand}{T T2 E:TypeId}{sz sl sc dc:Nat}{da sa:Option Addr}{s:Sta}(hel:elB P T E sz=true)(hx:ev s.env x=some (true,.slice da 0 dc))(hy:ev s.env y=some (true,.slice sa sl sc)) :
   Quiet P n ⟨d,.call ⟨.builtin .copy,#[x,y],#[T,T2]⟩,ty,pos,af,gd⟩ s (.int .i64 0):=fun w S fp a hst he hn=>by
 have h1:=he.val hx rfl
 have h2:=he.val hy rfl
 obtain ⟨hT,it,hi,_,hsz,_⟩:=di hel
 have:(execOp a.eval ⟨d,.call ⟨.builtin .copy,#[x,y],#[T,T2]⟩,ty,pos,af,gd⟩).run P w=.ok (.value (.int .i64 0)) w:=by
   show ((Builtin.copy_ #[T,T2] ty (#[x,y].map a.eval)).bind fun r=>Sem.pure (Next.value r)).run P w=_
   have hargs : #[x,y].map a.eval = #[.slice da 0 dc,.slice sa sl sc]:=by simp [h1,h2]
   rw [hargs,Sem.run_bind']
   have:(Builtin.copy_ #[T,T2] ty #[.slice da 0 dc,.slice sa sl sc]).run P w=.ok (goInt 0) w:=by
     cases da<;>cases sa<;>simp [Builtin.copy_,run_underlying hT,Builtin.lenOf,Builtin.firstCells,sizeOf,typeInfo,hi,storeCells,loadCells,loadCellsFrom]<;>rfl
   rw [this];rfl
 rw [this];exact bE _ _
theorem yX{t:Nat}{x y:Operand}{T T2 E:TypeId}{B N o dl dc cp sl sc:Nat}{sa:Option Addr}{zs cs:List α}(i:Nat)(hel:elB P T E 1=true)(hone:∀ x:α,(enc x).oneCell'=true)
   (hx:ev env x=some (true,.slice (some ⟨B,o,none⟩) dl dc)) (hy:ev env y=some (true,.slice sa sl sc)) (ht:fits n (some t)=true)
   (hi:hp[i]? = some (aP (.slice (some ⟨B,0,none⟩) N cp) E 1 (bF enc zs))) (hN:zs.length=N) (hlen:cs.length=min sl dl) (hfit:o+cs.length≤zs.length)
   (hsrc:∀ w S fp sp,St w S fp ps hp→w.heap[B]? = some (.cells (zs.map enc++sp).toArray E (0,0))→∃ sb:Addr,sa=some sb∧∀ j c,cs[j]? = some c→w.cell? (sb.add j)=some (enc c))
   (zs':List α) (hz':zs.take o++cs++zs.drop (o+cs.length)=zs') (m:Int) (hm:m=cs.length)
   (hK:K ⟨(t,true,.int .i64 m)::env,ps,hp.set i (aP (.slice (some ⟨B,0,none⟩) N cp) E 1 (bF enc zs'))⟩) :
   Eff P n ⟨some t,.call ⟨.builtin .copy,#[x,y],#[T,T2]⟩,ty,pos,af,gd⟩ ⟨env,ps,hp⟩ false K:=.change i hi fun w S fp a hst he hn hR=>by
 subst hN
 have h1:=he.val hx rfl
 have h2:=he.val hy rfl
 obtain ⟨hT,it,hit,_,hsz,_⟩:=di hel
 rcases vF hR with ⟨hv,_⟩ | ⟨b,cap,sp,hv,hb,hcap,hcm,hF,hH⟩
 · simp at hv
 · obtain ⟨rfl,rfl⟩:B=b∧cp=cap:=by simpa using hv
   obtain ⟨sb,rfl,hcell⟩:=hsrc w S fp sp hst hb
   have hlz:zs'.length=zs.length:=by rw [← hz'];simp;omega
   have hrun:(Builtin.copy_ #[T,T2] ty #[.slice (some ⟨B,o,none⟩) dl dc,.slice (some sb) sl sc]).run P w=.ok (goInt cs.length) (w.setRow B (zs'.map enc++sp).toArray):=by
     have:=run_copy_row (P:=P) w T T2 ty E B o dl dc sb sl sc _ E (cs.map enc) hT (by rw [hit];exact congrArg some hsz) hb (by simpa using hlen)
       (fun j v hj=>by
         rw [List.getElem?_map,Option.map_eq_some_iff] at hj
         obtain ⟨c,hc,rfl⟩:=hj
         exact hcell j c hc)
       (by simp;omega) (fun v hv=>by obtain ⟨c,_,rfl⟩:=List.mem_map.1 hv;exact hone c)
     rw [this,List.length_map]
     congr 3
     rw [← hz']
     simp only [List.map_append,List.map_take,List.map_drop]
     rw [List.take_append_of_le_length (by simp;omega),List.drop_append_of_le_length (by simp;omega)]
     simp
   have:(execOp a.eval ⟨some t,.call ⟨.builtin .copy,#[x,y],#[T,T2]⟩,ty,pos,af,gd⟩).run P w=.ok (.value (.int .i64 m)) (w.setRow B (zs'.map enc++sp).toArray):=by
     show ((Builtin.copy_ #[T,T2] ty (#[x,y].map a.eval)).bind fun r=>Sem.pure (Next.value r)).run P w=_
     have hargs : #[x,y].map a.eval = #[.slice (some ⟨B,o,none⟩) dl dc,.slice (some sb) sl sc]:=by simp [h1,h2]
     rw [hargs,Sem.run_bind',hrun,hm];rfl
   rw [this]
   have hbS:¬ S B:=(hst.lt i (List.getElem?_eq_some_iff.1 hi).1 B ((hF B).2 rfl)).2
   refine ⟨aP _ E 1 (bF enc zs'),_,hK,rfl,rfl,he.put (g:=true) (by rw [hn];simpa [fits] using ht) _,?_,rfl,rfl,⟨rfl,rfl⟩,by simp [World.setRow],fun b' hb' hne=>setRow_other _ _ _ _ (fun h=>hne ((hF b').2 h))⟩
   refine .inr ⟨B,cp,by rw [cE,hlz],⟨zs'.map enc,sp,setRow_heap _ _ _ _ _ _ hb,?_,by rw [Nat.mul_one,← hcap,List.length_append,List.length_map,hlz],by rw [cE,hlz];omega,hcm⟩,hF⟩
   refine ⟨by simp [bF],fun i r hi => ?_,fun u hu => ?_,fun i j r d h1 h2 => ?_⟩
   · simp only [bF,List.getElem?_map,Option.map_eq_some_iff] at hi
     obtain ⟨x,_,rfl⟩:=hi;rfl
   · obtain ⟨x,_,rfl⟩:=List.mem_map.1 hu;exact hone x
   · simp only [bF,List.getElem?_map,Option.map_eq_some_iff] at h1
     obtain ⟨x,hx,rfl⟩:=h1
     cases j with
     | zero =>
       simp only [List.getElem?_cons_zero,Option.some.injEq] at h2
       subst h2
       exact ⟨enc x,by simp [hx],.v _⟩
     | succ j=>simp at h2
theorem aaK{t:Nat}{x y:Operand}{T T2 E:TypeId}{B N o dl dc cp sl sc:Nat}{sa:Option Addr}{zs xs:List α}(i:Nat)(hel:elB P T E 1=true)(hone:∀ x:α,(enc x).oneCell'=true)
   (hx:ev env x=some (true,.slice (some ⟨B,o,none⟩) dl dc)) (hy:ev env y=some (true,.slice sa sl sc)) (ht:fits n (some t)=true)
   (hi:hp[i]? = some (aP (.slice (some ⟨B,0,none⟩) N cp) E 1 (bF enc zs))) (hN:zs.length=N) (hs:Sh (.slice sa sl sc) (.sl (bF enc xs))∈ps) (h0:xs≠[]) (hle:xs.length≤dl) (hfit:o+xs.length≤zs.length)
   (zs':List α) (hz':zs.take o++xs++zs.drop (o+xs.length)=zs') (hsl:sl=xs.length)
   (hK:K ⟨(t,true,.int .i64 xs.length)::env,ps,hp.set i (aP (.slice (some ⟨B,0,none⟩) N cp) E 1 (bF enc zs'))⟩) :
   Eff P n ⟨some t,.call ⟨.builtin .copy,#[x,y],#[T,T2]⟩,ty,pos,af,gd⟩ ⟨env,ps,hp⟩ false K:=by
 refine yX (cs:=xs) i hel hone hx hy ht hi hN (by rw [hsl];omega) hfit (fun w S fp sp hst _ => ?_) zs' hz' _ rfl hK
 have hrep:=hst.per _ hs
 generalize hrows:bF enc xs=rows at hrep
 cases hrep with
 | e a c hc=>simp [bF] at hrows;exact (h0 hrows).elim
 | sl b o c sz _ us hb hn' hc hrl hcell hd =>
     subst hrows
     have hg:∀ (j:Nat) c,xs[j]? = some c→(bF enc xs)[j]? = some [D.v (enc c)]:=fun j c hj=>by simp [bF,hj]
     have hsz:sz=1:=by
       obtain ⟨c0,hc0⟩:∃ c,xs[0]? = some c:=⟨_,List.getElem?_eq_getElem (List.length_pos_iff.2 h0)⟩
       have:=hrl 0 _ (hg 0 c0 hc0);simpa using this.symm
     subst hsz
     refine ⟨_,rfl,fun j c hj => ?_⟩
     have h1:=(hcell j 0 _ _ (hg j c hj) rfl).1
     rw [jL (hd j 0 _ _ (hg j c hj) rfl),Nat.mul_one,Nat.add_zero] at h1
     rw [kJ];exact h1
theorem aaJ{t:Nat}{x y:Operand}{T T2 E:TypeId}{B N o dl dc cp sl sc:Nat}{zs:List α}(i:Nat)(hel:elB P T E 1=true)(hone:∀ x:α,(enc x).oneCell'=true)
   (hx:ev env x=some (true,.slice (some ⟨B,o,none⟩) dl dc)) (hy:ev env y=some (true,.slice (some ⟨B,0,none⟩) sl sc)) (ht:fits n (some t)=true)
   (hi:hp[i]? = some (aP (.slice (some ⟨B,0,none⟩) N cp) E 1 (bF enc zs))) (hN:zs.length=N) (k:Nat) (hk:k=min sl dl) (hfit:o+k≤zs.length)
   (zs':List α) (hz':zs.take o++zs.take k++zs.drop (o+k)=zs')
   (hK:K ⟨(t,true,.int .i64 k)::env,ps,hp.set i (aP (.slice (some ⟨B,0,none⟩) N cp) E 1 (bF enc zs'))⟩) :
   Eff P n ⟨some t,.call ⟨.builtin .copy,#[x,y],#[T,T2]⟩,ty,pos,af,gd⟩ ⟨env,ps,hp⟩ false K:=by
 have hl:(zs.take k).length=k:=by rw [List.length_take];omega
 refine yX (cs:=zs.take k) i hel hone hx hy ht hi hN (by rw [hl,hk]) (by rw [hl];exact hfit) (fun w S fp sp hst hb=>⟨_,rfl,fun j c hj => ?_⟩) zs' (by rw [hl];exact hz') k (by rw [hl]) hK
 have hj':j<zs.length:=by
   have:=(List.getElem?_eq_some_iff.1 hj).1
   rw [hl] at this;omega
 rw [kJ,Nat.zero_add,dL hb,List.getElem?_append_left (by simpa using hj'),List.getElem?_map]
 rw [List.getElem?_take] at hj
 split at hj
 · rw [hj];rfl
 · cases hj
end
end Go.Sy

namespace Go.Sy
open Go.RowKit Go.Lp
theorem sY{w:World}{S:ba}{sz:Nat}{cs:List Value}{rows:List (List D)}(h:dF w S sz cs rows){k:Nat}(hk:k≤rows.length):dF w S sz (cs.take (k*sz)) (rows.take k) where
 len:=by
   have:=h.len
   have h2:k*sz≤rows.length*sz:=Nat.mul_le_mul_right _ hk
   rw [List.length_take,List.length_take,Nat.min_eq_left hk,Nat.min_eq_left (by omega)]
 row i r hr:=h.row i r (by
   have hl:=(List.getElem?_eq_some_iff.1 hr).1
   rw [List.length_take] at hl
   rw [List.getElem?_take_of_lt (by omega)] at hr;exact hr)
 one v hv:=h.one v (List.mem_of_mem_take hv)
 rep i j r d hr hd:=by
   have hl:=(List.getElem?_eq_some_iff.1 hr).1
   rw [List.length_take] at hl
   rw [List.getElem?_take_of_lt (by omega)] at hr
   obtain ⟨u,hu,hrep⟩:=h.rep i j r d hr hd
   refine ⟨u,?_,hrep⟩
   have hj:=(List.getElem?_eq_some_iff.1 hd).1
   rw [h.row i r hr] at hj
   have h3:(i+1)*sz≤k*sz:=Nat.mul_le_mul_right _ (by omega)
   rw [Nat.add_mul] at h3
   rw [List.getElem?_take_of_lt (by omega)];exact hu
theorem zz{w:World}{S F:ba}{b:Nat}{T:TypeId}{sz cap:Nat}{rows:List (List D)}{k:Nat}(hk:k≤rows.length)(h:(Own b T sz cap rows).holds w S F):(Own b T sz cap (rows.take k)).holds w S F:=by
 obtain ⟨⟨cs,sp,hb,hr,hl,hle,hc⟩,hF⟩:=h
 refine ⟨⟨cs.take (k*sz),cs.drop (k*sz)++sp,?_,sY hr hk,?_,by rw [List.length_take];omega,hc⟩,hF⟩
 · rw [← List.append_assoc,List.take_append_drop];exact hb
 · rw [← List.append_assoc,List.take_append_drop];exact hl
theorem pZ{w:World}{S F:ba}{B m cp:Nat}{T:TypeId}{sz:Nat}{rows:List (List D)}{k:Nat}(hk:k≤rows.length)(h:(aP (.slice (some ⟨B,0,none⟩) m cp) T sz rows).holds w S F):(aP (.slice (some ⟨B,0,none⟩) k cp) T sz (rows.take k)).holds w S F:=by
 rcases h with ⟨h1,_⟩ | ⟨b,cap,h1,ho⟩
 · cases h1
 · simp only [Value.slice.injEq,Option.some.injEq,Addr.mk.injEq] at h1
   obtain ⟨⟨rfl,_⟩,rfl,rfl⟩:=h1
   exact .inr ⟨B,cp,by rw [List.length_take,Nat.min_eq_left hk],zz hk ho⟩
theorem mJ{P:Program}{n:Fr}{env:Env}{ps:List Per}{hp:List Res}{c:Code}{Q:Exit→Sta→Prop}(i k:Nat){B m cp:Nat}{T:TypeId}{sz:Nat}{rows:List (List D)}(hi:hp[i]? = some (aP (.slice (some ⟨B,0,none⟩) m cp) T sz rows))(hk:k≤rows.length)
   (h:awp P n c Q ⟨env,ps,hp.set i (aP (.slice (some ⟨B,0,none⟩) k cp) T sz (rows.take k))⟩):awp P n c Q ⟨env,ps,hp⟩:=jU i _ hi (fun _ _ _ hh=>pZ hk hh) h
theorem iS{P:Program}{n:Fr}{env:Env}{ps:List Per}{hp:List Res}{c:Code}{Q:Exit→Sta→Prop}(i:Nat){v:Value}{E:TypeId}{sz:Nat}{rows:List (List D)}(hi:hp[i]? = some (aP v E sz rows))(h0:rows≠[])(h:∀ B cp,v=.slice (some ⟨B,0,none⟩) rows.length cp→rows.length≤cp→awp P n c Q ⟨env,ps,hp⟩):awp P n c Q ⟨env,ps,hp⟩:=fun w S fp a hst he hn hd=>by
 rcases hst.res i _ hi with ⟨_,h1,_⟩ | ⟨B,cp,h1,⟨⟨_,_,_,_,_,hle,_⟩,_⟩⟩
 · exact (h0 h1).elim
 · exact h B cp h1 hle w S fp a hst he hn hd
end Go.Sy

namespace Go.Proofs.YtgkbbdgklpabpaaGreatDoor
open Go.RowKit Go.Lp Go.Sy
open Go.Proofs.Tryz
attribute [local irreducible] aL aB awp aC fwp Quiet
theorem vl(l:Sl Int):Con Tryz.prog 172 [l.val] [ShF bd l] [] (YN (fun z:Int=>.int .i64 z) fun _=>True):=by
 refine EN1 Tryz.func172 rfl (aO (.of (ax 0 rfl)) (fun hlen=>(go 3 [0,0,0,3,0] ?_)))
 refine aF [0,3,6,7,8] [0] [] (fun (k:Nat) st=>k≤l.l.length∧st=⟨[(0,true,l.val),(3,true,.int .i64 0),(6,true,l.val),(7,true,.int .i64 l.l.length),(8,true,.int .i64 k)],[ShF bd l],[]⟩) (fun k=>l.l.length-k) rfl (⟨0,Nat.zero_le _,rfl⟩) ?_
 rintro k st ⟨hk,rfl⟩
 refine go 3 [0] ?_
 refine aa _ rfl (fun h1 => ?_) (fun h1 => ?_)
 ·skip
  have hk':k<l.l.length:=by simp at h1;omega
  obtain ⟨a,ha⟩:∃ a,l.l[k]? = some a:=⟨l.l[k]'hk',by simp⟩
  refine aD (an (aq (aH (aSR (UI Tryz.underlying33 tk3 0 rfl rfl rfl rfl rfl (ak ha) rfl rfl (fun ⟨b4_0,o4_0⟩=>(go 2 [2,0,0,0,0] ?_)))))))
  refine aa _ rfl (fun h2 => ?_) (fun h2 => ?_)
  ·skip
   refine go 2 [0,0] ?_
   refine ae (aK (aj (aj (aK (aj (FZ1 [] Tryz.results172 rfl ?_))))))
   exact ⟨⟨rfl,rfl⟩,_,rfl,trivial⟩
  ·skip
   refine go 1 [0,0] ?_
   refine an ?_
   refine ⟨[0,3,6,7,8],[0],[],rfl,?_⟩
   exact ⟨k+1,⟨by omega,rfl⟩,by omega⟩
 ·skip
  refine go 2 [0,0] ?_
  refine ae (FZ1 [] Tryz.results172 rfl ?_)
  exact ⟨⟨rfl,rfl⟩,_,rfl,trivial⟩
theorem yQ(b:Nat)(o:aI)(x:dP):Con Tryz.prog 174 [x.val,.pointer (some ⟨b,0,none⟩)] [At b 0 o.row,o.ok,x.ok] [] (YB True):=by
 refine EN2 Tryz.func174 rfl (cL (dP.f_name (.of (ax 2 rfl))) (fun hnl=>(aSR (LT rfl (aS rfl rfl rfl (fun b0_0=>(aHN ?_)))))))
 refine go 0 [0,32257,0,0,1,0,2,0] ?_
 refine aE (caps:=[]) [1] (false) (by kernel_rfl) true rfl rfl (fun _=>rfl) (fun hc=>rfl) (fun hc=>by rw [List.append_nil];exact nc o _ _ _) (fun c1 hc1 => ?_)
 refine go 0 [0,0,3,0] ?_
 refine aE (caps:=[]) [] (false) (by kernel_rfl) _ rfl rfl (fun _=>rfl) (fun hc=>(ao (ah rfl hc) rfl)) (fun hc=>by rw [List.append_nil];exact eQ _ hnl) (fun c2 hc2 => ?_)
 refine go 2 [0,0] ?_
 refine aa _ rfl (fun h1 => ?_) (fun h1 => ?_)
 ·skip
  refine go 2 [0] ?_
  refine ae (aj (FZ1 [] Tryz.results174 rfl ?_))
  exact ⟨⟨rfl,rfl⟩,_,rfl,fun _=>trivial⟩
 ·skip
  refine go 2 [4,0,0,0] ?_
  refine aa _ rfl (fun h2 => ?_) (fun h2 => ?_)
  ·skip
   refine go 0 [5,0] ?_
   refine aU rfl (Q0 rfl (bZ _ _)) (go 2 [0] ?_)
   refine ae (aK (aj (FZ1 [] Tryz.results174 rfl ?_)))
   exact ⟨⟨rfl,rfl⟩,_,rfl,fun _=>trivial⟩
  ·skip
   refine go 2 [0,0] ?_
   refine aa _ rfl (fun h3 => ?_) (fun h3 => ?_)
   ·skip
    refine go 0 [5,0] ?_
    refine aU rfl (Q0 rfl (bZ _ _)) (go 0 [0,5,0] ?_)
    refine aG rfl rfl (fun hc=>ee (ah rfl hc) rfl (by decide)) (go 2 [0,0,0] ?_)
    refine ae (aK (aj (FZ1 [] Tryz.results174 rfl ?_)))
    exact ⟨⟨rfl,rfl⟩,_,rfl,fun _=>trivial⟩
   ·skip
    refine go 2 [0,0] ?_
    refine aa _ rfl (fun h4 => ?_) (fun h4 => ?_)
    ·skip
     refine go 0 [32257,5,0] ?_
     refine aE (caps:=[]) [1] (false) (by kernel_rfl) true rfl rfl (fun _=>rfl) (fun hc=>rfl) (fun hc=>by rw [List.append_nil];exact m6 o _ _) (fun c3 hc3 => ?_)
     refine go 2 [0] ?_
     refine ae (aK (aj (FZ1 [] Tryz.results174 rfl ?_)))
     exact ⟨⟨rfl,rfl⟩,_,rfl,fun _=>trivial⟩
    ·skip
     refine go 2 [0] ?_
     refine ae (FZ1 [] Tryz.results174 rfl ?_)
     exact ⟨⟨rfl,rfl⟩,_,rfl,fun _=>trivial⟩
theorem yR(x y:dP)(p:Per):Con Tryz.prog 175 [x.val,y.val] [p] [] (YB True):=by
 refine EN2 Tryz.func175 rfl (aSR (LT rfl (aS rfl rfl rfl (fun b0_0=>(aHN ?_)))))
 refine LT rfl (aS rfl rfl rfl (fun b0_1=>(aHN ?_)))
 refine go 3 [0] ?_
 refine DR [] 24 (go 0 [0,0,0,6] ?_)
 refine bV 4 rfl rfl (Q0 rfl (fQ _ _)) (go 0 [2,0,2,6] ?_)
 refine bV 9 rfl rfl (Q0 rfl (fQ _ _)) (go 0 [4,0,4,6] ?_)
 refine bV 14 rfl rfl (Q0 rfl (fQ _ _)) (go 0 [6,0,6,6] ?_)
 refine bV 19 rfl rfl (Q0 rfl (yw _ _)) (VB (zs:=[.int .i64 0]) 20 rfl el33 rfl rfl rfl rfl (.more rfl (.v rfl .nil) (.more rfl (.v rfl .nil) (.more rfl (.v rfl .nil) (.more rfl (.v rfl .nil) .nil)))) rfl rfl (fun v1_20 => ?_))
 refine cQ (caps:=[]) 21 rfl (by kernel_rfl) [1] ((0:Int)) (by kernel_rfl) true rfl rfl (fun _=>rfl) (fun hc=>rfl) (fun hc=>by rw [List.append_nil];exact vl ⟨v1_20,4,[oM x.sec y.sec,oM x.from_ y.from_,oM x.to_ y.to_,yq x.name y.name]⟩) (fun c1 hc1 => ?_)
 refine go 2 [0,0] ?_
 refine ae (FZ1 [] Tryz.results175 rfl ?_)
 exact ⟨⟨rfl,rfl⟩,_,rfl,fun _=>trivial⟩
theorem wH(o:aI):Con Tryz.prog 108 [o.val] [o.ok] [] (YB True):=by
 refine EN1 Tryz.func108 rfl (aSR (LT rfl (aS rfl rfl rfl (fun b0_0=>(aHN ?_)))))
 refine go 4 [0] ?_
 refine aU rfl (cA (l:=[.tmp 1]) rfl) (go 3 [0,0] ?_)
 refine aZ 0 rfl rfl ?_
 show awp _ _ _ _ ⟨_,At _ 0 _::_,_⟩
 refine go 0 [0,8,385,0] ?_
 refine aE (caps:=[]) [1,0] (false) (by kernel_rfl) true rfl rfl (fun _=>rfl) (fun hc=>rfl) (fun hc=>by rw [List.append_nil];exact (oT o.vars 174 [.pointer (some ⟨b0_0,0,none⟩)] (bQ (At b0_0 0 o.row) o.ok) (fun _=>True) (by kernel_rfl) (fun x hx=>(yQ b0_0 o x).pre (jm fA.left fA.right (.allm (aI.f_varsA fA.right) hx)))).pre (ej (aI.f_vars (.of (ax 1 rfl))) (.mk2 (.of (ax 0 rfl)) (.of (ax 1 rfl))))) (fun c1 hc1 => ?_)
 refine go 0 [0,0,8,385,0] ?_
 refine aE (caps:=[]) [0] (false) (by kernel_rfl) _ rfl rfl (fun _=>rfl) (fun hc=>(ao (ah rfl hc) (ao (ah rfl hc) rfl))) (fun hc=>by rw [List.append_nil];exact (pd o.vars 175 [] o.ok (by kernel_rfl) (fun x _ y _=>yR x y _)).pre (ej (aI.f_vars (.of (ax 0 rfl))) (.of (ax 0 rfl)))) (fun c2 hc2 => ?_)
 refine go 2 [0,0] ?_
 refine ae (FZ1 [] Tryz.results108 rfl ?_)
 exact ⟨⟨rfl,rfl⟩,_,rfl,fun _=>trivial⟩
theorem yK(b:Nat)(o:aI)(x:br):Con Tryz.prog 170 [x.val,.pointer (some ⟨b,0,none⟩)] [At b 0 o.row,o.ok,x.ok] [] (YB True):=by
 refine EN2 Tryz.func170 rfl (cL (br.f_name (.of (ax 2 rfl))) (fun hnl=>(cL (br.f_file (.of (ax 2 rfl))) (fun hfl=>(aSR (LT rfl (aS rfl rfl rfl (fun b0_0=>(aHN ?_)))))))))
 refine go 0 [0,32257,0,0,1,0,2,0] ?_
 refine aE (caps:=[]) [1] (false) (by kernel_rfl) true rfl rfl (fun _=>rfl) (fun hc=>rfl) (fun hc=>by rw [List.append_nil];exact nc o _ _ _) (fun c1 hc1 => ?_)
 refine go 0 [0,3,0] ?_
 refine aE (caps:=[]) [] (false) (by kernel_rfl) _ rfl rfl (fun _=>rfl) (fun hc=>(ao (ah rfl hc) rfl)) (fun hc=>by rw [List.append_nil];exact eQ _ hnl) (fun c2 hc2 => ?_)
 refine go 0 [0,0,4,0] ?_
 refine aE (caps:=[]) [] (false) (by kernel_rfl) _ rfl rfl (fun _=>rfl) (fun hc=>(ao (ah rfl hc) rfl)) (fun hc=>by rw [List.append_nil];exact pG _ hfl) (fun c3 hc3 => ?_)
 refine go 2 [0,0,5,0,0,0,0,5,0,0,0,0] ?_
 refine ae (FZ1 [] Tryz.results170 rfl ?_)
 exact ⟨⟨rfl,rfl⟩,_,rfl,fun _=>trivial⟩
theorem qI(o:aI)(hn:o.inlines.l.length≤100000000):Con Tryz.prog 107 [o.val] [o.ok] [] (YB True):=by
 refine EN1 Tryz.func107 rfl (aO (aI.f_inlines (.of (ax 0 rfl))) (fun hlen=>(aSR (LT rfl (aS rfl rfl rfl (fun b0_0=>(aHN ?_)))))))
 refine go 4 [0] ?_
 refine aZ 0 rfl rfl ?_
 show awp _ _ _ _ ⟨_,At _ 0 _::_,_⟩
 refine go 0 [0,7,337] ?_
 refine aU rfl (cA (l:=[.tmp 1]) rfl) ?_
 refine aE (caps:=[]) [1,0] (false) (by kernel_rfl) true rfl rfl (fun _=>rfl) (fun hc=>rfl) (fun hc=>by rw [List.append_nil];exact (kS o.inlines 170 [.pointer (some ⟨b0_0,0,none⟩)] (bQ (At b0_0 0 o.row) o.ok) (fun _=>True) (by kernel_rfl) (fun x hx=>(yK b0_0 o x).pre (jm fA.left fA.right (.allm (aI.f_inlinesA fA.right) hx)))).pre (ej (aI.f_inlines (.of (ax 1 rfl))) (.mk2 (.of (ax 0 rfl)) (.of (ax 1 rfl))))) (fun c1 hc1 => ?_)
 refine go 2 [0] ?_
 refine aa _ rfl (fun h1 => ?_) (fun h1 => ?_)
 ·skip
  refine go 2 [0] ?_
  refine ae (aj (FZ1 [] Tryz.results107 rfl ?_))
  exact ⟨⟨rfl,rfl⟩,_,rfl,fun _=>trivial⟩
 ·skip
  refine go 4 [0] ?_
  refine cV 243 6 ?_
  show awp _ _ _ _ ⟨_,_,[_,_]⟩
  refine go 3 [0,7,337,243,0] ?_
  refine aF [1,3,15,16,17] [1,0] [1] (fun (q:Nat × (Value × List br)) s=>(q.1≤o.inlines.l.length∧q.2.2.length≤q.1)∧s=⟨[(1,true,.pointer (some ⟨b0_0,0,none⟩)),(3,true,q.2.1),(15,true,o.inlines.val),(16,true,.int .i64 o.inlines.l.length),(17,true,.int .i64 q.1)],[At b0_0 0 o.row,o.ok],[aP q.2.1 243 6 (q.2.2.map br.row)]⟩) (fun q=>o.inlines.l.length-q.1) rfl (⟨(0,(_,[])),⟨Nat.zero_le _,Nat.le_refl _⟩,rfl⟩) ?_
  rintro ⟨k,v,zs⟩ s ⟨⟨hk,hz⟩,rfl⟩
  dsimp only at hk hz
  refine go 3 [0] ?_
  refine aa _ rfl (fun h2 => ?_) (fun h2 => ?_)
  ·skip
   have hk':k<o.inlines.l.length:=by simp at h2;omega
   obtain ⟨x,hx⟩:∃ x,o.inlines.l[k]? = some x:=⟨_,List.getElem?_eq_getElem hk'⟩
   refine go 0 [0] ?_
   refine bI true rfl rfl (fun _=>ai Tryz.underlying48 tk243 rfl ((aI.f_inlines (.of (ax 1 rfl)))) rfl (ak hx) rfl rfl) (fun h=>absurd h (by decide)) (fun ⟨b6_1,o6_1⟩=>(go 0 [16898] ?_))
   refine LT rfl (aW (zs:=[.int .i64 0,.int .i64 0,.int .i64 0,.string .empty,.string .empty,.int .i64 0]) (by kernel_rfl) rfl (fun b6_3=>(aHN ?_)))
   refine go 3 [0,16899] ?_
   refine mK (X:=Nat) (fun q=>⟨[(1,true,.pointer (some ⟨b0_0,0,none⟩)),(3,true,v),(5,true,.pointer (some ⟨q,0,none⟩)),(15,true,o.inlines.val),(16,true,.int .i64 o.inlines.l.length),(17,true,.int .i64 k)],[At b0_0 0 o.row,o.ok],[aP v 243 6 (zs.map br.row),Box q 243 x.vs]⟩) ?_ ?_
   ·skip
    refine go 2 [0,0] ?_
    refine aa _ rfl (fun h3 => ?_) (fun h3 => ?_)
    ·skip
     obtain ⟨j,rfl⟩:∃ j,k=j+1:=⟨k-1,by simp at h3;omega⟩
     obtain ⟨y,hy⟩:∃ y,o.inlines.l[j]? = some y:=⟨_,List.getElem?_eq_getElem (by omega)⟩
     refine go 0 [0,7,340,0,0] ?_
     refine bI true rfl rfl (fun _=>ai Tryz.underlying48 tk243 rfl ((aI.f_inlines (.of (ax 2 rfl)))) rfl (ak hy) (by omega) rfl) (fun h=>absurd h (by decide)) (fun ⟨b8_5,o8_5⟩=>(go 0 [16898] ?_))
     refine LT rfl (aW (zs:=[.int .i64 0,.int .i64 0,.int .i64 0,.string .empty,.string .empty,.int .i64 0]) (by kernel_rfl) rfl (fun b8_7=>(aHN ?_)))
     refine go 3 [16902] ?_
     refine DR [] 18 (go 0 [0,12,0,6] ?_)
     refine bV 4 rfl rfl (Q0 rfl (fQ _ _)) (go 0 [2,12,2,6] ?_)
     refine bV 9 rfl rfl (Q0 rfl (fQ _ _)) (go 0 [4,6,4,12] ?_)
     refine bV 14 rfl rfl (Q0 rfl (fQ _ _)) (VB (zs:=[.int .i64 0]) 15 rfl el33 rfl rfl rfl rfl (.more rfl (.v rfl .nil) (.more rfl (.v rfl .nil) (.more rfl (.v rfl .nil) .nil))) rfl rfl (fun v9_15 => ?_))
     refine cQ (caps:=[]) 16 rfl (by kernel_rfl) [4] ((0:Int)) (by kernel_rfl) true rfl rfl (fun _=>rfl) (fun hc=>rfl) (fun hc=>by rw [List.append_nil];exact vl ⟨v9_15,3,[oM y.sec x.sec,oM y.from_ x.from_,oM x.to_ y.to_]⟩) (fun c2 hc2 => ?_)
     refine go 2 [0] ?_
     refine aa _ rfl (fun h4 => ?_) (fun h4 => ?_)
     ·skip
      refine go 2 [0] ?_
      refine ae (aj (aK (aj (aj (aK (aj (FZ1 [] Tryz.results107 rfl ?_)))))))
      exact ⟨⟨rfl,rfl⟩,_,rfl,fun _=>trivial⟩
     ·skip
      refine aD (an ?_)
      first
      | exact ⟨[1,3,5,15,16,17],[1,0],[0,1],b6_3,rfl,rfl⟩
      | exact ⟨[1,3,5,15,16,17],[1,0],[0,1],b6_3,rfl,rfl⟩
    ·skip
     refine aD (an ?_)
     first
     | exact ⟨[1,3,5,15,16,17],[1,0],[0,1],b6_3,rfl,rfl⟩
     | exact ⟨[1,3,5,15,16,17],[1,0],[0,1],b6_3,rfl,rfl⟩
   ·skip
    rintro bx
    refine aq (aH (aF [1,3,5,15,16,17] [1,0] [0,1] (fun (q:Value × List br) s=>q.2.length≤k∧s=⟨[(1,true,.pointer (some ⟨b0_0,0,none⟩)),(3,true,q.1),(5,true,.pointer (some ⟨bx,0,none⟩)),(15,true,o.inlines.val),(16,true,.int .i64 o.inlines.l.length),(17,true,.int .i64 k)],[At b0_0 0 o.row,o.ok],[aP q.1 243 6 (q.2.map br.row),Box bx 243 x.vs]⟩) (fun q=>q.2.length) rfl (⟨(v,zs),hz,rfl⟩) ?_))
    rintro ⟨u,ys⟩ s ⟨hy,rfl⟩
    dsimp only at hy
    refine aq (aq (DR [] 27 (VM 0 rfl rfl (bV 1 rfl rfl (dQ 0 Tryz.underlying48 rfl rfl) (go 0 [0,0,0,0] ?_)))))
    refine bW 6 rfl rfl rfl (fun hc=>dQ 0 Tryz.underlying48 (ah rfl hc) rfl) ?_
    refine bW 7 rfl rfl rfl (fun hc=>lB (ah rfl hc) rfl (by simp only [List.length_map] at hc ⊢;omega)) ?_
    refine bW 8 rfl rfl rfl (fun hc=>bK 0 (ys.length-1) el48 (ah rfl hc) rfl (ah rfl hc) (by simp at hc ⊢;omega) (by simp at hc ⊢;omega)) ?_
    refine go 0 [0] ?_
    refine bW 10 rfl rfl rfl (fun hc=>bl 0 (ys.length-1) 0 tk3 (ah rfl hc) rfl (ak (bA (l:=ys) (i:=ys.length-1) (by simp at hc;omega))) rfl rfl) ?_
    refine go 0 [0,6,0,0,0,0] ?_
    refine bW 17 rfl rfl rfl (fun hc=>dQ 0 Tryz.underlying48 (ah rfl hc) rfl) ?_
    refine bW 18 rfl rfl rfl (fun hc=>lB (ah rfl hc) rfl (by simp only [List.length_map] at hc ⊢;omega)) ?_
    refine bW 19 rfl rfl rfl (fun hc=>bK 0 (ys.length-1) el48 (ah rfl hc) rfl (ah rfl hc) (by simp at hc ⊢;omega) (by simp at hc ⊢;omega)) ?_
    refine go 0 [4] ?_
    refine bW 21 rfl rfl rfl (fun hc=>bl 0 (ys.length-1) 2 tk3 (ah rfl hc) rfl (ak (bA (l:=ys) (i:=ys.length-1) (by simp at hc;omega))) rfl rfl) ?_
    refine go 2 [2,6,0,0,0] ?_
    refine aa _ rfl (fun h5 => ?_) (fun h5 => ?_)
    ·skip
     refine aD (an (aH ?_))
     have hne:ys≠[]:=by intro h0;subst h0;simp at h5
     have hlp:0<ys.length:=List.length_pos_iff.2 hne
     refine iS 0 rfl (by simpa using hne) (fun B cp hv hcp => ?_)
     rw [List.length_map] at hv hcp
     dsimp only at hv hcp h5 ⊢
     subst hv
     refine mJ 0 (ys.length-1) rfl (by simp) ?_
     refine go 0 [0,0,243,0] ?_
     refine aU rfl (gB (ys.length-1) el48 rfl rfl (by omega) (by omega) hcp) (go 2 [0] ?_)
     refine an ?_
     refine ⟨[1,3,5,15,16,17],[1,0],[0,1],rfl,?_⟩
     exact ⟨(_,ys.take (ys.length-1)),⟨by dsimp only;rw [List.length_take];omega,by dsimp only;rw [List.map_take];rfl⟩,by dsimp only;rw [List.length_take];omega⟩
    ·skip
     refine aY (bb (bb (bg (an (aq (aq (DR [] 15 (VM 0 rfl rfl (bV 1 rfl rfl (dQ 0 Tryz.underlying48 rfl rfl) (go 0 [0,0,0,0] ?_))))))))))
     refine bW 6 rfl rfl rfl (fun hc=>dQ 0 Tryz.underlying48 (ah rfl hc) rfl) ?_
     refine bW 7 rfl rfl rfl (fun hc=>lB (ah rfl hc) rfl (by simp only [List.length_map] at hc ⊢;omega)) ?_
     refine bW 8 rfl rfl rfl (fun hc=>bK 0 (ys.length-1) el48 (ah rfl hc) rfl (ah rfl hc) (by simp at hc ⊢;omega) (by simp at hc ⊢;omega)) ?_
     refine go 0 [4] ?_
     refine bW 10 rfl rfl rfl (fun hc=>bl 0 (ys.length-1) 2 tk3 (ah rfl hc) rfl (ak (bA (l:=ys) (i:=ys.length-1) (by simp at hc;omega))) rfl rfl) ?_
     refine go 2 [4,6,0,0] ?_
     refine aa _ rfl (fun h6 => ?_) (fun h6 => ?_)
     ·skip
      refine go 2 [0] ?_
      refine ae (aj (aK (aj (aj (aK (aj (FZ1 [] Tryz.results107 rfl ?_)))))))
      exact ⟨⟨rfl,rfl⟩,_,rfl,fun _=>trivial⟩
     ·skip
      refine go 0 [0,16899] ?_
      refine LT rfl (WL (zs:=[.int .i64 0,.int .i64 0,.int .i64 0,.string .empty,.string .empty,.int .i64 0]) el48 rfl rfl rfl (.more rfl (.v rfl (.v rfl (.v rfl (.v rfl (.v rfl (.v rfl .nil)))))) .nil) rfl rfl (fun v15_2=>(aHN ?_)))
      refine aT rfl (bH 0 el48 rfl rfl rfl rfl (cP 2 el48 rfl (by simp)) (by first | assumption | simp) (by show (ys.map br.row).length+1≤_;rw [List.length_map];exact Nat.le_trans (show ys.length+1≤100000001 by omega) (by decide)) ((ys++[x]).length) (by show (ys.map br.row).length+1=_;rw [List.length_map,List.length_append];rfl) (fun v15_3 c15_3 => ?_))
      refine aHK ?_
      refine go 1 [0,0,0] ?_
      refine an ?_
      refine ⟨[1,3,15,16,17],[1,0],[0],rfl,?_⟩
      exact ⟨(k+1,(_,ys++[x])),⟨⟨by dsimp only;omega,by dsimp only;rw [List.length_append];simp;omega⟩,by dsimp only;rw [List.map_append];rfl⟩,by dsimp only;omega⟩
  ·skip
   refine go 2 [0] ?_
   refine ae (FZ1 [] Tryz.results107 rfl ?_)
   exact ⟨⟨rfl,rfl⟩,_,rfl,fun _=>trivial⟩
theorem tk244:tyk Tryz.prog 244=some (false,1):=by kernel_rfl
theorem rN(a n s:Int)(p:Per):Con Tryz.prog 184 [.int .i64 a,.int .i64 n,.int .i64 s] [p] [] (YB True):=by
 refine EN3 Tryz.func184 rfl (go 0 [0,0] ?_)
 refine aU rfl (eT rfl rfl) (aM rfl (aG rfl rfl (fun hc=>bo rfl) (aG rfl rfl (fun hc=>eT (ah rfl hc) rfl) (go 0 [0,0,0,0] ?_))))
 refine aG rfl rfl (fun hc=>lY (ah rfl hc) (ah rfl hc)) (go 0 [0,0,0,0,0] ?_)
 refine aG rfl rfl (fun hc=>sS (ah rfl hc) (ah rfl hc)) (aG rfl rfl (fun hc=>lY (ah rfl hc) (ah rfl hc)) (go 2 [0,0] ?_))
 refine ae (FZ1 [] Tryz.results184 rfl ?_)
 exact ⟨⟨rfl,rfl⟩,_,rfl,fun _=>trivial⟩
theorem yy(b1 b2:Nat)(n:Int)(x:cN):Con Tryz.prog 186 [x.val,.pointer (some ⟨b1,0,none⟩),.pointer (some ⟨b2,0,none⟩)] [At b1 0 [.v (.func (.func 184) #[] #[])],At b2 0 [.v (.int .i64 n)]] [] (YB True):=by
 refine EN3 Tryz.func186 rfl (aSR (LT rfl (aS rfl rfl rfl (fun b0_0=>(aHN ?_)))))
 refine go 4 [0] ?_
 refine UD 0 tk244 0 rfl rfl rfl rfl (go 0 [0,0,1,0] ?_)
 refine aE [0] (false) (by kernel_rfl) true rfl rfl (fun _=>rfl) (fun hc=>rfl) (fun hc=>rN _ _ _ _) (fun c1 hc1=>(aM rfl (aG rfl rfl (fun hc=>cm (o:=0) tk244 rfl (.of (ax 0 rfl)) rfl) (go 0 [2,0,1,0,4] ?_))))
 refine aE [0] (false) (by kernel_rfl) _ rfl rfl (fun hc=>(ah rfl hc)) (fun hc=>(ao (ah rfl hc) (ao (ah rfl hc) (ao (ah rfl hc) rfl)))) (fun hc=>rN _ _ _ _) (fun c2 hc2=>(go 2 [0,0] ?_))
 refine ae (FZ1 [] Tryz.results186 rfl ?_)
 exact ⟨⟨rfl,rfl⟩,_,rfl,fun _=>trivial⟩
theorem yz(x y:cN)(p:Per):Con Tryz.prog 188 [x.val,y.val] [p] [] (YB True):=by
 refine EN2 Tryz.func188 rfl (aSR (LT rfl (aS rfl rfl rfl (fun b0_0=>(aHN ?_)))))
 refine LT rfl (aS rfl rfl rfl (fun b0_1=>(aHN ?_)))
 refine go 0 [0,2,0,1,0] ?_
 refine aU rfl (zB rfl rfl) (go 0 [2,3] ?_)
 refine aU rfl (lY rfl rfl) (go 2 [0] ?_)
 refine ae (FZ1 [] Tryz.results188 rfl ?_)
 exact ⟨⟨rfl,rfl⟩,_,rfl,fun _=>trivial⟩
theorem aaz(x y:bp)(p:Per):Con Tryz.prog 189 [x.val,y.val] [p] [] (YB True):=by
 refine EN2 Tryz.func189 rfl (aSR (LT rfl (aS rfl rfl rfl (fun b0_0=>(aHN ?_)))))
 refine LT rfl (aS rfl rfl rfl (fun b0_1=>(aHN ?_)))
 refine go 0 [0,0,0,0,3,0,0,0,0,0,3,0,0,1,0,1,3] ?_
 refine aG rfl rfl (fun hc=>zJ (ah rfl hc) (ah rfl hc)) (go 2 [0,0,0] ?_)
 refine ae (FZ1 [] Tryz.results189 rfl ?_)
 exact ⟨⟨rfl,rfl⟩,_,rfl,fun _=>trivial⟩
theorem aay(b:Nat)(o:aI)(x:bp):Con Tryz.prog 183 [x.val,.pointer (some ⟨b,0,none⟩)] [At b 0 o.row,o.ok,x.ok] [] (YB True):=by
 refine EN2 Tryz.func183 rfl (aO (aI.f_secs (.of (ax 1 rfl))) (fun hlen=>(aSR (LT rfl (aS rfl rfl rfl (fun b0_0=>(aHN ?_)))))))
 refine go 0 [0,32257,0,0] ?_
 refine eK (zs:=[.int .i64 0]) (l:=[(0,.const (.int .i64 1))]) el33 (by kernel_rfl) (by decide) (by decide) (by decide) rfl _ rfl (fun hc=>rfl) rfl (.more rfl (.v rfl .nil) .nil) rfl rfl (fun v1_3 => ?_)
 refine aE (caps:=[]) [3,1] (false) (by kernel_rfl) true rfl rfl (fun _=>rfl) (fun hc=>rfl) (fun hc=>by rw [List.append_nil];exact (j7 o ⟨v1_3,1,[1]⟩ _).pre (ej (.yes (.of (ax 0 rfl)) rfl) (.of (ax 1 rfl)))) (fun c1 hc1 => ?_)
 refine go 0 [0,0,1,0,0,0,0,0,3,0,0,0,32260,3,0] ?_
 refine aE (caps:=[]) [1] (false) (by kernel_rfl) _ rfl rfl (fun _=>rfl) (fun hc=>(ao (ah rfl hc) (ao (ah rfl hc) (ao (ah rfl rfl) rfl)))) (fun hc=>by rw [List.append_nil];exact m6 o _ _) (fun c2 hc2 => ?_)
 refine go 2 [0,0,0] ?_
 refine aa _ rfl (fun h1 => ?_) (fun h1 => ?_)
 ·skip
  refine go 2 [0] ?_
  refine ae (aj (FZ1 [] Tryz.results183 rfl ?_))
  exact ⟨⟨rfl,rfl⟩,_,rfl,fun _=>trivial⟩
 ·skip
  have hsec:0≤x.sec∧x.sec<o.secs.l.length:=by
    simp only [Bool.or_eq_false_iff,Bool.not_eq_false'] at h1
    exact hc1 rfl h1.1.1
  refine go 0 [0,1,52,0,0] ?_
  refine bI true rfl rfl (fun _=>ai Tryz.underlying118 tk174 rfl ((aI.f_secs (.of (ax 2 rfl)))) rfl (bN (i:=x.sec) (by omega) (by omega)) (by omega) rfl) (fun h=>absurd h (by decide)) (fun ⟨b3_5,o3_5⟩=>(go 0 [3,146] ?_))
  refine LT rfl (aW (zs:=[.int .i64 0]) (by kernel_rfl) rfl (fun b3_8=>(aHN ?_)))
  refine go 3 [3] ?_
  refine aZ 1 rfl rfl ?_
  show awp _ _ _ _ ⟨_,At _ 0 _::_,_⟩
  refine az (LT rfl (aW (zs:=[.nilFunc]) (by kernel_rfl) rfl (fun b4_0=>(aHN ?_))))
  refine aT rfl (bX 2 tk244 rfl rfl rfl rfl (aHK ?_))
  refine aNs (aZ 2 rfl rfl ?_)
  show awp _ _ _ _ ⟨_,At _ 0 _::_,_⟩
  refine go 0 [2,0] ?_
  refine aU rfl (cA (l:=[.tmp 5,.tmp 4]) rfl) ?_
  refine aE (caps:=[]) [6,5,0] (false) (by kernel_rfl) true rfl rfl (fun _=>rfl) (fun hc=>rfl) (fun hc=>by rw [List.append_nil];exact (l9 x.pieces 186 [.pointer (some ⟨b4_0,0,none⟩),.pointer (some ⟨b3_8,0,none⟩)] (bQ (At b4_0 0 [.v (.func (.func 184) #[] #[])]) (At b3_8 0 [.v (.int .i64 (elt o.secs.l x.sec).size)])) (fun _=>True) (by kernel_rfl) (fun y _=>(yy b4_0 b3_8 _ y).pre (ej fA.left fA.right))).pre (ej (bp.f_pieces (.of (ax 2 rfl))) (.mk2 (.of (ax 0 rfl)) (.of (ax 1 rfl))))) (fun c3 hc3 => ?_)
  refine go 0 [0,2,0] ?_
  refine aE (caps:=[]) [0] (false) (by kernel_rfl) _ rfl rfl (fun _=>rfl) (fun hc=>(ao (ah rfl hc) (ao (ah rfl rfl) rfl))) (fun hc=>by rw [List.append_nil];exact (mg x.pieces 188 [] x.ok (by kernel_rfl) (fun y _ z _=>yz y z _)).pre (ej (bp.f_pieces (.of (ax 0 rfl))) (.of (ax 0 rfl)))) (fun c4 hc4 => ?_)
  refine go 2 [0,0] ?_
  refine ae (FZ1 [] Tryz.results183 rfl ?_)
  exact ⟨⟨rfl,rfl⟩,_,rfl,fun _=>trivial⟩
theorem pa(o:aI):Con Tryz.prog 110 [o.val] [o.ok] [] (YB True):=by
 refine EN1 Tryz.func110 rfl (aSR (LT rfl (aS rfl rfl rfl (fun b0_0=>(aHN ?_)))))
 refine go 4 [0] ?_
 refine aU rfl (cA (l:=[.tmp 1]) rfl) (go 3 [0,0] ?_)
 refine aZ 0 rfl rfl ?_
 show awp _ _ _ _ ⟨_,At _ 0 _::_,_⟩
 refine go 0 [0,10,481,0] ?_
 refine aE (caps:=[]) [1,0] (false) (by kernel_rfl) true rfl rfl (fun _=>rfl) (fun hc=>rfl) (fun hc=>by rw [List.append_nil];exact (j5 o.converts 183 [.pointer (some ⟨b0_0,0,none⟩)] (bQ (At b0_0 0 o.row) o.ok) (fun _=>True) (by kernel_rfl) (fun x hx=>(aay b0_0 o x).pre (jm fA.left fA.right (.allm (aI.f_convertsA fA.right) hx)))).pre (ej (aI.f_converts (.of (ax 1 rfl))) (.mk2 (.of (ax 0 rfl)) (.of (ax 1 rfl))))) (fun c1 hc1 => ?_)
 refine go 0 [0,0,10,481,0] ?_
 refine aE (caps:=[]) [0] (false) (by kernel_rfl) _ rfl rfl (fun _=>rfl) (fun hc=>(ao (ah rfl hc) (ao (ah rfl hc) rfl))) (fun hc=>by rw [List.append_nil];exact (j8 o.converts 189 [] o.ok (by kernel_rfl) (fun x _ y _=>aaz x y _)).pre (ej (aI.f_converts (.of (ax 0 rfl))) (.of (ax 0 rfl)))) (fun c2 hc2 => ?_)
 refine go 2 [0,0] ?_
 refine ae (FZ1 [] Tryz.results110 rfl ?_)
 exact ⟨⟨rfl,rfl⟩,_,rfl,fun _=>trivial⟩
end Go.Proofs.YtgkbbdgklpabpaaGreatDoor

namespace Go.Sy
open Go.RowKit Go.Lp
section
variable {P:Program} {d:Option Tmp} {ty:TypeId} {pos:String} {af:Array Edge} {gd:Option (Nat × Bool)}
theorem uy{f:FuncId}(hf:aX P f=true){ts:Array TypeId}{g:Operand}{fst caps:Array Value}{ρ:Operand→Value}(hg:ρ g=.func (.func f) fst caps)(w:World) :
   (execOp ρ ⟨d,.call ⟨.value g,#[],ts⟩,ty,pos,af,gd⟩).run P w=.ok (.enter f (fst++caps)) w:=by
 unfold execOp
 dsimp only
 show ((resolve ρ ⟨.value g,#[],ts⟩ ty).bind fun x=>invoke x.target x.args).run P w=_
 have:resolve ρ ⟨.value g,#[],ts⟩ ty=Sem.pure { target:=.fn (.func f) caps,args:=fst } := by
   unfold resolve
   dsimp only
   rw [hg]
   show Deferred.ofValue _ _=_
   unfold Deferred.ofValue
   dsimp only
   rw [Array.map_empty,Array.append_empty]
   rfl
 rw [this]
 show (callFunc f (fst++caps)).run P w=_
 exact fK hf _ w
variable {n:Fr} {s:Sta}
theorem dZ{fn:Fn}{l:List Operand}{vs:List Value}(hx:evs s.env l=some vs) :
   Quiet P n ⟨d,.makeFunc fn l.toArray #[],ty,pos,af,gd⟩ s (.func fn vs.toArray #[]):=fun w S fp a hst he hn=>by
 have:(execOp a.eval ⟨d,.makeFunc fn l.toArray #[],ty,pos,af,gd⟩).run P w=.ok (.value (.func fn (l.toArray.map a.eval) #[])) w:=by
   show Result.ok (Next.value (.func fn (l.toArray.map a.eval) ((#[]:Array Operand).map a.eval))) w=_
   rw [Array.map_empty]
 rw [this,List.map_toArray,eM he l vs hx]
 exact bE _ _
variable {ops:Array Oper} {Q:Exit→Sta→Prop} {env:Env} {ps:List Per} {hp:List Res} {rest:List Oper}
theorem aaH{t:Nat}{f:FuncId}{g:Operand}{fst:List Value}{ts:Array TypeId}{q:Bool}{R:Value→List Per→List Res→Prop}{K:Sta→Prop}(lp lh:List Nat)(hf:aX P f=true)(hgv:ev env g=some (true,.func (.func f) fst.toArray #[]))(ht:fits n (some t)=true)(ok:okH hp lh=true)
   (hq:(!q || lh.isEmpty)=true) (hc:Con P f fst (el ps lp) (bT hp lh) R) (hK:∀ v ps' hp',R v ps' hp'→K ⟨(t,true,v)::env,ps'++ps,fD lh hp' 0 hp⟩) :
   Eff P n ⟨some t,.call ⟨.value g,#[],ts⟩,ty,pos,af,gd⟩ ⟨env,ps,hp⟩ q K:=fun w S fp a hst he hn=>by
 rw [uy hf (he.val hgv rfl)]
 obtain ⟨k1,k2⟩:=hst.bT lp lh ok
 have hcc:=hc w S _ k1
 rw [Array.append_empty]
 refine hcc.mono fun e w' ⟨v,ps',hp',S',fp',he',hR,hst',hE,hg⟩=>⟨v,he',?_⟩
 obtain ⟨m1,m2⟩:=hst.back lp lh ok hst' hE hg
 refine ⟨_,S',_,hK v ps' hp' hR,m1,?_,hE.wider k2,m2,fun hq' => ?_⟩
 · exact he.put (g:=true) (by rw [hn];simpa [fits] using ht) v
 · rw [hq'] at hq
   have:lh=[]:=by simpa using hq
   subst this
   exact hE.toX (fun b hb=>mE _ b hb)
theorem rA{β:Type}{v:β→Value}{Φ:β→Prop}{t:Nat}{f:FuncId}{g:Operand}{fst:List Value}{ts:Array TypeId}(lp:List Nat)(hf:aX P f=true)(hc:guardOf ops env ⟨some t,.call ⟨.value g,#[],ts⟩,ty,pos,af,gd⟩=some true)(ht:fits n.size (some t)=true)
   (hgv:ev env g=some (true,.func (.func f) fst.toArray #[])) (hcon:Con P f fst (el ps lp) [] (YN v Φ))
   (h:∀ b,Φ b→aL P n ops Q rest ⟨(t,true,v b)::env,ps,hp⟩):aL P n ops Q (⟨some t,.call ⟨.value g,#[],ts⟩,ty,pos,af,gd⟩::rest) ⟨env,ps,hp⟩:=by
 refine aT (q:=true) hc (aaH lp [] hf hgv ht rfl rfl hcon ?_)
 rintro _ _ _ ⟨⟨rfl,rfl⟩,b,rfl,hb⟩
 refine ig ?_ (h b hb)
 apply List.ext_getElem?;intro i;rw [iJ]
 by_cases hi:i<hp.length
 · rw [if_pos hi];rfl
 · rw [if_neg hi,List.getElem?_eq_none (by simp),List.getElem?_eq_none (by omega)]
end
end Go.Sy

namespace Go.Proofs.YtgkbbdgklpabpaaGreatDoor
open Go.RowKit Go.Lp Go.Sy
structure abt (o:aI):Prop where
 secOk:∀ s∈o.secs.l,mF s
 rels:∀ r∈o.rels.l,rz o r
 syms:∀ s∈o.syms.l,(s.sec = -1∧s.bind≠0)∨(0≤s.sec∧s.sec<o.secs.l.length)
 groups:∀ g∈o.groups.l,g.secs.l.length≤o.secs.l.length∧∀ z∈g.secs.l,0≤z∧z<o.secs.l.length
def RtK(o:aI)(k:Nat):Prop:=match k with
 | 0=>∀ s∈o.secs.l,mF s
 | 1=>∀ s∈o.syms.l,(s.sec = -1∧s.bind≠0)∨(0≤s.sec∧s.sec<o.secs.l.length)
 | 2=>∀ r∈o.rels.l,rz o r
 | 3=>∀ g∈o.groups.l,g.secs.l.length≤o.secs.l.length∧∀ z∈g.secs.l,0≤z∧z<o.secs.l.length
 | _=>True
structure xT (o:aI):Prop where
 secs:o.secs.l.length≤1000
 groups:o.groups.l.length≤1000
 inlines:o.inlines.l.length≤100000000
end Go.Proofs.YtgkbbdgklpabpaaGreatDoor

