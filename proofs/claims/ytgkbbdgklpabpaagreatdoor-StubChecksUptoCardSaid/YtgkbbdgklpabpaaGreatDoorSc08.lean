/- Parts of the proof, in build order. No condition. -/
import Derived.Test.YtgkbbdgklpabpaaGreatDoorSc07
import Derived.Test.YtgkbbdgklpabpaaGreatDoorSc05
set_option linter.unusedSimpArgs false
set_option linter.unusedVariables false
set_option maxHeartbeats 20000000
set_option maxRecDepth 20000
namespace Go.Proofs.YtgkbbdgklpabpaaGreatDoor
open Go.RowKit Go.Lp Go.Sy
open Go.Proofs.Tryz
attribute [local irreducible] aL aB awp aC fwp Quiet
theorem tk206:tyk Tryz.prog 206=some (false,1):=by kernel_rfl
theorem kY(l:Sl bw)(F:FuncId)(caps:List Value)(p q:Per)(Ψ:bw→Bool→Prop)(hF:aX Tryz.prog F=true)(h:∀ a∈l.l,Con Tryz.prog F (a.val::caps) [p,q] [] (YN Value.bool (Ψ a))):Con Tryz.prog 239 [l.val,.func (.func F) #[] caps.toArray] [ShF bw.row l,p,q] []
   (YN (fun z:Int=>.int .i64 z) (fun z=>(z≥0→∃ a∈l.l,Ψ a true)∧(¬ z≥0→∀ a∈l.l,Ψ a false))):=by
 refine Con.enter Tryz.func239 rfl (by simp [Tryz.ntmps239]) ?_
 show awp _ _ _ _ ⟨[(0,true,_),(1,true,_)],_,_⟩
 refine aO (.of (ax 0 rfl)) (fun hlen => ?_)
 refine go 3 [0,0,174,0] ?_
 refine aF [0,1,7,8] [2,1,0] [] (fun (k:Nat) s=>(k≤l.l.length∧∀ a∈l.l.take k,Ψ a false)∧s=⟨[(0,true,l.val),(1,true,.func (.func F) #[] caps.toArray),(7,true,.int .i64 l.l.length),(8,true,.int .i64 k)],[ShF bw.row l,p,q],[]⟩) (fun k=>l.l.length-k) rfl (⟨0,⟨Nat.zero_le _,fun a ha=>by cases ha⟩,rfl⟩) ?_
 rintro k s ⟨⟨hk,hno⟩,rfl⟩
 refine go 3 [0] ?_
 refine aa _ rfl (fun h1 => ?_) (fun h1 => ?_)
 ·skip
  have hk':k<l.l.length:=by simpa using h1
  obtain ⟨a,ha⟩:∃ a,l.l[k]? = some a:=⟨l.l[k]'hk',by simp⟩
  refine go 0 [0,0,0,0,0] ?_
  refine bI true rfl rfl (fun _=>ai Tryz.underlying118 tk174 rfl ((.of (ax 0 rfl))) rfl (ak ha) rfl rfl) (fun h=>absurd h (by decide)) (fun ⟨b4_3,o4_3⟩ => ?_)
  refine go 0 [16898] ?_
  refine aE [1,0] (false) hF true rfl rfl (fun _=>rfl) (fun hc=>rfl) (fun hc=>h a (List.mem_of_getElem? ha)) (fun c hc => ?_)
  refine aNn ?_
  refine aa _ rfl (fun h2 => ?_) (fun h2 => ?_)
  ·skip
   refine go 2 [0,0] ?_
   refine ae (aK (aj (aj (aK (aj ?_)))))
   refine bB [] [] rfl Tryz.results239 rfl ?_ (.inr rfl)
   exact ⟨⟨rfl,rfl⟩,_,rfl,fun _=>⟨a,List.mem_of_getElem? ha,h2 ▸ hc rfl⟩,fun hz=>(hz (Int.natCast_nonneg k)).elim⟩
  ·skip
   refine go 1 [0,0] ?_
   refine an ?_
   refine ⟨[0,1,7,8],[2,1,0],[],rfl,?_⟩
   refine ⟨k+1,⟨⟨by omega,?_⟩,rfl⟩,by omega⟩
   intro y hy
   rw [List.take_add_one,ha,List.mem_append] at hy
   rcases hy with hy | hy
   · exact hno y hy
   · simp at hy;subst hy;exact h2 ▸ hc rfl
 ·skip
  refine go 2 [0] ?_
  refine ae ?_
  refine bB [] [] rfl Tryz.results239 rfl ?_ (.inr rfl)
  refine ⟨⟨rfl,rfl⟩,_,rfl,fun hz=>absurd hz (by decide),fun _ => ?_⟩
  rw [List.take_of_length_le (by simpa using h1)] at hno;exact hno
theorem kO(l:Sl bw)(F:FuncId)(caps:List Value)(p q:Per)(Ψ:bw→Bool→Prop)(hF:aX Tryz.prog F=true)(h:∀ a∈l.l,Con Tryz.prog F (a.val::caps) [p,q] [] (YN Value.bool (Ψ a))):Con Tryz.prog 206 [l.val,.func (.func F) #[] caps.toArray] [ShF bw.row l,p,q] []
   (YN Value.bool (fun b=>(b=true→∃ a∈l.l,Ψ a true)∧(b=false→∀ a∈l.l,Ψ a false))):=by
 refine Con.enter Tryz.func206 rfl (by simp [Tryz.ntmps206]) ?_
 show awp _ _ _ _ ⟨[(0,true,_),(1,true,_)],_,_⟩
 refine go 0 [0,0,0] ?_
 refine aT (q:=true) rfl (fe [2,1,0] [] (by kernel_rfl) rfl rfl rfl rfl (kY l F caps p q Ψ hF h) ?_)
 rintro _ _ _ ⟨⟨rfl,rfl⟩,z,rfl,hz⟩
 refine aST ?_
 refine go 2 [0,0] ?_
 refine ae ?_
 refine bB [] [] rfl Tryz.results206 rfl ?_ (.inr rfl)
 exact ⟨⟨rfl,rfl⟩,_,rfl,fun hb=>hz.1 (by simpa using hb),fun hb=>hz.2 (by simpa using hb)⟩

theorem jz(b:Nat)(F:FuncId)(caps:List Value)(p:Per)(a:bw)(Φ:Prop)(hF:aX Tryz.prog F=true)(h:Con Tryz.prog F (a.val::caps) [p] [] (YB Φ)):Con Tryz.prog 207 [a.val,.pointer (some ⟨b,0,none⟩)] [At b 0 [.v (.func (.func F) #[] caps.toArray)],p] []
   (YN Value.bool (fun b=>b=false→Φ)):=by
 refine Con.enter Tryz.func207 rfl (by simp [Tryz.ntmps207]) ?_
 show awp _ _ _ _ ⟨[(0,true,_),(1,true,_)],_,_⟩
 refine aSR ?_
 refine aT (q:=true) rfl (aS rfl rfl rfl (fun b0_0 => ?_))
 refine aHN ?_
 refine go 4 [0] ?_
 refine aU rfl (cm (o:=0) tk206 rfl (.of (ax 0 rfl)) rfl) ?_
 refine go 0 [16896] ?_
 refine aE [0] (false) hF true rfl rfl (fun _=>rfl) (fun hc=>rfl) (fun hc=>h) (fun c hc => ?_)
 refine go 2 [0,0] ?_
 refine ae ?_
 refine bB [] [] rfl Tryz.results207 rfl ?_ (.inr rfl)
 exact ⟨⟨rfl,rfl⟩,_,rfl,fun hb=>hc rfl (by simpa using hb)⟩
theorem j6(l:Sl bw)(F:FuncId)(caps:List Value)(p:Per)(Φ:bw→Prop)(hF:aX Tryz.prog F=true)(h:∀ a∈l.l,Con Tryz.prog F (a.val::caps) [p] [] (YB (Φ a))):Con Tryz.prog 137 [l.val,.func (.func F) #[] caps.toArray] [ShF bw.row l,p] []
   (YB (∀ a∈l.l,Φ a)):=by
 refine Con.enter Tryz.func137 rfl (by simp [Tryz.ntmps137]) ?_
 show awp _ _ _ _ ⟨[(0,true,_),(1,true,_)],_,_⟩
 refine aSR ?_
 refine aT (q:=true) rfl (aS rfl rfl rfl (fun b0_0 => ?_))
 refine aHN ?_
 refine go 3 [0] ?_
 refine aZ 0 rfl rfl ?_
 show awp _ _ _ _ ⟨_,At _ 0 _::_,_⟩
 refine az (aM rfl (aU rfl (cA (l:=[.tmp 3]) rfl) ?_))
 refine aE (caps:=[]) [1,2,0] (false) (by kernel_rfl) true rfl rfl (fun _=>rfl) (fun hc=>rfl) (fun hc=>by rw [List.append_nil];exact kO l 207 [.pointer (some ⟨b0_0,0,none⟩)] (At b0_0 0 [.v (.func (.func F) #[] caps.toArray)]) p (fun a b=>b=false→Φ a) (by kernel_rfl) (fun a ha=>jz b0_0 F caps p a (Φ a) hF (h a ha))) (fun c hc => ?_)
 refine go 2 [0,0] ?_
 refine ae ?_
 refine bB [] [] rfl Tryz.results137 rfl ?_ (.inr rfl)
 exact ⟨⟨rfl,rfl⟩,_,rfl,fun hb a ha=>(hc rfl).2 (by simpa using hb) a ha rfl⟩
theorem tk212:tyk Tryz.prog 212=some (false,1):=by kernel_rfl
theorem mb(l:Sl bJ)(F:FuncId)(caps:List Value)(p q:Per)(Ψ:bJ→Bool→Prop)(hF:aX Tryz.prog F=true)(h:∀ a∈l.l,Con Tryz.prog F (a.val::caps) [p,q] [] (YN Value.bool (Ψ a))):Con Tryz.prog 240 [l.val,.func (.func F) #[] caps.toArray] [ShF bJ.row l,p,q] []
   (YN (fun z:Int=>.int .i64 z) (fun z=>(z≥0→∃ a∈l.l,Ψ a true)∧(¬ z≥0→∀ a∈l.l,Ψ a false))):=by
 refine Con.enter Tryz.func240 rfl (by simp [Tryz.ntmps240]) ?_
 show awp _ _ _ _ ⟨[(0,true,_),(1,true,_)],_,_⟩
 refine aO (.of (ax 0 rfl)) (fun hlen => ?_)
 refine go 3 [0,0,176,0] ?_
 refine aF [0,1,7,8] [2,1,0] [] (fun (k:Nat) s=>(k≤l.l.length∧∀ a∈l.l.take k,Ψ a false)∧s=⟨[(0,true,l.val),(1,true,.func (.func F) #[] caps.toArray),(7,true,.int .i64 l.l.length),(8,true,.int .i64 k)],[ShF bJ.row l,p,q],[]⟩) (fun k=>l.l.length-k) rfl (⟨0,⟨Nat.zero_le _,fun a ha=>by cases ha⟩,rfl⟩) ?_
 rintro k s ⟨⟨hk,hno⟩,rfl⟩
 refine go 3 [0] ?_
 refine aa _ rfl (fun h1 => ?_) (fun h1 => ?_)
 ·skip
  have hk':k<l.l.length:=by simpa using h1
  obtain ⟨a,ha⟩:∃ a,l.l[k]? = some a:=⟨l.l[k]'hk',by simp⟩
  refine go 0 [0,0,0,0,0] ?_
  refine bI true rfl rfl (fun _=>ai Tryz.underlying119 tk176 rfl ((.of (ax 0 rfl))) rfl (ak ha) rfl rfl) (fun h=>absurd h (by decide)) (fun ⟨b4_3,o4_3⟩ => ?_)
  refine go 0 [29186] ?_
  refine aE [1,0] (false) hF true rfl rfl (fun _=>rfl) (fun hc=>rfl) (fun hc=>h a (List.mem_of_getElem? ha)) (fun c hc => ?_)
  refine aNn ?_
  refine aa _ rfl (fun h2 => ?_) (fun h2 => ?_)
  ·skip
   refine go 2 [0,0] ?_
   refine ae (aK (aj (aj (aK (aj ?_)))))
   refine bB [] [] rfl Tryz.results240 rfl ?_ (.inr rfl)
   exact ⟨⟨rfl,rfl⟩,_,rfl,fun _=>⟨a,List.mem_of_getElem? ha,h2 ▸ hc rfl⟩,fun hz=>(hz (Int.natCast_nonneg k)).elim⟩
  ·skip
   refine go 1 [0,0] ?_
   refine an ?_
   refine ⟨[0,1,7,8],[2,1,0],[],rfl,?_⟩
   refine ⟨k+1,⟨⟨by omega,?_⟩,rfl⟩,by omega⟩
   intro y hy
   rw [List.take_add_one,ha,List.mem_append] at hy
   rcases hy with hy | hy
   · exact hno y hy
   · simp at hy;subst hy;exact h2 ▸ hc rfl
 ·skip
  refine go 2 [0] ?_
  refine ae ?_
  refine bB [] [] rfl Tryz.results240 rfl ?_ (.inr rfl)
  refine ⟨⟨rfl,rfl⟩,_,rfl,fun hz=>absurd hz (by decide),fun _ => ?_⟩
  rw [List.take_of_length_le (by simpa using h1)] at hno;exact hno
theorem l4(l:Sl bJ)(F:FuncId)(caps:List Value)(p q:Per)(Ψ:bJ→Bool→Prop)(hF:aX Tryz.prog F=true)(h:∀ a∈l.l,Con Tryz.prog F (a.val::caps) [p,q] [] (YN Value.bool (Ψ a))):Con Tryz.prog 208 [l.val,.func (.func F) #[] caps.toArray] [ShF bJ.row l,p,q] []
   (YN Value.bool (fun b=>(b=true→∃ a∈l.l,Ψ a true)∧(b=false→∀ a∈l.l,Ψ a false))):=by
 refine Con.enter Tryz.func208 rfl (by simp [Tryz.ntmps208]) ?_
 show awp _ _ _ _ ⟨[(0,true,_),(1,true,_)],_,_⟩
 refine go 0 [0,0,0] ?_
 refine aT (q:=true) rfl (fe [2,1,0] [] (by kernel_rfl) rfl rfl rfl rfl (mb l F caps p q Ψ hF h) ?_)
 rintro _ _ _ ⟨⟨rfl,rfl⟩,z,rfl,hz⟩
 refine aST ?_
 refine go 2 [0,0] ?_
 refine ae ?_
 refine bB [] [] rfl Tryz.results208 rfl ?_ (.inr rfl)
 exact ⟨⟨rfl,rfl⟩,_,rfl,fun hb=>hz.1 (by simpa using hb),fun hb=>hz.2 (by simpa using hb)⟩

theorem j4(b:Nat)(F:FuncId)(caps:List Value)(p:Per)(a:bJ)(Φ:Prop)(hF:aX Tryz.prog F=true)(h:Con Tryz.prog F (a.val::caps) [p] [] (YB Φ)):Con Tryz.prog 209 [a.val,.pointer (some ⟨b,0,none⟩)] [At b 0 [.v (.func (.func F) #[] caps.toArray)],p] []
   (YN Value.bool (fun b=>b=false→Φ)):=by
 refine Con.enter Tryz.func209 rfl (by simp [Tryz.ntmps209]) ?_
 show awp _ _ _ _ ⟨[(0,true,_),(1,true,_)],_,_⟩
 refine aSR ?_
 refine aT (q:=true) rfl (aS rfl rfl rfl (fun b0_0 => ?_))
 refine aHN ?_
 refine go 4 [0] ?_
 refine aU rfl (cm (o:=0) tk212 rfl (.of (ax 0 rfl)) rfl) ?_
 refine go 0 [29184] ?_
 refine aE [0] (false) hF true rfl rfl (fun _=>rfl) (fun hc=>rfl) (fun hc=>h) (fun c hc => ?_)
 refine go 2 [0,0] ?_
 refine ae ?_
 refine bB [] [] rfl Tryz.results209 rfl ?_ (.inr rfl)
 exact ⟨⟨rfl,rfl⟩,_,rfl,fun hb=>hc rfl (by simpa using hb)⟩
theorem kT(l:Sl bJ)(F:FuncId)(caps:List Value)(p:Per)(Φ:bJ→Prop)(hF:aX Tryz.prog F=true)(h:∀ a∈l.l,Con Tryz.prog F (a.val::caps) [p] [] (YB (Φ a))):Con Tryz.prog 143 [l.val,.func (.func F) #[] caps.toArray] [ShF bJ.row l,p] []
   (YB (∀ a∈l.l,Φ a)):=by
 refine Con.enter Tryz.func143 rfl (by simp [Tryz.ntmps143]) ?_
 show awp _ _ _ _ ⟨[(0,true,_),(1,true,_)],_,_⟩
 refine aSR ?_
 refine aT (q:=true) rfl (aS rfl rfl rfl (fun b0_0 => ?_))
 refine aHN ?_
 refine go 3 [0] ?_
 refine aZ 0 rfl rfl ?_
 show awp _ _ _ _ ⟨_,At _ 0 _::_,_⟩
 refine az (aM rfl (aU rfl (cA (l:=[.tmp 3]) rfl) ?_))
 refine aE (caps:=[]) [1,2,0] (false) (by kernel_rfl) true rfl rfl (fun _=>rfl) (fun hc=>rfl) (fun hc=>by rw [List.append_nil];exact l4 l 209 [.pointer (some ⟨b0_0,0,none⟩)] (At b0_0 0 [.v (.func (.func F) #[] caps.toArray)]) p (fun a b=>b=false→Φ a) (by kernel_rfl) (fun a ha=>j4 b0_0 F caps p a (Φ a) hF (h a ha))) (fun c hc => ?_)
 refine go 2 [0,0] ?_
 refine ae ?_
 refine bB [] [] rfl Tryz.results143 rfl ?_ (.inr rfl)
 exact ⟨⟨rfl,rfl⟩,_,rfl,fun hb a ha=>(hc rfl).2 (by simpa using hb) a ha rfl⟩
theorem tk220:tyk Tryz.prog 220=some (false,1):=by kernel_rfl
theorem qF(l:Sl eu)(F:FuncId)(caps:List Value)(p q:Per)(Ψ:eu→Bool→Prop)(hF:aX Tryz.prog F=true)(h:∀ a∈l.l,Con Tryz.prog F (a.val::caps) [p,q] [] (YN Value.bool (Ψ a))):Con Tryz.prog 245 [l.val,.func (.func F) #[] caps.toArray] [ShF eu.row l,p,q] []
   (YN (fun z:Int=>.int .i64 z) (fun z=>(z≥0→∃ a∈l.l,Ψ a true)∧(¬ z≥0→∀ a∈l.l,Ψ a false))):=by
 refine Con.enter Tryz.func245 rfl (by simp [Tryz.ntmps245]) ?_
 show awp _ _ _ _ ⟨[(0,true,_),(1,true,_)],_,_⟩
 refine aO (.of (ax 0 rfl)) (fun hlen => ?_)
 refine go 3 [0,0,178,0] ?_
 refine aF [0,1,7,8] [2,1,0] [] (fun (k:Nat) s=>(k≤l.l.length∧∀ a∈l.l.take k,Ψ a false)∧s=⟨[(0,true,l.val),(1,true,.func (.func F) #[] caps.toArray),(7,true,.int .i64 l.l.length),(8,true,.int .i64 k)],[ShF eu.row l,p,q],[]⟩) (fun k=>l.l.length-k) rfl (⟨0,⟨Nat.zero_le _,fun a ha=>by cases ha⟩,rfl⟩) ?_
 rintro k s ⟨⟨hk,hno⟩,rfl⟩
 refine go 3 [0] ?_
 refine aa _ rfl (fun h1 => ?_) (fun h1 => ?_)
 ·skip
  have hk':k<l.l.length:=by simpa using h1
  obtain ⟨a,ha⟩:∃ a,l.l[k]? = some a:=⟨l.l[k]'hk',by simp⟩
  refine go 0 [0,0,0,0,0] ?_
  refine bI true rfl rfl (fun _=>ai Tryz.underlying120 tk178 rfl ((.of (ax 0 rfl))) rfl (ak ha) rfl rfl) (fun h=>absurd h (by decide)) (fun ⟨b4_3,o4_3⟩ => ?_)
  refine go 0 [13826] ?_
  refine aE [1,0] (false) hF true rfl rfl (fun _=>rfl) (fun hc=>rfl) (fun hc=>h a (List.mem_of_getElem? ha)) (fun c hc => ?_)
  refine aNn ?_
  refine aa _ rfl (fun h2 => ?_) (fun h2 => ?_)
  ·skip
   refine go 2 [0,0] ?_
   refine ae (aK (aj (aj (aK (aj ?_)))))
   refine bB [] [] rfl Tryz.results245 rfl ?_ (.inr rfl)
   exact ⟨⟨rfl,rfl⟩,_,rfl,fun _=>⟨a,List.mem_of_getElem? ha,h2 ▸ hc rfl⟩,fun hz=>(hz (Int.natCast_nonneg k)).elim⟩
  ·skip
   refine go 1 [0,0] ?_
   refine an ?_
   refine ⟨[0,1,7,8],[2,1,0],[],rfl,?_⟩
   refine ⟨k+1,⟨⟨by omega,?_⟩,rfl⟩,by omega⟩
   intro y hy
   rw [List.take_add_one,ha,List.mem_append] at hy
   rcases hy with hy | hy
   · exact hno y hy
   · simp at hy;subst hy;exact h2 ▸ hc rfl
 ·skip
  refine go 2 [0] ?_
  refine ae ?_
  refine bB [] [] rfl Tryz.results245 rfl ?_ (.inr rfl)
  refine ⟨⟨rfl,rfl⟩,_,rfl,fun hz=>absurd hz (by decide),fun _ => ?_⟩
  rw [List.take_of_length_le (by simpa using h1)] at hno;exact hno
theorem qz(l:Sl eu)(F:FuncId)(caps:List Value)(p q:Per)(Ψ:eu→Bool→Prop)(hF:aX Tryz.prog F=true)(h:∀ a∈l.l,Con Tryz.prog F (a.val::caps) [p,q] [] (YN Value.bool (Ψ a))):Con Tryz.prog 212 [l.val,.func (.func F) #[] caps.toArray] [ShF eu.row l,p,q] []
   (YN Value.bool (fun b=>(b=true→∃ a∈l.l,Ψ a true)∧(b=false→∀ a∈l.l,Ψ a false))):=by
 refine Con.enter Tryz.func212 rfl (by simp [Tryz.ntmps212]) ?_
 show awp _ _ _ _ ⟨[(0,true,_),(1,true,_)],_,_⟩
 refine go 0 [0,0,0] ?_
 refine aT (q:=true) rfl (fe [2,1,0] [] (by kernel_rfl) rfl rfl rfl rfl (qF l F caps p q Ψ hF h) ?_)
 rintro _ _ _ ⟨⟨rfl,rfl⟩,z,rfl,hz⟩
 refine aST ?_
 refine go 2 [0,0] ?_
 refine ae ?_
 refine bB [] [] rfl Tryz.results212 rfl ?_ (.inr rfl)
 exact ⟨⟨rfl,rfl⟩,_,rfl,fun hb=>hz.1 (by simpa using hb),fun hb=>hz.2 (by simpa using hb)⟩

theorem mX(b:Nat)(F:FuncId)(caps:List Value)(p:Per)(a:eu)(Φ:Prop)(hF:aX Tryz.prog F=true)(h:Con Tryz.prog F (a.val::caps) [p] [] (YB Φ)):Con Tryz.prog 213 [a.val,.pointer (some ⟨b,0,none⟩)] [At b 0 [.v (.func (.func F) #[] caps.toArray)],p] []
   (YN Value.bool (fun b=>b=false→Φ)):=by
 refine Con.enter Tryz.func213 rfl (by simp [Tryz.ntmps213]) ?_
 show awp _ _ _ _ ⟨[(0,true,_),(1,true,_)],_,_⟩
 refine aSR ?_
 refine aT (q:=true) rfl (aS rfl rfl rfl (fun b0_0 => ?_))
 refine aHN ?_
 refine go 4 [0] ?_
 refine aU rfl (cm (o:=0) tk220 rfl (.of (ax 0 rfl)) rfl) ?_
 refine go 0 [13824] ?_
 refine aE [0] (false) hF true rfl rfl (fun _=>rfl) (fun hc=>rfl) (fun hc=>h) (fun c hc => ?_)
 refine go 2 [0,0] ?_
 refine ae ?_
 refine bB [] [] rfl Tryz.results213 rfl ?_ (.inr rfl)
 exact ⟨⟨rfl,rfl⟩,_,rfl,fun hb=>hc rfl (by simpa using hb)⟩
theorem oS(l:Sl eu)(F:FuncId)(caps:List Value)(p:Per)(Φ:eu→Prop)(hF:aX Tryz.prog F=true)(h:∀ a∈l.l,Con Tryz.prog F (a.val::caps) [p] [] (YB (Φ a))):Con Tryz.prog 151 [l.val,.func (.func F) #[] caps.toArray] [ShF eu.row l,p] []
   (YB (∀ a∈l.l,Φ a)):=by
 refine Con.enter Tryz.func151 rfl (by simp [Tryz.ntmps151]) ?_
 show awp _ _ _ _ ⟨[(0,true,_),(1,true,_)],_,_⟩
 refine aSR ?_
 refine aT (q:=true) rfl (aS rfl rfl rfl (fun b0_0 => ?_))
 refine aHN ?_
 refine go 3 [0] ?_
 refine aZ 0 rfl rfl ?_
 show awp _ _ _ _ ⟨_,At _ 0 _::_,_⟩
 refine az (aM rfl (aU rfl (cA (l:=[.tmp 3]) rfl) ?_))
 refine aE (caps:=[]) [1,2,0] (false) (by kernel_rfl) true rfl rfl (fun _=>rfl) (fun hc=>rfl) (fun hc=>by rw [List.append_nil];exact qz l 213 [.pointer (some ⟨b0_0,0,none⟩)] (At b0_0 0 [.v (.func (.func F) #[] caps.toArray)]) p (fun a b=>b=false→Φ a) (by kernel_rfl) (fun a ha=>mX b0_0 F caps p a (Φ a) hF (h a ha))) (fun c hc => ?_)
 refine go 2 [0,0] ?_
 refine ae ?_
 refine bB [] [] rfl Tryz.results151 rfl ?_ (.inr rfl)
 exact ⟨⟨rfl,rfl⟩,_,rfl,fun hb a ha=>(hc rfl).2 (by simpa using hb) a ha rfl⟩
theorem pb(l:Sl eu)(F:FuncId)(caps:List Value)(p:Per)(hF:aX Tryz.prog F=true)(h:∀ a∈l.l,∀ b∈l.l,Con Tryz.prog F (a.val::b.val::caps) [p] [] (YB True)):Con Tryz.prog 152 [l.val,.func (.func F) #[] caps.toArray] [ShF eu.row l,p] [] (YB True):=by
 refine Con.enter Tryz.func152 rfl (by simp [Tryz.ntmps152]) ?_
 show awp _ _ _ _ ⟨[(0,true,_),(1,true,_)],_,_⟩
 refine aO (.of (ax 0 rfl)) (fun hlen => ?_)
 refine go 3 [0,0] ?_
 refine aF [0,1,5] [1,0] [] (fun (k:Nat) s=>k≤l.l.length∧s=⟨[(0,true,l.val),(1,true,.func (.func F) #[] caps.toArray),(5,true,.int .i64 ((k+1:Nat):Int))],[ShF eu.row l,p],[]⟩) (fun k=>l.l.length-k) rfl (⟨0,Nat.zero_le _,rfl⟩) ?_
 rintro k s ⟨hk,rfl⟩
 refine go 2 [0,0,178,0] ?_
 refine aa _ rfl (fun h1 => ?_) (fun h1 => ?_)
 ·skip
  have hk':k+1<l.l.length:=by simp at h1;omega
  have ha:=bA (l:=l.l) (i:=k) (by omega)
  have hb:=bA (l:=l.l) (i:=k+1) hk'
  refine aD (an (aq (aH (aq ?_))))
  refine fk [] (by kernel_rfl) ?_
  show aB _ _ _ _ _ 12 #[false,false,false,false,false,false,false,false,false,false,false,false] _
  refine go 0 [0,0,0,0] ?_
  refine dz 4 rfl (by kernel_rfl) true rfl rfl (fun _=>ai Tryz.underlying120 tk178 rfl ((.of (ax 0 rfl))) rfl (ak ha) (by omega) rfl) (fun h=>absurd h (by decide)) (fun ⟨b4_4,o4_4⟩ => ?_)
  refine go 0 [27652,0,0] ?_
  refine dz 8 rfl (by kernel_rfl) true rfl rfl (fun _=>ai Tryz.underlying120 tk178 rfl ((.of (ax 1 rfl))) rfl (ak hb) rfl rfl) (fun h=>absurd h (by decide)) (fun ⟨b4_8,o4_8⟩ => ?_)
  refine go 0 [27652] ?_
  refine cQ 10 rfl (by kernel_rfl) [0] (false) hF true rfl rfl (fun _=>rfl) (fun hc=>rfl) (fun hc=>h _ (List.mem_of_getElem? ha) _ (List.mem_of_getElem? hb)) (fun c hc => ?_)
  refine go 2 [0] ?_
  refine aa _ rfl (fun h2 => ?_) (fun h2 => ?_)
  ·skip
   refine go 2 [0] ?_
   refine ae (aK (aj (aj (aK (aj ?_)))))
   refine bB [] [] rfl Tryz.results152 rfl ?_ (.inr rfl)
   exact ⟨⟨rfl,rfl⟩,_,rfl,fun _=>trivial⟩
  ·skip
   refine go 1 [0,0,0] ?_
   refine an ?_
   refine ⟨[0,1,5],[1,0],[],rfl,?_⟩
   exact ⟨k+1,⟨by omega,rfl⟩,by omega⟩
 ·skip
  refine go 2 [0] ?_
  refine ae ?_
  refine bB [] [] rfl Tryz.results152 rfl ?_ (.inr rfl)
  exact ⟨⟨rfl,rfl⟩,_,rfl,fun _=>trivial⟩
theorem qD(l:Sl Int)(F:FuncId)(caps:List Value)(p q:Per)(Ψ:Int→Bool→Prop)(hF:aX Tryz.prog F=true)(h:∀ a∈l.l,Con Tryz.prog F ((eI a)::caps) [p,q] [] (YN Value.bool (Ψ a))):Con Tryz.prog 246 [l.val,.func (.func F) #[] caps.toArray] [ShF (fun z:Int=>[D.v (eI z)]) l,p,q] []
   (YN (fun z:Int=>.int .i64 z) (fun z=>(z≥0→∃ a∈l.l,Ψ a true)∧(¬ z≥0→∀ a∈l.l,Ψ a false))):=by
 refine Con.enter Tryz.func246 rfl (by simp [Tryz.ntmps246]) ?_
 show awp _ _ _ _ ⟨[(0,true,_),(1,true,_)],_,_⟩
 refine aO (.of (ax 0 rfl)) (fun hlen => ?_)
 refine go 3 [0,0,3,0] ?_
 refine aF [0,1,7,8] [2,1,0] [] (fun (k:Nat) s=>(k≤l.l.length∧∀ a∈l.l.take k,Ψ a false)∧s=⟨[(0,true,l.val),(1,true,.func (.func F) #[] caps.toArray),(7,true,.int .i64 l.l.length),(8,true,.int .i64 k)],[ShF (fun z:Int=>[D.v (eI z)]) l,p,q],[]⟩) (fun k=>l.l.length-k) rfl (⟨0,⟨Nat.zero_le _,fun a ha=>by cases ha⟩,rfl⟩) ?_
 rintro k s ⟨⟨hk,hno⟩,rfl⟩
 refine go 3 [0] ?_
 refine aa _ rfl (fun h1 => ?_) (fun h1 => ?_)
 ·skip
  have hk':k<l.l.length:=by simpa using h1
  obtain ⟨a,ha⟩:∃ a,l.l[k]? = some a:=⟨l.l[k]'hk',by simp⟩
  refine go 0 [0,0,0,0,0] ?_
  refine bI true rfl rfl (fun _=>ai Tryz.underlying33 tk3 rfl ((.of (ax 0 rfl))) rfl (ak ha) rfl rfl) (fun h=>absurd h (by decide)) (fun ⟨b4_3,o4_3⟩ => ?_)
  refine go 0 [2] ?_
  refine aE [1,0] (false) hF true rfl rfl (fun _=>rfl) (fun hc=>rfl) (fun hc=>h a (List.mem_of_getElem? ha)) (fun c hc => ?_)
  refine aNn ?_
  refine aa _ rfl (fun h2 => ?_) (fun h2 => ?_)
  ·skip
   refine go 2 [0,0] ?_
   refine ae (aK (aj (aj (aK (aj ?_)))))
   refine bB [] [] rfl Tryz.results246 rfl ?_ (.inr rfl)
   exact ⟨⟨rfl,rfl⟩,_,rfl,fun _=>⟨a,List.mem_of_getElem? ha,h2 ▸ hc rfl⟩,fun hz=>(hz (Int.natCast_nonneg k)).elim⟩
  ·skip
   refine go 1 [0,0] ?_
   refine an ?_
   refine ⟨[0,1,7,8],[2,1,0],[],rfl,?_⟩
   refine ⟨k+1,⟨⟨by omega,?_⟩,rfl⟩,by omega⟩
   intro y hy
   rw [List.take_add_one,ha,List.mem_append] at hy
   rcases hy with hy | hy
   · exact hno y hy
   · simp at hy;subst hy;exact h2 ▸ hc rfl
 ·skip
  refine go 2 [0] ?_
  refine ae ?_
  refine bB [] [] rfl Tryz.results246 rfl ?_ (.inr rfl)
  refine ⟨⟨rfl,rfl⟩,_,rfl,fun hz=>absurd hz (by decide),fun _ => ?_⟩
  rw [List.take_of_length_le (by simpa using h1)] at hno;exact hno
theorem qx(l:Sl Int)(F:FuncId)(caps:List Value)(p q:Per)(Ψ:Int→Bool→Prop)(hF:aX Tryz.prog F=true)(h:∀ a∈l.l,Con Tryz.prog F ((eI a)::caps) [p,q] [] (YN Value.bool (Ψ a))):Con Tryz.prog 214 [l.val,.func (.func F) #[] caps.toArray] [ShF (fun z:Int=>[D.v (eI z)]) l,p,q] []
   (YN Value.bool (fun b=>(b=true→∃ a∈l.l,Ψ a true)∧(b=false→∀ a∈l.l,Ψ a false))):=by
 refine Con.enter Tryz.func214 rfl (by simp [Tryz.ntmps214]) ?_
 show awp _ _ _ _ ⟨[(0,true,_),(1,true,_)],_,_⟩
 refine go 0 [0,0,0] ?_
 refine aT (q:=true) rfl (fe [2,1,0] [] (by kernel_rfl) rfl rfl rfl rfl (qD l F caps p q Ψ hF h) ?_)
 rintro _ _ _ ⟨⟨rfl,rfl⟩,z,rfl,hz⟩
 refine aST ?_
 refine go 2 [0,0] ?_
 refine ae ?_
 refine bB [] [] rfl Tryz.results214 rfl ?_ (.inr rfl)
 exact ⟨⟨rfl,rfl⟩,_,rfl,fun hb=>hz.1 (by simpa using hb),fun hb=>hz.2 (by simpa using hb)⟩

theorem mW(b:Nat)(F:FuncId)(caps:List Value)(p:Per)(a:Int)(Φ:Prop)(hF:aX Tryz.prog F=true)(h:Con Tryz.prog F ((eI a)::caps) [p] [] (YB Φ)):Con Tryz.prog 215 [(eI a),.pointer (some ⟨b,0,none⟩)] [At b 0 [.v (.func (.func F) #[] caps.toArray)],p] []
   (YN Value.bool (fun b=>b=false→Φ)):=by
 refine Con.enter Tryz.func215 rfl (by simp [Tryz.ntmps215]) ?_
 show awp _ _ _ _ ⟨[(0,true,_),(1,true,_)],_,_⟩
 refine go 4 [0] ?_
 refine aU rfl (cm (o:=0) tk82 rfl (.of (ax 0 rfl)) rfl) (aM rfl ?_)
 refine aE [0] (false) hF true rfl rfl (fun _=>rfl) (fun hc=>rfl) (fun hc=>h) (fun c hc => ?_)
 refine go 2 [0,0] ?_
 refine ae ?_
 refine bB [] [] rfl Tryz.results215 rfl ?_ (.inr rfl)
 exact ⟨⟨rfl,rfl⟩,_,rfl,fun hb=>hc rfl (by simpa using hb)⟩
theorem oR(l:Sl Int)(F:FuncId)(caps:List Value)(p:Per)(Φ:Int→Prop)(hF:aX Tryz.prog F=true)(h:∀ a∈l.l,Con Tryz.prog F ((eI a)::caps) [p] [] (YB (Φ a))):Con Tryz.prog 153 [l.val,.func (.func F) #[] caps.toArray] [ShF (fun z:Int=>[D.v (eI z)]) l,p] []
   (YB (∀ a∈l.l,Φ a)):=by
 refine Con.enter Tryz.func153 rfl (by simp [Tryz.ntmps153]) ?_
 show awp _ _ _ _ ⟨[(0,true,_),(1,true,_)],_,_⟩
 refine aSR ?_
 refine aT (q:=true) rfl (aS rfl rfl rfl (fun b0_0 => ?_))
 refine aHN ?_
 refine go 3 [0] ?_
 refine aZ 0 rfl rfl ?_
 show awp _ _ _ _ ⟨_,At _ 0 _::_,_⟩
 refine az (aM rfl (aU rfl (cA (l:=[.tmp 3]) rfl) ?_))
 refine aE (caps:=[]) [1,2,0] (false) (by kernel_rfl) true rfl rfl (fun _=>rfl) (fun hc=>rfl) (fun hc=>by rw [List.append_nil];exact qx l 215 [.pointer (some ⟨b0_0,0,none⟩)] (At b0_0 0 [.v (.func (.func F) #[] caps.toArray)]) p (fun a b=>b=false→Φ a) (by kernel_rfl) (fun a ha=>mW b0_0 F caps p a (Φ a) hF (h a ha))) (fun c hc => ?_)
 refine go 2 [0,0] ?_
 refine ae ?_
 refine bB [] [] rfl Tryz.results153 rfl ?_ (.inr rfl)
 exact ⟨⟨rfl,rfl⟩,_,rfl,fun hb a ha=>(hc rfl).2 (by simpa using hb) a ha rfl⟩
theorem tk234:tyk Tryz.prog 234=some (false,1):=by kernel_rfl
theorem oU(l:Sl eY)(F:FuncId)(caps:List Value)(p q:Per)(Ψ:eY→Bool→Prop)(hF:aX Tryz.prog F=true)(h:∀ a∈l.l,Con Tryz.prog F (a.val::caps) [p,q] [] (YN Value.bool (Ψ a))):Con Tryz.prog 247 [l.val,.func (.func F) #[] caps.toArray] [ShF eY.row l,p,q] []
   (YN (fun z:Int=>.int .i64 z) (fun z=>(z≥0→∃ a∈l.l,Ψ a true)∧(¬ z≥0→∀ a∈l.l,Ψ a false))):=by
 refine Con.enter Tryz.func247 rfl (by simp [Tryz.ntmps247]) ?_
 show awp _ _ _ _ ⟨[(0,true,_),(1,true,_)],_,_⟩
 refine aO (.of (ax 0 rfl)) (fun hlen => ?_)
 refine go 3 [0,0,233,0] ?_
 refine aF [0,1,7,8] [2,1,0] [] (fun (k:Nat) s=>(k≤l.l.length∧∀ a∈l.l.take k,Ψ a false)∧s=⟨[(0,true,l.val),(1,true,.func (.func F) #[] caps.toArray),(7,true,.int .i64 l.l.length),(8,true,.int .i64 k)],[ShF eY.row l,p,q],[]⟩) (fun k=>l.l.length-k) rfl (⟨0,⟨Nat.zero_le _,fun a ha=>by cases ha⟩,rfl⟩) ?_
 rintro k s ⟨⟨hk,hno⟩,rfl⟩
 refine go 3 [0] ?_
 refine aa _ rfl (fun h1 => ?_) (fun h1 => ?_)
 ·skip
  have hk':k<l.l.length:=by simpa using h1
  obtain ⟨a,ha⟩:∃ a,l.l[k]? = some a:=⟨l.l[k]'hk',by simp⟩
  refine go 0 [0,0,0,0,0] ?_
  refine bI true rfl rfl (fun _=>ai Tryz.underlying122 tk233 rfl ((.of (ax 0 rfl))) rfl (ak ha) rfl rfl) (fun h=>absurd h (by decide)) (fun ⟨b4_3,o4_3⟩ => ?_)
  refine go 0 [7682] ?_
  refine aE [1,0] (false) hF true rfl rfl (fun _=>rfl) (fun hc=>rfl) (fun hc=>h a (List.mem_of_getElem? ha)) (fun c hc => ?_)
  refine aNn ?_
  refine aa _ rfl (fun h2 => ?_) (fun h2 => ?_)
  ·skip
   refine go 2 [0,0] ?_
   refine ae (aK (aj (aj (aK (aj ?_)))))
   refine bB [] [] rfl Tryz.results247 rfl ?_ (.inr rfl)
   exact ⟨⟨rfl,rfl⟩,_,rfl,fun _=>⟨a,List.mem_of_getElem? ha,h2 ▸ hc rfl⟩,fun hz=>(hz (Int.natCast_nonneg k)).elim⟩
  ·skip
   refine go 1 [0,0] ?_
   refine an ?_
   refine ⟨[0,1,7,8],[2,1,0],[],rfl,?_⟩
   refine ⟨k+1,⟨⟨by omega,?_⟩,rfl⟩,by omega⟩
   intro y hy
   rw [List.take_add_one,ha,List.mem_append] at hy
   rcases hy with hy | hy
   · exact hno y hy
   · simp at hy;subst hy;exact h2 ▸ hc rfl
 ·skip
  refine go 2 [0] ?_
  refine ae ?_
  refine bB [] [] rfl Tryz.results247 rfl ?_ (.inr rfl)
  refine ⟨⟨rfl,rfl⟩,_,rfl,fun hz=>absurd hz (by decide),fun _ => ?_⟩
  rw [List.take_of_length_le (by simpa using h1)] at hno;exact hno
theorem oN(l:Sl eY)(F:FuncId)(caps:List Value)(p q:Per)(Ψ:eY→Bool→Prop)(hF:aX Tryz.prog F=true)(h:∀ a∈l.l,Con Tryz.prog F (a.val::caps) [p,q] [] (YN Value.bool (Ψ a))):Con Tryz.prog 216 [l.val,.func (.func F) #[] caps.toArray] [ShF eY.row l,p,q] []
   (YN Value.bool (fun b=>(b=true→∃ a∈l.l,Ψ a true)∧(b=false→∀ a∈l.l,Ψ a false))):=by
 refine Con.enter Tryz.func216 rfl (by simp [Tryz.ntmps216]) ?_
 show awp _ _ _ _ ⟨[(0,true,_),(1,true,_)],_,_⟩
 refine go 0 [0,0,0] ?_
 refine aT (q:=true) rfl (fe [2,1,0] [] (by kernel_rfl) rfl rfl rfl rfl (oU l F caps p q Ψ hF h) ?_)
 rintro _ _ _ ⟨⟨rfl,rfl⟩,z,rfl,hz⟩
 refine aST ?_
 refine go 2 [0,0] ?_
 refine ae ?_
 refine bB [] [] rfl Tryz.results216 rfl ?_ (.inr rfl)
 exact ⟨⟨rfl,rfl⟩,_,rfl,fun hb=>hz.1 (by simpa using hb),fun hb=>hz.2 (by simpa using hb)⟩

theorem l6(b:Nat)(F:FuncId)(caps:List Value)(p:Per)(a:eY)(Φ:Prop)(hF:aX Tryz.prog F=true)(h:Con Tryz.prog F (a.val::caps) [p] [] (YB Φ)):Con Tryz.prog 217 [a.val,.pointer (some ⟨b,0,none⟩)] [At b 0 [.v (.func (.func F) #[] caps.toArray)],p] []
   (YN Value.bool (fun b=>b=false→Φ)):=by
 refine Con.enter Tryz.func217 rfl (by simp [Tryz.ntmps217]) ?_
 show awp _ _ _ _ ⟨[(0,true,_),(1,true,_)],_,_⟩
 refine aSR ?_
 refine aT (q:=true) rfl (aS rfl rfl rfl (fun b0_0 => ?_))
 refine aHN ?_
 refine go 4 [0] ?_
 refine aU rfl (cm (o:=0) tk234 rfl (.of (ax 0 rfl)) rfl) ?_
 refine go 0 [7680] ?_
 refine aE [0] (false) hF true rfl rfl (fun _=>rfl) (fun hc=>rfl) (fun hc=>h) (fun c hc => ?_)
 refine go 2 [0,0] ?_
 refine ae ?_
 refine bB [] [] rfl Tryz.results217 rfl ?_ (.inr rfl)
 exact ⟨⟨rfl,rfl⟩,_,rfl,fun hb=>hc rfl (by simpa using hb)⟩
theorem mZ(l:Sl eY)(F:FuncId)(caps:List Value)(p:Per)(Φ:eY→Prop)(hF:aX Tryz.prog F=true)(h:∀ a∈l.l,Con Tryz.prog F (a.val::caps) [p] [] (YB (Φ a))):Con Tryz.prog 161 [l.val,.func (.func F) #[] caps.toArray] [ShF eY.row l,p] []
   (YB (∀ a∈l.l,Φ a)):=by
 refine Con.enter Tryz.func161 rfl (by simp [Tryz.ntmps161]) ?_
 show awp _ _ _ _ ⟨[(0,true,_),(1,true,_)],_,_⟩
 refine aSR ?_
 refine aT (q:=true) rfl (aS rfl rfl rfl (fun b0_0 => ?_))
 refine aHN ?_
 refine go 3 [0] ?_
 refine aZ 0 rfl rfl ?_
 show awp _ _ _ _ ⟨_,At _ 0 _::_,_⟩
 refine az (aM rfl (aU rfl (cA (l:=[.tmp 3]) rfl) ?_))
 refine aE (caps:=[]) [1,2,0] (false) (by kernel_rfl) true rfl rfl (fun _=>rfl) (fun hc=>rfl) (fun hc=>by rw [List.append_nil];exact oN l 217 [.pointer (some ⟨b0_0,0,none⟩)] (At b0_0 0 [.v (.func (.func F) #[] caps.toArray)]) p (fun a b=>b=false→Φ a) (by kernel_rfl) (fun a ha=>l6 b0_0 F caps p a (Φ a) hF (h a ha))) (fun c hc => ?_)
 refine go 2 [0,0] ?_
 refine ae ?_
 refine bB [] [] rfl Tryz.results161 rfl ?_ (.inr rfl)
 exact ⟨⟨rfl,rfl⟩,_,rfl,fun hb a ha=>(hc rfl).2 (by simpa using hb) a ha rfl⟩
theorem tk237:tyk Tryz.prog 237=some (false,1):=by kernel_rfl
theorem oV(l:Sl cM)(F:FuncId)(caps:List Value)(p q:Per)(Ψ:cM→Bool→Prop)(hF:aX Tryz.prog F=true)(h:∀ a∈l.l,Con Tryz.prog F (a.val::caps) [p,q] [] (YN Value.bool (Ψ a))):Con Tryz.prog 248 [l.val,.func (.func F) #[] caps.toArray] [ShF cM.row l,p,q] []
   (YN (fun z:Int=>.int .i64 z) (fun z=>(z≥0→∃ a∈l.l,Ψ a true)∧(¬ z≥0→∀ a∈l.l,Ψ a false))):=by
 refine Con.enter Tryz.func248 rfl (by simp [Tryz.ntmps248]) ?_
 show awp _ _ _ _ ⟨[(0,true,_),(1,true,_)],_,_⟩
 refine aO (.of (ax 0 rfl)) (fun hlen => ?_)
 refine go 3 [0,0,236,0] ?_
 refine aF [0,1,7,8] [2,1,0] [] (fun (k:Nat) s=>(k≤l.l.length∧∀ a∈l.l.take k,Ψ a false)∧s=⟨[(0,true,l.val),(1,true,.func (.func F) #[] caps.toArray),(7,true,.int .i64 l.l.length),(8,true,.int .i64 k)],[ShF cM.row l,p,q],[]⟩) (fun k=>l.l.length-k) rfl (⟨0,⟨Nat.zero_le _,fun a ha=>by cases ha⟩,rfl⟩) ?_
 rintro k s ⟨⟨hk,hno⟩,rfl⟩
 refine go 3 [0] ?_
 refine aa _ rfl (fun h1 => ?_) (fun h1 => ?_)
 ·skip
  have hk':k<l.l.length:=by simpa using h1
  obtain ⟨a,ha⟩:∃ a,l.l[k]? = some a:=⟨l.l[k]'hk',by simp⟩
  refine go 0 [0,0,0,0,0] ?_
  refine bI true rfl rfl (fun _=>ai Tryz.underlying47 tk236 rfl ((.of (ax 0 rfl))) rfl (ak ha) rfl rfl) (fun h=>absurd h (by decide)) (fun ⟨b4_3,o4_3⟩ => ?_)
  refine go 0 [10754] ?_
  refine aE [1,0] (false) hF true rfl rfl (fun _=>rfl) (fun hc=>rfl) (fun hc=>h a (List.mem_of_getElem? ha)) (fun c hc => ?_)
  refine aNn ?_
  refine aa _ rfl (fun h2 => ?_) (fun h2 => ?_)
  ·skip
   refine go 2 [0,0] ?_
   refine ae (aK (aj (aj (aK (aj ?_)))))
   refine bB [] [] rfl Tryz.results248 rfl ?_ (.inr rfl)
   exact ⟨⟨rfl,rfl⟩,_,rfl,fun _=>⟨a,List.mem_of_getElem? ha,h2 ▸ hc rfl⟩,fun hz=>(hz (Int.natCast_nonneg k)).elim⟩
  ·skip
   refine go 1 [0,0] ?_
   refine an ?_
   refine ⟨[0,1,7,8],[2,1,0],[],rfl,?_⟩
   refine ⟨k+1,⟨⟨by omega,?_⟩,rfl⟩,by omega⟩
   intro y hy
   rw [List.take_add_one,ha,List.mem_append] at hy
   rcases hy with hy | hy
   · exact hno y hy
   · simp at hy;subst hy;exact h2 ▸ hc rfl
 ·skip
  refine go 2 [0] ?_
  refine ae ?_
  refine bB [] [] rfl Tryz.results248 rfl ?_ (.inr rfl)
  refine ⟨⟨rfl,rfl⟩,_,rfl,fun hz=>absurd hz (by decide),fun _ => ?_⟩
  rw [List.take_of_length_le (by simpa using h1)] at hno;exact hno
theorem oO(l:Sl cM)(F:FuncId)(caps:List Value)(p q:Per)(Ψ:cM→Bool→Prop)(hF:aX Tryz.prog F=true)(h:∀ a∈l.l,Con Tryz.prog F (a.val::caps) [p,q] [] (YN Value.bool (Ψ a))):Con Tryz.prog 218 [l.val,.func (.func F) #[] caps.toArray] [ShF cM.row l,p,q] []
   (YN Value.bool (fun b=>(b=true→∃ a∈l.l,Ψ a true)∧(b=false→∀ a∈l.l,Ψ a false))):=by
 refine Con.enter Tryz.func218 rfl (by simp [Tryz.ntmps218]) ?_
 show awp _ _ _ _ ⟨[(0,true,_),(1,true,_)],_,_⟩
 refine go 0 [0,0,0] ?_
 refine aT (q:=true) rfl (fe [2,1,0] [] (by kernel_rfl) rfl rfl rfl rfl (oV l F caps p q Ψ hF h) ?_)
 rintro _ _ _ ⟨⟨rfl,rfl⟩,z,rfl,hz⟩
 refine aST ?_
 refine go 2 [0,0] ?_
 refine ae ?_
 refine bB [] [] rfl Tryz.results218 rfl ?_ (.inr rfl)
 exact ⟨⟨rfl,rfl⟩,_,rfl,fun hb=>hz.1 (by simpa using hb),fun hb=>hz.2 (by simpa using hb)⟩

theorem l7(b:Nat)(F:FuncId)(caps:List Value)(p:Per)(a:cM)(Φ:Prop)(hF:aX Tryz.prog F=true)(h:Con Tryz.prog F (a.val::caps) [p] [] (YB Φ)):Con Tryz.prog 219 [a.val,.pointer (some ⟨b,0,none⟩)] [At b 0 [.v (.func (.func F) #[] caps.toArray)],p] []
   (YN Value.bool (fun b=>b=false→Φ)):=by
 refine Con.enter Tryz.func219 rfl (by simp [Tryz.ntmps219]) ?_
 show awp _ _ _ _ ⟨[(0,true,_),(1,true,_)],_,_⟩
 refine aSR ?_
 refine aT (q:=true) rfl (aS rfl rfl rfl (fun b0_0 => ?_))
 refine aHN ?_
 refine go 4 [0] ?_
 refine aU rfl (cm (o:=0) tk237 rfl (.of (ax 0 rfl)) rfl) ?_
 refine go 0 [10752] ?_
 refine aE [0] (false) hF true rfl rfl (fun _=>rfl) (fun hc=>rfl) (fun hc=>h) (fun c hc => ?_)
 refine go 2 [0,0] ?_
 refine ae ?_
 refine bB [] [] rfl Tryz.results219 rfl ?_ (.inr rfl)
 exact ⟨⟨rfl,rfl⟩,_,rfl,fun hb=>hc rfl (by simpa using hb)⟩
theorem m0(l:Sl cM)(F:FuncId)(caps:List Value)(p:Per)(Φ:cM→Prop)(hF:aX Tryz.prog F=true)(h:∀ a∈l.l,Con Tryz.prog F (a.val::caps) [p] [] (YB (Φ a))):Con Tryz.prog 167 [l.val,.func (.func F) #[] caps.toArray] [ShF cM.row l,p] []
   (YB (∀ a∈l.l,Φ a)):=by
 refine Con.enter Tryz.func167 rfl (by simp [Tryz.ntmps167]) ?_
 show awp _ _ _ _ ⟨[(0,true,_),(1,true,_)],_,_⟩
 refine aSR ?_
 refine aT (q:=true) rfl (aS rfl rfl rfl (fun b0_0 => ?_))
 refine aHN ?_
 refine go 3 [0] ?_
 refine aZ 0 rfl rfl ?_
 show awp _ _ _ _ ⟨_,At _ 0 _::_,_⟩
 refine az (aM rfl (aU rfl (cA (l:=[.tmp 3]) rfl) ?_))
 refine aE (caps:=[]) [1,2,0] (false) (by kernel_rfl) true rfl rfl (fun _=>rfl) (fun hc=>rfl) (fun hc=>by rw [List.append_nil];exact oO l 219 [.pointer (some ⟨b0_0,0,none⟩)] (At b0_0 0 [.v (.func (.func F) #[] caps.toArray)]) p (fun a b=>b=false→Φ a) (by kernel_rfl) (fun a ha=>l7 b0_0 F caps p a (Φ a) hF (h a ha))) (fun c hc => ?_)
 refine go 2 [0,0] ?_
 refine ae ?_
 refine bB [] [] rfl Tryz.results167 rfl ?_ (.inr rfl)
 exact ⟨⟨rfl,rfl⟩,_,rfl,fun hb a ha=>(hc rfl).2 (by simpa using hb) a ha rfl⟩
theorem m8(l:Sl cM)(F:FuncId)(caps:List Value)(p:Per)(hF:aX Tryz.prog F=true)(h:∀ a∈l.l,∀ b∈l.l,Con Tryz.prog F (a.val::b.val::caps) [p] [] (YB True)):Con Tryz.prog 168 [l.val,.func (.func F) #[] caps.toArray] [ShF cM.row l,p] [] (YB True):=by
 refine Con.enter Tryz.func168 rfl (by simp [Tryz.ntmps168]) ?_
 show awp _ _ _ _ ⟨[(0,true,_),(1,true,_)],_,_⟩
 refine aO (.of (ax 0 rfl)) (fun hlen => ?_)
 refine go 3 [0,0] ?_
 refine aF [0,1,5] [1,0] [] (fun (k:Nat) s=>k≤l.l.length∧s=⟨[(0,true,l.val),(1,true,.func (.func F) #[] caps.toArray),(5,true,.int .i64 ((k+1:Nat):Int))],[ShF cM.row l,p],[]⟩) (fun k=>l.l.length-k) rfl (⟨0,Nat.zero_le _,rfl⟩) ?_
 rintro k s ⟨hk,rfl⟩
 refine go 2 [0,0,236,0] ?_
 refine aa _ rfl (fun h1 => ?_) (fun h1 => ?_)
 ·skip
  have hk':k+1<l.l.length:=by simp at h1;omega
  have ha:=bA (l:=l.l) (i:=k) (by omega)
  have hb:=bA (l:=l.l) (i:=k+1) hk'
  refine aD (an (aq (aH (aq ?_))))
  refine fk [] (by kernel_rfl) ?_
  show aB _ _ _ _ _ 12 #[false,false,false,false,false,false,false,false,false,false,false,false] _
  refine go 0 [0,0,0,0] ?_
  refine dz 4 rfl (by kernel_rfl) true rfl rfl (fun _=>ai Tryz.underlying47 tk236 rfl ((.of (ax 0 rfl))) rfl (ak ha) (by omega) rfl) (fun h=>absurd h (by decide)) (fun ⟨b4_4,o4_4⟩ => ?_)
  refine go 0 [21508,0,0] ?_
  refine dz 8 rfl (by kernel_rfl) true rfl rfl (fun _=>ai Tryz.underlying47 tk236 rfl ((.of (ax 1 rfl))) rfl (ak hb) rfl rfl) (fun h=>absurd h (by decide)) (fun ⟨b4_8,o4_8⟩ => ?_)
  refine go 0 [21508] ?_
  refine cQ 10 rfl (by kernel_rfl) [0] (false) hF true rfl rfl (fun _=>rfl) (fun hc=>rfl) (fun hc=>h _ (List.mem_of_getElem? ha) _ (List.mem_of_getElem? hb)) (fun c hc => ?_)
  refine go 2 [0] ?_
  refine aa _ rfl (fun h2 => ?_) (fun h2 => ?_)
  ·skip
   refine go 2 [0] ?_
   refine ae (aK (aj (aj (aK (aj ?_)))))
   refine bB [] [] rfl Tryz.results168 rfl ?_ (.inr rfl)
   exact ⟨⟨rfl,rfl⟩,_,rfl,fun _=>trivial⟩
  ·skip
   refine go 1 [0,0,0] ?_
   refine an ?_
   refine ⟨[0,1,5],[1,0],[],rfl,?_⟩
   exact ⟨k+1,⟨by omega,rfl⟩,by omega⟩
 ·skip
  refine go 2 [0] ?_
  refine ae ?_
  refine bB [] [] rfl Tryz.results168 rfl ?_ (.inr rfl)
  exact ⟨⟨rfl,rfl⟩,_,rfl,fun _=>trivial⟩
theorem tk245:tyk Tryz.prog 245=some (false,1):=by kernel_rfl
theorem ma(l:Sl br)(F:FuncId)(caps:List Value)(p q:Per)(Ψ:br→Bool→Prop)(hF:aX Tryz.prog F=true)(h:∀ a∈l.l,Con Tryz.prog F (a.val::caps) [p,q] [] (YN Value.bool (Ψ a))):Con Tryz.prog 249 [l.val,.func (.func F) #[] caps.toArray] [ShF br.row l,p,q] []
   (YN (fun z:Int=>.int .i64 z) (fun z=>(z≥0→∃ a∈l.l,Ψ a true)∧(¬ z≥0→∀ a∈l.l,Ψ a false))):=by
 refine Con.enter Tryz.func249 rfl (by simp [Tryz.ntmps249]) ?_
 show awp _ _ _ _ ⟨[(0,true,_),(1,true,_)],_,_⟩
 refine aO (.of (ax 0 rfl)) (fun hlen => ?_)
 refine go 3 [0,0,243,0] ?_
 refine aF [0,1,7,8] [2,1,0] [] (fun (k:Nat) s=>(k≤l.l.length∧∀ a∈l.l.take k,Ψ a false)∧s=⟨[(0,true,l.val),(1,true,.func (.func F) #[] caps.toArray),(7,true,.int .i64 l.l.length),(8,true,.int .i64 k)],[ShF br.row l,p,q],[]⟩) (fun k=>l.l.length-k) rfl (⟨0,⟨Nat.zero_le _,fun a ha=>by cases ha⟩,rfl⟩) ?_
 rintro k s ⟨⟨hk,hno⟩,rfl⟩
 refine go 3 [0] ?_
 refine aa _ rfl (fun h1 => ?_) (fun h1 => ?_)
 ·skip
  have hk':k<l.l.length:=by simpa using h1
  obtain ⟨a,ha⟩:∃ a,l.l[k]? = some a:=⟨l.l[k]'hk',by simp⟩
  refine go 0 [0,0,0,0,0] ?_
  refine bI true rfl rfl (fun _=>ai Tryz.underlying48 tk243 rfl ((.of (ax 0 rfl))) rfl (ak ha) rfl rfl) (fun h=>absurd h (by decide)) (fun ⟨b4_3,o4_3⟩ => ?_)
  refine go 0 [16898] ?_
  refine aE [1,0] (false) hF true rfl rfl (fun _=>rfl) (fun hc=>rfl) (fun hc=>h a (List.mem_of_getElem? ha)) (fun c hc => ?_)
  refine aNn ?_
  refine aa _ rfl (fun h2 => ?_) (fun h2 => ?_)
  ·skip
   refine go 2 [0,0] ?_
   refine ae (aK (aj (aj (aK (aj ?_)))))
   refine bB [] [] rfl Tryz.results249 rfl ?_ (.inr rfl)
   exact ⟨⟨rfl,rfl⟩,_,rfl,fun _=>⟨a,List.mem_of_getElem? ha,h2 ▸ hc rfl⟩,fun hz=>(hz (Int.natCast_nonneg k)).elim⟩
  ·skip
   refine go 1 [0,0] ?_
   refine an ?_
   refine ⟨[0,1,7,8],[2,1,0],[],rfl,?_⟩
   refine ⟨k+1,⟨⟨by omega,?_⟩,rfl⟩,by omega⟩
   intro y hy
   rw [List.take_add_one,ha,List.mem_append] at hy
   rcases hy with hy | hy
   · exact hno y hy
   · simp at hy;subst hy;exact h2 ▸ hc rfl
 ·skip
  refine go 2 [0] ?_
  refine ae ?_
  refine bB [] [] rfl Tryz.results249 rfl ?_ (.inr rfl)
  refine ⟨⟨rfl,rfl⟩,_,rfl,fun hz=>absurd hz (by decide),fun _ => ?_⟩
  rw [List.take_of_length_le (by simpa using h1)] at hno;exact hno
theorem l3(l:Sl br)(F:FuncId)(caps:List Value)(p q:Per)(Ψ:br→Bool→Prop)(hF:aX Tryz.prog F=true)(h:∀ a∈l.l,Con Tryz.prog F (a.val::caps) [p,q] [] (YN Value.bool (Ψ a))):Con Tryz.prog 220 [l.val,.func (.func F) #[] caps.toArray] [ShF br.row l,p,q] []
   (YN Value.bool (fun b=>(b=true→∃ a∈l.l,Ψ a true)∧(b=false→∀ a∈l.l,Ψ a false))):=by
 refine Con.enter Tryz.func220 rfl (by simp [Tryz.ntmps220]) ?_
 show awp _ _ _ _ ⟨[(0,true,_),(1,true,_)],_,_⟩
 refine go 0 [0,0,0] ?_
 refine aT (q:=true) rfl (fe [2,1,0] [] (by kernel_rfl) rfl rfl rfl rfl (ma l F caps p q Ψ hF h) ?_)
 rintro _ _ _ ⟨⟨rfl,rfl⟩,z,rfl,hz⟩
 refine aST ?_
 refine go 2 [0,0] ?_
 refine ae ?_
 refine bB [] [] rfl Tryz.results220 rfl ?_ (.inr rfl)
 exact ⟨⟨rfl,rfl⟩,_,rfl,fun hb=>hz.1 (by simpa using hb),fun hb=>hz.2 (by simpa using hb)⟩

theorem j3(b:Nat)(F:FuncId)(caps:List Value)(p:Per)(a:br)(Φ:Prop)(hF:aX Tryz.prog F=true)(h:Con Tryz.prog F (a.val::caps) [p] [] (YB Φ)):Con Tryz.prog 221 [a.val,.pointer (some ⟨b,0,none⟩)] [At b 0 [.v (.func (.func F) #[] caps.toArray)],p] []
   (YN Value.bool (fun b=>b=false→Φ)):=by
 refine Con.enter Tryz.func221 rfl (by simp [Tryz.ntmps221]) ?_
 show awp _ _ _ _ ⟨[(0,true,_),(1,true,_)],_,_⟩
 refine aSR ?_
 refine aT (q:=true) rfl (aS rfl rfl rfl (fun b0_0 => ?_))
 refine aHN ?_
 refine go 4 [0] ?_
 refine aU rfl (cm (o:=0) tk245 rfl (.of (ax 0 rfl)) rfl) ?_
 refine go 0 [16896] ?_
 refine aE [0] (false) hF true rfl rfl (fun _=>rfl) (fun hc=>rfl) (fun hc=>h) (fun c hc => ?_)
 refine go 2 [0,0] ?_
 refine ae ?_
 refine bB [] [] rfl Tryz.results221 rfl ?_ (.inr rfl)
 exact ⟨⟨rfl,rfl⟩,_,rfl,fun hb=>hc rfl (by simpa using hb)⟩
theorem kS(l:Sl br)(F:FuncId)(caps:List Value)(p:Per)(Φ:br→Prop)(hF:aX Tryz.prog F=true)(h:∀ a∈l.l,Con Tryz.prog F (a.val::caps) [p] [] (YB (Φ a))):Con Tryz.prog 169 [l.val,.func (.func F) #[] caps.toArray] [ShF br.row l,p] []
   (YB (∀ a∈l.l,Φ a)):=by
 refine Con.enter Tryz.func169 rfl (by simp [Tryz.ntmps169]) ?_
 show awp _ _ _ _ ⟨[(0,true,_),(1,true,_)],_,_⟩
 refine aSR ?_
 refine aT (q:=true) rfl (aS rfl rfl rfl (fun b0_0 => ?_))
 refine aHN ?_
 refine go 3 [0] ?_
 refine aZ 0 rfl rfl ?_
 show awp _ _ _ _ ⟨_,At _ 0 _::_,_⟩
 refine az (aM rfl (aU rfl (cA (l:=[.tmp 3]) rfl) ?_))
 refine aE (caps:=[]) [1,2,0] (false) (by kernel_rfl) true rfl rfl (fun _=>rfl) (fun hc=>rfl) (fun hc=>by rw [List.append_nil];exact l3 l 221 [.pointer (some ⟨b0_0,0,none⟩)] (At b0_0 0 [.v (.func (.func F) #[] caps.toArray)]) p (fun a b=>b=false→Φ a) (by kernel_rfl) (fun a ha=>j3 b0_0 F caps p a (Φ a) hF (h a ha))) (fun c hc => ?_)
 refine go 2 [0,0] ?_
 refine ae ?_
 refine bB [] [] rfl Tryz.results169 rfl ?_ (.inr rfl)
 exact ⟨⟨rfl,rfl⟩,_,rfl,fun hb a ha=>(hc rfl).2 (by simpa using hb) a ha rfl⟩
theorem tk247:tyk Tryz.prog 247=some (false,1):=by kernel_rfl
theorem qG(l:Sl dP)(F:FuncId)(caps:List Value)(p q:Per)(Ψ:dP→Bool→Prop)(hF:aX Tryz.prog F=true)(h:∀ a∈l.l,Con Tryz.prog F (a.val::caps) [p,q] [] (YN Value.bool (Ψ a))):Con Tryz.prog 250 [l.val,.func (.func F) #[] caps.toArray] [ShF dP.row l,p,q] []
   (YN (fun z:Int=>.int .i64 z) (fun z=>(z≥0→∃ a∈l.l,Ψ a true)∧(¬ z≥0→∀ a∈l.l,Ψ a false))):=by
 refine Con.enter Tryz.func250 rfl (by simp [Tryz.ntmps250]) ?_
 show awp _ _ _ _ ⟨[(0,true,_),(1,true,_)],_,_⟩
 refine aO (.of (ax 0 rfl)) (fun hlen => ?_)
 refine go 3 [0,0,180,0] ?_
 refine aF [0,1,7,8] [2,1,0] [] (fun (k:Nat) s=>(k≤l.l.length∧∀ a∈l.l.take k,Ψ a false)∧s=⟨[(0,true,l.val),(1,true,.func (.func F) #[] caps.toArray),(7,true,.int .i64 l.l.length),(8,true,.int .i64 k)],[ShF dP.row l,p,q],[]⟩) (fun k=>l.l.length-k) rfl (⟨0,⟨Nat.zero_le _,fun a ha=>by cases ha⟩,rfl⟩) ?_
 rintro k s ⟨⟨hk,hno⟩,rfl⟩
 refine go 3 [0] ?_
 refine aa _ rfl (fun h1 => ?_) (fun h1 => ?_)
 ·skip
  have hk':k<l.l.length:=by simpa using h1
  obtain ⟨a,ha⟩:∃ a,l.l[k]? = some a:=⟨l.l[k]'hk',by simp⟩
  refine go 0 [0,0,0,0,0] ?_
  refine bI true rfl rfl (fun _=>ai Tryz.underlying123 tk180 rfl ((.of (ax 0 rfl))) rfl (ak ha) rfl rfl) (fun h=>absurd h (by decide)) (fun ⟨b4_3,o4_3⟩ => ?_)
  refine go 0 [16898] ?_
  refine aE [1,0] (false) hF true rfl rfl (fun _=>rfl) (fun hc=>rfl) (fun hc=>h a (List.mem_of_getElem? ha)) (fun c hc => ?_)
  refine aNn ?_
  refine aa _ rfl (fun h2 => ?_) (fun h2 => ?_)
  ·skip
   refine go 2 [0,0] ?_
   refine ae (aK (aj (aj (aK (aj ?_)))))
   refine bB [] [] rfl Tryz.results250 rfl ?_ (.inr rfl)
   exact ⟨⟨rfl,rfl⟩,_,rfl,fun _=>⟨a,List.mem_of_getElem? ha,h2 ▸ hc rfl⟩,fun hz=>(hz (Int.natCast_nonneg k)).elim⟩
  ·skip
   refine go 1 [0,0] ?_
   refine an ?_
   refine ⟨[0,1,7,8],[2,1,0],[],rfl,?_⟩
   refine ⟨k+1,⟨⟨by omega,?_⟩,rfl⟩,by omega⟩
   intro y hy
   rw [List.take_add_one,ha,List.mem_append] at hy
   rcases hy with hy | hy
   · exact hno y hy
   · simp at hy;subst hy;exact h2 ▸ hc rfl
 ·skip
  refine go 2 [0] ?_
  refine ae ?_
  refine bB [] [] rfl Tryz.results250 rfl ?_ (.inr rfl)
  refine ⟨⟨rfl,rfl⟩,_,rfl,fun hz=>absurd hz (by decide),fun _ => ?_⟩
  rw [List.take_of_length_le (by simpa using h1)] at hno;exact hno
theorem qA(l:Sl dP)(F:FuncId)(caps:List Value)(p q:Per)(Ψ:dP→Bool→Prop)(hF:aX Tryz.prog F=true)(h:∀ a∈l.l,Con Tryz.prog F (a.val::caps) [p,q] [] (YN Value.bool (Ψ a))):Con Tryz.prog 224 [l.val,.func (.func F) #[] caps.toArray] [ShF dP.row l,p,q] []
   (YN Value.bool (fun b=>(b=true→∃ a∈l.l,Ψ a true)∧(b=false→∀ a∈l.l,Ψ a false))):=by
 refine Con.enter Tryz.func224 rfl (by simp [Tryz.ntmps224]) ?_
 show awp _ _ _ _ ⟨[(0,true,_),(1,true,_)],_,_⟩
 refine go 0 [0,0,0] ?_
 refine aT (q:=true) rfl (fe [2,1,0] [] (by kernel_rfl) rfl rfl rfl rfl (qG l F caps p q Ψ hF h) ?_)
 rintro _ _ _ ⟨⟨rfl,rfl⟩,z,rfl,hz⟩
 refine aST ?_
 refine go 2 [0,0] ?_
 refine ae ?_
 refine bB [] [] rfl Tryz.results224 rfl ?_ (.inr rfl)
 exact ⟨⟨rfl,rfl⟩,_,rfl,fun hb=>hz.1 (by simpa using hb),fun hb=>hz.2 (by simpa using hb)⟩

theorem mY(b:Nat)(F:FuncId)(caps:List Value)(p:Per)(a:dP)(Φ:Prop)(hF:aX Tryz.prog F=true)(h:Con Tryz.prog F (a.val::caps) [p] [] (YB Φ)):Con Tryz.prog 225 [a.val,.pointer (some ⟨b,0,none⟩)] [At b 0 [.v (.func (.func F) #[] caps.toArray)],p] []
   (YN Value.bool (fun b=>b=false→Φ)):=by
 refine Con.enter Tryz.func225 rfl (by simp [Tryz.ntmps225]) ?_
 show awp _ _ _ _ ⟨[(0,true,_),(1,true,_)],_,_⟩
 refine aSR ?_
 refine aT (q:=true) rfl (aS rfl rfl rfl (fun b0_0 => ?_))
 refine aHN ?_
 refine go 4 [0] ?_
 refine aU rfl (cm (o:=0) tk247 rfl (.of (ax 0 rfl)) rfl) ?_
 refine go 0 [16896] ?_
 refine aE [0] (false) hF true rfl rfl (fun _=>rfl) (fun hc=>rfl) (fun hc=>h) (fun c hc => ?_)
 refine go 2 [0,0] ?_
 refine ae ?_
 refine bB [] [] rfl Tryz.results225 rfl ?_ (.inr rfl)
 exact ⟨⟨rfl,rfl⟩,_,rfl,fun hb=>hc rfl (by simpa using hb)⟩
theorem oT(l:Sl dP)(F:FuncId)(caps:List Value)(p:Per)(Φ:dP→Prop)(hF:aX Tryz.prog F=true)(h:∀ a∈l.l,Con Tryz.prog F (a.val::caps) [p] [] (YB (Φ a))):Con Tryz.prog 177 [l.val,.func (.func F) #[] caps.toArray] [ShF dP.row l,p] []
   (YB (∀ a∈l.l,Φ a)):=by
 refine Con.enter Tryz.func177 rfl (by simp [Tryz.ntmps177]) ?_
 show awp _ _ _ _ ⟨[(0,true,_),(1,true,_)],_,_⟩
 refine aSR ?_
 refine aT (q:=true) rfl (aS rfl rfl rfl (fun b0_0 => ?_))
 refine aHN ?_
 refine go 3 [0] ?_
 refine aZ 0 rfl rfl ?_
 show awp _ _ _ _ ⟨_,At _ 0 _::_,_⟩
 refine az (aM rfl (aU rfl (cA (l:=[.tmp 3]) rfl) ?_))
 refine aE (caps:=[]) [1,2,0] (false) (by kernel_rfl) true rfl rfl (fun _=>rfl) (fun hc=>rfl) (fun hc=>by rw [List.append_nil];exact qA l 225 [.pointer (some ⟨b0_0,0,none⟩)] (At b0_0 0 [.v (.func (.func F) #[] caps.toArray)]) p (fun a b=>b=false→Φ a) (by kernel_rfl) (fun a ha=>mY b0_0 F caps p a (Φ a) hF (h a ha))) (fun c hc => ?_)
 refine go 2 [0,0] ?_
 refine ae ?_
 refine bB [] [] rfl Tryz.results177 rfl ?_ (.inr rfl)
 exact ⟨⟨rfl,rfl⟩,_,rfl,fun hb a ha=>(hc rfl).2 (by simpa using hb) a ha rfl⟩
theorem pd(l:Sl dP)(F:FuncId)(caps:List Value)(p:Per)(hF:aX Tryz.prog F=true)(h:∀ a∈l.l,∀ b∈l.l,Con Tryz.prog F (a.val::b.val::caps) [p] [] (YB True)):Con Tryz.prog 178 [l.val,.func (.func F) #[] caps.toArray] [ShF dP.row l,p] [] (YB True):=by
 refine Con.enter Tryz.func178 rfl (by simp [Tryz.ntmps178]) ?_
 show awp _ _ _ _ ⟨[(0,true,_),(1,true,_)],_,_⟩
 refine aO (.of (ax 0 rfl)) (fun hlen => ?_)
 refine go 3 [0,0] ?_
 refine aF [0,1,5] [1,0] [] (fun (k:Nat) s=>k≤l.l.length∧s=⟨[(0,true,l.val),(1,true,.func (.func F) #[] caps.toArray),(5,true,.int .i64 ((k+1:Nat):Int))],[ShF dP.row l,p],[]⟩) (fun k=>l.l.length-k) rfl (⟨0,Nat.zero_le _,rfl⟩) ?_
 rintro k s ⟨hk,rfl⟩
 refine go 2 [0,0,180,0] ?_
 refine aa _ rfl (fun h1 => ?_) (fun h1 => ?_)
 ·skip
  have hk':k+1<l.l.length:=by simp at h1;omega
  have ha:=bA (l:=l.l) (i:=k) (by omega)
  have hb:=bA (l:=l.l) (i:=k+1) hk'
  refine aD (an (aq (aH (aq ?_))))
  refine fk [] (by kernel_rfl) ?_
  show aB _ _ _ _ _ 12 #[false,false,false,false,false,false,false,false,false,false,false,false] _
  refine go 0 [0,0,0,0] ?_
  refine dz 4 rfl (by kernel_rfl) true rfl rfl (fun _=>ai Tryz.underlying123 tk180 rfl ((.of (ax 0 rfl))) rfl (ak ha) (by omega) rfl) (fun h=>absurd h (by decide)) (fun ⟨b4_4,o4_4⟩ => ?_)
  refine go 0 [33796,0,0] ?_
  refine dz 8 rfl (by kernel_rfl) true rfl rfl (fun _=>ai Tryz.underlying123 tk180 rfl ((.of (ax 1 rfl))) rfl (ak hb) rfl rfl) (fun h=>absurd h (by decide)) (fun ⟨b4_8,o4_8⟩ => ?_)
  refine go 0 [33796] ?_
  refine cQ 10 rfl (by kernel_rfl) [0] (false) hF true rfl rfl (fun _=>rfl) (fun hc=>rfl) (fun hc=>h _ (List.mem_of_getElem? ha) _ (List.mem_of_getElem? hb)) (fun c hc => ?_)
  refine go 2 [0] ?_
  refine aa _ rfl (fun h2 => ?_) (fun h2 => ?_)
  ·skip
   refine go 2 [0] ?_
   refine ae (aK (aj (aj (aK (aj ?_)))))
   refine bB [] [] rfl Tryz.results178 rfl ?_ (.inr rfl)
   exact ⟨⟨rfl,rfl⟩,_,rfl,fun _=>trivial⟩
  ·skip
   refine go 1 [0,0,0] ?_
   refine an ?_
   refine ⟨[0,1,5],[1,0],[],rfl,?_⟩
   exact ⟨k+1,⟨by omega,rfl⟩,by omega⟩
 ·skip
  refine go 2 [0] ?_
  refine ae ?_
  refine bB [] [] rfl Tryz.results178 rfl ?_ (.inr rfl)
  exact ⟨⟨rfl,rfl⟩,_,rfl,fun _=>trivial⟩
theorem tk254:tyk Tryz.prog 254=some (false,1):=by kernel_rfl
theorem m4(l:Sl cJ)(F:FuncId)(caps:List Value)(p q:Per)(Ψ:cJ→Bool→Prop)(hF:aX Tryz.prog F=true)(h:∀ a∈l.l,Con Tryz.prog F (a.val::caps) [p,q] [] (YN Value.bool (Ψ a))):Con Tryz.prog 251 [l.val,.func (.func F) #[] caps.toArray] [ShF cJ.row l,p,q] []
   (YN (fun z:Int=>.int .i64 z) (fun z=>(z≥0→∃ a∈l.l,Ψ a true)∧(¬ z≥0→∀ a∈l.l,Ψ a false))):=by
 refine Con.enter Tryz.func251 rfl (by simp [Tryz.ntmps251]) ?_
 show awp _ _ _ _ ⟨[(0,true,_),(1,true,_)],_,_⟩
 refine aO (.of (ax 0 rfl)) (fun hlen => ?_)
 refine go 3 [0,0,253,0] ?_
 refine aF [0,1,7,8] [2,1,0] [] (fun (k:Nat) s=>(k≤l.l.length∧∀ a∈l.l.take k,Ψ a false)∧s=⟨[(0,true,l.val),(1,true,.func (.func F) #[] caps.toArray),(7,true,.int .i64 l.l.length),(8,true,.int .i64 k)],[ShF cJ.row l,p,q],[]⟩) (fun k=>l.l.length-k) rfl (⟨0,⟨Nat.zero_le _,fun a ha=>by cases ha⟩,rfl⟩) ?_
 rintro k s ⟨⟨hk,hno⟩,rfl⟩
 refine go 3 [0] ?_
 refine aa _ rfl (fun h1 => ?_) (fun h1 => ?_)
 ·skip
  have hk':k<l.l.length:=by simpa using h1
  obtain ⟨a,ha⟩:∃ a,l.l[k]? = some a:=⟨l.l[k]'hk',by simp⟩
  refine go 0 [0,0,0,0,0] ?_
  refine bI true rfl rfl (fun _=>ai Tryz.underlying50 tk253 rfl ((.of (ax 0 rfl))) rfl (ak ha) rfl rfl) (fun h=>absurd h (by decide)) (fun ⟨b4_3,o4_3⟩ => ?_)
  refine go 0 [10754] ?_
  refine aE [1,0] (false) hF true rfl rfl (fun _=>rfl) (fun hc=>rfl) (fun hc=>h a (List.mem_of_getElem? ha)) (fun c hc => ?_)
  refine aNn ?_
  refine aa _ rfl (fun h2 => ?_) (fun h2 => ?_)
  ·skip
   refine go 2 [0,0] ?_
   refine ae (aK (aj (aj (aK (aj ?_)))))
   refine bB [] [] rfl Tryz.results251 rfl ?_ (.inr rfl)
   exact ⟨⟨rfl,rfl⟩,_,rfl,fun _=>⟨a,List.mem_of_getElem? ha,h2 ▸ hc rfl⟩,fun hz=>(hz (Int.natCast_nonneg k)).elim⟩
  ·skip
   refine go 1 [0,0] ?_
   refine an ?_
   refine ⟨[0,1,7,8],[2,1,0],[],rfl,?_⟩
   refine ⟨k+1,⟨⟨by omega,?_⟩,rfl⟩,by omega⟩
   intro y hy
   rw [List.take_add_one,ha,List.mem_append] at hy
   rcases hy with hy | hy
   · exact hno y hy
   · simp at hy;subst hy;exact h2 ▸ hc rfl
 ·skip
  refine go 2 [0] ?_
  refine ae ?_
  refine bB [] [] rfl Tryz.results251 rfl ?_ (.inr rfl)
  refine ⟨⟨rfl,rfl⟩,_,rfl,fun hz=>absurd hz (by decide),fun _ => ?_⟩
  rw [List.take_of_length_le (by simpa using h1)] at hno;exact hno
theorem mT(l:Sl cJ)(F:FuncId)(caps:List Value)(p q:Per)(Ψ:cJ→Bool→Prop)(hF:aX Tryz.prog F=true)(h:∀ a∈l.l,Con Tryz.prog F (a.val::caps) [p,q] [] (YN Value.bool (Ψ a))):Con Tryz.prog 226 [l.val,.func (.func F) #[] caps.toArray] [ShF cJ.row l,p,q] []
   (YN Value.bool (fun b=>(b=true→∃ a∈l.l,Ψ a true)∧(b=false→∀ a∈l.l,Ψ a false))):=by
 refine Con.enter Tryz.func226 rfl (by simp [Tryz.ntmps226]) ?_
 show awp _ _ _ _ ⟨[(0,true,_),(1,true,_)],_,_⟩
 refine go 0 [0,0,0] ?_
 refine aT (q:=true) rfl (fe [2,1,0] [] (by kernel_rfl) rfl rfl rfl rfl (m4 l F caps p q Ψ hF h) ?_)
 rintro _ _ _ ⟨⟨rfl,rfl⟩,z,rfl,hz⟩
 refine aST ?_
 refine go 2 [0,0] ?_
 refine ae ?_
 refine bB [] [] rfl Tryz.results226 rfl ?_ (.inr rfl)
 exact ⟨⟨rfl,rfl⟩,_,rfl,fun hb=>hz.1 (by simpa using hb),fun hb=>hz.2 (by simpa using hb)⟩

theorem kQ(b:Nat)(F:FuncId)(caps:List Value)(p:Per)(a:cJ)(Φ:Prop)(hF:aX Tryz.prog F=true)(h:Con Tryz.prog F (a.val::caps) [p] [] (YB Φ)):Con Tryz.prog 227 [a.val,.pointer (some ⟨b,0,none⟩)] [At b 0 [.v (.func (.func F) #[] caps.toArray)],p] []
   (YN Value.bool (fun b=>b=false→Φ)):=by
 refine Con.enter Tryz.func227 rfl (by simp [Tryz.ntmps227]) ?_
 show awp _ _ _ _ ⟨[(0,true,_),(1,true,_)],_,_⟩
 refine aSR ?_
 refine aT (q:=true) rfl (aS rfl rfl rfl (fun b0_0 => ?_))
 refine aHN ?_
 refine go 4 [0] ?_
 refine aU rfl (cm (o:=0) tk254 rfl (.of (ax 0 rfl)) rfl) ?_
 refine go 0 [10752] ?_
 refine aE [0] (false) hF true rfl rfl (fun _=>rfl) (fun hc=>rfl) (fun hc=>h) (fun c hc => ?_)
 refine go 2 [0,0] ?_
 refine ae ?_
 refine bB [] [] rfl Tryz.results227 rfl ?_ (.inr rfl)
 exact ⟨⟨rfl,rfl⟩,_,rfl,fun hb=>hc rfl (by simpa using hb)⟩
theorem l8(l:Sl cJ)(F:FuncId)(caps:List Value)(p:Per)(Φ:cJ→Prop)(hF:aX Tryz.prog F=true)(h:∀ a∈l.l,Con Tryz.prog F (a.val::caps) [p] [] (YB (Φ a))):Con Tryz.prog 181 [l.val,.func (.func F) #[] caps.toArray] [ShF cJ.row l,p] []
   (YB (∀ a∈l.l,Φ a)):=by
 refine Con.enter Tryz.func181 rfl (by simp [Tryz.ntmps181]) ?_
 show awp _ _ _ _ ⟨[(0,true,_),(1,true,_)],_,_⟩
 refine aSR ?_
 refine aT (q:=true) rfl (aS rfl rfl rfl (fun b0_0 => ?_))
 refine aHN ?_
 refine go 3 [0] ?_
 refine aZ 0 rfl rfl ?_
 show awp _ _ _ _ ⟨_,At _ 0 _::_,_⟩
 refine az (aM rfl (aU rfl (cA (l:=[.tmp 3]) rfl) ?_))
 refine aE (caps:=[]) [1,2,0] (false) (by kernel_rfl) true rfl rfl (fun _=>rfl) (fun hc=>rfl) (fun hc=>by rw [List.append_nil];exact mT l 227 [.pointer (some ⟨b0_0,0,none⟩)] (At b0_0 0 [.v (.func (.func F) #[] caps.toArray)]) p (fun a b=>b=false→Φ a) (by kernel_rfl) (fun a ha=>kQ b0_0 F caps p a (Φ a) hF (h a ha))) (fun c hc => ?_)
 refine go 2 [0,0] ?_
 refine ae ?_
 refine bB [] [] rfl Tryz.results181 rfl ?_ (.inr rfl)
 exact ⟨⟨rfl,rfl⟩,_,rfl,fun hb a ha=>(hc rfl).2 (by simpa using hb) a ha rfl⟩
theorem mf(l:Sl cJ)(F:FuncId)(caps:List Value)(p:Per)(hF:aX Tryz.prog F=true)(h:∀ a∈l.l,∀ b∈l.l,Con Tryz.prog F (a.val::b.val::caps) [p] [] (YB True)):Con Tryz.prog 182 [l.val,.func (.func F) #[] caps.toArray] [ShF cJ.row l,p] [] (YB True):=by
 refine Con.enter Tryz.func182 rfl (by simp [Tryz.ntmps182]) ?_
 show awp _ _ _ _ ⟨[(0,true,_),(1,true,_)],_,_⟩
 refine aO (.of (ax 0 rfl)) (fun hlen => ?_)
 refine go 3 [0,0] ?_
 refine aF [0,1,5] [1,0] [] (fun (k:Nat) s=>k≤l.l.length∧s=⟨[(0,true,l.val),(1,true,.func (.func F) #[] caps.toArray),(5,true,.int .i64 ((k+1:Nat):Int))],[ShF cJ.row l,p],[]⟩) (fun k=>l.l.length-k) rfl (⟨0,Nat.zero_le _,rfl⟩) ?_
 rintro k s ⟨hk,rfl⟩
 refine go 2 [0,0,253,0] ?_
 refine aa _ rfl (fun h1 => ?_) (fun h1 => ?_)
 ·skip
  have hk':k+1<l.l.length:=by simp at h1;omega
  have ha:=bA (l:=l.l) (i:=k) (by omega)
  have hb:=bA (l:=l.l) (i:=k+1) hk'
  refine aD (an (aq (aH (aq ?_))))
  refine fk [] (by kernel_rfl) ?_
  show aB _ _ _ _ _ 12 #[false,false,false,false,false,false,false,false,false,false,false,false] _
  refine go 0 [0,0,0,0] ?_
  refine dz 4 rfl (by kernel_rfl) true rfl rfl (fun _=>ai Tryz.underlying50 tk253 rfl ((.of (ax 0 rfl))) rfl (ak ha) (by omega) rfl) (fun h=>absurd h (by decide)) (fun ⟨b4_4,o4_4⟩ => ?_)
  refine go 0 [21508,0,0] ?_
  refine dz 8 rfl (by kernel_rfl) true rfl rfl (fun _=>ai Tryz.underlying50 tk253 rfl ((.of (ax 1 rfl))) rfl (ak hb) rfl rfl) (fun h=>absurd h (by decide)) (fun ⟨b4_8,o4_8⟩ => ?_)
  refine go 0 [21508] ?_
  refine cQ 10 rfl (by kernel_rfl) [0] (false) hF true rfl rfl (fun _=>rfl) (fun hc=>rfl) (fun hc=>h _ (List.mem_of_getElem? ha) _ (List.mem_of_getElem? hb)) (fun c hc => ?_)
  refine go 2 [0] ?_
  refine aa _ rfl (fun h2 => ?_) (fun h2 => ?_)
  ·skip
   refine go 2 [0] ?_
   refine ae (aK (aj (aj (aK (aj ?_)))))
   refine bB [] [] rfl Tryz.results182 rfl ?_ (.inr rfl)
   exact ⟨⟨rfl,rfl⟩,_,rfl,fun _=>trivial⟩
  ·skip
   refine go 1 [0,0,0] ?_
   refine an ?_
   refine ⟨[0,1,5],[1,0],[],rfl,?_⟩
   exact ⟨k+1,⟨by omega,rfl⟩,by omega⟩
 ·skip
  refine go 2 [0] ?_
  refine ae ?_
  refine bB [] [] rfl Tryz.results182 rfl ?_ (.inr rfl)
  exact ⟨⟨rfl,rfl⟩,_,rfl,fun _=>trivial⟩
theorem tk261:tyk Tryz.prog 261=some (false,1):=by kernel_rfl
theorem m5(l:Sl cN)(F:FuncId)(caps:List Value)(p q:Per)(Ψ:cN→Bool→Prop)(hF:aX Tryz.prog F=true)(h:∀ a∈l.l,Con Tryz.prog F (a.val::caps) [p,q] [] (YN Value.bool (Ψ a))):Con Tryz.prog 252 [l.val,.func (.func F) #[] caps.toArray] [ShF cN.row l,p,q] []
   (YN (fun z:Int=>.int .i64 z) (fun z=>(z≥0→∃ a∈l.l,Ψ a true)∧(¬ z≥0→∀ a∈l.l,Ψ a false))):=by
 refine Con.enter Tryz.func252 rfl (by simp [Tryz.ntmps252]) ?_
 show awp _ _ _ _ ⟨[(0,true,_),(1,true,_)],_,_⟩
 refine aO (.of (ax 0 rfl)) (fun hlen => ?_)
 refine go 3 [0,0,260,0] ?_
 refine aF [0,1,7,8] [2,1,0] [] (fun (k:Nat) s=>(k≤l.l.length∧∀ a∈l.l.take k,Ψ a false)∧s=⟨[(0,true,l.val),(1,true,.func (.func F) #[] caps.toArray),(7,true,.int .i64 l.l.length),(8,true,.int .i64 k)],[ShF cN.row l,p,q],[]⟩) (fun k=>l.l.length-k) rfl (⟨0,⟨Nat.zero_le _,fun a ha=>by cases ha⟩,rfl⟩) ?_
 rintro k s ⟨⟨hk,hno⟩,rfl⟩
 refine go 3 [0] ?_
 refine aa _ rfl (fun h1 => ?_) (fun h1 => ?_)
 ·skip
  have hk':k<l.l.length:=by simpa using h1
  obtain ⟨a,ha⟩:∃ a,l.l[k]? = some a:=⟨l.l[k]'hk',by simp⟩
  refine go 0 [0,0,0,0,0] ?_
  refine bI true rfl rfl (fun _=>ai Tryz.underlying142 tk260 rfl ((.of (ax 0 rfl))) rfl (ak ha) rfl rfl) (fun h=>absurd h (by decide)) (fun ⟨b4_3,o4_3⟩ => ?_)
  refine go 0 [7682] ?_
  refine aE [1,0] (false) hF true rfl rfl (fun _=>rfl) (fun hc=>rfl) (fun hc=>h a (List.mem_of_getElem? ha)) (fun c hc => ?_)
  refine aNn ?_
  refine aa _ rfl (fun h2 => ?_) (fun h2 => ?_)
  ·skip
   refine go 2 [0,0] ?_
   refine ae (aK (aj (aj (aK (aj ?_)))))
   refine bB [] [] rfl Tryz.results252 rfl ?_ (.inr rfl)
   exact ⟨⟨rfl,rfl⟩,_,rfl,fun _=>⟨a,List.mem_of_getElem? ha,h2 ▸ hc rfl⟩,fun hz=>(hz (Int.natCast_nonneg k)).elim⟩
  ·skip
   refine go 1 [0,0] ?_
   refine an ?_
   refine ⟨[0,1,7,8],[2,1,0],[],rfl,?_⟩
   refine ⟨k+1,⟨⟨by omega,?_⟩,rfl⟩,by omega⟩
   intro y hy
   rw [List.take_add_one,ha,List.mem_append] at hy
   rcases hy with hy | hy
   · exact hno y hy
   · simp at hy;subst hy;exact h2 ▸ hc rfl
 ·skip
  refine go 2 [0] ?_
  refine ae ?_
  refine bB [] [] rfl Tryz.results252 rfl ?_ (.inr rfl)
  refine ⟨⟨rfl,rfl⟩,_,rfl,fun hz=>absurd hz (by decide),fun _ => ?_⟩
  rw [List.take_of_length_le (by simpa using h1)] at hno;exact hno
theorem mU(l:Sl cN)(F:FuncId)(caps:List Value)(p q:Per)(Ψ:cN→Bool→Prop)(hF:aX Tryz.prog F=true)(h:∀ a∈l.l,Con Tryz.prog F (a.val::caps) [p,q] [] (YN Value.bool (Ψ a))):Con Tryz.prog 228 [l.val,.func (.func F) #[] caps.toArray] [ShF cN.row l,p,q] []
   (YN Value.bool (fun b=>(b=true→∃ a∈l.l,Ψ a true)∧(b=false→∀ a∈l.l,Ψ a false))):=by
 refine Con.enter Tryz.func228 rfl (by simp [Tryz.ntmps228]) ?_
 show awp _ _ _ _ ⟨[(0,true,_),(1,true,_)],_,_⟩
 refine go 0 [0,0,0] ?_
 refine aT (q:=true) rfl (fe [2,1,0] [] (by kernel_rfl) rfl rfl rfl rfl (m5 l F caps p q Ψ hF h) ?_)
 rintro _ _ _ ⟨⟨rfl,rfl⟩,z,rfl,hz⟩
 refine aST ?_
 refine go 2 [0,0] ?_
 refine ae ?_
 refine bB [] [] rfl Tryz.results228 rfl ?_ (.inr rfl)
 exact ⟨⟨rfl,rfl⟩,_,rfl,fun hb=>hz.1 (by simpa using hb),fun hb=>hz.2 (by simpa using hb)⟩

theorem kR(b:Nat)(F:FuncId)(caps:List Value)(p:Per)(a:cN)(Φ:Prop)(hF:aX Tryz.prog F=true)(h:Con Tryz.prog F (a.val::caps) [p] [] (YB Φ)):Con Tryz.prog 229 [a.val,.pointer (some ⟨b,0,none⟩)] [At b 0 [.v (.func (.func F) #[] caps.toArray)],p] []
   (YN Value.bool (fun b=>b=false→Φ)):=by
 refine Con.enter Tryz.func229 rfl (by simp [Tryz.ntmps229]) ?_
 show awp _ _ _ _ ⟨[(0,true,_),(1,true,_)],_,_⟩
 refine aSR ?_
 refine aT (q:=true) rfl (aS rfl rfl rfl (fun b0_0 => ?_))
 refine aHN ?_
 refine go 4 [0] ?_
 refine aU rfl (cm (o:=0) tk261 rfl (.of (ax 0 rfl)) rfl) ?_
 refine go 0 [7680] ?_
 refine aE [0] (false) hF true rfl rfl (fun _=>rfl) (fun hc=>rfl) (fun hc=>h) (fun c hc => ?_)
 refine go 2 [0,0] ?_
 refine ae ?_
 refine bB [] [] rfl Tryz.results229 rfl ?_ (.inr rfl)
 exact ⟨⟨rfl,rfl⟩,_,rfl,fun hb=>hc rfl (by simpa using hb)⟩
theorem l9(l:Sl cN)(F:FuncId)(caps:List Value)(p:Per)(Φ:cN→Prop)(hF:aX Tryz.prog F=true)(h:∀ a∈l.l,Con Tryz.prog F (a.val::caps) [p] [] (YB (Φ a))):Con Tryz.prog 185 [l.val,.func (.func F) #[] caps.toArray] [ShF cN.row l,p] []
   (YB (∀ a∈l.l,Φ a)):=by
 refine Con.enter Tryz.func185 rfl (by simp [Tryz.ntmps185]) ?_
 show awp _ _ _ _ ⟨[(0,true,_),(1,true,_)],_,_⟩
 refine aSR ?_
 refine aT (q:=true) rfl (aS rfl rfl rfl (fun b0_0 => ?_))
 refine aHN ?_
 refine go 3 [0] ?_
 refine aZ 0 rfl rfl ?_
 show awp _ _ _ _ ⟨_,At _ 0 _::_,_⟩
 refine az (aM rfl (aU rfl (cA (l:=[.tmp 3]) rfl) ?_))
 refine aE (caps:=[]) [1,2,0] (false) (by kernel_rfl) true rfl rfl (fun _=>rfl) (fun hc=>rfl) (fun hc=>by rw [List.append_nil];exact mU l 229 [.pointer (some ⟨b0_0,0,none⟩)] (At b0_0 0 [.v (.func (.func F) #[] caps.toArray)]) p (fun a b=>b=false→Φ a) (by kernel_rfl) (fun a ha=>kR b0_0 F caps p a (Φ a) hF (h a ha))) (fun c hc => ?_)
 refine go 2 [0,0] ?_
 refine ae ?_
 refine bB [] [] rfl Tryz.results185 rfl ?_ (.inr rfl)
 exact ⟨⟨rfl,rfl⟩,_,rfl,fun hb a ha=>(hc rfl).2 (by simpa using hb) a ha rfl⟩
theorem mg(l:Sl cN)(F:FuncId)(caps:List Value)(p:Per)(hF:aX Tryz.prog F=true)(h:∀ a∈l.l,∀ b∈l.l,Con Tryz.prog F (a.val::b.val::caps) [p] [] (YB True)):Con Tryz.prog 187 [l.val,.func (.func F) #[] caps.toArray] [ShF cN.row l,p] [] (YB True):=by
 refine Con.enter Tryz.func187 rfl (by simp [Tryz.ntmps187]) ?_
 show awp _ _ _ _ ⟨[(0,true,_),(1,true,_)],_,_⟩
 refine aO (.of (ax 0 rfl)) (fun hlen => ?_)
 refine go 3 [0,0] ?_
 refine aF [0,1,5] [1,0] [] (fun (k:Nat) s=>k≤l.l.length∧s=⟨[(0,true,l.val),(1,true,.func (.func F) #[] caps.toArray),(5,true,.int .i64 ((k+1:Nat):Int))],[ShF cN.row l,p],[]⟩) (fun k=>l.l.length-k) rfl (⟨0,Nat.zero_le _,rfl⟩) ?_
 rintro k s ⟨hk,rfl⟩
 refine go 2 [0,0,260,0] ?_
 refine aa _ rfl (fun h1 => ?_) (fun h1 => ?_)
 ·skip
  have hk':k+1<l.l.length:=by simp at h1;omega
  have ha:=bA (l:=l.l) (i:=k) (by omega)
  have hb:=bA (l:=l.l) (i:=k+1) hk'
  refine aD (an (aq (aH (aq ?_))))
  refine fk [] (by kernel_rfl) ?_
  show aB _ _ _ _ _ 12 #[false,false,false,false,false,false,false,false,false,false,false,false] _
  refine go 0 [0,0,0,0] ?_
  refine dz 4 rfl (by kernel_rfl) true rfl rfl (fun _=>ai Tryz.underlying142 tk260 rfl ((.of (ax 0 rfl))) rfl (ak ha) (by omega) rfl) (fun h=>absurd h (by decide)) (fun ⟨b4_4,o4_4⟩ => ?_)
  refine go 0 [15364,0,0] ?_
  refine dz 8 rfl (by kernel_rfl) true rfl rfl (fun _=>ai Tryz.underlying142 tk260 rfl ((.of (ax 1 rfl))) rfl (ak hb) rfl rfl) (fun h=>absurd h (by decide)) (fun ⟨b4_8,o4_8⟩ => ?_)
  refine go 0 [15364] ?_
  refine cQ 10 rfl (by kernel_rfl) [0] (false) hF true rfl rfl (fun _=>rfl) (fun hc=>rfl) (fun hc=>h _ (List.mem_of_getElem? ha) _ (List.mem_of_getElem? hb)) (fun c hc => ?_)
  refine go 2 [0] ?_
  refine aa _ rfl (fun h2 => ?_) (fun h2 => ?_)
  ·skip
   refine go 2 [0] ?_
   refine ae (aK (aj (aj (aK (aj ?_)))))
   refine bB [] [] rfl Tryz.results187 rfl ?_ (.inr rfl)
   exact ⟨⟨rfl,rfl⟩,_,rfl,fun _=>trivial⟩
  ·skip
   refine go 1 [0,0,0] ?_
   refine an ?_
   refine ⟨[0,1,5],[1,0],[],rfl,?_⟩
   exact ⟨k+1,⟨by omega,rfl⟩,by omega⟩
 ·skip
  refine go 2 [0] ?_
  refine ae ?_
  refine bB [] [] rfl Tryz.results187 rfl ?_ (.inr rfl)
  exact ⟨⟨rfl,rfl⟩,_,rfl,fun _=>trivial⟩
theorem tk264:tyk Tryz.prog 264=some (false,1):=by kernel_rfl
theorem kW(l:Sl bp)(F:FuncId)(caps:List Value)(p q:Per)(Ψ:bp→Bool→Prop)(hF:aX Tryz.prog F=true)(h:∀ a∈l.l,Con Tryz.prog F (a.val::caps) [p,q] [] (YN Value.bool (Ψ a))):Con Tryz.prog 253 [l.val,.func (.func F) #[] caps.toArray] [ShF bp.row l,p,q] []
   (YN (fun z:Int=>.int .i64 z) (fun z=>(z≥0→∃ a∈l.l,Ψ a true)∧(¬ z≥0→∀ a∈l.l,Ψ a false))):=by
 refine Con.enter Tryz.func253 rfl (by simp [Tryz.ntmps253]) ?_
 show awp _ _ _ _ ⟨[(0,true,_),(1,true,_)],_,_⟩
 refine aO (.of (ax 0 rfl)) (fun hlen => ?_)
 refine go 3 [0,0,146,0] ?_
 refine aF [0,1,7,8] [2,1,0] [] (fun (k:Nat) s=>(k≤l.l.length∧∀ a∈l.l.take k,Ψ a false)∧s=⟨[(0,true,l.val),(1,true,.func (.func F) #[] caps.toArray),(7,true,.int .i64 l.l.length),(8,true,.int .i64 k)],[ShF bp.row l,p,q],[]⟩) (fun k=>l.l.length-k) rfl (⟨0,⟨Nat.zero_le _,fun a ha=>by cases ha⟩,rfl⟩) ?_
 rintro k s ⟨⟨hk,hno⟩,rfl⟩
 refine go 3 [0] ?_
 refine aa _ rfl (fun h1 => ?_) (fun h1 => ?_)
 ·skip
  have hk':k<l.l.length:=by simpa using h1
  obtain ⟨a,ha⟩:∃ a,l.l[k]? = some a:=⟨l.l[k]'hk',by simp⟩
  refine go 0 [0,0,0,0,0] ?_
  refine bI true rfl rfl (fun _=>ai Tryz.underlying124 tk146 rfl ((.of (ax 0 rfl))) rfl (ak ha) rfl rfl) (fun h=>absurd h (by decide)) (fun ⟨b4_3,o4_3⟩ => ?_)
  refine go 0 [10754] ?_
  refine aE [1,0] (false) hF true rfl rfl (fun _=>rfl) (fun hc=>rfl) (fun hc=>h a (List.mem_of_getElem? ha)) (fun c hc => ?_)
  refine aNn ?_
  refine aa _ rfl (fun h2 => ?_) (fun h2 => ?_)
  ·skip
   refine go 2 [0,0] ?_
   refine ae (aK (aj (aj (aK (aj ?_)))))
   refine bB [] [] rfl Tryz.results253 rfl ?_ (.inr rfl)
   exact ⟨⟨rfl,rfl⟩,_,rfl,fun _=>⟨a,List.mem_of_getElem? ha,h2 ▸ hc rfl⟩,fun hz=>(hz (Int.natCast_nonneg k)).elim⟩
  ·skip
   refine go 1 [0,0] ?_
   refine an ?_
   refine ⟨[0,1,7,8],[2,1,0],[],rfl,?_⟩
   refine ⟨k+1,⟨⟨by omega,?_⟩,rfl⟩,by omega⟩
   intro y hy
   rw [List.take_add_one,ha,List.mem_append] at hy
   rcases hy with hy | hy
   · exact hno y hy
   · simp at hy;subst hy;exact h2 ▸ hc rfl
 ·skip
  refine go 2 [0] ?_
  refine ae ?_
  refine bB [] [] rfl Tryz.results253 rfl ?_ (.inr rfl)
  refine ⟨⟨rfl,rfl⟩,_,rfl,fun hz=>absurd hz (by decide),fun _ => ?_⟩
  rw [List.take_of_length_le (by simpa using h1)] at hno;exact hno
theorem kM(l:Sl bp)(F:FuncId)(caps:List Value)(p q:Per)(Ψ:bp→Bool→Prop)(hF:aX Tryz.prog F=true)(h:∀ a∈l.l,Con Tryz.prog F (a.val::caps) [p,q] [] (YN Value.bool (Ψ a))):Con Tryz.prog 230 [l.val,.func (.func F) #[] caps.toArray] [ShF bp.row l,p,q] []
   (YN Value.bool (fun b=>(b=true→∃ a∈l.l,Ψ a true)∧(b=false→∀ a∈l.l,Ψ a false))):=by
 refine Con.enter Tryz.func230 rfl (by simp [Tryz.ntmps230]) ?_
 show awp _ _ _ _ ⟨[(0,true,_),(1,true,_)],_,_⟩
 refine go 0 [0,0,0] ?_
 refine aT (q:=true) rfl (fe [2,1,0] [] (by kernel_rfl) rfl rfl rfl rfl (kW l F caps p q Ψ hF h) ?_)
 rintro _ _ _ ⟨⟨rfl,rfl⟩,z,rfl,hz⟩
 refine aST ?_
 refine go 2 [0,0] ?_
 refine ae ?_
 refine bB [] [] rfl Tryz.results230 rfl ?_ (.inr rfl)
 exact ⟨⟨rfl,rfl⟩,_,rfl,fun hb=>hz.1 (by simpa using hb),fun hb=>hz.2 (by simpa using hb)⟩

theorem jy(b:Nat)(F:FuncId)(caps:List Value)(p:Per)(a:bp)(Φ:Prop)(hF:aX Tryz.prog F=true)(h:Con Tryz.prog F (a.val::caps) [p] [] (YB Φ)):Con Tryz.prog 231 [a.val,.pointer (some ⟨b,0,none⟩)] [At b 0 [.v (.func (.func F) #[] caps.toArray)],p] []
   (YN Value.bool (fun b=>b=false→Φ)):=by
 refine Con.enter Tryz.func231 rfl (by simp [Tryz.ntmps231]) ?_
 show awp _ _ _ _ ⟨[(0,true,_),(1,true,_)],_,_⟩
 refine aSR ?_
 refine aT (q:=true) rfl (aS rfl rfl rfl (fun b0_0 => ?_))
 refine aHN ?_
 refine go 4 [0] ?_
 refine aU rfl (cm (o:=0) tk264 rfl (.of (ax 0 rfl)) rfl) ?_
 refine go 0 [10752] ?_
 refine aE [0] (false) hF true rfl rfl (fun _=>rfl) (fun hc=>rfl) (fun hc=>h) (fun c hc => ?_)
 refine go 2 [0,0] ?_
 refine ae ?_
 refine bB [] [] rfl Tryz.results231 rfl ?_ (.inr rfl)
 exact ⟨⟨rfl,rfl⟩,_,rfl,fun hb=>hc rfl (by simpa using hb)⟩
theorem j5(l:Sl bp)(F:FuncId)(caps:List Value)(p:Per)(Φ:bp→Prop)(hF:aX Tryz.prog F=true)(h:∀ a∈l.l,Con Tryz.prog F (a.val::caps) [p] [] (YB (Φ a))):Con Tryz.prog 190 [l.val,.func (.func F) #[] caps.toArray] [ShF bp.row l,p] []
   (YB (∀ a∈l.l,Φ a)):=by
 refine Con.enter Tryz.func190 rfl (by simp [Tryz.ntmps190]) ?_
 show awp _ _ _ _ ⟨[(0,true,_),(1,true,_)],_,_⟩
 refine aSR ?_
 refine aT (q:=true) rfl (aS rfl rfl rfl (fun b0_0 => ?_))
 refine aHN ?_
 refine go 3 [0] ?_
 refine aZ 0 rfl rfl ?_
 show awp _ _ _ _ ⟨_,At _ 0 _::_,_⟩
 refine az (aM rfl (aU rfl (cA (l:=[.tmp 3]) rfl) ?_))
 refine aE (caps:=[]) [1,2,0] (false) (by kernel_rfl) true rfl rfl (fun _=>rfl) (fun hc=>rfl) (fun hc=>by rw [List.append_nil];exact kM l 231 [.pointer (some ⟨b0_0,0,none⟩)] (At b0_0 0 [.v (.func (.func F) #[] caps.toArray)]) p (fun a b=>b=false→Φ a) (by kernel_rfl) (fun a ha=>jy b0_0 F caps p a (Φ a) hF (h a ha))) (fun c hc => ?_)
 refine go 2 [0,0] ?_
 refine ae ?_
 refine bB [] [] rfl Tryz.results190 rfl ?_ (.inr rfl)
 exact ⟨⟨rfl,rfl⟩,_,rfl,fun hb a ha=>(hc rfl).2 (by simpa using hb) a ha rfl⟩
theorem j8(l:Sl bp)(F:FuncId)(caps:List Value)(p:Per)(hF:aX Tryz.prog F=true)(h:∀ a∈l.l,∀ b∈l.l,Con Tryz.prog F (a.val::b.val::caps) [p] [] (YB True)):Con Tryz.prog 191 [l.val,.func (.func F) #[] caps.toArray] [ShF bp.row l,p] [] (YB True):=by
 refine Con.enter Tryz.func191 rfl (by simp [Tryz.ntmps191]) ?_
 show awp _ _ _ _ ⟨[(0,true,_),(1,true,_)],_,_⟩
 refine aO (.of (ax 0 rfl)) (fun hlen => ?_)
 refine go 3 [0,0] ?_
 refine aF [0,1,5] [1,0] [] (fun (k:Nat) s=>k≤l.l.length∧s=⟨[(0,true,l.val),(1,true,.func (.func F) #[] caps.toArray),(5,true,.int .i64 ((k+1:Nat):Int))],[ShF bp.row l,p],[]⟩) (fun k=>l.l.length-k) rfl (⟨0,Nat.zero_le _,rfl⟩) ?_
 rintro k s ⟨hk,rfl⟩
 refine go 2 [0,0,146,0] ?_
 refine aa _ rfl (fun h1 => ?_) (fun h1 => ?_)
 ·skip
  have hk':k+1<l.l.length:=by simp at h1;omega
  have ha:=bA (l:=l.l) (i:=k) (by omega)
  have hb:=bA (l:=l.l) (i:=k+1) hk'
  refine aD (an (aq (aH (aq ?_))))
  refine fk [] (by kernel_rfl) ?_
  show aB _ _ _ _ _ 12 #[false,false,false,false,false,false,false,false,false,false,false,false] _
  refine go 0 [0,0,0,0] ?_
  refine dz 4 rfl (by kernel_rfl) true rfl rfl (fun _=>ai Tryz.underlying124 tk146 rfl ((.of (ax 0 rfl))) rfl (ak ha) (by omega) rfl) (fun h=>absurd h (by decide)) (fun ⟨b4_4,o4_4⟩ => ?_)
  refine go 0 [21508,0,0] ?_
  refine dz 8 rfl (by kernel_rfl) true rfl rfl (fun _=>ai Tryz.underlying124 tk146 rfl ((.of (ax 1 rfl))) rfl (ak hb) rfl rfl) (fun h=>absurd h (by decide)) (fun ⟨b4_8,o4_8⟩ => ?_)
  refine go 0 [21508] ?_
  refine cQ 10 rfl (by kernel_rfl) [0] (false) hF true rfl rfl (fun _=>rfl) (fun hc=>rfl) (fun hc=>h _ (List.mem_of_getElem? ha) _ (List.mem_of_getElem? hb)) (fun c hc => ?_)
  refine go 2 [0] ?_
  refine aa _ rfl (fun h2 => ?_) (fun h2 => ?_)
  ·skip
   refine go 2 [0] ?_
   refine ae (aK (aj (aj (aK (aj ?_)))))
   refine bB [] [] rfl Tryz.results191 rfl ?_ (.inr rfl)
   exact ⟨⟨rfl,rfl⟩,_,rfl,fun _=>trivial⟩
  ·skip
   refine go 1 [0,0,0] ?_
   refine an ?_
   refine ⟨[0,1,5],[1,0],[],rfl,?_⟩
   exact ⟨k+1,⟨by omega,rfl⟩,by omega⟩
 ·skip
  refine go 2 [0] ?_
  refine ae ?_
  refine bB [] [] rfl Tryz.results191 rfl ?_ (.inr rfl)
  exact ⟨⟨rfl,rfl⟩,_,rfl,fun _=>trivial⟩
end Go.Proofs.YtgkbbdgklpabpaaGreatDoor

