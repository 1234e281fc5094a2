/- Parts of the proof, in build order. No condition. -/
import Derived.Test.YtgkbbdgklpabpaaGreatDoorSn07
import Derived.Test.YtgkbbdgklpabpaaGreatDoorSn05
set_option linter.unusedSimpArgs false
set_option linter.unusedVariables false
set_option maxHeartbeats 1000000
set_option maxRecDepth 20000
namespace Go.Proofs.YtgkbbdgklpabpaaGreatDoor
open Go.RowKit Go.Lp Go.Sy
open Go.Proofs.Tryz
attribute [local irreducible] aL aB awp aC fwp Quiet
theorem tk206:tyk Tryz.prog 206=some (false,1):=by kernel_rfl
theorem kH(l:Sl bz)(F:FuncId)(caps:List Value)(p q:Per)(Ψ:bz→Bool→Prop)(hF:aW Tryz.prog F=true)(h:∀ a∈l.l,Con Tryz.prog F (a.val::caps) [p,q] [] (YN Value.bool (Ψ a))):Con Tryz.prog 239 [l.val,.func (.func F) #[] caps.toArray] [ShF bz.row l,p,q] []
   (YN (fun z:Int=>.int .i64 z) (fun z=>(z≥0→∃ a∈l.l,Ψ a true)∧(¬ z≥0→∀ a∈l.l,Ψ a false))):=by
 refine Con.enter Tryz.func239 rfl (by simp [Tryz.ntmps239]) ?_
 show awp _ _ _ _ ⟨[(0,true,_),(1,true,_)],_,_⟩
 refine aP (.of (ax 0 rfl)) (fun hlen => ?_)
 refine go 3 [0,0,174,0] ?_
 refine aF [0,1,7,8] [2,1,0] [] (fun (k:Nat) s=>(k≤l.l.length∧∀ a∈l.l.take k,Ψ a false)∧s=⟨[(0,true,l.val),(1,true,.func (.func F) #[] caps.toArray),(7,true,.int .i64 l.l.length),(8,true,.int .i64 k)],[ShF bz.row l,p,q],[]⟩) (fun k=>l.l.length-k) rfl (⟨0,⟨Nat.zero_le _,fun a ha=>by cases ha⟩,rfl⟩) ?_
 rintro k s ⟨⟨hk,hno⟩,rfl⟩
 refine go 3 [0] ?_
 refine aa _ rfl (fun h1 => ?_) (fun h1 => ?_)
 ·skip
  have hk':k<l.l.length:=by simpa using h1
  obtain ⟨a,ha⟩:∃ a,l.l[k]? = some a:=⟨l.l[k]'hk',by simp⟩
  refine go 0 [0,0,0,0,0] ?_
  refine bK true rfl rfl (fun _=>ai Tryz.underlying118 tk174 rfl ((.of (ax 0 rfl))) rfl (ak ha) rfl rfl) (fun h=>absurd h (by decide)) (fun ⟨b4_3,o4_3⟩ => ?_)
  refine go 0 [16898] ?_
  refine aq [1,0] (false) hF true rfl rfl (fun _=>rfl) (fun hc=>rfl) (fun hc=>h a (List.mem_of_getElem? ha)) (fun c hc => ?_)
  refine aNn ?_
  refine aa _ rfl (fun h2 => ?_) (fun h2 => ?_)
  ·skip
   refine go 2 [0,0] ?_
   refine ae (aO (an (an (aO (an ?_)))))
   refine bB [] [] rfl Tryz.results239 rfl ?_ (.inr rfl)
   exact ⟨⟨rfl,rfl⟩,_,rfl,fun _=>⟨a,List.mem_of_getElem? ha,h2 ▸ hc rfl⟩,fun hz=>(hz (Int.natCast_nonneg k)).elim⟩
  ·skip
   refine go 1 [0,0] ?_
   refine ao ?_
   refine ⟨[0,1,7,8],[2,1,0],[],rfl,?_⟩
   refine ⟨k+1,⟨⟨by omega,?_⟩,rfl⟩,by omega⟩
   intro y hy
   rw [List.take_add_one,ha,List.mem_append] at hy
   rcases hy with hy | hy
   · exact hno y hy
   · simp at hy;subst hy;exact h2 ▸ hc rfl
 ·skip
  refine go 2 [0] ?_
  refine ae ?_
  refine bB [] [] rfl Tryz.results239 rfl ?_ (.inr rfl)
  refine ⟨⟨rfl,rfl⟩,_,rfl,fun hz=>absurd hz (by decide),fun _ => ?_⟩
  rw [List.take_of_length_le (by simpa using h1)] at hno;exact hno
theorem kv(l:Sl bz)(F:FuncId)(caps:List Value)(p q:Per)(Ψ:bz→Bool→Prop)(hF:aW Tryz.prog F=true)(h:∀ a∈l.l,Con Tryz.prog F (a.val::caps) [p,q] [] (YN Value.bool (Ψ a))):Con Tryz.prog 206 [l.val,.func (.func F) #[] caps.toArray] [ShF bz.row l,p,q] []
   (YN Value.bool (fun b=>(b=true→∃ a∈l.l,Ψ a true)∧(b=false→∀ a∈l.l,Ψ a false))):=by
 refine Con.enter Tryz.func206 rfl (by simp [Tryz.ntmps206]) ?_
 show awp _ _ _ _ ⟨[(0,true,_),(1,true,_)],_,_⟩
 refine go 0 [0,0,0] ?_
 refine aN (q:=true) rfl (eQ [2,1,0] [] (by kernel_rfl) rfl rfl rfl rfl (kH l F caps p q Ψ hF h) ?_)
 rintro _ _ _ ⟨⟨rfl,rfl⟩,z,rfl,hz⟩
 refine aST ?_
 refine go 2 [0,0] ?_
 refine ae ?_
 refine bB [] [] rfl Tryz.results206 rfl ?_ (.inr rfl)
 exact ⟨⟨rfl,rfl⟩,_,rfl,fun hb=>hz.1 (by simpa using hb),fun hb=>hz.2 (by simpa using hb)⟩

theorem ji(b:Nat)(F:FuncId)(caps:List Value)(p:Per)(a:bz)(Φ:Prop)(hF:aW Tryz.prog F=true)(h:Con Tryz.prog F (a.val::caps) [p] [] (YB Φ)):Con Tryz.prog 207 [a.val,.pointer (some ⟨b,0,none⟩)] [At b 0 [.v (.func (.func F) #[] caps.toArray)],p] []
   (YN Value.bool (fun b=>b=false→Φ)):=by
 refine Con.enter Tryz.func207 rfl (by simp [Tryz.ntmps207]) ?_
 show awp _ _ _ _ ⟨[(0,true,_),(1,true,_)],_,_⟩
 refine aSR ?_
 refine aN (q:=true) rfl (aT rfl rfl rfl (fun b0_0 => ?_))
 refine aHN ?_
 refine go 4 [0] ?_
 refine aU rfl (cg (o:=0) tk206 rfl (.of (ax 0 rfl)) rfl) ?_
 refine go 0 [16896] ?_
 refine aq [0] (false) hF true rfl rfl (fun _=>rfl) (fun hc=>rfl) (fun hc=>h) (fun c hc => ?_)
 refine go 2 [0,0] ?_
 refine ae ?_
 refine bB [] [] rfl Tryz.results207 rfl ?_ (.inr rfl)
 exact ⟨⟨rfl,rfl⟩,_,rfl,fun hb=>hc rfl (by simpa using hb)⟩
theorem jO(l:Sl bz)(F:FuncId)(caps:List Value)(p:Per)(Φ:bz→Prop)(hF:aW Tryz.prog F=true)(h:∀ a∈l.l,Con Tryz.prog F (a.val::caps) [p] [] (YB (Φ a))):Con Tryz.prog 137 [l.val,.func (.func F) #[] caps.toArray] [ShF bz.row l,p] []
   (YB (∀ a∈l.l,Φ a)):=by
 refine Con.enter Tryz.func137 rfl (by simp [Tryz.ntmps137]) ?_
 show awp _ _ _ _ ⟨[(0,true,_),(1,true,_)],_,_⟩
 refine aSR ?_
 refine aN (q:=true) rfl (aT rfl rfl rfl (fun b0_0 => ?_))
 refine aHN ?_
 refine go 3 [0] ?_
 refine aY 0 rfl rfl ?_
 show awp _ _ _ _ ⟨_,At _ 0 _::_,_⟩
 refine az (aM rfl (aU rfl (cx (l:=[.tmp 3]) rfl) ?_))
 refine aq (caps:=[]) [1,2,0] (false) (by kernel_rfl) true rfl rfl (fun _=>rfl) (fun hc=>rfl) (fun hc=>by rw [List.append_nil];exact kv l 207 [.pointer (some ⟨b0_0,0,none⟩)] (At b0_0 0 [.v (.func (.func F) #[] caps.toArray)]) p (fun a b=>b=false→Φ a) (by kernel_rfl) (fun a ha=>ji b0_0 F caps p a (Φ a) hF (h a ha))) (fun c hc => ?_)
 refine go 2 [0,0] ?_
 refine ae ?_
 refine bB [] [] rfl Tryz.results137 rfl ?_ (.inr rfl)
 exact ⟨⟨rfl,rfl⟩,_,rfl,fun hb a ha=>(hc rfl).2 (by simpa using hb) a ha rfl⟩
theorem tk212:tyk Tryz.prog 212=some (false,1):=by kernel_rfl
theorem lS(l:Sl bI)(F:FuncId)(caps:List Value)(p q:Per)(Ψ:bI→Bool→Prop)(hF:aW Tryz.prog F=true)(h:∀ a∈l.l,Con Tryz.prog F (a.val::caps) [p,q] [] (YN Value.bool (Ψ a))):Con Tryz.prog 240 [l.val,.func (.func F) #[] caps.toArray] [ShF bI.row l,p,q] []
   (YN (fun z:Int=>.int .i64 z) (fun z=>(z≥0→∃ a∈l.l,Ψ a true)∧(¬ z≥0→∀ a∈l.l,Ψ a false))):=by
 refine Con.enter Tryz.func240 rfl (by simp [Tryz.ntmps240]) ?_
 show awp _ _ _ _ ⟨[(0,true,_),(1,true,_)],_,_⟩
 refine aP (.of (ax 0 rfl)) (fun hlen => ?_)
 refine go 3 [0,0,176,0] ?_
 refine aF [0,1,7,8] [2,1,0] [] (fun (k:Nat) s=>(k≤l.l.length∧∀ a∈l.l.take k,Ψ a false)∧s=⟨[(0,true,l.val),(1,true,.func (.func F) #[] caps.toArray),(7,true,.int .i64 l.l.length),(8,true,.int .i64 k)],[ShF bI.row l,p,q],[]⟩) (fun k=>l.l.length-k) rfl (⟨0,⟨Nat.zero_le _,fun a ha=>by cases ha⟩,rfl⟩) ?_
 rintro k s ⟨⟨hk,hno⟩,rfl⟩
 refine go 3 [0] ?_
 refine aa _ rfl (fun h1 => ?_) (fun h1 => ?_)
 ·skip
  have hk':k<l.l.length:=by simpa using h1
  obtain ⟨a,ha⟩:∃ a,l.l[k]? = some a:=⟨l.l[k]'hk',by simp⟩
  refine go 0 [0,0,0,0,0] ?_
  refine bK true rfl rfl (fun _=>ai Tryz.underlying119 tk176 rfl ((.of (ax 0 rfl))) rfl (ak ha) rfl rfl) (fun h=>absurd h (by decide)) (fun ⟨b4_3,o4_3⟩ => ?_)
  refine go 0 [29186] ?_
  refine aq [1,0] (false) hF true rfl rfl (fun _=>rfl) (fun hc=>rfl) (fun hc=>h a (List.mem_of_getElem? ha)) (fun c hc => ?_)
  refine aNn ?_
  refine aa _ rfl (fun h2 => ?_) (fun h2 => ?_)
  ·skip
   refine go 2 [0,0] ?_
   refine ae (aO (an (an (aO (an ?_)))))
   refine bB [] [] rfl Tryz.results240 rfl ?_ (.inr rfl)
   exact ⟨⟨rfl,rfl⟩,_,rfl,fun _=>⟨a,List.mem_of_getElem? ha,h2 ▸ hc rfl⟩,fun hz=>(hz (Int.natCast_nonneg k)).elim⟩
  ·skip
   refine go 1 [0,0] ?_
   refine ao ?_
   refine ⟨[0,1,7,8],[2,1,0],[],rfl,?_⟩
   refine ⟨k+1,⟨⟨by omega,?_⟩,rfl⟩,by omega⟩
   intro y hy
   rw [List.take_add_one,ha,List.mem_append] at hy
   rcases hy with hy | hy
   · exact hno y hy
   · simp at hy;subst hy;exact h2 ▸ hc rfl
 ·skip
  refine go 2 [0] ?_
  refine ae ?_
  refine bB [] [] rfl Tryz.results240 rfl ?_ (.inr rfl)
  refine ⟨⟨rfl,rfl⟩,_,rfl,fun hz=>absurd hz (by decide),fun _ => ?_⟩
  rw [List.take_of_length_le (by simpa using h1)] at hno;exact hno
theorem lL(l:Sl bI)(F:FuncId)(caps:List Value)(p q:Per)(Ψ:bI→Bool→Prop)(hF:aW Tryz.prog F=true)(h:∀ a∈l.l,Con Tryz.prog F (a.val::caps) [p,q] [] (YN Value.bool (Ψ a))):Con Tryz.prog 208 [l.val,.func (.func F) #[] caps.toArray] [ShF bI.row l,p,q] []
   (YN Value.bool (fun b=>(b=true→∃ a∈l.l,Ψ a true)∧(b=false→∀ a∈l.l,Ψ a false))):=by
 refine Con.enter Tryz.func208 rfl (by simp [Tryz.ntmps208]) ?_
 show awp _ _ _ _ ⟨[(0,true,_),(1,true,_)],_,_⟩
 refine go 0 [0,0,0] ?_
 refine aN (q:=true) rfl (eQ [2,1,0] [] (by kernel_rfl) rfl rfl rfl rfl (lS l F caps p q Ψ hF h) ?_)
 rintro _ _ _ ⟨⟨rfl,rfl⟩,z,rfl,hz⟩
 refine aST ?_
 refine go 2 [0,0] ?_
 refine ae ?_
 refine bB [] [] rfl Tryz.results208 rfl ?_ (.inr rfl)
 exact ⟨⟨rfl,rfl⟩,_,rfl,fun hb=>hz.1 (by simpa using hb),fun hb=>hz.2 (by simpa using hb)⟩

theorem jM(b:Nat)(F:FuncId)(caps:List Value)(p:Per)(a:bI)(Φ:Prop)(hF:aW Tryz.prog F=true)(h:Con Tryz.prog F (a.val::caps) [p] [] (YB Φ)):Con Tryz.prog 209 [a.val,.pointer (some ⟨b,0,none⟩)] [At b 0 [.v (.func (.func F) #[] caps.toArray)],p] []
   (YN Value.bool (fun b=>b=false→Φ)):=by
 refine Con.enter Tryz.func209 rfl (by simp [Tryz.ntmps209]) ?_
 show awp _ _ _ _ ⟨[(0,true,_),(1,true,_)],_,_⟩
 refine aSR ?_
 refine aN (q:=true) rfl (aT rfl rfl rfl (fun b0_0 => ?_))
 refine aHN ?_
 refine go 4 [0] ?_
 refine aU rfl (cg (o:=0) tk212 rfl (.of (ax 0 rfl)) rfl) ?_
 refine go 0 [29184] ?_
 refine aq [0] (false) hF true rfl rfl (fun _=>rfl) (fun hc=>rfl) (fun hc=>h) (fun c hc => ?_)
 refine go 2 [0,0] ?_
 refine ae ?_
 refine bB [] [] rfl Tryz.results209 rfl ?_ (.inr rfl)
 exact ⟨⟨rfl,rfl⟩,_,rfl,fun hb=>hc rfl (by simpa using hb)⟩
theorem kC(l:Sl bI)(F:FuncId)(caps:List Value)(p:Per)(Φ:bI→Prop)(hF:aW Tryz.prog F=true)(h:∀ a∈l.l,Con Tryz.prog F (a.val::caps) [p] [] (YB (Φ a))):Con Tryz.prog 143 [l.val,.func (.func F) #[] caps.toArray] [ShF bI.row l,p] []
   (YB (∀ a∈l.l,Φ a)):=by
 refine Con.enter Tryz.func143 rfl (by simp [Tryz.ntmps143]) ?_
 show awp _ _ _ _ ⟨[(0,true,_),(1,true,_)],_,_⟩
 refine aSR ?_
 refine aN (q:=true) rfl (aT rfl rfl rfl (fun b0_0 => ?_))
 refine aHN ?_
 refine go 3 [0] ?_
 refine aY 0 rfl rfl ?_
 show awp _ _ _ _ ⟨_,At _ 0 _::_,_⟩
 refine az (aM rfl (aU rfl (cx (l:=[.tmp 3]) rfl) ?_))
 refine aq (caps:=[]) [1,2,0] (false) (by kernel_rfl) true rfl rfl (fun _=>rfl) (fun hc=>rfl) (fun hc=>by rw [List.append_nil];exact lL l 209 [.pointer (some ⟨b0_0,0,none⟩)] (At b0_0 0 [.v (.func (.func F) #[] caps.toArray)]) p (fun a b=>b=false→Φ a) (by kernel_rfl) (fun a ha=>jM b0_0 F caps p a (Φ a) hF (h a ha))) (fun c hc => ?_)
 refine go 2 [0,0] ?_
 refine ae ?_
 refine bB [] [] rfl Tryz.results143 rfl ?_ (.inr rfl)
 exact ⟨⟨rfl,rfl⟩,_,rfl,fun hb a ha=>(hc rfl).2 (by simpa using hb) a ha rfl⟩
theorem tk220:tyk Tryz.prog 220=some (false,1):=by kernel_rfl
theorem qk(l:Sl eh)(F:FuncId)(caps:List Value)(p q:Per)(Ψ:eh→Bool→Prop)(hF:aW Tryz.prog F=true)(h:∀ a∈l.l,Con Tryz.prog F (a.val::caps) [p,q] [] (YN Value.bool (Ψ a))):Con Tryz.prog 245 [l.val,.func (.func F) #[] caps.toArray] [ShF eh.row l,p,q] []
   (YN (fun z:Int=>.int .i64 z) (fun z=>(z≥0→∃ a∈l.l,Ψ a true)∧(¬ z≥0→∀ a∈l.l,Ψ a false))):=by
 refine Con.enter Tryz.func245 rfl (by simp [Tryz.ntmps245]) ?_
 show awp _ _ _ _ ⟨[(0,true,_),(1,true,_)],_,_⟩
 refine aP (.of (ax 0 rfl)) (fun hlen => ?_)
 refine go 3 [0,0,178,0] ?_
 refine aF [0,1,7,8] [2,1,0] [] (fun (k:Nat) s=>(k≤l.l.length∧∀ a∈l.l.take k,Ψ a false)∧s=⟨[(0,true,l.val),(1,true,.func (.func F) #[] caps.toArray),(7,true,.int .i64 l.l.length),(8,true,.int .i64 k)],[ShF eh.row l,p,q],[]⟩) (fun k=>l.l.length-k) rfl (⟨0,⟨Nat.zero_le _,fun a ha=>by cases ha⟩,rfl⟩) ?_
 rintro k s ⟨⟨hk,hno⟩,rfl⟩
 refine go 3 [0] ?_
 refine aa _ rfl (fun h1 => ?_) (fun h1 => ?_)
 ·skip
  have hk':k<l.l.length:=by simpa using h1
  obtain ⟨a,ha⟩:∃ a,l.l[k]? = some a:=⟨l.l[k]'hk',by simp⟩
  refine go 0 [0,0,0,0,0] ?_
  refine bK true rfl rfl (fun _=>ai Tryz.underlying120 tk178 rfl ((.of (ax 0 rfl))) rfl (ak ha) rfl rfl) (fun h=>absurd h (by decide)) (fun ⟨b4_3,o4_3⟩ => ?_)
  refine go 0 [13826] ?_
  refine aq [1,0] (false) hF true rfl rfl (fun _=>rfl) (fun hc=>rfl) (fun hc=>h a (List.mem_of_getElem? ha)) (fun c hc => ?_)
  refine aNn ?_
  refine aa _ rfl (fun h2 => ?_) (fun h2 => ?_)
  ·skip
   refine go 2 [0,0] ?_
   refine ae (aO (an (an (aO (an ?_)))))
   refine bB [] [] rfl Tryz.results245 rfl ?_ (.inr rfl)
   exact ⟨⟨rfl,rfl⟩,_,rfl,fun _=>⟨a,List.mem_of_getElem? ha,h2 ▸ hc rfl⟩,fun hz=>(hz (Int.natCast_nonneg k)).elim⟩
  ·skip
   refine go 1 [0,0] ?_
   refine ao ?_
   refine ⟨[0,1,7,8],[2,1,0],[],rfl,?_⟩
   refine ⟨k+1,⟨⟨by omega,?_⟩,rfl⟩,by omega⟩
   intro y hy
   rw [List.take_add_one,ha,List.mem_append] at hy
   rcases hy with hy | hy
   · exact hno y hy
   · simp at hy;subst hy;exact h2 ▸ hc rfl
 ·skip
  refine go 2 [0] ?_
  refine ae ?_
  refine bB [] [] rfl Tryz.results245 rfl ?_ (.inr rfl)
  refine ⟨⟨rfl,rfl⟩,_,rfl,fun hz=>absurd hz (by decide),fun _ => ?_⟩
  rw [List.take_of_length_le (by simpa using h1)] at hno;exact hno
theorem qe(l:Sl eh)(F:FuncId)(caps:List Value)(p q:Per)(Ψ:eh→Bool→Prop)(hF:aW Tryz.prog F=true)(h:∀ a∈l.l,Con Tryz.prog F (a.val::caps) [p,q] [] (YN Value.bool (Ψ a))):Con Tryz.prog 212 [l.val,.func (.func F) #[] caps.toArray] [ShF eh.row l,p,q] []
   (YN Value.bool (fun b=>(b=true→∃ a∈l.l,Ψ a true)∧(b=false→∀ a∈l.l,Ψ a false))):=by
 refine Con.enter Tryz.func212 rfl (by simp [Tryz.ntmps212]) ?_
 show awp _ _ _ _ ⟨[(0,true,_),(1,true,_)],_,_⟩
 refine go 0 [0,0,0] ?_
 refine aN (q:=true) rfl (eQ [2,1,0] [] (by kernel_rfl) rfl rfl rfl rfl (qk l F caps p q Ψ hF h) ?_)
 rintro _ _ _ ⟨⟨rfl,rfl⟩,z,rfl,hz⟩
 refine aST ?_
 refine go 2 [0,0] ?_
 refine ae ?_
 refine bB [] [] rfl Tryz.results212 rfl ?_ (.inr rfl)
 exact ⟨⟨rfl,rfl⟩,_,rfl,fun hb=>hz.1 (by simpa using hb),fun hb=>hz.2 (by simpa using hb)⟩

theorem mF(b:Nat)(F:FuncId)(caps:List Value)(p:Per)(a:eh)(Φ:Prop)(hF:aW Tryz.prog F=true)(h:Con Tryz.prog F (a.val::caps) [p] [] (YB Φ)):Con Tryz.prog 213 [a.val,.pointer (some ⟨b,0,none⟩)] [At b 0 [.v (.func (.func F) #[] caps.toArray)],p] []
   (YN Value.bool (fun b=>b=false→Φ)):=by
 refine Con.enter Tryz.func213 rfl (by simp [Tryz.ntmps213]) ?_
 show awp _ _ _ _ ⟨[(0,true,_),(1,true,_)],_,_⟩
 refine aSR ?_
 refine aN (q:=true) rfl (aT rfl rfl rfl (fun b0_0 => ?_))
 refine aHN ?_
 refine go 4 [0] ?_
 refine aU rfl (cg (o:=0) tk220 rfl (.of (ax 0 rfl)) rfl) ?_
 refine go 0 [13824] ?_
 refine aq [0] (false) hF true rfl rfl (fun _=>rfl) (fun hc=>rfl) (fun hc=>h) (fun c hc => ?_)
 refine go 2 [0,0] ?_
 refine ae ?_
 refine bB [] [] rfl Tryz.results213 rfl ?_ (.inr rfl)
 exact ⟨⟨rfl,rfl⟩,_,rfl,fun hb=>hc rfl (by simpa using hb)⟩
theorem oF(l:Sl eh)(F:FuncId)(caps:List Value)(p:Per)(Φ:eh→Prop)(hF:aW Tryz.prog F=true)(h:∀ a∈l.l,Con Tryz.prog F (a.val::caps) [p] [] (YB (Φ a))):Con Tryz.prog 151 [l.val,.func (.func F) #[] caps.toArray] [ShF eh.row l,p] []
   (YB (∀ a∈l.l,Φ a)):=by
 refine Con.enter Tryz.func151 rfl (by simp [Tryz.ntmps151]) ?_
 show awp _ _ _ _ ⟨[(0,true,_),(1,true,_)],_,_⟩
 refine aSR ?_
 refine aN (q:=true) rfl (aT rfl rfl rfl (fun b0_0 => ?_))
 refine aHN ?_
 refine go 3 [0] ?_
 refine aY 0 rfl rfl ?_
 show awp _ _ _ _ ⟨_,At _ 0 _::_,_⟩
 refine az (aM rfl (aU rfl (cx (l:=[.tmp 3]) rfl) ?_))
 refine aq (caps:=[]) [1,2,0] (false) (by kernel_rfl) true rfl rfl (fun _=>rfl) (fun hc=>rfl) (fun hc=>by rw [List.append_nil];exact qe l 213 [.pointer (some ⟨b0_0,0,none⟩)] (At b0_0 0 [.v (.func (.func F) #[] caps.toArray)]) p (fun a b=>b=false→Φ a) (by kernel_rfl) (fun a ha=>mF b0_0 F caps p a (Φ a) hF (h a ha))) (fun c hc => ?_)
 refine go 2 [0,0] ?_
 refine ae ?_
 refine bB [] [] rfl Tryz.results151 rfl ?_ (.inr rfl)
 exact ⟨⟨rfl,rfl⟩,_,rfl,fun hb a ha=>(hc rfl).2 (by simpa using hb) a ha rfl⟩
theorem oO(l:Sl eh)(F:FuncId)(caps:List Value)(p:Per)(hF:aW Tryz.prog F=true)(h:∀ a∈l.l,∀ b∈l.l,Con Tryz.prog F (a.val::b.val::caps) [p] [] (YB True)):Con Tryz.prog 152 [l.val,.func (.func F) #[] caps.toArray] [ShF eh.row l,p] [] (YB True):=by
 refine Con.enter Tryz.func152 rfl (by simp [Tryz.ntmps152]) ?_
 show awp _ _ _ _ ⟨[(0,true,_),(1,true,_)],_,_⟩
 refine aP (.of (ax 0 rfl)) (fun hlen => ?_)
 refine go 3 [0,0] ?_
 refine aF [0,1,5] [1,0] [] (fun (k:Nat) s=>k≤l.l.length∧s=⟨[(0,true,l.val),(1,true,.func (.func F) #[] caps.toArray),(5,true,.int .i64 ((k+1:Nat):Int))],[ShF eh.row l,p],[]⟩) (fun k=>l.l.length-k) rfl (⟨0,Nat.zero_le _,rfl⟩) ?_
 rintro k s ⟨hk,rfl⟩
 refine go 2 [0,0,178,0] ?_
 refine aa _ rfl (fun h1 => ?_) (fun h1 => ?_)
 ·skip
  have hk':k+1<l.l.length:=by simp at h1;omega
  have ha:=bA (l:=l.l) (i:=k) (by omega)
  have hb:=bA (l:=l.l) (i:=k+1) hk'
  refine aE (ao (aD (aJ (aD ?_))))
  refine eZ [] (by kernel_rfl) ?_
  show aB _ _ _ _ _ 12 #[false,false,false,false,false,false,false,false,false,false,false,false] _
  refine go 0 [0,0,0,0] ?_
  refine eH 4 rfl (by kernel_rfl) true rfl rfl (fun _=>ai Tryz.underlying120 tk178 rfl ((.of (ax 0 rfl))) rfl (ak ha) (by omega) rfl) (fun h=>absurd h (by decide)) (fun ⟨b4_4,o4_4⟩ => ?_)
  refine go 0 [27652,0,0] ?_
  refine eH 8 rfl (by kernel_rfl) true rfl rfl (fun _=>ai Tryz.underlying120 tk178 rfl ((.of (ax 1 rfl))) rfl (ak hb) rfl rfl) (fun h=>absurd h (by decide)) (fun ⟨b4_8,o4_8⟩ => ?_)
  refine go 0 [27652] ?_
  refine db 10 rfl (by kernel_rfl) [0] (false) hF true rfl rfl (fun _=>rfl) (fun hc=>rfl) (fun hc=>h _ (List.mem_of_getElem? ha) _ (List.mem_of_getElem? hb)) (fun c hc => ?_)
  refine go 2 [0] ?_
  refine aa _ rfl (fun h2 => ?_) (fun h2 => ?_)
  ·skip
   refine go 2 [0] ?_
   refine ae (aO (an (an (aO (an ?_)))))
   refine bB [] [] rfl Tryz.results152 rfl ?_ (.inr rfl)
   exact ⟨⟨rfl,rfl⟩,_,rfl,fun _=>trivial⟩
  ·skip
   refine go 1 [0,0,0] ?_
   refine ao ?_
   refine ⟨[0,1,5],[1,0],[],rfl,?_⟩
   exact ⟨k+1,⟨by omega,rfl⟩,by omega⟩
 ·skip
  refine go 2 [0] ?_
  refine ae ?_
  refine bB [] [] rfl Tryz.results152 rfl ?_ (.inr rfl)
  exact ⟨⟨rfl,rfl⟩,_,rfl,fun _=>trivial⟩
theorem qi(l:Sl Int)(F:FuncId)(caps:List Value)(p q:Per)(Ψ:Int→Bool→Prop)(hF:aW Tryz.prog F=true)(h:∀ a∈l.l,Con Tryz.prog F ((eI a)::caps) [p,q] [] (YN Value.bool (Ψ a))):Con Tryz.prog 246 [l.val,.func (.func F) #[] caps.toArray] [ShF (fun z:Int=>[D.v (eI z)]) l,p,q] []
   (YN (fun z:Int=>.int .i64 z) (fun z=>(z≥0→∃ a∈l.l,Ψ a true)∧(¬ z≥0→∀ a∈l.l,Ψ a false))):=by
 refine Con.enter Tryz.func246 rfl (by simp [Tryz.ntmps246]) ?_
 show awp _ _ _ _ ⟨[(0,true,_),(1,true,_)],_,_⟩
 refine aP (.of (ax 0 rfl)) (fun hlen => ?_)
 refine go 3 [0,0,3,0] ?_
 refine aF [0,1,7,8] [2,1,0] [] (fun (k:Nat) s=>(k≤l.l.length∧∀ a∈l.l.take k,Ψ a false)∧s=⟨[(0,true,l.val),(1,true,.func (.func F) #[] caps.toArray),(7,true,.int .i64 l.l.length),(8,true,.int .i64 k)],[ShF (fun z:Int=>[D.v (eI z)]) l,p,q],[]⟩) (fun k=>l.l.length-k) rfl (⟨0,⟨Nat.zero_le _,fun a ha=>by cases ha⟩,rfl⟩) ?_
 rintro k s ⟨⟨hk,hno⟩,rfl⟩
 refine go 3 [0] ?_
 refine aa _ rfl (fun h1 => ?_) (fun h1 => ?_)
 ·skip
  have hk':k<l.l.length:=by simpa using h1
  obtain ⟨a,ha⟩:∃ a,l.l[k]? = some a:=⟨l.l[k]'hk',by simp⟩
  refine go 0 [0,0,0,0,0] ?_
  refine bK true rfl rfl (fun _=>ai Tryz.underlying33 tk3 rfl ((.of (ax 0 rfl))) rfl (ak ha) rfl rfl) (fun h=>absurd h (by decide)) (fun ⟨b4_3,o4_3⟩ => ?_)
  refine go 0 [2] ?_
  refine aq [1,0] (false) hF true rfl rfl (fun _=>rfl) (fun hc=>rfl) (fun hc=>h a (List.mem_of_getElem? ha)) (fun c hc => ?_)
  refine aNn ?_
  refine aa _ rfl (fun h2 => ?_) (fun h2 => ?_)
  ·skip
   refine go 2 [0,0] ?_
   refine ae (aO (an (an (aO (an ?_)))))
   refine bB [] [] rfl Tryz.results246 rfl ?_ (.inr rfl)
   exact ⟨⟨rfl,rfl⟩,_,rfl,fun _=>⟨a,List.mem_of_getElem? ha,h2 ▸ hc rfl⟩,fun hz=>(hz (Int.natCast_nonneg k)).elim⟩
  ·skip
   refine go 1 [0,0] ?_
   refine ao ?_
   refine ⟨[0,1,7,8],[2,1,0],[],rfl,?_⟩
   refine ⟨k+1,⟨⟨by omega,?_⟩,rfl⟩,by omega⟩
   intro y hy
   rw [List.take_add_one,ha,List.mem_append] at hy
   rcases hy with hy | hy
   · exact hno y hy
   · simp at hy;subst hy;exact h2 ▸ hc rfl
 ·skip
  refine go 2 [0] ?_
  refine ae ?_
  refine bB [] [] rfl Tryz.results246 rfl ?_ (.inr rfl)
  refine ⟨⟨rfl,rfl⟩,_,rfl,fun hz=>absurd hz (by decide),fun _ => ?_⟩
  rw [List.take_of_length_le (by simpa using h1)] at hno;exact hno
theorem qc(l:Sl Int)(F:FuncId)(caps:List Value)(p q:Per)(Ψ:Int→Bool→Prop)(hF:aW Tryz.prog F=true)(h:∀ a∈l.l,Con Tryz.prog F ((eI a)::caps) [p,q] [] (YN Value.bool (Ψ a))):Con Tryz.prog 214 [l.val,.func (.func F) #[] caps.toArray] [ShF (fun z:Int=>[D.v (eI z)]) l,p,q] []
   (YN Value.bool (fun b=>(b=true→∃ a∈l.l,Ψ a true)∧(b=false→∀ a∈l.l,Ψ a false))):=by
 refine Con.enter Tryz.func214 rfl (by simp [Tryz.ntmps214]) ?_
 show awp _ _ _ _ ⟨[(0,true,_),(1,true,_)],_,_⟩
 refine go 0 [0,0,0] ?_
 refine aN (q:=true) rfl (eQ [2,1,0] [] (by kernel_rfl) rfl rfl rfl rfl (qi l F caps p q Ψ hF h) ?_)
 rintro _ _ _ ⟨⟨rfl,rfl⟩,z,rfl,hz⟩
 refine aST ?_
 refine go 2 [0,0] ?_
 refine ae ?_
 refine bB [] [] rfl Tryz.results214 rfl ?_ (.inr rfl)
 exact ⟨⟨rfl,rfl⟩,_,rfl,fun hb=>hz.1 (by simpa using hb),fun hb=>hz.2 (by simpa using hb)⟩

theorem mE(b:Nat)(F:FuncId)(caps:List Value)(p:Per)(a:Int)(Φ:Prop)(hF:aW Tryz.prog F=true)(h:Con Tryz.prog F ((eI a)::caps) [p] [] (YB Φ)):Con Tryz.prog 215 [(eI a),.pointer (some ⟨b,0,none⟩)] [At b 0 [.v (.func (.func F) #[] caps.toArray)],p] []
   (YN Value.bool (fun b=>b=false→Φ)):=by
 refine Con.enter Tryz.func215 rfl (by simp [Tryz.ntmps215]) ?_
 show awp _ _ _ _ ⟨[(0,true,_),(1,true,_)],_,_⟩
 refine go 4 [0] ?_
 refine aU rfl (cg (o:=0) tk82 rfl (.of (ax 0 rfl)) rfl) (aM rfl ?_)
 refine aq [0] (false) hF true rfl rfl (fun _=>rfl) (fun hc=>rfl) (fun hc=>h) (fun c hc => ?_)
 refine go 2 [0,0] ?_
 refine ae ?_
 refine bB [] [] rfl Tryz.results215 rfl ?_ (.inr rfl)
 exact ⟨⟨rfl,rfl⟩,_,rfl,fun hb=>hc rfl (by simpa using hb)⟩
theorem oE(l:Sl Int)(F:FuncId)(caps:List Value)(p:Per)(Φ:Int→Prop)(hF:aW Tryz.prog F=true)(h:∀ a∈l.l,Con Tryz.prog F ((eI a)::caps) [p] [] (YB (Φ a))):Con Tryz.prog 153 [l.val,.func (.func F) #[] caps.toArray] [ShF (fun z:Int=>[D.v (eI z)]) l,p] []
   (YB (∀ a∈l.l,Φ a)):=by
 refine Con.enter Tryz.func153 rfl (by simp [Tryz.ntmps153]) ?_
 show awp _ _ _ _ ⟨[(0,true,_),(1,true,_)],_,_⟩
 refine aSR ?_
 refine aN (q:=true) rfl (aT rfl rfl rfl (fun b0_0 => ?_))
 refine aHN ?_
 refine go 3 [0] ?_
 refine aY 0 rfl rfl ?_
 show awp _ _ _ _ ⟨_,At _ 0 _::_,_⟩
 refine az (aM rfl (aU rfl (cx (l:=[.tmp 3]) rfl) ?_))
 refine aq (caps:=[]) [1,2,0] (false) (by kernel_rfl) true rfl rfl (fun _=>rfl) (fun hc=>rfl) (fun hc=>by rw [List.append_nil];exact qc l 215 [.pointer (some ⟨b0_0,0,none⟩)] (At b0_0 0 [.v (.func (.func F) #[] caps.toArray)]) p (fun a b=>b=false→Φ a) (by kernel_rfl) (fun a ha=>mE b0_0 F caps p a (Φ a) hF (h a ha))) (fun c hc => ?_)
 refine go 2 [0,0] ?_
 refine ae ?_
 refine bB [] [] rfl Tryz.results153 rfl ?_ (.inr rfl)
 exact ⟨⟨rfl,rfl⟩,_,rfl,fun hb a ha=>(hc rfl).2 (by simpa using hb) a ha rfl⟩
theorem tk234:tyk Tryz.prog 234=some (false,1):=by kernel_rfl
theorem oH(l:Sl eJ)(F:FuncId)(caps:List Value)(p q:Per)(Ψ:eJ→Bool→Prop)(hF:aW Tryz.prog F=true)(h:∀ a∈l.l,Con Tryz.prog F (a.val::caps) [p,q] [] (YN Value.bool (Ψ a))):Con Tryz.prog 247 [l.val,.func (.func F) #[] caps.toArray] [ShF eJ.row l,p,q] []
   (YN (fun z:Int=>.int .i64 z) (fun z=>(z≥0→∃ a∈l.l,Ψ a true)∧(¬ z≥0→∀ a∈l.l,Ψ a false))):=by
 refine Con.enter Tryz.func247 rfl (by simp [Tryz.ntmps247]) ?_
 show awp _ _ _ _ ⟨[(0,true,_),(1,true,_)],_,_⟩
 refine aP (.of (ax 0 rfl)) (fun hlen => ?_)
 refine go 3 [0,0,233,0] ?_
 refine aF [0,1,7,8] [2,1,0] [] (fun (k:Nat) s=>(k≤l.l.length∧∀ a∈l.l.take k,Ψ a false)∧s=⟨[(0,true,l.val),(1,true,.func (.func F) #[] caps.toArray),(7,true,.int .i64 l.l.length),(8,true,.int .i64 k)],[ShF eJ.row l,p,q],[]⟩) (fun k=>l.l.length-k) rfl (⟨0,⟨Nat.zero_le _,fun a ha=>by cases ha⟩,rfl⟩) ?_
 rintro k s ⟨⟨hk,hno⟩,rfl⟩
 refine go 3 [0] ?_
 refine aa _ rfl (fun h1 => ?_) (fun h1 => ?_)
 ·skip
  have hk':k<l.l.length:=by simpa using h1
  obtain ⟨a,ha⟩:∃ a,l.l[k]? = some a:=⟨l.l[k]'hk',by simp⟩
  refine go 0 [0,0,0,0,0] ?_
  refine bK true rfl rfl (fun _=>ai Tryz.underlying122 tk233 rfl ((.of (ax 0 rfl))) rfl (ak ha) rfl rfl) (fun h=>absurd h (by decide)) (fun ⟨b4_3,o4_3⟩ => ?_)
  refine go 0 [7682] ?_
  refine aq [1,0] (false) hF true rfl rfl (fun _=>rfl) (fun hc=>rfl) (fun hc=>h a (List.mem_of_getElem? ha)) (fun c hc => ?_)
  refine aNn ?_
  refine aa _ rfl (fun h2 => ?_) (fun h2 => ?_)
  ·skip
   refine go 2 [0,0] ?_
   refine ae (aO (an (an (aO (an ?_)))))
   refine bB [] [] rfl Tryz.results247 rfl ?_ (.inr rfl)
   exact ⟨⟨rfl,rfl⟩,_,rfl,fun _=>⟨a,List.mem_of_getElem? ha,h2 ▸ hc rfl⟩,fun hz=>(hz (Int.natCast_nonneg k)).elim⟩
  ·skip
   refine go 1 [0,0] ?_
   refine ao ?_
   refine ⟨[0,1,7,8],[2,1,0],[],rfl,?_⟩
   refine ⟨k+1,⟨⟨by omega,?_⟩,rfl⟩,by omega⟩
   intro y hy
   rw [List.take_add_one,ha,List.mem_append] at hy
   rcases hy with hy | hy
   · exact hno y hy
   · simp at hy;subst hy;exact h2 ▸ hc rfl
 ·skip
  refine go 2 [0] ?_
  refine ae ?_
  refine bB [] [] rfl Tryz.results247 rfl ?_ (.inr rfl)
  refine ⟨⟨rfl,rfl⟩,_,rfl,fun hz=>absurd hz (by decide),fun _ => ?_⟩
  rw [List.take_of_length_le (by simpa using h1)] at hno;exact hno
theorem oA(l:Sl eJ)(F:FuncId)(caps:List Value)(p q:Per)(Ψ:eJ→Bool→Prop)(hF:aW Tryz.prog F=true)(h:∀ a∈l.l,Con Tryz.prog F (a.val::caps) [p,q] [] (YN Value.bool (Ψ a))):Con Tryz.prog 216 [l.val,.func (.func F) #[] caps.toArray] [ShF eJ.row l,p,q] []
   (YN Value.bool (fun b=>(b=true→∃ a∈l.l,Ψ a true)∧(b=false→∀ a∈l.l,Ψ a false))):=by
 refine Con.enter Tryz.func216 rfl (by simp [Tryz.ntmps216]) ?_
 show awp _ _ _ _ ⟨[(0,true,_),(1,true,_)],_,_⟩
 refine go 0 [0,0,0] ?_
 refine aN (q:=true) rfl (eQ [2,1,0] [] (by kernel_rfl) rfl rfl rfl rfl (oH l F caps p q Ψ hF h) ?_)
 rintro _ _ _ ⟨⟨rfl,rfl⟩,z,rfl,hz⟩
 refine aST ?_
 refine go 2 [0,0] ?_
 refine ae ?_
 refine bB [] [] rfl Tryz.results216 rfl ?_ (.inr rfl)
 exact ⟨⟨rfl,rfl⟩,_,rfl,fun hb=>hz.1 (by simpa using hb),fun hb=>hz.2 (by simpa using hb)⟩

theorem lN(b:Nat)(F:FuncId)(caps:List Value)(p:Per)(a:eJ)(Φ:Prop)(hF:aW Tryz.prog F=true)(h:Con Tryz.prog F (a.val::caps) [p] [] (YB Φ)):Con Tryz.prog 217 [a.val,.pointer (some ⟨b,0,none⟩)] [At b 0 [.v (.func (.func F) #[] caps.toArray)],p] []
   (YN Value.bool (fun b=>b=false→Φ)):=by
 refine Con.enter Tryz.func217 rfl (by simp [Tryz.ntmps217]) ?_
 show awp _ _ _ _ ⟨[(0,true,_),(1,true,_)],_,_⟩
 refine aSR ?_
 refine aN (q:=true) rfl (aT rfl rfl rfl (fun b0_0 => ?_))
 refine aHN ?_
 refine go 4 [0] ?_
 refine aU rfl (cg (o:=0) tk234 rfl (.of (ax 0 rfl)) rfl) ?_
 refine go 0 [7680] ?_
 refine aq [0] (false) hF true rfl rfl (fun _=>rfl) (fun hc=>rfl) (fun hc=>h) (fun c hc => ?_)
 refine go 2 [0,0] ?_
 refine ae ?_
 refine bB [] [] rfl Tryz.results217 rfl ?_ (.inr rfl)
 exact ⟨⟨rfl,rfl⟩,_,rfl,fun hb=>hc rfl (by simpa using hb)⟩
theorem mH(l:Sl eJ)(F:FuncId)(caps:List Value)(p:Per)(Φ:eJ→Prop)(hF:aW Tryz.prog F=true)(h:∀ a∈l.l,Con Tryz.prog F (a.val::caps) [p] [] (YB (Φ a))):Con Tryz.prog 161 [l.val,.func (.func F) #[] caps.toArray] [ShF eJ.row l,p] []
   (YB (∀ a∈l.l,Φ a)):=by
 refine Con.enter Tryz.func161 rfl (by simp [Tryz.ntmps161]) ?_
 show awp _ _ _ _ ⟨[(0,true,_),(1,true,_)],_,_⟩
 refine aSR ?_
 refine aN (q:=true) rfl (aT rfl rfl rfl (fun b0_0 => ?_))
 refine aHN ?_
 refine go 3 [0] ?_
 refine aY 0 rfl rfl ?_
 show awp _ _ _ _ ⟨_,At _ 0 _::_,_⟩
 refine az (aM rfl (aU rfl (cx (l:=[.tmp 3]) rfl) ?_))
 refine aq (caps:=[]) [1,2,0] (false) (by kernel_rfl) true rfl rfl (fun _=>rfl) (fun hc=>rfl) (fun hc=>by rw [List.append_nil];exact oA l 217 [.pointer (some ⟨b0_0,0,none⟩)] (At b0_0 0 [.v (.func (.func F) #[] caps.toArray)]) p (fun a b=>b=false→Φ a) (by kernel_rfl) (fun a ha=>lN b0_0 F caps p a (Φ a) hF (h a ha))) (fun c hc => ?_)
 refine go 2 [0,0] ?_
 refine ae ?_
 refine bB [] [] rfl Tryz.results161 rfl ?_ (.inr rfl)
 exact ⟨⟨rfl,rfl⟩,_,rfl,fun hb a ha=>(hc rfl).2 (by simpa using hb) a ha rfl⟩
theorem tk237:tyk Tryz.prog 237=some (false,1):=by kernel_rfl
theorem oI(l:Sl cN)(F:FuncId)(caps:List Value)(p q:Per)(Ψ:cN→Bool→Prop)(hF:aW Tryz.prog F=true)(h:∀ a∈l.l,Con Tryz.prog F (a.val::caps) [p,q] [] (YN Value.bool (Ψ a))):Con Tryz.prog 248 [l.val,.func (.func F) #[] caps.toArray] [ShF cN.row l,p,q] []
   (YN (fun z:Int=>.int .i64 z) (fun z=>(z≥0→∃ a∈l.l,Ψ a true)∧(¬ z≥0→∀ a∈l.l,Ψ a false))):=by
 refine Con.enter Tryz.func248 rfl (by simp [Tryz.ntmps248]) ?_
 show awp _ _ _ _ ⟨[(0,true,_),(1,true,_)],_,_⟩
 refine aP (.of (ax 0 rfl)) (fun hlen => ?_)
 refine go 3 [0,0,236,0] ?_
 refine aF [0,1,7,8] [2,1,0] [] (fun (k:Nat) s=>(k≤l.l.length∧∀ a∈l.l.take k,Ψ a false)∧s=⟨[(0,true,l.val),(1,true,.func (.func F) #[] caps.toArray),(7,true,.int .i64 l.l.length),(8,true,.int .i64 k)],[ShF cN.row l,p,q],[]⟩) (fun k=>l.l.length-k) rfl (⟨0,⟨Nat.zero_le _,fun a ha=>by cases ha⟩,rfl⟩) ?_
 rintro k s ⟨⟨hk,hno⟩,rfl⟩
 refine go 3 [0] ?_
 refine aa _ rfl (fun h1 => ?_) (fun h1 => ?_)
 ·skip
  have hk':k<l.l.length:=by simpa using h1
  obtain ⟨a,ha⟩:∃ a,l.l[k]? = some a:=⟨l.l[k]'hk',by simp⟩
  refine go 0 [0,0,0,0,0] ?_
  refine bK true rfl rfl (fun _=>ai Tryz.underlying47 tk236 rfl ((.of (ax 0 rfl))) rfl (ak ha) rfl rfl) (fun h=>absurd h (by decide)) (fun ⟨b4_3,o4_3⟩ => ?_)
  refine go 0 [10754] ?_
  refine aq [1,0] (false) hF true rfl rfl (fun _=>rfl) (fun hc=>rfl) (fun hc=>h a (List.mem_of_getElem? ha)) (fun c hc => ?_)
  refine aNn ?_
  refine aa _ rfl (fun h2 => ?_) (fun h2 => ?_)
  ·skip
   refine go 2 [0,0] ?_
   refine ae (aO (an (an (aO (an ?_)))))
   refine bB [] [] rfl Tryz.results248 rfl ?_ (.inr rfl)
   exact ⟨⟨rfl,rfl⟩,_,rfl,fun _=>⟨a,List.mem_of_getElem? ha,h2 ▸ hc rfl⟩,fun hz=>(hz (Int.natCast_nonneg k)).elim⟩
  ·skip
   refine go 1 [0,0] ?_
   refine ao ?_
   refine ⟨[0,1,7,8],[2,1,0],[],rfl,?_⟩
   refine ⟨k+1,⟨⟨by omega,?_⟩,rfl⟩,by omega⟩
   intro y hy
   rw [List.take_add_one,ha,List.mem_append] at hy
   rcases hy with hy | hy
   · exact hno y hy
   · simp at hy;subst hy;exact h2 ▸ hc rfl
 ·skip
  refine go 2 [0] ?_
  refine ae ?_
  refine bB [] [] rfl Tryz.results248 rfl ?_ (.inr rfl)
  refine ⟨⟨rfl,rfl⟩,_,rfl,fun hz=>absurd hz (by decide),fun _ => ?_⟩
  rw [List.take_of_length_le (by simpa using h1)] at hno;exact hno
theorem oB(l:Sl cN)(F:FuncId)(caps:List Value)(p q:Per)(Ψ:cN→Bool→Prop)(hF:aW Tryz.prog F=true)(h:∀ a∈l.l,Con Tryz.prog F (a.val::caps) [p,q] [] (YN Value.bool (Ψ a))):Con Tryz.prog 218 [l.val,.func (.func F) #[] caps.toArray] [ShF cN.row l,p,q] []
   (YN Value.bool (fun b=>(b=true→∃ a∈l.l,Ψ a true)∧(b=false→∀ a∈l.l,Ψ a false))):=by
 refine Con.enter Tryz.func218 rfl (by simp [Tryz.ntmps218]) ?_
 show awp _ _ _ _ ⟨[(0,true,_),(1,true,_)],_,_⟩
 refine go 0 [0,0,0] ?_
 refine aN (q:=true) rfl (eQ [2,1,0] [] (by kernel_rfl) rfl rfl rfl rfl (oI l F caps p q Ψ hF h) ?_)
 rintro _ _ _ ⟨⟨rfl,rfl⟩,z,rfl,hz⟩
 refine aST ?_
 refine go 2 [0,0] ?_
 refine ae ?_
 refine bB [] [] rfl Tryz.results218 rfl ?_ (.inr rfl)
 exact ⟨⟨rfl,rfl⟩,_,rfl,fun hb=>hz.1 (by simpa using hb),fun hb=>hz.2 (by simpa using hb)⟩

theorem lO(b:Nat)(F:FuncId)(caps:List Value)(p:Per)(a:cN)(Φ:Prop)(hF:aW Tryz.prog F=true)(h:Con Tryz.prog F (a.val::caps) [p] [] (YB Φ)):Con Tryz.prog 219 [a.val,.pointer (some ⟨b,0,none⟩)] [At b 0 [.v (.func (.func F) #[] caps.toArray)],p] []
   (YN Value.bool (fun b=>b=false→Φ)):=by
 refine Con.enter Tryz.func219 rfl (by simp [Tryz.ntmps219]) ?_
 show awp _ _ _ _ ⟨[(0,true,_),(1,true,_)],_,_⟩
 refine aSR ?_
 refine aN (q:=true) rfl (aT rfl rfl rfl (fun b0_0 => ?_))
 refine aHN ?_
 refine go 4 [0] ?_
 refine aU rfl (cg (o:=0) tk237 rfl (.of (ax 0 rfl)) rfl) ?_
 refine go 0 [10752] ?_
 refine aq [0] (false) hF true rfl rfl (fun _=>rfl) (fun hc=>rfl) (fun hc=>h) (fun c hc => ?_)
 refine go 2 [0,0] ?_
 refine ae ?_
 refine bB [] [] rfl Tryz.results219 rfl ?_ (.inr rfl)
 exact ⟨⟨rfl,rfl⟩,_,rfl,fun hb=>hc rfl (by simpa using hb)⟩
theorem mI(l:Sl cN)(F:FuncId)(caps:List Value)(p:Per)(Φ:cN→Prop)(hF:aW Tryz.prog F=true)(h:∀ a∈l.l,Con Tryz.prog F (a.val::caps) [p] [] (YB (Φ a))):Con Tryz.prog 167 [l.val,.func (.func F) #[] caps.toArray] [ShF cN.row l,p] []
   (YB (∀ a∈l.l,Φ a)):=by
 refine Con.enter Tryz.func167 rfl (by simp [Tryz.ntmps167]) ?_
 show awp _ _ _ _ ⟨[(0,true,_),(1,true,_)],_,_⟩
 refine aSR ?_
 refine aN (q:=true) rfl (aT rfl rfl rfl (fun b0_0 => ?_))
 refine aHN ?_
 refine go 3 [0] ?_
 refine aY 0 rfl rfl ?_
 show awp _ _ _ _ ⟨_,At _ 0 _::_,_⟩
 refine az (aM rfl (aU rfl (cx (l:=[.tmp 3]) rfl) ?_))
 refine aq (caps:=[]) [1,2,0] (false) (by kernel_rfl) true rfl rfl (fun _=>rfl) (fun hc=>rfl) (fun hc=>by rw [List.append_nil];exact oB l 219 [.pointer (some ⟨b0_0,0,none⟩)] (At b0_0 0 [.v (.func (.func F) #[] caps.toArray)]) p (fun a b=>b=false→Φ a) (by kernel_rfl) (fun a ha=>lO b0_0 F caps p a (Φ a) hF (h a ha))) (fun c hc => ?_)
 refine go 2 [0,0] ?_
 refine ae ?_
 refine bB [] [] rfl Tryz.results167 rfl ?_ (.inr rfl)
 exact ⟨⟨rfl,rfl⟩,_,rfl,fun hb a ha=>(hc rfl).2 (by simpa using hb) a ha rfl⟩
theorem mO(l:Sl cN)(F:FuncId)(caps:List Value)(p:Per)(hF:aW Tryz.prog F=true)(h:∀ a∈l.l,∀ b∈l.l,Con Tryz.prog F (a.val::b.val::caps) [p] [] (YB True)):Con Tryz.prog 168 [l.val,.func (.func F) #[] caps.toArray] [ShF cN.row l,p] [] (YB True):=by
 refine Con.enter Tryz.func168 rfl (by simp [Tryz.ntmps168]) ?_
 show awp _ _ _ _ ⟨[(0,true,_),(1,true,_)],_,_⟩
 refine aP (.of (ax 0 rfl)) (fun hlen => ?_)
 refine go 3 [0,0] ?_
 refine aF [0,1,5] [1,0] [] (fun (k:Nat) s=>k≤l.l.length∧s=⟨[(0,true,l.val),(1,true,.func (.func F) #[] caps.toArray),(5,true,.int .i64 ((k+1:Nat):Int))],[ShF cN.row l,p],[]⟩) (fun k=>l.l.length-k) rfl (⟨0,Nat.zero_le _,rfl⟩) ?_
 rintro k s ⟨hk,rfl⟩
 refine go 2 [0,0,236,0] ?_
 refine aa _ rfl (fun h1 => ?_) (fun h1 => ?_)
 ·skip
  have hk':k+1<l.l.length:=by simp at h1;omega
  have ha:=bA (l:=l.l) (i:=k) (by omega)
  have hb:=bA (l:=l.l) (i:=k+1) hk'
  refine aE (ao (aD (aJ (aD ?_))))
  refine eZ [] (by kernel_rfl) ?_
  show aB _ _ _ _ _ 12 #[false,false,false,false,false,false,false,false,false,false,false,false] _
  refine go 0 [0,0,0,0] ?_
  refine eH 4 rfl (by kernel_rfl) true rfl rfl (fun _=>ai Tryz.underlying47 tk236 rfl ((.of (ax 0 rfl))) rfl (ak ha) (by omega) rfl) (fun h=>absurd h (by decide)) (fun ⟨b4_4,o4_4⟩ => ?_)
  refine go 0 [21508,0,0] ?_
  refine eH 8 rfl (by kernel_rfl) true rfl rfl (fun _=>ai Tryz.underlying47 tk236 rfl ((.of (ax 1 rfl))) rfl (ak hb) rfl rfl) (fun h=>absurd h (by decide)) (fun ⟨b4_8,o4_8⟩ => ?_)
  refine go 0 [21508] ?_
  refine db 10 rfl (by kernel_rfl) [0] (false) hF true rfl rfl (fun _=>rfl) (fun hc=>rfl) (fun hc=>h _ (List.mem_of_getElem? ha) _ (List.mem_of_getElem? hb)) (fun c hc => ?_)
  refine go 2 [0] ?_
  refine aa _ rfl (fun h2 => ?_) (fun h2 => ?_)
  ·skip
   refine go 2 [0] ?_
   refine ae (aO (an (an (aO (an ?_)))))
   refine bB [] [] rfl Tryz.results168 rfl ?_ (.inr rfl)
   exact ⟨⟨rfl,rfl⟩,_,rfl,fun _=>trivial⟩
  ·skip
   refine go 1 [0,0,0] ?_
   refine ao ?_
   refine ⟨[0,1,5],[1,0],[],rfl,?_⟩
   exact ⟨k+1,⟨by omega,rfl⟩,by omega⟩
 ·skip
  refine go 2 [0] ?_
  refine ae ?_
  refine bB [] [] rfl Tryz.results168 rfl ?_ (.inr rfl)
  exact ⟨⟨rfl,rfl⟩,_,rfl,fun _=>trivial⟩
theorem tk245:tyk Tryz.prog 245=some (false,1):=by kernel_rfl
theorem lR(l:Sl br)(F:FuncId)(caps:List Value)(p q:Per)(Ψ:br→Bool→Prop)(hF:aW Tryz.prog F=true)(h:∀ a∈l.l,Con Tryz.prog F (a.val::caps) [p,q] [] (YN Value.bool (Ψ a))):Con Tryz.prog 249 [l.val,.func (.func F) #[] caps.toArray] [ShF br.row l,p,q] []
   (YN (fun z:Int=>.int .i64 z) (fun z=>(z≥0→∃ a∈l.l,Ψ a true)∧(¬ z≥0→∀ a∈l.l,Ψ a false))):=by
 refine Con.enter Tryz.func249 rfl (by simp [Tryz.ntmps249]) ?_
 show awp _ _ _ _ ⟨[(0,true,_),(1,true,_)],_,_⟩
 refine aP (.of (ax 0 rfl)) (fun hlen => ?_)
 refine go 3 [0,0,243,0] ?_
 refine aF [0,1,7,8] [2,1,0] [] (fun (k:Nat) s=>(k≤l.l.length∧∀ a∈l.l.take k,Ψ a false)∧s=⟨[(0,true,l.val),(1,true,.func (.func F) #[] caps.toArray),(7,true,.int .i64 l.l.length),(8,true,.int .i64 k)],[ShF br.row l,p,q],[]⟩) (fun k=>l.l.length-k) rfl (⟨0,⟨Nat.zero_le _,fun a ha=>by cases ha⟩,rfl⟩) ?_
 rintro k s ⟨⟨hk,hno⟩,rfl⟩
 refine go 3 [0] ?_
 refine aa _ rfl (fun h1 => ?_) (fun h1 => ?_)
 ·skip
  have hk':k<l.l.length:=by simpa using h1
  obtain ⟨a,ha⟩:∃ a,l.l[k]? = some a:=⟨l.l[k]'hk',by simp⟩
  refine go 0 [0,0,0,0,0] ?_
  refine bK true rfl rfl (fun _=>ai Tryz.underlying48 tk243 rfl ((.of (ax 0 rfl))) rfl (ak ha) rfl rfl) (fun h=>absurd h (by decide)) (fun ⟨b4_3,o4_3⟩ => ?_)
  refine go 0 [16898] ?_
  refine aq [1,0] (false) hF true rfl rfl (fun _=>rfl) (fun hc=>rfl) (fun hc=>h a (List.mem_of_getElem? ha)) (fun c hc => ?_)
  refine aNn ?_
  refine aa _ rfl (fun h2 => ?_) (fun h2 => ?_)
  ·skip
   refine go 2 [0,0] ?_
   refine ae (aO (an (an (aO (an ?_)))))
   refine bB [] [] rfl Tryz.results249 rfl ?_ (.inr rfl)
   exact ⟨⟨rfl,rfl⟩,_,rfl,fun _=>⟨a,List.mem_of_getElem? ha,h2 ▸ hc rfl⟩,fun hz=>(hz (Int.natCast_nonneg k)).elim⟩
  ·skip
   refine go 1 [0,0] ?_
   refine ao ?_
   refine ⟨[0,1,7,8],[2,1,0],[],rfl,?_⟩
   refine ⟨k+1,⟨⟨by omega,?_⟩,rfl⟩,by omega⟩
   intro y hy
   rw [List.take_add_one,ha,List.mem_append] at hy
   rcases hy with hy | hy
   · exact hno y hy
   · simp at hy;subst hy;exact h2 ▸ hc rfl
 ·skip
  refine go 2 [0] ?_
  refine ae ?_
  refine bB [] [] rfl Tryz.results249 rfl ?_ (.inr rfl)
  refine ⟨⟨rfl,rfl⟩,_,rfl,fun hz=>absurd hz (by decide),fun _ => ?_⟩
  rw [List.take_of_length_le (by simpa using h1)] at hno;exact hno
theorem lK(l:Sl br)(F:FuncId)(caps:List Value)(p q:Per)(Ψ:br→Bool→Prop)(hF:aW Tryz.prog F=true)(h:∀ a∈l.l,Con Tryz.prog F (a.val::caps) [p,q] [] (YN Value.bool (Ψ a))):Con Tryz.prog 220 [l.val,.func (.func F) #[] caps.toArray] [ShF br.row l,p,q] []
   (YN Value.bool (fun b=>(b=true→∃ a∈l.l,Ψ a true)∧(b=false→∀ a∈l.l,Ψ a false))):=by
 refine Con.enter Tryz.func220 rfl (by simp [Tryz.ntmps220]) ?_
 show awp _ _ _ _ ⟨[(0,true,_),(1,true,_)],_,_⟩
 refine go 0 [0,0,0] ?_
 refine aN (q:=true) rfl (eQ [2,1,0] [] (by kernel_rfl) rfl rfl rfl rfl (lR l F caps p q Ψ hF h) ?_)
 rintro _ _ _ ⟨⟨rfl,rfl⟩,z,rfl,hz⟩
 refine aST ?_
 refine go 2 [0,0] ?_
 refine ae ?_
 refine bB [] [] rfl Tryz.results220 rfl ?_ (.inr rfl)
 exact ⟨⟨rfl,rfl⟩,_,rfl,fun hb=>hz.1 (by simpa using hb),fun hb=>hz.2 (by simpa using hb)⟩

theorem jL(b:Nat)(F:FuncId)(caps:List Value)(p:Per)(a:br)(Φ:Prop)(hF:aW Tryz.prog F=true)(h:Con Tryz.prog F (a.val::caps) [p] [] (YB Φ)):Con Tryz.prog 221 [a.val,.pointer (some ⟨b,0,none⟩)] [At b 0 [.v (.func (.func F) #[] caps.toArray)],p] []
   (YN Value.bool (fun b=>b=false→Φ)):=by
 refine Con.enter Tryz.func221 rfl (by simp [Tryz.ntmps221]) ?_
 show awp _ _ _ _ ⟨[(0,true,_),(1,true,_)],_,_⟩
 refine aSR ?_
 refine aN (q:=true) rfl (aT rfl rfl rfl (fun b0_0 => ?_))
 refine aHN ?_
 refine go 4 [0] ?_
 refine aU rfl (cg (o:=0) tk245 rfl (.of (ax 0 rfl)) rfl) ?_
 refine go 0 [16896] ?_
 refine aq [0] (false) hF true rfl rfl (fun _=>rfl) (fun hc=>rfl) (fun hc=>h) (fun c hc => ?_)
 refine go 2 [0,0] ?_
 refine ae ?_
 refine bB [] [] rfl Tryz.results221 rfl ?_ (.inr rfl)
 exact ⟨⟨rfl,rfl⟩,_,rfl,fun hb=>hc rfl (by simpa using hb)⟩
theorem kB(l:Sl br)(F:FuncId)(caps:List Value)(p:Per)(Φ:br→Prop)(hF:aW Tryz.prog F=true)(h:∀ a∈l.l,Con Tryz.prog F (a.val::caps) [p] [] (YB (Φ a))):Con Tryz.prog 169 [l.val,.func (.func F) #[] caps.toArray] [ShF br.row l,p] []
   (YB (∀ a∈l.l,Φ a)):=by
 refine Con.enter Tryz.func169 rfl (by simp [Tryz.ntmps169]) ?_
 show awp _ _ _ _ ⟨[(0,true,_),(1,true,_)],_,_⟩
 refine aSR ?_
 refine aN (q:=true) rfl (aT rfl rfl rfl (fun b0_0 => ?_))
 refine aHN ?_
 refine go 3 [0] ?_
 refine aY 0 rfl rfl ?_
 show awp _ _ _ _ ⟨_,At _ 0 _::_,_⟩
 refine az (aM rfl (aU rfl (cx (l:=[.tmp 3]) rfl) ?_))
 refine aq (caps:=[]) [1,2,0] (false) (by kernel_rfl) true rfl rfl (fun _=>rfl) (fun hc=>rfl) (fun hc=>by rw [List.append_nil];exact lK l 221 [.pointer (some ⟨b0_0,0,none⟩)] (At b0_0 0 [.v (.func (.func F) #[] caps.toArray)]) p (fun a b=>b=false→Φ a) (by kernel_rfl) (fun a ha=>jL b0_0 F caps p a (Φ a) hF (h a ha))) (fun c hc => ?_)
 refine go 2 [0,0] ?_
 refine ae ?_
 refine bB [] [] rfl Tryz.results169 rfl ?_ (.inr rfl)
 exact ⟨⟨rfl,rfl⟩,_,rfl,fun hb a ha=>(hc rfl).2 (by simpa using hb) a ha rfl⟩
theorem tk247:tyk Tryz.prog 247=some (false,1):=by kernel_rfl
theorem ql(l:Sl dN)(F:FuncId)(caps:List Value)(p q:Per)(Ψ:dN→Bool→Prop)(hF:aW Tryz.prog F=true)(h:∀ a∈l.l,Con Tryz.prog F (a.val::caps) [p,q] [] (YN Value.bool (Ψ a))):Con Tryz.prog 250 [l.val,.func (.func F) #[] caps.toArray] [ShF dN.row l,p,q] []
   (YN (fun z:Int=>.int .i64 z) (fun z=>(z≥0→∃ a∈l.l,Ψ a true)∧(¬ z≥0→∀ a∈l.l,Ψ a false))):=by
 refine Con.enter Tryz.func250 rfl (by simp [Tryz.ntmps250]) ?_
 show awp _ _ _ _ ⟨[(0,true,_),(1,true,_)],_,_⟩
 refine aP (.of (ax 0 rfl)) (fun hlen => ?_)
 refine go 3 [0,0,180,0] ?_
 refine aF [0,1,7,8] [2,1,0] [] (fun (k:Nat) s=>(k≤l.l.length∧∀ a∈l.l.take k,Ψ a false)∧s=⟨[(0,true,l.val),(1,true,.func (.func F) #[] caps.toArray),(7,true,.int .i64 l.l.length),(8,true,.int .i64 k)],[ShF dN.row l,p,q],[]⟩) (fun k=>l.l.length-k) rfl (⟨0,⟨Nat.zero_le _,fun a ha=>by cases ha⟩,rfl⟩) ?_
 rintro k s ⟨⟨hk,hno⟩,rfl⟩
 refine go 3 [0] ?_
 refine aa _ rfl (fun h1 => ?_) (fun h1 => ?_)
 ·skip
  have hk':k<l.l.length:=by simpa using h1
  obtain ⟨a,ha⟩:∃ a,l.l[k]? = some a:=⟨l.l[k]'hk',by simp⟩
  refine go 0 [0,0,0,0,0] ?_
  refine bK true rfl rfl (fun _=>ai Tryz.underlying123 tk180 rfl ((.of (ax 0 rfl))) rfl (ak ha) rfl rfl) (fun h=>absurd h (by decide)) (fun ⟨b4_3,o4_3⟩ => ?_)
  refine go 0 [16898] ?_
  refine aq [1,0] (false) hF true rfl rfl (fun _=>rfl) (fun hc=>rfl) (fun hc=>h a (List.mem_of_getElem? ha)) (fun c hc => ?_)
  refine aNn ?_
  refine aa _ rfl (fun h2 => ?_) (fun h2 => ?_)
  ·skip
   refine go 2 [0,0] ?_
   refine ae (aO (an (an (aO (an ?_)))))
   refine bB [] [] rfl Tryz.results250 rfl ?_ (.inr rfl)
   exact ⟨⟨rfl,rfl⟩,_,rfl,fun _=>⟨a,List.mem_of_getElem? ha,h2 ▸ hc rfl⟩,fun hz=>(hz (Int.natCast_nonneg k)).elim⟩
  ·skip
   refine go 1 [0,0] ?_
   refine ao ?_
   refine ⟨[0,1,7,8],[2,1,0],[],rfl,?_⟩
   refine ⟨k+1,⟨⟨by omega,?_⟩,rfl⟩,by omega⟩
   intro y hy
   rw [List.take_add_one,ha,List.mem_append] at hy
   rcases hy with hy | hy
   · exact hno y hy
   · simp at hy;subst hy;exact h2 ▸ hc rfl
 ·skip
  refine go 2 [0] ?_
  refine ae ?_
  refine bB [] [] rfl Tryz.results250 rfl ?_ (.inr rfl)
  refine ⟨⟨rfl,rfl⟩,_,rfl,fun hz=>absurd hz (by decide),fun _ => ?_⟩
  rw [List.take_of_length_le (by simpa using h1)] at hno;exact hno
theorem qf(l:Sl dN)(F:FuncId)(caps:List Value)(p q:Per)(Ψ:dN→Bool→Prop)(hF:aW Tryz.prog F=true)(h:∀ a∈l.l,Con Tryz.prog F (a.val::caps) [p,q] [] (YN Value.bool (Ψ a))):Con Tryz.prog 224 [l.val,.func (.func F) #[] caps.toArray] [ShF dN.row l,p,q] []
   (YN Value.bool (fun b=>(b=true→∃ a∈l.l,Ψ a true)∧(b=false→∀ a∈l.l,Ψ a false))):=by
 refine Con.enter Tryz.func224 rfl (by simp [Tryz.ntmps224]) ?_
 show awp _ _ _ _ ⟨[(0,true,_),(1,true,_)],_,_⟩
 refine go 0 [0,0,0] ?_
 refine aN (q:=true) rfl (eQ [2,1,0] [] (by kernel_rfl) rfl rfl rfl rfl (ql l F caps p q Ψ hF h) ?_)
 rintro _ _ _ ⟨⟨rfl,rfl⟩,z,rfl,hz⟩
 refine aST ?_
 refine go 2 [0,0] ?_
 refine ae ?_
 refine bB [] [] rfl Tryz.results224 rfl ?_ (.inr rfl)
 exact ⟨⟨rfl,rfl⟩,_,rfl,fun hb=>hz.1 (by simpa using hb),fun hb=>hz.2 (by simpa using hb)⟩

theorem mG(b:Nat)(F:FuncId)(caps:List Value)(p:Per)(a:dN)(Φ:Prop)(hF:aW Tryz.prog F=true)(h:Con Tryz.prog F (a.val::caps) [p] [] (YB Φ)):Con Tryz.prog 225 [a.val,.pointer (some ⟨b,0,none⟩)] [At b 0 [.v (.func (.func F) #[] caps.toArray)],p] []
   (YN Value.bool (fun b=>b=false→Φ)):=by
 refine Con.enter Tryz.func225 rfl (by simp [Tryz.ntmps225]) ?_
 show awp _ _ _ _ ⟨[(0,true,_),(1,true,_)],_,_⟩
 refine aSR ?_
 refine aN (q:=true) rfl (aT rfl rfl rfl (fun b0_0 => ?_))
 refine aHN ?_
 refine go 4 [0] ?_
 refine aU rfl (cg (o:=0) tk247 rfl (.of (ax 0 rfl)) rfl) ?_
 refine go 0 [16896] ?_
 refine aq [0] (false) hF true rfl rfl (fun _=>rfl) (fun hc=>rfl) (fun hc=>h) (fun c hc => ?_)
 refine go 2 [0,0] ?_
 refine ae ?_
 refine bB [] [] rfl Tryz.results225 rfl ?_ (.inr rfl)
 exact ⟨⟨rfl,rfl⟩,_,rfl,fun hb=>hc rfl (by simpa using hb)⟩
theorem oG(l:Sl dN)(F:FuncId)(caps:List Value)(p:Per)(Φ:dN→Prop)(hF:aW Tryz.prog F=true)(h:∀ a∈l.l,Con Tryz.prog F (a.val::caps) [p] [] (YB (Φ a))):Con Tryz.prog 177 [l.val,.func (.func F) #[] caps.toArray] [ShF dN.row l,p] []
   (YB (∀ a∈l.l,Φ a)):=by
 refine Con.enter Tryz.func177 rfl (by simp [Tryz.ntmps177]) ?_
 show awp _ _ _ _ ⟨[(0,true,_),(1,true,_)],_,_⟩
 refine aSR ?_
 refine aN (q:=true) rfl (aT rfl rfl rfl (fun b0_0 => ?_))
 refine aHN ?_
 refine go 3 [0] ?_
 refine aY 0 rfl rfl ?_
 show awp _ _ _ _ ⟨_,At _ 0 _::_,_⟩
 refine az (aM rfl (aU rfl (cx (l:=[.tmp 3]) rfl) ?_))
 refine aq (caps:=[]) [1,2,0] (false) (by kernel_rfl) true rfl rfl (fun _=>rfl) (fun hc=>rfl) (fun hc=>by rw [List.append_nil];exact qf l 225 [.pointer (some ⟨b0_0,0,none⟩)] (At b0_0 0 [.v (.func (.func F) #[] caps.toArray)]) p (fun a b=>b=false→Φ a) (by kernel_rfl) (fun a ha=>mG b0_0 F caps p a (Φ a) hF (h a ha))) (fun c hc => ?_)
 refine go 2 [0,0] ?_
 refine ae ?_
 refine bB [] [] rfl Tryz.results177 rfl ?_ (.inr rfl)
 exact ⟨⟨rfl,rfl⟩,_,rfl,fun hb a ha=>(hc rfl).2 (by simpa using hb) a ha rfl⟩
theorem oP(l:Sl dN)(F:FuncId)(caps:List Value)(p:Per)(hF:aW Tryz.prog F=true)(h:∀ a∈l.l,∀ b∈l.l,Con Tryz.prog F (a.val::b.val::caps) [p] [] (YB True)):Con Tryz.prog 178 [l.val,.func (.func F) #[] caps.toArray] [ShF dN.row l,p] [] (YB True):=by
 refine Con.enter Tryz.func178 rfl (by simp [Tryz.ntmps178]) ?_
 show awp _ _ _ _ ⟨[(0,true,_),(1,true,_)],_,_⟩
 refine aP (.of (ax 0 rfl)) (fun hlen => ?_)
 refine go 3 [0,0] ?_
 refine aF [0,1,5] [1,0] [] (fun (k:Nat) s=>k≤l.l.length∧s=⟨[(0,true,l.val),(1,true,.func (.func F) #[] caps.toArray),(5,true,.int .i64 ((k+1:Nat):Int))],[ShF dN.row l,p],[]⟩) (fun k=>l.l.length-k) rfl (⟨0,Nat.zero_le _,rfl⟩) ?_
 rintro k s ⟨hk,rfl⟩
 refine go 2 [0,0,180,0] ?_
 refine aa _ rfl (fun h1 => ?_) (fun h1 => ?_)
 ·skip
  have hk':k+1<l.l.length:=by simp at h1;omega
  have ha:=bA (l:=l.l) (i:=k) (by omega)
  have hb:=bA (l:=l.l) (i:=k+1) hk'
  refine aE (ao (aD (aJ (aD ?_))))
  refine eZ [] (by kernel_rfl) ?_
  show aB _ _ _ _ _ 12 #[false,false,false,false,false,false,false,false,false,false,false,false] _
  refine go 0 [0,0,0,0] ?_
  refine eH 4 rfl (by kernel_rfl) true rfl rfl (fun _=>ai Tryz.underlying123 tk180 rfl ((.of (ax 0 rfl))) rfl (ak ha) (by omega) rfl) (fun h=>absurd h (by decide)) (fun ⟨b4_4,o4_4⟩ => ?_)
  refine go 0 [33796,0,0] ?_
  refine eH 8 rfl (by kernel_rfl) true rfl rfl (fun _=>ai Tryz.underlying123 tk180 rfl ((.of (ax 1 rfl))) rfl (ak hb) rfl rfl) (fun h=>absurd h (by decide)) (fun ⟨b4_8,o4_8⟩ => ?_)
  refine go 0 [33796] ?_
  refine db 10 rfl (by kernel_rfl) [0] (false) hF true rfl rfl (fun _=>rfl) (fun hc=>rfl) (fun hc=>h _ (List.mem_of_getElem? ha) _ (List.mem_of_getElem? hb)) (fun c hc => ?_)
  refine go 2 [0] ?_
  refine aa _ rfl (fun h2 => ?_) (fun h2 => ?_)
  ·skip
   refine go 2 [0] ?_
   refine ae (aO (an (an (aO (an ?_)))))
   refine bB [] [] rfl Tryz.results178 rfl ?_ (.inr rfl)
   exact ⟨⟨rfl,rfl⟩,_,rfl,fun _=>trivial⟩
  ·skip
   refine go 1 [0,0,0] ?_
   refine ao ?_
   refine ⟨[0,1,5],[1,0],[],rfl,?_⟩
   exact ⟨k+1,⟨by omega,rfl⟩,by omega⟩
 ·skip
  refine go 2 [0] ?_
  refine ae ?_
  refine bB [] [] rfl Tryz.results178 rfl ?_ (.inr rfl)
  exact ⟨⟨rfl,rfl⟩,_,rfl,fun _=>trivial⟩
theorem tk254:tyk Tryz.prog 254=some (false,1):=by kernel_rfl
theorem mK(l:Sl cJ)(F:FuncId)(caps:List Value)(p q:Per)(Ψ:cJ→Bool→Prop)(hF:aW Tryz.prog F=true)(h:∀ a∈l.l,Con Tryz.prog F (a.val::caps) [p,q] [] (YN Value.bool (Ψ a))):Con Tryz.prog 251 [l.val,.func (.func F) #[] caps.toArray] [ShF cJ.row l,p,q] []
   (YN (fun z:Int=>.int .i64 z) (fun z=>(z≥0→∃ a∈l.l,Ψ a true)∧(¬ z≥0→∀ a∈l.l,Ψ a false))):=by
 refine Con.enter Tryz.func251 rfl (by simp [Tryz.ntmps251]) ?_
 show awp _ _ _ _ ⟨[(0,true,_),(1,true,_)],_,_⟩
 refine aP (.of (ax 0 rfl)) (fun hlen => ?_)
 refine go 3 [0,0,253,0] ?_
 refine aF [0,1,7,8] [2,1,0] [] (fun (k:Nat) s=>(k≤l.l.length∧∀ a∈l.l.take k,Ψ a false)∧s=⟨[(0,true,l.val),(1,true,.func (.func F) #[] caps.toArray),(7,true,.int .i64 l.l.length),(8,true,.int .i64 k)],[ShF cJ.row l,p,q],[]⟩) (fun k=>l.l.length-k) rfl (⟨0,⟨Nat.zero_le _,fun a ha=>by cases ha⟩,rfl⟩) ?_
 rintro k s ⟨⟨hk,hno⟩,rfl⟩
 refine go 3 [0] ?_
 refine aa _ rfl (fun h1 => ?_) (fun h1 => ?_)
 ·skip
  have hk':k<l.l.length:=by simpa using h1
  obtain ⟨a,ha⟩:∃ a,l.l[k]? = some a:=⟨l.l[k]'hk',by simp⟩
  refine go 0 [0,0,0,0,0] ?_
  refine bK true rfl rfl (fun _=>ai Tryz.underlying50 tk253 rfl ((.of (ax 0 rfl))) rfl (ak ha) rfl rfl) (fun h=>absurd h (by decide)) (fun ⟨b4_3,o4_3⟩ => ?_)
  refine go 0 [10754] ?_
  refine aq [1,0] (false) hF true rfl rfl (fun _=>rfl) (fun hc=>rfl) (fun hc=>h a (List.mem_of_getElem? ha)) (fun c hc => ?_)
  refine aNn ?_
  refine aa _ rfl (fun h2 => ?_) (fun h2 => ?_)
  ·skip
   refine go 2 [0,0] ?_
   refine ae (aO (an (an (aO (an ?_)))))
   refine bB [] [] rfl Tryz.results251 rfl ?_ (.inr rfl)
   exact ⟨⟨rfl,rfl⟩,_,rfl,fun _=>⟨a,List.mem_of_getElem? ha,h2 ▸ hc rfl⟩,fun hz=>(hz (Int.natCast_nonneg k)).elim⟩
  ·skip
   refine go 1 [0,0] ?_
   refine ao ?_
   refine ⟨[0,1,7,8],[2,1,0],[],rfl,?_⟩
   refine ⟨k+1,⟨⟨by omega,?_⟩,rfl⟩,by omega⟩
   intro y hy
   rw [List.take_add_one,ha,List.mem_append] at hy
   rcases hy with hy | hy
   · exact hno y hy
   · simp at hy;subst hy;exact h2 ▸ hc rfl
 ·skip
  refine go 2 [0] ?_
  refine ae ?_
  refine bB [] [] rfl Tryz.results251 rfl ?_ (.inr rfl)
  refine ⟨⟨rfl,rfl⟩,_,rfl,fun hz=>absurd hz (by decide),fun _ => ?_⟩
  rw [List.take_of_length_le (by simpa using h1)] at hno;exact hno
theorem mB(l:Sl cJ)(F:FuncId)(caps:List Value)(p q:Per)(Ψ:cJ→Bool→Prop)(hF:aW Tryz.prog F=true)(h:∀ a∈l.l,Con Tryz.prog F (a.val::caps) [p,q] [] (YN Value.bool (Ψ a))):Con Tryz.prog 226 [l.val,.func (.func F) #[] caps.toArray] [ShF cJ.row l,p,q] []
   (YN Value.bool (fun b=>(b=true→∃ a∈l.l,Ψ a true)∧(b=false→∀ a∈l.l,Ψ a false))):=by
 refine Con.enter Tryz.func226 rfl (by simp [Tryz.ntmps226]) ?_
 show awp _ _ _ _ ⟨[(0,true,_),(1,true,_)],_,_⟩
 refine go 0 [0,0,0] ?_
 refine aN (q:=true) rfl (eQ [2,1,0] [] (by kernel_rfl) rfl rfl rfl rfl (mK l F caps p q Ψ hF h) ?_)
 rintro _ _ _ ⟨⟨rfl,rfl⟩,z,rfl,hz⟩
 refine aST ?_
 refine go 2 [0,0] ?_
 refine ae ?_
 refine bB [] [] rfl Tryz.results226 rfl ?_ (.inr rfl)
 exact ⟨⟨rfl,rfl⟩,_,rfl,fun hb=>hz.1 (by simpa using hb),fun hb=>hz.2 (by simpa using hb)⟩

theorem kz(b:Nat)(F:FuncId)(caps:List Value)(p:Per)(a:cJ)(Φ:Prop)(hF:aW Tryz.prog F=true)(h:Con Tryz.prog F (a.val::caps) [p] [] (YB Φ)):Con Tryz.prog 227 [a.val,.pointer (some ⟨b,0,none⟩)] [At b 0 [.v (.func (.func F) #[] caps.toArray)],p] []
   (YN Value.bool (fun b=>b=false→Φ)):=by
 refine Con.enter Tryz.func227 rfl (by simp [Tryz.ntmps227]) ?_
 show awp _ _ _ _ ⟨[(0,true,_),(1,true,_)],_,_⟩
 refine aSR ?_
 refine aN (q:=true) rfl (aT rfl rfl rfl (fun b0_0 => ?_))
 refine aHN ?_
 refine go 4 [0] ?_
 refine aU rfl (cg (o:=0) tk254 rfl (.of (ax 0 rfl)) rfl) ?_
 refine go 0 [10752] ?_
 refine aq [0] (false) hF true rfl rfl (fun _=>rfl) (fun hc=>rfl) (fun hc=>h) (fun c hc => ?_)
 refine go 2 [0,0] ?_
 refine ae ?_
 refine bB [] [] rfl Tryz.results227 rfl ?_ (.inr rfl)
 exact ⟨⟨rfl,rfl⟩,_,rfl,fun hb=>hc rfl (by simpa using hb)⟩
theorem lP(l:Sl cJ)(F:FuncId)(caps:List Value)(p:Per)(Φ:cJ→Prop)(hF:aW Tryz.prog F=true)(h:∀ a∈l.l,Con Tryz.prog F (a.val::caps) [p] [] (YB (Φ a))):Con Tryz.prog 181 [l.val,.func (.func F) #[] caps.toArray] [ShF cJ.row l,p] []
   (YB (∀ a∈l.l,Φ a)):=by
 refine Con.enter Tryz.func181 rfl (by simp [Tryz.ntmps181]) ?_
 show awp _ _ _ _ ⟨[(0,true,_),(1,true,_)],_,_⟩
 refine aSR ?_
 refine aN (q:=true) rfl (aT rfl rfl rfl (fun b0_0 => ?_))
 refine aHN ?_
 refine go 3 [0] ?_
 refine aY 0 rfl rfl ?_
 show awp _ _ _ _ ⟨_,At _ 0 _::_,_⟩
 refine az (aM rfl (aU rfl (cx (l:=[.tmp 3]) rfl) ?_))
 refine aq (caps:=[]) [1,2,0] (false) (by kernel_rfl) true rfl rfl (fun _=>rfl) (fun hc=>rfl) (fun hc=>by rw [List.append_nil];exact mB l 227 [.pointer (some ⟨b0_0,0,none⟩)] (At b0_0 0 [.v (.func (.func F) #[] caps.toArray)]) p (fun a b=>b=false→Φ a) (by kernel_rfl) (fun a ha=>kz b0_0 F caps p a (Φ a) hF (h a ha))) (fun c hc => ?_)
 refine go 2 [0,0] ?_
 refine ae ?_
 refine bB [] [] rfl Tryz.results181 rfl ?_ (.inr rfl)
 exact ⟨⟨rfl,rfl⟩,_,rfl,fun hb a ha=>(hc rfl).2 (by simpa using hb) a ha rfl⟩
theorem lU(l:Sl cJ)(F:FuncId)(caps:List Value)(p:Per)(hF:aW Tryz.prog F=true)(h:∀ a∈l.l,∀ b∈l.l,Con Tryz.prog F (a.val::b.val::caps) [p] [] (YB True)):Con Tryz.prog 182 [l.val,.func (.func F) #[] caps.toArray] [ShF cJ.row l,p] [] (YB True):=by
 refine Con.enter Tryz.func182 rfl (by simp [Tryz.ntmps182]) ?_
 show awp _ _ _ _ ⟨[(0,true,_),(1,true,_)],_,_⟩
 refine aP (.of (ax 0 rfl)) (fun hlen => ?_)
 refine go 3 [0,0] ?_
 refine aF [0,1,5] [1,0] [] (fun (k:Nat) s=>k≤l.l.length∧s=⟨[(0,true,l.val),(1,true,.func (.func F) #[] caps.toArray),(5,true,.int .i64 ((k+1:Nat):Int))],[ShF cJ.row l,p],[]⟩) (fun k=>l.l.length-k) rfl (⟨0,Nat.zero_le _,rfl⟩) ?_
 rintro k s ⟨hk,rfl⟩
 refine go 2 [0,0,253,0] ?_
 refine aa _ rfl (fun h1 => ?_) (fun h1 => ?_)
 ·skip
  have hk':k+1<l.l.length:=by simp at h1;omega
  have ha:=bA (l:=l.l) (i:=k) (by omega)
  have hb:=bA (l:=l.l) (i:=k+1) hk'
  refine aE (ao (aD (aJ (aD ?_))))
  refine eZ [] (by kernel_rfl) ?_
  show aB _ _ _ _ _ 12 #[false,false,false,false,false,false,false,false,false,false,false,false] _
  refine go 0 [0,0,0,0] ?_
  refine eH 4 rfl (by kernel_rfl) true rfl rfl (fun _=>ai Tryz.underlying50 tk253 rfl ((.of (ax 0 rfl))) rfl (ak ha) (by omega) rfl) (fun h=>absurd h (by decide)) (fun ⟨b4_4,o4_4⟩ => ?_)
  refine go 0 [21508,0,0] ?_
  refine eH 8 rfl (by kernel_rfl) true rfl rfl (fun _=>ai Tryz.underlying50 tk253 rfl ((.of (ax 1 rfl))) rfl (ak hb) rfl rfl) (fun h=>absurd h (by decide)) (fun ⟨b4_8,o4_8⟩ => ?_)
  refine go 0 [21508] ?_
  refine db 10 rfl (by kernel_rfl) [0] (false) hF true rfl rfl (fun _=>rfl) (fun hc=>rfl) (fun hc=>h _ (List.mem_of_getElem? ha) _ (List.mem_of_getElem? hb)) (fun c hc => ?_)
  refine go 2 [0] ?_
  refine aa _ rfl (fun h2 => ?_) (fun h2 => ?_)
  ·skip
   refine go 2 [0] ?_
   refine ae (aO (an (an (aO (an ?_)))))
   refine bB [] [] rfl Tryz.results182 rfl ?_ (.inr rfl)
   exact ⟨⟨rfl,rfl⟩,_,rfl,fun _=>trivial⟩
  ·skip
   refine go 1 [0,0,0] ?_
   refine ao ?_
   refine ⟨[0,1,5],[1,0],[],rfl,?_⟩
   exact ⟨k+1,⟨by omega,rfl⟩,by omega⟩
 ·skip
  refine go 2 [0] ?_
  refine ae ?_
  refine bB [] [] rfl Tryz.results182 rfl ?_ (.inr rfl)
  exact ⟨⟨rfl,rfl⟩,_,rfl,fun _=>trivial⟩
theorem tk261:tyk Tryz.prog 261=some (false,1):=by kernel_rfl
theorem mL(l:Sl cO)(F:FuncId)(caps:List Value)(p q:Per)(Ψ:cO→Bool→Prop)(hF:aW Tryz.prog F=true)(h:∀ a∈l.l,Con Tryz.prog F (a.val::caps) [p,q] [] (YN Value.bool (Ψ a))):Con Tryz.prog 252 [l.val,.func (.func F) #[] caps.toArray] [ShF cO.row l,p,q] []
   (YN (fun z:Int=>.int .i64 z) (fun z=>(z≥0→∃ a∈l.l,Ψ a true)∧(¬ z≥0→∀ a∈l.l,Ψ a false))):=by
 refine Con.enter Tryz.func252 rfl (by simp [Tryz.ntmps252]) ?_
 show awp _ _ _ _ ⟨[(0,true,_),(1,true,_)],_,_⟩
 refine aP (.of (ax 0 rfl)) (fun hlen => ?_)
 refine go 3 [0,0,260,0] ?_
 refine aF [0,1,7,8] [2,1,0] [] (fun (k:Nat) s=>(k≤l.l.length∧∀ a∈l.l.take k,Ψ a false)∧s=⟨[(0,true,l.val),(1,true,.func (.func F) #[] caps.toArray),(7,true,.int .i64 l.l.length),(8,true,.int .i64 k)],[ShF cO.row l,p,q],[]⟩) (fun k=>l.l.length-k) rfl (⟨0,⟨Nat.zero_le _,fun a ha=>by cases ha⟩,rfl⟩) ?_
 rintro k s ⟨⟨hk,hno⟩,rfl⟩
 refine go 3 [0] ?_
 refine aa _ rfl (fun h1 => ?_) (fun h1 => ?_)
 ·skip
  have hk':k<l.l.length:=by simpa using h1
  obtain ⟨a,ha⟩:∃ a,l.l[k]? = some a:=⟨l.l[k]'hk',by simp⟩
  refine go 0 [0,0,0,0,0] ?_
  refine bK true rfl rfl (fun _=>ai Tryz.underlying142 tk260 rfl ((.of (ax 0 rfl))) rfl (ak ha) rfl rfl) (fun h=>absurd h (by decide)) (fun ⟨b4_3,o4_3⟩ => ?_)
  refine go 0 [7682] ?_
  refine aq [1,0] (false) hF true rfl rfl (fun _=>rfl) (fun hc=>rfl) (fun hc=>h a (List.mem_of_getElem? ha)) (fun c hc => ?_)
  refine aNn ?_
  refine aa _ rfl (fun h2 => ?_) (fun h2 => ?_)
  ·skip
   refine go 2 [0,0] ?_
   refine ae (aO (an (an (aO (an ?_)))))
   refine bB [] [] rfl Tryz.results252 rfl ?_ (.inr rfl)
   exact ⟨⟨rfl,rfl⟩,_,rfl,fun _=>⟨a,List.mem_of_getElem? ha,h2 ▸ hc rfl⟩,fun hz=>(hz (Int.natCast_nonneg k)).elim⟩
  ·skip
   refine go 1 [0,0] ?_
   refine ao ?_
   refine ⟨[0,1,7,8],[2,1,0],[],rfl,?_⟩
   refine ⟨k+1,⟨⟨by omega,?_⟩,rfl⟩,by omega⟩
   intro y hy
   rw [List.take_add_one,ha,List.mem_append] at hy
   rcases hy with hy | hy
   · exact hno y hy
   · simp at hy;subst hy;exact h2 ▸ hc rfl
 ·skip
  refine go 2 [0] ?_
  refine ae ?_
  refine bB [] [] rfl Tryz.results252 rfl ?_ (.inr rfl)
  refine ⟨⟨rfl,rfl⟩,_,rfl,fun hz=>absurd hz (by decide),fun _ => ?_⟩
  rw [List.take_of_length_le (by simpa using h1)] at hno;exact hno
theorem mC(l:Sl cO)(F:FuncId)(caps:List Value)(p q:Per)(Ψ:cO→Bool→Prop)(hF:aW Tryz.prog F=true)(h:∀ a∈l.l,Con Tryz.prog F (a.val::caps) [p,q] [] (YN Value.bool (Ψ a))):Con Tryz.prog 228 [l.val,.func (.func F) #[] caps.toArray] [ShF cO.row l,p,q] []
   (YN Value.bool (fun b=>(b=true→∃ a∈l.l,Ψ a true)∧(b=false→∀ a∈l.l,Ψ a false))):=by
 refine Con.enter Tryz.func228 rfl (by simp [Tryz.ntmps228]) ?_
 show awp _ _ _ _ ⟨[(0,true,_),(1,true,_)],_,_⟩
 refine go 0 [0,0,0] ?_
 refine aN (q:=true) rfl (eQ [2,1,0] [] (by kernel_rfl) rfl rfl rfl rfl (mL l F caps p q Ψ hF h) ?_)
 rintro _ _ _ ⟨⟨rfl,rfl⟩,z,rfl,hz⟩
 refine aST ?_
 refine go 2 [0,0] ?_
 refine ae ?_
 refine bB [] [] rfl Tryz.results228 rfl ?_ (.inr rfl)
 exact ⟨⟨rfl,rfl⟩,_,rfl,fun hb=>hz.1 (by simpa using hb),fun hb=>hz.2 (by simpa using hb)⟩

theorem kA(b:Nat)(F:FuncId)(caps:List Value)(p:Per)(a:cO)(Φ:Prop)(hF:aW Tryz.prog F=true)(h:Con Tryz.prog F (a.val::caps) [p] [] (YB Φ)):Con Tryz.prog 229 [a.val,.pointer (some ⟨b,0,none⟩)] [At b 0 [.v (.func (.func F) #[] caps.toArray)],p] []
   (YN Value.bool (fun b=>b=false→Φ)):=by
 refine Con.enter Tryz.func229 rfl (by simp [Tryz.ntmps229]) ?_
 show awp _ _ _ _ ⟨[(0,true,_),(1,true,_)],_,_⟩
 refine aSR ?_
 refine aN (q:=true) rfl (aT rfl rfl rfl (fun b0_0 => ?_))
 refine aHN ?_
 refine go 4 [0] ?_
 refine aU rfl (cg (o:=0) tk261 rfl (.of (ax 0 rfl)) rfl) ?_
 refine go 0 [7680] ?_
 refine aq [0] (false) hF true rfl rfl (fun _=>rfl) (fun hc=>rfl) (fun hc=>h) (fun c hc => ?_)
 refine go 2 [0,0] ?_
 refine ae ?_
 refine bB [] [] rfl Tryz.results229 rfl ?_ (.inr rfl)
 exact ⟨⟨rfl,rfl⟩,_,rfl,fun hb=>hc rfl (by simpa using hb)⟩
theorem lQ(l:Sl cO)(F:FuncId)(caps:List Value)(p:Per)(Φ:cO→Prop)(hF:aW Tryz.prog F=true)(h:∀ a∈l.l,Con Tryz.prog F (a.val::caps) [p] [] (YB (Φ a))):Con Tryz.prog 185 [l.val,.func (.func F) #[] caps.toArray] [ShF cO.row l,p] []
   (YB (∀ a∈l.l,Φ a)):=by
 refine Con.enter Tryz.func185 rfl (by simp [Tryz.ntmps185]) ?_
 show awp _ _ _ _ ⟨[(0,true,_),(1,true,_)],_,_⟩
 refine aSR ?_
 refine aN (q:=true) rfl (aT rfl rfl rfl (fun b0_0 => ?_))
 refine aHN ?_
 refine go 3 [0] ?_
 refine aY 0 rfl rfl ?_
 show awp _ _ _ _ ⟨_,At _ 0 _::_,_⟩
 refine az (aM rfl (aU rfl (cx (l:=[.tmp 3]) rfl) ?_))
 refine aq (caps:=[]) [1,2,0] (false) (by kernel_rfl) true rfl rfl (fun _=>rfl) (fun hc=>rfl) (fun hc=>by rw [List.append_nil];exact mC l 229 [.pointer (some ⟨b0_0,0,none⟩)] (At b0_0 0 [.v (.func (.func F) #[] caps.toArray)]) p (fun a b=>b=false→Φ a) (by kernel_rfl) (fun a ha=>kA b0_0 F caps p a (Φ a) hF (h a ha))) (fun c hc => ?_)
 refine go 2 [0,0] ?_
 refine ae ?_
 refine bB [] [] rfl Tryz.results185 rfl ?_ (.inr rfl)
 exact ⟨⟨rfl,rfl⟩,_,rfl,fun hb a ha=>(hc rfl).2 (by simpa using hb) a ha rfl⟩
theorem lV(l:Sl cO)(F:FuncId)(caps:List Value)(p:Per)(hF:aW Tryz.prog F=true)(h:∀ a∈l.l,∀ b∈l.l,Con Tryz.prog F (a.val::b.val::caps) [p] [] (YB True)):Con Tryz.prog 187 [l.val,.func (.func F) #[] caps.toArray] [ShF cO.row l,p] [] (YB True):=by
 refine Con.enter Tryz.func187 rfl (by simp [Tryz.ntmps187]) ?_
 show awp _ _ _ _ ⟨[(0,true,_),(1,true,_)],_,_⟩
 refine aP (.of (ax 0 rfl)) (fun hlen => ?_)
 refine go 3 [0,0] ?_
 refine aF [0,1,5] [1,0] [] (fun (k:Nat) s=>k≤l.l.length∧s=⟨[(0,true,l.val),(1,true,.func (.func F) #[] caps.toArray),(5,true,.int .i64 ((k+1:Nat):Int))],[ShF cO.row l,p],[]⟩) (fun k=>l.l.length-k) rfl (⟨0,Nat.zero_le _,rfl⟩) ?_
 rintro k s ⟨hk,rfl⟩
 refine go 2 [0,0,260,0] ?_
 refine aa _ rfl (fun h1 => ?_) (fun h1 => ?_)
 ·skip
  have hk':k+1<l.l.length:=by simp at h1;omega
  have ha:=bA (l:=l.l) (i:=k) (by omega)
  have hb:=bA (l:=l.l) (i:=k+1) hk'
  refine aE (ao (aD (aJ (aD ?_))))
  refine eZ [] (by kernel_rfl) ?_
  show aB _ _ _ _ _ 12 #[false,false,false,false,false,false,false,false,false,false,false,false] _
  refine go 0 [0,0,0,0] ?_
  refine eH 4 rfl (by kernel_rfl) true rfl rfl (fun _=>ai Tryz.underlying142 tk260 rfl ((.of (ax 0 rfl))) rfl (ak ha) (by omega) rfl) (fun h=>absurd h (by decide)) (fun ⟨b4_4,o4_4⟩ => ?_)
  refine go 0 [15364,0,0] ?_
  refine eH 8 rfl (by kernel_rfl) true rfl rfl (fun _=>ai Tryz.underlying142 tk260 rfl ((.of (ax 1 rfl))) rfl (ak hb) rfl rfl) (fun h=>absurd h (by decide)) (fun ⟨b4_8,o4_8⟩ => ?_)
  refine go 0 [15364] ?_
  refine db 10 rfl (by kernel_rfl) [0] (false) hF true rfl rfl (fun _=>rfl) (fun hc=>rfl) (fun hc=>h _ (List.mem_of_getElem? ha) _ (List.mem_of_getElem? hb)) (fun c hc => ?_)
  refine go 2 [0] ?_
  refine aa _ rfl (fun h2 => ?_) (fun h2 => ?_)
  ·skip
   refine go 2 [0] ?_
   refine ae (aO (an (an (aO (an ?_)))))
   refine bB [] [] rfl Tryz.results187 rfl ?_ (.inr rfl)
   exact ⟨⟨rfl,rfl⟩,_,rfl,fun _=>trivial⟩
  ·skip
   refine go 1 [0,0,0] ?_
   refine ao ?_
   refine ⟨[0,1,5],[1,0],[],rfl,?_⟩
   exact ⟨k+1,⟨by omega,rfl⟩,by omega⟩
 ·skip
  refine go 2 [0] ?_
  refine ae ?_
  refine bB [] [] rfl Tryz.results187 rfl ?_ (.inr rfl)
  exact ⟨⟨rfl,rfl⟩,_,rfl,fun _=>trivial⟩
theorem tk264:tyk Tryz.prog 264=some (false,1):=by kernel_rfl
theorem kF(l:Sl bo)(F:FuncId)(caps:List Value)(p q:Per)(Ψ:bo→Bool→Prop)(hF:aW Tryz.prog F=true)(h:∀ a∈l.l,Con Tryz.prog F (a.val::caps) [p,q] [] (YN Value.bool (Ψ a))):Con Tryz.prog 253 [l.val,.func (.func F) #[] caps.toArray] [ShF bo.row l,p,q] []
   (YN (fun z:Int=>.int .i64 z) (fun z=>(z≥0→∃ a∈l.l,Ψ a true)∧(¬ z≥0→∀ a∈l.l,Ψ a false))):=by
 refine Con.enter Tryz.func253 rfl (by simp [Tryz.ntmps253]) ?_
 show awp _ _ _ _ ⟨[(0,true,_),(1,true,_)],_,_⟩
 refine aP (.of (ax 0 rfl)) (fun hlen => ?_)
 refine go 3 [0,0,146,0] ?_
 refine aF [0,1,7,8] [2,1,0] [] (fun (k:Nat) s=>(k≤l.l.length∧∀ a∈l.l.take k,Ψ a false)∧s=⟨[(0,true,l.val),(1,true,.func (.func F) #[] caps.toArray),(7,true,.int .i64 l.l.length),(8,true,.int .i64 k)],[ShF bo.row l,p,q],[]⟩) (fun k=>l.l.length-k) rfl (⟨0,⟨Nat.zero_le _,fun a ha=>by cases ha⟩,rfl⟩) ?_
 rintro k s ⟨⟨hk,hno⟩,rfl⟩
 refine go 3 [0] ?_
 refine aa _ rfl (fun h1 => ?_) (fun h1 => ?_)
 ·skip
  have hk':k<l.l.length:=by simpa using h1
  obtain ⟨a,ha⟩:∃ a,l.l[k]? = some a:=⟨l.l[k]'hk',by simp⟩
  refine go 0 [0,0,0,0,0] ?_
  refine bK true rfl rfl (fun _=>ai Tryz.underlying124 tk146 rfl ((.of (ax 0 rfl))) rfl (ak ha) rfl rfl) (fun h=>absurd h (by decide)) (fun ⟨b4_3,o4_3⟩ => ?_)
  refine go 0 [10754] ?_
  refine aq [1,0] (false) hF true rfl rfl (fun _=>rfl) (fun hc=>rfl) (fun hc=>h a (List.mem_of_getElem? ha)) (fun c hc => ?_)
  refine aNn ?_
  refine aa _ rfl (fun h2 => ?_) (fun h2 => ?_)
  ·skip
   refine go 2 [0,0] ?_
   refine ae (aO (an (an (aO (an ?_)))))
   refine bB [] [] rfl Tryz.results253 rfl ?_ (.inr rfl)
   exact ⟨⟨rfl,rfl⟩,_,rfl,fun _=>⟨a,List.mem_of_getElem? ha,h2 ▸ hc rfl⟩,fun hz=>(hz (Int.natCast_nonneg k)).elim⟩
  ·skip
   refine go 1 [0,0] ?_
   refine ao ?_
   refine ⟨[0,1,7,8],[2,1,0],[],rfl,?_⟩
   refine ⟨k+1,⟨⟨by omega,?_⟩,rfl⟩,by omega⟩
   intro y hy
   rw [List.take_add_one,ha,List.mem_append] at hy
   rcases hy with hy | hy
   · exact hno y hy
   · simp at hy;subst hy;exact h2 ▸ hc rfl
 ·skip
  refine go 2 [0] ?_
  refine ae ?_
  refine bB [] [] rfl Tryz.results253 rfl ?_ (.inr rfl)
  refine ⟨⟨rfl,rfl⟩,_,rfl,fun hz=>absurd hz (by decide),fun _ => ?_⟩
  rw [List.take_of_length_le (by simpa using h1)] at hno;exact hno
theorem kr(l:Sl bo)(F:FuncId)(caps:List Value)(p q:Per)(Ψ:bo→Bool→Prop)(hF:aW Tryz.prog F=true)(h:∀ a∈l.l,Con Tryz.prog F (a.val::caps) [p,q] [] (YN Value.bool (Ψ a))):Con Tryz.prog 230 [l.val,.func (.func F) #[] caps.toArray] [ShF bo.row l,p,q] []
   (YN Value.bool (fun b=>(b=true→∃ a∈l.l,Ψ a true)∧(b=false→∀ a∈l.l,Ψ a false))):=by
 refine Con.enter Tryz.func230 rfl (by simp [Tryz.ntmps230]) ?_
 show awp _ _ _ _ ⟨[(0,true,_),(1,true,_)],_,_⟩
 refine go 0 [0,0,0] ?_
 refine aN (q:=true) rfl (eQ [2,1,0] [] (by kernel_rfl) rfl rfl rfl rfl (kF l F caps p q Ψ hF h) ?_)
 rintro _ _ _ ⟨⟨rfl,rfl⟩,z,rfl,hz⟩
 refine aST ?_
 refine go 2 [0,0] ?_
 refine ae ?_
 refine bB [] [] rfl Tryz.results230 rfl ?_ (.inr rfl)
 exact ⟨⟨rfl,rfl⟩,_,rfl,fun hb=>hz.1 (by simpa using hb),fun hb=>hz.2 (by simpa using hb)⟩

theorem jh(b:Nat)(F:FuncId)(caps:List Value)(p:Per)(a:bo)(Φ:Prop)(hF:aW Tryz.prog F=true)(h:Con Tryz.prog F (a.val::caps) [p] [] (YB Φ)):Con Tryz.prog 231 [a.val,.pointer (some ⟨b,0,none⟩)] [At b 0 [.v (.func (.func F) #[] caps.toArray)],p] []
   (YN Value.bool (fun b=>b=false→Φ)):=by
 refine Con.enter Tryz.func231 rfl (by simp [Tryz.ntmps231]) ?_
 show awp _ _ _ _ ⟨[(0,true,_),(1,true,_)],_,_⟩
 refine aSR ?_
 refine aN (q:=true) rfl (aT rfl rfl rfl (fun b0_0 => ?_))
 refine aHN ?_
 refine go 4 [0] ?_
 refine aU rfl (cg (o:=0) tk264 rfl (.of (ax 0 rfl)) rfl) ?_
 refine go 0 [10752] ?_
 refine aq [0] (false) hF true rfl rfl (fun _=>rfl) (fun hc=>rfl) (fun hc=>h) (fun c hc => ?_)
 refine go 2 [0,0] ?_
 refine ae ?_
 refine bB [] [] rfl Tryz.results231 rfl ?_ (.inr rfl)
 exact ⟨⟨rfl,rfl⟩,_,rfl,fun hb=>hc rfl (by simpa using hb)⟩
theorem jN(l:Sl bo)(F:FuncId)(caps:List Value)(p:Per)(Φ:bo→Prop)(hF:aW Tryz.prog F=true)(h:∀ a∈l.l,Con Tryz.prog F (a.val::caps) [p] [] (YB (Φ a))):Con Tryz.prog 190 [l.val,.func (.func F) #[] caps.toArray] [ShF bo.row l,p] []
   (YB (∀ a∈l.l,Φ a)):=by
 refine Con.enter Tryz.func190 rfl (by simp [Tryz.ntmps190]) ?_
 show awp _ _ _ _ ⟨[(0,true,_),(1,true,_)],_,_⟩
 refine aSR ?_
 refine aN (q:=true) rfl (aT rfl rfl rfl (fun b0_0 => ?_))
 refine aHN ?_
 refine go 3 [0] ?_
 refine aY 0 rfl rfl ?_
 show awp _ _ _ _ ⟨_,At _ 0 _::_,_⟩
 refine az (aM rfl (aU rfl (cx (l:=[.tmp 3]) rfl) ?_))
 refine aq (caps:=[]) [1,2,0] (false) (by kernel_rfl) true rfl rfl (fun _=>rfl) (fun hc=>rfl) (fun hc=>by rw [List.append_nil];exact kr l 231 [.pointer (some ⟨b0_0,0,none⟩)] (At b0_0 0 [.v (.func (.func F) #[] caps.toArray)]) p (fun a b=>b=false→Φ a) (by kernel_rfl) (fun a ha=>jh b0_0 F caps p a (Φ a) hF (h a ha))) (fun c hc => ?_)
 refine go 2 [0,0] ?_
 refine ae ?_
 refine bB [] [] rfl Tryz.results190 rfl ?_ (.inr rfl)
 exact ⟨⟨rfl,rfl⟩,_,rfl,fun hb a ha=>(hc rfl).2 (by simpa using hb) a ha rfl⟩
theorem jQ(l:Sl bo)(F:FuncId)(caps:List Value)(p:Per)(hF:aW Tryz.prog F=true)(h:∀ a∈l.l,∀ b∈l.l,Con Tryz.prog F (a.val::b.val::caps) [p] [] (YB True)):Con Tryz.prog 191 [l.val,.func (.func F) #[] caps.toArray] [ShF bo.row l,p] [] (YB True):=by
 refine Con.enter Tryz.func191 rfl (by simp [Tryz.ntmps191]) ?_
 show awp _ _ _ _ ⟨[(0,true,_),(1,true,_)],_,_⟩
 refine aP (.of (ax 0 rfl)) (fun hlen => ?_)
 refine go 3 [0,0] ?_
 refine aF [0,1,5] [1,0] [] (fun (k:Nat) s=>k≤l.l.length∧s=⟨[(0,true,l.val),(1,true,.func (.func F) #[] caps.toArray),(5,true,.int .i64 ((k+1:Nat):Int))],[ShF bo.row l,p],[]⟩) (fun k=>l.l.length-k) rfl (⟨0,Nat.zero_le _,rfl⟩) ?_
 rintro k s ⟨hk,rfl⟩
 refine go 2 [0,0,146,0] ?_
 refine aa _ rfl (fun h1 => ?_) (fun h1 => ?_)
 ·skip
  have hk':k+1<l.l.length:=by simp at h1;omega
  have ha:=bA (l:=l.l) (i:=k) (by omega)
  have hb:=bA (l:=l.l) (i:=k+1) hk'
  refine aE (ao (aD (aJ (aD ?_))))
  refine eZ [] (by kernel_rfl) ?_
  show aB _ _ _ _ _ 12 #[false,false,false,false,false,false,false,false,false,false,false,false] _
  refine go 0 [0,0,0,0] ?_
  refine eH 4 rfl (by kernel_rfl) true rfl rfl (fun _=>ai Tryz.underlying124 tk146 rfl ((.of (ax 0 rfl))) rfl (ak ha) (by omega) rfl) (fun h=>absurd h (by decide)) (fun ⟨b4_4,o4_4⟩ => ?_)
  refine go 0 [21508,0,0] ?_
  refine eH 8 rfl (by kernel_rfl) true rfl rfl (fun _=>ai Tryz.underlying124 tk146 rfl ((.of (ax 1 rfl))) rfl (ak hb) rfl rfl) (fun h=>absurd h (by decide)) (fun ⟨b4_8,o4_8⟩ => ?_)
  refine go 0 [21508] ?_
  refine db 10 rfl (by kernel_rfl) [0] (false) hF true rfl rfl (fun _=>rfl) (fun hc=>rfl) (fun hc=>h _ (List.mem_of_getElem? ha) _ (List.mem_of_getElem? hb)) (fun c hc => ?_)
  refine go 2 [0] ?_
  refine aa _ rfl (fun h2 => ?_) (fun h2 => ?_)
  ·skip
   refine go 2 [0] ?_
   refine ae (aO (an (an (aO (an ?_)))))
   refine bB [] [] rfl Tryz.results191 rfl ?_ (.inr rfl)
   exact ⟨⟨rfl,rfl⟩,_,rfl,fun _=>trivial⟩
  ·skip
   refine go 1 [0,0,0] ?_
   refine ao ?_
   refine ⟨[0,1,5],[1,0],[],rfl,?_⟩
   exact ⟨k+1,⟨by omega,rfl⟩,by omega⟩
 ·skip
  refine go 2 [0] ?_
  refine ae ?_
  refine bB [] [] rfl Tryz.results191 rfl ?_ (.inr rfl)
  exact ⟨⟨rfl,rfl⟩,_,rfl,fun _=>trivial⟩
end Go.Proofs.YtgkbbdgklpabpaaGreatDoor

