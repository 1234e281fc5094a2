/- Parts of the proof, in build order. No condition. -/
import Derived.Test.YtgkbbdgklpabpaaGreatDoorSc07
import Derived.Test.YtgkbbdgklpabpaaGreatDoorSc08
import Derived.Test.YtgkbbdgklpabpaaGreatDoorSc05
import Derived.Test.YtgkbbdgklpabpaaGreatDoorSc04
import Derived.Sort.Walk0
import Derived.Maps.Range
import Derived.Test.YtgkbbdgklpabpaaGreatDoorSc06
set_option linter.unusedSimpArgs false
set_option linter.unusedVariables false
set_option maxHeartbeats 20000000
set_option maxRecDepth 20000
namespace Go.Proofs.YtgkbbdgklpabpaaGreatDoor
open Go.RowKit Go.Lp Go.Sy
open Go.Proofs.Tryz
attribute [local irreducible] aL aB awp aC fwp Quiet
theorem kyS:fh Tryz.prog 9 gR:=zh Tryz.underlying9
theorem kyI:fh Tryz.prog 3 eI:=abH Tryz.underlying3
theorem kyP:fh Tryz.prog 114 cH:=pR Tryz.underlying114 (by kernel_rfl) (by kernel_rfl) Tryz.underlying9
theorem kP(l:Sl bw)(F:FuncId)(caps:List Value)(p:Per)(hF:aX Tryz.prog F=true)(h:∀ a∈l.l,Con Tryz.prog F (a.val::caps) [p] [] (YN gR fun _=>True)):Con Tryz.prog 138 [l.val,.func (.func F) #[] caps.toArray] [ShF bw.row l,p] []
   (YB True):=by
 refine Con.enter Tryz.func138 rfl (by simp [Tryz.ntmps138]) ?_
 show awp _ _ _ _ ⟨[(0,true,_),(1,true,_)],_,_⟩
 refine aO (.of (ax 0 rfl)) (fun hlen => ?_)
 refine go 4 [0] ?_
 refine aT (q:=true) rfl (dB (gR) (vBo) rfl (fun b1_0 => ?_))
 refine aHN ?_
 refine go 3 [0,0,174,0] ?_
 refine aF [0,1,5,9,10,11] [1,0] [0] (fun (x:Nat × (ByteArray→Option Bool)) s=>x.1≤l.l.length∧s=⟨[(0,true,l.val),(1,true,.func (.func F) #[] caps.toArray),(5,true,.map (some b1_0)),(9,true,l.val),(10,true,.int .i64 l.l.length),(11,true,.int .i64 x.1)],[ShF bw.row l,p],[eg b1_0 gR vBo x.2]⟩) (fun x=>l.l.length-x.1) rfl (⟨(0,fun _=>none),Nat.zero_le _,rfl⟩) ?_
 rintro ⟨k,m⟩ s ⟨hk,rfl⟩
 dsimp only at hk
 refine go 3 [0] ?_
 refine aa _ rfl (fun h1 => ?_) (fun h1 => ?_)
 ·skip
  have hk':k<l.l.length:=by simpa using h1
  obtain ⟨a,ha⟩:∃ a,l.l[k]? = some a:=⟨l.l[k]'hk',by simp⟩
  refine aD (an (aq (aH (aSR ?_))))
  refine bI true rfl rfl (fun _=>ai Tryz.underlying118 tk174 rfl ((.of (ax 0 rfl))) rfl (ak ha) rfl rfl) (fun h=>absurd h (by decide)) (fun ⟨b4_0,o4_0⟩ => ?_)
  refine go 0 [16898] ?_
  refine aT (q:=true) rfl (aW (zs:=[.string .empty,.int .i64 0,.int .i64 0,.int .i64 0,.string .empty,.bool false]) (by kernel_rfl) rfl (fun b4_2 => ?_))
  refine aHN ?_
  refine go 0 [16899,0,0,16899] ?_
  refine aE [0] (default) hF true rfl rfl (fun _=>rfl) (fun hc=>rfl) (fun hc=>h a (List.mem_of_getElem? ha)) (fun k1 hk1 => ?_)
  refine aU rfl (gm (k:=k1) (v0:=false) 0 Tryz.underlying166 (kyS) (by kernel_rfl) rfl rfl rfl) ?_
  refine aNn ?_
  refine aa _ rfl (fun h2 => ?_) (fun h2 => ?_)
  ·skip
   refine go 2 [0] ?_
   refine ae (aj (aK (aj (aj (aK (aj ?_))))))
   refine bB [] [] rfl Tryz.results138 rfl ?_ (.inr rfl)
   exact ⟨⟨rfl,rfl⟩,_,rfl,fun _=>trivial⟩
  ·skip
   refine go 0 [0,0,16899] ?_
   refine aE [0] (default) hF true rfl rfl (fun _=>rfl) (fun hc=>rfl) (fun hc=>h a (List.mem_of_getElem? ha)) (fun k2 hk2 => ?_)
   refine aT rfl (cD (k:=k2) (v:=true) 0 Tryz.underlying166 (kyS) rfl rfl rfl rfl ?_)
   refine aHK ?_
   refine go 1 [0,0] ?_
   refine an ?_
   refine ⟨[0,1,5,9,10,11],[1,0],[0],rfl,?_⟩
   exact ⟨(k+1,fJ m k2 true),⟨by dsimp only;omega,rfl⟩,by dsimp only;omega⟩
 ·skip
  refine go 2 [0] ?_
  refine ae ?_
  refine bB [] [] rfl Tryz.results138 rfl ?_ (.inr rfl)
  exact ⟨⟨rfl,rfl⟩,_,rfl,fun _=>trivial⟩
theorem l5(l:Sl bJ)(F:FuncId)(caps:List Value)(p:Per)(hF:aX Tryz.prog F=true)(h:∀ a∈l.l,Con Tryz.prog F (a.val::caps) [p] [] (YN cH fun _=>True)):Con Tryz.prog 144 [l.val,.func (.func F) #[] caps.toArray] [ShF bJ.row l,p] []
   (YB True):=by
 refine Con.enter Tryz.func144 rfl (by simp [Tryz.ntmps144]) ?_
 show awp _ _ _ _ ⟨[(0,true,_),(1,true,_)],_,_⟩
 refine aO (.of (ax 0 rfl)) (fun hlen => ?_)
 refine go 4 [0] ?_
 refine aT (q:=true) rfl (dB (cH) (vBo) rfl (fun b1_0 => ?_))
 refine aHN ?_
 refine go 3 [0,0,176,0] ?_
 refine aF [0,1,5,9,10,11] [1,0] [0] (fun (x:Nat × (ByteArray × ByteArray→Option Bool)) s=>x.1≤l.l.length∧s=⟨[(0,true,l.val),(1,true,.func (.func F) #[] caps.toArray),(5,true,.map (some b1_0)),(9,true,l.val),(10,true,.int .i64 l.l.length),(11,true,.int .i64 x.1)],[ShF bJ.row l,p],[eg b1_0 cH vBo x.2]⟩) (fun x=>l.l.length-x.1) rfl (⟨(0,fun _=>none),Nat.zero_le _,rfl⟩) ?_
 rintro ⟨k,m⟩ s ⟨hk,rfl⟩
 dsimp only at hk
 refine go 3 [0] ?_
 refine aa _ rfl (fun h1 => ?_) (fun h1 => ?_)
 ·skip
  have hk':k<l.l.length:=by simpa using h1
  obtain ⟨a,ha⟩:∃ a,l.l[k]? = some a:=⟨l.l[k]'hk',by simp⟩
  refine aD (an (aq (aH (aSR ?_))))
  refine bI true rfl rfl (fun _=>ai Tryz.underlying119 tk176 rfl ((.of (ax 0 rfl))) rfl (ak ha) rfl rfl) (fun h=>absurd h (by decide)) (fun ⟨b4_0,o4_0⟩ => ?_)
  refine go 0 [29186] ?_
  refine aT (q:=true) rfl (aW (zs:=[.string .empty,.string .empty,.bool false,.int .i64 0,.int .i64 0,.int .i64 0,.int .i64 0,.int .i64 0,.int .i64 0,.int .i64 0]) (by kernel_rfl) rfl (fun b4_2 => ?_))
  refine aHN ?_
  refine go 0 [29187,0,0,29187] ?_
  refine aE [0] (default) hF true rfl rfl (fun _=>rfl) (fun hc=>rfl) (fun hc=>h a (List.mem_of_getElem? ha)) (fun k1 hk1 => ?_)
  refine aU rfl (gm (k:=k1) (v0:=false) 0 Tryz.underlying284 (kyP) (by kernel_rfl) rfl rfl rfl) ?_
  refine aNn ?_
  refine aa _ rfl (fun h2 => ?_) (fun h2 => ?_)
  ·skip
   refine go 2 [0] ?_
   refine ae (aj (aK (aj (aj (aK (aj ?_))))))
   refine bB [] [] rfl Tryz.results144 rfl ?_ (.inr rfl)
   exact ⟨⟨rfl,rfl⟩,_,rfl,fun _=>trivial⟩
  ·skip
   refine go 0 [0,0,29187] ?_
   refine aE [0] (default) hF true rfl rfl (fun _=>rfl) (fun hc=>rfl) (fun hc=>h a (List.mem_of_getElem? ha)) (fun k2 hk2 => ?_)
   refine aT rfl (cD (k:=k2) (v:=true) 0 Tryz.underlying284 (kyP) rfl rfl rfl rfl ?_)
   refine aHK ?_
   refine go 1 [0,0] ?_
   refine an ?_
   refine ⟨[0,1,5,9,10,11],[1,0],[0],rfl,?_⟩
   exact ⟨(k+1,fJ m k2 true),⟨by dsimp only;omega,rfl⟩,by dsimp only;omega⟩
 ·skip
  refine go 2 [0] ?_
  refine ae ?_
  refine bB [] [] rfl Tryz.results144 rfl ?_ (.inr rfl)
  exact ⟨⟨rfl,rfl⟩,_,rfl,fun _=>trivial⟩
theorem mV(l:Sl dm)(F:FuncId)(caps:List Value)(p:Per)(hF:aX Tryz.prog F=true)(h:∀ a∈l.l,Con Tryz.prog F (a.val::caps) [p] [] (YN gR fun _=>True)):Con Tryz.prog 157 [l.val,.func (.func F) #[] caps.toArray] [ShF dm.row l,p] []
   (YB True):=by
 refine Con.enter Tryz.func157 rfl (by simp [Tryz.ntmps157]) ?_
 show awp _ _ _ _ ⟨[(0,true,_),(1,true,_)],_,_⟩
 refine aO (.of (ax 0 rfl)) (fun hlen => ?_)
 refine go 4 [0] ?_
 refine aT (q:=true) rfl (dB (gR) (vBo) rfl (fun b1_0 => ?_))
 refine aHN ?_
 refine go 3 [0,0,225,0] ?_
 refine aF [0,1,5,9,10,11] [1,0] [0] (fun (x:Nat × (ByteArray→Option Bool)) s=>x.1≤l.l.length∧s=⟨[(0,true,l.val),(1,true,.func (.func F) #[] caps.toArray),(5,true,.map (some b1_0)),(9,true,l.val),(10,true,.int .i64 l.l.length),(11,true,.int .i64 x.1)],[ShF dm.row l,p],[eg b1_0 gR vBo x.2]⟩) (fun x=>l.l.length-x.1) rfl (⟨(0,fun _=>none),Nat.zero_le _,rfl⟩) ?_
 rintro ⟨k,m⟩ s ⟨hk,rfl⟩
 dsimp only at hk
 refine go 3 [0] ?_
 refine aa _ rfl (fun h1 => ?_) (fun h1 => ?_)
 ·skip
  have hk':k<l.l.length:=by simpa using h1
  obtain ⟨a,ha⟩:∃ a,l.l[k]? = some a:=⟨l.l[k]'hk',by simp⟩
  refine aD (an (aq (aH (aSR ?_))))
  refine bI true rfl rfl (fun _=>ai Tryz.underlying121 tk225 rfl ((.of (ax 0 rfl))) rfl (ak ha) rfl rfl) (fun h=>absurd h (by decide)) (fun ⟨b4_0,o4_0⟩ => ?_)
  refine go 0 [4610] ?_
  refine aT (q:=true) rfl (aW (zs:=[.string .empty,.slice none 0 0]) (by kernel_rfl) rfl (fun b4_2 => ?_))
  refine aHN ?_
  refine go 0 [4611,0,0,4611] ?_
  refine aE [0] (default) hF true rfl rfl (fun _=>rfl) (fun hc=>rfl) (fun hc=>h a (List.mem_of_getElem? ha)) (fun k1 hk1 => ?_)
  refine aU rfl (gm (k:=k1) (v0:=false) 0 Tryz.underlying166 (kyS) (by kernel_rfl) rfl rfl rfl) ?_
  refine aNn ?_
  refine aa _ rfl (fun h2 => ?_) (fun h2 => ?_)
  ·skip
   refine go 2 [0] ?_
   refine ae (aj (aK (aj (aj (aK (aj ?_))))))
   refine bB [] [] rfl Tryz.results157 rfl ?_ (.inr rfl)
   exact ⟨⟨rfl,rfl⟩,_,rfl,fun _=>trivial⟩
  ·skip
   refine go 0 [0,0,4611] ?_
   refine aE [0] (default) hF true rfl rfl (fun _=>rfl) (fun hc=>rfl) (fun hc=>h a (List.mem_of_getElem? ha)) (fun k2 hk2 => ?_)
   refine aT rfl (cD (k:=k2) (v:=true) 0 Tryz.underlying166 (kyS) rfl rfl rfl rfl ?_)
   refine aHK ?_
   refine go 1 [0,0] ?_
   refine an ?_
   refine ⟨[0,1,5,9,10,11],[1,0],[0],rfl,?_⟩
   exact ⟨(k+1,fJ m k2 true),⟨by dsimp only;omega,rfl⟩,by dsimp only;omega⟩
 ·skip
  refine go 2 [0] ?_
  refine ae ?_
  refine bB [] [] rfl Tryz.results157 rfl ?_ (.inr rfl)
  exact ⟨⟨rfl,rfl⟩,_,rfl,fun _=>trivial⟩
theorem qC(l:Sl Int)(F:FuncId)(caps:List Value)(p:Per)(hF:aX Tryz.prog F=true)(h:∀ a∈l.l,Con Tryz.prog F ((eI a)::caps) [p] [] (YN eI fun _=>True)):Con Tryz.prog 159 [l.val,.func (.func F) #[] caps.toArray] [ShF (fun z:Int=>[D.v (eI z)]) l,p] []
   (YB True):=by
 refine Con.enter Tryz.func159 rfl (by simp [Tryz.ntmps159]) ?_
 show awp _ _ _ _ ⟨[(0,true,_),(1,true,_)],_,_⟩
 refine aO (.of (ax 0 rfl)) (fun hlen => ?_)
 refine go 4 [0] ?_
 refine aT (q:=true) rfl (dB (eI) (vBo) rfl (fun b1_0 => ?_))
 refine aHN ?_
 refine go 3 [0,0,3,0] ?_
 refine aF [0,1,5,9,10,11] [1,0] [0] (fun (x:Nat × (Int→Option Bool)) s=>x.1≤l.l.length∧s=⟨[(0,true,l.val),(1,true,.func (.func F) #[] caps.toArray),(5,true,.map (some b1_0)),(9,true,l.val),(10,true,.int .i64 l.l.length),(11,true,.int .i64 x.1)],[ShF (fun z:Int=>[D.v (eI z)]) l,p],[eg b1_0 eI vBo x.2]⟩) (fun x=>l.l.length-x.1) rfl (⟨(0,fun _=>none),Nat.zero_le _,rfl⟩) ?_
 rintro ⟨k,m⟩ s ⟨hk,rfl⟩
 dsimp only at hk
 refine go 3 [0] ?_
 refine aa _ rfl (fun h1 => ?_) (fun h1 => ?_)
 ·skip
  have hk':k<l.l.length:=by simpa using h1
  obtain ⟨a,ha⟩:∃ a,l.l[k]? = some a:=⟨l.l[k]'hk',by simp⟩
  refine aD (an (aq (aH (aSR ?_))))
  refine bI true rfl rfl (fun _=>ai Tryz.underlying33 tk3 rfl ((.of (ax 0 rfl))) rfl (ak ha) rfl rfl) (fun h=>absurd h (by decide)) (fun ⟨b4_0,o4_0⟩ => ?_)
  refine go 0 [2,0,0,0,0] ?_
  refine aE [0] (default) hF true rfl rfl (fun _=>rfl) (fun hc=>rfl) (fun hc=>h a (List.mem_of_getElem? ha)) (fun k1 hk1 => ?_)
  refine aU rfl (gm (k:=k1) (v0:=false) 0 Tryz.underlying63 (kyI) (by kernel_rfl) rfl rfl rfl) ?_
  refine aNn ?_
  refine aa _ rfl (fun h2 => ?_) (fun h2 => ?_)
  ·skip
   refine go 2 [0] ?_
   refine ae (aj (aK (aj (aj (aK (aj ?_))))))
   refine bB [] [] rfl Tryz.results159 rfl ?_ (.inr rfl)
   exact ⟨⟨rfl,rfl⟩,_,rfl,fun _=>trivial⟩
  ·skip
   refine go 0 [0,0,0] ?_
   refine aE [0] (default) hF true rfl rfl (fun _=>rfl) (fun hc=>rfl) (fun hc=>h a (List.mem_of_getElem? ha)) (fun k2 hk2 => ?_)
   refine aT rfl (cD (k:=k2) (v:=true) 0 Tryz.underlying63 (kyI) rfl rfl rfl rfl ?_)
   refine aHK ?_
   refine go 1 [0,0] ?_
   refine an ?_
   refine ⟨[0,1,5,9,10,11],[1,0],[0],rfl,?_⟩
   exact ⟨(k+1,fJ m k2 true),⟨by dsimp only;omega,rfl⟩,by dsimp only;omega⟩
 ·skip
  refine go 2 [0] ?_
  refine ae ?_
  refine bB [] [] rfl Tryz.results159 rfl ?_ (.inr rfl)
  exact ⟨⟨rfl,rfl⟩,_,rfl,fun _=>trivial⟩
end Go.Proofs.YtgkbbdgklpabpaaGreatDoor

namespace Go.Proofs.YtgkbbdgklpabpaaGreatDoor
open Go.RowKit Go.Lp Go.Sy
def dN(k:Int):Int:=if k=2 then 4 else if k=3 then 2 else 8
open Go.Proofs.Tryz
attribute [local irreducible] aL aB awp aC fwp Quiet
theorem bZ(n u:Int):Con Tryz.prog 135 [.int .i64 n,.int .i64 u] [] [] (fun r _ _=>r=.bool (decide (n≥0) && decide (n<u))):=by
 refine Con.enter Tryz.func135 rfl (by simp [Tryz.ntmps135]) ?_
 show awp _ _ _ _ ⟨[(0,true,_),(1,true,_)],_,_⟩
 refine go 2 [0,0,0,0,0,0,0,0,0] ?_
 refine ae ?_
 refine bB [] [] rfl Tryz.results135 rfl ?_ (.inr rfl)
 rfl
theorem kZ(n:Int):Con Tryz.prog 136 [.int .i64 n] [] [] (YB (1≤n∧n≤256)):=by
 refine Con.enter Tryz.func136 rfl (by simp [Tryz.ntmps136]) ?_
 show awp _ _ _ _ ⟨[(0,true,_)],_,_⟩
 refine go 0 [0,0,0,0,0,0,0,0,0,0,0] ?_
 refine aG rfl rfl (fun hc=>abM (ah rfl hc) (ah rfl hc)) ?_
 refine go 2 [0,0,0] ?_
 refine ae ?_
 refine bB [] [] rfl Tryz.results136 rfl ?_ (.inr rfl)
 refine ⟨⟨rfl,rfl⟩,_,rfl,fun hb => ?_⟩
 simp only [Bool.and_eq_true,decide_eq_true_eq] at hb;exact hb.1
theorem eQ(s:ByteArray)(hs:s.size≤maxLen):Con Tryz.prog 111 [.string s] [] [] (YB True):=by
 have hs':s.size≤9223372036854775807:=hs
 refine Con.enter Tryz.func111 rfl (by simp [Tryz.ntmps111]) ?_
 show awp _ _ _ _ ⟨[(0,true,_)],_,_⟩
 refine go 3 [0,0,0,0] ?_
 refine aF [0,5,6] [] [] (fun (k:Nat) st=>k≤s.size∧st=⟨[(0,true,.string s),(5,true,.int .i64 s.size),(6,true,.int .i64 k)],[],[]⟩) (fun k=>s.size-k) rfl (⟨0,Nat.zero_le _,rfl⟩) ?_
 rintro k st ⟨hk,rfl⟩
 refine go 3 [0] ?_
 refine aa _ rfl (fun h1 => ?_) (fun h1 => ?_)
 ·skip
  have hk':k<s.size:=by simpa using h1
  obtain ⟨u,hu⟩:∃ u,s.data.toList[k]? = some u:=⟨_,List.getElem?_eq_getElem (by simpa using hk')⟩
  refine go 0 [0,0,0,0] ?_
  refine aU rfl (et (k) Tryz.underlying9 rfl rfl (rfl) (hu)) ?_
  refine go 0 [0,0,0,0] ?_
  refine aG rfl rfl (fun hc=>et (k) Tryz.underlying9 (ah rfl hc) (ah rfl hc) (rfl) (hu)) ?_
  refine go 2 [0,0] ?_
  refine aa _ rfl (fun h2 => ?_) (fun h2 => ?_)
  ·skip
   refine go 2 [0] ?_
   refine ae (aK (aj (aj (aK (aj ?_)))))
   refine bB [] [] rfl Tryz.results111 rfl ?_ (.inr rfl)
   exact ⟨⟨rfl,rfl⟩,_,rfl,fun _=>trivial⟩
  ·skip
   refine go 1 [0,0] ?_
   refine an ?_
   refine ⟨[0,5,6],[],[],rfl,?_⟩
   exact ⟨k+1,⟨by omega,rfl⟩,by omega⟩
 ·skip
  refine go 2 [0,0,0,0,0,0,0,0] ?_
  refine ae ?_
  refine bB [] [] rfl Tryz.results111 rfl ?_ (.inr rfl)
  exact ⟨⟨rfl,rfl⟩,_,rfl,fun _=>trivial⟩
theorem pG(s:ByteArray)(hs:s.size≤maxLen):Con Tryz.prog 165 [.string s] [] [] (YB True):=by
 have hs':s.size≤9223372036854775807:=hs
 refine Con.enter Tryz.func165 rfl (by simp [Tryz.ntmps165]) ?_
 show awp _ _ _ _ ⟨[(0,true,_)],_,_⟩
 refine go 3 [0,0,0,0] ?_
 refine aF [0,5,6] [] [] (fun (k:Nat) st=>k≤s.size∧st=⟨[(0,true,.string s),(5,true,.int .i64 s.size),(6,true,.int .i64 k)],[],[]⟩) (fun k=>s.size-k) rfl (⟨0,Nat.zero_le _,rfl⟩) ?_
 rintro k st ⟨hk,rfl⟩
 refine go 3 [0] ?_
 refine aa _ rfl (fun h1 => ?_) (fun h1 => ?_)
 ·skip
  have hk':k<s.size:=by simpa using h1
  obtain ⟨u,hu⟩:∃ u,s.data.toList[k]? = some u:=⟨_,List.getElem?_eq_getElem (by simpa using hk')⟩
  refine go 0 [0,0,0,0] ?_
  refine aU rfl (et (k) Tryz.underlying9 rfl rfl (rfl) (hu)) ?_
  refine go 0 [0,0,0,0] ?_
  refine aG rfl rfl (fun hc=>et (k) Tryz.underlying9 (ah rfl hc) (ah rfl hc) (rfl) (hu)) ?_
  refine go 0 [0,0,0,0,0] ?_
  refine aG rfl rfl (fun hc=>et (k) Tryz.underlying9 (ah rfl hc) (ah rfl hc) (rfl) (hu)) ?_
  refine go 0 [0,0,0,0,0] ?_
  refine aG rfl rfl (fun hc=>et (k) Tryz.underlying9 (ah rfl hc) (ah rfl hc) (rfl) (hu)) ?_
  refine go 2 [0,0] ?_
  refine aa _ rfl (fun h2 => ?_) (fun h2 => ?_)
  ·skip
   refine go 2 [0] ?_
   refine ae (aK (aj (aj (aK (aj ?_)))))
   refine bB [] [] rfl Tryz.results165 rfl ?_ (.inr rfl)
   exact ⟨⟨rfl,rfl⟩,_,rfl,fun _=>trivial⟩
  ·skip
   refine go 1 [0,0] ?_
   refine an ?_
   refine ⟨[0,5,6],[],[],rfl,?_⟩
   exact ⟨k+1,⟨by omega,rfl⟩,by omega⟩
 ·skip
  refine go 2 [0,0,0,0,0,0,0,0] ?_
  refine ae ?_
  refine bB [] [] rfl Tryz.results165 rfl ?_ (.inr rfl)
  exact ⟨⟨rfl,rfl⟩,_,rfl,fun _=>trivial⟩
theorem m7(k:Int):Con Tryz.prog 147 [.int .i64 k] [] [] (fun r _ _=>r=.int .i64 (dN k)):=by
 refine Con.enter Tryz.func147 rfl (by simp [Tryz.ntmps147]) ?_
 show awp _ _ _ _ ⟨[(0,true,_)],_,_⟩
 refine go 2 [0,0,0,0] ?_
 refine aa _ rfl (fun h1 => ?_) (fun h1 => ?_)
 ·skip
  refine go 2 [0] ?_
  refine ae (aK (aj ?_))
  refine bB [] [] rfl Tryz.results147 rfl ?_ (.inr rfl)
  have:k=2:=by simpa using h1
  subst this;rfl
 ·skip
  refine go 2 [0,0] ?_
  refine aa _ rfl (fun h2 => ?_) (fun h2 => ?_)
  ·skip
   refine go 2 [0] ?_
   refine ae (aK (aj ?_))
   refine bB [] [] rfl Tryz.results147 rfl ?_ (.inr rfl)
   have a1:¬ k=2:=by simpa using h1
   have:k=3:=by simpa using h2
   subst this;rfl
  ·skip
   refine go 2 [0] ?_
   refine ae ?_
   refine bB [] [] rfl Tryz.results147 rfl ?_ (.inr rfl)
   have a1:¬ k=2:=by simpa using h1
   have a2:¬ k=3:=by simpa using h2
   unfold dN;rw [if_neg a1,if_neg a2]
theorem tK(l:Sl Int)(z:Int):Con Tryz.prog 84 [l.val,.int .i64 z] [ShF (fun z:Int=>[D.v (eI z)]) l] [] (YN (fun z:Int=>.int .i64 z) fun k=>0≤k↔z∈l.l):=by
 refine Con.enter Tryz.func84 rfl (by simp [Tryz.ntmps84]) ?_
 show awp _ _ _ _ ⟨[(0,true,_),(1,true,_)],_,_⟩
 refine aO (.of (ax 0 rfl)) (fun hlen => ?_)
 refine go 3 [0,0,3,0] ?_
 refine aF [0,1,7,8] [0] [] (fun (k:Nat) s=>(k≤l.l.length∧z ∉ l.l.take k)∧s=⟨[(0,true,l.val),(1,true,.int .i64 z),(7,true,.int .i64 l.l.length),(8,true,.int .i64 k)],[ShF (fun z:Int=>[D.v (eI z)]) l],[]⟩) (fun k=>l.l.length-k) rfl (⟨0,⟨Nat.zero_le _,List.not_mem_nil⟩,rfl⟩) ?_
 rintro k s ⟨⟨hk,hno⟩,rfl⟩
 refine go 3 [0] ?_
 refine aa _ rfl (fun h1 => ?_) (fun h1 => ?_)
 ·skip
  have hk':k<l.l.length:=by simpa using h1
  obtain ⟨a,ha⟩:∃ a,l.l[k]? = some a:=⟨l.l[k]'hk',by simp⟩
  refine go 0 [0,0,0,0,0] ?_
  refine bI true rfl rfl (fun _=>ai Tryz.underlying33 tk3 rfl ((.of (ax 0 rfl))) rfl (ak ha) rfl rfl) (fun h=>absurd h (by decide)) (fun ⟨b4_3,o4_3⟩ => ?_)
  refine go 2 [2,0] ?_
  refine aa _ rfl (fun h2 => ?_) (fun h2 => ?_)
  ·skip
   refine go 2 [0,0] ?_
   refine ae (aK (aj (aj (aK (aj ?_)))))
   refine bB [] [] rfl Tryz.results84 rfl ?_ (.inr rfl)
   exact ⟨⟨rfl,rfl⟩,_,rfl,fun _=>(show z=a by simpa using h2) ▸ List.mem_of_getElem? ha,fun _=>by omega⟩
  ·skip
   refine go 1 [0,0] ?_
   refine an ?_
   refine ⟨[0,1,7,8],[0],[],rfl,?_⟩
   exact ⟨k+1,⟨⟨by omega,by rw [List.take_add_one,ha];exact fun h=>(List.mem_append.1 h).elim hno fun h=>absurd (List.mem_singleton.1 h) (by simpa using h2)⟩,rfl⟩,by omega⟩
 ·skip
  refine go 2 [0] ?_
  refine ae ?_
  refine bB [] [] rfl Tryz.results84 rfl ?_ (.inr rfl)
  exact ⟨⟨rfl,rfl⟩,_,rfl,fun h=>by omega,fun h=>by rw [List.take_of_length_le (by simpa using h1)] at hno;exact absurd h hno⟩
theorem pD(l:Sl Int)(z:Int):Con Tryz.prog 39 [l.val,.int .i64 z] [ShF (fun z:Int=>[D.v (eI z)]) l] [] (YN Value.bool fun b=>b=true↔z∈l.l):=by
 refine Con.enter Tryz.func39 rfl (by simp [Tryz.ntmps39]) ?_
 show awp _ _ _ _ ⟨[(0,true,_),(1,true,_)],_,_⟩
 refine go 0 [0,0,0] ?_
 refine aE (caps:=[]) [0] (default) (by kernel_rfl) true rfl rfl (fun _=>rfl) (fun hc=>rfl) (fun hc=>by rw [List.append_nil];exact tK l z) (fun c hc => ?_)
 refine go 2 [0,0] ?_
 refine ae ?_
 refine bB [] [] rfl Tryz.results39 rfl ?_ (.inr rfl)
 exact ⟨⟨rfl,rfl⟩,_,rfl,by rw [← hc rfl];exact decide_eq_true_iff⟩
theorem iX(l:Sl Int)(z:Int):Con Tryz.prog 39 [l.val,.int .i64 z] [ShF (fun z:Int=>[D.v (eI z)]) l] [] (YB (z∈l.l)):=(pD l z).post fun _ _ _ ⟨h,b,h1,h2⟩=>⟨h,b,h1,h2.1⟩
theorem j7(o:aI)(l:Sl Int)(sec:Int):Con Tryz.prog 141 [o.val,.int .i64 sec,l.val] [ShF (fun z:Int=>[D.v (eI z)]) l,o.ok] [] (YB (0≤sec∧sec<o.secs.l.length)):=by
 refine Con.enter Tryz.func141 rfl (by simp [Tryz.ntmps141]) ?_
 show awp _ _ _ _ ⟨[(0,true,_),(1,true,_),(2,true,_)],_,_⟩
 refine aO (aI.f_secs (.of (ax 1 rfl))) (fun hlen => ?_)
 refine aSR ?_
 refine aT (q:=true) rfl (aS rfl rfl rfl (fun b0_0 => ?_))
 refine aHN ?_
 refine go 0 [0,0,0,1,0,174] ?_
 refine aU rfl (jK (by kernel_rfl) rfl (fun w S fp hst=>(bZ _ _).quiet0 hst)) ?_
 refine go 0 [0,0,0,1,0,0] ?_
 refine bI _ rfl rfl (fun hc=>ai Tryz.underlying118 tk174 (ah rfl hc) ((aI.f_secs (.of (ax 1 rfl)))) (ah rfl hc) (bN (i:=sec) (by simp at hc;omega) (by simp at hc;omega)) (by simp at hc;omega) rfl) (fun _=>⟨(0,0)⟩) (fun ⟨b1_12,o1_12⟩ => ?_)
 refine go 0 [1,50] ?_
 refine aE (caps:=[]) [1] (false) (by kernel_rfl) _ rfl rfl (fun _=>rfl) (fun hc=>(ao (ah rfl hc) (ao (ah rfl hc) rfl))) (fun hc=>by rw [List.append_nil];exact iX l _) (fun c hc => ?_)
 refine go 2 [0,0] ?_
 refine ae ?_
 refine bB [] [] rfl Tryz.results141 rfl ?_ (.inr rfl)
 refine ⟨⟨rfl,rfl⟩,_,rfl,fun hb => ?_⟩
 simp at hb;omega
theorem m6(o:aI)(i kind:Int):Con Tryz.prog 163 [o.val,.int .i64 i,.int .i64 kind] [o.ok] [] (YB (0≤i∧i<o.syms.l.length)):=by
 refine Con.enter Tryz.func163 rfl (by simp [Tryz.ntmps163]) ?_
 show awp _ _ _ _ ⟨[(0,true,_),(1,true,_),(2,true,_)],_,_⟩
 refine aO (aI.f_syms (.of (ax 0 rfl))) (fun hlen => ?_)
 refine aSR ?_
 refine aT (q:=true) rfl (aS rfl rfl rfl (fun b0_0 => ?_))
 refine aHN ?_
 refine go 0 [0,0,0,2,0,176] ?_
 refine aU rfl (jK (by kernel_rfl) rfl (fun w S fp hst=>(bZ _ _).quiet0 hst)) ?_
 refine go 0 [0,0,2,0,0] ?_
 refine bI _ rfl rfl (fun hc=>ai Tryz.underlying119 tk176 (ah rfl hc) ((aI.f_syms (.of (ax 0 rfl)))) (ah rfl hc) (bN (i:=i) (by simp at hc;omega) (by simp at hc;omega)) (by simp at hc;omega) rfl) (fun _=>⟨(0,0)⟩) (fun ⟨b1_11,o1_11⟩ => ?_)
 refine go 2 [5,242,0,0,0,0] ?_
 refine ae ?_
 refine bB [] [] rfl Tryz.results163 rfl ?_ (.inr rfl)
 refine ⟨⟨rfl,rfl⟩,_,rfl,fun hb => ?_⟩
 simp at hb;omega
end Go.Proofs.YtgkbbdgklpabpaaGreatDoor

namespace Go.Sy
open Go.RowKit Go.Lp
theorem rB{P:Program}{n:Fr}{ops:Array Oper}{env:Env}{ps:List Per}{hp:List Res}{Q:Exit→Sta→Prop}{rest:List Oper}{v:Value}{T:TypeId}{sz:Nat}{rows:List (List D)}(i:Nat)(hi:hp[i]? = some (aP v T sz rows))(h:aL P n ops Q rest ⟨env,Sh v (.sl rows)::ps,hp.set i emp⟩):aL P n ops Q rest ⟨env,ps,hp⟩:=fun w S fp a hst he hn hd=>by
 have hil:=(List.getElem?_eq_some_iff.1 hi).1
 have h1:=oC hst i hi
 have htot:∀ b,tot (fun k=>if k=i then (fun _=>False) else fp k) (hp.set i emp).length b→tot fp hp.length b:=fun b ⟨j,hj,hb⟩=>by
   dsimp only at hb
   by_cases hji:j=i
   · rw [if_pos hji] at hb;exact hb.elim
   · rw [if_neg hji] at hb;exact ⟨j,by simpa using hj,hb⟩
 have hE:Evo w S (tot fp hp.length) w (fun b=>S b∨fp i b):=⟨rfl,rfl,rfl,Nat.le_refl _,Nat.le_refl _,fun _ _ _=>rfl,fun _ h=>.inl h,fun b hb=>hb.elim .inl fun h=>.inr (.inl ⟨i,hil,h⟩)⟩
 exact ez (fun e a2 w2 hp=>hp.trans hE (fun b hb=>.inl (htot b hb))) _ _ _ (h w _ _ a h1 he hn hd)
section
variable {P:Program} {n:Fr} {ops:Array Oper} {env:Env} {ps:List Per} {hp:List Res} {Q:Exit→Sta→Prop} {rest:List Oper} {ty:TypeId} {pos:String} {af:Array Edge} {gd:Option (Nat × Bool)}
theorem yb{ps':List Per}(hf:∀ p∈ps',Ent ps p)(h:aL P n ops Q rest ⟨env,ps',hp⟩):aL P n ops Q rest ⟨env,ps,hp⟩:=fun w S fp a hst he hn hd =>
 h w S fp a ⟨fun q hq=>hf q hq w S hst.per,hst.res,hst.lt,hst.dj,hst.slt⟩ he hn hd
theorem ya{R:Res}(h:aL P n ops Q rest ⟨env,ps,hp⟩):aL P n ops Q rest ⟨env,ps,hp++[R]⟩:=fun w S fp a hst he hn hd=>by
 have hst':St w S fp ps hp:=⟨hst.per,fun i R' hR=>hst.res i R' (by rw [List.getElem?_append_left (List.getElem?_eq_some_iff.1 hR).1];exact hR),fun i hi=>hst.lt i (by simp;omega),fun i j hi hj=>hst.dj i j (by simp;omega) (by simp;omega),hst.slt⟩
 have hE:Evo w S (tot fp (hp++[R]).length) w S:=Evo.refl _ _ _
 exact ez (fun e a2 w2 hp2=>hp2.trans hE (fun b ⟨j,hj,hb⟩=>.inl ⟨j,by have hj2:j<hp.length:=hj;simp;omega,hb⟩)) _ _ _ (h w S fp a hst' he hn hd)
theorem eK{t:Nat}{T E:TypeId}{len:Nat}{l:List (Nat × Operand)}{xs:List Operand}{vs zs cs:List Value}{rows:List (List D)}(hel:elB P T E zs.length=true)(hz:ec P E=some zs)(h0:0<zs.length)
   (hlen:0<len) (hsm:len*zs.length≤16777216) (hxs:l.map (·.2)=xs) (c:Bool) (hc:guardOf ops env ⟨some t,.buildSlice T len l.toArray,ty,pos,af,gd⟩=some c) (hx:c=true→evs env xs=some vs) (hb:bld (fun i=>some (i*zs.length,zs.length)) (iL len zs) ((l.map (·.1)).zip vs)=some cs) (hr:RCs ps zs.length cs rows) (hrl:rows.length=len) (ht:fits n.size (some t)=true)
   (h:∀ ad,aL P n ops Q rest ⟨(t,c,.slice ad len len)::env,cnd c (Sh (.slice ad len len) (.sl rows))::ps,hp⟩):aL P n ops Q (⟨some t,.buildSlice T len l.toArray,ty,pos,af,gd⟩::rest) ⟨env,ps,hp⟩:=by
 cases c with
 | true =>
   refine aT (q:=true) hc (aal hel hz h0 hlen hsm hxs (hx rfl) hb hr hrl ht fun ad => ?_)
   refine rB hp.length (by rw [List.getElem?_append_right (Nat.le_refl _),Nat.sub_self];rfl) ?_
   rw [List.set_append_right _ _ (Nat.le_refl _),Nat.sub_self]
   refine ya (yb (fun p hp => ?_) (h ad))
   rcases List.mem_cons.1 hp with rfl | hp
   · exact fun w S hq _=>hq _ List.mem_cons_self
   · exact .of (List.mem_cons_of_mem _ hp)
 | false =>
   refine mG (v:=.slice none len len) false hc ht (fun h=>by cases h) (yb (fun p hp => ?_) (h none))
   rcases List.mem_cons.1 hp with rfl | hp
   · exact fun w S hq h=>by cases h
   · exact .of hp
theorem xV{V:List Nat}{k:Nat}{L:Array Bool}{R:Res}(h:aB P n ops V Q k L ⟨env,ps,hp⟩):aB P n ops V Q k L ⟨env,ps,hp++[R]⟩:=fun w S fp a hst he hn hd=>by
 have hst':St w S fp ps hp:=⟨hst.per,fun i R' hR=>hst.res i R' (by rw [List.getElem?_append_left (List.getElem?_eq_some_iff.1 hR).1];exact hR),fun i hi=>hst.lt i (by simp;omega),fun i j hi hj=>hst.dj i j (by simp;omega) (by simp;omega),hst.slt⟩
 have hE:Evo w S (tot fp (hp++[R]).length) w S:=Evo.refl _ _ _
 exact iQ (fun a2 w2 hp2=>hp2.trans hE (fun b ⟨j,hj,hb⟩=>.inl ⟨j,by have hj2:j<hp.length:=hj;simp;omega,hb⟩)) _ _ _ _ (h w S fp a hst' he hn hd)
theorem vV{V:List Nat}{k:Nat}{L:Array Bool}{v:Value}{T:TypeId}{sz:Nat}{rows:List (List D)}(i:Nat)(hi:hp[i]? = some (aP v T sz rows))(h:aB P n ops V Q k L ⟨env,Sh v (.sl rows)::ps,hp.set i emp⟩):aB P n ops V Q k L ⟨env,ps,hp⟩:=fun w S fp a hst he hn hd=>by
 have hil:=(List.getElem?_eq_some_iff.1 hi).1
 have h1:=oC hst i hi
 have htot:∀ b,tot (fun k=>if k=i then (fun _=>False) else fp k) (hp.set i emp).length b→tot fp hp.length b:=fun b ⟨j,hj,hb⟩=>by
   dsimp only at hb
   by_cases hji:j=i
   · rw [if_pos hji] at hb;exact hb.elim
   · rw [if_neg hji] at hb;exact ⟨j,by simpa using hj,hb⟩
 have hE:Evo w S (tot fp hp.length) w (fun b=>S b∨fp i b):=⟨rfl,rfl,rfl,Nat.le_refl _,Nat.le_refl _,fun _ _ _=>rfl,fun _ h=>.inl h,fun b hb=>hb.elim .inl fun h=>.inr (.inl ⟨i,hil,h⟩)⟩
 exact iQ (fun a2 w2 hp=>hp.trans hE (fun b hb=>.inl (htot b hb))) _ _ _ _ (h w _ _ a h1 he hn hd)
theorem aas{V:List Nat}{k:Nat}{L:Array Bool}{t:Nat}{T E:TypeId}{len:Nat}{l:List (Nat × Operand)}{xs:List Operand}{vs zs cs:List Value}{rows:List (List D)}(i:Nat)(hi:ops[i]? = some ⟨some t,.buildSlice T len l.toArray,ty,pos,af,gd⟩)(hr:Region.ready .any ops L=[i])(hel:elB P T E zs.length=true)(hz:ec P E=some zs)(h0:0<zs.length)
   (hlen:0<len) (hsm:len*zs.length≤16777216) (hxs:l.map (·.2)=xs) (hc:guardOf ops env ⟨some t,.buildSlice T len l.toArray,ty,pos,af,gd⟩=some true) (hx:evs env xs=some vs) (hb:bld (fun i=>some (i*zs.length,zs.length)) (iL len zs) ((l.map (·.1)).zip vs)=some cs) (hrc:RCs ps zs.length cs rows) (hrl:rows.length=len) (ht:fits n.size (some t)=true)
   (h:∀ ad,aB P n ops V Q k (L.setIfInBounds i true) ⟨(t,true,.slice ad len len)::env,Sh (.slice ad len len) (.sl rows)::ps,hp⟩):aB P n ops V Q (k+1) L ⟨env,ps,hp⟩:=by
 refine dG (q:=true) i hi hr rfl hc (aal hel hz h0 hlen hsm hxs hx hb hrc hrl ht fun ad => ?_)
 refine vV hp.length (by rw [List.getElem?_append_right (Nat.le_refl _),Nat.sub_self];rfl) ?_
 rw [List.set_append_right _ _ (Nat.le_refl _),Nat.sub_self]
 exact xV (h ad)
end
end Go.Sy

namespace Go.Sy
open Go.RowKit
section
variable {P:Program} {f:FuncId} {fn:Func} {c:Code} {ps:List Per} {hp:List Res} {R:Value→List Per→List Res→Prop} {v0 v1 v2 v3 v4 v5 v6 v7:Value}
theorem EN1(hf:P.funcs[f]? = some fn)(hb:fn.body=some c)(h:awp P ⟨fn.ntmps,none,[]⟩ c (fy P fn R) ⟨[(0,true,v0)],ps,hp⟩)(hl:Nat.ble 1 fn.ntmps=true:=by kernel_rfl):Con P f [v0] ps hp R:=Con.enter hf hb (Nat.le_of_ble_eq_true hl) h
theorem EN2(hf:P.funcs[f]? = some fn)(hb:fn.body=some c)(h:awp P ⟨fn.ntmps,none,[]⟩ c (fy P fn R) ⟨[(0,true,v0),(1,true,v1)],ps,hp⟩)(hl:Nat.ble 2 fn.ntmps=true:=by kernel_rfl):Con P f [v0,v1] ps hp R:=Con.enter hf hb (Nat.le_of_ble_eq_true hl) h
theorem EN3(hf:P.funcs[f]? = some fn)(hb:fn.body=some c)(h:awp P ⟨fn.ntmps,none,[]⟩ c (fy P fn R) ⟨[(0,true,v0),(1,true,v1),(2,true,v2)],ps,hp⟩)(hl:Nat.ble 3 fn.ntmps=true:=by kernel_rfl):Con P f [v0,v1,v2] ps hp R:=Con.enter hf hb (Nat.le_of_ble_eq_true hl) h
theorem EN4(hf:P.funcs[f]? = some fn)(hb:fn.body=some c)(h:awp P ⟨fn.ntmps,none,[]⟩ c (fy P fn R) ⟨[(0,true,v0),(1,true,v1),(2,true,v2),(3,true,v3)],ps,hp⟩)(hl:Nat.ble 4 fn.ntmps=true:=by kernel_rfl):Con P f [v0,v1,v2,v3] ps hp R:=Con.enter hf hb (Nat.le_of_ble_eq_true hl) h
theorem EN5(hf:P.funcs[f]? = some fn)(hb:fn.body=some c)(h:awp P ⟨fn.ntmps,none,[]⟩ c (fy P fn R) ⟨[(0,true,v0),(1,true,v1),(2,true,v2),(3,true,v3),(4,true,v4)],ps,hp⟩)(hl:Nat.ble 5 fn.ntmps=true:=by kernel_rfl):Con P f [v0,v1,v2,v3,v4] ps hp R:=Con.enter hf hb (Nat.le_of_ble_eq_true hl) h
theorem EN6(hf:P.funcs[f]? = some fn)(hb:fn.body=some c)(h:awp P ⟨fn.ntmps,none,[]⟩ c (fy P fn R) ⟨[(0,true,v0),(1,true,v1),(2,true,v2),(3,true,v3),(4,true,v4),(5,true,v5)],ps,hp⟩)(hl:Nat.ble 6 fn.ntmps=true:=by kernel_rfl):Con P f [v0,v1,v2,v3,v4,v5] ps hp R:=Con.enter hf hb (Nat.le_of_ble_eq_true hl) h
theorem EN7(hf:P.funcs[f]? = some fn)(hb:fn.body=some c)(h:awp P ⟨fn.ntmps,none,[]⟩ c (fy P fn R) ⟨[(0,true,v0),(1,true,v1),(2,true,v2),(3,true,v3),(4,true,v4),(5,true,v5),(6,true,v6)],ps,hp⟩)(hl:Nat.ble 7 fn.ntmps=true:=by kernel_rfl):Con P f [v0,v1,v2,v3,v4,v5,v6] ps hp R:=Con.enter hf hb (Nat.le_of_ble_eq_true hl) h
theorem EN8(hf:P.funcs[f]? = some fn)(hb:fn.body=some c)(h:awp P ⟨fn.ntmps,none,[]⟩ c (fy P fn R) ⟨[(0,true,v0),(1,true,v1),(2,true,v2),(3,true,v3),(4,true,v4),(5,true,v5),(6,true,v6),(7,true,v7)],ps,hp⟩)(hl:Nat.ble 8 fn.ntmps=true:=by kernel_rfl):Con P f [v0,v1,v2,v3,v4,v5,v6,v7] ps hp R:=Con.enter hf hb (Nat.le_of_ble_eq_true hl) h
end
section
variable {P:Program} {n:Fr} {ops:Array Oper} {Q:Exit→Sta→Prop} {s:Sta} {K:Sta→Prop}
theorem DR{l:List Oper}{id:Nat}(V:List Nat)(m:Nat)(h:aB P n l.toArray V Q m (Array.replicate m false) s)(hl:l.length=m:=by rfl)(hm:P.follows .mixedOrders=true:=by kernel_rfl):awp P n (.region id l.toArray true) Q s:=by
 subst hl;exact fk V hm h
theorem DC{l:List Oper}{id:Nat}(V W Z:List Nat)(m:Nat)(h:aC P n l.toArray V W Z Q m (Array.replicate m false) s)(hl:l.length=m:=by rfl)(hm:P.follows .mixedOrders=true:=by kernel_rfl):awp P n (.region id l.toArray true) Q s:=by
 subst hl;exact tp V W Z hm h
section
variable {fn:Func} {R:Value→List Per→List Res→Prop}
theorem FZ1{t:Nat}{v:Value}(lh:List Nat)(hr:fn.results = #[.tmp t])(hl:look s.env t=some (true,v))(h:R v (el s.ps []) (bT s.hp lh))(ok:okH s.hp lh=true:=by rfl):fy P fn R .ret s:=bB [] lh ok hr hl h (.inr rfl)
theorem FZ2{t u:Nat}{v v':Value}(lh:List Nat)(hr:fn.results = #[.tmp t,.tmp u])(hl:look s.env t=some (true,v))(hl':look s.env u=some (true,v'))(h:R (.tuple #[v,v']) (el s.ps []) (bT s.hp lh))(ok:okH s.hp lh=true:=by rfl):fy P fn R .ret s:=ac6 [] lh ok hr hl hl' h (.inr rfl)
theorem FZ0(lh:List Nat)(hr:fn.results = #[])(h:R (.tuple #[]) (el s.ps []) (bT s.hp lh))(ok:okH s.hp lh=true:=by rfl):fy P fn R .normal s:=y9 [] lh ok hr h (.inl rfl)
end
variable {env:Env} {ps ps':List Per} {hp hp':List Res} {d:Nat} {op:Op} {ty:TypeId} {pos:String} {af:Array Edge} {gd:Option (Nat × Bool)} {rest:List Oper} {v:Value} {x:Operand} {o:Oper} {V W Z:List Nat} {k:Nat} {L L':Array Bool} {T:TypeId} {j b p u:Nat} {c:Bool} {U:TypeId} {ag:Bool} {m:Nat} {cs:List Value} {row:List D}
theorem CST(h:aC P n ops V W Z Q k L' ⟨env,ps',hp'⟩)(hL:L=L':=by (try simp only [nO,nK,nL]);rfl)(h1:ps=ps':=by (try simp only [nM,nN]);rfl)(h0:hp=hp':=by (try simp only [bT,nQ,nR,fD,place,Nat.reduceBEq,if_true,if_false,reduceIte,Nat.reduceAdd,nW]);rfl):aC P n ops V W Z Q k L ⟨env,ps,hp⟩:=aci hL h1 h0 h
theorem VO(i off:Nat)(hi:ops[i]? = some ⟨some d,.fieldAddr T x j,ty,pos,af,gd⟩)(h:okU ops env n.size ⟨some d,.fieldAddr T x j,ty,pos,af,gd⟩=true)(hx:ev env x=some (true,.pointer (some ⟨b,u,none⟩)))
   (hK:aB P n ops V Q k (L.setIfInBounds i true) ⟨(d,true,.pointer (some ⟨b,u+off,none⟩))::env,ps,hp⟩) (h0:jG P T j=some off:=by kernel_rfl) (hf:cC ops V L i=true:=by kernel_rfl):aB P n ops V Q (k+1) L ⟨env,ps,hp⟩:=bV i hi h (qFA hx h0) hK hf
theorem VN{a:Addr}(i:Nat)(hi:ops[i]? = some ⟨some d,.nilCheck x,ty,pos,af,gd⟩)(h:okU ops env n.size ⟨some d,.nilCheck x,ty,pos,af,gd⟩=true)(hx:ev env x=some (true,.pointer (some a)))
   (hK:aB P n ops V Q k (L.setIfInBounds i true) ⟨(d,true,.pointer (some a))::env,ps,hp⟩) (hf:cC ops V L i=true:=by kernel_rfl):aB P n ops V Q (k+1) L ⟨env,ps,hp⟩:=bV i hi h (gW hx) hK hf
theorem VM(i:Nat)(hi:ops[i]? = some ⟨some d,.move x,ty,pos,af,gd⟩)(h:mvU ops env n.size ⟨some d,.move x,ty,pos,af,gd⟩ x=some v)
   (hK:aB P n ops V Q k (L.setIfInBounds i true) ⟨(d,true,v)::env,ps,hp⟩) (hf:cC ops V L i=true:=by kernel_rfl):aB P n ops V Q (k+1) L ⟨env,ps,hp⟩:=bV i hi (pV h).1 (bo (pV h).2) hK hf
theorem VD(i w:Nat)(hk:tyk P U=some (ag,m))(q:Nat)(hi:ops[i]? = some ⟨some d,.load U x,ty,pos,af,gd⟩)(h:okU ops env n.size ⟨some d,.load U x,ty,pos,af,gd⟩=true)(hx:ev env x=some (true,.pointer (some ⟨b,p+w,none⟩)))(hq:ps[q]? = some (At b p row))(hv:rdD ag m row w=some v)
   (hK:aB P n ops V Q k (L.setIfInBounds i true) ⟨(d,true,v)::env,ps,hp⟩) (hf:cC ops V L i=true:=by kernel_rfl):aB P n ops V Q (k+1) L ⟨env,ps,hp⟩:=bV i hi h (cm (o:=w) hk hx (.of (ax q hq)) hv) hK hf
theorem VL(i w:Nat)(hk:tyk P U=some (ag,m))(hi:ops[i]? = some ⟨some d,.load U x,ty,pos,af,gd⟩)(h:okU ops env n.size ⟨some d,.load U x,ty,pos,af,gd⟩=true)(hx:ev env x=some (true,.pointer (some ⟨b,u,none⟩)))(hq:hp[w]? = some (Box b T cs))(hv:rdC ag m cs u=some v)
   (hK:aB P n ops V Q k (L.setIfInBounds i true) ⟨(d,true,v)::env,ps,hp⟩) (hf:cC ops V L i=true:=by kernel_rfl):aB P n ops V Q (k+1) L ⟨env,ps,hp⟩:=bV i hi h (fq w hk hx hq hv) hK hf
theorem UO(off:Nat)(h:okU ops env n.size ⟨some d,.fieldAddr T x j,ty,pos,af,gd⟩=true)(hx:ev env x=some (true,.pointer (some ⟨b,u,none⟩)))(hK:aL P n ops Q rest ⟨(d,true,.pointer (some ⟨b,u+off,none⟩))::env,ps,hp⟩)(h0:jG P T j=some off:=by kernel_rfl) :
   aL P n ops Q (⟨some d,.fieldAddr T x j,ty,pos,af,gd⟩::rest) ⟨env,ps,hp⟩:=aU h (qFA hx h0) hK
theorem UN{a:Addr}(h:okU ops env n.size ⟨some d,.nilCheck x,ty,pos,af,gd⟩=true)(hx:ev env x=some (true,.pointer (some a)))(hK:aL P n ops Q rest ⟨(d,true,.pointer (some a))::env,ps,hp⟩) :
   aL P n ops Q (⟨some d,.nilCheck x,ty,pos,af,gd⟩::rest) ⟨env,ps,hp⟩:=aU h (gW hx) hK
theorem UL(w:Nat)(hk:tyk P U=some (ag,m))(h:okU ops env n.size ⟨some d,.load U x,ty,pos,af,gd⟩=true)(hx:ev env x=some (true,.pointer (some ⟨b,u,none⟩)))(hq:hp[w]? = some (Box b T cs))(hv:rdC ag m cs u=some v)
   (hK:aL P n ops Q rest ⟨(d,true,v)::env,ps,hp⟩):aL P n ops Q (⟨some d,.load U x,ty,pos,af,gd⟩::rest) ⟨env,ps,hp⟩:=aU h (fq w hk hx hq hv) hK
theorem UD(w:Nat)(hk:tyk P U=some (ag,m))(q:Nat)(h:okU ops env n.size ⟨some d,.load U x,ty,pos,af,gd⟩=true)(hx:ev env x=some (true,.pointer (some ⟨b,p+w,none⟩)))(hq:ps[q]? = some (At b p row))(hv:rdD ag m row w=some v)
   (hK:aL P n ops Q rest ⟨(d,true,v)::env,ps,hp⟩):aL P n ops Q (⟨some d,.load U x,ty,pos,af,gd⟩::rest) ⟨env,ps,hp⟩:=aU h (cm (o:=w) hk hx (.of (ax q hq)) hv) hK
theorem GO(off:Nat)(hc:guardOf ops env ⟨some d,.fieldAddr T x j,ty,pos,af,gd⟩=some c)(hd:fits n.size (some d)=true)(hx:ev env x=some (true,.pointer (some ⟨b,u,none⟩)))(hK:aL P n ops Q rest ⟨(d,c,.pointer (some ⟨b,u+off,none⟩))::env,ps,hp⟩)(h0:jG P T j=some off:=by kernel_rfl) :
   aL P n ops Q (⟨some d,.fieldAddr T x j,ty,pos,af,gd⟩::rest) ⟨env,ps,hp⟩:=aG hc hd (fun _=>qFA hx h0) hK
theorem GL(w:Nat)(hk:tyk P U=some (ag,m))(hc:guardOf ops env ⟨some d,.load U x,ty,pos,af,gd⟩=some c)(hd:fits n.size (some d)=true)(hx:ev env x=some (c,.pointer (some ⟨b,u,none⟩)))(hq:hp[w]? = some (Box b T cs))(hv:rdC ag m cs u=some v)
   (hK:aL P n ops Q rest ⟨(d,c,v)::env,ps,hp⟩):aL P n ops Q (⟨some d,.load U x,ty,pos,af,gd⟩::rest) ⟨env,ps,hp⟩:=aG hc hd (fun hc=>fq w hk (ah hx hc) hq hv) hK
theorem CF(i:Nat)(hi:ops[i]? = some ⟨some d,op,ty,pos,af,gd⟩)(hc:guardOf ops env ⟨some d,op,ty,pos,af,gd⟩=some true)(hd:fits n (some d)=true)(hq:Quiet P n ⟨some d,op,ty,pos,af,gd⟩ ⟨env,ps,[]⟩ v)
   (h:aC P n ops V W Z Q k (L.setIfInBounds i true) ⟨(d,true,v)::env,ps,hp⟩) (hf:c7 ops [] L i=true:=by kernel_rfl):aC P n ops V W Z Q (k+1) L ⟨env,ps,hp⟩:=xZ i hi hf true hc hd (fun _=>hq) h
theorem CQ(i:Nat)(hi:ops[i]? = some ⟨some d,op,ty,pos,af,gd⟩)(hc:guardOf ops env ⟨some d,op,ty,pos,af,gd⟩=some true)(hd:fits n (some d)=true)(hq:Quiet P n ⟨some d,op,ty,pos,af,gd⟩ ⟨env,ps,hp⟩ v)
   (h:aC P n ops V W Z Q k (L.setIfInBounds i true) ⟨(d,true,v)::env,ps,hp⟩) (hf:c7 ops V L i=true:=by kernel_rfl):aC P n ops V W Z Q (k+1) L ⟨env,ps,hp⟩:=ach i hi hf true hc hd (fun _=>hq) h
theorem VE(i:Nat)(hi:ops[i]? = some o)(hc:guardOf ops s.env o=some true)(h:Eff P n o s false (aB P n ops V Q k (L.setIfInBounds i true)))(hr:Region.ready .any ops L=[i]:=by kernel_rfl)(hq:V.contains i=true:=by rfl):aB P n ops V Q (k+1) L s:=dG (q:=false) i hi hr hq hc h
theorem VB{t:Nat}{T E:TypeId}{len:Nat}{l:List (Nat × Operand)}{xs:List Operand}{vs zs cs:List Value}{rows:List (List D)}(i:Nat)(hi:ops[i]? = some ⟨some t,.buildSlice T len l.toArray,ty,pos,af,gd⟩)(hel:elB P T E zs.length=true)(hxs:l.map (·.2)=xs)(hc:guardOf ops env ⟨some t,.buildSlice T len l.toArray,ty,pos,af,gd⟩=some true)(hx:evs env xs=some vs)
   (hb:bld (fun i=>some (i*zs.length,zs.length)) (iL len zs) ((l.map (·.1)).zip vs)=some cs) (hrc:RCs ps zs.length cs rows) (hrl:rows.length=len) (ht:fits n.size (some t)=true)
   (h:∀ ad,aB P n ops V Q k (L.setIfInBounds i true) ⟨(t,true,.slice ad len len)::env,Sh (.slice ad len len) (.sl rows)::ps,hp⟩) (hr:Region.ready .any ops L=[i]:=by kernel_rfl) (hz:ec P E=some zs:=by kernel_rfl) (h0:0<zs.length:=by decide) (hlen:0<len:=by decide) (hsm:len*zs.length≤16777216:=by decide) :
   aB P n ops V Q (k+1) L ⟨env,ps,hp⟩:=aas i hi hr hel hz h0 hlen hsm hxs hc hx hb hrc hrl ht h
theorem WL{q:Bool}{t:Nat}{T E:TypeId}{len:Nat}{l:List (Nat × Operand)}{xs:List Operand}{vs zs cs:List Value}{rows:List (List D)}(hel:elB P T E zs.length=true)(hxs:l.map (·.2)=xs)(hx:evs env xs=some vs)(hb:bld (fun i=>some (i*zs.length,zs.length)) (iL len zs) ((l.map (·.1)).zip vs)=some cs)(hr:RCs ps zs.length cs rows)(hrl:rows.length=len)(ht:fits n (some t)=true)
   (hK:∀ ad,K ⟨(t,true,.slice ad len len)::env,ps,hp++[aP (.slice ad len len) E zs.length rows]⟩) (hz:ec P E=some zs:=by kernel_rfl) (h0:0<zs.length:=by decide) (hlen:0<len:=by decide) (hsm:len*zs.length≤16777216:=by decide) :
   Eff P n ⟨some t,.buildSlice T len l.toArray,ty,pos,af,gd⟩ ⟨env,ps,hp⟩ q K:=aal hel hz h0 hlen hsm hxs hx hb hr hrl ht hK
theorem QC{f:FuncId}{l:List Operand}{ts:Array TypeId}{vs:List Value}(hx:evs s.env l=some vs)(hc:∀ w S fp,St w S fp s.ps s.hp→Calls P f vs.toArray w fun e w'=>e=.returned v∧Below w.heap.size w w')(hf:aX P f=true:=by kernel_rfl) :
   Quiet P n ⟨some d,.call ⟨.value (.func f),l.toArray,ts⟩,ty,pos,af,gd⟩ s v:=jK hf hx hc
theorem Q0{f:FuncId}{l:List Operand}{ts:Array TypeId}{vs:List Value}(hx:evs s.env l=some vs)(h:Con P f vs [] [] fun u _ _=>u=v)(hf:aX P f=true:=by kernel_rfl) :
   Quiet P n ⟨some d,.call ⟨.value (.func f),l.toArray,ts⟩,ty,pos,af,gd⟩ s v:=jK hf hx fun _ _ _ hst=>h.quiet0 hst
theorem Q1{f:FuncId}{l:List Operand}{ts:Array TypeId}{vs:List Value}{r:Per}(hx:evs s.env l=some vs)(h:Con P f vs [r] [] fun u _ _=>u=v)(q:Nat)(hq:s.ps[q]? = some r)(hf:aX P f=true:=by kernel_rfl) :
   Quiet P n ⟨some d,.call ⟨.value (.func f),l.toArray,ts⟩,ty,pos,af,gd⟩ s v:=jK hf hx fun _ _ _ hst=>h.quiet1 (ax q hq) hst
theorem XI{E:TypeId}{y:Operand}{sz e nn cc:Nat}{z:Int}{ad:Option Addr}{rows:List (List D)}(i:Nat)(hT:P.underlying T=some (.slice E))(hk:tyk P E=some (ag,sz))(q:Nat)(hi:ops[i]? = some ⟨some d,.indexAddr T x y,ty,pos,af,gd⟩)(hc:guardOf ops env ⟨some d,.indexAddr T x y,ty,pos,af,gd⟩=some true)(hd:fits n.size (some d)=true)
   (hx:ev env x=some (true,.slice ad nn cc)) (hq:ps[q]? = some (Sh (.slice ad nn cc) (.sl rows))) (hy:ev env y=some (true,.int .i64 z)) (hr:rows[e]? = some row) (hz:z=(e:Int)) (hl:row.length=sz)
   (h:∀ a:Nat × Nat,aB P n ops V Q k (L.setIfInBounds i true) ⟨(d,true,.pointer (some ⟨a.1,a.2,none⟩))::env,cnd true (At a.1 a.2 row)::ps,hp⟩) (hf:cC ops V L i=true:=by kernel_rfl):aB P n ops V Q (k+1) L ⟨env,ps,hp⟩ :=
 dz i hi hf true hc hd (fun _=>ai hT hk hx (.of (ax q hq)) hy hr hz hl) (fun h=>absurd h (by decide)) h
theorem UI{E:TypeId}{y:Operand}{sz e nn cc:Nat}{z:Int}{ad:Option Addr}{rows:List (List D)}(hT:P.underlying T=some (.slice E))(hk:tyk P E=some (ag,sz))(q:Nat)(hc:guardOf ops env ⟨some d,.indexAddr T x y,ty,pos,af,gd⟩=some true)(hd:fits n.size (some d)=true)
   (hx:ev env x=some (true,.slice ad nn cc)) (hq:ps[q]? = some (Sh (.slice ad nn cc) (.sl rows))) (hy:ev env y=some (true,.int .i64 z)) (hr:rows[e]? = some row) (hz:z=(e:Int)) (hl:row.length=sz)
   (h:∀ a:Nat × Nat,aL P n ops Q rest ⟨(d,true,.pointer (some ⟨a.1,a.2,none⟩))::env,cnd true (At a.1 a.2 row)::ps,hp⟩):aL P n ops Q (⟨some d,.indexAddr T x y,ty,pos,af,gd⟩::rest) ⟨env,ps,hp⟩ :=
 bI true hc hd (fun _=>ai hT hk hx (.of (ax q hq)) hy hr hz hl) (fun h=>absurd h (by decide)) h
theorem VT(i w:Nat)(hk:tyk P U=some (ag,m))(q:Nat)(hi:ops[i]? = some ⟨some d,.load U x,ty,pos,af,gd⟩)(h:okU ops env n.size ⟨some d,.load U x,ty,pos,af,gd⟩=true)(hx:ev env x=some (true,.pointer (some ⟨b,p+w,none⟩)))(hq:ps[q]? = some (cnd c (At b p row)))(hc:c=true)(hv:rdD ag m row w=some v)
   (hK:aB P n ops V Q k (L.setIfInBounds i true) ⟨(d,true,v)::env,ps,hp⟩) (hf:cC ops V L i=true:=by kernel_rfl):aB P n ops V Q (k+1) L ⟨env,ps,hp⟩:=bV i hi h (cq (o:=w) hk hx (ax q hq) hc hv) hK hf
theorem US(w:Nat)(hk:tyk P U=some (ag,m))(q:Nat)(h:okU ops env n.size ⟨some d,.load U x,ty,pos,af,gd⟩=true)(hx:ev env x=some (true,.pointer (some ⟨b,p+w,none⟩)))(hq:ps[q]? = some (cnd c (At b p row)))(hc:c=true)(hv:rdD ag m row w=some v)
   (hK:aL P n ops Q rest ⟨(d,true,v)::env,ps,hp⟩):aL P n ops Q (⟨some d,.load U x,ty,pos,af,gd⟩::rest) ⟨env,ps,hp⟩:=aU h (cq (o:=w) hk hx (ax q hq) hc hv) hK
theorem BN(h:Q .normal s)(hr:Region.ready .any ops L=[]:=by kernel_rfl):aB P n ops V Q 0 L s:=xW hr h
theorem LT(hc:guardOf ops s.env o=some true)(h:Eff P n o s true (aL P n ops Q rest)):aL P n ops Q (o::rest) s:=aT hc h
theorem LF(hc:guardOf ops s.env o=some true)(h:Eff P n o s false (aL P n ops Q rest)):aL P n ops Q (o::rest) s:=aT hc h
theorem EC{t:Nat}{f:FuncId}{l:List Operand}{ts:Array TypeId}{vs:List Value}{q:Bool}{R:Value→List Per→List Res→Prop}(lp lh:List Nat)(hx:evs env l=some vs)(hc:Con P f vs (el ps lp) (bT hp lh) R)(hK:∀ v ps' hp',R v ps' hp'→K ⟨(t,true,v)::env,ps'++ps,fD lh hp' 0 hp⟩)
   (hf:aX P f=true:=by kernel_rfl) (ht:fits n (some t)=true:=by rfl) (ok:okH hp lh=true:=by rfl) (hq:(!q || lh.isEmpty)=true:=by rfl):Eff P n ⟨some t,.call ⟨.value (.func f),l.toArray,ts⟩,ty,pos,af,gd⟩ ⟨env,ps,hp⟩ q K:=fe lp lh hf hx ht ok hq hc hK
abbrev ZI:List Value:=[.string .empty,.bool false,.int .i64 0,.int .i64 0,.int .i64 0,.string .empty,.string .empty,.int .i64 0,.slice none 0 0,.slice none 0 0,.slice none 0 0,.slice none 0 0,.slice none 0 0,.slice none 0 0,.slice none 0 0,.slice none 0 0,.int .i64 0,.slice none 0 0,.slice none 0 0,.slice none 0 0,.slice none 0 0,.slice none 0 0,.slice none 0 0,.slice none 0 0,.slice none 0 0,.slice none 0 0]
end
end Go.Sy

namespace Go.Sy
open Go.RowKit Go.Lp
theorem aby{a b:ByteArray}(h:a.toList=b.toList):a=b:=by
 have key:∀ (x:ByteArray),x.toList=x.data.toList:=fun x=>by
   have loop:∀ (n i:Nat) (acc:List UInt8),x.size-i=n→ByteArray.toList.loop x i acc=acc.reverse++x.data.toList.drop i:=by
     intro n
     induction n with
     | zero =>
       intro i acc h
       unfold ByteArray.toList.loop
       have hle:x.data.size≤i:=by have:x.size=x.data.size:=rfl;omega
       rw [if_neg (by omega),List.drop_eq_nil_of_le (by simpa using hle),List.append_nil]
     | succ n ih =>
       intro i acc h
       unfold ByteArray.toList.loop
       have hlt:i<x.size:=by omega
       have hlt':i<x.data.toList.length:=by simpa using hlt
       rw [if_pos hlt,ih (i+1) _ (by omega),List.drop_eq_getElem_cons hlt']
       have:x.get! i=x.data.toList[i]:=by
         show x.data[i]! = _
         rw [getElem!_pos x.data i (by simpa using hlt)];simp
       rw [this];simp
   unfold ByteArray.toList
   rw [loop _ 0 [] rfl];simp
 rw [key,key] at h
 cases a;cases b
 simp only [ByteArray.mk.injEq]
 exact Array.toList_inj.1 h
theorem tr(a b:ByteArray):(a.toList == b.toList)=decide (a=b):=by
 rw [Bool.eq_iff_iff,beq_iff_eq,decide_eq_true_eq]
 exact ⟨aby,fun h=>h ▸ rfl⟩
section
variable {P:Program} {n:Fr} {d:Option Tmp} {ty:TypeId} {pos:String} {af:Array Edge} {gd:Option (Nat × Bool)} {s:Sta} {x y:Operand} {t t':TypeId} {a b:ByteArray}
theorem mB(hx:ev s.env x=some (true,.string a))(hy:ev s.env y=some (true,.string b)):Quiet P n ⟨d,.binOp .eql t x y t',ty,pos,af,gd⟩ s (.bool (decide (a=b))):=tr a b ▸ zG hx hy
theorem aaV(hx:ev s.env x=some (true,.string a))(hy:ev s.env y=some (true,.string b)):Quiet P n ⟨d,.binOp .neq t x y t',ty,pos,af,gd⟩ s (.bool (!decide (a=b))):=tr a b ▸ zK hx hy
theorem zJ(hx:ev s.env x=some (true,.string a))(hy:ev s.env y=some (true,.string b)):Quiet P n ⟨d,.binOp .lss t x y t',ty,pos,af,gd⟩ s (.bool (decide (a.toList<b.toList))) :=
 .run2 hx hy fun ρ w h1 h2=>by
   unfold execOp;dsimp only;rw [h1,h2]
   simp only [eqGuard_at_string,Sem.run_bind,Sem.run_pure,binOp_string_lss,Result.andThen_ok,Go.Proofs.bytesLess_eq]
theorem zH(hx:ev s.env x=some (true,.string a))(hy:ev s.env y=some (true,.string b)):Quiet P n ⟨d,.binOp .geq t x y t',ty,pos,af,gd⟩ s (.bool (!decide (a.toList<b.toList))) :=
 .run2 hx hy fun ρ w h1 h2=>by
   unfold execOp;dsimp only;rw [h1,h2]
   simp only [eqGuard_at_string,Sem.run_bind,Sem.run_pure,binOp_string_geq,Result.andThen_ok,Go.Proofs.bytesLess_eq]
theorem zI(hx:ev s.env x=some (true,.string a))(hy:ev s.env y=some (true,.string b)):Quiet P n ⟨d,.binOp .gtr t x y t',ty,pos,af,gd⟩ s (.bool (!(decide (a.toList<b.toList) || decide (a=b)))) :=
 .run2 hx hy fun ρ w h1 h2=>by
   unfold execOp;dsimp only;rw [h1,h2]
   simp only [eqGuard_at_string,Sem.run_bind,Sem.run_pure,binOp_string_gtr,Result.andThen_ok,Go.Proofs.bytesLess_eq,tr]
end
end Go.Sy

namespace Go.Sy
open Go.RowKit Go.Lp Go.MapKept
open Go.ChangeMaps (setBlock)
section
variable {α β:Type} {κ:α→Value} {ν:β→Value} {m:α→Option β} {P:Program} {kt:TypeId}
variable {n:Fr} {env:Env} {ps:List Per} {hp:List Res} {ty:TypeId} {pos:String} {af:Array Edge} {gd:Option (Nat × Bool)} {K:Sta→Prop} {d:Option Tmp}
variable {c:Code} {Q:Exit→Sta→Prop}
end
end Go.Sy

namespace Go.Sy
open Go.RowKit Go.Lp
section
variable {α β:Type}
def aca(T:TypeId)(sz:Nat)(row:β→List D)(m:α→Option (Sl β)):Res :=
 ⟨fun w S F=>∃ fp:α→ba,(∀ k s,m k=some s→(aP s.val T sz (s.l.map row)).holds w S (fp k))∧(∀ k,m k=none→∀ b,¬ fp k b)∧(∀ k k',k≠k'→∀ b,fp k b→¬ fp k' b)∧∀ b,F b↔∃ k,fp k b,
  fun ⟨fp,h1,h2,h3,h4⟩ k1 k2 k3=>⟨fp,fun k s hk=>(aP s.val T sz (s.l.map row)).mono (h1 k s hk) (fun b hb=>k1 b ((h4 b).2 ⟨k,hb⟩)) k2 k3,h2,h3,h4⟩⟩
variable {T:TypeId} {sz:Nat} {row:β→List D} {m:α→Option (Sl β)} {w:World} {S F:ba}
theorem acy[DecidableEq α](k:α)(s:Sl β)(hm:m k=none)(h:(fa (aca T sz row m) (aP s.val T sz (s.l.map row))).holds w S F):(aca T sz row (fJ m k s)).holds w S F:=by
 obtain ⟨G,H,⟨fp,h1,h2,h3,h4⟩,ho,hd,he⟩:=h
 refine ⟨fun k'=>if k'=k then H else fp k',fun k' s' hs => ?_,fun k' hk' b hb => ?_,fun k1 k2 hne b hb1 hb2 => ?_,fun b => ?_⟩
 · unfold fJ at hs
   by_cases hk:k'=k
   · simp only [if_pos hk] at hs ⊢;obtain rfl:=Option.some.inj hs;exact ho
   · simp only [if_neg hk] at hs ⊢;exact h1 k' s' hs
 · unfold fJ at hk'
   try dsimp only at hb
   by_cases hk:k'=k
   · simp only [if_pos hk] at hk';cases hk'
   · simp only [if_neg hk] at hk' hb;exact h2 k' hk' b hb
 · dsimp only at hb1 hb2
   by_cases e1:k1=k
   · simp only [if_pos e1] at hb1
     simp only [if_neg (show ¬ k2=k from fun e=>hne (e1.trans e.symm))] at hb2
     exact hd b ((h4 b).2 ⟨k2,hb2⟩) hb1
   · simp only [if_neg e1] at hb1
     by_cases e2:k2=k
     · simp only [if_pos e2] at hb2;exact hd b ((h4 b).2 ⟨k1,hb1⟩) hb2
     · simp only [if_neg e2] at hb2;exact h3 k1 k2 hne b hb1 hb2
 · rw [he b]
   constructor
   · rintro (hb | hb)
     · obtain ⟨k',hb⟩:=(h4 b).1 hb
       exact ⟨k',by simp only [if_neg (show ¬ k'=k from fun e=>h2 k (hm) b (e ▸ hb))];exact hb⟩
     · exact ⟨k,by simp only [if_pos rfl];exact hb⟩
   · rintro ⟨k',hb⟩
     try dsimp only at hb
     by_cases hk:k'=k
     · simp only [if_pos hk] at hb;exact .inr hb
     · simp only [if_neg hk] at hb;exact .inl ((h4 b).2 ⟨k',hb⟩)
def acX(row:β→List D)(m:α→Option (Sl β)):Per:=⟨fun w S=>∀ k s,m k=some s→(ShF row s).holds w S,fun h h1 h2 k s hk=>(ShF row s).mono (h k s hk) h1 h2⟩
theorem Ent.key{ps:List Per}{k:α}{s:Sl β}(h:Ent ps (acX row m))(hk:m k=some s):Ent ps (ShF row s):=fun w S hp=>h w S hp k s hk
variable {P:Program} {n:Fr} {env:Env} {ps:List Per} {hp:List Res} {c:Code} {Q:Exit→Sta→Prop}
end
end Go.Sy

namespace Go.Sy
open Go.RowKit Go.Lp Go.MapKept
section
variable {α β:Type} {κ:α→Value} {ν:β→Value} {m:α→Option β} {P:Program} {kt:TypeId} {n:Fr} {env:Env} {ps:List Per} {hp:List Res} {ty:TypeId} {pos:String} {af:Array Edge} {gd:Option (Nat × Bool)} {d:Option Tmp}
end
section
variable {α β:Type} {κ:α→Value} {ν:β→Value} {m:α→Option β} {P:Program} {kt:TypeId} {n:Fr} {env:Env} {ps:List Per} {hp:List Res} {ty:TypeId} {pos:String} {af:Array Edge} {gd:Option (Nat × Bool)} {K:Sta→Prop} {d:Option Tmp}
theorem Quiet.castV{s:Sta}{o:Oper}{v v':Value}(h:Quiet P n o s v)(e:v=v'):Quiet P n o s v':=e ▸ h
end
end Go.Sy

namespace Go.Sy
open Go.RowKit Go.Lp
section
variable {P:Program} {f:FuncId} {args:List Value} {ps:List Per} {X Y:Type} {I:X→Prop} {I':Y→Prop} {l:X→List Res} {l':Y→List Res}
end
def StE(ps:List Per)(hp:List Res)(ps':List Per)(hp':List Res):Prop:=∀ w S fp,St w S fp ps hp→∃ S' fp',St w S' fp' ps' hp'∧(∀ b,S b→S' b)∧(∀ b,S' b→S b∨tot fp hp.length b)∧∀ b,tot fp' hp'.length b→tot fp hp.length b
section
variable {ps ps1 ps2:List Per} {hp hp1 hp2:List Res}
theorem StE.trans(h:StE ps hp ps1 hp1)(k:StE ps1 hp1 ps2 hp2):StE ps hp ps2 hp2:=fun w S fp hst=>by
 obtain ⟨S1,f1,a1,a2,a3,a4⟩:=h w S fp hst
 obtain ⟨S2,f2,b1,b2,b3,b4⟩:=k w S1 f1 a1
 exact ⟨S2,f2,b1,fun b hb=>b2 b (a2 b hb),fun b hb=>(b3 b hb).elim (a3 b) fun h=>.inr (a4 b h),fun b hb=>a4 b (b4 b hb)⟩
theorem StE.of{hp':List Res}{ps':List Per}(h:∀ w S fp,St w S fp ps hp→∃ fp',St w S fp' ps' hp'∧∀ b,tot fp' hp'.length b→tot fp hp.length b):StE ps hp ps' hp':=fun w S fp hst=>by
 obtain ⟨f1,a1,a2⟩:=h w S fp hst
 exact ⟨S,f1,a1,fun _ h=>h,fun _ h=>.inl h,a2⟩
theorem StE.keep(lp lh:List Nat)(ok:okH hp lh=true):StE ps hp (el ps lp) (bT hp lh):=.of fun _ _ _ hst=>by
 obtain ⟨h1,h2⟩:=hst.bT lp lh ok
 exact ⟨_,h1,h2⟩
theorem StE.share(i:Nat){R:Res}(p:Per)(hi:hp[i]? = some R)(h0:∀ w S F,R.holds w S F→p.holds w (fun b=>S b∨F b)):StE ps hp (p::ps) (hp.set i emp):=fun w S fp hst=>by
 have hil:=(List.getElem?_eq_some_iff.1 hi).1
 refine ⟨_,_,qa hst i hi h0,fun _ h=>.inl h,fun b hb=>hb.imp id fun h=>⟨i,hil,h⟩,fun b ⟨j,hj,hb⟩ => ?_⟩
 by_cases hji:j=i
 · simp [hji] at hb
 · simp only [if_neg hji] at hb;exact ⟨j,by simpa using hj,hb⟩
variable {P:Program} {f:FuncId} {args:List Value} {R R':Value→List Per→List Res→Prop}
theorem Con.conv(h:Con P f args ps hp R)(hr:∀ v ps' hp',R v ps' hp'→∃ ps2 hp2,StE ps' hp' ps2 hp2∧R' v ps2 hp2):Con P f args ps hp R':=fun w S fp hst =>
 (h w S fp hst).mono fun e w' ⟨v,ps',hp',S',fp',he,hR,hst',hE,hg⟩=>by
   obtain ⟨ps2,hp2,hS,hR'⟩:=hr _ _ _ hR
   obtain ⟨S2,f2,a1,a2,a3,a4⟩:=hS w' S' fp' hst'
   refine ⟨v,ps2,hp2,S2,f2,he,hR',a1,⟨hE.os,hE.tape,hE.output,hE.size,hE.drawn,hE.block,fun b hb=>a2 b (hE.more b hb),fun b hb => ?_⟩,fun b hb=>hg b (a4 b hb)⟩
   rcases a3 b hb with h1 | h1
   · exact hE.new b h1
   · rcases hg b h1 with h2 | h2
     · exact .inr (.inl h2)
     · exact .inr (.inr h2)
end
end Go.Sy

