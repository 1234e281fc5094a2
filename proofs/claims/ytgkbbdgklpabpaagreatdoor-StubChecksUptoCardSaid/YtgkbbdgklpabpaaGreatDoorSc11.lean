/- Parts of the proof, in build order. No condition. -/
import Derived.Test.YtgkbbdgklpabpaaGreatDoorSc10
import Derived.Lib.Bytealg
import Derived.Test.YtgkbbdgklpabpaaGreatDoorSc07
import Derived.Test.YtgkbbdgklpabpaaGreatDoorSc05
import Derived.Test.YtgkbbdgklpabpaaGreatDoorSc09
import Derived.Test.YtgkbbdgklpabpaaGreatDoorSc06
set_option linter.unusedSimpArgs false
set_option linter.unusedVariables false
set_option maxHeartbeats 20000000
set_option maxRecDepth 20000
namespace Go.Proofs.YtgkbbdgklpabpaaGreatDoor
open Go.RowKit Go.Lp Go.Sy
open Go.Proofs.Tryz
attribute [local irreducible] aL aB awp aC fwp Quiet
theorem gr(n:Int):Con Tryz.prog 122 [.int .i64 n,.int .i64 32,.bool true] [] [] (YB True):=by
 refine EN3 Tryz.func122 rfl (go 2 [0,0,0,0,0,0,0,0] ?_)
 refine aa _ rfl (fun h1 => ?_) (fun h1 => ?_)
 ·skip
  refine go 2 [0] ?_
  refine ae (aK (aj (FZ1 [] Tryz.results122 rfl ?_)))
  exact ⟨⟨rfl,rfl⟩,_,rfl,fun _=>trivial⟩
 ·skip
  refine go 2 [0,0] ?_
  refine aa _ rfl (fun h2 => ?_) (fun h2 => ?_)
  ·skip
   refine go 0 [0,0,0] ?_
   refine aU rfl (vG rfl rfl (by decide)) (go 0 [0,0,0,0,0] ?_)
   refine aG rfl rfl (fun hc=>vG (ah rfl hc) (ah rfl hc) (by decide)) (go 2 [0,0,0] ?_)
   refine ae (aK (aj (FZ1 [] Tryz.results122 rfl ?_)))
   exact ⟨⟨rfl,rfl⟩,_,rfl,fun _=>trivial⟩
  ·skip
   refine go 0 [0,0,0,0,0,0,0,0] ?_
   refine aG rfl rfl (fun hc=>vG (ah rfl hc) (ah rfl hc) (by decide)) (go 2 [0,0,0,0] ?_)
   refine ae (FZ1 [] Tryz.results122 rfl ?_)
   exact ⟨⟨rfl,rfl⟩,_,rfl,fun _=>trivial⟩
theorem aaA (op a b c m:Int):Con Tryz.prog 242 [.agg (zc op a b c m).toArray] [] [] (YB True):=by
 refine EN1 Tryz.func242 rfl (aSR (LT rfl (aS rfl rfl rfl (fun b0_0=>(aHN ?_)))))
 refine go 0 [0,4,0] ?_
 refine aU rfl (ee rfl rfl (by decide)) (go 2 [0,0,0,0,0,0] ?_)
 refine aa _ rfl (fun h1 => ?_) (fun h1 => ?_)
 ·skip
  refine aD (an ?_)
  refine aa _ rfl (fun _ => ?_) (fun h=>absurd (h1.symm.trans h) (by decide))
  refine go 0 [0,0,4,0] ?_
  refine aE (caps:=[]) [] (false) (by kernel_rfl) _ rfl rfl (fun _=>rfl) (fun hc=>(ao (ah rfl hc) (ao (ah rfl rfl) (ao (ah rfl rfl) rfl)))) (fun hc=>by rw [List.append_nil];exact gr _) (fun c1 hc1 => ?_)
  refine go 2 [0,0] ?_
  refine ae (aK (aj (FZ1 [] Tryz.results242 rfl ?_)))
  exact ⟨⟨rfl,rfl⟩,_,rfl,fun _=>trivial⟩
 ·skip
  refine go 2 [0,0] ?_
  refine aa _ rfl (fun h2 => ?_) (fun h2 => ?_)
  ·skip
   refine aD (an ?_)
   refine aa _ rfl (fun _ => ?_) (fun h=>absurd (h2.symm.trans h) (by decide))
   refine go 0 [0,0,4,0] ?_
   refine aE (caps:=[]) [] (false) (by kernel_rfl) _ rfl rfl (fun _=>rfl) (fun hc=>(ao (ah rfl hc) (ao (ah rfl rfl) (ao (ah rfl rfl) rfl)))) (fun hc=>by rw [List.append_nil];exact gr _) (fun c1 hc1 => ?_)
   refine go 2 [0,0] ?_
   refine ae (aK (aj (FZ1 [] Tryz.results242 rfl ?_)))
   exact ⟨⟨rfl,rfl⟩,_,rfl,fun _=>trivial⟩
  ·skip
   refine go 2 [0,0] ?_
   refine aa _ rfl (fun h3 => ?_) (fun h3 => ?_)
   ·skip
    refine aD (an ?_)
    refine aa _ rfl (fun _ => ?_) (fun h=>absurd (h3.symm.trans h) (by decide))
    refine go 0 [0,0,4,0] ?_
    refine aE (caps:=[]) [] (false) (by kernel_rfl) _ rfl rfl (fun _=>rfl) (fun hc=>(ao (ah rfl hc) (ao (ah rfl rfl) (ao (ah rfl rfl) rfl)))) (fun hc=>by rw [List.append_nil];exact gr _) (fun c1 hc1 => ?_)
    refine go 2 [0,0] ?_
    refine ae (aK (aj (FZ1 [] Tryz.results242 rfl ?_)))
    exact ⟨⟨rfl,rfl⟩,_,rfl,fun _=>trivial⟩
   ·skip
    refine go 2 [0,0] ?_
    refine aa _ rfl (fun h4 => ?_) (fun h4 => ?_)
    ·skip
     refine aD (an ?_)
     refine aa _ rfl (fun _ => ?_) (fun h=>absurd (h4.symm.trans h) (by decide))
     refine go 0 [0,0,4,0] ?_
     refine aE (caps:=[]) [] (false) (by kernel_rfl) _ rfl rfl (fun _=>rfl) (fun hc=>(ao (ah rfl hc) (ao (ah rfl rfl) (ao (ah rfl rfl) rfl)))) (fun hc=>by rw [List.append_nil];exact gr _) (fun c1 hc1 => ?_)
     refine go 2 [0,0] ?_
     refine ae (aK (aj (FZ1 [] Tryz.results242 rfl ?_)))
     exact ⟨⟨rfl,rfl⟩,_,rfl,fun _=>trivial⟩
    ·skip
     refine go 2 [0,0] ?_
     refine aa _ rfl (fun h5 => ?_) (fun h5 => ?_)
     ·skip
      refine go 0 [0,0,4,0] ?_
      refine aE (caps:=[]) [] (false) (by kernel_rfl) _ rfl rfl (fun _=>rfl) (fun hc=>(ao (ah rfl hc) (ao (ah rfl rfl) (ao (ah rfl rfl) rfl)))) (fun hc=>by rw [List.append_nil];exact gr _) (fun c1 hc1 => ?_)
      refine go 2 [0,0] ?_
      refine ae (aK (aj (FZ1 [] Tryz.results242 rfl ?_)))
      exact ⟨⟨rfl,rfl⟩,_,rfl,fun _=>trivial⟩
     ·skip
      refine go 2 [0,0] ?_
      refine aa _ rfl (fun h6 => ?_) (fun h6 => ?_)
      ·skip
       refine go 2 [0,0,4,0,0,0,0,4,0,0,0,0] ?_
       refine ae (aK (aj (FZ1 [] Tryz.results242 rfl ?_)))
       exact ⟨⟨rfl,rfl⟩,_,rfl,fun _=>trivial⟩
      ·skip
       refine go 2 [0,0] ?_
       refine aa _ rfl (fun h7 => ?_) (fun h7 => ?_)
       ·skip
        refine go 2 [4,0,0,0,4,0,0,0,0] ?_
        refine ae (aK (aj (FZ1 [] Tryz.results242 rfl ?_)))
        exact ⟨⟨rfl,rfl⟩,_,rfl,fun _=>trivial⟩
       ·skip
        refine go 0 [4,0] ?_
        refine aE (caps:=[]) [] (false) (by kernel_rfl) true rfl rfl (fun _=>rfl) (fun hc=>rfl) (fun hc=>by rw [List.append_nil];exact gr _) (fun c2 hc2 => ?_)
        refine go 2 [0] ?_
        refine ae (FZ1 [] Tryz.results242 rfl ?_)
        exact ⟨⟨rfl,rfl⟩,_,rfl,fun _=>trivial⟩
theorem wu(b:Nat)(ch:UInt8):Con Tryz.prog 243 [.pointer (some ⟨b,0,none⟩),.int .u8 ch.toNat] [] [] fun r _ _=>r=.pointer (some ⟨b,uH ch,none⟩):=by
 have e1:=aai ch 65
 have e2:=aai ch 66
 have e3:=aai ch 67
 refine EN2 Tryz.func243 rfl (go 2 [0,0,0,0] ?_)
 refine aa _ rfl (fun h1 => ?_) (fun h1 => ?_)
 ·skip
  refine go 2 [0,0,1,0] ?_
  refine ae (aK (aj (FZ1 [] Tryz.results243 rfl ?_)))
  have g1:=e1.symm.trans (show ((ch.toNat:Int)=(65:UInt8).toNat↔(ch.toNat:Int)=65) from Iff.rfl)
  have g2:=e2.symm.trans (show ((ch.toNat:Int)=(66:UInt8).toNat↔(ch.toNat:Int)=66) from Iff.rfl)
  have g3:=e3.symm.trans (show ((ch.toNat:Int)=(67:UInt8).toNat↔(ch.toNat:Int)=67) from Iff.rfl)
  simp only [decide_eq_true_eq,decide_eq_false_iff_not] at *
  unfold uH
  simp_all
 ·skip
  refine go 2 [0,0] ?_
  refine aa _ rfl (fun h2 => ?_) (fun h2 => ?_)
  ·skip
   refine go 2 [0,0,2,0] ?_
   refine ae (aK (aj (FZ1 [] Tryz.results243 rfl ?_)))
   have g1:=e1.symm.trans (show ((ch.toNat:Int)=(65:UInt8).toNat↔(ch.toNat:Int)=65) from Iff.rfl)
   have g2:=e2.symm.trans (show ((ch.toNat:Int)=(66:UInt8).toNat↔(ch.toNat:Int)=66) from Iff.rfl)
   have g3:=e3.symm.trans (show ((ch.toNat:Int)=(67:UInt8).toNat↔(ch.toNat:Int)=67) from Iff.rfl)
   simp only [decide_eq_true_eq,decide_eq_false_iff_not] at *
   unfold uH
   simp_all
  ·skip
   refine go 2 [0,0] ?_
   refine aa _ rfl (fun h3 => ?_) (fun h3 => ?_)
   ·skip
    refine go 2 [0,0,3,0] ?_
    refine ae (aK (aj (FZ1 [] Tryz.results243 rfl ?_)))
    have g1:=e1.symm.trans (show ((ch.toNat:Int)=(65:UInt8).toNat↔(ch.toNat:Int)=65) from Iff.rfl)
    have g2:=e2.symm.trans (show ((ch.toNat:Int)=(66:UInt8).toNat↔(ch.toNat:Int)=66) from Iff.rfl)
    have g3:=e3.symm.trans (show ((ch.toNat:Int)=(67:UInt8).toNat↔(ch.toNat:Int)=67) from Iff.rfl)
    simp only [decide_eq_true_eq,decide_eq_false_iff_not] at *
    unfold uH
    simp_all
   ·skip
    refine go 2 [0,0,4,0] ?_
    refine ae (FZ1 [] Tryz.results243 rfl ?_)
    have g1:=e1.symm.trans (show ((ch.toNat:Int)=(65:UInt8).toNat↔(ch.toNat:Int)=65) from Iff.rfl)
    have g2:=e2.symm.trans (show ((ch.toNat:Int)=(66:UInt8).toNat↔(ch.toNat:Int)=66) from Iff.rfl)
    have g3:=e3.symm.trans (show ((ch.toNat:Int)=(67:UInt8).toNat↔(ch.toNat:Int)=67) from Iff.rfl)
    simp only [decide_eq_true_eq,decide_eq_false_iff_not] at *
    unfold uH
    simp_all
theorem tu(s:ByteArray)(c:UInt8)(w:World):(Extern.BytealgIndexByte.indexByte #[.string s,.int .u8 c.toNat]).run Tryz.prog w=.ok (.int .i64 (Lib.indexByte s.data.toList c)) w:=by
 have:=Lib.run_indexByteString (P:=Tryz.prog) s (c.toNat:Int) w
 rwa [show ((c.toNat:Int).toNat).toUInt8=c by simp] at this
theorem tJ(s:ByteArray)(c:UInt8):Con Tryz.prog 265 [.string s,.int .u8 c.toNat] [] [] fun r _ _=>r=.int .i64 (Lib.indexByte s.data.toList c):=by
 refine EN2 Tryz.func265 rfl (go 0 [0,0,0] ?_)
 refine aU rfl (acz (vs:=_) Tryz.func271 rfl rfl (by kernel_rfl) (by kernel_rfl) rfl (fun w=>tu s c w)) (go 2 [0] ?_)
 refine ae (FZ1 [] Tryz.results265 rfl ?_)
 rfl
theorem wy(s:ByteArray)(c:UInt8):Con Tryz.prog 244 [.string s,.int .u8 c.toNat] [] [] fun r _ _=>r=.int .i64 (Lib.indexByte s.data.toList c):=by
 refine EN2 Tryz.func244 rfl (go 0 [0,0,0] ?_)
 refine aU rfl (Q0 rfl (tJ s c)) (go 2 [0] ?_)
 refine ae (FZ1 [] Tryz.results244 rfl ?_)
 rfl
def bC:Per:=At 1 0 (nw.map D.v)
theorem tL(op a b c m:Int):Con Tryz.prog 211 [.agg (zc op a b c m).toArray] [bC] [] (YB True):=by
 refine EN1 Tryz.func211 rfl (aSR (LT rfl (aS rfl rfl rfl (fun b0_0=>(aHN ?_)))))
 refine go 0 [0,0,0,0,0,0,0,0,0,0,13824] ?_
 refine aE (caps:=[]) [] (false) (by kernel_rfl) _ rfl rfl (fun _=>rfl) (fun hc=>(ao (ah rfl hc) rfl)) (fun hc=>by rw [List.append_nil];exact aaA _ _ _ _ _) (fun c1 hc1 => ?_)
 refine go 2 [0,0] ?_
 refine aa _ rfl (fun h1 => ?_) (fun h1 => ?_)
 ·skip
  refine go 2 [0] ?_
  refine ae (aj (FZ1 [] Tryz.results211 rfl ?_))
  exact ⟨⟨rfl,rfl⟩,_,rfl,fun _=>trivial⟩
 ·skip
  have hop:op<31∧0<op:=by simp at h1;omega
  obtain ⟨k0,rfl⟩:=Int.eq_ofNat_of_zero_le (show 0≤op by omega)
  refine aD (an (aq (aSR (LT rfl (WL (zs:=[.int .u8 0]) el185 rfl rfl rfl (.more rfl (.v rfl .nil) (.more rfl (.v rfl .nil) (.more rfl (.v rfl .nil) (.more rfl (.v rfl .nil) .nil)))) rfl rfl (fun v3_0=>(aHN ?_)))))))
  refine aT rfl (aaI 1 Tryz.underlying185 Tryz.underlying5 rfl rfl rfl (by simp) ?_)
  refine aHK ?_
  refine go 3 [5,0] ?_
  refine aF [1,21,22,23] [1,0] [0] (fun (k:Nat) s=>k≤4∧s=⟨[(1,true,.pointer (some ⟨b0_0,0,none⟩)),(21,true,.slice v3_0 4 4),(22,true,.int .i64 (4:Nat)),(23,true,.int .i64 k)],[Sh (.slice v3_0 4 4) (.sl rC),bC],[Box b0_0 217 (zc k0 a b c m)]⟩) (fun k=>4-k) rfl (⟨0,Nat.zero_le _,rfl⟩) ?_
  rintro k s ⟨hk,rfl⟩
  refine go 3 [0] ?_
  refine aa _ rfl (fun h2 => ?_) (fun h2 => ?_)
  ·skip
   have hk':k<4:=by simp at h2;omega
   obtain ⟨ch,hch,hrow⟩:=yd hk'
   refine aD (an (aq (aH (aSR (bI true rfl rfl (fun _=>eV Tryz.underlying185 tk5 rfl (ax 0 rfl) rfl (row:=[.v (.int .u8 ch.toNat)]) hrow rfl rfl) (fun h=>absurd h (by decide)) (fun ⟨b5_0,o5_0⟩=>(aU rfl (cq (o:=0) (v:=.int .u8 ch.toNat) tk5 rfl (ax 0 rfl) rfl rfl) (go 0 [0,0] ?_))))))))
   refine aU rfl (Q0 rfl (wu b0_0 ch)) (go 0 [0] ?_)
   refine aU rfl (fq 0 tk3 rfl rfl (zd k0 a b c m ch)) (go 0 [0,0,0] ?_)
   refine aU rfl (iK (k0) Tryz.underlying308 tk307 rfl rfl (rfl) ((by omega))) (go 0 [1] ?_)
   refine aU rfl (aaT (k0*4+1) tk9 rfl (ax 2 rfl) (by omega) (zN (uA (by omega)))) (aM rfl (aU rfl (Q0 rfl (wy _ ch)) (go 2 [0,0,0,0,0,0,0,0,0,0,0,0,0,0,0,0,0,0,0,0] ?_)))
   refine aa _ rfl (fun h3 => ?_) (fun h3 => ?_)
   ·skip
    refine go 2 [0] ?_
    refine ae (aK (aj (aj (aK (aj (FZ1 [] Tryz.results211 rfl ?_))))))
    exact ⟨⟨rfl,rfl⟩,_,rfl,fun _=>trivial⟩
   ·skip
    refine go 1 [0,0] ?_
    refine an ?_
    refine ⟨[1,21,22,23],[1,0],[0],rfl,?_⟩
    exact ⟨k+1,⟨by omega,rfl⟩,by omega⟩
  ·skip
   refine go 2 [0] ?_
   refine ae (FZ1 [] Tryz.results211 rfl ?_)
   exact ⟨⟨rfl,rfl⟩,_,rfl,fun _=>trivial⟩
theorem sd(s:ByteArray)(hs:s.size≤maxLen)(at_:Int):Con Tryz.prog 241 [.string s,.int .i64 at_,.int .i64 4] [] [] (fun r _ _=>r=.bool (decide (at_≥0) && decide (at_≤s.size-4))):=by
 have hs':s.size≤9223372036854775807:=hs
 refine EN3 Tryz.func241 rfl (go 2 [0,0,0,0] ?_)
 refine aa _ rfl (fun h1 => ?_) (fun h1 => ?_)
 ·skip
  exact absurd h1 (by decide)
 ·skip
  refine go 2 [0,0] ?_
  refine aa _ rfl (fun h2 => ?_) (fun h2 => ?_)
  ·skip
   exact absurd h2 (by decide)
  ·skip
   refine go 2 [0,0] ?_
   refine aa _ rfl (fun h3 => ?_) (fun h3 => ?_)
   ·skip
    refine aD (an ?_)
    refine aa _ rfl (fun _ => ?_) (fun h=>absurd (h3.symm.trans h) (by decide))
    refine go 2 [0,0,0,0,0,0,0,0,0,0,0] ?_
    refine ae (aK (aj (FZ1 [] Tryz.results241 rfl ?_)))
    rfl
   ·skip
    exact absurd h3 (by decide)
theorem yS(s:ByteArray)(hs:s.size≤maxLen)(at_:Int):Con Tryz.prog 210 [.string s,.int .i64 at_,.int .i64 4,.bool true] [] [] (fun r ps hp=>ps=[]∧hp=[]∧∃ (z:Int) (b:Bool),r=.tuple #[.int .i64 z,.bool b]):=by
 have hs':s.size≤9223372036854775807:=hs
 refine EN4 Tryz.func210 rfl (go 0 [0,0,0,0,0] ?_)
 refine aU rfl (Q0 rfl (sd s hs at_)) (go 2 [0] ?_)
 refine aa _ rfl (fun h1 => ?_) (fun h1 => ?_)
 ·skip
  refine go 2 [0,0] ?_
  refine ae (aj (FZ2 [] Tryz.results210 rfl rfl ?_))
  exact ⟨rfl,rfl,_,_,rfl⟩
 ·skip
  have hat:0≤at_∧at_+4≤s.size:=by simp at h1;omega
  refine go 3 [0,0,0] ?_
  refine aF [0,1,2,3,10,18,19] [] [] (fun (q:Nat × Int) st=>q.1≤4∧st=⟨[(0,true,.string s),(1,true,.int .i64 at_),(2,true,.int .i64 4),(3,true,.bool true),(10,true,.int .u64 q.2),(18,true,.int .i64 4),(19,true,.int .i64 q.1)],[],[]⟩) (fun q=>4-q.1) rfl (⟨(0,0),Nat.zero_le _,rfl⟩) ?_
  rintro ⟨k,z⟩ st ⟨hk,rfl⟩
  dsimp only at hk
  refine go 3 [0] ?_
  refine aa _ rfl (fun h2 => ?_) (fun h2 => ?_)
  ·skip
   have hk':k<4:=by simp at h2;omega
   obtain ⟨k0,hk0⟩:=Int.eq_ofNat_of_zero_le (show 0≤at_+k by omega)
   obtain ⟨u,hu⟩:∃ u,s.data.toList[k0]? = some u:=⟨_,List.getElem?_eq_getElem (by show k0<s.data.toList.length;simp;show k0<s.size;omega)⟩
   refine go 0 [0,0,0,0,0,0,0] ?_
   refine aU rfl (et (k0) Tryz.underlying9 rfl rfl (hk0) (hu)) (aU rfl (ey (by kernel_rfl) Tryz.underlying196 rfl) (go 0 [0,0] ?_))
   refine aU rfl (abn rfl rfl (by omega)) (aU rfl (acC rfl rfl) (go 1 [0,0,0] ?_))
   refine an ?_
   refine ⟨[0,1,2,3,10,18,19],[],[],rfl,?_⟩
   exact ⟨(k+1,_),⟨by dsimp only;omega,rfl⟩,by dsimp only;omega⟩
  ·skip
   refine go 2 [0] ?_
   refine aa _ rfl (fun h3 => ?_) (fun h3 => ?_)
   ·skip
    refine go 0 [0,0,0,0,0,0] ?_
    refine aU rfl (abn rfl rfl (by omega)) (aU rfl (ey (by kernel_rfl) Tryz.underlying3 rfl) (aM rfl (aU rfl (vG rfl rfl (by omega)) (go 2 [0,0] ?_))))
    refine ae (aj (FZ2 [] Tryz.results210 rfl rfl ?_))
    exact ⟨rfl,rfl,_,_,rfl⟩
   ·skip
    refine go 0 [0] ?_
    refine aU rfl (ey (by kernel_rfl) Tryz.underlying3 rfl) (go 2 [0,0] ?_)
    refine ae (FZ2 [] Tryz.results210 rfl rfl ?_)
    exact ⟨rfl,rfl,_,_,rfl⟩
theorem tG(s:ByteArray)(hs:s.size≤maxLen)(at_:Int):Con Tryz.prog 149 [.string s,.int .i64 at_] [bC] [] (fun r ps hp=>ps=[]∧hp=[]∧∃ (op a b c m:Int) (ok:Bool),r=.tuple #[.agg (zc op a b c m).toArray,.bool ok]):=by
 have hs':s.size≤9223372036854775807:=hs
 have hu:∀ z:Int,0≤z→z<s.size→∃ (k0:Nat) (u:UInt8),z=k0∧s.data.toList[k0]? = some u:=fun z h0 h1=>by
   obtain ⟨k0,rfl⟩:=Int.eq_ofNat_of_zero_le h0
   exact ⟨k0,_,rfl,List.getElem?_eq_getElem (by show k0<s.data.toList.length;simp;show k0<s.size;omega)⟩
 refine EN2 Tryz.func149 rfl (aSR (LT rfl (aW (zs:=[.int .i64 0,.int .i64 0,.int .i64 0,.int .i64 0,.int .i64 0]) (by kernel_rfl) rfl (fun b0_0=>(aHN ?_)))))
 refine go 2 [0,0,0,0,0,0,0,0,0,0] ?_
 refine aa _ rfl (fun h1 => ?_) (fun h1 => ?_)
 ·skip
  refine aSR (aU rfl (bP (l:=[]) (zs:=[.int .i64 0,.int .i64 0,.int .i64 0,.int .i64 0,.int .i64 0]) (pl:=[(0,1),(1,1),(2,1),(3,1),(4,1)]) (by kernel_rfl) (by kernel_rfl) (by kernel_rfl) rfl rfl rfl) (go 2 [13824,0] ?_))
  refine ae (aj ?_)
  refine lS [] [] rfl Tryz.results149 (ef 0 tk217 rfl rfl rfl) (jN rfl) ?_ (.inr rfl)
  exact ⟨rfl,rfl,_,_,_,_,_,_,rfl⟩
 ·skip
  have hat:0≤at_∧at_+8≤s.size:=by simp at h1;omega
  obtain ⟨k0,u0,e0,hu0⟩:=hu at_ (by omega) (by omega)
  obtain ⟨k1,u1,e1,hu1⟩:=hu (at_+1) (by omega) (by omega)
  obtain ⟨k2,u2,e2,hu2⟩:=hu (at_+2) (by omega) (by omega)
  obtain ⟨k3,u3,e3,hu3⟩:=hu (at_+3) (by omega) (by omega)
  refine go 0 [0,0,0] ?_
  refine LT rfl (EC [] [] rfl (yS s hs _) ?_)
  rintro _ _ _ ⟨rfl,rfl,m,gb,rfl⟩
  refine aST ?_
  refine go 3 [0,0,0,0,0] ?_
  refine DR [22] 23 (VM 0 rfl rfl (VM 1 rfl rfl (bV 2 rfl rfl (et (k0) Tryz.underlying9 rfl rfl (e0) (hu0)) (bV 3 rfl rfl (ey (by kernel_rfl) Tryz.underlying3 rfl) (go 0 [0,0,0] ?_)))))
  refine bV 7 rfl rfl (et (k1) Tryz.underlying9 rfl rfl (e1) (hu1)) (bV 8 rfl rfl (ey (by kernel_rfl) Tryz.underlying3 rfl) (go 0 [0,0,0] ?_))
  refine bV 12 rfl rfl (et (k2) Tryz.underlying9 rfl rfl (e2) (hu2)) (bV 13 rfl rfl (ey (by kernel_rfl) Tryz.underlying3 rfl) (go 0 [0,0,0] ?_))
  refine bV 17 rfl rfl (et (k3) Tryz.underlying9 rfl rfl (e3) (hu3)) (bV 18 rfl rfl (ey (by kernel_rfl) Tryz.underlying3 rfl) (VM 19 rfl rfl (bV 20 rfl rfl (bP (l:=[(0,.tmp 29),(1,.tmp 34),(2,.tmp 39),(3,.tmp 44),(4,.tmp 45)]) (zs:=[.int .i64 0,.int .i64 0,.int .i64 0,.int .i64 0,.int .i64 0]) (pl:=[(0,1),(1,1),(2,1),(3,1),(4,1)]) (by kernel_rfl) (by kernel_rfl) (by kernel_rfl) rfl rfl rfl) (dG (q:=true) 21 rfl (by kernel_rfl) rfl rfl (aW (zs:=[.int .i64 0,.int .i64 0,.int .i64 0,.int .i64 0,.int .i64 0]) (by kernel_rfl) rfl (fun b4_21=>(bST rfl ?_)))))))
  refine go 0 [7,13827,0,0,0,13827] ?_
  refine aE (caps:=[]) [0] (false) (by kernel_rfl) _ rfl rfl (fun _=>rfl) (fun hc=>(ao (ah rfl hc) rfl)) (fun hc=>by rw [List.append_nil];exact tL _ _ _ _ _) (fun c1 hc1 => ?_)
  refine go 2 [0,0] ?_
  refine aa _ rfl (fun h2 => ?_) (fun h2 => ?_)
  ·skip
   refine aSR (aU rfl (bP (l:=[]) (zs:=[.int .i64 0,.int .i64 0,.int .i64 0,.int .i64 0,.int .i64 0]) (pl:=[(0,1),(1,1),(2,1),(3,1),(4,1)]) (by kernel_rfl) (by kernel_rfl) (by kernel_rfl) rfl rfl rfl) (go 2 [13824,0] ?_))
   refine ae (aj ?_)
   refine lS [] [] rfl Tryz.results149 (ef 0 tk217 rfl rfl rfl) (jN rfl) ?_ (.inr rfl)
   exact ⟨rfl,rfl,_,_,_,_,_,_,rfl⟩
  ·skip
   refine go 2 [13827,13824,0] ?_
   refine ae ?_
   refine lS [] [] rfl Tryz.results149 (ef 0 tk217 rfl rfl rfl) (jN rfl) ?_ (.inr rfl)
   exact ⟨rfl,rfl,_,_,_,_,_,_,rfl⟩
end Go.Proofs.YtgkbbdgklpabpaaGreatDoor

namespace Go.Proofs.YtgkbbdgklpabpaaGreatDoor
open Go.RowKit Go.Lp Go.Sy
theorem xQ(k:Int):dN k≠0:=by unfold dN;split<;>(try split)<;>decide
def mn(k:Int):List Int:=if k=5 then [14,19,20,21] else if k=6 then [22] else if k=7 then [24,25] else if k=8 then [3] else if k=9 then [4] else if k=10 then [13,3] else []
structure rz (o:aI) (r:eu):Prop where
 sec:0≤r.sec∧r.sec<o.secs.l.length
 kind:0≤r.kind∧r.kind<13
 at_:0≤r.at_∧r.at_<(elt o.secs.l r.sec).size∧r.at_≤IntKind.i64.wrap ((elt o.secs.l r.sec).size-dN r.kind)
 add : -2147483648≤r.add∧r.add<2147483648
 code:mn r.kind≠[]→(elt o.secs.l r.sec).kind=0∧r.at_.tmod 8=0
 data:mn r.kind=[]→(elt o.secs.l r.sec).kind=1
theorem xq{k:Int}(h:mn k≠[]):dN k=8:=by unfold mn at h;unfold dN;(repeat' split at h)<;>first | (subst_vars;rfl) | exact absurd rfl h
theorem aav{P:Program}{n:Fr}{Q:Exit→Sta→Prop}{s:Sta}{c:Code}{ad:Option Addr}{m cp:Nat}{rows:List (List D)}(hs:Ent s.ps (Sh (.slice ad m cp) (.sl rows)))(h:(rows≠[]→ad≠none)→awp P n c Q s):awp P n c Q s :=
 gp (fun w S fp hst hne h0=>by
   have h1:dT w S _ _:=hs w S hst.per
   subst h0
   cases h1 with
   | e=>exact hne rfl) h
open Go.Proofs.Tryz
attribute [local irreducible] aL aB awp aC fwp Quiet
theorem aaC(k:Int):Con Tryz.prog 148 [.int .i64 k] [] [] fun r ps hp=>hp=[]∧∃ l:Sl Int,(r=l.val∧ps=[ShF bd l])∧l.l=mn k∧(mn k=[]→l.ad=none):=by
 refine Con.conv (R:=fun r ps hp=>ps=[]∧((r=.slice none 0 0∧hp=[]∧mn k=[])∨∃ (ad:Option Addr) (zs:List Int),r=.slice ad zs.length zs.length∧hp=[aP (.slice ad zs.length zs.length) 3 1 (zs.map bd)]∧mn k=zs∧zs≠[])) ?_ fun _ _ _ ⟨h1,h⟩ => ?_
 rotate_left
 · subst h1
   rcases h with ⟨h2,h3,h4⟩ | ⟨ad,zs,h2,h3,h4,h5⟩
   · subst h2 h3
     refine ⟨_,_,StE.ents (ps':=[ShF bd ⟨none,0,[]⟩]) fun p hp => ?_,rfl,⟨none,0,[]⟩,⟨rfl,rfl⟩,h4.symm,fun _=>rfl⟩
     rw [List.mem_singleton.1 hp]
     exact fun _ _ _=>.e none 0 (by unfold maxLen;omega)
   · subst h2 h3
     exact ⟨_,_,(StE.share 0 (ShF bd ⟨ad,zs.length,zs⟩) rfl fun _ _ _ h=>db h).trans (StE.keep [0] [] rfl),rfl,⟨ad,zs.length,zs⟩,⟨rfl,rfl⟩,h4.symm,fun h=>absurd (h4.symm.trans h) h5⟩
 refine EN1 Tryz.func148 rfl (go 2 [0,0,0,0] ?_)
 refine aa _ rfl (fun h1 => ?_) (fun h1 => ?_)
 ·skip
  refine aSR (LT rfl (WL (zs:=[.int .i64 0]) el33 rfl rfl rfl (.more rfl (.v rfl .nil) (.more rfl (.v rfl .nil) (.more rfl (.v rfl .nil) (.more rfl (.v rfl .nil) .nil)))) rfl rfl (fun v3_0=>(aHN ?_))))
  refine go 2 [0] ?_
  refine ae (aK (aj (FZ1 [0] Tryz.results148 rfl ?_)))
  have:k=5:=by simpa using h1
  subst this
  exact ⟨rfl,.inr ⟨v3_0,[14,19,20,21],rfl,rfl,rfl,by simp⟩⟩
 ·skip
  refine go 2 [0,0] ?_
  refine aa _ rfl (fun h2 => ?_) (fun h2 => ?_)
  ·skip
   refine aSR (LT rfl (WL (zs:=[.int .i64 0]) el33 rfl rfl rfl (.more rfl (.v rfl .nil) .nil) rfl rfl (fun v5_0=>(aHN ?_))))
   refine go 2 [0] ?_
   refine ae (aK (aj (FZ1 [0] Tryz.results148 rfl ?_)))
   have:k=6:=by simpa using h2
   subst this
   exact ⟨rfl,.inr ⟨v5_0,[22],rfl,rfl,rfl,by simp⟩⟩
  ·skip
   refine go 2 [0,0] ?_
   refine aa _ rfl (fun h3 => ?_) (fun h3 => ?_)
   ·skip
    refine aSR (LT rfl (WL (zs:=[.int .i64 0]) el33 rfl rfl rfl (.more rfl (.v rfl .nil) (.more rfl (.v rfl .nil) .nil)) rfl rfl (fun v7_0=>(aHN ?_))))
    refine go 2 [0] ?_
    refine ae (aK (aj (FZ1 [0] Tryz.results148 rfl ?_)))
    have:k=7:=by simpa using h3
    subst this
    exact ⟨rfl,.inr ⟨v7_0,[24,25],rfl,rfl,rfl,by simp⟩⟩
   ·skip
    refine go 2 [0,0] ?_
    refine aa _ rfl (fun h4 => ?_) (fun h4 => ?_)
    ·skip
     refine aSR (LT rfl (WL (zs:=[.int .i64 0]) el33 rfl rfl rfl (.more rfl (.v rfl .nil) .nil) rfl rfl (fun v9_0=>(aHN ?_))))
     refine go 2 [0] ?_
     refine ae (aK (aj (FZ1 [0] Tryz.results148 rfl ?_)))
     have:k=8:=by simpa using h4
     subst this
     exact ⟨rfl,.inr ⟨v9_0,[3],rfl,rfl,rfl,by simp⟩⟩
    ·skip
     refine go 2 [0,0] ?_
     refine aa _ rfl (fun h5 => ?_) (fun h5 => ?_)
     ·skip
      refine aSR (LT rfl (WL (zs:=[.int .i64 0]) el33 rfl rfl rfl (.more rfl (.v rfl .nil) .nil) rfl rfl (fun v11_0=>(aHN ?_))))
      refine go 2 [0] ?_
      refine ae (aK (aj (FZ1 [0] Tryz.results148 rfl ?_)))
      have:k=9:=by simpa using h5
      subst this
      exact ⟨rfl,.inr ⟨v11_0,[4],rfl,rfl,rfl,by simp⟩⟩
     ·skip
      refine go 2 [0,0] ?_
      refine aa _ rfl (fun h6 => ?_) (fun h6 => ?_)
      ·skip
       refine aSR (LT rfl (WL (zs:=[.int .i64 0]) el33 rfl rfl rfl (.more rfl (.v rfl .nil) (.more rfl (.v rfl .nil) .nil)) rfl rfl (fun v13_0=>(aHN ?_))))
       refine go 2 [0] ?_
       refine ae (aK (aj (FZ1 [0] Tryz.results148 rfl ?_)))
       have:k=10:=by simpa using h6
       subst this
       exact ⟨rfl,.inr ⟨v13_0,[13,3],rfl,rfl,rfl,by simp⟩⟩
      ·skip
       refine go 2 [0] ?_
       refine ae (FZ1 [] Tryz.results148 rfl ?_)
       exact ⟨rfl,.inl ⟨rfl,rfl,by simp at h1 h2 h3 h4 h5 h6;unfold mn;simp [*]⟩⟩
theorem wK(x y:eu)(p:Per):Con Tryz.prog 150 [x.val,y.val] [p] [] (YB True):=by
 refine EN2 Tryz.func150 rfl (aSR (LT rfl (aS rfl rfl rfl (fun b0_0=>(aHN ?_)))))
 refine LT rfl (aS rfl rfl rfl (fun b0_1=>(aHN ?_)))
 refine go 3 [0] ?_
 refine DR [] 24 (go 0 [0,0,0,6] ?_)
 refine bV 4 rfl rfl (cf rfl rfl) (go 0 [0,0,0,0,6] ?_)
 refine bW 10 rfl rfl rfl (fun hc=>dw (ah rfl hc) (ah rfl hc)) (go 0 [0,2,0,4,0] ?_)
 refine bW 16 rfl rfl rfl (fun hc=>Q0 (ao (ah rfl hc) rfl) (m7 _)) (bW 17 rfl rfl rfl (fun hc=>zB (ah rfl hc) (ah rfl hc)) (go 0 [2,6] ?_))
 refine bW 20 rfl rfl rfl (fun hc=>lY (ah rfl hc) (ah rfl hc)) (go 2 [0,0,0] ?_)
 refine ae (FZ1 [] Tryz.results150 rfl ?_)
 exact ⟨⟨rfl,rfl⟩,_,rfl,fun _=>trivial⟩
theorem wJ(b:Nat)(o:aI)(r:eu):Con Tryz.prog 146 [r.val,.pointer (some ⟨b,0,none⟩)] [At b 0 o.row,bC,o.ok] [] (YB (rz o r)):=by
 refine EN2 Tryz.func146 rfl (aO (aI.f_secs (.of (ax 2 rfl))) (fun hlen=>(aO (aI.f_syms (.of (ax 2 rfl))) (fun hlen2=>(aSR (LT rfl (aS rfl rfl rfl (fun b0_0=>(aHN ?_)))))))))
 refine go 0 [0,2,0] ?_
 refine aU rfl (Q0 rfl (bZ _ _)) (go 0 [0,0,32257,0,0] ?_)
 refine eK (zs:=[.int .i64 0]) (l:=[(0,.const (.int .i64 0)),(1,.const (.int .i64 1))]) el33 (by kernel_rfl) (by decide) (by decide) (by decide) rfl _ rfl (fun hc=>rfl) rfl (.more rfl (.v rfl .nil) (.more rfl (.v rfl .nil) .nil)) rfl rfl (fun v1_8 => ?_)
 refine aE (caps:=[]) [3,0] (false) (by kernel_rfl) _ rfl rfl (fun _=>rfl) (fun hc=>(ao (ah rfl hc) (ao (ah rfl hc) (ao (ah rfl hc) rfl)))) (fun hc=>by rw [List.append_nil];exact (j7 o ⟨v1_8,2,[0,1]⟩ _).pre (ej (.yes (.of (ax 0 rfl)) hc) (.of (ax 1 rfl)))) (fun c1 hc1 => ?_)
 refine go 0 [0,0,0,3,0,0,2,100,176] ?_
 refine aG rfl rfl (fun hc=>Q0 (ao (ah rfl hc) (ao (ah rfl hc) rfl)) (bZ _ _)) (go 0 [0,0,0,4,0] ?_)
 refine aG rfl rfl (fun hc=>cf (ah rfl hc) rfl) (go 0 [0,0,4,0] ?_)
 refine aG rfl rfl (fun hc=>eT (ah rfl hc) rfl) (go 2 [0] ?_)
 refine aa _ rfl (fun h1 => ?_) (fun h1 => ?_)
 ·skip
  refine go 2 [0] ?_
  refine ae (aj (FZ1 [] Tryz.results146 rfl ?_))
  exact ⟨⟨rfl,rfl⟩,_,rfl,fun h=>by cases h⟩
 ·skip
  have hsec:0≤r.sec∧r.sec<o.secs.l.length:=by
    simp only [Bool.or_eq_false_iff,Bool.not_eq_false'] at h1
    exact hc1 (by rw [h1.1.1.1.1];rfl) h1.1.1.1.2
  have hsm:=cS (l:=o.secs.l) (i:=r.sec) (by omega) (by omega)
  refine aD (an (aq (DR [11] 13 (go 0 [0,2,104,0,0] ?_))))
  refine dz 5 rfl (by kernel_rfl) true rfl rfl (fun _=>ai Tryz.underlying118 tk174 rfl ((aI.f_secs (.of (ax 3 rfl)))) rfl (bN (i:=r.sec) (by omega) (by omega)) (by omega) rfl) (fun h=>absurd h (by decide)) (fun ⟨b3_5,o3_5⟩=>(go 0 [33796,4,0] ?_))
  refine bV 9 rfl rfl (Q0 rfl (m7 _)) (dG (q:=true) 10 rfl (by kernel_rfl) rfl rfl (aW (zs:=[.string .empty,.int .i64 0,.int .i64 0,.int .i64 0,.string .empty,.bool false]) (by kernel_rfl) rfl (fun b3_10=>(bST rfl ?_))))
  refine go 0 [7,16899,0,1,0,3,3] ?_
  refine aU rfl (Q0 rfl (bZ _ _)) (go 0 [0,0,1,0,3,3,0] ?_)
  refine aG rfl rfl (fun hc=>sS (ah rfl hc) (ah rfl hc)) (aG rfl rfl (fun hc=>eH (ah rfl hc) (ah rfl hc)) (go 0 [0,0,1,0,0] ?_))
  refine aG rfl rfl (fun hc=>ee (ah rfl hc) (ah rfl hc) (by exact xQ _)) ?_
  refine aG rfl rfl (fun hc=>fg (ah rfl hc) rfl) (go 2 [0] ?_)
  refine aa _ rfl (fun h2 => ?_) (fun h2 => ?_)
  ·skip
   refine go 2 [0] ?_
   refine ae (aj (FZ1 [] Tryz.results146 rfl ?_))
   exact ⟨⟨rfl,rfl⟩,_,rfl,fun h=>by cases h⟩
  ·skip
   refine go 0 [2,0] ?_
   refine LT rfl (EC [] [] rfl (aaC _) ?_)
   rintro _ _ _ ⟨rfl,ol,⟨rfl,rfl⟩,hol,hon⟩
   refine aST ?_
   refine go 4 [0] ?_
   refine aav (.of (ax 0 rfl)) (fun hne=>(az (aM rfl (aU rfl (rk Tryz.underlying33 rfl) (aNn ?_)))))
   refine aa _ rfl (fun h3 => ?_) (fun h3 => ?_)
   ·skip
    refine go 0 [1,3] ?_
    refine aU rfl (dw rfl rfl) (go 0 [0,2,3,0] ?_)
    refine aG rfl rfl (fun hc=>eT (ah rfl hc) (ah rfl hc)) (go 2 [0,0] ?_)
    refine ae (aj (FZ1 [] Tryz.results146 rfl ?_))
    refine ⟨⟨rfl,rfl⟩,_,rfl,fun hb => ?_⟩
    simp only [Bool.or_eq_false_iff,Bool.not_eq_false',Bool.and_eq_true,decide_eq_true_eq,decide_eq_false_iff_not] at h1 h2 hb
    exact ⟨hsec,by omega,by omega,by omega,fun hn=>absurd (Option.isNone_iff_eq_none.1 h3) (hne (by rw [hol];simpa using hn)),fun _=>hb.1⟩
   ·skip
    refine aD (an (aq (cL (bw.f_bytes (Ent.all (aI.f_secsA (.of (ax 5 rfl))) hsm)) (fun hbl=>(go 0 [4,3,1,0] ?_)))))
    refine LT rfl (EC [1] [] rfl (tG _ hbl _) ?_)
    rintro _ _ _ ⟨rfl,rfl,iop,ia,ib,ic,im,iok,rfl⟩
    refine aST ?_
    refine go 0 [0,0,0] ?_
    refine LT rfl (aW (zs:=[.int .i64 0,.int .i64 0,.int .i64 0,.int .i64 0,.int .i64 0]) (by kernel_rfl) rfl (fun b9_8=>(aHN ?_)))
    refine go 0 [13830,0,1,3] ?_
    refine aU rfl (dw rfl rfl) (go 0 [0,0,0,0,0,0,6] ?_)
    refine aE (caps:=[]) [5] (false) (by kernel_rfl) _ rfl rfl (fun _=>rfl) (fun hc=>(ao (ah rfl hc) (ao (ah rfl hc) rfl))) (fun hc=>by rw [List.append_nil];exact iX ol _) (fun c2 hc2 => ?_)
    refine go 2 [0,0] ?_
    refine ae (FZ1 [] Tryz.results146 rfl ?_)
    refine ⟨⟨rfl,rfl⟩,_,rfl,fun hb => ?_⟩
    simp only [Bool.or_eq_false_iff,Bool.not_eq_false',Bool.and_eq_true,decide_eq_true_eq,decide_eq_false_iff_not] at h1 h2 hb
    exact ⟨hsec,by omega,by omega,by omega,fun hn=>⟨hb.1.1,by rw [← xq hn];exact h2.2⟩,fun hn=>by rw [hon hn] at h3;cases h3⟩
theorem wE(o:aI):Con Tryz.prog 103 [o.val] [bC,o.ok] [] (YB (∀ r∈o.rels.l,rz o r)):=by
 refine EN1 Tryz.func103 rfl (aSR (LT rfl (aS rfl rfl rfl (fun b0_0=>(aHN ?_)))))
 refine go 4 [0] ?_
 refine aU rfl (cA (l:=[.tmp 1]) rfl) (go 3 [0,0] ?_)
 refine aZ 0 rfl rfl ?_
 show awp _ _ _ _ ⟨_,At _ 0 _::_,_⟩
 refine go 0 [0,3,145,0] ?_
 refine aE (caps:=[]) [2,1,0] (false) (by kernel_rfl) true rfl rfl (fun _=>rfl) (fun hc=>rfl) (fun hc=>by rw [List.append_nil];exact (oS o.rels 146 [.pointer (some ⟨b0_0,0,none⟩)] (bQ (At b0_0 0 o.row) (bQ bC o.ok)) (rz o) (by kernel_rfl) (fun r _=>(wJ b0_0 o r).pre (jm fA.left fA.right.left fA.right.right))).pre (ej (aI.f_rels (.of (ax 2 rfl))) (.mk2 (.of (ax 0 rfl)) (.mk2 (.of (ax 1 rfl)) (.of (ax 2 rfl)))))) (fun c1 hc1 => ?_)
 refine go 0 [0,0,3,145,0] ?_
 refine aE (caps:=[]) [0] (false) (by kernel_rfl) _ rfl rfl (fun _=>rfl) (fun hc=>(ao (ah rfl hc) (ao (ah rfl hc) rfl))) (fun hc=>by rw [List.append_nil];exact (pb o.rels 150 [] o.ok (by kernel_rfl) (fun x _ y _=>wK x y _)).pre (ej (aI.f_rels (.of (ax 0 rfl))) (.of (ax 0 rfl)))) (fun c2 hc2 => ?_)
 refine go 2 [0,0] ?_
 refine ae (FZ1 [] Tryz.results103 rfl ?_)
 refine ⟨⟨rfl,rfl⟩,_,rfl,fun hb => ?_⟩
 simp only [Bool.and_eq_true] at hb;exact hc1 rfl hb.1
end Go.Proofs.YtgkbbdgklpabpaaGreatDoor

namespace Go.Sy
open Go.RowKit Go.Lp
theorem jV{P:Program}{n:Fr}{env:Env}{ps:List Per}{hp:List Res}{c:Code}{Q:Exit→Sta→Prop}(p:Per)(hp':Ent ps p)(h:awp P n c Q ⟨env,p::ps,hp⟩):awp P n c Q ⟨env,ps,hp⟩:=fun w S fp a hst he hn hd =>
 h w S fp a ⟨fun q hq=>(List.mem_cons.1 hq).elim (fun e=>e ▸ hp' w S hst.per) (fun h=>hst.per q h),hst.res,hst.lt,hst.dj,hst.slt⟩ he hn hd
theorem zy{w:World}{S F:ba}{v:Value}{E:TypeId}{sz:Nat}{rows:List (List D)}(h:(aP v E sz rows).holds w S F):∃ ad cap,v=.slice ad rows.length cap:=by
 rcases h with ⟨h1,h2,_⟩ | ⟨b,cap,h1,_⟩
 · subst h2;exact ⟨none,0,h1⟩
 · exact ⟨_,cap,h1⟩
theorem lJ{P:Program}{n:Fr}{env:Env}{ps:List Per}{hp:List Res}{c:Code}{Q:Exit→Sta→Prop}(i:Nat){v:Value}{T:TypeId}{sz:Nat}{rows:List (List D)}(hi:hp[i]? = some (aP v T sz rows))(h:∀ ad cp,v=.slice ad rows.length cp→awp P n c Q ⟨env,ps,hp⟩):awp P n c Q ⟨env,ps,hp⟩:=fun w S fp a hst he hn hd=>by
 obtain ⟨ad,cp,e⟩:=zy (hst.res i _ hi)
 exact h ad cp e w S fp a hst he hn hd
end Go.Sy
namespace Go.Proofs.YtgkbbdgklpabpaaGreatDoor
open Go.RowKit Go.Lp Go.Sy
def abq(l:List Int):Prop:=∀ (k:Nat) (a b:Int),l[k]? = some a→l[k+1]? = some b→a<b
theorem vg{l:List Int}(h:abq l)(h0:∀ z∈l,0≤z):∀ (k:Nat) (a:Int),l[k]? = some a→(k:Int)≤a
 | 0,a,ha=>h0 a (List.mem_of_getElem? ha)
 | k+1,b,hb=>by
   have hl:=(List.getElem?_eq_some_iff.1 hb).1
   have ha:l[k]? = some l[k]:=List.getElem?_eq_getElem (by omega)
   have h1:=vg h h0 k _ ha
   have h2:=h k _ _ ha hb
   omega
theorem yf{l:List Int}{n:Nat}(h:abq l)(h0:∀ z∈l,0≤z∧z<n):l.length≤n:=by
 cases hl:l.length with
 | zero=>exact Nat.zero_le _
 | succ k =>
   have ha:l[k]? = some l[k]:=List.getElem?_eq_getElem (by omega)
   have h1:=vg h (fun z hz=>(h0 z hz).1) k _ ha
   have h2:=(h0 _ (List.mem_of_getElem? ha)).2
   omega
open Go.Proofs.Tryz
attribute [local irreducible] aL aB awp aC fwp Quiet
theorem yv(l:Sl Int)(F:FuncId)(caps:List Value)(p:Per)(hF:aX Tryz.prog F=true)(h:∀ a b:Int,Con Tryz.prog F ((eI a)::(eI b)::caps) [p] [] (fun r _ _=>r=.bool (decide (a<b)))):Con Tryz.prog 155 [l.val,.func (.func F) #[] caps.toArray] [ShF bd l,p] [] (YB (abq l.l)):=by
 refine EN2 Tryz.func155 rfl (aO (.of (ax 0 rfl)) (fun hlen=>(go 3 [0,0] ?_)))
 refine aF [0,1,5] [1,0] [] (fun (k:Nat) s=>(k≤l.l.length∧∀ (j:Nat) (a b:Int),j<k→l.l[j]? = some a→l.l[j+1]? = some b→a<b)∧s=⟨[(0,true,l.val),(1,true,.func (.func F) #[] caps.toArray),(5,true,.int .i64 ((k+1:Nat):Int))],[ShF bd l,p],[]⟩) (fun k=>l.l.length-k) rfl (⟨0,⟨Nat.zero_le _,fun j a b h=>by omega⟩,rfl⟩) ?_
 rintro k s ⟨⟨hk,hA⟩,rfl⟩
 refine go 2 [0,0,3,0] ?_
 refine aa _ rfl (fun h1 => ?_) (fun h1 => ?_)
 ·skip
  have hk':k+1<l.l.length:=by simp at h1;omega
  have ha:=bA (l:=l.l) (i:=k) (by omega)
  have hb:=bA (l:=l.l) (i:=k+1) hk'
  refine aD (an (aq (aH (aq (DR [] 12 (go 0 [0,0,0,0] ?_))))))
  refine dz 4 rfl (by kernel_rfl) true rfl rfl (fun _=>ai Tryz.underlying33 tk3 rfl ((.of (ax 0 rfl))) rfl (ak ha) (by omega) rfl) (fun h=>absurd h (by decide)) (fun ⟨b4_4,o4_4⟩=>(go 0 [4,0,0] ?_))
  refine XI 8 Tryz.underlying33 tk3 1 rfl rfl rfl rfl rfl rfl (ak hb) rfl rfl (fun ⟨b4_8,o4_8⟩=>(go 0 [4] ?_))
  refine bV 10 rfl rfl (mA hF rfl rfl (fun w S fp hst=>(h _ _).quiet1 (ax 3 rfl) hst)) (go 2 [0] ?_)
  refine aa _ rfl (fun h2 => ?_) (fun h2 => ?_)
  ·skip
   refine go 2 [0] ?_
   refine ae (aK (aj (aj (aK (aj (FZ1 [] Tryz.results155 rfl ?_))))))
   exact ⟨⟨rfl,rfl⟩,_,rfl,fun h=>by cases h⟩
  ·skip
   refine go 1 [0,0,0] ?_
   refine an ?_
   refine ⟨[0,1,5],[1,0],[],rfl,?_⟩
   refine ⟨k+1,⟨⟨by omega,fun j a b hj h3 h4 => ?_⟩,rfl⟩,by omega⟩
   by_cases hjk:j=k
   · subst hjk
     rw [ha] at h3;rw [hb] at h4
     rw [← Option.some.inj h3,← Option.some.inj h4]
     simpa using h2
   · exact hA j a b (by omega) h3 h4
 ·skip
  refine go 2 [0] ?_
  refine ae (FZ1 [] Tryz.results155 rfl ?_)
  refine ⟨⟨rfl,rfl⟩,_,rfl,fun _ j a b h3 h4=>hA j a b ?_ h3 h4⟩
  have:=(List.getElem?_eq_some_iff.1 h4).1
  simp at h1;omega
theorem yE(b:Nat)(o:aI)(z:Int):Con Tryz.prog 154 [eI z,.pointer (some ⟨b,0,none⟩)] [At b 0 o.row,o.ok] [] (YB (0≤z∧z<o.secs.l.length)):=by
 refine EN2 Tryz.func154 rfl (aO (aI.f_secs (.of (ax 1 rfl))) (fun hlen=>(go 0 [0,0,0,1,49,174] ?_)))
 refine aU rfl (Q0 rfl (bZ _ _)) (go 2 [0] ?_)
 refine ae (FZ1 [] Tryz.results154 rfl ?_)
 refine ⟨⟨rfl,rfl⟩,_,rfl,fun hb => ?_⟩
 simp only [Bool.and_eq_true,decide_eq_true_eq] at hb;omega
theorem yF(x y:Int)(p:Per):Con Tryz.prog 156 [eI x,eI y] [p] [] (fun r _ _=>r=.bool (decide (x<y))):=by
 refine EN2 Tryz.func156 rfl (go 2 [0,0,0,0,0] ?_)
 refine ae (FZ1 [] Tryz.results156 rfl ?_)
 rfl
theorem yG(g:dm)(p:Per):Con Tryz.prog 158 [g.val] [p] [] (YN gR fun _=>True):=by
 refine EN1 Tryz.func158 rfl (aSR (LT rfl (aS rfl rfl rfl (fun b0_0=>(aHN ?_)))))
 refine go 2 [0,0,0,0] ?_
 refine ae (FZ1 [] Tryz.results158 rfl ?_)
 exact ⟨⟨rfl,rfl⟩,_,rfl,trivial⟩
theorem yH(x:Int)(p:Per):Con Tryz.prog 160 [eI x] [p] [] (YN eI fun _=>True):=by
 refine EN1 Tryz.func160 rfl (go 2 [0,0,0] ?_)
 refine ae (FZ1 [] Tryz.results160 rfl ?_)
 exact ⟨⟨rfl,rfl⟩,_,rfl,trivial⟩
theorem rU(o:aI)(hg:o.groups.l.length≤1000)(hs:o.secs.l.length≤1000):Con Tryz.prog 104 [o.val] [o.ok] [] (YB (∀ g∈o.groups.l,g.secs.l.length≤o.secs.l.length∧∀ z∈g.secs.l,0≤z∧z<o.secs.l.length)):=by
 refine EN1 Tryz.func104 rfl (aO (aI.f_groups (.of (ax 0 rfl))) (fun hlen=>(aSR (LT rfl (aS rfl rfl rfl (fun b0_0=>(aHN ?_)))))))
 refine go 4 [0,0] ?_
 refine cV 3 1 ?_
 show awp _ _ _ _ ⟨_,_,[_,_]⟩
 refine aZ 0 rfl rfl ?_
 show awp _ _ _ _ ⟨_,At _ 0 _::_,_⟩
 refine go 3 [0,4,193,225,0] ?_
 refine aF [1,3,8,9,10] [1,0] [1] (fun (q:Nat × (Value × List Int)) s=>(q.1≤o.groups.l.length∧q.2.2.length≤1000*q.1∧∀ g∈o.groups.l.take q.1,g.secs.l.length≤o.secs.l.length∧∀ z∈g.secs.l,0≤z∧z<o.secs.l.length)∧s=⟨[(1,true,.pointer (some ⟨b0_0,0,none⟩)),(3,true,q.2.1),(8,true,o.groups.val),(9,true,.int .i64 o.groups.l.length),(10,true,.int .i64 q.1)],[At b0_0 0 o.row,o.ok],[aP q.2.1 3 1 (q.2.2.map bd)]⟩) (fun q=>o.groups.l.length-q.1) rfl (⟨(0,(_,[])),⟨Nat.zero_le _,Nat.le_refl _,fun g hg=>by cases hg⟩,rfl⟩) ?_
 rintro ⟨k,v,zs⟩ s ⟨⟨hk,hz,hG⟩,rfl⟩
 dsimp only at hk hz hG
 refine go 3 [0] ?_
 refine aa _ rfl (fun h1 => ?_) (fun h1 => ?_)
 ·skip
  have hk':k<o.groups.l.length:=by simp at h1;omega
  obtain ⟨g,hgk⟩:∃ g,o.groups.l[k]? = some g:=⟨_,List.getElem?_eq_getElem hk'⟩
  refine aD (an (aq (aH (aSR (bI true rfl rfl (fun _=>ai Tryz.underlying121 tk225 rfl ((aI.f_groups (.of (ax 1 rfl)))) rfl (ak hgk) rfl rfl) (fun h=>absurd h (by decide)) (fun ⟨b4_0,o4_0⟩=>(go 0 [4610] ?_)))))))
  refine LT rfl (aW (zs:=[.string .empty,.slice none 0 0]) (by kernel_rfl) rfl (fun b4_2=>(aHN ?_)))
  refine go 4 [4611] ?_
  refine cL (dm.f_name (Ent.all (aI.f_groupsA (.of (ax 2 rfl))) hgk)) (fun hnl=>(aO (dm.f_secs (Ent.all (aI.f_groupsA (.of (ax 2 rfl))) hgk)) (fun hlen2=>(go 0 [0,3] ?_))))
  refine aE (caps:=[]) [] (false) (by kernel_rfl) true rfl rfl (fun _=>rfl) (fun hc=>rfl) (fun hc=>by rw [List.append_nil];exact eQ _ hnl) (fun c1 hc1 => ?_)
  refine go 0 [0,0,1,3,3,0,0,0,1,3] ?_
  refine aG rfl rfl (fun hc=>cA (l:=[.tmp 1]) rfl) ?_
  refine aE (caps:=[]) [1,0] (false) (by kernel_rfl) _ rfl rfl (fun _=>rfl) (fun hc=>(ao (ah rfl hc) (ao (ah rfl hc) rfl))) (fun hc=>by rw [List.append_nil];exact (oR g.secs 154 [.pointer (some ⟨b0_0,0,none⟩)] (bQ (At b0_0 0 o.row) o.ok) (fun z=>0≤z∧z<o.secs.l.length) (by kernel_rfl) (fun z _=>(yE b0_0 o z).pre (ej fA.left fA.right))).pre (ej (dm.f_secs (Ent.all (aI.f_groupsA (.of (ax 1 rfl))) hgk)) (.mk2 (.of (ax 0 rfl)) (.of (ax 1 rfl))))) (fun c2 hc2 => ?_)
  refine go 0 [0,0,0,1,3] ?_
  refine aE (caps:=[]) [0] (false) (by kernel_rfl) _ rfl rfl (fun _=>rfl) (fun hc=>(ao (ah rfl hc) (ao (ah rfl rfl) rfl))) (fun hc=>by rw [List.append_nil];exact (yv g.secs 156 [] o.ok (by kernel_rfl) (fun x y=>yF x y _)).pre (ej (dm.f_secs (Ent.all (aI.f_groupsA (.of (ax 0 rfl))) hgk)) (.of (ax 0 rfl)))) (fun c3 hc3 => ?_)
  refine go 2 [0,0] ?_
  refine aa _ rfl (fun h2 => ?_) (fun h2 => ?_)
  ·skip
   refine go 2 [0] ?_
   refine ae (aj (aK (aj (aj (aK (aj (FZ1 [] Tryz.results104 rfl ?_)))))))
   exact ⟨⟨rfl,rfl⟩,_,rfl,fun h=>by cases h⟩
  ·skip
   have hgl:g.secs.l.length≤o.secs.l.length∧∀ z∈g.secs.l,0≤z∧z<o.secs.l.length:=by
     simp only [Bool.or_eq_false_iff,Bool.not_eq_false'] at h2
     have hin:=hc2 (by rw [h2.1.1.1,h2.1.1.2];rfl) h2.1.2
     refine ⟨?_,hin⟩
     exact yf (hc3 (by rw [h2.1.1.1,h2.1.1.2,h2.1.2];rfl) h2.2) hin
   refine aD (an (jV (ShF bd g.secs) (dm.f_secs (Ent.all (aI.f_groupsA (.of (ax 2 rfl))) hgk)) (go 0 [0,1,3] ?_)))
   refine aT rfl (ji 0 el33 el33 rfl rfl rfl rfl (ax 0 rfl) ((fun r hr=>by obtain ⟨z,_,rfl⟩:=List.mem_map.1 hr;rfl)) (by simp;omega) ((zs++g.secs.l).length) (by simp;try omega) (fun v7_3 c7_3 => ?_))
   refine aHK ?_
   refine go 1 [0,0,0] ?_
   refine an ?_
   refine ⟨[1,3,8,9,10],[1,0],[0],rfl,?_⟩
   refine ⟨(k+1,(_,zs++g.secs.l)),⟨⟨by dsimp only;omega,by have:=hgl.1;dsimp only;rw [List.length_append];omega,fun g2 hg2 => ?_⟩,by dsimp only;rw [List.map_append];rfl⟩,by dsimp only;omega⟩
   dsimp only at hg2
   rw [List.take_add_one,hgk,List.mem_append] at hg2
   rcases hg2 with hg2 | hg2
   · exact hG g2 hg2
   · simp at hg2;subst hg2;exact hgl
 ·skip
  refine aY (bb (bb (bg (an (aq (lJ 0 rfl (fun ad cp hv => ?_)))))))
  rw [List.length_map] at hv
  dsimp only at hv h1 ⊢
  subst hv
  refine cK 0 (ShF bd ⟨ad,cp,zs⟩) rfl (fun _ _ _ h=>db h) ?_
  show awp _ _ _ _ ⟨_,[ShF bd _,_,_],_⟩
  refine go 0 [0,4,196] ?_
  refine aE (caps:=[]) [0] (false) (by kernel_rfl) true rfl rfl (fun _=>rfl) (fun hc=>rfl) (fun hc=>by rw [List.append_nil];exact (mV o.groups 158 [] o.ok (by kernel_rfl) (fun g _=>yG g _)).pre (ej (aI.f_groups (.of (ax 0 rfl))) (.of (ax 0 rfl)))) (fun c4 hc4 => ?_)
  refine aM rfl (aG rfl rfl (fun hc=>bo rfl) ?_)
  refine aE (caps:=[]) [2,0] (false) (by kernel_rfl) _ rfl rfl (fun _=>rfl) (fun hc=>(ao (ah rfl hc) (ao (ah rfl rfl) rfl))) (fun hc=>by rw [List.append_nil];exact qC ⟨ad,cp,zs⟩ 160 [] o.ok (by kernel_rfl) (fun z _=>yH z _)) (fun c5 hc5 => ?_)
  refine go 2 [0,0] ?_
  refine ae (FZ1 [] Tryz.results104 rfl ?_)
  refine ⟨⟨rfl,rfl⟩,_,rfl,fun _ => ?_⟩
  rw [List.take_of_length_le (by simp at h1;omega)] at hG;exact hG
end Go.Proofs.YtgkbbdgklpabpaaGreatDoor

namespace Go.Proofs.YtgkbbdgklpabpaaGreatDoor
open Go.RowKit Go.Lp Go.Sy
def sLt(a b:ByteArray):Prop:=a.toList<b.toList
instance (a b:ByteArray):Decidable (sLt a b):=by unfold sLt;infer_instance
theorem abw{a b:ByteArray}(h:a.toList=b.toList):a=b:=by
 have key:∀ (x:ByteArray),x.toList=x.data.toList:=fun x=>by
   have loop:∀ (n i:Nat) (acc:List UInt8),x.size-i=n→ByteArray.toList.loop x i acc=acc.reverse++x.data.toList.drop i:=by
     intro n
     induction n with
     | zero =>
       intro i acc h
       unfold ByteArray.toList.loop
       have hle:x.data.size≤i:=by have:x.size=x.data.size:=rfl;omega
       rw [if_neg (by omega),List.drop_eq_nil_of_le (by simpa using hle),List.append_nil]
     | succ n ih =>
       intro i acc h
       unfold ByteArray.toList.loop
       have hlt:i<x.size:=by omega
       have hlt':i<x.data.toList.length:=by simpa using hlt
       rw [if_pos hlt,ih (i+1) _ (by omega),List.drop_eq_getElem_cons hlt']
       have:x.get! i=x.data.toList[i]:=by
         show x.data[i]! = _
         rw [getElem!_pos x.data i (by simpa using hlt)];simp
       rw [this];simp
   unfold ByteArray.toList
   rw [loop _ 0 [] rfl];simp
 rw [key,key] at h
 cases a;cases b
 simp only [ByteArray.mk.injEq]
 exact Array.toList_inj.1 h
theorem vI(a:ByteArray):¬ sLt a a:=List.lt_irrefl _
theorem xJ{a b c:ByteArray}(h1:sLt a b)(h2:sLt b c):sLt a c:=List.lt_trans h1 h2
theorem aa2(a b:ByteArray):sLt a b∨a=b∨sLt b a:=by
 unfold sLt
 by_cases h1:a.toList<b.toList
 · exact .inl h1
 · by_cases h2:b.toList<a.toList
   · exact .inr (.inr h2)
   · exact .inr (.inl (abw (List.le_antisymm h2 h1)))
theorem xI{a b:ByteArray}(h:sLt a b):¬ sLt b a:=fun k=>vI _ (xJ h k)
def oM(a b:Int):Int:=if a<b then -1 else if b<a then 1 else 0
def yq(a b:ByteArray):Int:=if sLt a b then -1 else if sLt b a then 1 else 0
end Go.Proofs.YtgkbbdgklpabpaaGreatDoor

namespace Go.Sy
open Go.RowKit Go.Lp
section
variable {α:Type} {enc:α→Value}
def oc(v:Value)(x:List α):Sl α:=match v with
 | .slice ad _ cap=>⟨ad,cap,x⟩
 | _=>⟨none,0,x⟩
theorem abJ(v:Value)(x:List α):(oc v x).l=x:=by unfold oc;split<;>rfl
theorem vA:∀ (vs:List Value) (l:List (List α)),vs.length=l.length→(List.zipWith oc vs l).map (·.l)=l
 | [],[],_=>rfl
 | [],_::_,h=>by cases h
 | _::_,[],h=>by cases h
 | v::vs,x::l,h=>by rw [List.zipWith_cons_cons,List.map_cons,abJ,vA vs l (by simpa using h)]
theorem pU:∀ (vs:List Value) (l:List (List α)),vs.length=l.length→(∀ (k:Nat) (v:Value) (x:List α),vs[k]? = some v→l[k]? = some x→(oc v x).val=v)→(List.zipWith oc vs l).map Sl.val=vs
 | [],[],_,_=>rfl
 | [],_::_,h,_=>by cases h
 | _::_,[],h,_=>by cases h
 | v::vs,x::l,h,hk=>by
   rw [List.zipWith_cons_cons,List.map_cons,hk 0 v x rfl rfl,pU vs l (by simpa using h) (fun k v x h1 h2=>hk (k+1) v x (by simpa using h1) (by simpa using h2))]
variable {P:Program} {n:Fr} {env:Env} {ps:List Per} {hp:List Res} {c:Code} {Q:Exit→Sta→Prop} {vo:Value} {T E:TypeId} {l:List (List α)}

theorem df{w:World}{S F:ba}{v:Value}{sz:Nat}{rows:List (List D)}(h:(aP v E sz rows).holds w S F):∃ ad cap,v=.slice ad rows.length cap:=by
 rcases h with ⟨h1,h2,_⟩ | ⟨b,cap,h1,_⟩
 · subst h2;exact ⟨none,0,h1⟩
 · exact ⟨_,cap,h1⟩
theorem fP(i:Nat)(hi:hp[i]? = some (iw vo T E enc l))
   (h:∀ s:Sl (Sl α),vo=s.val→s.l.map (·.l)=l→awp P n c Q ⟨env,bu (ShF fun x=>[.v (enc x)]) s.l::ShF (fun t:Sl α=>[.v t.val]) s::ps,hp.set i emp⟩):awp P n c Q ⟨env,ps,hp⟩:=by
 have hil:=(List.getElem?_eq_some_iff.1 hi).1
 refine pz (β := {s:Sl (Sl α) // vo=s.val∧s.l.map (·.l)=l}) i (fun p=>fa (aP vo T 1 (ct (p.1.l.map Sl.val))) (eh (inner E enc (p.1.l.map Sl.val) l))) hi (fun w S F hh => ?_) fun ⟨s,h1,h2⟩ => ?_
 · obtain ⟨vs,hl,hs⟩:=hh
   obtain ⟨G,H,hG,hH,hd,he⟩:=hs
   have hval:∀ (k:Nat) (v:Value) (x:List α),vs[k]? = some v→l[k]? = some x→(oc v x).val=v:=fun k v x hv hx=>by
     obtain ⟨G2,_,ho⟩:=qc _ _ hH k _ (lq (enc:=enc) (E:=E) hv hx)
     obtain ⟨ad,cap,rfl⟩:=df ho
     rw [cE];rfl
   obtain ⟨ad,cap,hvo⟩:=df hG
   have hzl:(List.zipWith oc vs l).length=vs.length:=by simp [hl]
   refine ⟨⟨⟨ad,cap,List.zipWith oc vs l⟩,?_,vA vs l hl⟩,?_⟩
   · rw [hvo]
     show _=Value.slice ad (List.zipWith oc vs l).length cap
     rw [hzl,jg]
   · show (fa (aP vo T 1 (ct ((List.zipWith oc vs l).map Sl.val))) (eh (inner E enc ((List.zipWith oc vs l).map Sl.val) l))).holds w S F
     rw [pU vs l hl hval]
     exact ⟨G,H,hG,hH,hd,he⟩
 · dsimp only
   have hsh:=cK (P:=P) (n:=n) (env:=env) (ps:=ps) (hp:=hp.set i (fa (aP vo T 1 (ct (s.l.map Sl.val))) (eh (inner E enc (s.l.map Sl.val) l)))) (c:=c) (Q:=Q) i
     (bQ (ShF (fun t:Sl α=>[.v t.val]) s) (bu (ShF fun x=>[.v (enc x)]) s.l)) (by rw [List.getElem?_set_self hil]) (fun w S F hh => ?_) ?_
   · exact hsh
   · obtain ⟨G,H,hG,hH,_,e⟩:=hh
     have hS:∀ b,(S b∨G b)→(S b∨F b):=fun b h=>h.imp id fun g=>(e b).2 (.inl g)
     refine ⟨?_,fun t ht => ?_⟩
     · have:=(db hG).mono (fun _ _=>rfl) hS
       rw [h1] at this
       show dT w _ _ (.sl (s.l.map fun t:Sl α=>[.v t.val]))
       have e2:ct (s.l.map Sl.val)=s.l.map fun t:Sl α=>[D.v t.val]:=by simp [ct]
       rw [e2] at this
       exact this
     · obtain ⟨k,hk⟩:=List.mem_iff_getElem?.1 ht
       have hlk:l[k]? = some t.l:=by rw [← h2,List.getElem?_map,hk];rfl
       obtain ⟨G2,hs,ho⟩:=qc _ _ hH k _ (lq (enc:=enc) (E:=E) (v:=t.val) (by rw [List.getElem?_map,hk];rfl) hlk)
       exact (db ho).mono (fun _ _=>rfl) fun b h=>h.imp id fun g=>(e b).2 (.inr (hs b g))
   · rw [List.set_set]
     refine qt (ps':=bu (ShF fun x=>[.v (enc x)]) s.l::ShF (fun t:Sl α=>[.v t.val]) s::ps) (hp':=hp.set i emp) (fun w S fp hst=>⟨fp,⟨fun q hq => ?_,hst.res,hst.lt,hst.dj,hst.slt⟩,fun _ h=>h⟩) (h s h1 h2)
     have h0:=hst.per _ List.mem_cons_self
     rcases List.mem_cons.1 hq with rfl | hq
     · exact h0.2
     · rcases List.mem_cons.1 hq with rfl | hq
       · exact h0.1
       · exact hst.per _ (List.mem_cons_of_mem _ hq)
end
section
variable {P:Program} {n:Fr} {s:Sta} {d:Option Tmp} {ty:TypeId} {pos:String} {af:Array Edge} {gd:Option (Nat × Bool)} {x y1 y2 y3:Operand}
end
def xR(R:Res):Prop:=∀ w S S' F,R.holds w S F→R.holds w S' F
theorem xa{v:Value}{E:TypeId}{sz:Nat}{rows:List (List D)}(hr:∀ r∈rows,∀ d∈r,∃ u,d=D.v u):xR (aP v E sz rows):=fun w S S' F h=>by
 rcases h with ⟨h1,h2,h3⟩ | ⟨b,cap,h1,⟨cs,sp,hb,ha,hl,hle,hc⟩,hF⟩
 · exact .inl ⟨h1,h2,h3⟩
 · refine .inr ⟨b,cap,h1,⟨cs,sp,hb,⟨ha.len,ha.row,ha.one,fun i j r d h1 h2 => ?_⟩,hl,hle,hc⟩,hF⟩
   obtain ⟨u,hu,hd⟩:=ha.rep i j r d h1 h2
   obtain ⟨u',rfl⟩:=hr r (List.mem_of_getElem? h1) d (List.mem_of_getElem? h2)
   refine ⟨u,hu,?_⟩
   cases hd;exact .v _
theorem Con.borrow{P:Program}{f:FuncId}{args:List Value}{ps:List Per}{p:Per}{B:Res}{R:Value→List Per→List Res→Prop}(h:Con P f args (p::ps) [] R)
   (hB:∀ w S F,B.holds w S F→p.holds w (fun b=>S b∨F b)) (hR:∀ v ps' hp',R v ps' hp'→∀ r∈hp',xR r) :
   Con P f args ps [B] (fun v ps' hp'=>ps'=[]∧∃ ps2 hp2,R v ps2 hp2∧hp'=B::hp2):=fun w S fp hst=>by
 have hS:∀ b,S b→(S b∨fp 0 b):=fun _ h=>.inl h
 have hb0:=hst.res 0 B rfl
 have h2:St w (fun b=>S b∨fp 0 b) (fun _ _=>False) (p::ps) []:=⟨fun q hq=>by
     rcases List.mem_cons.1 hq with rfl | hq
     · exact hB w S (fp 0) hb0
     · exact q.mono (hst.per q hq) (fun _ _=>rfl) hS,fun i R hi=>by simp at hi,fun i hi=>by simp at hi,fun i j hi=>by simp at hi,fun b hb=>hb.elim (hst.slt b) fun h=>(hst.lt 0 (by simp) b h).1⟩
 have h0:∀ b,¬ tot (fun _ _=>False) ([]:List Res).length b:=fun b ⟨j,hj,_⟩=>by simp at hj
 refine (h w _ _ h2).mono fun e w' ⟨v,ps',hp',S',fp',he,hR',hst',hE,hb⟩ => ?_
 have hFlt:∀ b,fp 0 b→b<w.heap.size∧¬ S b:=hst.lt 0 (by simp)
 have hsame:∀ b,b<w.heap.size→w'.heap[b]? = w.heap[b]? := fun b hb'=>hE.block b hb' (h0 b)
 refine ⟨v,[],B::hp',fun b=>S' b∧¬ fp 0 b,fun i=>match i with | 0=>fp 0 | i+1=>fp' i,he,⟨rfl,ps',hp',hR',rfl⟩,⟨fun q hq=>(by cases hq),fun i R hi => ?_,fun i hi b hbi => ?_,fun i j hi hj hne b hbi hbj => ?_,fun b hb'=>hst'.slt b hb'.1⟩,⟨hE.os,hE.tape,hE.output,hE.size,hE.drawn,fun b hb' _=>hsame b hb',fun b hb'=>⟨hE.more b (.inl hb'),fun hf=>(hFlt b hf).2 hb'⟩,fun b hb' => ?_⟩,fun b ⟨i,hi,hbi⟩ => ?_⟩
 · cases i with
   | zero =>
     simp only [List.getElem?_cons_zero,Option.some.injEq] at hi
     subst hi
     exact B.mono hb0 (fun b hb'=>hsame b (hFlt b hb').1) (fun b hb'=>hsame b (hst.slt b hb')) (fun b hb'=>⟨hE.more b (.inl hb'),fun hf=>(hFlt b hf).2 hb'⟩)
   | succ i =>
     rw [List.getElem?_cons_succ] at hi
     exact hR v ps' hp' hR' R (List.mem_of_getElem? hi) _ _ _ _ (hst'.res i R hi)
 · cases i with
   | zero=>exact ⟨Nat.lt_of_lt_of_le (hFlt b hbi).1 hE.size,fun h=>h.2 hbi⟩
   | succ i =>
     have:=hst'.lt i (by simpa using hi) b hbi
     exact ⟨this.1,fun h=>this.2 h.1⟩
 · cases i with
   | zero=>cases j with
     | zero=>exact hne rfl
     | succ j=>exact (hst'.lt j (by simpa using hj) b hbj).2 (hE.more b (.inr hbi))
   | succ i=>cases j with
     | zero=>exact (hst'.lt i (by simpa using hi) b hbi).2 (hE.more b (.inr hbj))
     | succ j=>exact hst'.dj i j (by simpa using hi) (by simpa using hj) (fun h=>hne (by rw [h])) b hbi hbj
 · rcases hE.new b hb'.1 with (h | h) | h | h
   · exact .inl h
   · exact (hb'.2 h).elim
   · exact (h0 b h).elim
   · exact .inr (.inr h)
 · cases i with
   | zero=>exact .inl ⟨0,by simp,hbi⟩
   | succ i=>exact (hb b ⟨i,by simpa using hi,hbi⟩).elim (fun h=>(h0 b h).elim) .inr
section
variable {P:Program} {n:Fr} {s:Sta} {d:Option Tmp} {ty:TypeId} {pos:String} {af:Array Edge} {gd:Option (Nat × Bool)} {x y1 y2 y3:Operand}
end
theorem aa5{w:World}{S:ba}{fp:Nat→ba}{ps:List Per}{p:Per}{L:List Res}(hst:St w S fp ps L)(hp:p.holds w (fun b=>S b∨tot fp L.length b)) :
   St w (fun b=>S b∨tot fp L.length b) (fun _ _=>False) (p::ps) [] :=
 ⟨fun q hq=>by
     rcases List.mem_cons.1 hq with rfl | hq
     · exact hp
     · exact q.mono (hst.per q hq) (fun _ _=>rfl) (fun _ h=>.inl h),fun i R hi=>by simp at hi,fun i hi=>by simp at hi,fun i j hi=>by simp at hi,fun b hb=>hb.elim (hst.slt b) fun ⟨i,hi,h⟩=>(hst.lt i hi b h).1⟩
theorem Con.borrowL{P:Program}{f:FuncId}{args:List Value}{ps:List Per}{p:Per}{R:Value→List Per→List Res→Prop}(h:Con P f args (p::ps) [] R)(L:List Res)
   (hB:∀ (w:World) (S:ba) (fp:Nat→ba),(∀ (i:Nat) (A:Res),L[i]? = some A→A.holds w S (fp i))→p.holds w (fun b=>S b∨tot fp L.length b)) (hR:∀ v ps' hp',R v ps' hp'→∀ r∈hp',xR r) :
   Con P f args ps L (fun v ps' hp'=>ps'=[]∧∃ ps2 hp2,R v ps2 hp2∧hp'=L++hp2):=fun w S fp hst=>by
 have h2:=aa5 hst (hB w S fp hst.res)
 have h0:∀ b,¬ tot (fun _ _=>False) ([]:List Res).length b:=fun b ⟨j,hj,_⟩=>by simp at hj
 refine (h w _ _ h2).mono fun e w' ⟨v,ps',hp',S',fp',he,hR',hst',hE,hb⟩ => ?_
 have hFlt:∀ b,tot fp L.length b→b<w.heap.size∧¬ S b:=fun b ⟨i,hi,h⟩=>hst.lt i hi b h
 have hsame:∀ b,b<w.heap.size→w'.heap[b]? = w.heap[b]? := fun b hb'=>hE.block b hb' (h0 b)
 have hfp:∀ i,i<L.length→∀ b,fp i b→tot fp L.length b:=fun i hi b hb=>⟨i,hi,hb⟩
 refine ⟨v,[],L++hp',fun b=>S' b∧¬ tot fp L.length b,fun i=>if i<L.length then fp i else fp' (i-L.length),he,⟨rfl,ps',hp',hR',rfl⟩,⟨fun q hq=>(by cases hq),fun i A hi => ?_,fun i hi b hbi => ?_,fun i j hi hj hne b hbi hbj => ?_,fun b hb'=>hst'.slt b hb'.1⟩,⟨hE.os,hE.tape,hE.output,hE.size,hE.drawn,fun b hb' _=>hsame b hb',fun b hb'=>⟨hE.more b (.inl hb'),fun hf=>(hFlt b hf).2 hb'⟩,fun b hb' => ?_⟩,fun b ⟨i,hi,hbi⟩ => ?_⟩
 · by_cases hil:i<L.length
   · rw [if_pos hil]
     rw [List.getElem?_append_left hil] at hi
     exact A.mono (hst.res i A hi) (fun b hb'=>hsame b (hFlt b (hfp i hil b hb')).1) (fun b hb'=>hsame b (hst.slt b hb')) (fun b hb'=>⟨hE.more b (.inl hb'),fun hf=>(hFlt b hf).2 hb'⟩)
   · rw [if_neg hil]
     rw [List.getElem?_append_right (by omega)] at hi
     exact hR v ps' hp' hR' A (List.mem_of_getElem? hi) _ _ _ _ (hst'.res _ A hi)
 · by_cases hil:i<L.length
   · rw [if_pos hil] at hbi
     exact ⟨Nat.lt_of_lt_of_le (hFlt b (hfp i hil b hbi)).1 hE.size,fun h=>h.2 (hfp i hil b hbi)⟩
   · rw [if_neg hil] at hbi
     rw [List.length_append] at hi
     have:=hst'.lt (i-L.length) (by omega) b hbi
     exact ⟨this.1,fun h=>this.2 h.1⟩
 · rw [List.length_append] at hi hj
   by_cases hil:i<L.length
   · rw [if_pos hil] at hbi
     by_cases hjl:j<L.length
     · rw [if_pos hjl] at hbj;exact hst.dj i j hil hjl hne b hbi hbj
     · rw [if_neg hjl] at hbj;exact (hst'.lt (j-L.length) (by omega) b hbj).2 (hE.more b (.inr (hfp i hil b hbi)))
   · rw [if_neg hil] at hbi
     by_cases hjl:j<L.length
     · rw [if_pos hjl] at hbj;exact (hst'.lt (i-L.length) (by omega) b hbi).2 (hE.more b (.inr (hfp j hjl b hbj)))
     · rw [if_neg hjl] at hbj;exact hst'.dj (i-L.length) (j-L.length) (by omega) (by omega) (by omega) b hbi hbj
 · rcases hE.new b hb'.1 with (h | h) | h | h
   · exact .inl h
   · exact (hb'.2 h).elim
   · exact (h0 b h).elim
   · exact .inr (.inr h)
 · dsimp only at hbi
   by_cases hil:i<L.length
   · rw [if_pos hil] at hbi;exact .inl ⟨i,hil,hbi⟩
   · rw [if_neg hil] at hbi
     rw [List.length_append] at hi
     exact (hb b ⟨i-L.length,by omega,hbi⟩).elim (fun h=>(h0 b h).elim) .inr
theorem Con.clean{P:Program}{f:FuncId}{args:List Value}{ps:List Per}{hp:List Res}{R:Value→List Per→List Res→Prop}{φ:Value→Prop}(h:Con P f args ps hp R)(hR:∀ v ps' hp',R v ps' hp'→φ v):Con P f args ps hp (fun v ps' hp'=>φ v∧ps'=[]∧hp'=[]):=fun w S fp hst =>
 (h w S fp hst).mono fun e w' ⟨v,ps',hp',S',fp',he,hr,hst',hE,hb⟩=>⟨v,[],[],S',fun _ _=>False,he,⟨hR _ _ _ hr,rfl,rfl⟩,⟨fun q hq=>(by cases hq),fun i A hi=>(by simp at hi),fun i hi=>(by simp at hi),fun i j hi=>(by simp at hi),hst'.slt⟩,hE,fun b ⟨i,hi,_⟩=>(by simp at hi)⟩
end Go.Sy

