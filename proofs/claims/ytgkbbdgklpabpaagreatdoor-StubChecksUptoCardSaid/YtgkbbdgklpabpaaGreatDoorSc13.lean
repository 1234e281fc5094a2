/- Parts of the proof, in build order. No condition. -/
import Derived.Test.YtgkbbdgklpabpaaGreatDoorSc12
import Derived.Test.YtgkbbdgklpabpaaGreatDoorSc07
import Derived.Test.YtgkbbdgklpabpaaGreatDoorSc05
import Derived.Test.YtgkbbdgklpabpaaGreatDoorSc09
import Derived.Test.YtgkbbdgklpabpaaGreatDoorSc10
import Derived.Test.YtgkbbdgklpabpaaGreatDoorSc04
import Derived.Lib.ConvBytes
import Derived.Test.YtgkbbdgklpabpaaGreatDoorSc06
set_option linter.unusedSimpArgs false
set_option linter.unusedVariables false
set_option maxHeartbeats 20000000
set_option maxRecDepth 20000
namespace Go.Proofs.YtgkbbdgklpabpaaGreatDoor
open Go.RowKit Go.Lp Go.Sy
open Go.Proofs.Tryz
attribute [local irreducible] aL aB awp aC fwp Quiet
abbrev abW:List FuncId:=[101,102,103,104,105,106,107,108,109,110]
theorem acP(o:aI)(hf:xT o):∀ k:Nat,k<10→∃ f,abW[k]? = some f∧aX Tryz.prog f=true∧Con Tryz.prog f [o.val] [bC,o.ok] [] (YN Value.bool fun b=>b=true→RtK o k):=by
 have up:∀ {f:FuncId} {Φ:Prop},Con Tryz.prog f [o.val] [o.ok] [] (YB Φ)→Con Tryz.prog f [o.val] [bC,o.ok] [] (YN Value.bool fun b=>b=true→Φ):=fun h=>h.pre fun p hp=>(List.mem_singleton.1 hp) ▸ .of (ax 1 rfl)
 intro k hk
 rcases (by omega:k=0∨k=1∨k=2∨k=3∨k=4∨k=5∨k=6∨k=7∨k=8∨k=9) with rfl | rfl | rfl | rfl | rfl | rfl | rfl | rfl | rfl | rfl
 · exact ⟨_,rfl,by kernel_rfl,up (wF o)⟩
 · exact ⟨_,rfl,by kernel_rfl,up (wG o)⟩
 · exact ⟨_,rfl,by kernel_rfl,wE o⟩
 · exact ⟨_,rfl,by kernel_rfl,up (rU o hf.groups hf.secs)⟩
 · exact ⟨_,rfl,by kernel_rfl,up (tP o)⟩
 · exact ⟨_,rfl,by kernel_rfl,up (tQ o)⟩
 · exact ⟨_,rfl,by kernel_rfl,up (qI o hf.inlines)⟩
 · exact ⟨_,rfl,by kernel_rfl,up (wH o)⟩
 · exact ⟨_,rfl,by kernel_rfl,up (rT o)⟩
 · exact ⟨_,rfl,by kernel_rfl,up (pa o)⟩
theorem tk37:tyk Tryz.prog 37=some (false,1):=by kernel_rfl
theorem jA(o:aI)(hf:xT o):Con Tryz.prog 67 [o.val] [bC,o.ok] [] (YB (abt o)):=by
 refine EN1 Tryz.func67 rfl (cL (aI.f_name (.of (ax 1 rfl))) (fun hnl=>(aSR (LT rfl (aS rfl rfl rfl (fun b0_0=>(aHN ?_)))))))
 refine go 0 [0,32256] ?_
 refine aU rfl (bP (l:=[(0,.tmp 6)]) (zs:=[.string .empty,.slice none 0 0,.slice none 0 0,.slice none 0 0,.slice none 0 0,.slice none 0 0,.slice none 0 0,.slice none 0 0,.slice none 0 0,.slice none 0 0,.slice none 0 0]) (pl:=[(0,11)]) (by kernel_rfl) (by kernel_rfl) (by kernel_rfl) rfl rfl rfl) (LT rfl (aW (zs:=[.string .empty,.slice none 0 0,.slice none 0 0,.slice none 0 0,.slice none 0 0,.slice none 0 0,.slice none 0 0,.slice none 0 0,.slice none 0 0,.slice none 0 0,.slice none 0 0]) (by kernel_rfl) rfl (fun b1_2=>(aHN ?_))))
 refine go 0 [32259,32259] ?_
 refine aU rfl (dZ (l:=[.tmp 8]) rfl) (go 0 [32259] ?_)
 refine aU rfl (dZ (l:=[.tmp 10]) rfl) (go 0 [32259] ?_)
 refine aU rfl (dZ (l:=[.tmp 12]) rfl) (go 0 [32259] ?_)
 refine aU rfl (dZ (l:=[.tmp 14]) rfl) (go 0 [32259] ?_)
 refine aU rfl (dZ (l:=[.tmp 16]) rfl) (go 0 [32259] ?_)
 refine aU rfl (dZ (l:=[.tmp 18]) rfl) (go 0 [32259] ?_)
 refine aU rfl (dZ (l:=[.tmp 20]) rfl) (go 0 [32259] ?_)
 refine aU rfl (dZ (l:=[.tmp 22]) rfl) (go 0 [32259] ?_)
 refine aU rfl (dZ (l:=[.tmp 24]) rfl) (go 0 [32259] ?_)
 refine aU rfl (dZ (l:=[.tmp 26]) rfl) (LT rfl (WL (zs:=[.nilFunc]) el76 rfl rfl rfl (.more rfl (.v rfl .nil) (.more rfl (.v rfl .nil) (.more rfl (.v rfl .nil) (.more rfl (.v rfl .nil) (.more rfl (.v rfl .nil) (.more rfl (.v rfl .nil) (.more rfl (.v rfl .nil) (.more rfl (.v rfl .nil) (.more rfl (.v rfl .nil) (.more rfl (.v rfl .nil) .nil)))))))))) rfl rfl (fun v2_20=>(aHN ?_))))
 refine aU rfl (dQ 2 Tryz.underlying76 rfl rfl) (go 3 [0] ?_)
 refine aF [1,28,29,30] [1,0] [0,2] (fun (k:Nat) s=>(k≤10∧∀ j,j<k→RtK o j)∧s=⟨[(1,true,.pointer (some ⟨b0_0,0,none⟩)),(28,true,.slice v2_20 10 10),(29,true,.int .i64 (10:Nat)),(30,true,.int .i64 k)],[bC,o.ok],[Box b0_0 126 o.vs,aP (.slice v2_20 10 10) 37 1 (abW.map fun f=>[.v (.func (.func f) #[o.val] #[])])]⟩) (fun k=>10-k) rfl (⟨0,⟨Nat.zero_le _,fun j h=>by omega⟩,rfl⟩) ?_
 rintro k s ⟨⟨hk,hR⟩,rfl⟩
 refine go 3 [0] ?_
 refine aa _ rfl (fun h1 => ?_) (fun h1 => ?_)
 ·skip
  have hk':k<10:=by simp at h1;omega
  obtain ⟨f,hfk,hfo,hfc⟩:=acP o hf k hk'
  have hrow:(abW.map fun f=>[D.v (.func (.func f) #[o.val] #[])])[k]? = some [.v (.func (.func f) #[o.val] #[])]:=by rw [List.getElem?_map,hfk];rfl
  refine aD (an (aq (aH (aSR (aU rfl (bK 1 k el76 rfl rfl rfl rfl hk') (aU rfl (bl 1 k 0 tk37 rfl rfl hrow rfl rfl) (go 0 [0,0] ?_)))))))
  refine rA (fst:=[o.val]) [1,0] hfo rfl rfl rfl hfc (fun c1 hc1=>(go 2 [0] ?_))
  refine aa _ rfl (fun h2 => ?_) (fun h2 => ?_)
  ·skip
   refine go 2 [0] ?_
   refine ae (aK (aj (aj (aK (aj (FZ1 [] Tryz.results67 rfl ?_))))))
   exact ⟨⟨rfl,rfl⟩,_,rfl,fun h=>by cases h⟩
  ·skip
   refine go 1 [0,0] ?_
   refine an ?_
   refine ⟨[1,28,29,30],[1,0],[0,1],rfl,?_⟩
   refine ⟨k+1,⟨⟨by omega,fun j hj => ?_⟩,rfl⟩,by omega⟩
   by_cases hjk:j=k
   · subst hjk;exact hc1 (by simpa using h2)
   · exact hR j (by omega)
 ·skip
  refine go 0 [0,0] ?_
  refine aE (caps:=[]) [] (false) (by kernel_rfl) true rfl rfl (fun _=>rfl) (fun hc=>rfl) (fun hc=>by rw [List.append_nil];exact eQ _ hnl) (fun c2 hc2 => ?_)
  refine go 2 [0] ?_
  refine ae (FZ1 [] Tryz.results67 rfl ?_)
  have hk10:k=10:=by simp at h1;omega
  subst hk10
  exact ⟨⟨rfl,rfl⟩,_,rfl,fun _=>⟨hR 0 (by omega),hR 2 (by omega),hR 1 (by omega),hR 3 (by omega)⟩⟩
abbrev cI{α:Type} : Sl α:=⟨none,0,[]⟩
theorem eC{α:Type}{row:α→List D}{ps:List Per} : Ent ps (ShF row cI):=fun _ _ _=>.e none 0 (by unfold maxLen;omega)
theorem iq{α:Type}{f:α→Per}{ps:List Per} : Ent ps (bu f []):=fun _ _ _ _ h=>by cases h
theorem si{φ:Prop}{ps:List Per}(h:φ):Ent ps (Fa φ):=fun _ _ _=>h
theorem y4{p:Per}{ps:List Per}(h:Ent ps p):∀ r∈[p],Ent ps r:=fun r hr=>by rw [List.mem_singleton.1 hr];exact h
abbrev nmO(s:ByteArray):aI:=⟨s,cI,cI,cI,cI,cI,cI,cI,cI,cI,cI⟩
theorem abL{s:ByteArray}{ps:List Per}(h:s.size≤maxLen):Ent ps (nmO s).ok:=.mk2 (si h) (.mk2 eC (.mk2 iq (.mk2 eC (.mk2 iq (.mk2 eC (.mk2 eC (.mk2 iq (.mk2 eC (.mk2 eC (.mk2 iq (.mk2 eC (.mk2 iq (.mk2 eC (.mk2 iq (.mk2 eC (.mk2 eC iq))))))))))))))))
theorem eS(s:ByteArray)(hs:s.size≤maxLen):Con Tryz.prog 62 [.string s] [bC] [] (YB True):=by
 refine EN1 Tryz.func62 rfl (go 0 [0,0] ?_)
 refine aU rfl (bP (l:=[(0,.tmp 3)]) (zs:=[.string .empty,.slice none 0 0,.slice none 0 0,.slice none 0 0,.slice none 0 0,.slice none 0 0,.slice none 0 0,.slice none 0 0,.slice none 0 0,.slice none 0 0,.slice none 0 0]) (pl:=[(0,1),(1,1),(2,1),(3,1),(4,1),(5,1),(6,1),(7,1),(8,1),(9,1),(10,1)]) (by kernel_rfl) (by kernel_rfl) (by kernel_rfl) rfl rfl rfl) ?_
 refine aE (caps:=[]) [0] (false) (by kernel_rfl) true rfl rfl (fun _=>rfl) (fun hc=>rfl) (fun hc=>by rw [List.append_nil];exact (jA (nmO s) ⟨Nat.zero_le _,Nat.zero_le _,Nat.zero_le _⟩).pre (ej (.of (ax 0 rfl)) (abL hs))) (fun c1 hc1 => ?_)
 refine go 2 [0] ?_
 refine ae (FZ1 [] Tryz.results62 rfl ?_)
 exact ⟨⟨rfl,rfl⟩,_,rfl,fun _=>trivial⟩
theorem wU(k:Int):Con Tryz.prog 113 [.int .i64 k] [] [] (YB (k∈[0,4,8,9])):=by
 refine EN1 Tryz.func113 rfl (go 4 [0] ?_)
 refine eK (zs:=[.int .i64 0]) (l:=[(0,.const (.int .i64 0)),(1,.const (.int .i64 4)),(2,.const (.int .i64 8)),(3,.const (.int .i64 9))]) el33 (by kernel_rfl) (by decide) (by decide) (by decide) rfl _ rfl (fun hc=>rfl) rfl (.more rfl (.v rfl .nil) (.more rfl (.v rfl .nil) (.more rfl (.v rfl .nil) (.more rfl (.v rfl .nil) .nil)))) rfl rfl (fun v1_0=>(aM rfl ?_))
 refine aE (caps:=[]) [0] (false) (by kernel_rfl) true rfl rfl (fun _=>rfl) (fun hc=>rfl) (fun hc=>by rw [List.append_nil];exact (iX ⟨v1_0,4,[0,4,8,9]⟩ k).pre (y4 (.yes (.of (ax 0 rfl)) rfl))) (fun c1 hc1 => ?_)
 refine go 2 [0] ?_
 refine ae (FZ1 [] Tryz.results113 rfl ?_)
 exact ⟨⟨rfl,rfl⟩,_,rfl,hc1 rfl⟩
theorem ng(k:Int):Con Tryz.prog 115 [.int .i64 k] [] [] (YB True):=by
 refine EN1 Tryz.func115 rfl (go 4 [0] ?_)
 refine eK (zs:=[.int .i64 0]) (l:=[(0,.const (.int .i64 2)),(1,.const (.int .i64 3)),(2,.const (.int .i64 5)),(3,.const (.int .i64 10))]) el33 (by kernel_rfl) (by decide) (by decide) (by decide) rfl _ rfl (fun hc=>rfl) rfl (.more rfl (.v rfl .nil) (.more rfl (.v rfl .nil) (.more rfl (.v rfl .nil) (.more rfl (.v rfl .nil) .nil)))) rfl rfl (fun v1_0=>(aM rfl ?_))
 refine aE (caps:=[]) [0] (false) (by kernel_rfl) true rfl rfl (fun _=>rfl) (fun hc=>rfl) (fun hc=>by rw [List.append_nil];exact (iX ⟨v1_0,4,[2,3,5,10]⟩ k).pre (y4 (.yes (.of (ax 0 rfl)) rfl))) (fun c1 hc1 => ?_)
 refine go 2 [0,0] ?_
 refine ae (FZ1 [] Tryz.results115 rfl ?_)
 exact ⟨⟨rfl,rfl⟩,_,rfl,fun _=>trivial⟩
structure aaq (u:aJ) (r:dE):Prop where
 ex:aao u r.to_
 nul:r.to_.kind≠0→r.to_.kind≠1→r.kind∈[0,4,8,9]
theorem wR(u:aJ)(r:dE):Con Tryz.prog 72 [u.val,r.val] [u.ok] [] (YB (aaq u r)):=by
 refine EN2 Tryz.func72 rfl (aSR (LT rfl (aS rfl rfl rfl (fun b0_0=>(aHN ?_)))))
 refine LT rfl (aS rfl rfl rfl (fun b0_1=>(aHN ?_)))
 refine go 0 [0,0,41472,2,10755] ?_
 refine aE (caps:=[]) [0] (false) (by kernel_rfl) true rfl rfl (fun _=>rfl) (fun hc=>rfl) (fun hc=>by rw [List.append_nil];exact ga u r.to_) (fun c1 hc1 => ?_)
 refine go 2 [0,0] ?_
 refine aa _ rfl (fun h1 => ?_) (fun h1 => ?_)
 ·skip
  refine go 2 [0] ?_
  refine ae (aK (aj (FZ1 [] Tryz.results72 rfl ?_)))
  exact ⟨⟨rfl,rfl⟩,_,rfl,fun h=>by cases h⟩
 ·skip
  have hex:aao u r.to_:=hc1 rfl (by simpa using h1)
  refine go 0 [2,0,3,0,0,1,3] ?_
  refine aE (caps:=[]) [] (false) (by kernel_rfl) _ rfl rfl (fun _=>rfl) (fun hc=>(ao (ah rfl hc) rfl)) (fun hc=>by rw [List.append_nil];exact wU r.kind) (fun c2 hc2 => ?_)
  refine go 2 [0,0,0] ?_
  refine aa _ rfl (fun h2 => ?_) (fun h2 => ?_)
  ·skip
   refine go 2 [0] ?_
   refine ae (aK (aj (FZ1 [] Tryz.results72 rfl ?_)))
   exact ⟨⟨rfl,rfl⟩,_,rfl,fun h=>by cases h⟩
  ·skip
   have hnu:r.to_.kind≠0→r.to_.kind≠1→r.kind∈[0,4,8,9]:=fun a b=>by
     have hk:r.to_.kind=2:=by rw [hex.nul a b]
     rw [hk] at h2 hc2
     exact hc2 rfl (by simpa using h2)
   refine go 2 [2,0,3,0,0] ?_
   refine aa _ rfl (fun h3 => ?_) (fun h3 => ?_)
   ·skip
    have hn:=(hex.node (by simpa using h3)).1
    refine go 0 [0,2,0,2,1,3] ?_
    refine bI true rfl rfl (fun _=>ai Tryz.underlying22 tk52 rfl ((aJ.f_nodes (.of (ax 0 rfl)))) rfl (bN (i:=r.to_.n) hn.2 hn.1) (by omega) rfl) (fun h=>absurd h (by decide)) (fun ⟨b7_6,o7_6⟩=>(go 0 [2,98] ?_))
    refine aU rfl (Q0 rfl (iY _)) (go 0 [0,1,3,0] ?_)
    refine aE (caps:=[]) [] (false) (by kernel_rfl) true rfl rfl (fun _=>rfl) (fun hc=>rfl) (fun hc=>by rw [List.append_nil];exact jE _ _) (fun c3 hc3 => ?_)
    refine go 0 [0,1,3,0,0,2,0,3,0,0,0,0,2,0,3,0,0,1,3] ?_
    refine aE (caps:=[]) [] (false) (by kernel_rfl) _ rfl rfl (fun _=>rfl) (fun hc=>(ao (ah rfl hc) rfl)) (fun hc=>by rw [List.append_nil];exact ng _) (fun c4 hc4 => ?_)
    refine go 2 [0,0,0] ?_
    refine ae (FZ1 [] Tryz.results72 rfl ?_)
    exact ⟨⟨rfl,rfl⟩,_,rfl,fun _=>⟨hex,hnu⟩⟩
   ·skip
    refine go 2 [2,0,3,0,0] ?_
    refine aa _ rfl (fun h4 => ?_) (fun h4 => ?_)
    ·skip
     have hn:=(hex.imp (by simpa using h4)).1
     refine go 0 [0,3,0,2,1,3] ?_
     refine bI true rfl rfl (fun _=>ai Tryz.underlying23 tk137 rfl ((aJ.f_imports (.of (ax 0 rfl)))) rfl (bN (i:=r.to_.n) hn.2 hn.1) (by omega) rfl) (fun h=>absurd h (by decide)) (fun ⟨b9_6,o9_6⟩=>(go 0 [2,98,0,1,3,0] ?_))
     refine aE (caps:=[]) [] (false) (by kernel_rfl) true rfl rfl (fun _=>rfl) (fun hc=>rfl) (fun hc=>by rw [List.append_nil];exact jE _ _) (fun c3 hc3 => ?_)
     refine go 0 [0,1,3,0,0,2,0,3,0,0,0,0,2,0,3,0,0,1,3] ?_
     refine aE (caps:=[]) [] (false) (by kernel_rfl) _ rfl rfl (fun _=>rfl) (fun hc=>(ao (ah rfl hc) rfl)) (fun hc=>by rw [List.append_nil];exact ng _) (fun c4 hc4 => ?_)
     refine go 2 [0,0,0] ?_
     refine ae (FZ1 [] Tryz.results72 rfl ?_)
     exact ⟨⟨rfl,rfl⟩,_,rfl,fun _=>⟨hex,hnu⟩⟩
    ·skip
     refine go 0 [1,3,0] ?_
     refine aE (caps:=[]) [] (false) (by kernel_rfl) true rfl rfl (fun _=>rfl) (fun hc=>rfl) (fun hc=>by rw [List.append_nil];exact jE _ _) (fun c3 hc3 => ?_)
     refine go 0 [0,1,3,0,0,2,0,3,0,0,0,0,2,0,3,0,0,1,3] ?_
     refine aE (caps:=[]) [] (false) (by kernel_rfl) _ rfl rfl (fun _=>rfl) (fun hc=>(ao (ah rfl hc) rfl)) (fun hc=>by rw [List.append_nil];exact ng _) (fun c4 hc4 => ?_)
     refine go 2 [0,0,0] ?_
     refine ae (FZ1 [] Tryz.results72 rfl ?_)
     exact ⟨⟨rfl,rfl⟩,_,rfl,fun _=>⟨hex,hnu⟩⟩
end Go.Proofs.YtgkbbdgklpabpaaGreatDoor

namespace Go.Sy
open Go.RowKit Go.Lp
section
variable {P:Program} {n:Fr} {s:Sta} {d:Option Tmp} {ty:TypeId} {pos:String} {af:Array Edge} {gd:Option (Nat × Bool)}
theorem aaU{x y y':Operand}{T:TypeId}{kk kk':IntKind}{z z':Int}{b:ByteArray}(hT:P.underlying T=some .string)(hx:ev s.env x=some (true,.string b))(hy:ev s.env y=some (true,.int kk z))(hy':ev s.env y'=some (true,.int kk' z'))(h0:0≤z)(h1:z≤z')(h2:z'≤b.size) :
   Quiet P n ⟨d,.slice T x (some y) (some y') none,ty,pos,af,gd⟩ s (.string (b.extract z.toNat z'.toNat)):=fun w S fp a hst he hn=>by
 have e1:=he.val hx rfl
 have e2:=he.val hy rfl
 have e3:=he.val hy' rfl
 have:(execOp a.eval ⟨d,.slice T x (some y) (some y') none,ty,pos,af,gd⟩).run P w=.ok (.value (.string (b.extract z.toNat z'.toNat))) w:=by
   unfold execOp;dsimp only;simp only [Option.map_some,Option.map_none];rw [e1,e2,e3]
   show ((Instr.sliceAt T (.string b) (some (.int kk z)) (some (.int kk' z')) none).bind fun r=>Sem.pure (Next.value r)).run P w=_
   have:(Instr.sliceAt T (.string b) (some (.int kk z)) (some (.int kk' z')) none).run P w=.ok (.string (b.extract z.toNat z'.toNat)) w:=by
     rw [run_sliceAt_string w T _ _ _ _ hT]
     exact run_slice_string w T b kk kk' z z' hT h0 h1 h2
   rw [Sem.run_bind',this];rfl
 rw [this];exact bE _ _
end
def byR(l:List UInt8):List (List D):=l.map fun u=>[.v (.int .u8 u.toNat)]
theorem aaw(l:List UInt8):(byR l).length=l.length:=by simp [byR]
section
variable {P:Program} {n:Fr} {env:Env} {ps:List Per} {hp:List Res} {ty:TypeId} {pos:String} {af:Array Edge} {gd:Option (Nat × Bool)} {K:Sta→Prop} {q:Bool}
theorem nq {t:Nat} {S T E:TypeId} {u:TypeDesc} {x:Operand} {b:ByteArray} (hS:P.underlying S=some u) (hT:P.underlying T=some (.slice E)) (hE:P.underlying E=some (.int .u8)) (hx:ev env x=some (true,.string b)) (hb:b.size≤maxLen) (ht:fits n (some t)=true)
   (hK:∀ ad c,K ⟨(t,true,.slice ad b.size c)::env,Sh (.slice ad b.size c) (.sl (byR b.data.toList))::ps,hp⟩):Eff P n ⟨some t,.convert S T x,ty,pos,af,gd⟩ ⟨env,ps,hp⟩ q K:=fun w S' fp a hst he hn=>by
 have e1:=he.val hx rfl
 have hrun:=Lib.run_convert_string_bytes (P:=P) w S T E b hS hT hE
 have hexec:(execOp a.eval ⟨some t,.convert S T x,ty,pos,af,gd⟩).run P w=.ok (.value (.slice (some ⟨w.heap.size,0,none⟩) b.size (grownCap w b.size 0 E))) (Lib.bytesWorld w E b):=by
   unfold execOp;dsimp only;rw [e1]
   show ((convert S T (.string b)).bind fun r=>Sem.pure (Next.value r)).run P w=_
   rw [Sem.run_bind',hrun];rfl
 rw [hexec]
 have hsz:=Lib.bytesWorld_size w E b
 have hbel:Below w.heap.size w (Lib.bytesWorld w E b):=⟨by unfold Lib.bytesWorld World.freeze;split<;>rfl,by unfold Lib.bytesWorld World.freeze;split<;>rfl,by unfold Lib.bytesWorld World.freeze;split<;>rfl,by omega,p7 _ _ _ _ hrun,fun k hk=>Lib.bytesWorld_at_old w E b k hk⟩
 have hst1:=hst.below hbel
 have hS2:∀ k,S' k→(S' k∨k=w.heap.size):=fun _ h=>.inl h
 refine ⟨_,(fun k=>S' k∨k=w.heap.size),fp,hK (some ⟨w.heap.size,0,none⟩) (grownCap w b.size 0 E),⟨fun p hp' => ?_,fun j R hj=>R.mono (hst1.res j R hj) (fun _ _=>rfl) (fun _ _=>rfl) hS2,fun j hj k hk=>⟨(hst1.lt j hj k hk).1,fun h=>h.elim (hst1.lt j hj k hk).2 fun e => ?_⟩,hst1.dj,fun k hk=>hk.elim (hst1.slt k) fun e=>by rw [e,hsz];omega⟩,he.put (g:=true) (by rw [hn];simpa [fits] using ht) _,
   ⟨hbel.os,hbel.tape,hbel.output,hbel.size,hbel.drawn,fun k hk _=>hbel.block k hk,fun _ h=>.inl h,fun k hk=>hk.elim .inl fun e=>.inr (.inr (by omega))⟩,fun k hk=>.inl hk,fun _=>hbel⟩
 · rcases List.mem_cons.1 hp' with rfl | h2
   · have hcap:b.size≤grownCap w b.size 0 E:=grownCap_ge w b.size 0 E
     have hlen:(byR b.data.toList).length=b.size:=by rw [aaw];simp
     have:=dT.sl (w:=Lib.bytesWorld w E b) (S:=fun k=>S' k∨k=w.heap.size) w.heap.size 0 (grownCap w b.size 0 E) 1 (byR b.data.toList) (fun i _=>.int .u8 (b.data.toList.getD i 0).toNat) (.inr rfl) (by rw [hlen];exact hcap) (grownCap_le_maxLen w b.size 0 E hb)
       (fun i r hi=>by simp only [byR,List.getElem?_map,Option.map_eq_some_iff] at hi;obtain ⟨x,_,rfl⟩:=hi;rfl)
       (fun i j r d h1 h2=>by
         simp only [byR,List.getElem?_map,Option.map_eq_some_iff] at h1
         obtain ⟨x,hx',rfl⟩:=h1
         have hi:i<b.size:=by have:=(List.getElem?_eq_some_iff.1 hx').1;simpa using this
         cases j with
         | succ j=>simp at h2
         | zero=>refine ⟨?_,rfl⟩;rw [show 0+i*1+0=i by omega];exact Lib.bytesWorld_cell w E b i hi)
       (fun i j r d h1 h2=>by
         simp only [byR,List.getElem?_map,Option.map_eq_some_iff] at h1
         obtain ⟨x,hx',rfl⟩:=h1
         cases j with
         | succ j=>simp at h2
         | zero =>
           simp only [List.getElem?_cons_zero,Option.some.injEq] at h2
           subst h2
           have:b.data.toList.getD i 0=x:=by rw [List.getD,hx'];rfl
           rw [this];exact .v _)
     rwa [hlen] at this
   · exact p.mono (hst1.per p h2) (fun _ _=>rfl) hS2
 · have:=(hst.lt j hj k hk).1
   omega
end
theorem vj{l:List UInt8}{k:Nat}{u:UInt8}(h:l[k]? = some u):(byR l)[k]? = some [.v (.int .u8 u.toNat)]:=by unfold byR;rw [List.getElem?_map,h];rfl
open Classical in
noncomputable def km {α β:Type} (m:α→Option β):Nat:=if h:∃ ks:List α,ks.Nodup∧∀ a,(m a).isSome=true↔a∈ks then h.choose.length else 0
theorem dI{γ:Type} : ∀ (D R:List γ),D.Nodup→(∀ x∈D,x∈R)→D.length≤R.length
 | [],_,_,_=>Nat.zero_le _
 | a :: D,R,hn,h=>by
   rw [List.nodup_cons] at hn
   obtain ⟨s,t,rfl⟩:=List.append_of_mem (h a (by simp))
   have:=dI D (s++t) hn.2 fun x hx=>by
     have hx2:=h x (by simp [hx])
     rw [List.mem_append,List.mem_cons] at hx2
     rcases hx2 with h1 | rfl | h1
     · exact List.mem_append_left _ h1
     · exact absurd hx hn.1
     · exact List.mem_append_right _ h1
   rw [List.length_append] at this
   rw [List.length_cons,List.length_append,List.length_cons];omega
theorem oa{α β:Type}{m:α→Option β}{ks:List α}(hn:ks.Nodup)(h:∀ a,(m a).isSome=true↔a∈ks):km m=ks.length:=by
 have hx:∃ ks:List α,ks.Nodup∧∀ a,(m a).isSome=true↔a∈ks:=⟨ks,hn,h⟩
 unfold km
 rw [dif_pos hx]
 have h2:=hx.choose_spec
 exact Nat.le_antisymm (dI _ _ h2.1 fun x hx'=>(h x).1 ((h2.2 x).2 hx')) (dI _ _ hn fun x hx'=>(h2.2 x).1 ((h x).2 hx'))
theorem zC{P:Program}{n:Fr}{env:Env}{ps:List Per}{hp:List Res}{d:Option Tmp}{ty:TypeId}{pos:String}{af:Array Edge}{gd:Option (Nat × Bool)}{α β:Type}{κ:α→Value}{ν:β→Value}{m:α→Option β}{kt:TypeId}[Inhabited α]
   {x:Operand} {T E:TypeId} {b:Nat} (i:Nat) (hT:P.underlying T=some (.map kt E)) (KO:fh P kt κ) (hx:ev env x=some (true,.map (some b))) (hi:hp[i]? = some (eg b κ ν m)) :
   Quiet P n ⟨d,.call ⟨.builtin .len,#[x],#[T]⟩,ty,pos,af,gd⟩ ⟨env,ps,hp⟩ (.int .i64 (km m)):=fun w S fp a hst he hn=>by
 have h1:=he.val hx rfl
 obtain ⟨⟨es,clock,hb,hes,_⟩,hF⟩:=hst.res i _ hi
 have hT':P.underlying T=some (.map (P.mapKeyOf T) (P.mapElemOf T)):=by rw [hT];unfold Program.mapKeyOf Program.mapElemOf;rw [hT]
 have hrun:=run_len_map (P:=P) (w:=w) T ty b es clock hT' hb
 obtain ⟨f,hf⟩:∃ f:MapEntry→α,∀ e∈es.toList,e.key=κ (f e)∧(m (f e)).isSome=true:=by
   have:∀ e:MapEntry,∃ a:α,e∈es.toList→e.key=κ a∧(m a).isSome=true:=fun e=>by
     by_cases he:e∈es.toList
     · obtain ⟨a,v,h1,_,h3⟩:=hes.of e he
       exact ⟨a,fun _=>⟨h1,by rw [h3];rfl⟩⟩
     · exact ⟨default,fun h=>absurd h he⟩
   exact ⟨fun e=>(this e).choose,fun e he=>(this e).choose_spec he⟩
 have hc:km m=es.size:=by
   rw [oa (ks:=es.toList.map f)]
   · simp
   · show List.Pairwise _ _
     rw [List.pairwise_map]
     refine hes.apart.imp_of_mem fun ha hb h e=>h ?_
     rw [(hf _ ha).1,(hf _ hb).1,e]
   · intro a
     rw [List.mem_map]
     constructor
     · intro h
       obtain ⟨v,hv⟩:=Option.isSome_iff_exists.1 h
       obtain ⟨e,he,h2,_⟩:=hes.mem a v hv
       exact ⟨e,he,KO.inj _ _ ((hf e he).1.symm.trans h2)⟩
     · rintro ⟨e,he,rfl⟩;exact (hf e he).2
 have:(execOp a.eval ⟨d,.call ⟨.builtin .len,#[x],#[T]⟩,ty,pos,af,gd⟩).run P w=.ok (.value (.int .i64 (km m))) w:=by
   have e:(execOp a.eval ⟨d,.call ⟨.builtin .len,#[x],#[T]⟩,ty,pos,af,gd⟩)=(Builtin.len_ #[T] ty (#[x].map a.eval)).bind fun r=>Sem.pure (Next.value r):=rfl
   rw [e,show #[x].map a.eval = #[.map (some b)] by simp [h1],Sem.run_bind',hrun,hc];rfl
 rw [this];exact bE _ _
end Go.Sy

namespace Go.Lv
open Go.Sy
abbrev BS:=List Int × List Int
def dk(N:Nat)(s:BS)(v:Int):BS:=if 0≤v∧v<N then (s.1.set v.toNat v,s.2++[v]) else s
def cO(N:Nat)(rs:List Int):BS:=rs.foldl (dk N) (List.replicate N (-1),[])
def visit(u:Int)(s:BS)(x:Int):BS:=if elt s.1 x<0 then (s.1.set x.toNat u,s.2++[x]) else s
def mO(out:List (List Int))(s:BS)(k:Nat):BS:=match s.2[k]? with
 | none=>s
 | some u=>(elt out u).foldl (visit u) s
def bfs(out:List (List Int))(s:BS):Nat→BS
 | 0=>s
 | k+1=>mO out (bfs out s k) k
def zp(b:List Int):Nat:=b.countP (fun z=>decide (z<0))
theorem dq{b:List Int}{x y u:Int}(h0:0≤x)(h1:x<b.length)(hy:0≤y):elt (b.set x.toNat u) y=if x=y then u else elt b y:=by
 unfold elt
 rw [List.getD_eq_getElem?_getD,List.getD_eq_getElem?_getD,List.getElem?_set]
 have hx:x.toNat<b.length:=by omega
 by_cases h:x=y
 · subst h;rw [if_pos rfl,if_pos hx,if_pos rfl];rfl
 · rw [if_neg (by omega),if_neg h]
theorem zq{b:List Int}{x u:Int}(h0:0≤x)(h1:x<b.length)(hx:elt b x<0)(hu:0≤u):zp (b.set x.toNat u)+1=zp b:=by
 have hlt:x.toNat<b.length:=by omega
 have e:b[x.toNat]<0:=by unfold elt at hx;rw [List.getD_eq_getElem?_getD,List.getElem?_eq_getElem hlt] at hx;exact hx
 unfold zp
 have hm:b[x.toNat]∈b:=List.getElem_mem hlt
 have hpos:0<b.countP (fun z=>decide (z<0)):=List.countP_pos_iff.2 ⟨_,hm,by simpa using e⟩
 rw [List.countP_set hlt]
 rw [if_pos (by simpa using e),if_neg (by simpa using hu)]
 omega
structure BI (N M:Nat) (s:BS):Prop where
 len:s.1.length=N
 mem:∀ x∈s.2,0≤x∧x<N
 cnt:s.2.length+zp s.1≤M
theorem BI.le{N M:Nat}{s:BS}(h:BI N M s):s.2.length≤M:=by have:=h.cnt;omega
theorem rl{N:Nat}{s:BS}{v:Int} : (dk N s v).1.length=s.1.length∧(dk N s v).2.length≤s.2.length+1:=by
 unfold dk;split<;>simp
theorem gN(N:Nat)(rs:List Int):(cO N rs).1.length=N∧(cO N rs).2.length≤rs.length:=by
 have:∀ (rs:List Int) (s:BS),(rs.foldl (dk N) s).1.length=s.1.length∧(rs.foldl (dk N) s).2.length≤s.2.length+rs.length:=by
   intro rs
   induction rs with
   | nil=>intro s;exact ⟨rfl,Nat.le_refl _⟩
   | cons v rs ih=>intro s;obtain ⟨h1,h2⟩:=ih (dk N s v);obtain ⟨h3,h4⟩:=rl (N:=N) (s:=s) (v:=v);rw [List.foldl_cons,List.length_cons];exact ⟨by rw [h1,h3],by omega⟩
 have:=this rs (List.replicate N (-1),[])
 unfold cO;simpa using this
theorem tt(N:Nat)(rs:List Int):∀ x∈(cO N rs).2,(0≤x∧x<N)∧x∈rs:=by
 have:∀ (rs rs0:List Int) (s:BS),(∀ x∈s.2,(0≤x∧x<(N:Int))∧x∈rs0)→∀ x∈(rs.foldl (dk N) s).2,(0≤x∧x<(N:Int))∧(x∈rs0∨x∈rs):=by
   intro rs
   induction rs with
   | nil=>intro rs0 s h x hx;exact ⟨(h x hx).1,.inl (h x hx).2⟩
   | cons v rs ih =>
     intro rs0 s h x hx
     rw [List.foldl_cons] at hx
     have:=ih (rs0++[v]) (dk N s v) (fun y hy=>by
       unfold dk at hy
       split at hy
       · rename_i hv
         rcases List.mem_append.1 hy with h1 | h1
         · exact ⟨(h y h1).1,List.mem_append_left _ (h y h1).2⟩
         · rw [List.mem_singleton.1 h1];exact ⟨hv,by simp⟩
       · exact ⟨(h y hy).1,List.mem_append_left _ (h y hy).2⟩) x hx
     refine ⟨this.1,?_⟩
     rcases this.2 with h1 | h1
     · rcases List.mem_append.1 h1 with h2 | h2
       · exact .inl h2
       · rw [List.mem_singleton.1 h2];exact .inr List.mem_cons_self
     · exact .inr (List.mem_cons_of_mem _ h1)
 intro x hx
 have:=this rs [] _ (fun _ h=>by cases h) x hx
 exact ⟨this.1,this.2.elim (fun h=>by cases h) id⟩
theorem rJ(N:Nat)(rs:List Int){k:Nat}{v:Int}(h:rs[k]? = some v):cO N (rs.take (k+1))=dk N (cO N (rs.take k)) v:=by
 unfold cO;rw [List.take_add_one,h,List.foldl_append];rfl
theorem iU(N:Nat)(rs:List Int):BI N (rs.length+N) (cO N rs) where
 len:=(gN N rs).1
 mem x hx:=(tt N rs x hx).1
 cnt:=by
   have h1:=gN N rs
   have h2:zp (cO N rs).1≤(cO N rs).1.length:=List.countP_le_length
   omega
theorem aak{N M:Nat}{s:BS}{u x:Int}(h:BI N M s)(hu:0≤u)(hx:0≤x∧x<N):BI N M (visit u s x):=by
 unfold visit
 split
 · rename_i h0
   have hn:=zq hx.1 (by rw [h.len];exact hx.2) h0 hu
   refine ⟨by simpa using h.len,fun y hy => ?_,?_⟩
   · rcases List.mem_append.1 hy with h1 | h1
     · exact h.mem y h1
     · rw [List.mem_singleton.1 h1];exact hx
   · have:=h.cnt
     rw [List.length_append,List.length_singleton];dsimp only;omega
 · exact h
theorem qj{s:BS}{u x:Int} : s.2 <+: (visit u s x).2:=by
 unfold visit;split
 · exact List.prefix_append _ _
 · exact List.prefix_refl _
theorem lG{N M:Nat}{u:Int}(hu:0≤u):∀ (l:List Int) (s:BS),BI N M s→(∀ x∈l,0≤x∧x<N)→BI N M (l.foldl (visit u) s)
 | [],_,h,_=>h
 | x::l,s,h,hl=>lG hu l _ (aak h hu (hl x List.mem_cons_self)) fun y hy=>hl y (List.mem_cons_of_mem _ hy)
theorem gZ{u:Int} : ∀ (l:List Int) (s:BS),s.2 <+: (l.foldl (visit u) s).2
 | [],_=>List.prefix_refl _
 | x::l,s=>List.IsPrefix.trans qj (gZ l (visit u s x))
theorem tf{u:Int}(l:List Int)(s:BS){k:Nat}{v:Int}(h:l[k]? = some v):(l.take (k+1)).foldl (visit u) s=visit u ((l.take k).foldl (visit u) s) v:=by
 rw [List.take_add_one,h,List.foldl_append];rfl
theorem rh{l l':List Int}(h:l <+: l'){k:Nat}{u:Int}(hk:l[k]? = some u):l'[k]? = some u:=by
 obtain ⟨t,rfl⟩:=h
 rw [List.getElem?_append_left (List.getElem?_eq_some_iff.1 hk).1];exact hk
def jn(N:Nat)(out:List (List Int)):Prop:=∀ u:Int,∀ x∈elt out u,0≤x∧x<N
theorem mL{N M:Nat}{out:List (List Int)}{s:BS}(ho:jn N out)(h:BI N M s):∀ k,BI N M (bfs out s k)
 | 0=>h
 | k + 1=>by
   have ih:=mL ho h k
   unfold bfs mO
   split
   · exact ih
   · rename_i u hu
     exact lG (ih.mem u (List.mem_of_getElem? hu)).1 _ _ ih (ho u)
theorem mM{out:List (List Int)}{s:BS}{k:Nat}(h:(bfs out s k).2.length≤k):∀ j,bfs out s (k+j)=bfs out s k
 | 0=>rfl
 | j+1=>by
   have ih:=mM h j
   show mO out (bfs out s (k+j)) (k+j)=_
   rw [ih]
   unfold mO
   rw [List.getElem?_eq_none (by omega)]
def gY(N:Nat)(out:List (List Int))(rs:List Int):List Int:=(bfs out (cO N rs) (rs.length+N)).1
theorem uU{N:Nat}{out:List (List Int)}{rs:List Int}{k:Nat}(ho:jn N out)(hk:k=(bfs out (cO N rs) k).2.length):(bfs out (cO N rs) k).1=gY N out rs:=by
 have hle:=(mL ho (iU N rs) k).le
 obtain ⟨j,hj⟩:∃ j,rs.length+N=k+j:=⟨rs.length+N-k,by omega⟩
 unfold gY
 rw [hj,mM (by omega)]
structure TS where
 idx:List Int
 low:List Int
 stk:List Int
 part:List Int
 np:Nat
 calls:List (Int × Int)
 cnt:Int
structure TI (N:Nat) (nx:List (List Int)) (r:Int) (s:TS):Prop where
 li:s.idx.length=N
 ll:s.low.length=N
 lp:s.part.length=N
 cn:s.cnt=(s.idx.countP (fun z=>decide (z≠0)):Nat)
 ile:∀ v:Int,0≤v→v<N→0≤elt s.idx v∧elt s.idx v≤s.cnt
 stk:∀ v:Int,v∈s.stk↔(0≤v∧v<N)∧elt s.idx v≠0∧elt s.part v=0
 nd:s.stk.Nodup
 pr:∀ v:Int,0≤v→v<N→0≤elt s.part v∧elt s.part v≤s.np∧(elt s.idx v=0→elt s.part v=0)
 sub:(s.calls.map (·.1)).Sublist s.stk
 ci:∀ c∈s.calls,0≤c.2∧c.2≤(elt nx c.1).length
 top:s.calls≠[]→(s.calls.map (·.1)).head? = some r∧s.stk.head? = some r
 low':∀ v∈s.stk,elt s.idx r≤elt s.low v∧elt s.idx r≤elt s.idx v
 lr:s.calls≠[]→elt s.low r=elt s.idx r
def cg(s:TS)(w:Int):TS := { s with idx:=s.idx.set w.toNat (s.cnt+1),low:=s.low.set w.toNat (s.cnt+1),stk:=s.stk++[w],calls:=s.calls++[(w,0)],cnt:=s.cnt+1 }
section
variable {N:Nat} {nx:List (List Int)} {r:Int} {s:TS}
theorem TI.any(h:TI N nx r s)(h1:s.calls=[])(h2:s.stk=[])(q:Int):TI N nx q s :=
 ⟨h.li,h.ll,h.lp,h.cn,h.ile,h.stk,h.nd,h.pr,h.sub,h.ci,fun h=>absurd h1 h,fun v hv=>(by rw [h2] at hv;cases hv),fun h=>absurd h1 h⟩
theorem uu{l:List Int}{i:Nat}{u:Int}(hi:i<l.length)(h0:l[i]=0)(hu:u≠0):(l.set i u).countP (fun z=>decide (z≠0))=l.countP (fun z=>decide (z≠0))+1:=by
 rw [List.countP_set hi,h0];simp [hu]
theorem aaN{l:List Int}{v:Int}(h0:0≤v)(h1:v<l.length):l[v.toNat]'(by omega)=elt l v:=by
 unfold elt;rw [List.getD_eq_getElem?_getD,List.getElem?_eq_getElem (by omega)];rfl
theorem TI.cnt0(h:TI N nx r s):0≤s.cnt∧s.cnt≤N:=by
 have h1:=h.cn
 have h2:s.idx.countP (fun z=>decide (z≠0))≤s.idx.length:=List.countP_le_length
 have:=h.li
 omega
theorem TI.enter(h:TI N nx r s){w:Int}(hw:0≤w∧w<N)(h0:elt s.idx w=0)(hc:s.calls≠[]∨(s.stk=[]∧w=r)):TI N nx r (cg s w):=by
 have hli:=h.li
 have hll:=h.ll
 have hc0:=h.cnt0
 have eI:∀ v,0≤v→elt (cg s w).idx v=if w=v then s.cnt+1 else elt s.idx v:=fun v hv=>dq hw.1 (by omega) hv
 have eL:∀ v,0≤v→elt (cg s w).low v=if w=v then s.cnt+1 else elt s.low v:=fun v hv=>dq hw.1 (by omega) hv
 have hws:w ∉ s.stk:=fun hm=>((h.stk w).1 hm).2.1 h0
 have hr0:s.calls≠[]→0≤r∧r∈s.stk∧w≠r:=fun hne=>by
   have hm:r∈s.stk:=List.mem_of_mem_head? (by rw [(h.top hne).2];rfl)
   exact ⟨((h.stk r).1 hm).1.1,hm,fun e=>hws (e ▸ hm)⟩
 refine ⟨?_,?_,h.lp,?_,?_,?_,?_,?_,?_,?_,?_,?_,?_⟩
 · show (s.idx.set _ _).length=N;rw [List.length_set];exact hli
 · show (s.low.set _ _).length=N;rw [List.length_set];exact hll
 · show s.cnt+1=((s.idx.set _ _).countP _:Nat)
   rw [uu (by omega) ((aaN hw.1 (by omega)).trans h0) (by omega),h.cn];rfl
 · intro v hv hvN
   rw [eI v hv]
   have:=h.ile v hv hvN
   show _∧_≤s.cnt+1
   split<;>omega
 · intro v
   show v∈s.stk++[w]↔_∧_∧elt s.part v=0
   rw [List.mem_append,List.mem_singleton,h.stk v]
   by_cases hwv:w=v
   · subst hwv
     rw [eI _ hw.1,if_pos rfl]
     have:=(h.pr w hw.1 hw.2).2.2 h0
     exact ⟨fun _=>⟨hw,by omega,this⟩,fun _=>.inr rfl⟩
   · constructor
     · rintro (⟨h1,h2,h3⟩ | h1)
       · exact ⟨h1,by rw [eI _ h1.1,if_neg hwv];exact h2,h3⟩
       · exact absurd h1.symm hwv
     · rintro ⟨h1,h2,h3⟩
       rw [eI _ h1.1,if_neg hwv] at h2
       exact .inl ⟨h1,h2,h3⟩
 · show (s.stk++[w]).Nodup
   rw [List.nodup_append]
   exact ⟨h.nd,by simp,fun a ha b hb=>by rw [List.mem_singleton.1 hb];exact fun e=>hws (e ▸ ha)⟩
 · intro v hv hvN
   have:=h.pr v hv hvN
   refine ⟨this.1,this.2.1,fun he=>this.2.2 ?_⟩
   rw [eI v hv] at he
   split at he
   · omega
   · exact he
 · show (List.map (fun c:Int × Int=>c.1) (s.calls++[(w,(0:Int))])).Sublist (s.stk++[w])
   rw [List.map_append]
   exact h.sub.append (List.Sublist.refl _)
 · intro c hc2
   rcases List.mem_append.1 hc2 with h1 | h1
   · exact h.ci c h1
   · rw [List.mem_singleton.1 h1];exact ⟨Int.le_refl _,Int.natCast_nonneg _⟩
 · intro _
   show (List.map (fun c:Int × Int=>c.1) (s.calls++[(w,(0:Int))])).head? = some r∧(s.stk++[w]).head? = some r
   rcases hc with hne | ⟨h1,h2⟩
   · obtain ⟨t1,t2⟩:=h.top hne
     rw [List.map_append,List.head?_append,List.head?_append,t1,t2];exact ⟨rfl,rfl⟩
   · have hce:s.calls=[]:=by
       have:=h.sub
       rw [h1] at this
       exact List.map_eq_nil_iff.1 (List.eq_nil_of_sublist_nil this)
     rw [hce,h1,h2];exact ⟨rfl,rfl⟩
 · intro v hv
   have hv2:v∈s.stk++[w]:=hv
   rcases hc with hne | ⟨h1,h2⟩
   · obtain ⟨hr,hrm,hwr⟩:=hr0 hne
     rw [eI r hr,if_neg hwr]
     have hrc:=h.ile r hr ((h.stk r).1 hrm).1.2
     rcases List.mem_append.1 hv2 with h1 | h1
     · have hv0:=((h.stk v).1 h1).1.1
       have hvw:w≠v:=fun e=>hws (e ▸ h1)
       rw [eL v hv0,eI v hv0,if_neg hvw,if_neg hvw]
       exact h.low' v h1
     · rw [List.mem_singleton.1 h1,eL w hw.1,eI w hw.1,if_pos rfl,if_pos rfl]
       exact ⟨by omega,by omega⟩
   · rw [h1,List.nil_append] at hv2
     rw [List.mem_singleton.1 hv2,← h2,eI w hw.1,eL w hw.1,if_pos rfl,if_pos rfl]
     exact ⟨Int.le_refl _,Int.le_refl _⟩
 · intro _
   rcases hc with hne | ⟨_,h2⟩
   · obtain ⟨hr,_,hwr⟩:=hr0 hne
     rw [eL r hr,eI r hr,if_neg hwr,if_neg hwr]
     exact h.lr hne
   · rw [← h2,eL w hw.1,eI w hw.1,if_pos rfl,if_pos rfl]
theorem TI.adv(h:TI N nx r s){cs:List (Int × Int)}{v i:Int}(hc:s.calls=cs++[(v,i)])(hi:i<(elt nx v).length):TI N nx r { s with calls:=cs++[(v,i+1)] } := by
 have e:(cs++[(v,i+1)]).map (·.1)=s.calls.map (·.1):=by rw [hc];simp
 have hne:s.calls≠[]:=by rw [hc];simp
 refine ⟨h.li,h.ll,h.lp,h.cn,h.ile,h.stk,h.nd,h.pr,?_,?_,?_,h.low',fun _=>h.lr hne⟩
 · show ((cs++[(v,i+1)]).map (·.1)).Sublist s.stk;rw [e];exact h.sub
 · intro c hc2
   rcases List.mem_append.1 hc2 with h1 | h1
   · exact h.ci c (by rw [hc];exact List.mem_append_left _ h1)
   · rw [List.mem_singleton.1 h1]
     have:=h.ci (v,i) (by rw [hc];simp)
     dsimp only at this ⊢;omega
 · intro _
   show ((cs++[(v,i+1)]).map (·.1)).head? = some r∧_
   rw [e];exact h.top hne
theorem TI.lower(h:TI N nx r s){v u:Int}(hv:v∈s.stk)(hu:elt s.idx r≤u):TI N nx r { s with low:=s.low.set v.toNat (min (elt s.low v) u) } := by
 have hvr:=((h.stk v).1 hv).1
 have hll:=h.ll
 have eL:∀ x,0≤x→elt (s.low.set v.toNat (min (elt s.low v) u)) x=if v=x then min (elt s.low v) u else elt s.low x:=fun x hx=>dq hvr.1 (by omega) hx
 have hlv:=(h.low' v hv).1
 refine ⟨h.li,by show (s.low.set _ _).length=N;rw [List.length_set];exact hll,h.lp,h.cn,h.ile,h.stk,h.nd,h.pr,h.sub,h.ci,h.top,?_,?_⟩
 · intro x hx
   have hx0:=((h.stk x).1 hx).1.1
   show elt s.idx r≤elt (s.low.set _ _) x∧_
   rw [eL x hx0]
   refine ⟨?_,(h.low' x hx).2⟩
   split
   · omega
   · exact (h.low' x hx).1
 · intro hne
   have hrm:r∈s.stk:=List.mem_of_mem_head? (by rw [(h.top hne).2];rfl)
   show elt (s.low.set _ _) r=elt s.idx r
   rw [eL r ((h.stk r).1 hrm).1.1]
   have:=h.lr hne
   split
   · rename_i e;subst e;omega
   · exact this
theorem TI.pop(h:TI N nx r s){cs:List (Int × Int)}{v i:Int}(hc:s.calls=cs++[(v,i)]):TI N nx r { s with calls:=cs } ∧ v∈s.stk∧(cs=[]→v=r∧elt s.low v=elt s.idx v):=by
 have hne:s.calls≠[]:=by rw [hc];simp
 have hsub:(cs.map (·.1)++[v]).Sublist s.stk:=by have:=h.sub;rw [hc,List.map_append] at this;exact this
 refine ⟨⟨h.li,h.ll,h.lp,h.cn,h.ile,h.stk,h.nd,h.pr,(List.sublist_append_left _ _).trans hsub,fun c hc2=>h.ci c (by rw [hc];exact List.mem_append_left _ hc2),fun hcs => ?_,h.low',fun _=>h.lr hne⟩,hsub.subset (by simp),fun he => ?_⟩
 · have ht:=h.top hne
   rw [hc,List.map_append] at ht
   show (cs.map (·.1)).head? = some r∧_
   cases cs with
   | nil=>exact absurd rfl hcs
   | cons c cs=>exact ⟨ht.1,ht.2⟩
 · have ht:=(h.top hne).1
   rw [hc,he] at ht
   have hv:v=r:=by simpa using ht
   refine ⟨hv,?_⟩
   rw [hv];exact h.lr hne
theorem xL{cs A B:List Int}{v:Int}(hs:(cs++[v]).Sublist (A++v::B))(hn:(A++v::B).Nodup):cs.Sublist A:=by
 obtain ⟨l1,l2,e,h1,h2⟩:=List.append_sublist_iff.1 hs
 have hv2:v∈l2:=h2.subset (by simp)
 -- v is not in A,so l1 is a beginning of A
 have hvA:v ∉ A:=fun h=>by
   rw [List.nodup_append] at hn
   exact hn.2.2 v h v (by simp) rfl
 by_cases hl:l1.length≤A.length
 · have:l1=A.take l1.length:=by
     have h3:=congrArg (List.take l1.length) e
     rw [List.take_append_of_le_length hl,List.take_append_of_le_length (Nat.le_refl _),List.take_length] at h3
     exact h3.symm
   rw [this] at h1
   exact h1.trans (List.take_sublist _ _)
 · exfalso
   have hv1:v∈l1:=by
     have h3:l1[A.length]? = some v:=by
       have h4:(l1++l2)[A.length]? = some v:=by rw [← e];simp
       rw [List.getElem?_append_left (by omega)] at h4;exact h4
     exact List.mem_of_getElem? h3
   rw [e,List.nodup_append] at hn
   exact hn.2.2 v hv1 v hv2 rfl
def b8(l:List Int)(u:Int)(p:List Int):List Int:=p.foldl (fun b w=>b.set w.toNat u) l
theorem oA(u:Int)(p:List Int):∀ l:List Int,(b8 l u p).length=l.length:=by
 induction p with
 | nil=>intro l;rfl
 | cons w p ih=>intro l;show (b8 _ u p).length=_;rw [ih,List.length_set]
theorem gQ{u:Int}(p:List Int):∀ (l:List Int),(∀ w∈p,0≤w∧w<l.length)→∀ x,0≤x→elt (b8 l u p) x=if x∈p then u else elt l x:=by
 induction p with
 | nil=>intro l _ x _;simp [b8]
 | cons w p ih =>
   intro l hl x hx
   have hw:=hl w List.mem_cons_self
   show elt (b8 (l.set w.toNat u) u p) x=_
   rw [ih _ (fun y hy=>by rw [List.length_set];exact hl y (List.mem_cons_of_mem _ hy)) x hx]
   by_cases hxp:x∈p
   · rw [if_pos hxp,if_pos (List.mem_cons_of_mem _ hxp)]
   · rw [if_neg hxp,dq hw.1 hw.2 hx]
     by_cases e:w=x
     · rw [if_pos e,if_pos (by rw [e];exact List.mem_cons_self)]
     · rw [if_neg e,if_neg (fun h=>(List.mem_cons.1 h).elim (fun h=>e h.symm) hxp)]
theorem TI.close(h:TI N nx r s){A B p:List Int}{v:Int}(hs:s.stk=A++v::B)(hsub:(s.calls.map (·.1)++[v]).Sublist s.stk)(hp:∀ x,x∈p↔x∈v::B) :
   TI N nx r { s with stk:=A,part:=b8 s.part ((s.np:Int)+1) p,np:=s.np+1 } ∧ (v=r→s.calls=[]→s.stk.head? = some r→A=[]):=by
 have hnd:=h.nd
 rw [hs] at hnd
 have hlp:=h.lp
 have hpr:∀ w∈p,0≤w∧w<s.part.length:=fun w hw=>by
   have:=((h.stk w).1 (by rw [hs];exact List.mem_append_right _ ((hp w).1 hw))).1
   rw [hlp];exact this
 have eP:∀ x,0≤x→elt (b8 s.part ((s.np:Int)+1) p) x=if x∈p then (s.np:Int)+1 else elt s.part x:=gQ p s.part hpr
 have hA:∀ x,x∈A↔x∈s.stk∧x ∉ p:=fun x=>by
   rw [hs,hp,List.mem_append]
   rw [List.nodup_append] at hnd
   exact ⟨fun hx=>⟨.inl hx,fun h2=>hnd.2.2 x hx x h2 rfl⟩,fun ⟨h1,h2⟩=>h1.resolve_right h2⟩
 have hsubA:(s.calls.map (·.1)).Sublist A:=xL (by rw [← hs];exact hsub) hnd
 refine ⟨⟨h.li,h.ll,by show (b8 _ _ _).length=N;rw [oA];exact hlp,h.cn,h.ile,?_,?_,?_,hsubA,h.ci,?_,?_,h.lr⟩,?_⟩
 · intro x
   show x∈A↔_∧_∧elt (b8 _ _ _) x=0
   rw [hA,h.stk x]
   constructor
   · rintro ⟨⟨h1,h2,h3⟩,h4⟩;exact ⟨h1,h2,by rw [eP x h1.1,if_neg h4];exact h3⟩
   · rintro ⟨h1,h2,h3⟩
     rw [eP x h1.1] at h3
     split at h3
     · omega
     · rename_i h4;exact ⟨⟨h1,h2,h3⟩,h4⟩
 · rw [List.nodup_append] at hnd;exact hnd.1
 · intro x hx hxN
   show 0≤elt (b8 _ _ _) x∧elt (b8 _ _ _) x≤((s.np+1:Nat):Int)∧(_→elt (b8 _ _ _) x=0)
   rw [eP x hx]
   have:=h.pr x hx hxN
   split
   · rename_i h4
     refine ⟨by omega,by omega,fun h0 => ?_⟩
     have:=((h.stk x).1 (by rw [hs];exact List.mem_append_right _ ((hp x).1 h4))).2.1
     exact absurd h0 this
   · exact ⟨this.1,by omega,this.2.2⟩
 · intro hne
   have ht:=h.top hne
   refine ⟨ht.1,?_⟩
   show A.head? = some r
   have h2:=ht.2
   rw [hs] at h2
   cases A with
   | nil =>
     have:=List.eq_nil_of_sublist_nil hsubA
     exact absurd (List.map_eq_nil_iff.1 this) hne
   | cons a A=>exact h2
 · intro x hx;exact h.low' x ((hA x).1 hx).1
 · intro hv _ hhd
   rw [hs] at hhd
   cases A with
   | nil=>rfl
   | cons a A =>
     exfalso
     have:a=r:=by simpa using hhd
     rw [List.nodup_append] at hnd
     exact hnd.2.2 a List.mem_cons_self v List.mem_cons_self (this.trans hv.symm)
def tmu(N:Nat)(nx:List (List Int))(s:TS):Nat:=((List.range N).map fun v:Nat=>if elt s.idx (v:Int)=0 then (elt nx (v:Int)).length+2 else 0).sum+(s.calls.map fun c=>(elt nx c.1).length-c.2.toNat+1).sum
theorem vK{f g:Nat→Nat}{w:Nat} : ∀ l:List Nat,l.Nodup→w∈l→(∀ x∈l,x≠w→f x=g x)→g w=0→(l.map g).sum+f w=(l.map f).sum
 | [],_,h,_,_=>by cases h
 | a :: l,hn,hw,hf,h0=>by
   rw [List.nodup_cons] at hn
   rw [List.map_cons,List.map_cons,List.sum_cons,List.sum_cons]
   by_cases ha:a=w
   · subst ha
     have:l.map g=l.map f:=List.map_congr_left fun x hx=>(hf x (List.mem_cons_of_mem _ hx) fun e=>hn.1 (e ▸ hx)).symm
     rw [this,h0];omega
   · have h1:=vK l hn.2 ((List.mem_cons.1 hw).resolve_left fun e=>ha e.symm) (fun x hx=>hf x (List.mem_cons_of_mem _ hx)) h0
     rw [hf a List.mem_cons_self ha];omega
theorem xO(h:TI N nx r s){w:Int}(hw:0≤w∧w<N)(h0:elt s.idx w=0):tmu N nx (cg s w)+1=tmu N nx s:=by
 have hli:=h.li
 have hc0:=h.cnt0
 have eI:∀ v,0≤v→elt (cg s w).idx v=if w=v then s.cnt+1 else elt s.idx v:=fun v hv=>dq hw.1 (by omega) hv
 unfold tmu
 have h1:=vK (f:=fun v:Nat=>if elt s.idx (v:Int)=0 then (elt nx (v:Int)).length+2 else 0) (g:=fun v:Nat=>if elt (cg s w).idx (v:Int)=0 then (elt nx (v:Int)).length+2 else 0) (w:=w.toNat) (List.range N) List.nodup_range (List.mem_range.2 (by omega)) (fun x _ hx=>by
   have e:elt (cg s w).idx (x:Int)=elt s.idx (x:Int):=by rw [eI _ (Int.natCast_nonneg x),if_neg (by omega)]
   rw [e]) (by
   have e:elt (cg s w).idx (w.toNat:Int)=s.cnt+1:=by rw [eI _ (Int.natCast_nonneg _),if_pos (by omega)]
   rw [e,if_neg (by omega)])
 rw [Int.toNat_of_nonneg hw.1,if_pos h0] at h1
 rw [show (cg s w).calls=s.calls++[(w,0)] from rfl,List.map_append,List.sum_append]
 simp only [List.map_cons,List.map_nil,List.sum_cons,List.sum_nil]
 simp
 omega
theorem aa6{cs:List (Int × Int)}{v i:Int}(hc:s.calls=cs++[(v,i)])(h0:0≤i)(hi:i<(elt nx v).length):tmu N nx { s with calls:=cs++[(v,i+1)] } + 1=tmu N nx s:=by
 unfold tmu
 rw [hc,List.map_append,List.map_append,List.sum_append,List.sum_append]
 simp only [List.map_cons,List.map_nil,List.sum_cons,List.sum_nil]
 omega
theorem aa7{cs:List (Int × Int)}{v i:Int}(hc:s.calls=cs++[(v,i)]):tmu N nx { s with calls:=cs } + 1≤tmu N nx s:=by
 unfold tmu
 rw [hc,List.map_append,List.sum_append]
 simp only [List.map_cons,List.map_nil,List.sum_cons,List.sum_nil]
 omega
end
def oH(us:List (List Int))(p:Int):Nat:=((List.range us.length).map fun q:Nat=>(elt us (q:Int)).count p).sum
def dnU(us:List (List Int))(D:List Int)(p:Int):Nat:=(D.map fun q=>(elt us q).count p).sum
theorem cW(f:Nat→Nat):∀ (D R:List Nat),D.Nodup→(∀ q∈D,q∈R)→(D.map f).sum≤(R.map f).sum
 | [],_,_,_=>Nat.zero_le _
 | q :: D,R,hn,hs=>by
   rw [List.nodup_cons] at hn
   have hq:=hs q List.mem_cons_self
   have h1:=cW f D (R.erase q) hn.2 (fun x hx=>(List.mem_erase_of_ne (a:=x) (b:=q) (fun e=>hn.1 (by rw [← e];exact hx))).2 (hs x (List.mem_cons_of_mem _ hx)))
   have h2:(R.map f).sum=f q+((R.erase q).map f).sum:=by
     have:=(List.perm_cons_erase hq).map f
     rw [this.sum_nat];simp
   rw [List.map_cons,List.sum_cons,h2];omega
theorem dC{D:List Int}(hn:D.Nodup)(h0:∀ q∈D,0≤q):(D.map Int.toNat).Nodup:=by
 induction D with
 | nil=>simp
 | cons q D ih =>
   rw [List.nodup_cons] at hn
   rw [List.map_cons,List.nodup_cons]
   refine ⟨fun hm => ?_,ih hn.2 fun x hx=>h0 x (List.mem_cons_of_mem _ hx)⟩
   obtain ⟨x,hx,e⟩:=List.mem_map.1 hm
   have h1:=h0 x (List.mem_cons_of_mem _ hx)
   have h2:=h0 q List.mem_cons_self
   have:x=q:=by omega
   exact hn.1 (this ▸ hx)
theorem pL{us:List (List Int)}{D:List Int}{p:Int}(hn:D.Nodup)(hr:∀ q∈D,0≤q∧q<us.length):dnU us D p≤oH us p:=by
 have h:=cW (fun q:Nat=>(elt us (q:Int)).count p) (D.map Int.toNat) (List.range us.length) (dC hn fun q hq=>(hr q hq).1) (fun q hq=>by
   obtain ⟨x,hx,e⟩:=List.mem_map.1 hq
   have:=hr x hx
   exact List.mem_range.2 (by omega))
 have e:dnU us D p=((D.map Int.toNat).map fun q:Nat=>(elt us (q:Int)).count p).sum:=by
   unfold dnU
   rw [List.map_map]
   refine congrArg List.sum (List.map_congr_left fun q hq => ?_)
   show _=(elt us ((q.toNat:Nat):Int)).count p
   rw [Int.toNat_of_nonneg (hr q hq).1]
 unfold oH;rw [e];exact h
structure KI (M:Nat) (us:List (List Int)) (w:List Int) (D H:List Int) (seen:List Int):Prop where
 lw:w.length=M+1
 lu:us.length=M+1
 ur:∀ q:Nat,∀ p∈elt us (q:Int),1≤p∧p≤M
 nd:(D++H).Nodup
 rg:∀ p∈D++H,1≤p∧p≤M
 wt:∀ p:Int,1≤p→p≤M→elt w p=oH us p-dnU us D p-seen.count p
 zr:∀ p:Int,1≤p→p≤M→(p∈D++H↔elt w p=0)
section
variable {M:Nat} {us:List (List Int)} {w D H:List Int}
theorem KI.len(h:KI M us w D H []):D.length≤M:=by
 have hn:D.Nodup:=by have:=h.nd;rw [List.nodup_append] at this;exact this.1
 have hr:∀ q∈D,1≤q∧q≤M:=fun q hq=>h.rg q (List.mem_append_left _ hq)
 have h1:=cW (fun _=>1) (D.map Int.toNat) (List.range' 1 M) (dC hn fun q hq=>by have:=hr q hq;omega) (fun q hq=>by
   obtain ⟨x,hx,e⟩:=List.mem_map.1 hq
   have:=hr x hx
   exact List.mem_range'_1.2 (by omega))
 have e:∀ l:List Nat,(l.map fun _=>1).sum=l.length:=fun l=>by induction l with
   | nil=>rfl
   | cons a l ih=>rw [List.map_cons,List.sum_cons,ih,List.length_cons];omega
 rw [e,e,List.length_map,List.length_range'] at h1
 exact h1
theorem KI.perm(h:KI M us w D H []){H':List Int}(hp:H'.Perm H):KI M us w D H' [] :=
 ⟨h.lw,h.lu,h.ur,(hp.append_left D).nodup_iff.2 h.nd,fun p hm=>h.rg p ((hp.append_left D).mem_iff.1 hm),h.wt,fun p h1 h2=>((hp.append_left D).mem_iff).trans (h.zr p h1 h2)⟩
theorem KI.pos{q p:Int}{j:Nat}(h:KI M us w D (q::H) ((elt us q).take j))(hp:(elt us q)[j]? = some p):(1≤p∧p≤M)∧1≤elt w p∧p ∉ D++q::H:=by
 have hq:1≤q∧q≤M:=h.rg q (by simp)
 have hpr:1≤p∧p≤M:=by
   have:=h.ur q.toNat p (by rw [Int.toNat_of_nonneg (by omega)];exact List.mem_of_getElem? hp)
   exact this
 have hn2:(D++[q]).Nodup:=by
   have h1:(D++[q]).Sublist (D++q::H):=List.Sublist.append (List.Sublist.refl _) (by simp)
   exact h1.nodup h.nd
 have hle:=pL (us:=us) (D:=D++[q]) (p:=p) hn2 (fun x hx=>by
   have hlu:=h.lu
   rcases List.mem_append.1 hx with h1 | h1
   · have:=h.rg x (List.mem_append_left _ h1);omega
   · rw [List.mem_singleton.1 h1];omega)
 have e:dnU us (D++[q]) p=dnU us D p+(elt us q).count p:=by unfold dnU;simp
 have hc:((elt us q).take j).count p+1≤(elt us q).count p:=by
   have h1:((elt us q).take (j+1)).count p≤(elt us q).count p:=(List.take_sublist _ _).count_le _
   rw [List.take_add_one,hp,List.count_append] at h1
   simpa using h1
 have hw:=h.wt p hpr.1 hpr.2
 have h1:1≤elt w p:=by omega
 exact ⟨hpr,h1,fun hm=>by have:=(h.zr p hpr.1 hpr.2).1 hm;omega⟩
theorem KI.step{q p:Int}{j:Nat}(h:KI M us w D (q::H) ((elt us q).take j))(hp:(elt us q)[j]? = some p) :
   KI M us (w.set p.toNat (elt w p-1)) D (if elt w p-1=0 then q::p::H else q::H) ((elt us q).take (j+1)):=by
 obtain ⟨hpr,hge,hno⟩:=h.pos hp
 have hlw:=h.lw
 have eW:∀ x,0≤x→elt (w.set p.toNat (elt w p-1)) x=if p=x then elt w p-1 else elt w x:=fun x hx=>dq (by omega) (by omega) hx
 have hmem:∀ x,x∈(if elt w p-1=0 then q::p::H else q::H)↔x∈q::H∨(elt w p-1=0∧x=p):=fun x=>by
   split
   · rename_i h0
     simp only [List.mem_cons,h0,true_and]
     constructor
     · rintro (a | a | a)
       · exact .inl (.inl a)
       · exact .inr a
       · exact .inl (.inr a)
     · rintro ((a | a) | a)
       · exact .inl a
       · exact .inr (.inr a)
       · exact .inr (.inl a)
   · rename_i h0;simp [h0]
 refine ⟨by rw [List.length_set];exact hlw,h.lu,h.ur,?_,?_,?_,?_⟩
 · split
   · have h1:(p::(D++q::H)).Nodup:=List.nodup_cons.2 ⟨hno,h.nd⟩
     have h2:(D++q::p::H).Perm (p::(D++q::H)):=by
       have h3:(D++q::p::H).Perm (D++p::q::H):=(List.Perm.swap p q H).append_left D
       exact h3.trans List.perm_middle
     exact h2.nodup_iff.2 h1
   · exact h.nd
 · intro x hx
   rcases List.mem_append.1 hx with h1 | h1
   · exact h.rg x (List.mem_append_left _ h1)
   · rcases (hmem x).1 h1 with h2 | ⟨_,h2⟩
     · exact h.rg x (List.mem_append_right _ h2)
     · rw [h2];exact hpr
 · intro x h1 h2
   have hx:=h.wt x h1 h2
   rw [eW x (by omega),List.take_add_one,hp,List.count_append]
   simp only [Option.toList_some,List.count_singleton,beq_iff_eq]
   split
   · rename_i e;subst e;omega
   · omega
 · intro x h1 h2
   rw [eW x (by omega),List.mem_append,hmem]
   have hz:=h.zr x h1 h2
   rw [List.mem_append] at hz
   split
   · rename_i e;subst e
     constructor
     · rintro (a | a | a)
       · exact absurd (List.mem_append_left _ a) hno
       · exact absurd (List.mem_append_right _ a) hno
       · exact a.1
     · intro a;exact .inr (.inr ⟨a,rfl⟩)
   · rename_i e
     rw [← hz]
     constructor
     · rintro (a | a | a)
       · exact .inl a
       · exact .inr a
       · exact absurd a.2.symm e
     · rintro (a | a)
       · exact .inl a
       · exact .inr (.inl a)
theorem KI.done{q:Int}{j:Nat}(h:KI M us w D (q::H) ((elt us q).take j))(hj:(elt us q).length≤j):KI M us w (D++[q]) H []:=by
 have hp:(D++[q]++H).Perm (D++q::H):=by simp
 refine ⟨h.lw,h.lu,h.ur,hp.nodup_iff.2 h.nd,fun p hm=>h.rg p (hp.mem_iff.1 hm),fun p h1 h2 => ?_,fun p h1 h2=>hp.mem_iff.trans (h.zr p h1 h2)⟩
 have:=h.wt p h1 h2
 rw [List.take_of_length_le hj] at this
 have e:dnU us (D++[q]) p=dnU us D p+(elt us q).count p:=by unfold dnU;simp
 rw [this,e];simp;omega
end
end Go.Lv

