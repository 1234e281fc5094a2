/- Parts of the proof, in build order. No condition. -/
import Derived.Test.YtebnelfdimiifaaGreatDoorSa20
import Derived.Test.YtebnelfdimiifaaGreatDoorSa07
import Derived.Test.YtebnelfdimiifaaGreatDoorSa06
import Derived.Test.YtebnelfdimiifaaGreatDoorSa05
import Derived.Test.YtebnelfdimiifaaGreatDoorSa09
import Derived.Test.YtebnelfdimiifaaGreatDoorSa10
import Derived.Test.YtebnelfdimiifaaGreatDoorSa16
set_option linter.unusedSimpArgs false
set_option linter.unusedVariables false
set_option maxHeartbeats 1000000
set_option maxRecDepth 20000
namespace Go.Sy
theorem afD{P:Program}{n:Fr}{s:Sta}{d:Option Tmp}{ty:TypeId}{pos:String}{af:Array Edge}{gd:Option (Nat × Bool)}{x:Operand}{t:TypeId}{kk:IntKind}{z:Int}(hx:ev s.env x=some (true,.int kk z)):Quiet P n ⟨d,.unOp .neg t x,ty,pos,af,gd⟩ s (.int kk (kk.wrap (-z))):=.run1 hx fun ρ w h=>by
 unfold execOp;dsimp only;rw [h,← Int.zero_sub];rfl
end Go.Sy
namespace Go.Proofs.YtebnelfdimiifaaGreatDoor
open Go.RowKit Go.Lp Go.Sy Go.Lv
open Go.Proofs.Tryz
attribute [local irreducible] aL aB awp aC fwp Quiet
abbrev rdB(b:Nat)(r:List UInt8)(bad:Bool):Res:=Box b 147 [.string (bytesOf r),.bool bad]
theorem jB(b:Nat)(r:List UInt8)(bad:Bool):Con Tryz.prog 170 [.pointer (some ⟨b,0,none⟩)] [] [rdB b r bad] fun _ ps hp=>ps=[]∧hp=[rdB b [] true]:=by
 refine EN1 Tryz.func170 rfl (aa (aM rfl (aM rfl (UN rfl rfl (UO 0 rfl rfl (aW rfl (ba 0 tk9 rfl rfl rfl rfl (aHK ?_))))))))
 refine UN rfl rfl (UO 1 rfl rfl (aW rfl (ba 0 tk4 rfl rfl rfl rfl (aHK ?_))))
 refine bP (FZ0 [0] Tryz.results170 ?_)
 exact ⟨rfl,rfl⟩
theorem pe(b:Nat)(r:List UInt8)(bad:Bool)(hr:r.length≤4611686018427387904):Con Tryz.prog 168 [.pointer (some ⟨b,0,none⟩)] [] [rdB b r bad] fun v ps hp=>ps=[]∧v=.int .u64 (jD r bad).1∧hp=[rdB b (jD r bad).2.1 (jD r bad).2.2]:=by
 have hsz:(bytesOf r).size=r.length:=rfl
 refine EN1 Tryz.func168 rfl (aSR (aA rfl (aNn (aSR (aA rfl (aNs (aSR (aA rfl (aNn (aq (aP [0,3,4] [] [0] (fun (q:Nat × Nat) st=>RdI r q.1 q.2∧st=⟨[(0,true,.pointer (some ⟨b,0,none⟩)),(3,true,.int .u64 q.2),(4,true,.int .i64 q.1)],[],[rdB b r bad]⟩) (fun q=>10-q.1) rfl (⟨(0,0),.start r,rfl⟩) ?_)))))))))))
 rintro ⟨i,acc⟩ st ⟨hI,rfl⟩
 dsimp only at hI ⊢
 have hle:=hI.le
 refine ai (aSR (aM rfl (aM rfl (UN rfl rfl (UO 0 rfl rfl (UL 0 tk9 rfl rfl rfl rfl (aU rfl (cB Tryz.underlying9 rfl) (aU rfl (bC rfl rfl) (aM rfl (aG rfl rfl (fun hc=>aT rfl) (aG rfl rfl (fun hc=>bC (ae rfl hc) rfl) (aU rfl (bB rfl rfl (fun h=>gt rfl h)) (aNn ?_)))))))))))))
 refine ao _ rfl (fun h1 => ?_) (fun h1 => ?_)
 ·skip
  have hi:i<r.length∧i<10:=by simp at h1;exact ⟨h1.1,by omega⟩
  obtain ⟨u,hu⟩:∃ u,r[i]? = some u:=⟨_,List.getElem?_eq_getElem hi.1⟩
  have hw:IntKind.u64.wrap (u.toNat:Int)=(u.toNat:Int):=Go.wraps_u64 _ (by omega) (by have:=u.toNat_lt;omega)
  refine ax (an (ai (aq (aSR (aM rfl (UN rfl rfl (UO 0 rfl rfl (UL 0 tk9 rfl rfl rfl rfl (aM rfl (aU rfl (rK (i) Tryz.underlying9 rfl rfl (rfl) (hu)) (aU rfl (cW (by kernel_rfl) Tryz.underlying135 rfl) (aA rfl (aNs (ai ?_))))))))))))))
  rw [hw]
  refine aa (aM rfl (aU rfl (cA rfl rfl) (aM rfl (aG rfl rfl (fun hc=>aT rfl) (aG rfl rfl (fun hc=>cN (ae rfl hc) rfl) (aU rfl (bB rfl rfl (fun h=>gt rfl h)) (aNn ?_)))))))
  refine ao _ rfl (fun h2 => ?_) (fun h2 => ?_)
  ·skip
   have hb:i=9∧1<u.toNat:=by simp at h2;omega
   have hd:=hI.big hu hb.1 hb.2
   refine aR (aS (kG rfl (aS (aS (aY (an (aSR (aM rfl (LF rfl (EC [] [0] rfl (jB b r bad) ?_))))))))))
   rintro _ _ _ ⟨rfl,rfl⟩
   refine aST ?_
   refine aNn (aSR (aA rfl (aNn (az (FZ1 [0] Tryz.results168 rfl ?_)))))
   rw [oE hd bad];exact ⟨rfl,rfl,rfl⟩
  ·skip
   have hb:¬ (i=9∧1<u.toNat):=by simp at h2;omega
   refine ax (an (aSR (aM rfl (aM rfl (aU rfl (fl rfl rfl (by decide)) (aM rfl (aU rfl (fq rfl rfl (by omega)) (aU rfl (tH rfl rfl (by omega)) (aU rfl (tG rfl rfl) (aA rfl (aNs ?_)))))))))))
   rw [ac9 hI.lt (by omega) (by omega) u.toNat_lt]
   refine aa (aM rfl (aU rfl (bC rfl rfl) (aNn ?_)))
   refine ao _ rfl (fun h3 => ?_) (fun h3 => ?_)
   ·skip
    have hc:u.toNat<128:=by simp at h3;omega
    refine ai (aSR (aM rfl (aU rfl (cA rfl rfl) (aM rfl (aG rfl rfl (fun hc=>aT rfl) (aG rfl rfl (fun hc=>cN (ae rfl hc) rfl) (aU rfl (bB rfl rfl (fun h=>gt rfl h)) (aNn ?_))))))))
    refine ao _ rfl (fun h4 => ?_) (fun h4 => ?_)
    ·skip
     have hz:u.toNat=0∧0<i:=by simp at h4;omega
     have hd:=hI.zero hu hi.2 hz.1 hz.2
     refine aR (aS (kG rfl (aS (aS (aY (an (aSR (aM rfl (LF rfl (EC [] [0] rfl (jB b r bad) ?_))))))))))
     rintro _ _ _ ⟨rfl,rfl⟩
     refine aST ?_
     refine aNn (aSR (aA rfl (aNn (az (FZ1 [0] Tryz.results168 rfl ?_)))))
     rw [oE hd bad];exact ⟨rfl,rfl,rfl⟩
    ·skip
     have hz:¬ (u.toNat=0∧0<i):=by simp at h4;omega
     have hd:=hI.last hu hi.2 hb hc hz
     refine ax (an (aSR (aM rfl (aM rfl (UN rfl rfl (UO 0 rfl rfl (UL 0 tk9 rfl rfl rfl rfl (aM rfl (aU rfl (aV rfl rfl (by omega)) (aU rfl (uT Tryz.underlying9 rfl rfl (by omega) (by omega)) (UN rfl rfl (UO 0 rfl rfl (aW rfl (ba 0 tk9 rfl rfl rfl rfl (aHK ?_)))))))))))))))
     refine aNn (aSR (aM rfl (aA rfl (aNn (az (cH (bw (bw (cH (bw (FZ1 [0] Tryz.results168 rfl ?_)))))))))))
     rw [abq hd bad];exact ⟨rfl,rfl,congrArg (fun x=>[Box b 147 [.string x,.bool bad]]) (mR r (z:=(i:Int)+1) (i:=i+1) (by omega))⟩
   ·skip
    have hc:128≤u.toNat:=by simp at h3;omega
    refine ax (bu (an (aa (aM rfl (aU rfl (aV rfl rfl (by omega)) (aA rfl (aNn ?_)))))))
    refine ⟨[0,3,4],[],[0],rfl,?_⟩
    exact ⟨(i+1,acc+128 ^ i*(u.toNat % 128)),⟨hI.more hu hi.2 hb hc,rfl⟩,by dsimp only;omega⟩
 ·skip
  have hd:=hI.stop (by simp at h1;omega)
  refine aR (aS (aS (aY (an (aSR (aM rfl (LF rfl (EC [] [0] rfl (jB b r bad) ?_))))))))
  rintro _ _ _ ⟨rfl,rfl⟩
  refine aST ?_
  refine aNn (aSR (aA rfl (aNn (az (FZ1 [0] Tryz.results168 rfl ?_)))))
  rw [oE hd bad];exact ⟨rfl,rfl,rfl⟩
theorem wz(b:Nat)(r:List UInt8)(bad:Bool)(hr:r.length≤4611686018427387904):Con Tryz.prog 130 [.pointer (some ⟨b,0,none⟩)] [] [rdB b r bad] fun v ps hp=>ps=[]∧∃ t bad',(iU r bad).1=.R t bad'∧v=.int .i64 (iU r bad).2∧hp=[rdB b t bad']:=by
 have hlt:=zO r bad
 have hnr:=adq r bad
 generalize hd:jD r bad=d at hlt hnr
 refine EN1 Tryz.func130 rfl (aSR (aA rfl (aNn (aSR (aM rfl (LF rfl (EC [] [0] rfl (pe b r bad hr) ?_)))))))
 rw [hd];rintro _ _ _ ⟨rfl,rfl,rfl⟩
 refine aST ?_
 refine aA rfl (aNs (aSR (aM rfl (aU rfl (cN rfl rfl) (aNn ?_)))))
 refine ao _ rfl (fun h1 => ?_) (fun h1 => ?_)
 ·skip
  have hc:d.1>9223372036854775807:=by simp at h1;omega
  rw [if_pos hc] at hnr
  refine aSR (aM rfl (LF rfl (EC [] [0] rfl (jB b _ _) ?_)))
  rintro _ _ _ ⟨rfl,rfl⟩
  refine aST ?_
  refine aNn (aSR (aA rfl (aNn (az (bw (FZ1 [0] Tryz.results130 rfl ?_))))))
  exact ⟨rfl,_,_,congrArg Prod.fst hnr,by rw [hnr];rfl,rfl⟩
 ·skip
  have hc:¬ d.1>9223372036854775807:=by simp at h1;omega
  rw [if_neg hc] at hnr
  refine ax (an (aSR (aM rfl ?_)))
  refine aU rfl ((cW (by kernel_rfl) Tryz.underlying3 rfl).castV (v':=.int .i64 d.1) (congrArg (Value.int .i64) (by rw [IntKind.wrap_i64];omega))) ?_
  refine aA rfl (aNn (az (FZ1 [0] Tryz.results130 rfl ?_)))
  exact ⟨rfl,_,_,congrArg Prod.fst hnr,by rw [hnr],rfl⟩
theorem acM(b:Nat)(r:List UInt8)(bad:Bool)(hr:r.length≤4611686018427387904)(z:Int):Con Tryz.prog 125 [.pointer (some ⟨b,0,none⟩)] [] [rdB b r bad] fun v ps hp=>ps=[]∧∃ t bad',(mo (.R r bad) z).1=.R t bad'∧v=.int .i64 (mo (.R r bad) z).2∧hp=[rdB b t bad']:=by
 have hlt:=zO r bad
 rw [adb r bad z]
 generalize hd:jD r bad=d at hlt
 refine EN1 Tryz.func125 rfl (aSR (aA rfl (aNn (aSR (aM rfl (LF rfl (EC [] [0] rfl (pe b r bad hr) ?_)))))))
 rw [hd];rintro _ _ _ ⟨rfl,rfl,rfl⟩
 refine aST ?_
 refine aA rfl (aNn (aSR (aM rfl (aU rfl (xk rfl rfl (by decide)) (aU rfl (cW (by kernel_rfl) Tryz.underlying3 rfl) (aM rfl (aU rfl (uQ rfl rfl) (aU rfl (cW (by kernel_rfl) Tryz.underlying3 rfl) (aU rfl (afD rfl) (aU rfl ((ic rfl rfl).castV (congrArg (Value.int .i64) (agE hlt))) (aA rfl (aNn (az (FZ1 [0] Tryz.results125 rfl ?_))))))))))))))
 exact ⟨rfl,_,_,rfl,rfl,rfl⟩
theorem abf(b:Nat)(r:List UInt8)(bad:Bool)(hr:r.length≤4611686018427387904)(z:ByteArray):Con Tryz.prog 127 [.pointer (some ⟨b,0,none⟩)] [] [rdB b r bad] fun v ps hp=>ps=[]∧∃ t bad',(tM (.R r bad) z).1=.R t bad'∧v=.string (tM (.R r bad) z).2∧hp=[rdB b t bad']:=by
 refine EN1 Tryz.func127 rfl (aSR (aA rfl (aNn (aSR (aM rfl (LF rfl (EC [] [0] rfl (wz b r bad hr) ?_)))))))
 rintro _ _ _ ⟨rfl,t,bad',hn,rfl,rfl⟩
 refine aST ?_
 refine aA rfl (aNs (ai ?_))
 have htx:=acd hn
 have hsz:(bytesOf t).size=t.length:=rfl
 generalize (iU r bad).2=m at htx ⊢
 refine aa (aM rfl (aM rfl (UN rfl rfl (UO 0 rfl rfl (UL 0 tk9 rfl rfl rfl rfl (aU rfl (cB Tryz.underlying9 rfl) (aU rfl (cN rfl rfl) (aNn ?_))))))))
 refine ao _ rfl (fun h1 => ?_) (fun h1 => ?_)
 ·skip
  have hc:m>t.length:=by simp at h1;omega
  rw [if_pos hc] at htx
  refine aSR (aM rfl (LF rfl (EC [] [0] rfl (jB b _ _) ?_)))
  rintro _ _ _ ⟨rfl,rfl⟩
  refine aST ?_
  refine aNn (aSR (aA rfl (aNn (az (bw (FZ1 [0] Tryz.results127 rfl ?_))))))
  exact ⟨rfl,_,_,congrArg Prod.fst htx,congrArg Value.string (congrArg bytesOf (congrArg Prod.snd htx)).symm,rfl⟩
 ·skip
  have hc:¬ m>t.length:=by simp at h1;omega
  rw [if_neg hc] at htx
  refine ax (an (aSR (aM rfl (UN rfl rfl (UO 0 rfl rfl (UL 0 tk9 rfl rfl rfl rfl (aM rfl (aU rfl (uS Tryz.underlying9 rfl rfl (by omega) (by omega)) (aA rfl (aNn (aSR (aM rfl (aM rfl (UN rfl rfl (UO 0 rfl rfl ?_)))))))))))))))
  refine UL 0 tk9 rfl rfl rfl rfl (aM rfl (aU rfl (uT Tryz.underlying9 rfl rfl (by omega) (by omega)) (UN rfl rfl (UO 0 rfl rfl (aW rfl (ba 0 tk9 rfl rfl rfl rfl (aHK ?_)))))))
  refine aNn (aSR (aM rfl (aA rfl (aNn (az (FZ1 [0] Tryz.results127 rfl ?_))))))
  refine ⟨rfl,_,_,congrArg Prod.fst htx,?_,?_⟩
  · exact congrArg Value.string ((mS t rfl).trans (congrArg bytesOf (congrArg Prod.snd htx)).symm)
  · exact congrArg (fun x=>[Box b 147 [.string x,.bool bad']]) (mR t rfl)
theorem abd(b:Nat)(r:List UInt8)(bad:Bool):Con Tryz.prog 171 [.pointer (some ⟨b,0,none⟩)] [] [rdB b r bad] fun v ps hp=>ps=[]∧v=.int .i64 r.length∧hp=[rdB b r bad]:=by
 refine EN1 Tryz.func171 rfl (aSR (aA rfl (aNn (aSR (aM rfl (UN rfl rfl (UO 0 rfl rfl (UL 0 tk9 rfl rfl rfl rfl (aU rfl (cB Tryz.underlying9 rfl) (aA rfl (aNn (az (FZ1 [0] Tryz.results171 rfl ?_)))))))))))))
 exact ⟨rfl,rfl,rfl⟩
theorem td(b:Nat)(r:List UInt8)(bad:Bool):Con Tryz.prog 24 [.pointer (some ⟨b,0,none⟩)] [] [rdB b r bad] fun v ps hp=>ps=[]∧v=.bool (!bad && r.isEmpty)∧hp=[rdB b r bad]:=by
 refine EN1 Tryz.func24 rfl (aSR (aA rfl (aNn (aSR (aM rfl (UN rfl rfl (UO 1 rfl rfl (UL 0 tk4 rfl rfl rfl rfl (aU rfl (dO rfl) (aM rfl (aG rfl rfl (fun hc=>aT rfl) (aG rfl rfl (fun hc=>dC (ae rfl hc)) (aG rfl rfl (fun hc=>qFA (off:=0) (ae rfl hc)) ?_)))))))))))))
 refine GL 0 tk9 rfl rfl rfl rfl rfl (aG rfl rfl (fun hc=>jm (ae rfl hc) rfl) (aU rfl (bB rfl rfl (fun h=>gt rfl h)) (aA rfl (aNn (az (FZ1 [0] Tryz.results24 rfl ?_))))))
 refine ⟨rfl,congrArg Value.bool ?_,rfl⟩
 rw [sf]
theorem abe(r:List UInt8):Con Tryz.prog 23 [.string (bytesOf r)] [] [] fun v ps hp=>ps=[]∧∃ b,v=.pointer (some ⟨b,0,none⟩)∧hp=[rdB b r false]:=by
 refine EN1 Tryz.func23 rfl (aSR (aA rfl (aNn (aSR (aM rfl (aU rfl (ib (l:=[(0,.tmp 3)]) (zs:=[.string .empty,.bool false]) (pl:=[(0,1),(1,1)]) (by kernel_rfl) (by kernel_rfl) (by kernel_rfl) rfl rfl rfl) (LT rfl (acV ([.string (bytesOf r),.bool false]) rfl rfl rfl (fun b1_2=>(aHN ?_))))))))))
 refine aA rfl (aNn (az (FZ1 [0] Tryz.results23 rfl ?_)))
 exact ⟨rfl,_,rfl,rfl⟩
end Go.Proofs.YtebnelfdimiifaaGreatDoor

namespace Go.Sy
open Go.RowKit Go.Lp
theorem sO{P:Program}{n:Fr}{ops:Array Oper}{Q:Exit→Sta→Prop}{env:Env}{ps:List Per}{hp:List Res}{ty:TypeId}{pos:String}{af:Array Edge}{gd:Option (Nat × Bool)}{rest:List Oper}{t:Nat}{f:FuncId}{g:Operand}{caps:List Value}{l:List Operand}{ts:Array TypeId}{vs:List Value}{v:Value}(lp:List Nat)(i:Nat)(hf:dP P f=true)(c:Bool)(hc:guardOf ops env ⟨some t,.call ⟨.value g,l.toArray,ts⟩,ty,pos,af,gd⟩=some c)(ht:fits n.size (some t)=true)(hi:i<hp.length)
   (hgv:c=true→ev env g=some (true,.func (.func f) #[] caps.toArray)) (hx:c=true→evs env l=some vs) (hcon:c=true→Con P f (vs++caps) (fG ps lp) (cI hp [i]) fun r ps' hp'=>ps'=[]∧hp'=cI hp [i]∧r=v)
   (h:aL P n ops Q rest ⟨(t,c,v)::env,ps,hp⟩):aL P n ops Q (⟨some t,.call ⟨.value g,l.toArray,ts⟩,ty,pos,af,gd⟩::rest) ⟨env,ps,hp⟩:=by
 cases c with
 | true =>
   refine aW (q:=false) hc (fN lp [i] hf (hgv rfl) (hx rfl) ht (by simp [okH,hi]) rfl (hcon rfl) ?_)
   rintro _ _ _ ⟨rfl,rfl,rfl⟩
   refine iN ?_ h
   apply List.ext_getElem?;intro j;rw [iX,Nat.zero_add]
   by_cases hj:j<hp.length
   · rw [if_pos hj]
     by_cases e:i=j
     · subst e;simp [place,cI,hi]
     · simp [place,e]
   · rw [if_neg hj,List.getElem?_eq_none (by simp [cI]),List.getElem?_eq_none (by omega)]
 | false=>exact kB (v:=v) false hc ht (fun h=>by cases h) h
end Go.Sy
namespace Go.Proofs.YtebnelfdimiifaaGreatDoor
open Go.RowKit Go.Lp Go.Sy Go.Lv
open Go.Proofs.Tryz
attribute [local irreducible] aL aB awp aC fwp Quiet
theorem wa(b rb:Nat)(p v:Value)(r:List UInt8)(bad:Bool):Con Tryz.prog 131 [.pointer (some ⟨b,0,none⟩)] [] [bR b p v (.pointer (some ⟨rb,0,none⟩)),rdB rb r bad] fun u ps hp=>ps=[]∧u=.bool (CS.R r bad).fails∧hp=[bR b p v (.pointer (some ⟨rb,0,none⟩)),rdB rb r bad]:=by
 refine EN1 Tryz.func131 rfl (aSR (aA rfl (aNn (aSR (aM rfl (UN rfl rfl (UO 2 rfl rfl (UL 0 tk63 rfl rfl rfl rfl (aU rfl (nw (by kernel_rfl) rfl) (aM rfl (aG rfl rfl (fun hc=>aT rfl) (aG rfl rfl (fun hc=>dC (ae rfl hc)) (aG rfl rfl (fun hc=>qFA (off:=2) (ae rfl hc)) (GL 0 tk63 rfl rfl rfl rfl rfl ?_))))))))))))))
 refine sO (caps:=[]) [] 1 (by kernel_rfl) _ rfl rfl (Nat.le_of_ble_eq_true rfl) (fun _=>rfl) (fun hc=>(aK (ae rfl hc) rfl)) (fun hc=>by rw [List.append_nil];exact (abd rb r bad).post (fun _ _ _ ⟨h1,h2,h3⟩=>⟨h1,h3,h2⟩)) ?_
 refine aG rfl rfl (fun hc=>cA (ae rfl hc) rfl) (aU rfl (bB rfl rfl (fun h=>gt rfl h)) (aM rfl (aG rfl rfl (fun hc=>aT rfl) (aG rfl rfl (fun hc=>dC (ae rfl hc)) (aG rfl rfl (fun hc=>qFA (off:=2) (ae rfl hc)) (GL 0 tk63 rfl rfl rfl rfl rfl ?_))))))
 refine sO (caps:=[]) [] 1 (by kernel_rfl) _ rfl rfl (Nat.le_of_ble_eq_true rfl) (fun _=>rfl) (fun hc=>(aK (ae rfl hc) rfl)) (fun hc=>by rw [List.append_nil];exact (td rb r bad).post (fun _ _ _ ⟨h1,h2,h3⟩=>⟨h1,h3,h2⟩)) ?_
 refine aG rfl rfl (fun hc=>dO (ae rfl hc)) (aU rfl (bB rfl rfl (fun h=>gt rfl h)) (aA rfl (aNn (az (FZ1 [0,1] Tryz.results131 rfl ?_)))))
 refine ⟨rfl,congrArg Value.bool ?_,rfl⟩
 unfold CS.fails
 cases r<;>cases bad<;>simp<;>omega
end Go.Proofs.YtebnelfdimiifaaGreatDoor

namespace Go.Lv
open Go.RowKit Go.Lp Go.Sy
section
variable {α:Type} (A:Cod α) (vl:α→Value) (un:Value→α)
def pa(cs:List Value)(o:Nat):α:=un (cs.getD o .nilIface)
def goC:CS→List Value→List Nat→CS × List Value
 | s,cs,[]=>(s,cs)
 | s,cs,o::os=>goC (A.one s (pa un cs o)).1 (cs.set o (vl (A.one s (pa un cs o)).2)) os
def bz(cs:List Value)(os:List Nat):List UInt8:=(os.map fun o=>A.enc (pa un cs o)).flatten
def okC(ok:α→Prop)(cs:List Value)(os:List Nat):Prop:=∀ o∈os,∃ x,ok x∧cs[o]? = some (vl x)
variable {A vl un}
theorem ac8{s:CS}{cs:List Value}{os:List Nat}{k o:Nat}(h:os[k]? = some o):goC A vl un s cs (os.drop k)=goC A vl un (A.one s (pa un cs o)).1 (cs.set o (vl (A.one s (pa un cs o)).2)) (os.drop (k+1)):=by
 obtain ⟨h1,h2⟩:=List.getElem?_eq_some_iff.1 h
 rw [List.drop_eq_getElem_cons h1,h2];rfl
theorem zX{s:CS}{cs:List Value}{os:List Nat}{k:Nat}(h:os.length≤k):goC A vl un s cs (os.drop k)=(s,cs):=by rw [List.drop_eq_nil_of_le h];rfl
theorem qh(hun:∀ x,un (vl x)=x){cs:List Value}{o:Nat}{x:α}(h:cs[o]? = some (vl x)):pa un cs o=x:=by
 unfold pa;rw [List.getD_eq_getElem?_getD,h];exact hun x
theorem zT(hun:∀ x,un (vl x)=x){cs:List Value}{os:List Nat}{k o:Nat}{x:α}(h:os[k]? = some o)(hx:cs[o]? = some (vl x)):bz A un cs (os.take (k+1))=bz A un cs (os.take k)++A.enc x:=by
 unfold bz;rw [List.take_add_one,h,List.map_append,List.flatten_append]
 show _++(A.enc (pa un cs o)++[])=_
 rw [qh hun hx,List.append_nil]
theorem zU{cs:List Value}(os:List Nat)(k:Nat):(bz A un cs (os.take k)).length≤(bz A un cs os).length:=by
 have:os=os.take k++os.drop k:=(List.take_append_drop k os).symm
 have e:bz A un cs os=bz A un cs (os.take k)++bz A un cs (os.drop k):=by
   unfold bz;rw [← List.flatten_append,← List.map_append,List.take_append_drop]
 rw [e,List.length_append];omega
theorem aai{ok:α→Prop}{cs:List Value}{os:List Nat}(h:okC vl ok cs os){o:Nat}{x:α}(hx:ok x):okC vl ok (cs.set o (vl x)) os:=fun p hp=>by
 obtain ⟨y,hy,hc⟩:=h p hp
 by_cases e:o=p
 · subst e;exact ⟨x,hx,by rw [List.getElem?_set_self (List.getElem?_eq_some_iff.1 hc).1]⟩
 · exact ⟨y,hy,by rw [List.getElem?_set_ne e];exact hc⟩
theorem kr{cs:List Value}{o:Nat}{v:Value}(h:o<cs.length):wrC cs o [v]=cs.set o v:=by
 unfold wrC;rw [List.set_eq_take_append_cons_drop,if_pos h];rfl
end
def unI:Value→Int
 | .int _ z=>z
 | _=>0
def unT:Value→ByteArray
 | .string s=>s
 | _=>.empty
abbrev xd(b:Nat)(o:Nat):List D:=[.v (.pointer (some ⟨b,o,none⟩))]
end Go.Lv

namespace Go.Proofs.YtebnelfdimiifaaGreatDoor
open Go.RowKit Go.Lp Go.Sy Go.Lv
open Go.Proofs.Tryz
attribute [local irreducible] aL aB awp aC fwp Quiet
theorem cS(b bt:Nat)(T:TypeId)(cs:List Value)(p v:Value)(hp:p=.pointer none∨p=.pointer (some ⟨b,0,none⟩))(out:List UInt8)(l:Sl Nat)(hc:okC (fun z:Int=>Value.int .i64 z) Go.Lv.I64 cs l.l)(hl:(out++bz aj unI cs l.l).length≤1000000000) :
   Con Tryz.prog 46 [.pointer (some ⟨b,0,none⟩),l.val] [ShF (xd bt) l] [bR b p v (.pointer none),aN v 5 1 (out.map cE),Box bt T cs]
     fun _ ps hp'=>ps=[]∧∃ p' v',(p'=.pointer none∨p'=.pointer (some ⟨b,0,none⟩))∧hp'=[bR b p' v' (.pointer none),aN v' 5 1 ((out++bz aj unI cs l.l).map cE),Box bt T cs]:=by
 refine EN2 Tryz.func46 rfl (bS (.of (aH 0 rfl)) (fun hlen=>(aSR (aM rfl (aU rfl (aX Tryz.underlying214 rfl) (aM rfl (aNn (aq ?_))))))))
 refine aP [0,6,7,8] [0] [0,1,2] (fun (q:Nat × Value × Value) st=>(q.1≤l.l.length∧(q.2.1=.pointer none∨q.2.1=.pointer (some ⟨b,0,none⟩)))∧st=⟨[(0,true,.pointer (some ⟨b,0,none⟩)),(6,true,l.val),(7,true,.int .i64 l.l.length),(8,true,.int .i64 q.1)],[ShF (xd bt) l],[bR b q.2.1 q.2.2 (.pointer none),aN q.2.2 5 1 ((out++bz aj unI cs (l.l.take q.1)).map cE),Box bt T cs]⟩) (fun q=>l.l.length-q.1) rfl (⟨(0,p,v),⟨Nat.zero_le _,hp⟩,by dsimp only;rw [List.take_zero];show _=(⟨_,_,[_,aN v _ 1 ((out++[]).map cE),_]⟩:Sta);rw [List.append_nil];rfl⟩) ?_
 rintro ⟨k,p1,v1⟩ st ⟨⟨hk,hp1⟩,rfl⟩
 dsimp only at hk hp1 ⊢
 refine aSR (aU rfl (bC rfl rfl) (aNs ?_))
 refine ao _ rfl (fun h1 => ?_) (fun h1 => ?_)
 ·skip
  have hk':k<l.l.length:=by simpa using h1
  obtain ⟨o,ho⟩:∃ o,l.l[k]? = some o:=⟨_,List.getElem?_eq_getElem hk'⟩
  obtain ⟨x,hx,hco⟩:=hc o (List.mem_of_getElem? ho)
  have hen:=zT (A:=aj) (un:=unI) (vl:=(fun z:Int=>Value.int .i64 z)) (fun _=>rfl) ho hco
  have hle:=zU (A:=aj) (un:=unI) (cs:=cs) l.l (k+1)
  rw [hen] at hle
  rw [List.length_append] at hle hl
  refine ax (an (ai (aq (aSR (UI Tryz.underlying214 tk90 0 rfl rfl rfl rfl rfl (aI ho) rfl rfl (fun ⟨b2_0,o2_0⟩=>(US 0 tk90 0 rfl rfl rfl rfl rfl (aA rfl (aNn (aSR (aM rfl (UN rfl rfl (UO 2 rfl rfl (UL 0 tk63 rfl rfl rfl rfl (aU rfl (nw (by kernel_rfl) rfl) ?_)))))))))))))))
  refine aNn ?_
  refine ao _ rfl (fun h2 => ?_) (fun h2 => ?_)
  ·skip
   exact absurd h2 (by decide)
  ·skip
   refine DR [7] 8 (VM 0 rfl rfl (VN 1 rfl rfl rfl (VO 2 0 rfl rfl rfl (VM 3 rfl rfl (VN 4 rfl rfl rfl (bV 5 rfl rfl (bj 2 tk3 rfl rfl hco) (bV 6 rfl rfl (Q0 rfl ((acO x hx).post (fun _ _ _ h=>h.2.2))) ?_)))))))
   refine VE 7 rfl rfl (EC [] [0,1] rfl (om b p1 hp1 v1 (.pointer none) (out++bz aj unI cs (l.l.take k)) (aj.enc x) (fun h=>by have:=aj.pos x;rw [h] at this;cases this) (by rw [List.length_append];omega)) ?_)
   rintro _ _ _ ⟨rfl,ad2,c2,rfl⟩
   refine bST rfl ?_
   refine BN (bu (an (aa (aU rfl (aV rfl rfl (by omega)) (aM rfl (aNn ?_))))))
   refine ⟨[0,6,7,8],[0],[0,1,2],rfl,?_⟩
   exact ⟨(k+1,_,_),⟨⟨hk',.inr rfl⟩,by dsimp only;rw [hen,← List.append_assoc];rfl⟩,by dsimp only;omega⟩
 ·skip
  have hke:k=l.l.length:=by simp at h1;omega
  subst hke
  refine aR (aS (aS (aY (FZ0 [0,1,2] Tryz.results46 ?_))))
  exact ⟨rfl,p1,v1,hp1,by rw [List.take_length];rfl⟩
theorem cQ(b rb bt:Nat)(T:TypeId)(cs:List Value)(p v:Value)(r:List UInt8)(bad:Bool)(hr:r.length≤4611686018427387904)(l:Sl Nat)(hc:okC (fun z:Int=>Value.int .i64 z) Go.Lv.I64 cs l.l) :
   Con Tryz.prog 46 [.pointer (some ⟨b,0,none⟩),l.val] [ShF (xd bt) l] [bR b p v (.pointer (some ⟨rb,0,none⟩)),rdB rb r bad,Box bt T cs]
     fun _ ps hp'=>ps=[]∧∃ r' bad',(goC aj (fun z:Int=>Value.int .i64 z) unI (.R r bad) cs l.l).1=.R r' bad'∧hp'=[bR b p v (.pointer (some ⟨rb,0,none⟩)),rdB rb r' bad',Box bt T (goC aj (fun z:Int=>Value.int .i64 z) unI (.R r bad) cs l.l).2]:=by
 obtain ⟨w0,hw0⟩:∃ w0,goC aj (fun z:Int=>Value.int .i64 z) unI (.R r bad) cs l.l=w0:=⟨_,rfl⟩
 rw [hw0]
 refine EN2 Tryz.func46 rfl (bS (.of (aH 0 rfl)) (fun hlen=>(aSR (aM rfl (aU rfl (aX Tryz.underlying214 rfl) (aM rfl (aNn (aq (aP [0,6,7,8] [0] [0,1,2] (fun (q:Nat × List Value × List UInt8 × Bool) st=>(q.1≤l.l.length∧q.2.2.1.length≤4611686018427387904∧okC (fun z:Int=>Value.int .i64 z) Go.Lv.I64 q.2.1 l.l∧goC aj (fun z:Int=>Value.int .i64 z) unI (.R q.2.2.1 q.2.2.2) q.2.1 (l.l.drop q.1)=w0)∧st=⟨[(0,true,.pointer (some ⟨b,0,none⟩)),(6,true,l.val),(7,true,.int .i64 l.l.length),(8,true,.int .i64 q.1)],[ShF (xd bt) l],[bR b p v (.pointer (some ⟨rb,0,none⟩)),rdB rb q.2.2.1 q.2.2.2,Box bt T q.2.1]⟩) (fun q=>l.l.length-q.1) rfl (⟨(0,cs,r,bad),⟨Nat.zero_le _,hr,hc,hw0⟩,rfl⟩) ?_)))))))))
 rintro ⟨k,cs1,r1,bad1⟩ st ⟨⟨hk,hr1,hc1,hw⟩,rfl⟩
 dsimp only at hk hr1 hc1 hw ⊢
 refine aSR (aU rfl (bC rfl rfl) (aNs ?_))
 refine ao _ rfl (fun h1 => ?_) (fun h1 => ?_)
 ·skip
  have hk':k<l.l.length:=by simpa using h1
  obtain ⟨o,ho⟩:∃ o,l.l[k]? = some o:=⟨_,List.getElem?_eq_getElem hk'⟩
  obtain ⟨x,hx,hco⟩:=hc1 o (List.mem_of_getElem? ho)
  have hol:=(List.getElem?_eq_some_iff.1 hco).1
  rw [ac8 ho,qh (vl:=(fun z:Int=>Value.int .i64 z)) (un:=unI) (fun _=>rfl) hco] at hw
  obtain ⟨rd1,rd2,hrd1,hrd2,hrd3,_⟩:=aj.rd r1 bad1 hr1
  have hone:aj.one (.R r1 bad1) x=aj.one (.R r1 bad1) aj.zero:=rfl
  refine ax (an (ai (aq (aSR (UI Tryz.underlying214 tk90 0 rfl rfl rfl rfl rfl (aI ho) rfl rfl (fun ⟨b2_0,o2_0⟩=>(US 0 tk90 0 rfl rfl rfl rfl rfl (aA rfl (aNn (aSR (aM rfl (UN rfl rfl (UO 2 rfl rfl (UL 0 tk63 rfl rfl rfl rfl (aU rfl (nw (by kernel_rfl) rfl) ?_)))))))))))))))
  refine aNn ?_
  refine ao _ rfl (fun h2 => ?_) (fun h2 => ?_)
  ·skip
   refine aa (aM rfl (aM rfl (UN rfl rfl (UO 2 rfl rfl (UL 0 tk63 rfl rfl rfl rfl (LF rfl (EC [] [1] rfl (acM rb r1 bad1 hr1 x) ?_)))))))
   rintro _ _ _ ⟨rfl,t2,bad2,hq1,rfl,rfl⟩
   refine aST ?_
   refine UN rfl rfl ?_
   refine aW rfl (fj 2 ([.int .i64 (aj.one (.R r1 bad1) x).2]) ((cs1.set o (.int .i64 (aj.one (.R r1 bad1) x).2))) tk3 rfl rfl rfl rfl rfl ((fun _ h=>by rw [List.mem_singleton.1 h];rfl)) ((by omega)) (kr hol) ?_)
   refine aHK ?_
   refine bP (bu (an (aa (aU rfl (aV rfl rfl (by omega)) (aM rfl (aNn ?_))))))
   refine ⟨[0,6,7,8],[0],[0,1,2],rfl,?_⟩
   have hq1':(aj.one (.R r1 bad1) x).1=.R t2 bad2:=hq1
   rw [hq1'] at hw
   rw [hone,hrd1] at hq1'
   obtain ⟨rfl,rfl⟩:=CS.R.inj hq1'
   exact ⟨(k+1,_,rd1,rd2),⟨⟨hk',by dsimp only;omega,aai hc1 hrd3,hw⟩,rfl⟩,by dsimp only;omega⟩
  ·skip
   exact absurd h2 (fun h=>by cases h)
 ·skip
  have hke:l.l.length≤k:=by simp at h1;omega
  rw [zX hke] at hw
  refine aR (aS (aS (aY (FZ0 [0,1,2] Tryz.results46 ?_))))
  exact ⟨rfl,r1,bad1,by rw [← hw],by rw [← hw];rfl⟩
theorem dR(b bt:Nat)(T:TypeId)(cs:List Value)(p v:Value)(hp:p=.pointer none∨p=.pointer (some ⟨b,0,none⟩))(out:List UInt8)(l:Sl Nat)(hc:okC Value.string (fun s:ByteArray=>s.size≤4611686018427387904) cs l.l)(hl:(out++bz ak unT cs l.l).length≤1000000000) :
   Con Tryz.prog 48 [.pointer (some ⟨b,0,none⟩),l.val] [ShF (xd bt) l] [bR b p v (.pointer none),aN v 5 1 (out.map cE),Box bt T cs]
     fun _ ps hp'=>ps=[]∧∃ p' v',(p'=.pointer none∨p'=.pointer (some ⟨b,0,none⟩))∧hp'=[bR b p' v' (.pointer none),aN v' 5 1 ((out++bz ak unT cs l.l).map cE),Box bt T cs]:=by
 refine EN2 Tryz.func48 rfl (bS (.of (aH 0 rfl)) (fun hlen=>(aSR (aM rfl (aU rfl (aX Tryz.underlying215 rfl) (aM rfl (aNn (aq ?_))))))))
 refine aP [0,6,7,8] [0] [0,1,2] (fun (q:Nat × Value × Value) st=>(q.1≤l.l.length∧(q.2.1=.pointer none∨q.2.1=.pointer (some ⟨b,0,none⟩)))∧st=⟨[(0,true,.pointer (some ⟨b,0,none⟩)),(6,true,l.val),(7,true,.int .i64 l.l.length),(8,true,.int .i64 q.1)],[ShF (xd bt) l],[bR b q.2.1 q.2.2 (.pointer none),aN q.2.2 5 1 ((out++bz ak unT cs (l.l.take q.1)).map cE),Box bt T cs]⟩) (fun q=>l.l.length-q.1) rfl (⟨(0,p,v),⟨Nat.zero_le _,hp⟩,by dsimp only;rw [List.take_zero];show _=(⟨_,_,[_,aN v _ 1 ((out++[]).map cE),_]⟩:Sta);rw [List.append_nil];rfl⟩) ?_
 rintro ⟨k,p1,v1⟩ st ⟨⟨hk,hp1⟩,rfl⟩
 dsimp only at hk hp1 ⊢
 refine aSR (aU rfl (bC rfl rfl) (aNs ?_))
 refine ao _ rfl (fun h1 => ?_) (fun h1 => ?_)
 ·skip
  have hk':k<l.l.length:=by simpa using h1
  obtain ⟨o,ho⟩:∃ o,l.l[k]? = some o:=⟨_,List.getElem?_eq_getElem hk'⟩
  obtain ⟨x,hx,hco⟩:=hc o (List.mem_of_getElem? ho)
  have hen:=zT (A:=ak) (un:=unT) (vl:=Value.string) (fun _=>rfl) ho hco
  have hle:=zU (A:=ak) (un:=unT) (cs:=cs) l.l (k+1)
  rw [hen] at hle
  rw [List.length_append] at hle hl
  refine ax (an (ai (aq (aSR (UI Tryz.underlying215 tk93 0 rfl rfl rfl rfl rfl (aI ho) rfl rfl (fun ⟨b2_0,o2_0⟩=>(US 0 tk93 0 rfl rfl rfl rfl rfl (aA rfl (aNn (aSR (aM rfl (UN rfl rfl (UO 2 rfl rfl (UL 0 tk63 rfl rfl rfl rfl (aU rfl (nw (by kernel_rfl) rfl) ?_)))))))))))))))
  refine aNn ?_
  refine ao _ rfl (fun h2 => ?_) (fun h2 => ?_)
  ·skip
   exact absurd h2 (by decide)
  ·skip
   refine DR [7] 8 (VM 0 rfl rfl (VN 1 rfl rfl rfl (VO 2 0 rfl rfl rfl (VM 3 rfl rfl (VN 4 rfl rfl rfl (bV 5 rfl rfl (bj 2 tk9 rfl rfl hco) (bV 6 rfl rfl (Q0 rfl ((abm x hx).post (fun _ _ _ h=>h.2.2))) ?_)))))))
   refine VE 7 rfl rfl (EC [] [0,1] rfl (om b p1 hp1 v1 (.pointer none) (out++bz ak unT cs (l.l.take k)) (ak.enc x) (fun h=>by have:=ak.pos x;rw [h] at this;cases this) (by rw [List.length_append];omega)) ?_)
   rintro _ _ _ ⟨rfl,ad2,c2,rfl⟩
   refine bST rfl ?_
   refine BN (bu (an (aa (aU rfl (aV rfl rfl (by omega)) (aM rfl (aNn ?_))))))
   refine ⟨[0,6,7,8],[0],[0,1,2],rfl,?_⟩
   exact ⟨(k+1,_,_),⟨⟨hk',.inr rfl⟩,by dsimp only;rw [hen,← List.append_assoc];rfl⟩,by dsimp only;omega⟩
 ·skip
  have hke:k=l.l.length:=by simp at h1;omega
  subst hke
  refine aR (aS (aS (aY (FZ0 [0,1,2] Tryz.results48 ?_))))
  exact ⟨rfl,p1,v1,hp1,by rw [List.take_length];rfl⟩
theorem dQ(b rb bt:Nat)(T:TypeId)(cs:List Value)(p v:Value)(r:List UInt8)(bad:Bool)(hr:r.length≤4611686018427387904)(l:Sl Nat)(hc:okC Value.string (fun s:ByteArray=>s.size≤4611686018427387904) cs l.l) :
   Con Tryz.prog 48 [.pointer (some ⟨b,0,none⟩),l.val] [ShF (xd bt) l] [bR b p v (.pointer (some ⟨rb,0,none⟩)),rdB rb r bad,Box bt T cs]
     fun _ ps hp'=>ps=[]∧∃ r' bad',(goC ak Value.string unT (.R r bad) cs l.l).1=.R r' bad'∧hp'=[bR b p v (.pointer (some ⟨rb,0,none⟩)),rdB rb r' bad',Box bt T (goC ak Value.string unT (.R r bad) cs l.l).2]:=by
 obtain ⟨w0,hw0⟩:∃ w0,goC ak Value.string unT (.R r bad) cs l.l=w0:=⟨_,rfl⟩
 rw [hw0]
 refine EN2 Tryz.func48 rfl (bS (.of (aH 0 rfl)) (fun hlen=>(aSR (aM rfl (aU rfl (aX Tryz.underlying215 rfl) (aM rfl (aNn (aq (aP [0,6,7,8] [0] [0,1,2] (fun (q:Nat × List Value × List UInt8 × Bool) st=>(q.1≤l.l.length∧q.2.2.1.length≤4611686018427387904∧okC Value.string (fun s:ByteArray=>s.size≤4611686018427387904) q.2.1 l.l∧goC ak Value.string unT (.R q.2.2.1 q.2.2.2) q.2.1 (l.l.drop q.1)=w0)∧st=⟨[(0,true,.pointer (some ⟨b,0,none⟩)),(6,true,l.val),(7,true,.int .i64 l.l.length),(8,true,.int .i64 q.1)],[ShF (xd bt) l],[bR b p v (.pointer (some ⟨rb,0,none⟩)),rdB rb q.2.2.1 q.2.2.2,Box bt T q.2.1]⟩) (fun q=>l.l.length-q.1) rfl (⟨(0,cs,r,bad),⟨Nat.zero_le _,hr,hc,hw0⟩,rfl⟩) ?_)))))))))
 rintro ⟨k,cs1,r1,bad1⟩ st ⟨⟨hk,hr1,hc1,hw⟩,rfl⟩
 dsimp only at hk hr1 hc1 hw ⊢
 refine aSR (aU rfl (bC rfl rfl) (aNs ?_))
 refine ao _ rfl (fun h1 => ?_) (fun h1 => ?_)
 ·skip
  have hk':k<l.l.length:=by simpa using h1
  obtain ⟨o,ho⟩:∃ o,l.l[k]? = some o:=⟨_,List.getElem?_eq_getElem hk'⟩
  obtain ⟨x,hx,hco⟩:=hc1 o (List.mem_of_getElem? ho)
  have hol:=(List.getElem?_eq_some_iff.1 hco).1
  rw [ac8 ho,qh (vl:=Value.string) (un:=unT) (fun _=>rfl) hco] at hw
  obtain ⟨rd1,rd2,hrd1,hrd2,hrd3,_⟩:=ak.rd r1 bad1 hr1
  have hone:ak.one (.R r1 bad1) x=ak.one (.R r1 bad1) ak.zero:=rfl
  refine ax (an (ai (aq (aSR (UI Tryz.underlying215 tk93 0 rfl rfl rfl rfl rfl (aI ho) rfl rfl (fun ⟨b2_0,o2_0⟩=>(US 0 tk93 0 rfl rfl rfl rfl rfl (aA rfl (aNn (aSR (aM rfl (UN rfl rfl (UO 2 rfl rfl (UL 0 tk63 rfl rfl rfl rfl (aU rfl (nw (by kernel_rfl) rfl) ?_)))))))))))))))
  refine aNn ?_
  refine ao _ rfl (fun h2 => ?_) (fun h2 => ?_)
  ·skip
   refine aa (aM rfl (aM rfl (UN rfl rfl (UO 2 rfl rfl (UL 0 tk63 rfl rfl rfl rfl (LF rfl (EC [] [1] rfl (abf rb r1 bad1 hr1 x) ?_)))))))
   rintro _ _ _ ⟨rfl,t2,bad2,hq1,rfl,rfl⟩
   refine aST ?_
   refine UN rfl rfl ?_
   refine aW rfl (fj 2 ([.string (ak.one (.R r1 bad1) x).2]) ((cs1.set o (.string (ak.one (.R r1 bad1) x).2))) tk9 rfl rfl rfl rfl rfl ((fun _ h=>by rw [List.mem_singleton.1 h];rfl)) ((by omega)) (kr hol) ?_)
   refine aHK ?_
   refine bP (bu (an (aa (aU rfl (aV rfl rfl (by omega)) (aM rfl (aNn ?_))))))
   refine ⟨[0,6,7,8],[0],[0,1,2],rfl,?_⟩
   have hq1':(ak.one (.R r1 bad1) x).1=.R t2 bad2:=hq1
   rw [hq1'] at hw
   rw [hone,hrd1] at hq1'
   obtain ⟨rfl,rfl⟩:=CS.R.inj hq1'
   exact ⟨(k+1,_,rd1,rd2),⟨⟨hk',by dsimp only;omega,aai hc1 hrd3,hw⟩,rfl⟩,by dsimp only;omega⟩
  ·skip
   exact absurd h2 (fun h=>by cases h)
 ·skip
  have hke:l.l.length≤k:=by simp at h1;omega
  rw [zX hke] at hw
  refine aR (aS (aS (aY (FZ0 [0,1,2] Tryz.results48 ?_))))
  exact ⟨rfl,r1,bad1,by rw [← hw],by rw [← hw];rfl⟩
theorem zJ(z:Int):decide (z≠0) = !decide (z=0):=by simp
theorem rU{cs:List Value}{o:Nat}{v:Value}(h:cs[o]? = some v):cs.set o v=cs:=by
 obtain ⟨h1,h2⟩:=List.getElem?_eq_some_iff.1 h
 subst h2;exact List.set_getElem_self h1
theorem qw(b bt:Nat)(T:TypeId)(cs:List Value)(o:Nat)(hco:cs[o]? = some (.bool true))(p v:Value)(hp:p=.pointer none∨p=.pointer (some ⟨b,0,none⟩))(out:List UInt8)(hl:(out++bO.enc true).length≤1000000000) :
   Con Tryz.prog 49 [.pointer (some ⟨b,0,none⟩),.pointer (some ⟨bt,o,none⟩)] [] [bR b p v (.pointer none),aN v 5 1 (out.map cE),Box bt T cs]
     fun _ ps hp'=>ps=[]∧∃ p' v',(p'=.pointer none∨p'=.pointer (some ⟨b,0,none⟩))∧hp'=[bR b p' v' (.pointer none),aN v' 5 1 ((out++bO.enc true).map cE),Box bt T cs]:=by
 have hol:=(List.getElem?_eq_some_iff.1 hco).1
 refine EN2 Tryz.func49 rfl (aSR (LT rfl (bJ (zs:=[.int .i64 0]) (by kernel_rfl) rfl (fun b0_0=>(aHN ?_)))))
 refine aW rfl (ba 3 tk3 rfl rfl rfl rfl (aHK ?_))
 refine aNs (aSR (aM rfl (UN rfl rfl (aU rfl (bj 2 tk4 rfl rfl hco) (aNn ?_)))))
 refine ao _ rfl (fun h1 => ?_) (fun h1 => ?_)
 ·skip
  refine aa (aW rfl (ba 3 tk3 rfl rfl rfl rfl (aHK ?_)))
  refine aNn (aSR (aM rfl (LT rfl (WL (zs:=[.pointer none]) el214 rfl rfl rfl (.more rfl (.v rfl .nil) .nil) rfl rfl (fun v3_1=>(aHN ?_))))))
  refine eG 4 rfl ?_
  refine LF rfl (EC [0] [0,1,3] rfl (cS b b0_0 3 [.int .i64 1] p v hp out ⟨v3_1,1,[0]⟩ (fun q hq=>⟨1,by decide,by rw [List.mem_singleton.1 hq];rfl⟩) hl) ?_)
  rintro _ _ _ ⟨rfl,p2,v2,hp2,rfl⟩
  refine aST ?_
  refine aNn (aa (aM rfl (UL 3 tk3 rfl rfl rfl rfl (aU rfl (fI rfl rfl) (UN rfl rfl ?_)))))
  refine aW rfl (fj 2 ([.bool true]) (cs) tk4 rfl rfl rfl rfl rfl ((fun _ h=>by rw [List.mem_singleton.1 h];rfl)) ((by omega)) ((kr hol).trans (rU hco)) ?_)
  refine aHK ?_
  refine bP (FZ0 [0,1,2] Tryz.results49 ?_)
  exact ⟨rfl,p2,v2,hp2,rfl⟩
 ·skip
  exact absurd h1 (by decide)
theorem qu(b rb bt:Nat)(T:TypeId)(cs:List Value)(o:Nat)(hco:cs[o]? = some (.bool true))(p v:Value)(r:List UInt8)(bad:Bool)(hr:r.length≤4611686018427387904) :
   Con Tryz.prog 49 [.pointer (some ⟨b,0,none⟩),.pointer (some ⟨bt,o,none⟩)] [] [bR b p v (.pointer (some ⟨rb,0,none⟩)),rdB rb r bad,Box bt T cs]
     fun _ ps hp'=>ps=[]∧∃ r' bad',(bO.one (.R r bad) true).1=.R r' bad'∧hp'=[bR b p v (.pointer (some ⟨rb,0,none⟩)),rdB rb r' bad',Box bt T (cs.set o (.bool (bO.one (.R r bad) true).2))]:=by
 have hol:=(List.getElem?_eq_some_iff.1 hco).1
 refine EN2 Tryz.func49 rfl (aSR (LT rfl (bJ (zs:=[.int .i64 0]) (by kernel_rfl) rfl (fun b0_0=>(aHN ?_)))))
 refine aW rfl (ba 3 tk3 rfl rfl rfl rfl (aHK ?_))
 refine aNs (aSR (aM rfl (UN rfl rfl (aU rfl (bj 2 tk4 rfl rfl hco) (aNn ?_)))))
 refine ao _ rfl (fun h1 => ?_) (fun h1 => ?_)
 ·skip
  refine aa (aW rfl (ba 3 tk3 rfl rfl rfl rfl (aHK ?_)))
  refine aNn (aSR (aM rfl (LT rfl (WL (zs:=[.pointer none]) el214 rfl rfl rfl (.more rfl (.v rfl .nil) .nil) rfl rfl (fun v3_1=>(aHN ?_))))))
  refine eG 4 rfl ?_
  refine LF rfl (EC [0] [0,1,3] rfl (cQ b rb b0_0 3 [.int .i64 1] p v r bad hr ⟨v3_1,1,[0]⟩ (fun q hq=>⟨1,by decide,by rw [List.mem_singleton.1 hq];rfl⟩)) ?_)
  rintro _ _ _ ⟨rfl,r2,bad2,hq2,rfl⟩
  refine aST ?_
  refine aNn (aa (aM rfl (aU rfl (bj (cs:=[.int .i64 (mo (.R r bad) 1).2]) 3 tk3 rfl rfl rfl) (aU rfl (fI rfl rfl) (UN rfl rfl ?_)))))
  refine aW rfl (fj 2 ([.bool (!decide ((mo (.R r bad) 1).2=0))]) ((cs.set o (.bool (bO.one (.R r bad) true).2))) tk4 rfl rfl rfl rfl rfl ((fun _ h=>by rw [List.mem_singleton.1 h];rfl)) ((by omega)) ((by rw [kr hol,← zJ];rfl)) ?_)
  refine aHK ?_
  refine bP (FZ0 [0,1,2] Tryz.results49 ?_)
  exact ⟨rfl,r2,bad2,hq2,rfl⟩
 ·skip
  exact absurd h1 (by decide)
theorem pH(b bt:Nat)(T:TypeId)(cs:List Value)(o:Nat)(hco:cs[o]? = some (.bool false))(p v:Value)(hp:p=.pointer none∨p=.pointer (some ⟨b,0,none⟩))(out:List UInt8)(hl:(out++bO.enc false).length≤1000000000) :
   Con Tryz.prog 49 [.pointer (some ⟨b,0,none⟩),.pointer (some ⟨bt,o,none⟩)] [] [bR b p v (.pointer none),aN v 5 1 (out.map cE),Box bt T cs]
     fun _ ps hp'=>ps=[]∧∃ p' v',(p'=.pointer none∨p'=.pointer (some ⟨b,0,none⟩))∧hp'=[bR b p' v' (.pointer none),aN v' 5 1 ((out++bO.enc false).map cE),Box bt T cs]:=by
 have hol:=(List.getElem?_eq_some_iff.1 hco).1
 refine EN2 Tryz.func49 rfl (aSR (LT rfl (bJ (zs:=[.int .i64 0]) (by kernel_rfl) rfl (fun b0_0=>(aHN ?_)))))
 refine aW rfl (ba 3 tk3 rfl rfl rfl rfl (aHK ?_))
 refine aNs (aSR (aM rfl (UN rfl rfl (aU rfl (bj 2 tk4 rfl rfl hco) (aNn ?_)))))
 refine ao _ rfl (fun h1 => ?_) (fun h1 => ?_)
 ·skip
  exact absurd h1 (by decide)
 ·skip
  refine ax (an (aSR (aM rfl (LT rfl (WL (zs:=[.pointer none]) el214 rfl rfl rfl (.more rfl (.v rfl .nil) .nil) rfl rfl (fun v3_1=>(aHN ?_)))))))
  refine eG 4 rfl ?_
  refine LF rfl (EC [0] [0,1,3] rfl (cS b b0_0 3 [.int .i64 0] p v hp out ⟨v3_1,1,[0]⟩ (fun q hq=>⟨0,by decide,by rw [List.mem_singleton.1 hq];rfl⟩) hl) ?_)
  rintro _ _ _ ⟨rfl,p2,v2,hp2,rfl⟩
  refine aST ?_
  refine aNn (aa (aM rfl (UL 3 tk3 rfl rfl rfl rfl (aU rfl (fI rfl rfl) (UN rfl rfl ?_)))))
  refine aW rfl (fj 2 ([.bool false]) (cs) tk4 rfl rfl rfl rfl rfl ((fun _ h=>by rw [List.mem_singleton.1 h];rfl)) ((by omega)) ((kr hol).trans (rU hco)) ?_)
  refine aHK ?_
  refine bP (FZ0 [0,1,2] Tryz.results49 ?_)
  exact ⟨rfl,p2,v2,hp2,rfl⟩
theorem pG(b rb bt:Nat)(T:TypeId)(cs:List Value)(o:Nat)(hco:cs[o]? = some (.bool false))(p v:Value)(r:List UInt8)(bad:Bool)(hr:r.length≤4611686018427387904) :
   Con Tryz.prog 49 [.pointer (some ⟨b,0,none⟩),.pointer (some ⟨bt,o,none⟩)] [] [bR b p v (.pointer (some ⟨rb,0,none⟩)),rdB rb r bad,Box bt T cs]
     fun _ ps hp'=>ps=[]∧∃ r' bad',(bO.one (.R r bad) false).1=.R r' bad'∧hp'=[bR b p v (.pointer (some ⟨rb,0,none⟩)),rdB rb r' bad',Box bt T (cs.set o (.bool (bO.one (.R r bad) false).2))]:=by
 have hol:=(List.getElem?_eq_some_iff.1 hco).1
 refine EN2 Tryz.func49 rfl (aSR (LT rfl (bJ (zs:=[.int .i64 0]) (by kernel_rfl) rfl (fun b0_0=>(aHN ?_)))))
 refine aW rfl (ba 3 tk3 rfl rfl rfl rfl (aHK ?_))
 refine aNs (aSR (aM rfl (UN rfl rfl (aU rfl (bj 2 tk4 rfl rfl hco) (aNn ?_)))))
 refine ao _ rfl (fun h1 => ?_) (fun h1 => ?_)
 ·skip
  exact absurd h1 (by decide)
 ·skip
  refine ax (an (aSR (aM rfl (LT rfl (WL (zs:=[.pointer none]) el214 rfl rfl rfl (.more rfl (.v rfl .nil) .nil) rfl rfl (fun v3_1=>(aHN ?_)))))))
  refine eG 4 rfl ?_
  refine LF rfl (EC [0] [0,1,3] rfl (cQ b rb b0_0 3 [.int .i64 0] p v r bad hr ⟨v3_1,1,[0]⟩ (fun q hq=>⟨0,by decide,by rw [List.mem_singleton.1 hq];rfl⟩)) ?_)
  rintro _ _ _ ⟨rfl,r2,bad2,hq2,rfl⟩
  refine aST ?_
  refine aNn (aa (aM rfl (aU rfl (bj (cs:=[.int .i64 (mo (.R r bad) 0).2]) 3 tk3 rfl rfl rfl) (aU rfl (fI rfl rfl) (UN rfl rfl ?_)))))
  refine aW rfl (fj 2 ([.bool (!decide ((mo (.R r bad) 0).2=0))]) ((cs.set o (.bool (bO.one (.R r bad) false).2))) tk4 rfl rfl rfl rfl rfl ((fun _ h=>by rw [List.mem_singleton.1 h];rfl)) ((by omega)) ((by rw [kr hol,← zJ];rfl)) ?_)
  refine aHK ?_
  refine bP (FZ0 [0,1,2] Tryz.results49 ?_)
  exact ⟨rfl,r2,bad2,hq2,rfl⟩
theorem lB(x:Bool)(b bt:Nat)(T:TypeId)(cs:List Value)(o:Nat)(hco:cs[o]? = some (.bool x))(p v:Value)(hp:p=.pointer none∨p=.pointer (some ⟨b,0,none⟩))(out:List UInt8)(hl:(out++bO.enc x).length≤1000000000) :
   Con Tryz.prog 49 [.pointer (some ⟨b,0,none⟩),.pointer (some ⟨bt,o,none⟩)] [] [bR b p v (.pointer none),aN v 5 1 (out.map cE),Box bt T cs]
     fun _ ps hp'=>ps=[]∧∃ p' v',(p'=.pointer none∨p'=.pointer (some ⟨b,0,none⟩))∧hp'=[bR b p' v' (.pointer none),aN v' 5 1 ((out++bO.enc x).map cE),Box bt T cs]:=by
 cases x with
 | true=>exact qw b bt T cs o hco p v hp out hl
 | false=>exact pH b bt T cs o hco p v hp out hl
theorem lA(x:Bool)(b rb bt:Nat)(T:TypeId)(cs:List Value)(o:Nat)(hco:cs[o]? = some (.bool x))(p v:Value)(r:List UInt8)(bad:Bool)(hr:r.length≤4611686018427387904) :
   Con Tryz.prog 49 [.pointer (some ⟨b,0,none⟩),.pointer (some ⟨bt,o,none⟩)] [] [bR b p v (.pointer (some ⟨rb,0,none⟩)),rdB rb r bad,Box bt T cs]
     fun _ ps hp'=>ps=[]∧∃ r' bad',(bO.one (.R r bad) x).1=.R r' bad'∧hp'=[bR b p v (.pointer (some ⟨rb,0,none⟩)),rdB rb r' bad',Box bt T (cs.set o (.bool (bO.one (.R r bad) x).2))]:=by
 cases x with
 | true=>exact qu b rb bt T cs o hco p v r bad hr
 | false=>exact pG b rb bt T cs o hco p v r bad hr
end Go.Proofs.YtebnelfdimiifaaGreatDoor

namespace Go.Lv
open Go.RowKit Go.Lp Go.Sy
section
variable {α:Type} (e:α→List UInt8)
def aO(l:List α):List UInt8:=(l.map e).flatten
variable {e}
theorem eH{l:List α}{k:Nat}{x:α}(h:l[k]? = some x):aO e (l.take (k+1))=aO e (l.take k)++e x:=by
 unfold aO;rw [List.take_add_one,h,List.map_append,List.flatten_append]
 show _++(e x++[])=_
 rw [List.append_nil]
theorem iz(l:List α)(k:Nat):(aO e (l.take k)).length≤(aO e l).length:=by
 have h:aO e l=aO e (l.take k)++aO e (l.drop k):=by unfold aO;rw [← List.flatten_append,← List.map_append,List.take_append_drop]
 rw [h,List.length_append];omega
end
end Go.Lv

namespace Go.Proofs.YtebnelfdimiifaaGreatDoor
open Go.RowKit Go.Lp Go.Sy Go.Lv
open Go.Proofs.Tryz
attribute [local irreducible] aL aB awp aC fwp Quiet
def gu (v0 v1 v2 v3 v4:Nat):Code:=(.seq (.seq (.region 0 #[⟨(.some 10),(.move (.tmp 0)),89, "image.go:55", #[],none⟩,⟨(.some 11),(.nilCheck (.tmp 10)),0, "image.go:55", #[⟨0,Go.Ground.data⟩],none⟩,⟨(.some 12),(.fieldAddr 65 (.tmp 11) 1),0, "image.go:55", #[⟨1,Go.Ground.data⟩],none⟩,⟨(.some 13),(.load 63 (.tmp 12)),63, "image.go:55", #[⟨2,Go.Ground.data⟩],none⟩,⟨(.some 14),(.binOp Go.BinOp.eql 63 (.tmp 13) (.const (Go.Value.pointer none)) 63),4, "image.go:55", #[⟨3,Go.Ground.data⟩],none⟩] false) (.cond (.tmp 14) (.seq (.region 1 #[⟨(.some 15),(.move (.tmp 0)),89, "image.go:56", #[],none⟩,⟨(.some 16),(.nilCheck (.tmp 15)),0, "image.go:56", #[⟨0,Go.Ground.data⟩],none⟩,⟨(.some 17),(.fieldAddr 65 (.tmp 16) 0),0, "image.go:56", #[⟨1,Go.Ground.data⟩],none⟩,⟨(.some 18),(.move (.tmp 1)),v0, "image.go:56", #[],none⟩,⟨(.some 19),(.nilCheck (.tmp 18)),0, "image.go:56", #[⟨3,Go.Ground.data⟩],none⟩,⟨(.some 20),(.load v1 (.tmp 19)),v1, "image.go:56", #[⟨4,Go.Ground.data⟩],none⟩,⟨(.some 21),(.call ⟨(Go.Callee.builtin Go.Builtin.len),#[(.tmp 20)],#[v1]⟩),3, "image.go:56", #[⟨5,Go.Ground.data⟩],none⟩,⟨(.some 22),(.call ⟨(Go.Callee.value (.func 129)),#[(.tmp 21)],#[3]⟩),9, "image.go:56", #[⟨6,Go.Ground.data⟩],none⟩,⟨(.some 23),(.call ⟨(Go.Callee.value (.func 120)),#[(.tmp 17),(.tmp 22)],#[62,9]⟩),211, "image.go:56", #[⟨2,Go.Ground.data⟩,⟨7,Go.Ground.data⟩,⟨7,Go.Ground.chain⟩],none⟩] true) (.seq (.seq (.region 2 #[⟨(.some 24),(.move (.tmp 1)),v0, "image.go:57", #[],none⟩,⟨(.some 25),(.nilCheck (.tmp 24)),0, "image.go:57", #[⟨0,Go.Ground.data⟩],none⟩,⟨(.some 26),(.load v1 (.tmp 25)),v1, "image.go:57", #[⟨1,Go.Ground.data⟩],none⟩,⟨(.some 27),(.call ⟨(Go.Callee.builtin Go.Builtin.len),#[(.tmp 26)],#[v1]⟩),3, "image.go:57", #[⟨2,Go.Ground.data⟩],none⟩,⟨(.some 28),(.move (.const (Go.Value.int Go.IntKind.i64 0))),3, "image.go:57", #[],none⟩] false) (.block 0 (.loop (.seq (.region 3 #[⟨(.some 29),(.binOp Go.BinOp.lss 3 (.tmp 28) (.tmp 27) 3),0, "image.go:57", #[],none⟩] false) (.seq (.cond (.tmp 29) Go.Code.skip (.exit 0)) (.seq (.block 1 (.seq (.region 4 #[⟨(.some 30),(.move (.tmp 28)),3, "image.go:57", #[],none⟩,⟨(.some 6),(.assign (.tmp 30)),3, "image.go:57", #[⟨0,Go.Ground.data⟩,⟨0,Go.Ground.phase⟩],none⟩] false) (.seq (.region 5 #[⟨(.some 31),(.move (.tmp 1)),v0, "image.go:58", #[],none⟩,⟨(.some 32),(.nilCheck (.tmp 31)),0, "image.go:58", #[⟨0,Go.Ground.data⟩],none⟩,⟨(.some 33),(.load v1 (.tmp 32)),v1, "image.go:58", #[⟨1,Go.Ground.data⟩],none⟩,⟨(.some 34),(.move (.tmp 6)),3, "image.go:58", #[],none⟩,⟨(.some 35),(.indexAddr v1 (.tmp 33) (.tmp 34)),0, "image.go:58", #[⟨2,Go.Ground.data⟩,⟨3,Go.Ground.data⟩],none⟩,⟨(.some 36),(.load v2 (.tmp 35)),v2, "image.go:58", #[⟨4,Go.Ground.data⟩],none⟩,⟨(.some 7),(.alloc v2),0, "image.go:58", #[],none⟩,⟨none,(.store v2 (.tmp 7) (.tmp 36)),0, "image.go:58", #[⟨6,Go.Ground.data⟩,⟨5,Go.Ground.data⟩,⟨0,Go.Ground.phase⟩,⟨1,Go.Ground.phase⟩,⟨2,Go.Ground.phase⟩,⟨3,Go.Ground.phase⟩,⟨4,Go.Ground.phase⟩,⟨5,Go.Ground.phase⟩,⟨6,Go.Ground.phase⟩],none⟩] false) (.region 6 #[⟨(.some 37),(.move (.tmp 2)),v3, "image.go:59", #[],none⟩,⟨(.some 38),(.call ⟨(Go.Callee.value (.tmp 37)),#[(.tmp 7)],#[v4]⟩),0, "image.go:59", #[⟨0,Go.Ground.data⟩],none⟩] false)))) (.region 7 #[⟨(.some 39),(.binOp Go.BinOp.add 3 (.tmp 28) (.const (Go.Value.int Go.IntKind.i64 1)) 3),3, "image.go:57", #[],none⟩,⟨(.some 28),(.move (.tmp 39)),3, "image.go:57", #[⟨0,Go.Ground.data⟩],none⟩] false))))))) Go.Code.ret)) Go.Code.skip)) (.seq (.region 8 #[⟨(.some 40),(.move (.tmp 0)),89, "image.go:63", #[],none⟩,⟨(.some 41),(.nilCheck (.tmp 40)),0, "image.go:63", #[⟨0,Go.Ground.data⟩],none⟩,⟨(.some 42),(.fieldAddr 65 (.tmp 41) 1),0, "image.go:63", #[⟨1,Go.Ground.data⟩],none⟩,⟨(.some 43),(.load 63 (.tmp 42)),63, "image.go:63", #[⟨2,Go.Ground.data⟩],none⟩,⟨(.some 44),(.call ⟨(Go.Callee.value (.func 130)),#[(.tmp 43)],#[63]⟩),3, "image.go:63", #[⟨3,Go.Ground.data⟩],none⟩,⟨(.some 8),(.assign (.tmp 44)),3, "image.go:63", #[⟨4,Go.Ground.data⟩,⟨4,Go.Ground.chain⟩,⟨0,Go.Ground.phase⟩,⟨1,Go.Ground.phase⟩,⟨2,Go.Ground.phase⟩,⟨3,Go.Ground.phase⟩,⟨4,Go.Ground.phase⟩],none⟩] false) (.block 2 (.loop (.seq (.seq (.region 9 #[⟨(.some 45),(.move (.tmp 8)),3, "image.go:63", #[],none⟩,⟨(.some 46),(.binOp Go.BinOp.gtr 3 (.tmp 45) (.const (Go.Value.int Go.IntKind.i64 0)) 3),4, "image.go:63", #[⟨0,Go.Ground.data⟩],none⟩,⟨(.some 47),(.move (.tmp 46)),4, "image.go:63", #[⟨1,Go.Ground.data⟩],none⟩,⟨(.some 48),(.move (.tmp 0)),89, "image.go:63", #[⟨2,Go.Ground.guard⟩],(.some (2,true))⟩,⟨(.some 49),(.call ⟨(Go.Callee.value (.func 131)),#[(.tmp 48)],#[89]⟩),4, "image.go:63", #[⟨3,Go.Ground.data⟩,⟨2,Go.Ground.chain⟩,⟨2,Go.Ground.guard⟩],(.some (2,true))⟩,⟨(.some 50),(.unOp Go.UnOp.not 4 (.tmp 49)),4, "image.go:63", #[⟨4,Go.Ground.data⟩,⟨2,Go.Ground.guard⟩],(.some (2,true))⟩,⟨(.some 51),(.pick (.tmp 47) (.tmp 50) (.const (Go.Value.bool false))),4, "image.go:63", #[⟨2,Go.Ground.data⟩,⟨5,Go.Ground.data⟩],none⟩] false) (.cond (.tmp 51) Go.Code.skip (.exit 2))) (.seq (.block 3 (.seq (.region 11 #[⟨(.some 9),(.alloc v2),0, "image.go:64", #[],none⟩] false) (.seq (.region 12 #[⟨(.some 54),(.move (.tmp 2)),v3, "image.go:65", #[],none⟩,⟨(.some 55),(.call ⟨(Go.Callee.value (.tmp 54)),#[(.tmp 9)],#[v4]⟩),0, "image.go:65", #[⟨0,Go.Ground.data⟩],none⟩] false) (.region 13 #[⟨(.some 56),(.move (.tmp 1)),v0, "image.go:66", #[],none⟩,⟨(.some 57),(.move (.tmp 1)),v0, "image.go:66", #[],none⟩,⟨(.some 58),(.nilCheck (.tmp 57)),0, "image.go:66", #[⟨1,Go.Ground.data⟩],none⟩,⟨(.some 59),(.load v1 (.tmp 58)),v1, "image.go:66", #[⟨2,Go.Ground.data⟩],none⟩,⟨(.some 60),(.load v2 (.tmp 9)),v2, "image.go:66", #[],none⟩,⟨(.some 61),(.buildSlice v1 1 #[(0,(.tmp 60))]),v1, "image.go:66", #[⟨4,Go.Ground.data⟩],none⟩,⟨(.some 62),(.call ⟨(Go.Callee.builtin Go.Builtin.append),#[(.tmp 59),(.tmp 61)],#[v1,v1]⟩),v1, "image.go:66", #[⟨3,Go.Ground.data⟩,⟨5,Go.Ground.data⟩],none⟩,⟨(.some 63),(.nilCheck (.tmp 56)),0, "image.go:66", #[⟨0,Go.Ground.data⟩,⟨0,Go.Ground.phase⟩,⟨1,Go.Ground.phase⟩,⟨2,Go.Ground.phase⟩,⟨3,Go.Ground.phase⟩,⟨4,Go.Ground.phase⟩,⟨5,Go.Ground.phase⟩,⟨6,Go.Ground.phase⟩],none⟩,⟨none,(.store v1 (.tmp 63) (.tmp 62)),0, "image.go:66", #[⟨7,Go.Ground.data⟩,⟨6,Go.Ground.data⟩,⟨6,Go.Ground.chain⟩,⟨0,Go.Ground.phase⟩,⟨1,Go.Ground.phase⟩,⟨2,Go.Ground.phase⟩,⟨3,Go.Ground.phase⟩,⟨4,Go.Ground.phase⟩,⟨5,Go.Ground.phase⟩,⟨6,Go.Ground.phase⟩],none⟩] true)))) (.region 10 #[⟨(.some 52),(.move (.tmp 8)),3, "image.go:63", #[],none⟩,⟨(.some 53),(.binOp Go.BinOp.sub 3 (.tmp 52) (.const (Go.Value.int Go.IntKind.i64 1)) 3),3, "image.go:63", #[⟨0,Go.Ground.data⟩],none⟩,⟨(.some 8),(.assign (.tmp 53)),3, "image.go:63", #[⟨1,Go.Ground.data⟩,⟨0,Go.Ground.phase⟩,⟨1,Go.Ground.phase⟩],none⟩] false)))))))
theorem bY{F0 v0 v1 v2 v3 v4:Nat}{α:Type}(X:ElT Tryz.prog v2 v1 α)(hF:isF Tryz.prog F0 (gu v0 v1 v2 v3 v4) 64 #[])(b bt:Nat)(T:TypeId)(cs:List Value)(o:Nat)(l:Sl α)(hco:cs[o]? = some l.val)(p v:Value)(hp:p=.pointer none∨p=.pointer (some ⟨b,0,none⟩))(out:List UInt8)(e:α→List UInt8)(hl:(out++(aQ l.l.length++aO e l.l)).length≤1000000000)
   (F:FuncId) (caps:List Value) (pF:Per) (hFc:dP Tryz.prog F=true)
   (h:∀ (x:α) (p v:Value) (out:List UInt8) (bx:Nat),x∈l.l→(p=.pointer none∨p=.pointer (some ⟨b,0,none⟩))→(out++e x).length≤1000000000→Con Tryz.prog F (.pointer (some ⟨bx,0,none⟩)::caps) [pF] [bR b p v (.pointer none),aN v 5 1 (out.map cE),Box bx v2 (X.vs x)]
     fun _ ps hp'=>ps=[]∧∃ p' v',(p'=.pointer none∨p'=.pointer (some ⟨b,0,none⟩))∧hp'=[bR b p' v' (.pointer none),aN v' 5 1 ((out++e x).map cE),Box bx v2 (X.vs x)]) :
   Con Tryz.prog F0 [.pointer (some ⟨b,0,none⟩),.pointer (some ⟨bt,o,none⟩),.func (.func F) #[] caps.toArray] [ShF X.row l,pF] [bR b p v (.pointer none),aN v 5 1 (out.map cE),Box bt T cs]
     fun _ ps hp'=>ps=[]∧∃ p' v',(p'=.pointer none∨p'=.pointer (some ⟨b,0,none⟩))∧hp'=[bR b p' v' (.pointer none),aN v' 5 1 ((out++(aQ l.l.length++aO e l.l)).map cE),Box bt T cs]:=by
 have hol:=(List.getElem?_eq_some_iff.1 hco).1
 have tk_v1:=X.tA
 have tk_v2:=X.tE
 have un_v1:=X.uA
 rw [List.length_append,List.length_append] at hl
 obtain ⟨fn,hf,hb,hn,hr⟩:=hF
 refine Con.enterG hf hb hn (by simp) ?_
 unfold gu
 show awp _ _ _ _ ⟨[(0,true,_),(1,true,_),(2,true,_)],_,_⟩
 refine bS (.of (aH 0 rfl)) (fun hlen=>(ai (aSR (aM rfl (UN rfl rfl (UO 2 rfl rfl (UL 0 tk63 rfl rfl rfl rfl (aU rfl (jl (by kernel_rfl) rfl) (aNn ?_)))))))))
 refine ao _ rfl (fun h1 => ?_) (fun h1 => ?_)
 ·skip
  refine ai (DR [8] 9 (VM 0 rfl rfl (VN 1 rfl rfl rfl (VO 2 0 rfl rfl rfl (VM 3 rfl rfl (VN 4 rfl rfl rfl (bV 5 rfl rfl (bj 2 tk_v1 rfl rfl hco) (bV 6 rfl rfl (aX un_v1 rfl) (bV 7 rfl rfl (Q0 rfl ((wD l.l.length hlen).post (fun _ _ _ h=>h.2.2))) (VE 8 rfl rfl (EC [] [0,1] rfl (om b p hp v (.pointer none) out (aQ l.l.length) (p4 _) (by omega)) ?_)))))))))))
  rintro _ _ _ ⟨rfl,ad2,c2,rfl⟩
  refine bST rfl ?_
  refine BN (an (ai (aSR (aM rfl (UN rfl rfl (aU rfl (bj 2 tk_v1 rfl rfl hco) (aU rfl (aX un_v1 rfl) (aM rfl (aNn (aq ?_))))))))))
  refine aP [0,1,2,27,28] [1,0] [0,1,2] (fun (q:Nat × Value × Value) st=>(q.1≤l.l.length∧(q.2.1=.pointer none∨q.2.1=.pointer (some ⟨b,0,none⟩)))∧st=⟨[(0,true,.pointer (some ⟨b,0,none⟩)),(1,true,.pointer (some ⟨bt,o,none⟩)),(2,true,.func (.func F) #[] caps.toArray),(27,true,.int .i64 l.l.length),(28,true,.int .i64 q.1)],[ShF X.row l,pF],[bR b q.2.1 q.2.2 (.pointer none),aN q.2.2 5 1 ((out++(aQ l.l.length++aO e (l.l.take q.1))).map cE),Box bt T cs]⟩) (fun q=>l.l.length-q.1) rfl (⟨(0,_,_),⟨Nat.zero_le _,.inr rfl⟩,by dsimp only;rw [List.take_zero];show _=(⟨_,_,[_,aN _ _ 1 ((out++(aQ l.l.length++[])).map cE),_]⟩:Sta);rw [List.append_nil];rfl⟩) ?_
  rintro ⟨k,p1,v1⟩ st ⟨⟨hk,hp1⟩,rfl⟩
  dsimp only at hk hp1 ⊢
  refine aSR (aU rfl (bC rfl rfl) (aNs ?_))
  refine ao _ rfl (fun h2 => ?_) (fun h2 => ?_)
  ·skip
   have hk':k<l.l.length:=by simpa using h2
   obtain ⟨x,hx⟩:∃ x,l.l[k]? = some x:=⟨_,List.getElem?_eq_getElem hk'⟩
   have hen:=eH (e:=e) hx
   have hst:out++(aQ l.l.length++aO e (l.l.take (k+1)))=(out++(aQ l.l.length++aO e (l.l.take k)))++e x:=by rw [hen];simp only [List.append_assoc]
   have hle:=iz (e:=e) l.l (k+1)
   rw [hen,List.length_append] at hle
   refine ax (an (ai (aq (aSR (aM rfl (aA rfl (aNn (aSR (aM rfl (UN rfl rfl (aU rfl (bj 2 tk_v1 rfl rfl hco) (aM rfl (jo true rfl rfl (fun _=>bI un_v1 tk_v2 rfl ((.of (aH 0 rfl))) rfl (aI hx) rfl ((X.rl x))) (fun h=>absurd h (by decide)) (fun ⟨b5_4,o5_4⟩=>(aU rfl (gz (o:=0) tk_v2 rfl (aH 0 rfl) rfl (X.ldD x)) ?_)))))))))))))))
   refine LT rfl (bJ (zs:=X.zs) X.hz rfl (fun b5_6=>(aHN ?_)))
   refine aW rfl (ba 3 tk_v2 rfl rfl rfl (X.put x) (aHK ?_))
   refine aNn (aa (aM rfl ?_))
   refine LF rfl (fN [0] [0,1,3] hFc rfl rfl rfl rfl rfl (h x p1 v1 (out++(aQ l.l.length++aO e (l.l.take k))) b5_6 (List.mem_of_getElem? hx) hp1 (by rw [List.length_append,List.length_append,List.length_append];omega)) ?_)
   rintro _ _ _ ⟨rfl,p2,v2,hp2,rfl⟩
   refine aST ?_
   refine bP (bu (an (aa (aU rfl (aV rfl rfl (by omega)) (aM rfl (aNn ?_))))))
   refine ⟨[0,1,2,27,28],[1,0],[0,1,2],rfl,?_⟩
   exact ⟨(k+1,p2,v2),⟨⟨hk',hp2⟩,by dsimp only;rw [hst];rfl⟩,by dsimp only;omega⟩
  ·skip
   have hke:k=l.l.length:=by simp at h2;omega
   subst hke
   refine aR (aS (aS (aY (an (az (bw ?_))))))
   refine rk [] [0,1,2] rfl hr ?_ (.inr rfl)
   exact ⟨rfl,p1,v1,hp1,by rw [List.take_length];rfl⟩
 ·skip
  exact absurd h1 (by decide)
abbrev uH:ElT Tryz.prog 3 25 Int:=⟨false,1,[.int .i64 0],fun z=>[.int .i64 z],fun z=>[.v (.int .i64 z)],fun z=>.int .i64 z,tk3,tk25,Tryz.underlying25,el25,by kernel_rfl,by decide,by decide,rfl,fun _=>rfl,fun _=>rfl,fun _=>rfl,fun _=>rfl,fun _=>rfl,fun _=>rfl⟩
abbrev lI:ElT Tryz.prog 9 27 ByteArray:=⟨false,1,[.string .empty],fun z=>[.string z],fun z=>[.v (.string z)],fun z=>.string z,tk9,tk27,Tryz.underlying27,el27,by kernel_rfl,by decide,by decide,rfl,fun _=>rfl,fun _=>rfl,fun _=>rfl,fun _=>rfl,fun _=>rfl,fun _=>rfl⟩
theorem lM:isF Tryz.prog 56 (gu 111 25 3 92 90) 64 #[]:=⟨_,Tryz.func56,rfl,Tryz.ntmps56,Tryz.results56⟩
theorem gT:type_of% (bY uH lM):=bY uH lM
theorem iE:isF Tryz.prog 59 (gu 117 27 9 95 93) 64 #[]:=⟨_,Tryz.func59,rfl,Tryz.ntmps59,Tryz.results59⟩
theorem jA:type_of% (bY lI iE):=bY lI iE
theorem iD:isF Tryz.prog 50 (gu 99 22 71 101 100) 64 #[]:=⟨_,Tryz.func50,rfl,Tryz.ntmps50,Tryz.results50⟩
theorem oB:type_of% (bY iJ iD):=bY iJ iD
theorem iA:isF Tryz.prog 52 (gu 103 23 77 105 104) 64 #[]:=⟨_,Tryz.func52,rfl,Tryz.ntmps52,Tryz.results52⟩
theorem oy:type_of% (bY iH iA):=bY iH iA
theorem iB:isF Tryz.prog 54 (gu 107 24 73 109 108) 64 #[]:=⟨_,Tryz.func54,rfl,Tryz.ntmps54,Tryz.results54⟩
theorem oz:type_of% (bY iI iB):=bY iI iB
theorem lL:isF Tryz.prog 57 (gu 113 26 75 115 114) 64 #[]:=⟨_,Tryz.func57,rfl,Tryz.ntmps57,Tryz.results57⟩
theorem sE:type_of% (bY uG lL):=bY uG lL
theorem fO:isF Tryz.prog 60 (gu 119 28 55 121 120) 64 #[]:=⟨_,Tryz.func60,rfl,Tryz.ntmps60,Tryz.results60⟩
theorem kK:type_of% (bY gU fO):=bY gU fO
theorem ke:isF Tryz.prog 63 (gu 125 37 58 133 126) 64 #[]:=⟨_,Tryz.func63,rfl,Tryz.ntmps63,Tryz.results63⟩
theorem qS:type_of% (bY lF ke):=bY lF ke
theorem jg:isF Tryz.prog 65 (gu 130 56 129 132 131) 64 #[]:=⟨_,Tryz.func65,rfl,Tryz.ntmps65,Tryz.results65⟩
theorem pL:type_of% (bY jF jg):=bY jF jg
theorem kg:isF Tryz.prog 132 (gu 217 29 176 219 218) 64 #[]:=⟨_,Tryz.func132,rfl,Tryz.ntmps132,Tryz.results132⟩
theorem qU:type_of% (bY lH kg):=bY lH kg
theorem kf:isF Tryz.prog 134 (gu 221 30 180 223 222) 64 #[]:=⟨_,Tryz.func134,rfl,Tryz.ntmps134,Tryz.results134⟩
theorem qT:type_of% (bY lG kf):=bY lG kf
theorem kh:isF Tryz.prog 136 (gu 225 31 159 227 226) 64 #[]:=⟨_,Tryz.func136,rfl,Tryz.ntmps136,Tryz.results136⟩
theorem qV:type_of% (bY je kh):=bY je kh
theorem iC:isF Tryz.prog 138 (gu 229 32 186 231 230) 64 #[]:=⟨_,Tryz.func138,rfl,Tryz.ntmps138,Tryz.results138⟩
theorem oA:type_of% (bY gh iC):=bY gh iC
theorem lN:isF Tryz.prog 140 (gu 233 33 192 235 234) 64 #[]:=⟨_,Tryz.func140,rfl,Tryz.ntmps140,Tryz.results140⟩
theorem sF:type_of% (bY kM lN):=bY kM lN
theorem jf:isF Tryz.prog 142 (gu 237 34 198 239 238) 64 #[]:=⟨_,Tryz.func142,rfl,Tryz.ntmps142,Tryz.results142⟩
theorem pK:type_of% (bY gZ jf):=bY gZ jf
end Go.Proofs.YtebnelfdimiifaaGreatDoor

