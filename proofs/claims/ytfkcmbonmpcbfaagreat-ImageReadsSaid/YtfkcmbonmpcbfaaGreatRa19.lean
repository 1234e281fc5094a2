/- Parts of the proof, in build order. No condition. -/
import Derived.Test.YtfkcmbonmpcbfaaGreatRa18
import Derived.Test.YtfkcmbonmpcbfaaGreatRa09
import Derived.Test.YtfkcmbonmpcbfaaGreatRa08
import Derived.Test.YtfkcmbonmpcbfaaGreatRa05
set_option linter.unusedSimpArgs false
set_option linter.unusedVariables false
set_option maxHeartbeats 1000000
set_option maxRecDepth 20000
namespace Go.Sy
theorem abG{P:Program}{n:Fr}{s:Sta}{d:Option Tmp}{ty:TypeId}{pos:String}{af:Array Edge}{gd:Option (Nat × Bool)}{x:Operand}{t:TypeId}{kk:IntKind}{z:Int}(hx:ev s.env x=some (true,.int kk z)):Quiet P n ⟨d,.unOp .neg t x,ty,pos,af,gd⟩ s (.int kk (kk.wrap (-z))):=.run1 hx fun ρ w h=>by
 unfold execOp;dsimp only;rw [h,← Int.zero_sub];rfl
end Go.Sy
namespace Go.Proofs.YtfkcmbonmpcbfaaGreat
open Go.RowKit Go.Lp Go.Sy Go.Lv
open Go.Proofs.Tryz
attribute [local irreducible] aL aB awp aC fwp Quiet
abbrev rdB(b:Nat)(r:List UInt8)(bad:Bool):Res:=Box b 163 [.string (bytesOf r),.bool bad]
theorem jx(b:Nat)(r:List UInt8)(bad:Bool):Con Tryz.prog 293 [.pointer (some ⟨b,0,none⟩)] [] [rdB b r bad] fun _ ps hp=>ps=[]∧hp=[rdB b [] true]:=by
 refine EN1 Tryz.func293 rfl (aa (aM rfl (aM rfl (UN rfl rfl (UO 0 rfl rfl (aD rfl (aF 0 tk9 rfl rfl rfl rfl (aHK ?_))))))))
 refine UN rfl rfl (UO 1 rfl rfl (aD rfl (aF 0 tk4 rfl rfl rfl rfl (aHK ?_))))
 refine bj (FZ0 [0] Tryz.results293 ?_)
 exact ⟨rfl,rfl⟩
theorem oa(b:Nat)(r:List UInt8)(bad:Bool)(hr:r.length≤4611686018427387904):Con Tryz.prog 291 [.pointer (some ⟨b,0,none⟩)] [] [rdB b r bad] fun v ps hp=>ps=[]∧v=.int .u64 (gq r bad).1∧hp=[rdB b (gq r bad).2.1 (gq r bad).2.2]:=by
 have hsz:(bytesOf r).size=r.length:=rfl
 refine EN1 Tryz.func291 rfl (aSR (aA rfl (aNn (aSR (aA rfl (aNs (aSR (aA rfl (aNn (aq (aQ [0,3,4] [] [0] (fun (q:Nat × Nat) st=>RdI r q.1 q.2∧st=⟨[(0,true,.pointer (some ⟨b,0,none⟩)),(3,true,.int .u64 q.2),(4,true,.int .i64 q.1)],[],[rdB b r bad]⟩) (fun q=>10-q.1) rfl (⟨(0,0),.start r,rfl⟩) ?_)))))))))))
 rintro ⟨i,acc⟩ st ⟨hI,rfl⟩
 dsimp only at hI ⊢
 have hle:=hI.le
 refine ah (aSR (aM rfl (aM rfl (UN rfl rfl (UO 0 rfl rfl (UL 0 tk9 rfl rfl rfl rfl (aU rfl (cP Tryz.underlying9 rfl) (aU rfl (bu rfl rfl) (aM rfl (aG rfl rfl (fun hc=>aS rfl) (aG rfl rfl (fun hc=>bu (ae rfl hc) rfl) (aU rfl (bo rfl rfl (fun h=>gt rfl h)) (aNn ?_)))))))))))))
 refine ao _ rfl (fun h1 => ?_) (fun h1 => ?_)
 ·skip
  have hi:i<r.length∧i<10:=by simp at h1;exact ⟨h1.1,by omega⟩
  obtain ⟨u,hu⟩:∃ u,r[i]? = some u:=⟨_,List.getElem?_eq_getElem hi.1⟩
  have hw:IntKind.u64.wrap (u.toNat:Int)=(u.toNat:Int):=Go.wraps_u64 _ (by omega) (by have:=u.toNat_lt;omega)
  refine ar (aj (ah (aq (aSR (aM rfl (UN rfl rfl (UO 0 rfl rfl (UL 0 tk9 rfl rfl rfl rfl (aM rfl (aU rfl (mJ (i) Tryz.underlying9 rfl rfl (rfl) (hu)) (aU rfl (dm (by kernel_rfl) Tryz.underlying301 rfl) (aA rfl (aNs (ah ?_))))))))))))))
  rw [hw]
  refine aa (aM rfl (aU rfl (cJ rfl rfl) (aM rfl (aG rfl rfl (fun hc=>aS rfl) (aG rfl rfl (fun hc=>eA (ae rfl hc) rfl) (aU rfl (bo rfl rfl (fun h=>gt rfl h)) (aNn ?_)))))))
  refine ao _ rfl (fun h2 => ?_) (fun h2 => ?_)
  ·skip
   have hb:i=9∧1<u.toNat:=by simp at h2;omega
   have hd:=hI.big hu hb.1 hb.2
   refine aT (aW (kj rfl (aW (aW (aY (aj (aSR (aM rfl (LF rfl (EC [] [0] rfl (jx b r bad) ?_))))))))))
   rintro _ _ _ ⟨rfl,rfl⟩
   refine aST ?_
   refine aNn (aSR (aA rfl (aNn (ax (FZ1 [0] Tryz.results291 rfl ?_)))))
   rw [jA hd bad];exact ⟨rfl,rfl,rfl⟩
  ·skip
   have hb:¬ (i=9∧1<u.toNat):=by simp at h2;omega
   refine ar (aj (aSR (aM rfl (aM rfl (aU rfl (gZ rfl rfl (by decide)) (aM rfl (aU rfl (gM rfl rfl (by omega)) (aU rfl (yl rfl rfl (by omega)) (aU rfl (yj rfl rfl) (aA rfl (aNs ?_)))))))))))
   rw [aa7 hI.lt (by omega) (by omega) u.toNat_lt]
   refine aa (aM rfl (aU rfl (bu rfl rfl) (aNn ?_)))
   refine ao _ rfl (fun h3 => ?_) (fun h3 => ?_)
   ·skip
    have hc:u.toNat<128:=by simp at h3;omega
    refine ah (aSR (aM rfl (aU rfl (cJ rfl rfl) (aM rfl (aG rfl rfl (fun hc=>aS rfl) (aG rfl rfl (fun hc=>eA (ae rfl hc) rfl) (aU rfl (bo rfl rfl (fun h=>gt rfl h)) (aNn ?_))))))))
    refine ao _ rfl (fun h4 => ?_) (fun h4 => ?_)
    ·skip
     have hz:u.toNat=0∧0<i:=by simp at h4;omega
     have hd:=hI.zero hu hi.2 hz.1 hz.2
     refine aT (aW (kj rfl (aW (aW (aY (aj (aSR (aM rfl (LF rfl (EC [] [0] rfl (jx b r bad) ?_))))))))))
     rintro _ _ _ ⟨rfl,rfl⟩
     refine aST ?_
     refine aNn (aSR (aA rfl (aNn (ax (FZ1 [0] Tryz.results291 rfl ?_)))))
     rw [jA hd bad];exact ⟨rfl,rfl,rfl⟩
    ·skip
     have hz:¬ (u.toNat=0∧0<i):=by simp at h4;omega
     have hd:=hI.last hu hi.2 hb hc hz
     refine ar (aj (aSR (aM rfl (aM rfl (UN rfl rfl (UO 0 rfl rfl (UL 0 tk9 rfl rfl rfl rfl (aM rfl (aU rfl (aX rfl rfl (by omega)) (aU rfl (oX Tryz.underlying9 rfl rfl (by omega) (by omega)) (UN rfl rfl (UO 0 rfl rfl (aD rfl (aF 0 tk9 rfl rfl rfl rfl (aHK ?_)))))))))))))))
     refine aNn (aSR (aM rfl (aA rfl (aNn (ax (dr (bB (bB (dr (bB (FZ1 [0] Tryz.results291 rfl ?_)))))))))))
     rw [rQ hd bad];exact ⟨rfl,rfl,congrArg (fun x=>[Box b 163 [.string x,.bool bad]]) (iq r (z:=(i:Int)+1) (i:=i+1) (by omega))⟩
   ·skip
    have hc:128≤u.toNat:=by simp at h3;omega
    refine ar (bp (aj (aa (aM rfl (aU rfl (aX rfl rfl (by omega)) (aA rfl (aNn ?_)))))))
    refine ⟨[0,3,4],[],[0],rfl,?_⟩
    exact ⟨(i+1,acc+128 ^ i*(u.toNat % 128)),⟨hI.more hu hi.2 hb hc,rfl⟩,by dsimp only;omega⟩
 ·skip
  have hd:=hI.stop (by simp at h1;omega)
  refine aT (aW (aW (aY (aj (aSR (aM rfl (LF rfl (EC [] [0] rfl (jx b r bad) ?_))))))))
  rintro _ _ _ ⟨rfl,rfl⟩
  refine aST ?_
  refine aNn (aSR (aA rfl (aNn (ax (FZ1 [0] Tryz.results291 rfl ?_)))))
  rw [jA hd bad];exact ⟨rfl,rfl,rfl⟩
theorem uR(b:Nat)(r:List UInt8)(bad:Bool)(hr:r.length≤4611686018427387904):Con Tryz.prog 220 [.pointer (some ⟨b,0,none⟩)] [] [rdB b r bad] fun v ps hp=>ps=[]∧∃ t bad',(eS r bad).1=.R t bad'∧v=.int .i64 (eS r bad).2∧hp=[rdB b t bad']:=by
 have hlt:=oO r bad
 have hnr:=vh r bad
 generalize hd:gq r bad=d at hlt hnr
 refine EN1 Tryz.func220 rfl (aSR (aA rfl (aNn (aSR (aM rfl (LF rfl (EC [] [0] rfl (oa b r bad hr) ?_)))))))
 rw [hd];rintro _ _ _ ⟨rfl,rfl,rfl⟩
 refine aST ?_
 refine aA rfl (aNs (aSR (aM rfl (aU rfl (eA rfl rfl) (aNn ?_)))))
 refine ao _ rfl (fun h1 => ?_) (fun h1 => ?_)
 ·skip
  have hc:d.1>9223372036854775807:=by simp at h1;omega
  rw [if_pos hc] at hnr
  refine aSR (aM rfl (LF rfl (EC [] [0] rfl (jx b _ _) ?_)))
  rintro _ _ _ ⟨rfl,rfl⟩
  refine aST ?_
  refine aNn (aSR (aA rfl (aNn (ax (bB (FZ1 [0] Tryz.results220 rfl ?_))))))
  exact ⟨rfl,_,_,congrArg Prod.fst hnr,by rw [hnr];rfl,rfl⟩
 ·skip
  have hc:¬ d.1>9223372036854775807:=by simp at h1;omega
  rw [if_neg hc] at hnr
  refine ar (aj (aSR (aM rfl ?_)))
  refine aU rfl ((dm (by kernel_rfl) Tryz.underlying3 rfl).castV (v':=.int .i64 d.1) (congrArg (Value.int .i64) (by rw [IntKind.wrap_i64];omega))) ?_
  refine aA rfl (aNn (ax (FZ1 [0] Tryz.results220 rfl ?_)))
  exact ⟨rfl,_,_,congrArg Prod.fst hnr,by rw [hnr],rfl⟩
theorem aaN(b:Nat)(r:List UInt8)(bad:Bool)(hr:r.length≤4611686018427387904)(z:Int):Con Tryz.prog 215 [.pointer (some ⟨b,0,none⟩)] [] [rdB b r bad] fun v ps hp=>ps=[]∧∃ t bad',(iS (.R r bad) z).1=.R t bad'∧v=.int .i64 (iS (.R r bad) z).2∧hp=[rdB b t bad']:=by
 have hlt:=oO r bad
 rw [qx r bad z]
 generalize hd:gq r bad=d at hlt
 refine EN1 Tryz.func215 rfl (aSR (aA rfl (aNn (aSR (aM rfl (LF rfl (EC [] [0] rfl (oa b r bad hr) ?_)))))))
 rw [hd];rintro _ _ _ ⟨rfl,rfl,rfl⟩
 refine aST ?_
 refine aA rfl (aNn (aSR (aM rfl (aU rfl (abH rfl rfl (by decide)) (aU rfl (dm (by kernel_rfl) Tryz.underlying3 rfl) (aM rfl (aU rfl (abC rfl rfl) (aU rfl (dm (by kernel_rfl) Tryz.underlying3 rfl) (aU rfl (abG rfl) (aU rfl ((kD rfl rfl).castV (congrArg (Value.int .i64) (adU hlt))) (aA rfl (aNn (ax (FZ1 [0] Tryz.results215 rfl ?_))))))))))))))
 exact ⟨rfl,_,_,rfl,rfl,rfl⟩
theorem zg(b:Nat)(r:List UInt8)(bad:Bool)(hr:r.length≤4611686018427387904)(z:ByteArray):Con Tryz.prog 217 [.pointer (some ⟨b,0,none⟩)] [] [rdB b r bad] fun v ps hp=>ps=[]∧∃ t bad',(ka (.R r bad) z).1=.R t bad'∧v=.string (ka (.R r bad) z).2∧hp=[rdB b t bad']:=by
 refine EN1 Tryz.func217 rfl (aSR (aA rfl (aNn (aSR (aM rfl (LF rfl (EC [] [0] rfl (uR b r bad hr) ?_)))))))
 rintro _ _ _ ⟨rfl,t,bad',hn,rfl,rfl⟩
 refine aST ?_
 refine aA rfl (aNs (ah ?_))
 have htx:=sn hn
 have hsz:(bytesOf t).size=t.length:=rfl
 generalize (eS r bad).2=m at htx ⊢
 refine aa (aM rfl (aM rfl (UN rfl rfl (UO 0 rfl rfl (UL 0 tk9 rfl rfl rfl rfl (aU rfl (cP Tryz.underlying9 rfl) (aU rfl (eA rfl rfl) (aNn ?_))))))))
 refine ao _ rfl (fun h1 => ?_) (fun h1 => ?_)
 ·skip
  have hc:m>t.length:=by simp at h1;omega
  rw [if_pos hc] at htx
  refine aSR (aM rfl (LF rfl (EC [] [0] rfl (jx b _ _) ?_)))
  rintro _ _ _ ⟨rfl,rfl⟩
  refine aST ?_
  refine aNn (aSR (aA rfl (aNn (ax (bB (FZ1 [0] Tryz.results217 rfl ?_))))))
  exact ⟨rfl,_,_,congrArg Prod.fst htx,congrArg Value.string (congrArg bytesOf (congrArg Prod.snd htx)).symm,rfl⟩
 ·skip
  have hc:¬ m>t.length:=by simp at h1;omega
  rw [if_neg hc] at htx
  refine ar (aj (aSR (aM rfl (UN rfl rfl (UO 0 rfl rfl (UL 0 tk9 rfl rfl rfl rfl (aM rfl (aU rfl (oW Tryz.underlying9 rfl rfl (by omega) (by omega)) (aA rfl (aNn (aSR (aM rfl (aM rfl (UN rfl rfl (UO 0 rfl rfl ?_)))))))))))))))
  refine UL 0 tk9 rfl rfl rfl rfl (aM rfl (aU rfl (oX Tryz.underlying9 rfl rfl (by omega) (by omega)) (UN rfl rfl (UO 0 rfl rfl (aD rfl (aF 0 tk9 rfl rfl rfl rfl (aHK ?_)))))))
  refine aNn (aSR (aM rfl (aA rfl (aNn (ax (FZ1 [0] Tryz.results217 rfl ?_))))))
  refine ⟨rfl,_,_,congrArg Prod.fst htx,?_,?_⟩
  · exact congrArg Value.string ((gp t rfl).trans (congrArg bytesOf (congrArg Prod.snd htx)).symm)
  · exact congrArg (fun x=>[Box b 163 [.string x,.bool bad']]) (iq t rfl)
theorem ze(b:Nat)(r:List UInt8)(bad:Bool):Con Tryz.prog 294 [.pointer (some ⟨b,0,none⟩)] [] [rdB b r bad] fun v ps hp=>ps=[]∧v=.int .i64 r.length∧hp=[rdB b r bad]:=by
 refine EN1 Tryz.func294 rfl (aSR (aA rfl (aNn (aSR (aM rfl (UN rfl rfl (UO 0 rfl rfl (UL 0 tk9 rfl rfl rfl rfl (aU rfl (cP Tryz.underlying9 rfl) (aA rfl (aNn (ax (FZ1 [0] Tryz.results294 rfl ?_)))))))))))))
 exact ⟨rfl,rfl,rfl⟩
theorem rM(b:Nat)(r:List UInt8)(bad:Bool):Con Tryz.prog 45 [.pointer (some ⟨b,0,none⟩)] [] [rdB b r bad] fun v ps hp=>ps=[]∧v=.bool (!bad && r.isEmpty)∧hp=[rdB b r bad]:=by
 refine EN1 Tryz.func45 rfl (aSR (aA rfl (aNn (aSR (aM rfl (UN rfl rfl (UO 1 rfl rfl (UL 0 tk4 rfl rfl rfl rfl (aU rfl (cV rfl) (aM rfl (aG rfl rfl (fun hc=>aS rfl) (aG rfl rfl (fun hc=>cD (ae rfl hc)) (aG rfl rfl (fun hc=>qFA (off:=0) (ae rfl hc)) ?_)))))))))))))
 refine GL 0 tk9 rfl rfl rfl rfl rfl (aG rfl rfl (fun hc=>jh (ae rfl hc) rfl) (aU rfl (bo rfl rfl (fun h=>gt rfl h)) (aA rfl (aNn (ax (FZ1 [0] Tryz.results45 rfl ?_))))))
 refine ⟨rfl,congrArg Value.bool ?_,rfl⟩
 rw [lH]
theorem zf(r:List UInt8):Con Tryz.prog 43 [.string (bytesOf r)] [] [] fun v ps hp=>ps=[]∧∃ b,v=.pointer (some ⟨b,0,none⟩)∧hp=[rdB b r false]:=by
 refine EN1 Tryz.func43 rfl (aSR (aA rfl (aNn (aSR (aM rfl (aU rfl (eb (l:=[(0,.tmp 3)]) (zs:=[.string .empty,.bool false]) (pl:=[(0,1),(1,1)]) (by kernel_rfl) (by kernel_rfl) (by kernel_rfl) rfl rfl rfl) (LT rfl (wU ([.string (bytesOf r),.bool false]) rfl rfl rfl (fun b1_2=>(aHN ?_))))))))))
 refine aA rfl (aNn (ax (FZ1 [0] Tryz.results43 rfl ?_)))
 exact ⟨rfl,_,rfl,rfl⟩
end Go.Proofs.YtfkcmbonmpcbfaaGreat

namespace Go.Sy
open Go.RowKit Go.Lp
theorem rv{P:Program}{n:Fr}{ops:Array Oper}{Q:Exit→Sta→Prop}{env:Env}{ps:List Per}{hp:List Res}{ty:TypeId}{pos:String}{af:Array Edge}{gd:Option (Nat × Bool)}{rest:List Oper}{t:Nat}{f:FuncId}{g:Operand}{caps:List Value}{l:List Operand}{ts:Array TypeId}{vs:List Value}{v:Value}(lp:List Nat)(i:Nat)(hf:dV P f=true)(c:Bool)(hc:guardOf ops env ⟨some t,.call ⟨.value g,l.toArray,ts⟩,ty,pos,af,gd⟩=some c)(ht:fits n.size (some t)=true)(hi:i<hp.length)
   (hgv:c=true→ev env g=some (true,.func (.func f) #[] caps.toArray)) (hx:c=true→evs env l=some vs) (hcon:c=true→Con P f (vs++caps) (fD ps lp) (cO hp [i]) fun r ps' hp'=>ps'=[]∧hp'=cO hp [i]∧r=v)
   (h:aL P n ops Q rest ⟨(t,c,v)::env,ps,hp⟩):aL P n ops Q (⟨some t,.call ⟨.value g,l.toArray,ts⟩,ty,pos,af,gd⟩::rest) ⟨env,ps,hp⟩:=by
 cases c with
 | true =>
   refine aD (q:=false) hc (fK lp [i] hf (hgv rfl) (hx rfl) ht (by simp [okH,hi]) rfl (hcon rfl) ?_)
   rintro _ _ _ ⟨rfl,rfl,rfl⟩
   refine dS ?_ h
   apply List.ext_getElem?;intro j;rw [iV,Nat.zero_add]
   by_cases hj:j<hp.length
   · rw [if_pos hj]
     by_cases e:i=j
     · subst e;simp [place,cO,hi]
     · simp [place,e]
   · rw [if_neg hj,List.getElem?_eq_none (by simp [cO]),List.getElem?_eq_none (by omega)]
 | false=>exact ke (v:=v) false hc ht (fun h=>by cases h) h
theorem mK{P:Program}{n:Fr}{env:Env}{ps:List Per}{hp:List Res}{d:Option Tmp}{ty:TypeId}{pos:String}{af:Array Edge}{gd:Option (Nat × Bool)}{x:Operand}{t t':TypeId}{a:Option Addr}(hT:(match P.underlying t with | some (.pointer _)=>true | _=>false)=true)(hx:ev env x=some (true,.pointer a)):Quiet P n ⟨d,.binOp .neq t x (.const (.pointer none)) t',ty,pos,af,gd⟩ ⟨env,ps,hp⟩ (.bool a.isSome):=.run2 hx (y:=.const (.pointer none)) (vy:=.pointer none) rfl fun ρ w h1 h2=>by
 have hu:∃ e,P.underlying t=some (.pointer e):=by
   cases h:P.underlying t with
   | none=>rw [h] at hT;cases hT
   | some dd=>rw [h] at hT;cases dd<;>first | exact ⟨_,rfl⟩ | cases hT
 obtain ⟨e,hu⟩:=hu
 unfold execOp;dsimp only;rw [h1,h2]
 have e1:(do eqGuard BinOp.neq t x (.const (.pointer none)) (Value.pointer a) (Value.pointer none);binOp BinOp.neq t (Value.pointer a) (Value.pointer none))=binOp BinOp.neq t (Value.pointer a) (Value.pointer none):=by cases a<;>rfl
 have e2:(binOp BinOp.neq t (Value.pointer a) (Value.pointer none)).run P w=.ok (.bool a.isSome) w:=by
   have:=run_neq_pointer_nil (P:=P) (w:=w) t a (by rw [hu];unfold Program.pointee;rw [hu])
   rw [this];cases a<;>rfl
 show ((do eqGuard BinOp.neq t x (.const (.pointer none)) (Value.pointer a) (Value.pointer none);binOp BinOp.neq t (Value.pointer a) (Value.pointer none)).bind fun r=>Sem.pure (Next.value r)).run P w=_
 rw [e1,Sem.run_bind',e2];rfl
end Go.Sy
namespace Go.Proofs.YtfkcmbonmpcbfaaGreat
open Go.RowKit Go.Lp Go.Sy Go.Lv
open Go.Proofs.Tryz
attribute [local irreducible] aL aB awp aC fwp Quiet
theorem uB(b rb:Nat)(p v:Value)(r:List UInt8)(bad:Bool):Con Tryz.prog 221 [.pointer (some ⟨b,0,none⟩)] [] [bR b p v (.pointer (some ⟨rb,0,none⟩)),rdB rb r bad] fun u ps hp=>ps=[]∧u=.bool (CS.R r bad).fails∧hp=[bR b p v (.pointer (some ⟨rb,0,none⟩)),rdB rb r bad]:=by
 refine EN1 Tryz.func221 rfl (aSR (aA rfl (aNn (aSR (aM rfl (UN rfl rfl (UO 2 rfl rfl (UL 0 tk86 rfl rfl rfl rfl (aU rfl (mK (by kernel_rfl) rfl) (aM rfl (aG rfl rfl (fun hc=>aS rfl) (aG rfl rfl (fun hc=>cD (ae rfl hc)) (aG rfl rfl (fun hc=>qFA (off:=2) (ae rfl hc)) (GL 0 tk86 rfl rfl rfl rfl rfl ?_))))))))))))))
 refine rv (caps:=[]) [] 1 (by kernel_rfl) _ rfl rfl (Nat.le_of_ble_eq_true rfl) (fun _=>rfl) (fun hc=>(aN (ae rfl hc) rfl)) (fun hc=>by rw [List.append_nil];exact (ze rb r bad).post (fun _ _ _ ⟨h1,h2,h3⟩=>⟨h1,h3,h2⟩)) ?_
 refine aG rfl rfl (fun hc=>cJ (ae rfl hc) rfl) (aU rfl (bo rfl rfl (fun h=>gt rfl h)) (aM rfl (aG rfl rfl (fun hc=>aS rfl) (aG rfl rfl (fun hc=>cD (ae rfl hc)) (aG rfl rfl (fun hc=>qFA (off:=2) (ae rfl hc)) (GL 0 tk86 rfl rfl rfl rfl rfl ?_))))))
 refine rv (caps:=[]) [] 1 (by kernel_rfl) _ rfl rfl (Nat.le_of_ble_eq_true rfl) (fun _=>rfl) (fun hc=>(aN (ae rfl hc) rfl)) (fun hc=>by rw [List.append_nil];exact (rM rb r bad).post (fun _ _ _ ⟨h1,h2,h3⟩=>⟨h1,h3,h2⟩)) ?_
 refine aG rfl rfl (fun hc=>cV (ae rfl hc)) (aU rfl (bo rfl rfl (fun h=>gt rfl h)) (aA rfl (aNn (ax (FZ1 [0,1] Tryz.results221 rfl ?_)))))
 refine ⟨rfl,congrArg Value.bool ?_,rfl⟩
 unfold CS.fails
 cases r<;>cases bad<;>simp<;>omega
end Go.Proofs.YtfkcmbonmpcbfaaGreat

namespace Go.Lv
open Go.RowKit Go.Lp Go.Sy
section
variable {α:Type} (A:Cod α) (vl:α→Value) (un:Value→α)
def n4(cs:List Value)(o:Nat):α:=un (cs.getD o .nilIface)
def goC:CS→List Value→List Nat→CS × List Value
 | s,cs,[]=>(s,cs)
 | s,cs,o::os=>goC (A.one s (n4 un cs o)).1 (cs.set o (vl (A.one s (n4 un cs o)).2)) os
def bw(cs:List Value)(os:List Nat):List UInt8:=(os.map fun o=>A.enc (n4 un cs o)).flatten
def okC(ok:α→Prop)(cs:List Value)(os:List Nat):Prop:=∀ o∈os,∃ x,ok x∧cs[o]? = some (vl x)
variable {A vl un}
theorem aa6{s:CS}{cs:List Value}{os:List Nat}{k o:Nat}(h:os[k]? = some o):goC A vl un s cs (os.drop k)=goC A vl un (A.one s (n4 un cs o)).1 (cs.set o (vl (A.one s (n4 un cs o)).2)) (os.drop (k+1)):=by
 obtain ⟨h1,h2⟩:=List.getElem?_eq_some_iff.1 h
 rw [List.drop_eq_getElem_cons h1,h2];rfl
theorem xQ{s:CS}{cs:List Value}{os:List Nat}{k:Nat}(h:os.length≤k):goC A vl un s cs (os.drop k)=(s,cs):=by rw [List.drop_eq_nil_of_le h];rfl
theorem pb(hun:∀ x,un (vl x)=x){cs:List Value}{o:Nat}{x:α}(h:cs[o]? = some (vl x)):n4 un cs o=x:=by
 unfold n4;rw [List.getD_eq_getElem?_getD,h];exact hun x
theorem xL(hun:∀ x,un (vl x)=x){cs:List Value}{os:List Nat}{k o:Nat}{x:α}(h:os[k]? = some o)(hx:cs[o]? = some (vl x)):bw A un cs (os.take (k+1))=bw A un cs (os.take k)++A.enc x:=by
 unfold bw;rw [List.take_add_one,h,List.map_append,List.flatten_append]
 show _++(A.enc (n4 un cs o)++[])=_
 rw [pb hun hx,List.append_nil]
theorem xM{cs:List Value}(os:List Nat)(k:Nat):(bw A un cs (os.take k)).length≤(bw A un cs os).length:=by
 have:os=os.take k++os.drop k:=(List.take_append_drop k os).symm
 have e:bw A un cs os=bw A un cs (os.take k)++bw A un cs (os.drop k):=by
   unfold bw;rw [← List.flatten_append,← List.map_append,List.take_append_drop]
 rw [e,List.length_append];omega
theorem yc{ok:α→Prop}{cs:List Value}{os:List Nat}(h:okC vl ok cs os){o:Nat}{x:α}(hx:ok x):okC vl ok (cs.set o (vl x)) os:=fun p hp=>by
 obtain ⟨y,hy,hc⟩:=h p hp
 by_cases e:o=p
 · subst e;exact ⟨x,hx,by rw [List.getElem?_set_self (List.getElem?_eq_some_iff.1 hc).1]⟩
 · exact ⟨y,hy,by rw [List.getElem?_set_ne e];exact hc⟩
theorem j9{cs:List Value}{o:Nat}{v:Value}(h:o<cs.length):wrC cs o [v]=cs.set o v:=by
 unfold wrC;rw [List.set_eq_take_append_cons_drop,if_pos h];rfl
end
def unI:Value→Int
 | .int _ z=>z
 | _=>0
def unT:Value→ByteArray
 | .string s=>s
 | _=>.empty
abbrev vz(b:Nat)(o:Nat):List D:=[.v (.pointer (some ⟨b,o,none⟩))]
end Go.Lv

namespace Go.Proofs.YtfkcmbonmpcbfaaGreat
open Go.RowKit Go.Lp Go.Sy Go.Lv
open Go.Proofs.Tryz
attribute [local irreducible] aL aB awp aC fwp Quiet
theorem df(b bt:Nat)(T:TypeId)(cs:List Value)(p v:Value)(hp:p=.pointer none∨p=.pointer (some ⟨b,0,none⟩))(out:List UInt8)(l:Sl Nat)(hc:okC (fun z:Int=>Value.int .i64 z) Go.Lv.I64 cs l.l)(hl:(out++bw ak unI cs l.l).length≤1000000000) :
   Con Tryz.prog 102 [.pointer (some ⟨b,0,none⟩),l.val] [ShF (vz bt) l] [bR b p v (.pointer none),aO v 5 1 (out.map du),Box bt T cs]
     fun _ ps hp'=>ps=[]∧∃ p' v',(p'=.pointer none∨p'=.pointer (some ⟨b,0,none⟩))∧hp'=[bR b p' v' (.pointer none),aO v' 5 1 ((out++bw ak unI cs l.l).map du),Box bt T cs]:=by
 refine EN2 Tryz.func102 rfl (bY (.of (aI 0 rfl)) (fun hlen=>(aSR (aM rfl (aU rfl (aZ Tryz.underlying313 rfl) (aM rfl (aNn (aq ?_))))))))
 refine aQ [0,6,7,8] [0] [0,1,2] (fun (q:Nat × Value × Value) st=>(q.1≤l.l.length∧(q.2.1=.pointer none∨q.2.1=.pointer (some ⟨b,0,none⟩)))∧st=⟨[(0,true,.pointer (some ⟨b,0,none⟩)),(6,true,l.val),(7,true,.int .i64 l.l.length),(8,true,.int .i64 q.1)],[ShF (vz bt) l],[bR b q.2.1 q.2.2 (.pointer none),aO q.2.2 5 1 ((out++bw ak unI cs (l.l.take q.1)).map du),Box bt T cs]⟩) (fun q=>l.l.length-q.1) rfl (⟨(0,p,v),⟨Nat.zero_le _,hp⟩,by dsimp only;rw [List.take_zero];show _=(⟨_,_,[_,aO v _ 1 ((out++[]).map du),_]⟩:Sta);rw [List.append_nil];rfl⟩) ?_
 rintro ⟨k,p1,v1⟩ st ⟨⟨hk,hp1⟩,rfl⟩
 dsimp only at hk hp1 ⊢
 refine aSR (aU rfl (bu rfl rfl) (aNs ?_))
 refine ao _ rfl (fun h1 => ?_) (fun h1 => ?_)
 ·skip
  have hk':k<l.l.length:=by simpa using h1
  obtain ⟨o,ho⟩:∃ o,l.l[k]? = some o:=⟨_,List.getElem?_eq_getElem hk'⟩
  obtain ⟨x,hx,hco⟩:=hc o (List.mem_of_getElem? ho)
  have hen:=xL (A:=ak) (un:=unI) (vl:=(fun z:Int=>Value.int .i64 z)) (fun _=>rfl) ho hco
  have hle:=xM (A:=ak) (un:=unI) (cs:=cs) l.l (k+1)
  rw [hen] at hle
  rw [List.length_append] at hle hl
  refine ar (aj (ah (aq (aSR (UI Tryz.underlying313 tk165 0 rfl rfl rfl rfl rfl (aK ho) rfl rfl (fun ⟨b2_0,o2_0⟩=>(US 0 tk165 0 rfl rfl rfl rfl rfl (aA rfl (aNn (aSR (aM rfl (UN rfl rfl (UO 2 rfl rfl (UL 0 tk86 rfl rfl rfl rfl (aU rfl (mK (by kernel_rfl) rfl) ?_)))))))))))))))
  refine aNn ?_
  refine ao _ rfl (fun h2 => ?_) (fun h2 => ?_)
  ·skip
   exact absurd h2 (by decide)
  ·skip
   refine DR [7] 8 (VM 0 rfl rfl (VN 1 rfl rfl rfl (VO 2 0 rfl rfl rfl (VM 3 rfl rfl (VN 4 rfl rfl rfl (bV 5 rfl rfl (bJ 2 tk3 rfl rfl hco) (bV 6 rfl rfl (Q0 rfl ((aaO x hx).post (fun _ _ _ h=>h.2.2))) ?_)))))))
   refine VE 7 rfl rfl (EC [] [0,1] rfl (mU b p1 hp1 v1 (.pointer none) (out++bw ak unI cs (l.l.take k)) (ak.enc x) (fun h=>by have:=ak.pos x;rw [h] at this;cases this) (by rw [List.length_append];omega)) ?_)
   rintro _ _ _ ⟨rfl,ad2,c2,rfl⟩
   refine bST rfl ?_
   refine BN (bp (aj (aa (aU rfl (aX rfl rfl (by omega)) (aM rfl (aNn ?_))))))
   refine ⟨[0,6,7,8],[0],[0,1,2],rfl,?_⟩
   exact ⟨(k+1,_,_),⟨⟨hk',.inr rfl⟩,by dsimp only;rw [hen,← List.append_assoc];rfl⟩,by dsimp only;omega⟩
 ·skip
  have hke:k=l.l.length:=by simp at h1;omega
  subst hke
  refine aT (aW (aW (aY (FZ0 [0,1,2] Tryz.results102 ?_))))
  exact ⟨rfl,p1,v1,hp1,by rw [List.take_length];rfl⟩
theorem db(b rb bt:Nat)(T:TypeId)(cs:List Value)(p v:Value)(r:List UInt8)(bad:Bool)(hr:r.length≤4611686018427387904)(l:Sl Nat)(hc:okC (fun z:Int=>Value.int .i64 z) Go.Lv.I64 cs l.l) :
   Con Tryz.prog 102 [.pointer (some ⟨b,0,none⟩),l.val] [ShF (vz bt) l] [bR b p v (.pointer (some ⟨rb,0,none⟩)),rdB rb r bad,Box bt T cs]
     fun _ ps hp'=>ps=[]∧∃ r' bad',(goC ak (fun z:Int=>Value.int .i64 z) unI (.R r bad) cs l.l).1=.R r' bad'∧hp'=[bR b p v (.pointer (some ⟨rb,0,none⟩)),rdB rb r' bad',Box bt T (goC ak (fun z:Int=>Value.int .i64 z) unI (.R r bad) cs l.l).2]:=by
 obtain ⟨w0,hw0⟩:∃ w0,goC ak (fun z:Int=>Value.int .i64 z) unI (.R r bad) cs l.l=w0:=⟨_,rfl⟩
 rw [hw0]
 refine EN2 Tryz.func102 rfl (bY (.of (aI 0 rfl)) (fun hlen=>(aSR (aM rfl (aU rfl (aZ Tryz.underlying313 rfl) (aM rfl (aNn (aq (aQ [0,6,7,8] [0] [0,1,2] (fun (q:Nat × List Value × List UInt8 × Bool) st=>(q.1≤l.l.length∧q.2.2.1.length≤4611686018427387904∧okC (fun z:Int=>Value.int .i64 z) Go.Lv.I64 q.2.1 l.l∧goC ak (fun z:Int=>Value.int .i64 z) unI (.R q.2.2.1 q.2.2.2) q.2.1 (l.l.drop q.1)=w0)∧st=⟨[(0,true,.pointer (some ⟨b,0,none⟩)),(6,true,l.val),(7,true,.int .i64 l.l.length),(8,true,.int .i64 q.1)],[ShF (vz bt) l],[bR b p v (.pointer (some ⟨rb,0,none⟩)),rdB rb q.2.2.1 q.2.2.2,Box bt T q.2.1]⟩) (fun q=>l.l.length-q.1) rfl (⟨(0,cs,r,bad),⟨Nat.zero_le _,hr,hc,hw0⟩,rfl⟩) ?_)))))))))
 rintro ⟨k,cs1,r1,bad1⟩ st ⟨⟨hk,hr1,hc1,hw⟩,rfl⟩
 dsimp only at hk hr1 hc1 hw ⊢
 refine aSR (aU rfl (bu rfl rfl) (aNs ?_))
 refine ao _ rfl (fun h1 => ?_) (fun h1 => ?_)
 ·skip
  have hk':k<l.l.length:=by simpa using h1
  obtain ⟨o,ho⟩:∃ o,l.l[k]? = some o:=⟨_,List.getElem?_eq_getElem hk'⟩
  obtain ⟨x,hx,hco⟩:=hc1 o (List.mem_of_getElem? ho)
  have hol:=(List.getElem?_eq_some_iff.1 hco).1
  rw [aa6 ho,pb (vl:=(fun z:Int=>Value.int .i64 z)) (un:=unI) (fun _=>rfl) hco] at hw
  obtain ⟨rd1,rd2,hrd1,hrd2,hrd3,_⟩:=ak.rd r1 bad1 hr1
  have hone:ak.one (.R r1 bad1) x=ak.one (.R r1 bad1) ak.zero:=rfl
  refine ar (aj (ah (aq (aSR (UI Tryz.underlying313 tk165 0 rfl rfl rfl rfl rfl (aK ho) rfl rfl (fun ⟨b2_0,o2_0⟩=>(US 0 tk165 0 rfl rfl rfl rfl rfl (aA rfl (aNn (aSR (aM rfl (UN rfl rfl (UO 2 rfl rfl (UL 0 tk86 rfl rfl rfl rfl (aU rfl (mK (by kernel_rfl) rfl) ?_)))))))))))))))
  refine aNn ?_
  refine ao _ rfl (fun h2 => ?_) (fun h2 => ?_)
  ·skip
   refine aa (aM rfl (aM rfl (UN rfl rfl (UO 2 rfl rfl (UL 0 tk86 rfl rfl rfl rfl (LF rfl (EC [] [1] rfl (aaN rb r1 bad1 hr1 x) ?_)))))))
   rintro _ _ _ ⟨rfl,t2,bad2,hq1,rfl,rfl⟩
   refine aST ?_
   refine UN rfl rfl ?_
   refine aD rfl (iO 2 ([.int .i64 (ak.one (.R r1 bad1) x).2]) ((cs1.set o (.int .i64 (ak.one (.R r1 bad1) x).2))) tk3 rfl rfl rfl rfl rfl ((fun _ h=>by rw [List.mem_singleton.1 h];rfl)) ((by omega)) (j9 hol) ?_)
   refine aHK ?_
   refine bj (bp (aj (aa (aU rfl (aX rfl rfl (by omega)) (aM rfl (aNn ?_))))))
   refine ⟨[0,6,7,8],[0],[0,1,2],rfl,?_⟩
   have hq1':(ak.one (.R r1 bad1) x).1=.R t2 bad2:=hq1
   rw [hq1'] at hw
   rw [hone,hrd1] at hq1'
   obtain ⟨rfl,rfl⟩:=CS.R.inj hq1'
   exact ⟨(k+1,_,rd1,rd2),⟨⟨hk',by dsimp only;omega,yc hc1 hrd3,hw⟩,rfl⟩,by dsimp only;omega⟩
  ·skip
   exact absurd h2 (fun h=>by cases h)
 ·skip
  have hke:l.l.length≤k:=by simp at h1;omega
  rw [xQ hke] at hw
  refine aT (aW (aW (aY (FZ0 [0,1,2] Tryz.results102 ?_))))
  exact ⟨rfl,r1,bad1,by rw [← hw],by rw [← hw];rfl⟩
theorem dX(b bt:Nat)(T:TypeId)(cs:List Value)(p v:Value)(hp:p=.pointer none∨p=.pointer (some ⟨b,0,none⟩))(out:List UInt8)(l:Sl Nat)(hc:okC Value.string (fun s:ByteArray=>s.size≤4611686018427387904) cs l.l)(hl:(out++bw an unT cs l.l).length≤1000000000) :
   Con Tryz.prog 104 [.pointer (some ⟨b,0,none⟩),l.val] [ShF (vz bt) l] [bR b p v (.pointer none),aO v 5 1 (out.map du),Box bt T cs]
     fun _ ps hp'=>ps=[]∧∃ p' v',(p'=.pointer none∨p'=.pointer (some ⟨b,0,none⟩))∧hp'=[bR b p' v' (.pointer none),aO v' 5 1 ((out++bw an unT cs l.l).map du),Box bt T cs]:=by
 refine EN2 Tryz.func104 rfl (bY (.of (aI 0 rfl)) (fun hlen=>(aSR (aM rfl (aU rfl (aZ Tryz.underlying314 rfl) (aM rfl (aNn (aq ?_))))))))
 refine aQ [0,6,7,8] [0] [0,1,2] (fun (q:Nat × Value × Value) st=>(q.1≤l.l.length∧(q.2.1=.pointer none∨q.2.1=.pointer (some ⟨b,0,none⟩)))∧st=⟨[(0,true,.pointer (some ⟨b,0,none⟩)),(6,true,l.val),(7,true,.int .i64 l.l.length),(8,true,.int .i64 q.1)],[ShF (vz bt) l],[bR b q.2.1 q.2.2 (.pointer none),aO q.2.2 5 1 ((out++bw an unT cs (l.l.take q.1)).map du),Box bt T cs]⟩) (fun q=>l.l.length-q.1) rfl (⟨(0,p,v),⟨Nat.zero_le _,hp⟩,by dsimp only;rw [List.take_zero];show _=(⟨_,_,[_,aO v _ 1 ((out++[]).map du),_]⟩:Sta);rw [List.append_nil];rfl⟩) ?_
 rintro ⟨k,p1,v1⟩ st ⟨⟨hk,hp1⟩,rfl⟩
 dsimp only at hk hp1 ⊢
 refine aSR (aU rfl (bu rfl rfl) (aNs ?_))
 refine ao _ rfl (fun h1 => ?_) (fun h1 => ?_)
 ·skip
  have hk':k<l.l.length:=by simpa using h1
  obtain ⟨o,ho⟩:∃ o,l.l[k]? = some o:=⟨_,List.getElem?_eq_getElem hk'⟩
  obtain ⟨x,hx,hco⟩:=hc o (List.mem_of_getElem? ho)
  have hen:=xL (A:=an) (un:=unT) (vl:=Value.string) (fun _=>rfl) ho hco
  have hle:=xM (A:=an) (un:=unT) (cs:=cs) l.l (k+1)
  rw [hen] at hle
  rw [List.length_append] at hle hl
  refine ar (aj (ah (aq (aSR (UI Tryz.underlying314 tk168 0 rfl rfl rfl rfl rfl (aK ho) rfl rfl (fun ⟨b2_0,o2_0⟩=>(US 0 tk168 0 rfl rfl rfl rfl rfl (aA rfl (aNn (aSR (aM rfl (UN rfl rfl (UO 2 rfl rfl (UL 0 tk86 rfl rfl rfl rfl (aU rfl (mK (by kernel_rfl) rfl) ?_)))))))))))))))
  refine aNn ?_
  refine ao _ rfl (fun h2 => ?_) (fun h2 => ?_)
  ·skip
   exact absurd h2 (by decide)
  ·skip
   refine DR [7] 8 (VM 0 rfl rfl (VN 1 rfl rfl rfl (VO 2 0 rfl rfl rfl (VM 3 rfl rfl (VN 4 rfl rfl rfl (bV 5 rfl rfl (bJ 2 tk9 rfl rfl hco) (bV 6 rfl rfl (Q0 rfl ((zq x hx).post (fun _ _ _ h=>h.2.2))) ?_)))))))
   refine VE 7 rfl rfl (EC [] [0,1] rfl (mU b p1 hp1 v1 (.pointer none) (out++bw an unT cs (l.l.take k)) (an.enc x) (fun h=>by have:=an.pos x;rw [h] at this;cases this) (by rw [List.length_append];omega)) ?_)
   rintro _ _ _ ⟨rfl,ad2,c2,rfl⟩
   refine bST rfl ?_
   refine BN (bp (aj (aa (aU rfl (aX rfl rfl (by omega)) (aM rfl (aNn ?_))))))
   refine ⟨[0,6,7,8],[0],[0,1,2],rfl,?_⟩
   exact ⟨(k+1,_,_),⟨⟨hk',.inr rfl⟩,by dsimp only;rw [hen,← List.append_assoc];rfl⟩,by dsimp only;omega⟩
 ·skip
  have hke:k=l.l.length:=by simp at h1;omega
  subst hke
  refine aT (aW (aW (aY (FZ0 [0,1,2] Tryz.results104 ?_))))
  exact ⟨rfl,p1,v1,hp1,by rw [List.take_length];rfl⟩
theorem dW(b rb bt:Nat)(T:TypeId)(cs:List Value)(p v:Value)(r:List UInt8)(bad:Bool)(hr:r.length≤4611686018427387904)(l:Sl Nat)(hc:okC Value.string (fun s:ByteArray=>s.size≤4611686018427387904) cs l.l) :
   Con Tryz.prog 104 [.pointer (some ⟨b,0,none⟩),l.val] [ShF (vz bt) l] [bR b p v (.pointer (some ⟨rb,0,none⟩)),rdB rb r bad,Box bt T cs]
     fun _ ps hp'=>ps=[]∧∃ r' bad',(goC an Value.string unT (.R r bad) cs l.l).1=.R r' bad'∧hp'=[bR b p v (.pointer (some ⟨rb,0,none⟩)),rdB rb r' bad',Box bt T (goC an Value.string unT (.R r bad) cs l.l).2]:=by
 obtain ⟨w0,hw0⟩:∃ w0,goC an Value.string unT (.R r bad) cs l.l=w0:=⟨_,rfl⟩
 rw [hw0]
 refine EN2 Tryz.func104 rfl (bY (.of (aI 0 rfl)) (fun hlen=>(aSR (aM rfl (aU rfl (aZ Tryz.underlying314 rfl) (aM rfl (aNn (aq (aQ [0,6,7,8] [0] [0,1,2] (fun (q:Nat × List Value × List UInt8 × Bool) st=>(q.1≤l.l.length∧q.2.2.1.length≤4611686018427387904∧okC Value.string (fun s:ByteArray=>s.size≤4611686018427387904) q.2.1 l.l∧goC an Value.string unT (.R q.2.2.1 q.2.2.2) q.2.1 (l.l.drop q.1)=w0)∧st=⟨[(0,true,.pointer (some ⟨b,0,none⟩)),(6,true,l.val),(7,true,.int .i64 l.l.length),(8,true,.int .i64 q.1)],[ShF (vz bt) l],[bR b p v (.pointer (some ⟨rb,0,none⟩)),rdB rb q.2.2.1 q.2.2.2,Box bt T q.2.1]⟩) (fun q=>l.l.length-q.1) rfl (⟨(0,cs,r,bad),⟨Nat.zero_le _,hr,hc,hw0⟩,rfl⟩) ?_)))))))))
 rintro ⟨k,cs1,r1,bad1⟩ st ⟨⟨hk,hr1,hc1,hw⟩,rfl⟩
 dsimp only at hk hr1 hc1 hw ⊢
 refine aSR (aU rfl (bu rfl rfl) (aNs ?_))
 refine ao _ rfl (fun h1 => ?_) (fun h1 => ?_)
 ·skip
  have hk':k<l.l.length:=by simpa using h1
  obtain ⟨o,ho⟩:∃ o,l.l[k]? = some o:=⟨_,List.getElem?_eq_getElem hk'⟩
  obtain ⟨x,hx,hco⟩:=hc1 o (List.mem_of_getElem? ho)
  have hol:=(List.getElem?_eq_some_iff.1 hco).1
  rw [aa6 ho,pb (vl:=Value.string) (un:=unT) (fun _=>rfl) hco] at hw
  obtain ⟨rd1,rd2,hrd1,hrd2,hrd3,_⟩:=an.rd r1 bad1 hr1
  have hone:an.one (.R r1 bad1) x=an.one (.R r1 bad1) an.zero:=rfl
  refine ar (aj (ah (aq (aSR (UI Tryz.underlying314 tk168 0 rfl rfl rfl rfl rfl (aK ho) rfl rfl (fun ⟨b2_0,o2_0⟩=>(US 0 tk168 0 rfl rfl rfl rfl rfl (aA rfl (aNn (aSR (aM rfl (UN rfl rfl (UO 2 rfl rfl (UL 0 tk86 rfl rfl rfl rfl (aU rfl (mK (by kernel_rfl) rfl) ?_)))))))))))))))
  refine aNn ?_
  refine ao _ rfl (fun h2 => ?_) (fun h2 => ?_)
  ·skip
   refine aa (aM rfl (aM rfl (UN rfl rfl (UO 2 rfl rfl (UL 0 tk86 rfl rfl rfl rfl (LF rfl (EC [] [1] rfl (zg rb r1 bad1 hr1 x) ?_)))))))
   rintro _ _ _ ⟨rfl,t2,bad2,hq1,rfl,rfl⟩
   refine aST ?_
   refine UN rfl rfl ?_
   refine aD rfl (iO 2 ([.string (an.one (.R r1 bad1) x).2]) ((cs1.set o (.string (an.one (.R r1 bad1) x).2))) tk9 rfl rfl rfl rfl rfl ((fun _ h=>by rw [List.mem_singleton.1 h];rfl)) ((by omega)) (j9 hol) ?_)
   refine aHK ?_
   refine bj (bp (aj (aa (aU rfl (aX rfl rfl (by omega)) (aM rfl (aNn ?_))))))
   refine ⟨[0,6,7,8],[0],[0,1,2],rfl,?_⟩
   have hq1':(an.one (.R r1 bad1) x).1=.R t2 bad2:=hq1
   rw [hq1'] at hw
   rw [hone,hrd1] at hq1'
   obtain ⟨rfl,rfl⟩:=CS.R.inj hq1'
   exact ⟨(k+1,_,rd1,rd2),⟨⟨hk',by dsimp only;omega,yc hc1 hrd3,hw⟩,rfl⟩,by dsimp only;omega⟩
  ·skip
   exact absurd h2 (fun h=>by cases h)
 ·skip
  have hke:l.l.length≤k:=by simp at h1;omega
  rw [xQ hke] at hw
  refine aT (aW (aW (aY (FZ0 [0,1,2] Tryz.results104 ?_))))
  exact ⟨rfl,r1,bad1,by rw [← hw],by rw [← hw];rfl⟩
theorem xF(z:Int):decide (z≠0) = !decide (z=0):=by simp
theorem qM{cs:List Value}{o:Nat}{v:Value}(h:cs[o]? = some v):cs.set o v=cs:=by
 obtain ⟨h1,h2⟩:=List.getElem?_eq_some_iff.1 h
 subst h2;exact List.set_getElem_self h1
theorem pw(b bt:Nat)(T:TypeId)(cs:List Value)(o:Nat)(hco:cs[o]? = some (.bool true))(p v:Value)(hp:p=.pointer none∨p=.pointer (some ⟨b,0,none⟩))(out:List UInt8)(hl:(out++bP.enc true).length≤1000000000) :
   Con Tryz.prog 105 [.pointer (some ⟨b,0,none⟩),.pointer (some ⟨bt,o,none⟩)] [] [bR b p v (.pointer none),aO v 5 1 (out.map du),Box bt T cs]
     fun _ ps hp'=>ps=[]∧∃ p' v',(p'=.pointer none∨p'=.pointer (some ⟨b,0,none⟩))∧hp'=[bR b p' v' (.pointer none),aO v' 5 1 ((out++bP.enc true).map du),Box bt T cs]:=by
 have hol:=(List.getElem?_eq_some_iff.1 hco).1
 refine EN2 Tryz.func105 rfl (aSR (LT rfl (bk (zs:=[.int .i64 0]) (by kernel_rfl) rfl (fun b0_0=>(aHN ?_)))))
 refine aD rfl (aF 3 tk3 rfl rfl rfl rfl (aHK ?_))
 refine aNs (aSR (aM rfl (UN rfl rfl (aU rfl (bJ 2 tk4 rfl rfl hco) (aNn ?_)))))
 refine ao _ rfl (fun h1 => ?_) (fun h1 => ?_)
 ·skip
  refine aa (aD rfl (aF 3 tk3 rfl rfl rfl rfl (aHK ?_)))
  refine aNn (aSR (aM rfl (LT rfl (WL (zs:=[.pointer none]) el313 rfl rfl rfl (.more rfl (.v rfl .nil) .nil) rfl rfl (fun v3_1=>(aHN ?_))))))
  refine eN 4 rfl ?_
  refine LF rfl (EC [0] [0,1,3] rfl (df b b0_0 3 [.int .i64 1] p v hp out ⟨v3_1,1,[0]⟩ (fun q hq=>⟨1,by decide,by rw [List.mem_singleton.1 hq];rfl⟩) hl) ?_)
  rintro _ _ _ ⟨rfl,p2,v2,hp2,rfl⟩
  refine aST ?_
  refine aNn (aa (aM rfl (UL 3 tk3 rfl rfl rfl rfl (aU rfl (ft rfl rfl) (UN rfl rfl ?_)))))
  refine aD rfl (iO 2 ([.bool true]) (cs) tk4 rfl rfl rfl rfl rfl ((fun _ h=>by rw [List.mem_singleton.1 h];rfl)) ((by omega)) ((j9 hol).trans (qM hco)) ?_)
  refine aHK ?_
  refine bj (FZ0 [0,1,2] Tryz.results105 ?_)
  exact ⟨rfl,p2,v2,hp2,rfl⟩
 ·skip
  exact absurd h1 (by decide)
theorem pq(b rb bt:Nat)(T:TypeId)(cs:List Value)(o:Nat)(hco:cs[o]? = some (.bool true))(p v:Value)(r:List UInt8)(bad:Bool)(hr:r.length≤4611686018427387904) :
   Con Tryz.prog 105 [.pointer (some ⟨b,0,none⟩),.pointer (some ⟨bt,o,none⟩)] [] [bR b p v (.pointer (some ⟨rb,0,none⟩)),rdB rb r bad,Box bt T cs]
     fun _ ps hp'=>ps=[]∧∃ r' bad',(bP.one (.R r bad) true).1=.R r' bad'∧hp'=[bR b p v (.pointer (some ⟨rb,0,none⟩)),rdB rb r' bad',Box bt T (cs.set o (.bool (bP.one (.R r bad) true).2))]:=by
 have hol:=(List.getElem?_eq_some_iff.1 hco).1
 refine EN2 Tryz.func105 rfl (aSR (LT rfl (bk (zs:=[.int .i64 0]) (by kernel_rfl) rfl (fun b0_0=>(aHN ?_)))))
 refine aD rfl (aF 3 tk3 rfl rfl rfl rfl (aHK ?_))
 refine aNs (aSR (aM rfl (UN rfl rfl (aU rfl (bJ 2 tk4 rfl rfl hco) (aNn ?_)))))
 refine ao _ rfl (fun h1 => ?_) (fun h1 => ?_)
 ·skip
  refine aa (aD rfl (aF 3 tk3 rfl rfl rfl rfl (aHK ?_)))
  refine aNn (aSR (aM rfl (LT rfl (WL (zs:=[.pointer none]) el313 rfl rfl rfl (.more rfl (.v rfl .nil) .nil) rfl rfl (fun v3_1=>(aHN ?_))))))
  refine eN 4 rfl ?_
  refine LF rfl (EC [0] [0,1,3] rfl (db b rb b0_0 3 [.int .i64 1] p v r bad hr ⟨v3_1,1,[0]⟩ (fun q hq=>⟨1,by decide,by rw [List.mem_singleton.1 hq];rfl⟩)) ?_)
  rintro _ _ _ ⟨rfl,r2,bad2,hq2,rfl⟩
  refine aST ?_
  refine aNn (aa (aM rfl (aU rfl (bJ (cs:=[.int .i64 (iS (.R r bad) 1).2]) 3 tk3 rfl rfl rfl) (aU rfl (ft rfl rfl) (UN rfl rfl ?_)))))
  refine aD rfl (iO 2 ([.bool (!decide ((iS (.R r bad) 1).2=0))]) ((cs.set o (.bool (bP.one (.R r bad) true).2))) tk4 rfl rfl rfl rfl rfl ((fun _ h=>by rw [List.mem_singleton.1 h];rfl)) ((by omega)) ((by rw [j9 hol,← xF];rfl)) ?_)
  refine aHK ?_
  refine bj (FZ0 [0,1,2] Tryz.results105 ?_)
  exact ⟨rfl,r2,bad2,hq2,rfl⟩
 ·skip
  exact absurd h1 (by decide)
theorem ox(b bt:Nat)(T:TypeId)(cs:List Value)(o:Nat)(hco:cs[o]? = some (.bool false))(p v:Value)(hp:p=.pointer none∨p=.pointer (some ⟨b,0,none⟩))(out:List UInt8)(hl:(out++bP.enc false).length≤1000000000) :
   Con Tryz.prog 105 [.pointer (some ⟨b,0,none⟩),.pointer (some ⟨bt,o,none⟩)] [] [bR b p v (.pointer none),aO v 5 1 (out.map du),Box bt T cs]
     fun _ ps hp'=>ps=[]∧∃ p' v',(p'=.pointer none∨p'=.pointer (some ⟨b,0,none⟩))∧hp'=[bR b p' v' (.pointer none),aO v' 5 1 ((out++bP.enc false).map du),Box bt T cs]:=by
 have hol:=(List.getElem?_eq_some_iff.1 hco).1
 refine EN2 Tryz.func105 rfl (aSR (LT rfl (bk (zs:=[.int .i64 0]) (by kernel_rfl) rfl (fun b0_0=>(aHN ?_)))))
 refine aD rfl (aF 3 tk3 rfl rfl rfl rfl (aHK ?_))
 refine aNs (aSR (aM rfl (UN rfl rfl (aU rfl (bJ 2 tk4 rfl rfl hco) (aNn ?_)))))
 refine ao _ rfl (fun h1 => ?_) (fun h1 => ?_)
 ·skip
  exact absurd h1 (by decide)
 ·skip
  refine ar (aj (aSR (aM rfl (LT rfl (WL (zs:=[.pointer none]) el313 rfl rfl rfl (.more rfl (.v rfl .nil) .nil) rfl rfl (fun v3_1=>(aHN ?_)))))))
  refine eN 4 rfl ?_
  refine LF rfl (EC [0] [0,1,3] rfl (df b b0_0 3 [.int .i64 0] p v hp out ⟨v3_1,1,[0]⟩ (fun q hq=>⟨0,by decide,by rw [List.mem_singleton.1 hq];rfl⟩) hl) ?_)
  rintro _ _ _ ⟨rfl,p2,v2,hp2,rfl⟩
  refine aST ?_
  refine aNn (aa (aM rfl (UL 3 tk3 rfl rfl rfl rfl (aU rfl (ft rfl rfl) (UN rfl rfl ?_)))))
  refine aD rfl (iO 2 ([.bool false]) (cs) tk4 rfl rfl rfl rfl rfl ((fun _ h=>by rw [List.mem_singleton.1 h];rfl)) ((by omega)) ((j9 hol).trans (qM hco)) ?_)
  refine aHK ?_
  refine bj (FZ0 [0,1,2] Tryz.results105 ?_)
  exact ⟨rfl,p2,v2,hp2,rfl⟩
theorem ow(b rb bt:Nat)(T:TypeId)(cs:List Value)(o:Nat)(hco:cs[o]? = some (.bool false))(p v:Value)(r:List UInt8)(bad:Bool)(hr:r.length≤4611686018427387904) :
   Con Tryz.prog 105 [.pointer (some ⟨b,0,none⟩),.pointer (some ⟨bt,o,none⟩)] [] [bR b p v (.pointer (some ⟨rb,0,none⟩)),rdB rb r bad,Box bt T cs]
     fun _ ps hp'=>ps=[]∧∃ r' bad',(bP.one (.R r bad) false).1=.R r' bad'∧hp'=[bR b p v (.pointer (some ⟨rb,0,none⟩)),rdB rb r' bad',Box bt T (cs.set o (.bool (bP.one (.R r bad) false).2))]:=by
 have hol:=(List.getElem?_eq_some_iff.1 hco).1
 refine EN2 Tryz.func105 rfl (aSR (LT rfl (bk (zs:=[.int .i64 0]) (by kernel_rfl) rfl (fun b0_0=>(aHN ?_)))))
 refine aD rfl (aF 3 tk3 rfl rfl rfl rfl (aHK ?_))
 refine aNs (aSR (aM rfl (UN rfl rfl (aU rfl (bJ 2 tk4 rfl rfl hco) (aNn ?_)))))
 refine ao _ rfl (fun h1 => ?_) (fun h1 => ?_)
 ·skip
  exact absurd h1 (by decide)
 ·skip
  refine ar (aj (aSR (aM rfl (LT rfl (WL (zs:=[.pointer none]) el313 rfl rfl rfl (.more rfl (.v rfl .nil) .nil) rfl rfl (fun v3_1=>(aHN ?_)))))))
  refine eN 4 rfl ?_
  refine LF rfl (EC [0] [0,1,3] rfl (db b rb b0_0 3 [.int .i64 0] p v r bad hr ⟨v3_1,1,[0]⟩ (fun q hq=>⟨0,by decide,by rw [List.mem_singleton.1 hq];rfl⟩)) ?_)
  rintro _ _ _ ⟨rfl,r2,bad2,hq2,rfl⟩
  refine aST ?_
  refine aNn (aa (aM rfl (aU rfl (bJ (cs:=[.int .i64 (iS (.R r bad) 0).2]) 3 tk3 rfl rfl rfl) (aU rfl (ft rfl rfl) (UN rfl rfl ?_)))))
  refine aD rfl (iO 2 ([.bool (!decide ((iS (.R r bad) 0).2=0))]) ((cs.set o (.bool (bP.one (.R r bad) false).2))) tk4 rfl rfl rfl rfl rfl ((fun _ h=>by rw [List.mem_singleton.1 h];rfl)) ((by omega)) ((by rw [j9 hol,← xF];rfl)) ?_)
  refine aHK ?_
  refine bj (FZ0 [0,1,2] Tryz.results105 ?_)
  exact ⟨rfl,r2,bad2,hq2,rfl⟩
theorem kT(x:Bool)(b bt:Nat)(T:TypeId)(cs:List Value)(o:Nat)(hco:cs[o]? = some (.bool x))(p v:Value)(hp:p=.pointer none∨p=.pointer (some ⟨b,0,none⟩))(out:List UInt8)(hl:(out++bP.enc x).length≤1000000000) :
   Con Tryz.prog 105 [.pointer (some ⟨b,0,none⟩),.pointer (some ⟨bt,o,none⟩)] [] [bR b p v (.pointer none),aO v 5 1 (out.map du),Box bt T cs]
     fun _ ps hp'=>ps=[]∧∃ p' v',(p'=.pointer none∨p'=.pointer (some ⟨b,0,none⟩))∧hp'=[bR b p' v' (.pointer none),aO v' 5 1 ((out++bP.enc x).map du),Box bt T cs]:=by
 cases x with
 | true=>exact pw b bt T cs o hco p v hp out hl
 | false=>exact ox b bt T cs o hco p v hp out hl
theorem kS(x:Bool)(b rb bt:Nat)(T:TypeId)(cs:List Value)(o:Nat)(hco:cs[o]? = some (.bool x))(p v:Value)(r:List UInt8)(bad:Bool)(hr:r.length≤4611686018427387904) :
   Con Tryz.prog 105 [.pointer (some ⟨b,0,none⟩),.pointer (some ⟨bt,o,none⟩)] [] [bR b p v (.pointer (some ⟨rb,0,none⟩)),rdB rb r bad,Box bt T cs]
     fun _ ps hp'=>ps=[]∧∃ r' bad',(bP.one (.R r bad) x).1=.R r' bad'∧hp'=[bR b p v (.pointer (some ⟨rb,0,none⟩)),rdB rb r' bad',Box bt T (cs.set o (.bool (bP.one (.R r bad) x).2))]:=by
 cases x with
 | true=>exact pq b rb bt T cs o hco p v r bad hr
 | false=>exact ow b rb bt T cs o hco p v r bad hr
end Go.Proofs.YtfkcmbonmpcbfaaGreat

namespace Go.Lv
open Go.RowKit Go.Lp Go.Sy
section
variable {α:Type} (e:α→List UInt8)
def aP(l:List α):List UInt8:=(l.map e).flatten
variable {e}
theorem eQ{l:List α}{k:Nat}{x:α}(h:l[k]? = some x):aP e (l.take (k+1))=aP e (l.take k)++e x:=by
 unfold aP;rw [List.take_add_one,h,List.map_append,List.flatten_append]
 show _++(e x++[])=_
 rw [List.append_nil]
theorem iu(l:List α)(k:Nat):(aP e (l.take k)).length≤(aP e l).length:=by
 have h:aP e l=aP e (l.take k)++aP e (l.drop k):=by unfold aP;rw [← List.flatten_append,← List.map_append,List.take_append_drop]
 rw [h,List.length_append];omega
end
end Go.Lv

