/- Parts of the proof, in build order. No condition. -/
import Derived.Test.YtebnelfdimiifaaGreatDoorSa27
import Derived.Test.YtebnelfdimiifaaGreatDoorSa05
import Derived.Test.YtebnelfdimiifaaGreatDoorSa07
import Derived.Test.YtebnelfdimiifaaGreatDoorSa04
import Derived.Test.YtebnelfdimiifaaGreatDoorSa06
import Derived.Lib.ConvBytes
import Derived.Laws.IdiomCopy
import Derived.Deep.Upon
import Derived.Test.YtebnelfdimiifaaGreatDoorSa08
import Derived.Laws.Bits64b
import Derived.Laws.Closers25b
set_option linter.unusedSimpArgs false
set_option linter.unusedVariables false
set_option maxHeartbeats 1000000
set_option maxRecDepth 20000
namespace Go.Proofs.YtebnelfdimiifaaGreatDoor
open Go.RowKit Go.Lp Go.Sy Go.Lv
open Go.Proofs.Tryz
attribute [local irreducible] aL aB awp aC fwp Quiet
theorem tb(x:aD)(hW:cY x)(hl:(bN.enc (bA x)).length≤1000000000):Con Tryz.prog 5 [x.val] [x.ok] [] (YN Value.bool fun b=>b=true→(bN.enc (bA x)).length≤20000):=by
 refine EN1 Tryz.func5 rfl (aZ _ (aD.f_versions (.of (aH 0 rfl))) (aZ _ (aD.f_changes (.of (aH 1 rfl))) (aSR (LT rfl (cx rfl rfl rfl (fun b0_0=>(aHN ?_)))))))
 refine aA rfl (aNs (aSR (UO 5 rfl rfl (UL 0 tk9 rfl rfl rfl rfl (aU rfl (cB Tryz.underlying9 rfl) (aU rfl (cN rfl rfl) (aM rfl (GO 6 rfl rfl rfl (GL 0 tk9 rfl rfl rfl rfl rfl (aG rfl rfl (fun hc=>cB Tryz.underlying9 (ae rfl hc)) (aG rfl rfl (fun hc=>cN (ae rfl hc) rfl) (aU rfl (dp rfl rfl (fun h=>gf rfl h)) (aM rfl (GO 0 rfl rfl rfl ?_))))))))))))))
 refine GL 0 tk9 rfl rfl rfl rfl rfl (aG rfl rfl (fun hc=>cB Tryz.underlying9 (ae rfl hc)) (aG rfl rfl (fun hc=>cN (ae rfl hc) rfl) (aU rfl (dp rfl rfl (fun h=>gf rfl h)) (aM rfl (GO 8 rfl rfl rfl (GL 0 tk22 rfl rfl rfl rfl rfl (aG rfl rfl (fun hc=>aX Tryz.underlying22 (ae rfl hc)) (aG rfl rfl (fun hc=>cN (ae rfl hc) rfl) (aU rfl (dp rfl rfl (fun h=>gf rfl h)) (aM rfl (GO 9 rfl rfl rfl ?_)))))))))))
 refine GL 0 tk23 rfl rfl rfl rfl rfl (aG rfl rfl (fun hc=>aX Tryz.underlying23 (ae rfl hc)) (aG rfl rfl (fun hc=>cN (ae rfl hc) rfl) (aU rfl (dp rfl rfl (fun h=>gf rfl h)) (aM rfl (GO 10 rfl rfl rfl (GL 0 tk24 rfl rfl rfl rfl rfl (aG rfl rfl (fun hc=>aX Tryz.underlying24 (ae rfl hc)) (aG rfl rfl (fun hc=>cN (ae rfl hc) rfl) (aU rfl (dp rfl rfl (fun h=>gf rfl h)) (aM rfl (GO 11 rfl rfl rfl ?_)))))))))))
 refine GL 0 tk25 rfl rfl rfl rfl rfl (aG rfl rfl (fun hc=>aX Tryz.underlying25 (ae rfl hc)) (aG rfl rfl (fun hc=>cN (ae rfl hc) rfl) (aU rfl (dp rfl rfl (fun h=>gf rfl h)) (aM rfl (GO 12 rfl rfl rfl (GL 0 tk25 rfl rfl rfl rfl rfl (aG rfl rfl (fun hc=>aX Tryz.underlying25 (ae rfl hc)) (aG rfl rfl (fun hc=>cN (ae rfl hc) rfl) (aU rfl (dp rfl rfl (fun h=>gf rfl h)) (aM rfl (GO 13 rfl rfl rfl ?_)))))))))))
 refine GL 0 tk26 rfl rfl rfl rfl rfl (aG rfl rfl (fun hc=>aX Tryz.underlying26 (ae rfl hc)) (aG rfl rfl (fun hc=>cN (ae rfl hc) rfl) (aU rfl (dp rfl rfl (fun h=>gf rfl h)) (aM rfl (GO 14 rfl rfl rfl (GL 0 tk25 rfl rfl rfl rfl rfl (aG rfl rfl (fun hc=>aX Tryz.underlying25 (ae rfl hc)) (aG rfl rfl (fun hc=>cN (ae rfl hc) rfl) (aU rfl (dp rfl rfl (fun h=>gf rfl h)) (aM rfl (GO 15 rfl rfl rfl ?_)))))))))))
 refine GL 0 tk25 rfl rfl rfl rfl rfl (aG rfl rfl (fun hc=>aX Tryz.underlying25 (ae rfl hc)) (aG rfl rfl (fun hc=>cN (ae rfl hc) rfl) (aU rfl (dp rfl rfl (fun h=>gf rfl h)) (aM rfl (GO 17 rfl rfl rfl (GL 0 tk27 rfl rfl rfl rfl rfl (aG rfl rfl (fun hc=>aX Tryz.underlying27 (ae rfl hc)) (aG rfl rfl (fun hc=>cN (ae rfl hc) rfl) (aU rfl (dp rfl rfl (fun h=>gf rfl h)) (aM rfl (GO 18 rfl rfl rfl ?_)))))))))))
 refine GL 0 tk28 rfl rfl rfl rfl rfl (aG rfl rfl (fun hc=>aX Tryz.underlying28 (ae rfl hc)) (aG rfl rfl (fun hc=>cN (ae rfl hc) rfl) (aU rfl (dp rfl rfl (fun h=>gf rfl h)) (aM rfl (GO 25 rfl rfl rfl (GL 0 tk37 rfl rfl rfl rfl rfl (aG rfl rfl (fun hc=>aX Tryz.underlying37 (ae rfl hc)) (aG rfl rfl (fun hc=>cN (ae rfl hc) rfl) (aU rfl (dp rfl rfl (fun h=>gf rfl h)) (aNn ?_))))))))))
 refine ao _ rfl (fun h1 => ?_) (fun h1 => ?_)
 ·skip
  refine aSR (aA rfl (aNn (az (bw (FZ1 [] Tryz.results5 rfl ?_)))))
  exact ⟨⟨rfl,rfl⟩,_,rfl,fun h=>by cases h⟩
 ·skip
  refine ax (an (aSR (UO 19 rfl rfl (UL 0 tk36 rfl rfl rfl rfl (LT rfl (bJ (zs:=[.slice none 0 0,.slice none 0 0,.slice none 0 0,.slice none 0 0,.slice none 0 0,.slice none 0 0]) (by kernel_rfl) rfl (fun b3_2=>(aHN ?_))))))))
  refine aW rfl (ba 1 tk36 rfl rfl rfl rfl (aHK ?_))
  refine aNs (aSR (UO 0 rfl rfl (UL 1 tk29 rfl rfl rfl rfl (aU rfl (aX Tryz.underlying29 rfl) (aU rfl (cN rfl rfl) (aM rfl (GO 1 rfl rfl rfl (GL 1 tk30 rfl rfl rfl rfl rfl (aG rfl rfl (fun hc=>aX Tryz.underlying30 (ae rfl hc)) (aG rfl rfl (fun hc=>cN (ae rfl hc) rfl) (aU rfl (dp rfl rfl (fun h=>gf rfl h)) (aM rfl (GO 2 rfl rfl rfl ?_)))))))))))))
  refine GL 1 tk31 rfl rfl rfl rfl rfl (aG rfl rfl (fun hc=>aX Tryz.underlying31 (ae rfl hc)) (aG rfl rfl (fun hc=>cN (ae rfl hc) rfl) (aU rfl (dp rfl rfl (fun h=>gf rfl h)) (aM rfl (GO 3 rfl rfl rfl (GL 1 tk32 rfl rfl rfl rfl rfl (aG rfl rfl (fun hc=>aX Tryz.underlying32 (ae rfl hc)) (aG rfl rfl (fun hc=>cN (ae rfl hc) rfl) (aU rfl (dp rfl rfl (fun h=>gf rfl h)) (aM rfl (GO 4 rfl rfl rfl ?_)))))))))))
  refine GL 1 tk33 rfl rfl rfl rfl rfl (aG rfl rfl (fun hc=>aX Tryz.underlying33 (ae rfl hc)) (aG rfl rfl (fun hc=>cN (ae rfl hc) rfl) (aU rfl (dp rfl rfl (fun h=>gf rfl h)) (aM rfl (GO 5 rfl rfl rfl (GL 1 tk34 rfl rfl rfl rfl rfl (aG rfl rfl (fun hc=>aX Tryz.underlying34 (ae rfl hc)) (aG rfl rfl (fun hc=>cN (ae rfl hc) rfl) (aU rfl (dp rfl rfl (fun h=>gf rfl h)) (aNn ?_))))))))))
  refine ao _ rfl (fun h2 => ?_) (fun h2 => ?_)
  ·skip
   refine aSR (aA rfl (aNn (az (bw (FZ1 [] Tryz.results5 rfl ?_)))))
   exact ⟨⟨rfl,rfl⟩,_,rfl,fun h=>by cases h⟩
  ·skip
   refine ax (an (ai (aSR (aA rfl (aNn (aq (bS (.of (aH 1 rfl)) (fun hlv=>(aP [1,4] [2,1,0] [0] (fun (k:Nat) st=>k≤x.versions.l.length∧st=⟨[(1,true,.pointer (some ⟨b0_0,0,none⟩)),(4,true,.int .i64 k)],[ShF cr.row x.changes,ShF aF.row x.versions,x.ok],[Box b0_0 39 x.vs]⟩) (fun k=>x.versions.l.length-k) rfl (⟨0,Nat.zero_le _,rfl⟩) ?_)))))))))
   rintro k st ⟨hk,rfl⟩
   refine ai (aSR (aM rfl (UO 18 rfl rfl (UL 0 tk28 rfl rfl rfl rfl (aU rfl (aX Tryz.underlying28 rfl) (aU rfl (bC rfl rfl) (aNn ?_)))))))
   refine ao _ rfl (fun h3 => ?_) (fun h3 => ?_)
   ·skip
    have hk':k<x.versions.l.length:=by simpa using h3
    obtain ⟨y,hx⟩:∃ y,x.versions.l[k]? = some y:=⟨_,List.getElem?_eq_getElem hk'⟩
    refine ax (an (ai (aq (aSR (UO 18 rfl rfl (UL 0 tk28 rfl rfl rfl rfl (aM rfl (UI Tryz.underlying28 tk55 1 rfl rfl rfl rfl rfl (aI hx) rfl rfl (fun ⟨b9_3,o9_3⟩=>(UO 1 rfl rfl (US 1 tk27 0 rfl rfl rfl rfl rfl (aU rfl (aX Tryz.underlying27 rfl) (aU rfl (cN rfl rfl) (aNn ?_))))))))))))))
    refine ao _ rfl (fun h4 => ?_) (fun h4 => ?_)
    ·skip
     refine aSR (aA rfl (aNn (az (cH (bw (bw (cH (bw (FZ1 [] Tryz.results5 rfl ?_)))))))))
     exact ⟨⟨rfl,rfl⟩,_,rfl,fun h=>by cases h⟩
    ·skip
     refine ax (bu (an (aa (aM rfl (aU rfl (aV rfl rfl (by omega)) (aA rfl (aNn ?_)))))))
     refine ⟨[1,4],[2,1,0],[0],rfl,?_⟩
     refine ⟨k+1,⟨hk',rfl⟩,by omega⟩
   ·skip
    refine aR (aS (aS (aY (an (ai (aSR (aA rfl (aNn (aq (bS (.of (aH 0 rfl)) (fun hlc=>(aP [1,5] [2,1,0] [0] (fun (k:Nat) st=>k≤x.changes.l.length∧st=⟨[(1,true,.pointer (some ⟨b0_0,0,none⟩)),(5,true,.int .i64 k)],[ShF cr.row x.changes,ShF aF.row x.versions,x.ok],[Box b0_0 39 x.vs]⟩) (fun k=>x.changes.l.length-k) rfl (⟨0,Nat.zero_le _,rfl⟩) ?_))))))))))))
    rintro k st ⟨hk,rfl⟩
    refine ai (aSR (aM rfl (UO 25 rfl rfl (UL 0 tk37 rfl rfl rfl rfl (aU rfl (aX Tryz.underlying37 rfl) (aU rfl (bC rfl rfl) (aNn ?_)))))))
    refine ao _ rfl (fun h5 => ?_) (fun h5 => ?_)
    ·skip
     have hk':k<x.changes.l.length:=by simpa using h5
     obtain ⟨y,hx⟩:∃ y,x.changes.l[k]? = some y:=⟨_,List.getElem?_eq_getElem hk'⟩
     refine ax (an (ai (aq (aSR (UO 25 rfl rfl (UL 0 tk37 rfl rfl rfl rfl (aM rfl (UI Tryz.underlying37 tk58 0 rfl rfl rfl rfl rfl (aI hx) rfl rfl (fun ⟨b14_3,o14_3⟩=>(UO 3 rfl rfl (US 3 tk56 0 rfl rfl rfl rfl rfl (aU rfl (aX Tryz.underlying56 rfl) (aU rfl (cN rfl rfl) (aNn ?_))))))))))))))
     refine ao _ rfl (fun h6 => ?_) (fun h6 => ?_)
     ·skip
      refine aSR (aA rfl (aNn (az (cH (bw (bw (cH (bw (FZ1 [] Tryz.results5 rfl ?_)))))))))
      exact ⟨⟨rfl,rfl⟩,_,rfl,fun h=>by cases h⟩
     ·skip
      refine ax (bu (an (aa (aM rfl (aU rfl (aV rfl rfl (by omega)) (aA rfl (aNn ?_)))))))
      refine ⟨[1,5],[2,1,0],[0],rfl,?_⟩
      refine ⟨k+1,⟨hk',rfl⟩,by omega⟩
    ·skip
     refine aR (aS (aS (aY (an (aSR (UL 0 tk39 rfl rfl rfl rfl (aU rfl (Q1 rfl ((j7 x hW hl).post (fun _ _ _ h=>h.2.2)) 2 rfl) (aU rfl (cB Tryz.underlying9 rfl) (aU rfl (eY rfl rfl) (aA rfl (aNn (az (FZ1 [] Tryz.results5 rfl ?_)))))))))))))
     refine ⟨⟨rfl,rfl⟩,_,rfl,fun h => ?_⟩
     have h':((bytesOf (bN.enc (bA x))).size:Int)≤20000:=of_decide_eq_true h
     have e:(bytesOf (bN.enc (bA x))).size=(bN.enc (bA x)).length:=rfl
     omega
end Go.Proofs.YtebnelfdimiifaaGreatDoor

namespace Go.Sy
open Go.RowKit Go.Lp
theorem zM{w w':World}{g j:Nat}(h:w'.heap[g]? = w.heap[g]?):w'.cell? ⟨g,j,none⟩=w.cell? ⟨g,j,none⟩∧w'.frozen? ⟨g,j,none⟩=w.frozen? ⟨g,j,none⟩:=by
 constructor
 · unfold World.cell?;dsimp only;rw [h]
 · unfold World.frozen?;dsimp only;rw [h]
def ByV (v:Value) (m:Nat):Res :=
 ⟨fun w _ F=>∃ g c,v=.slice (some ⟨g,0,none⟩) m c∧m≤c∧c≤maxLen∧(∀ j,j<c→(∃ u:UInt8,w.cell? ⟨g,j,none⟩=some (.int .u8 u.toNat))∧w.frozen? ⟨g,j,none⟩=false)∧∀ k,F k↔k=g,
  fun ⟨g,c,hv,h1,h2,h,hF⟩ hk _ _=>⟨g,c,hv,h1,h2,fun j hj=>by
    have e:=zM (j:=j) (hk g ((hF g).2 rfl))
    rw [e.1,e.2];exact h j hj,hF⟩⟩
theorem ByV.setCell{w:World}{S F:bH}{v:Value}{m g c k:Nat}{u:UInt8}(hv:v=.slice (some ⟨g,0,none⟩) m c)(h1:m≤c)(h2:c≤maxLen)(h:∀ j,j<c→(∃ u:UInt8,w.cell? ⟨g,j,none⟩=some (.int .u8 u.toNat))∧w.frozen? ⟨g,j,none⟩=false)(hF:∀ b,F b↔b=g)(hk:k<c)(m':Nat)(hm':m'≤c) :
   (ByV (.slice (some ⟨g,0,none⟩) m' c) m').holds (w.setCells g k [.int .u8 u.toNat]) S F:=by
 refine ⟨g,c,rfl,hm',h2,fun j hj=>⟨?_,by rw [World.frozen?_setCells];exact (h j hj).2⟩,hF⟩
 by_cases hjk:j=k
 · subst hjk
   refine ⟨u,?_⟩
   have:=World.cell?_setCells_in g [.int .u8 u.toNat] j w (fun i hi=>by
     have hi0:i=0:=by simpa using hi
     subst hi0
     obtain ⟨⟨u',hu⟩,_⟩:=h j hj
     rw [Nat.add_zero,hu];rfl) 0 (by simp)
   simpa using this
 · obtain ⟨⟨u',hu⟩,_⟩:=h j hj
   refine ⟨u',?_⟩
   rw [World.cell?_setCells_out g _ k w _ (fun _ _=>by simp only [List.length_singleton];omega)]
   exact hu
theorem dY(b:Nat):∀ (vs:List Value) (o:Nat) (w:World),(w.setCells b o vs).drawn=w.drawn∧(w.setCells b o vs).tape=w.tape∧(w.setCells b o vs).heap.size=w.heap.size
 | [],_,_=>⟨rfl,rfl,rfl⟩
 | v::vs,o,w=>by
   obtain ⟨h1,h2,h3⟩:=dY b vs (o+1) (w.setCell ⟨b,o,none⟩ v)
   exact ⟨h1,h2,h3.trans (by simp [World.setCell])⟩
def ByF(v:Value)(m:Nat):Per :=
 ⟨fun w S=>∃ g c,v=.slice (some ⟨g,0,none⟩) m c∧S g∧∀ j,j<m→∃ u:UInt8,w.cell? ⟨g,j,none⟩=some (.int .u8 u.toNat),
  fun ⟨g,c,hv,hg,h⟩ hw hS=>⟨g,c,hv,hS g hg,fun j hj=>by rw [(zM (j:=j) (hw g hg)).1];exact h j hj⟩⟩
section
variable {P:Program} {n:Fr} {env:Env} {ps:List Per} {hp:List Res} {d:Option Tmp} {ty:TypeId} {pos:String} {af:Array Edge} {gd:Option (Nat × Bool)} {K:Sta→Prop} {q:Bool} {v:Value}
end
def ByC (v:Value) (l:List UInt8):Res :=
 ⟨fun w S F=>(ByV v l.length).holds w S F∧∀ (j:Nat) (u:UInt8),l[j]? = some u→w.cell? ⟨jx v,j,none⟩=some (.int .u8 u.toNat),
  fun {w S w' S' F} h hk h2 h3=>⟨(ByV v l.length).mono h.1 hk h2 h3,fun j u hj=>by
    obtain ⟨⟨g,c,rfl,_,_,_,hF⟩,hc⟩:=h
    have e:=zM (j:=j) (hk g ((hF g).2 rfl))
    exact e.1.trans (hc j u hj)⟩⟩
def ByD (v:Value) (l:List UInt8):Per :=
 ⟨fun w S=>(ByF v l.length).holds w S∧∀ (j:Nat) (u:UInt8),l[j]? = some u→w.cell? ⟨jx v,j,none⟩=some (.int .u8 u.toNat),
  fun h hw hS=>⟨(ByF v l.length).mono h.1 hw hS,fun j u hj=>by
    obtain ⟨⟨g,c,rfl,hg,_⟩,hc⟩:=h
    have e:=zM (j:=j) (hw g hg)
    exact e.1.trans (hc j u hj)⟩⟩
theorem xN{P:Program}{n:Fr}{c:Code}{Q:Exit→Sta→Prop}{env:Env}{ps:List Per}{hp:List Res}{v:Value}{l:List UInt8}(i:Nat)(hi:hp[i]? = some (ByC v l))(h:awp P n c Q ⟨env,ByD v l::ps,hp.set i emp⟩):awp P n c Q ⟨env,ps,hp⟩ :=
 jX i (ByD v l) hi (fun w S F ⟨⟨g,c,hv,h1,h2,hB,hF⟩,hc⟩=>⟨⟨g,c,hv,.inr ((hF g).2 rfl),fun j hj=>(hB j (by omega)).1⟩,hc⟩) h
theorem xx{w:World}{g c k:Nat}{u:UInt8}(h:∀ j,j<c→(∃ u:UInt8,w.cell? ⟨g,j,none⟩=some (.int .u8 u.toNat))∧w.frozen? ⟨g,j,none⟩=false)(hk:k<c) :
   (w.setCells g k [.int .u8 u.toNat]).cell? ⟨g,k,none⟩=some (.int .u8 u.toNat)∧∀ j,j≠k→(w.setCells g k [.int .u8 u.toNat]).cell? ⟨g,j,none⟩=w.cell? ⟨g,j,none⟩:=by
 constructor
 · have:=World.cell?_setCells_in g [.int .u8 u.toNat] k w (fun i hi=>by
     have hi0:i=0:=by simpa using hi
     subst hi0
     obtain ⟨⟨u',hu⟩,_⟩:=h k hk
     rw [Nat.add_zero,hu];rfl) 0 (by simp)
   simpa using this
 · intro j hjk
   rw [World.cell?_setCells_out g _ k w _ (fun _ _=>by simp only [List.length_singleton];omega)]
section
variable {P:Program} {n:Fr} {env:Env} {ps:List Per} {hp:List Res} {d:Option Tmp} {ty:TypeId} {pos:String} {af:Array Edge} {gd:Option (Nat × Bool)} {K:Sta→Prop} {q:Bool} {v:Value}
theorem wG{t:Nat}{S T E:TypeId}{u:TypeDesc}{x:Operand}{b:ByteArray}(hS:P.underlying S=some u)(hT:P.underlying T=some (.slice E))(hE:P.underlying E=some (.int .u8))(hb:b.size≤1000000000)(hx:ev env x=some (true,.string b))(ht:fits n.size (some t)=true)
   (hK:∀ v,K ⟨(t,true,v)::env,ps,hp++[ByC v b.data.toList]⟩):Eff P n ⟨some t,.convert S T x,ty,pos,af,gd⟩ ⟨env,ps,hp⟩ q K:=.push fun w S' fp a hst he hn=>by
 have e1:=he.val hx rfl
 have hrun:=Lib.run_convert_string_bytes (P:=P) w S T E b hS hT hE
 have hexec:(execOp a.eval ⟨some t,.convert S T x,ty,pos,af,gd⟩).run P w=.ok (.value (.slice (some ⟨w.heap.size,0,none⟩) b.size (grownCap w b.size 0 E))) (Lib.bytesWorld w E b):=by
   unfold execOp;dsimp only;rw [e1]
   show ((convert S T (.string b)).bind fun r=>Sem.pure (Next.value r)).run P w=_
   rw [Sem.run_bind',hrun];rfl
 rw [hexec]
 have hsz:=Lib.bytesWorld_size w E b
 have hcap:b.size≤grownCap w b.size 0 E:=grownCap_ge w b.size 0 E
 have hcs:(Lib.bytesCells w E b).size=grownCap w b.size 0 E:=by
   unfold Lib.bytesCells
   simp
   show b.size+_=_
   omega
 have hnew:=Lib.bytesWorld_at_new w E b
 have hbl:b.data.toList.length=b.size:=by simp
 refine ⟨ByC _ b.data.toList,(fun k=>k=w.heap.size),_,hK _,rfl,rfl,he.put (g:=true) (by rw [hn];simpa [fits] using ht) _,?_,⟨⟨w.heap.size,_,by rw [hbl],by rw [hbl];exact hcap,grownCap_le_maxLen w b.size 0 E (by unfold maxLen;omega),fun j hj=>⟨?_,?_⟩,fun _=>Iff.rfl⟩,fun j u hu => ?_⟩,fun k hk=>by subst hk;rw [hsz];omega⟩
 · exact ⟨by unfold Lib.bytesWorld World.freeze;split<;>rfl,by unfold Lib.bytesWorld World.freeze;split<;>rfl,by unfold Lib.bytesWorld World.freeze;split<;>rfl,by omega,by
     have:(Lib.bytesWorld w E b).drawn=w.drawn+1:=by unfold Lib.bytesWorld World.freeze;split<;>rfl
     omega,fun k hk=>Lib.bytesWorld_at_old w E b k hk⟩
 · unfold World.cell?
   rw [hnew]
   dsimp only
   unfold Lib.bytesCells
   rw [Array.getElem?_append]
   by_cases h:j<b.size
   · refine ⟨b.data.toList.getD j 0,?_⟩
     have hb:j<b.data.size:=h
     simp [h,hb,List.getD]
   · refine ⟨0,?_⟩
     have hb:¬ j<b.data.size:=h
     have hb2:b.data.size=b.size:=rfl
     simp [h,hb,Array.getElem?_replicate]
     omega
 · unfold World.frozen?
   rw [hnew]
   dsimp only
   rw [hcs]
   simp
   omega
 · have hj:j<b.size:=by have:=(List.getElem?_eq_some_iff.1 hu).1;rw [hbl] at this;exact this
   have:=Lib.bytesWorld_cell w E b j hj
   rw [List.getD_eq_getElem?_getD,hu] at this
   exact this
theorem za{x:Operand}{T E:TypeId}{l:List UInt8}(i:Nat)(hT:P.underlying T=some (.slice E))(hx:ev env x=some (true,v))(hi:hp[i]? = some (ByC v l)):Quiet P n ⟨d,.call ⟨.builtin .len,#[x],#[T]⟩,ty,pos,af,gd⟩ ⟨env,ps,hp⟩ (.int .i64 l.length):=fun w S fp a hst he hn=>by
 obtain ⟨⟨g,c,rfl,_⟩,_⟩:=hst.res i _ hi
 exact aX (P:=P) (n:=n) (s:=⟨env,ps,hp⟩) hT hx w S fp a hst he hn
theorem agd{x:Operand}{T E:TypeId}{l:List UInt8}(hi:ByD v l∈ps)(hT:P.underlying T=some (.slice E))(hx:ev env x=some (true,v)):Quiet P n ⟨d,.call ⟨.builtin .len,#[x],#[T]⟩,ty,pos,af,gd⟩ ⟨env,ps,hp⟩ (.int .i64 l.length):=fun w S fp a hst he hn=>by
 obtain ⟨⟨g,c,rfl,_⟩,_⟩:=hst.per _ hi
 exact aX (P:=P) (n:=n) (s:=⟨env,ps,hp⟩) hT hx w S fp a hst he hn
theorem adU{x y:Operand}{T E:TypeId}{l:List UInt8}(i k:Nat)(hel:elB P T E 1=true)(hx:ev env x=some (true,v))(hi:hp[i]? = some (ByC v l)){z:Int}(hy:ev env y=some (true,.int .i64 z))(hz:z=(k:Int))(hk:k<l.length) :
   Quiet P n ⟨d,.indexAddr T x y,ty,pos,af,gd⟩ ⟨env,ps,hp⟩ (.pointer (some ⟨jx v,k,none⟩)):=fun w S fp a hst he hn=>by
 subst hz
 obtain ⟨hT,it,hit,_,hsz,_⟩:=dF hel
 have h1:=he.val hx rfl
 have h2:=he.val hy rfl
 obtain ⟨⟨g,c,rfl,_⟩,_⟩:=hst.res i _ hi
 have:(execOp a.eval ⟨d,.indexAddr T x y,ty,pos,af,gd⟩).run P w=.ok (.value (.pointer (some ⟨g,k,none⟩))) w:=by
   unfold execOp;dsimp only;rw [h1,h2]
   show ((Instr.indexAt T (.slice (some ⟨g,0,none⟩) l.length c) (.int .i64 k)).bind fun r=>Sem.pure (Next.value r)).run P w=_
   have hE:P.elem T=E:=by unfold Program.elem;rw [hT]
   rw [Sem.run_bind',run_indexAt_slice _ _ _ _ _ _ _ (by rw [hE];exact hT),if_pos (by omega),hE,db hit,hsz]
   simp only [Result.andThen,Int.toNat_natCast]
   unfold Addr.add
   split
   · rename_i h0;simp at h0;subst h0;rfl
   · simp only [Nat.zero_add,Nat.mul_one];rfl
 rw [this];exact cg _ _
theorem agc{x y:Operand}{T E:TypeId}{l:List UInt8}(k:Nat)(hi:ByD v l∈ps)(hel:elB P T E 1=true)(hx:ev env x=some (true,v)){z:Int}(hy:ev env y=some (true,.int .i64 z))(hz:z=(k:Int))(hk:k<l.length) :
   Quiet P n ⟨d,.indexAddr T x y,ty,pos,af,gd⟩ ⟨env,ps,hp⟩ (.pointer (some ⟨jx v,k,none⟩)):=fun w S fp a hst he hn=>by
 subst hz
 obtain ⟨hT,it,hit,_,hsz,_⟩:=dF hel
 have h1:=he.val hx rfl
 have h2:=he.val hy rfl
 obtain ⟨⟨g,c,rfl,_⟩,_⟩:=hst.per _ hi
 have:(execOp a.eval ⟨d,.indexAddr T x y,ty,pos,af,gd⟩).run P w=.ok (.value (.pointer (some ⟨g,k,none⟩))) w:=by
   unfold execOp;dsimp only;rw [h1,h2]
   show ((Instr.indexAt T (.slice (some ⟨g,0,none⟩) l.length c) (.int .i64 k)).bind fun r=>Sem.pure (Next.value r)).run P w=_
   have hE:P.elem T=E:=by unfold Program.elem;rw [hT]
   rw [Sem.run_bind',run_indexAt_slice _ _ _ _ _ _ _ (by rw [hE];exact hT),if_pos (by omega),hE,db hit,hsz]
   simp only [Result.andThen,Int.toNat_natCast]
   unfold Addr.add
   split
   · rename_i h0;simp at h0;subst h0;rfl
   · simp only [Nat.zero_add,Nat.mul_one];rfl
 rw [this];exact cg _ _
theorem ae5{x:Operand}{U:TypeId}{k:Nat}{l:List UInt8}{u:UInt8}(i:Nat)(hk:tyk P U=some (false,1))(hx:ev env x=some (true,.pointer (some ⟨jx v,k,none⟩)))(hi:hp[i]? = some (ByC v l))(hu:l[k]? = some u) :
   Quiet P n ⟨d,.load U x,ty,pos,af,gd⟩ ⟨env,ps,hp⟩ (.int .u8 u.toNat):=fun w S fp a hst he hn=>by
 have h1:=he.val hx rfl
 obtain ⟨⟨g,c,rfl,hmc,hcm,hB,hF⟩,hc⟩:=hst.res i _ hi
 have hu1:w.cell? ⟨g,k,none⟩=some (.int .u8 u.toNat):=hc k u hu
 have:(execOp a.eval ⟨d,.load U x,ty,pos,af,gd⟩).run P w=.ok (.value (.int .u8 u.toNat)) w:=by
   unfold execOp;dsimp only;rw [h1]
   have hr:=lS (P:=P) (w:=w) (T:=U) hk (b:=g) (o:=0) (cs:=[.int .u8 u.toNat]) (v:=.int .u8 u.toNat) rfl (p:=k) (fun j y hj=>by
     cases j with
     | zero=>simp at hj;subst hj;exact hu1
     | succ j=>simp at hj)
   show ((loadVar U ⟨g,k,none⟩).bind fun r=>Sem.pure (Next.value r)).run P w=_
   rw [Sem.run_bind']
   rw [show k=k+0 by omega,hr];rfl
 rw [this];exact cg _ _
theorem adV{x:Operand}{U:TypeId}{k:Nat}{l:List UInt8}{u:UInt8}(hi:ByD v l∈ps)(hk:tyk P U=some (false,1))(hx:ev env x=some (true,.pointer (some ⟨jx v,k,none⟩)))(hu:l[k]? = some u) :
   Quiet P n ⟨d,.load U x,ty,pos,af,gd⟩ ⟨env,ps,hp⟩ (.int .u8 u.toNat):=fun w S fp a hst he hn=>by
 have h1:=he.val hx rfl
 obtain ⟨⟨g,c,rfl,hS,hB⟩,hc⟩:=hst.per _ hi
 have hu1:w.cell? ⟨g,k,none⟩=some (.int .u8 u.toNat):=hc k u hu
 have:(execOp a.eval ⟨d,.load U x,ty,pos,af,gd⟩).run P w=.ok (.value (.int .u8 u.toNat)) w:=by
   unfold execOp;dsimp only;rw [h1]
   have hr:=lS (P:=P) (w:=w) (T:=U) hk (b:=g) (o:=0) (cs:=[.int .u8 u.toNat]) (v:=.int .u8 u.toNat) rfl (p:=k) (fun j y hj=>by
     cases j with
     | zero=>simp at hj;subst hj;exact hu1
     | succ j=>simp at hj)
   show ((loadVar U ⟨g,k,none⟩).bind fun r=>Sem.pure (Next.value r)).run P w=_
   rw [Sem.run_bind']
   rw [show k=k+0 by omega,hr];rfl
 rw [this];exact cg _ _
theorem acY{x y:Operand}{U:TypeId}{k:Nat}{l:List UInt8}{u:UInt8}(i:Nat)(hk:tyk P U=some (false,1))(hx:ev env x=some (true,.pointer (some ⟨jx v,k,none⟩)))(hy:ev env y=some (true,.int .u8 u.toNat))(hi:hp[i]? = some (ByC v l))(hkm:k<l.length)(hK:K ⟨env,ps,hp.set i (ByC v (l.set k u))⟩) :
   Eff P n ⟨none,.store U x y,ty,pos,af,gd⟩ ⟨env,ps,hp⟩ false K:=.change i hi fun w S fp a hst he hn hR=>by
 have e1:=he.val hx rfl
 have e2:=he.val hy rfl
 obtain ⟨_,it,_,hit,_,hjk⟩:=gO hk
 obtain ⟨⟨g,c,rfl,hmc,hcm,hB,hF⟩,hc⟩:=hR
 obtain ⟨⟨u',hu⟩,hfz⟩:=hB k (by omega)
 have:(execOp a.eval ⟨none,.store U x y,ty,pos,af,gd⟩).run P w=.ok .skip (w.setCells g k [.int .u8 u.toNat]):=by
   show ((Instr.storeAt U (a.eval x) (a.eval y)).bind fun _=>Sem.pure Next.skip).run P w=_
   rw [e1,e2,Sem.run_bind']
   have:(Instr.storeAt U (.pointer (some ⟨g,k,none⟩)) (.int .u8 u.toNat)).run P w=.ok () (w.setCells g k [.int .u8 u.toNat]):=by
     show (storeVar U ⟨g,k,none⟩ (.int .u8 u.toNat)).run P w=_
     unfold storeVar
     simp only [Sem.run_bind,db hit,Result.andThen]
     rw [if_neg (by rw [hjk];exact fun h=>h rfl)]
     show (storeCells ⟨g,k,none⟩ [.int .u8 u.toNat] 0).run P w=_
     have ha:(⟨g,k,none⟩:Addr).add 0=⟨g,k,none⟩:=by unfold Addr.add;simp
     simp only [storeCells,Sem.run_bind,ha]
     rw [run_store P w _ _ _ rfl,hu]
     simp only [hfz]
     rfl
   show (Result.andThen ((Instr.storeAt U (.pointer (some ⟨g,k,none⟩)) (.int .u8 u.toNat)).run P w) _)=_
   rw [this];rfl
 rw [this]
 refine ⟨ByC _ (l.set k u),⟨env,ps,hp.set i (ByC _ (l.set k u))⟩,hK,rfl,rfl,he,⟨?_,fun j u1 hj => ?_⟩,World.os_setCells _ _ _ _,(dY _ _ _ _).2.1,⟨World.output_setCells _ _ _ _,(dY _ _ _ _).1⟩,Nat.le_of_eq (dY _ _ _ _).2.2.symm,fun b hb hne=>World.heap_setCells_other _ _ _ _ hb (fun h=>hne ((hF b).2 h))⟩
 · rw [List.length_set];exact ByV.setCell rfl hmc hcm hB hF (by omega) l.length hmc
 · have hs:=xx (u:=u) hB (show k<c by omega)
   by_cases hjk:j=k
   · subst hjk
     rw [List.getElem?_set_self hkm] at hj
     simp only [Option.some.injEq] at hj
     subst hj;exact hs.1
   · rw [List.getElem?_set_ne (Ne.symm hjk)] at hj
     exact (hs.2 j hjk).trans (hc j u1 hj)
theorem tm{t:Nat}{x y:Operand}{T tx E:TypeId}{l:List UInt8}{vy:Value}{u:UInt8}(i j:Nat)(hel:elB P T E 1=true)(hel2:elB P tx E 1=true)(hby:(P.info? E).map (fun i=>(i.zero.map fun z=>z.cells.toList))=some (some [.int .u8 0]))
   (hx:ev env x=some (true,v)) (hy:ev env y=some (true,vy)) (ht:fits n.size (some t)=true) (hi:hp[i]? = some (ByC v l)) (hj:hp[j]? = some (aN vy E 1 [[.v (.int .u8 u.toNat)]])) (hm0:l.length≤100000000)
   (hK:∀ v',K ⟨(t,true,v')::env,ps,hp.set i (ByC v' (l++[u]))⟩) :
   Eff P n ⟨some t,.call ⟨.builtin .append,#[x,y],#[T,tx]⟩,ty,pos,af,gd⟩ ⟨env,ps,hp⟩ false K:=fun w S fp a hst he hn=>by
 obtain ⟨m,hm1⟩:∃ m,m=l.length:=⟨_,rfl⟩
 have hm:m≤100000000:=by omega
 have e1:=he.val hx rfl
 have e2:=he.val hy rfl
 have hil:=(List.getElem?_eq_some_iff.1 hi).1
 obtain ⟨hT,it,hin,hzz,hsz,hb4⟩:=dF hel
 obtain ⟨news,hnews,hsrc⟩:=(dW (P:=P) (env:=env) (ps:=ps) (hp:=hp) j hel2 hj (by simp)).src w S fp hst
 have hnl:=hnews.len
 have hn1:news=[.int .u8 u.toNat]:=by
   obtain ⟨y0,hy0,hr⟩:=hnews.rep 0 0 _ (.v (.int .u8 u.toNat)) rfl rfl
   rw [jt hr] at hy0
   match news,hnl,hy0 with
   | [a],_,h=>simp at h;rw [h]
 subst hn1
 obtain ⟨⟨g,c,rfl,hmc,hcm,hB,hF⟩,hc⟩:=hst.res i _ hi
 rw [← hm1] at hmc
 rw [← hm1] at e1
 have hll:(l++[u]).length=m+1:=by simp [hm1]
 have hexec:execOp a.eval ⟨some t,.call ⟨.builtin .append,#[x,y],#[T,tx]⟩,ty,pos,af,gd⟩=(Builtin.append_ #[T,tx] ty (#[x,y].map a.eval)).bind fun r=>Sem.pure (Next.value r):=rfl
 have hargs : #[x,y].map a.eval = #[.slice (some ⟨g,0,none⟩) m c,vy]:=by simp [e1,e2]
 rw [hexec,hargs,Sem.run_bind']
 have fin:∀ (w1:World) (v':Value) (F:bH),(Builtin.append_ #[T,tx] ty #[.slice (some ⟨g,0,none⟩) m c,vy]).run P w=.ok v' w1→(ByC v' (l++[u])).holds w1 S F→(∀ b,F b→(fp i b∨w.heap.size≤b)∧b<w1.heap.size)→w.heap.size≤w1.heap.size →
     (∀ b',b'<w.heap.size→¬ fp i b'→w1.heap[b']? = w.heap[b']?)→w1.os=w.os→w1.tape=w.tape→w1.output=w.output →
     gC P (fun u w'=>∃ s' S' fp',K s'∧St w' S' fp' s'.ps s'.hp∧dD (a.put (some t) u) s'.env∧Evo w S (tot fp hp.length) w' S'∧(∀ b,tot fp' s'.hp.length b→tot fp hp.length b∨w.heap.size≤b)∧(false=true→Below w.heap.size w w'))
       (((Builtin.append_ #[T,tx] ty #[.slice (some ⟨g,0,none⟩) m c,vy]).run P w).andThen fun r w'=>(Sem.pure (Next.value r)).run P w'):=by
   intro w1 v' F hrun hR hFb hsz1 hw1 o1 o2 o3
   rw [hrun]
   have hst':=hst.change2 hil hsz1 hw1 _ F hR hFb
   refine ⟨_,S,_,hK v',hst',he.put (g:=true) (by rw [hn];simpa [fits] using ht) _,⟨o1,o2,o3,hsz1,oO _ _ _ _ hrun,fun b' hb' hx'=>hw1 b' hb' (fun hf=>hx' ⟨i,hil,hf⟩),fun _ h=>h,fun _ h=>.inl h⟩,fun b' ⟨k,hk,hbk⟩ => ?_,fun h=>by cases h⟩
   have hk':k<hp.length:=by simpa using hk
   dsimp only at hbk
   by_cases hki:k=i
   · rw [if_pos hki] at hbk
     exact ((hFb b' hbk).1).imp (fun h=>⟨i,hil,h⟩) id
   · rw [if_neg hki] at hbk;exact .inl ⟨k,hk',hbk⟩
 by_cases hroom:m+1≤c
 · obtain ⟨⟨u',hu⟩,hfz⟩:=hB m (by omega)
   have hstc:(storeCells ⟨g,m,none⟩ [.int .u8 u.toNat] 0).run P w=.ok () (w.setCells g m [.int .u8 u.toNat]):=by
     have ha:(⟨g,m,none⟩:Addr).add 0=⟨g,m,none⟩:=by unfold Addr.add;simp
     simp only [storeCells,Sem.run_bind,ha]
     rw [run_store P w _ _ _ rfl,hu]
     simp only [hfz]
     rfl
   have hrun:(Builtin.append_ #[T,tx] ty #[.slice (some ⟨g,0,none⟩) m c,vy]).run P w=.ok (.slice (some ⟨g,0,none⟩) (m+1) c) (w.setCells g m [.int .u8 u.toNat]):=by
     have hs1:it.size=1:=hsz
     have hl:=hsrc.len
     have hcl:=hsrc.cells
     simp only [List.length_cons,List.length_nil,Nat.zero_add] at hl hcl
     rcases hsrc.kind with ⟨e',hk⟩ | hk<;>simp [Builtin.append_,run_underlying hT,run_underlying hk,sizeOf,typeInfo,hin,hs1,hl,hroom,hcl,Addr.add_lit,hstc]
   exact fin _ _ (fun k=>k=g) hrun ⟨by rw [hll];exact ByV.setCell rfl hmc hcm hB (fun _=>Iff.rfl) (by omega) (m+1) hroom,fun j u1 hj=>by
     have hs:=xx (u:=u) hB (show m<c by omega)
     by_cases hjm:j<m
     · rw [List.getElem?_append_left (by omega)] at hj
       exact (hs.2 j (by omega)).trans (hc j u1 hj)
     · have hjl:=(List.getElem?_eq_some_iff.1 hj).1
       have hje:j=m:=by omega
       subst hje
       rw [List.getElem?_append_right (by omega),hm1,Nat.sub_self] at hj
       simp only [List.getElem?_cons_zero,Option.some.injEq] at hj
       subst hj;exact hs.1⟩ (fun b hb=>by subst hb;exact ⟨.inl ((hF b).2 rfl),by rw [(dY _ _ _ _).2.2];exact (hst.lt i hil b ((hF b).2 rfl)).1⟩) (Nat.le_of_eq (dY _ _ _ _).2.2.symm)
     (fun b hb hne=>World.heap_setCells_other _ _ _ _ hb (fun h=>hne ((hF b).2 h))) (World.os_setCells _ _ _ _) (dY _ _ _ _).2.1 (World.output_setCells _ _ _ _)
 · obtain ⟨f,hfe⟩:∃ f:Nat→UInt8,f=fun j=>l.getD j 0:=⟨_,rfl⟩
   have hf:∀ j,j<m→w.cell? ⟨g,j,none⟩=some (.int .u8 (f j).toNat):=fun j hj=>by
     refine hc j (f j) ?_
     rw [hfe,List.getElem?_eq_getElem (by omega)]
     simp [List.getD,List.getElem?_eq_getElem (show j<l.length by omega)]
   obtain ⟨z,hz,hzc⟩:∃ z,it.zero=some z∧z.cells.toList=[.int .u8 0]:=by
     rw [hin] at hby
     cases hz:it.zero with
     | none=>rw [Option.map_some,hz] at hby;simp at hby
     | some z=>rw [Option.map_some,hz] at hby;exact ⟨z,rfl,by simpa using hby⟩
   have hzs:z.cells.size=it.size:=by rw [hsz];have:=congrArg List.length hzc;simpa using this
   have hfc:(Builtin.firstCells it.size m (.slice (some ⟨g,0,none⟩) m c)).run P w.drew=.ok ((List.range m).map fun j=>Value.int .u8 (f j).toNat).toArray w.drew:=by
     refine run_firstCells_some (P:=P) w.drew it.size m ⟨g,0,none⟩ m c _ (by simp [hsz]) (fun j y hj => ?_)
     have hjl:=(List.getElem?_eq_some_iff.1 hj).1
     rw [List.length_map,List.length_range] at hjl
     rw [List.getElem?_map,List.getElem?_range hjl] at hj
     simp only [Option.map_some,Option.some.injEq] at hj
     subst hj
     have:(⟨g,0,none⟩:Addr).add j=⟨g,j,none⟩:=by
       unfold Addr.add
       by_cases h:j=0
       · subst h;simp
       · simp [h]
     rw [this]
     exact hf j (by omega)
   have hbytes:Builtin.nextslicecap (m+1) c*it.bytes≤281474976710656:=by
     have h1:=Go.Lp.nextslicecap_le (m+1) c
     have h2:Builtin.nextslicecap (m+1) c*it.bytes≤5000000000*4096:=Nat.mul_le_mul (by omega) hb4
     omega
   rw [← hsz] at hsrc
   have hr:=run_append_grow_src (P:=P) (w:=w) T tx ty E it z hT hin hz (some ⟨g,0,none⟩) m c _ hfc vy 1 _ hsrc (by omega) (by omega) hbytes
   have hC:=grownCap_ge w (m+1) c E
   refine fin _ _ (fun k=>k=w.heap.size) hr ⟨⟨w.heap.size,_,by rw [hll],by rw [hll];exact hC,grownCap_le_maxLen w (m+1) c E (by unfold maxLen;omega),fun j hj => ?_,fun _=>Iff.rfl⟩,fun j u1 hj => ?_⟩ (fun b hb=>by subst hb;exact ⟨.inr (Nat.le_refl _),by simp⟩) (by simp) (fun b' hb' _=>((Below.refl _ w).drew.alloc (Nat.le_refl _) _).block b' hb') rfl rfl rfl
   · have hz1:z.cells = #[.int .u8 0]:=Array.ext' hzc
     have hnew:=heap_alloc_new w.drew (.cells ((((List.range m).map fun j=>Value.int .u8 (f j).toNat)++[Value.int .u8 u.toNat]).toArray++Builtin.zeroCells z.cells (grownCap w (m+1) c E-(m+1))) E)
     have hnew2:(w.drew.alloc (.cells ((((List.range m).map fun j=>Value.int .u8 (f j).toNat)++[Value.int .u8 u.toNat]).toArray++Builtin.zeroCells z.cells (grownCap w (m+1) c E-(m+1))) E)).heap[w.heap.size]? = _:=hnew
     refine ⟨?_,by unfold World.frozen?;dsimp only;rw [hnew2];simp⟩
     unfold World.cell?
     dsimp only
     rw [hnew2]
     dsimp only
     rw [hz1]
     by_cases hjm:j<m
     · exact ⟨f j,by simp [Array.getElem?_append,List.getElem?_append,hjm,Nat.lt_succ_of_lt hjm]⟩
     · by_cases hje:j=m
       · subst hje;exact ⟨u,by simp [Array.getElem?_append,List.getElem?_append]⟩
       · refine ⟨0,?_⟩
         have h1:¬ j<m+1:=by omega
         simp [Array.getElem?_append,h1,Builtin.zeroCells]
         exact ⟨j-(m+1),by rw [Array.getElem?_range,if_pos (by omega)],by rw [Nat.mod_one];rfl⟩
   · have hz1:z.cells = #[.int .u8 0]:=Array.ext' hzc
     have hnew:=heap_alloc_new w.drew (.cells ((((List.range m).map fun j=>Value.int .u8 (f j).toNat)++[Value.int .u8 u.toNat]).toArray++Builtin.zeroCells z.cells (grownCap w (m+1) c E-(m+1))) E)
     have hnew2:(w.drew.alloc (.cells ((((List.range m).map fun j=>Value.int .u8 (f j).toNat)++[Value.int .u8 u.toNat]).toArray++Builtin.zeroCells z.cells (grownCap w (m+1) c E-(m+1))) E)).heap[w.heap.size]? = _:=hnew
     have hjl:=(List.getElem?_eq_some_iff.1 hj).1
     rw [hll] at hjl
     show World.cell? _ ⟨w.heap.size,j,none⟩=_
     unfold World.cell?
     dsimp only
     rw [hnew2]
     dsimp only
     by_cases hjm:j<m
     · rw [List.getElem?_append_left (by omega)] at hj
       have:f j=u1:=by rw [hfe];simp [List.getD,hj]
       simp [Array.getElem?_append,List.getElem?_append,hjm,Nat.lt_succ_of_lt hjm,this]
     · have hje:j=m:=by omega
       subst hje
       rw [List.getElem?_append_right (by omega),hm1,Nat.sub_self] at hj
       simp only [List.getElem?_cons_zero,Option.some.injEq] at hj
       subst hj
       simp [Array.getElem?_append,List.getElem?_append]
end
end Go.Sy

namespace Go.Proofs.YtebnelfdimiifaaGreatDoor
open Go.RowKit Go.Lp Go.Sy
theorem fold_succ{α:Type}(f:α→Nat→α)(a:α)(n:Nat):(List.range (n+1)).foldl f a=f ((List.range n).foldl f a) n:=by rw [List.range_succ,List.foldl_append,List.foldl_cons,List.foldl_nil]
def xU(a b:Int):Int:=bits .xor .u64 a b
def af4(z:Int):Int:=bits .xor .u64 18446744073709551615 z
def uW(x k:Int):Int:=bits .or .u64 (IntKind.u64.wrap (x*2 ^ min (bits .and .u64 (IntKind.u64.wrap k) 63).toNat IntKind.u64.bits)) (x.fdiv (2 ^ min (IntKind.u64.wrap (64-bits .and .u64 (IntKind.u64.wrap k) 63)).toNat IntKind.u64.bits))
def pF(zs:List Int)(n:Nat):List Int:=(List.range n).foldl (fun q j=>q.set (j % 5) (xU (q.getD (j % 5) 0) (zs.getD j 0))) [0,0,0,0,0]
def yV(zs qs:List Int)(j:Nat):Int:=uW (xU (zs.getD j 0) (xU (qs.getD ((j % 5+4) % 5) 0) (uW (qs.getD ((j % 5+1) % 5) 0) 1))) (fX.getD j 0)
def yF(zs qs:List Int)(n:Nat):List Int:=(List.range n).foldl (fun ys j=>ys.set (j / 5+5*((2*(j % 5)+3*(j / 5)) % 5)) (yV zs qs j)) (List.replicate 25 0)
def wV(ys:List Int)(j:Nat):Int:=xU (ys.getD j 0) (bits .and .u64 (af4 (ys.getD (j-j % 5+(j % 5+1) % 5) 0)) (ys.getD (j-j % 5+(j % 5+2) % 5) 0))
def wF(zs ys:List Int)(n:Nat):List Int:=(List.range n).foldl (fun ws j=>ws.set j (wV ys j)) zs
def rN(zs:List Int)(c:Int):List Int:=(wF zs (yF zs (pF zs 25) 25) 25).set 0 (xU ((wF zs (yF zs (pF zs 25) 25) 25).getD 0 0) c)
def l6(zs:List Int)(n:Nat):List Int:=(List.range n).foldl (fun zs i=>rN zs (eu.getD i 0)) zs
theorem ae2(zs:List Int)(n:Nat):pF zs (n+1)=(pF zs n).set (n % 5) (xU ((pF zs n).getD (n % 5) 0) (zs.getD n 0)):=by unfold pF;rw [fold_succ]
theorem afq(zs qs:List Int)(n:Nat):yF zs qs (n+1)=(yF zs qs n).set (n / 5+5*((2*(n % 5)+3*(n / 5)) % 5)) (yV zs qs n):=by unfold yF;rw [fold_succ]
theorem afl(zs ys:List Int)(n:Nat):wF zs ys (n+1)=(wF zs ys n).set n (wV ys n):=by unfold wF;rw [fold_succ]
theorem rH(zs:List Int)(n:Nat):l6 zs (n+1)=rN (l6 zs n) (eu.getD n 0):=by unfold l6;rw [fold_succ]
def byV(s:List UInt8)(i:Nat):Int:=IntKind.u64.wrap (((s.getD i 0).toNat:Int)*2 ^ min (8*(i % 8)) 64)
def abF(zs:List Int)(s:List UInt8)(n:Nat):List Int:=(List.range n).foldl (fun zs i=>zs.set (i / 8) (xU (zs.getD (i / 8) 0) (byV s i))) zs
theorem vm(zs:List Int)(s:List UInt8)(n:Nat):abF zs s (n+1)=(abF zs s n).set (n / 8) (xU ((abF zs s n).getD (n / 8) 0) (byV s n)):=by unfold abF;rw [fold_succ]
def gQ(zs:List Int)(s:List UInt8):List Int:=l6 (abF zs s s.length) 24
def iP(s:List UInt8)(n:Nat):List Int:=(List.range n).foldl (fun zs k=>gQ zs ((s.drop (136*k)).take 136)) (List.replicate 25 0)
theorem kI(s:List UInt8)(n:Nat):iP s (n+1)=gQ (iP s n) ((s.drop (136*n)).take 136):=by unfold iP;rw [fold_succ]
def wP(r:List UInt8):List UInt8:=((r++List.replicate (136-r.length) 0).set r.length 6).set 135 (((r++List.replicate (136-r.length) 0).set r.length 6).getD 135 0 ||| 128)
def gW(z:Int):UInt8:=UInt8.ofNat (z % 256).toNat
def kv(zs:List Int)(n:Nat):List UInt8:=(List.range n).map fun k=>gW (zs.getD (k / 8) 0 / 256 ^ (k % 8))
theorem tB(zs:List Int)(n:Nat):kv zs (n+1)=kv zs n++[gW (zs.getD (n / 8) 0 / 256 ^ (n % 8))]:=by unfold kv;rw [List.range_succ,List.map_append];rfl
theorem jN(zs:List Int)(n:Nat):(kv zs n).length=n:=by unfold kv;rw [List.length_map,List.length_range]
theorem mg(z:Int):IntKind.u8.wrap z=(gW z).toNat:=by
 have h1:IntKind.u8.wrap z=z % 256:=rfl
 unfold gW
 rw [h1,UInt8.toNat_ofNat']
 omega
theorem agX(u:UInt8):IntKind.u8.wrap (BitVec.ofInt 8 (u.toNat:Int) ||| BitVec.ofInt 8 128).toNat=((u ||| 128:UInt8).toNat:Int):=by
 have h:∀ n:Fin 256,IntKind.u8.wrap (BitVec.ofInt 8 ((n.val:Nat):Int) ||| BitVec.ofInt 8 128).toNat=((UInt8.ofNat n.val ||| 128:UInt8).toNat:Int):=by decide +kernel
 have:=h ⟨u.toNat,u.toNat_lt⟩
 simpa using this
theorem ab7(z:Int)(j:Nat)(hj:j<8):z.fdiv (2 ^ min (8*j) 64)=z / 256 ^ j:=by
 rw [Nat.min_eq_left (by omega),Int.fdiv_eq_ediv_of_nonneg _ (by exact Int.pow_nonneg (by decide)),Int.pow_mul]
 rfl
def xB(s:List UInt8):List UInt8:=kv (gQ (iP s (s.length / 136)) (wP (s.drop (136*(s.length / 136))))) 32
def l5(x n:Int):Int:=if n=0 then x else bits .or .u64 (IntKind.u64.wrap (x*2 ^ min n.toNat IntKind.u64.bits)) (x.fdiv (2 ^ min (IntKind.u64.wrap (64-n)).toNat IntKind.u64.bits))
def pKr(zs:List Int)(x:Nat):Int:=xU (xU (xU (xU (zs.getD x 0) (zs.getD (x+5) 0)) (zs.getD (x+10) 0)) (zs.getD (x+15) 0)) (zs.getD (x+20) 0)
def pR(zs:List Int)(n:Nat):List Int:=(List.range n).map (pKr zs)
theorem ae3(zs:List Int)(n:Nat):pR zs (n+1)=pR zs n++[pKr zs n]:=by unfold pR;rw [List.range_succ,List.map_append];rfl
theorem af8(zs:List Int)(n:Nat):(pR zs n).length=n:=by unfold pR;rw [List.length_map,List.length_range]
def bVr(zs qs:List Int)(k j:Nat):Int:=l5 (xU (xU (zs.getD (k+5*j) 0) (qs.getD ((k+4) % 5) 0)) (l5 (qs.getD ((k+1) % 5) 0) 1)) (fX.getD (k+5*j) 0)
def bKr(zs qs:List Int)(n:Nat):List Int:=(List.range n).foldl (fun ys m=>ys.set (m % 5+5*((2*(m / 5)+3*(m % 5)) % 5)) (bVr zs qs (m / 5) (m % 5))) (List.replicate 25 0)
theorem acv(zs qs:List Int)(k j:Nat)(hj:j<5):bKr zs qs (5*k+(j+1))=(bKr zs qs (5*k+j)).set (j+5*((2*k+3*j) % 5)) (bVr zs qs k j):=by
 rw [show 5*k+(j+1)=5*k+j+1 by omega]
 unfold bKr
 rw [fold_succ,show (5*k+j) % 5=j by omega,show (5*k+j) / 5=k by omega]
def oV(bs:List Int)(k j:Nat):Int:=xU (bs.getD (j+5*k) 0) (bits .and .u64 (IntKind.u64.wrap (18446744073709551615-bs.getD ((j+1) % 5+5*k) 0)) (bs.getD ((j+2) % 5+5*k) 0))
def oR(bs:List Int)(n:Nat):List Int:=(List.range n).map fun m=>oV bs (m / 5) (m % 5)
theorem yQ(zs:List Int)(n:Nat):(oR zs n).length=n:=by unfold oR;rw [List.length_map,List.length_range]
theorem aeT(bs:List Int)(k j:Nat)(hj:j<5):oR bs (5*k+(j+1))=oR bs (5*k+j)++[oV bs k j]:=by
 rw [show 5*k+(j+1)=5*k+j+1 by omega]
 unfold oR
 rw [List.range_succ,List.map_append,List.map_singleton,show (5*k+j) % 5=j by omega,show (5*k+j) / 5=k by omega]
def ir(zs:List Int)(c:Int):List Int:=(oR (bKr zs (pR zs 5) 25) 25).set 0 (xU ((oR (bKr zs (pR zs 5) 25) 25).getD 0 0) c)
def ku(zs:List Int)(n:Nat):List Int:=(List.range n).foldl (fun zs i=>ir zs (eu.getD i 0)) zs
theorem mw(zs:List Int)(n:Nat):ku zs (n+1)=ir (ku zs n) (eu.getD n 0):=by unfold ku;rw [fold_succ]
def pj(l:List UInt8)(a k:Nat):Int:=(List.range k).foldl (fun n i=>bits .or .u64 (IntKind.u64.wrap (n*2 ^ min 8 64)) ((l.getD (a+7-i) 0).toNat:Int)) 0
theorem rv(l:List UInt8)(a k:Nat):pj l a (k+1)=bits .or .u64 (IntKind.u64.wrap (pj l a k*2 ^ min 8 64)) ((l.getD (a+7-k) 0).toNat:Int):=by unfold pj;rw [fold_succ]
def adR(l:List UInt8)(p:Nat)(zs:List Int)(n:Nat):List Int:=(List.range n).foldl (fun zs i=>zs.set i (xU (zs.getD i 0) (pj l (136*p+8*i) 8))) zs
theorem p9(l:List UInt8)(p:Nat)(zs:List Int)(n:Nat):adR l p zs (n+1)=(adR l p zs n).set n (xU ((adR l p zs n).getD n 0) (pj l (136*p+8*n) 8)):=by unfold adR;rw [fold_succ]
def se(l:List UInt8)(n:Nat):List Int:=(List.range n).foldl (fun zs p=>ku (adR l p zs 17) 24) (List.replicate 25 0)
theorem lq(l:List UInt8)(n:Nat):se l (n+1)=ku (adR l n (se l n) 17) 24:=by unfold se;rw [fold_succ]
def jO(s:List UInt8)(q:Nat):List UInt8:=s++6::List.replicate (q-s.length-1) 0
theorem wX(s:List UInt8)(q:Nat)(h:s.length<q):(jO s q).length=q:=by unfold jO;simp;omega
theorem abP(s:List UInt8)(q:Nat)(h:s.length<q):jO s (q+1)=jO s q++[0]:=by
 unfold jO
 rw [show q+1-s.length-1=q-s.length-1+1 by omega,List.replicate_succ']
 simp
def pC(s:List UInt8)(q:Nat):List UInt8:=(jO s q).set (q-1) (gW (((jO s q).getD (q-1) 0).toNat+128))
theorem vC(s:List UInt8)(q:Nat)(h:s.length<q):(pC s q).length=q:=by unfold pC;rw [List.length_set];exact wX s q h
def ULr(zs:List Int):Prop:=∀ z∈zs,0≤z∧z<18446744073709551616
theorem zI(op:BinOp)(a b:Int):0≤bits op .u64 a b∧bits op .u64 a b<18446744073709551616:=⟨bits_lo_u64 op a b,by have:=bits_hi_u64 op a b;omega⟩
theorem xK(a b:Int):0≤xU a b∧xU a b<18446744073709551616:=zI .xor a b
theorem aaq(a b:Int):0≤uW a b∧uW a b<18446744073709551616:=by unfold uW;exact zI _ _ _
theorem agW(bs:List Int)(k j:Nat):0≤oV bs k j∧oV bs k j<18446744073709551616:=by unfold oV;exact xK _ _
theorem af7(bs:List Int)(k:Nat):0≤pKr bs k∧pKr bs k<18446744073709551616:=by unfold pKr;exact xK _ _
theorem ULr.get{zs:List Int}(h:ULr zs)(i:Nat):0≤zs.getD i 0∧zs.getD i 0<18446744073709551616:=by
 rw [List.getD_eq_getElem?_getD]
 cases hi:zs[i]? with
 | none=>exact ⟨by decide,by decide⟩
 | some z=>exact h z (List.mem_of_getElem? hi)
theorem ULr.set{zs:List Int}(h:ULr zs)(i:Nat){v:Int}(hv:0≤v∧v<18446744073709551616):ULr (zs.set i v):=fun z hz=>by
 rcases List.mem_or_eq_of_mem_set hz with h1 | rfl
 · exact h z h1
 · exact hv
theorem ULr.zero(n:Nat):ULr (List.replicate n 0):=fun z hz=>by rw [List.eq_of_mem_replicate hz];exact ⟨by decide,by decide⟩
theorem abW(zs:List Int)(c:Int):ULr (ir zs c)∧(ir zs c).length=25:=by
 unfold ir
 refine ⟨ULr.set (fun z hz => ?_) 0 (xK _ _),by rw [List.length_set,yQ]⟩
 unfold oR at hz
 obtain ⟨m,_,rfl⟩:=List.mem_map.1 hz
 exact agW _ _ _
theorem nv{zs:List Int}(h:ULr zs∧zs.length=25):∀ n,ULr (ku zs n)∧(ku zs n).length=25
 | 0=>h
 | n+1=>by rw [mw];exact abW _ _
theorem kC{l:List UInt8}{p:Nat}{zs:List Int}(h:ULr zs∧zs.length=25):∀ n,ULr (adR l p zs n)∧(adR l p zs n).length=25
 | 0=>h
 | n+1=>by rw [p9];exact ⟨(kC h n).1.set _ (xK _ _),by rw [List.length_set];exact (kC h n).2⟩
theorem pY(l:List UInt8):∀ n,ULr (se l n)∧(se l n).length=25
 | 0=>⟨ULr.zero 25,List.length_replicate⟩
 | n+1=>by rw [lq];exact nv (kC (pY l n) 17) 24
def rn(n:Nat):Nat:=(n+136) / 136*136
def agt(s:List UInt8):List UInt8:=kv (se (pC s (rn s.length)) ((s.length+136) / 136)) 32
open Go.Proofs.Tryz
attribute [local irreducible] aL aB awp aC fwp Quiet
abbrev gB:Int→List D:=fun z=>[.v (.int .u64 z)]
theorem l0{l:List Int}{k:Nat}(h:k<l.length):l[k]? = some (l.getD k 0):=by rw [List.getD_eq_getElem?_getD,List.getElem?_eq_getElem h];rfl
theorem afC{l:List UInt8}{k:Nat}(h:k<l.length):l[k]? = some (l.getD k 0):=by rw [List.getD_eq_getElem?_getD,List.getElem?_eq_getElem h];rfl
abbrev vL:Int→Value:=fun z=>.int .u64 z
theorem qY(x n:Int)(hn:0≤n∧n≤64):Con Tryz.prog 146 [.int .u64 x,.int .u64 n] [] [] (YN vL fun z=>z=l5 x n):=by
 refine EN2 Tryz.func146 rfl (aSR (aA rfl (aNs (aSR (aM rfl (aU rfl (cA rfl rfl) (aNn ?_)))))))
 refine ao _ rfl (fun h1 => ?_) (fun h1 => ?_)
 ·skip
  refine aSR (aM rfl (aA rfl (aNn (az (bw (FZ1 [] Tryz.results146 rfl ?_))))))
  first | exact ⟨⟨rfl,rfl⟩,_,rfl,by unfold l5;rw [if_pos (by simpa using h1)]⟩ | exact ⟨⟨rfl,rfl⟩,_,rfl,by unfold l5;rw [if_neg (by simpa using h1)];rfl⟩
 ·skip
  refine ax (an (aSR (aM rfl (aM rfl ?_))))
  refine aU rfl (tH rfl rfl (by exact hn.1)) ?_
  refine aM rfl (aM rfl (aU rfl (xl rfl rfl) ?_))
  refine aU rfl (xk rfl rfl (by rw [IntKind.wrap_u64];omega)) ?_
  refine aU rfl (tG rfl rfl) (aA rfl (aNn (az (FZ1 [] Tryz.results146 rfl ?_))))
  first | exact ⟨⟨rfl,rfl⟩,_,rfl,by unfold l5;rw [if_pos (by simpa using h1)]⟩ | exact ⟨⟨rfl,rfl⟩,_,rfl,by unfold l5;rw [if_neg (by simpa using h1)];rfl⟩
theorem yq(k:Nat)(hk:k<25):Con Tryz.prog 147 [.int .i64 k] [] [] (YN vL fun z=>z=fX.getD k 0):=by
 have hr:(fX.map gB)[k]? = some (gB (fX.getD k 0)):=aI (l0 hk)
 refine EN1 Tryz.func147 rfl (aSR (aA rfl (aNn (aSR (LT rfl (WL (zs:=[.int .u64 0]) el139 rfl rfl rfl (.more rfl (.v rfl .nil) (.more rfl (.v rfl .nil) (.more rfl (.v rfl .nil) (.more rfl (.v rfl .nil) (.more rfl (.v rfl .nil) (.more rfl (.v rfl .nil) (.more rfl (.v rfl .nil) (.more rfl (.v rfl .nil) (.more rfl (.v rfl .nil) (.more rfl (.v rfl .nil) (.more rfl (.v rfl .nil) (.more rfl (.v rfl .nil) (.more rfl (.v rfl .nil) (.more rfl (.v rfl .nil) (.more rfl (.v rfl .nil) (.more rfl (.v rfl .nil) (.more rfl (.v rfl .nil) (.more rfl (.v rfl .nil) (.more rfl (.v rfl .nil) (.more rfl (.v rfl .nil) (.more rfl (.v rfl .nil) (.more rfl (.v rfl .nil) (.more rfl (.v rfl .nil) (.more rfl (.v rfl .nil) (.more rfl (.v rfl .nil) .nil))))))))))))))))))))))))) rfl rfl (fun v1_0=>(aHN ?_))))))))
 refine aA rfl (aNn (aSR (aM rfl (aM rfl (aU rfl (bZ 0 k el139 rfl rfl rfl rfl hk) (aU rfl (bE 0 k 0 tk135 rfl rfl hr rfl rfl) (aA rfl (aNn (az (FZ1 [] Tryz.results147 rfl ?_))))))))))
 exact ⟨⟨rfl,rfl⟩,_,rfl,rfl⟩
theorem wo(k:Nat)(hk:k<24):Con Tryz.prog 71 [.int .i64 k] [] [] (YN vL fun z=>z=eu.getD k 0):=by
 have hr:(eu.map gB)[k]? = some (gB (eu.getD k 0)):=aI (l0 hk)
 refine EN1 Tryz.func71 rfl (aSR (aA rfl (aNn (aSR (LT rfl (WL (zs:=[.int .u64 0]) el139 rfl rfl rfl (.more rfl (.v rfl .nil) (.more rfl (.v rfl .nil) (.more rfl (.v rfl .nil) (.more rfl (.v rfl .nil) (.more rfl (.v rfl .nil) (.more rfl (.v rfl .nil) (.more rfl (.v rfl .nil) (.more rfl (.v rfl .nil) (.more rfl (.v rfl .nil) (.more rfl (.v rfl .nil) (.more rfl (.v rfl .nil) (.more rfl (.v rfl .nil) (.more rfl (.v rfl .nil) (.more rfl (.v rfl .nil) (.more rfl (.v rfl .nil) (.more rfl (.v rfl .nil) (.more rfl (.v rfl .nil) (.more rfl (.v rfl .nil) (.more rfl (.v rfl .nil) (.more rfl (.v rfl .nil) (.more rfl (.v rfl .nil) (.more rfl (.v rfl .nil) (.more rfl (.v rfl .nil) (.more rfl (.v rfl .nil) .nil)))))))))))))))))))))))) rfl rfl (fun v1_0=>(aHN ?_))))))))
 refine aA rfl (aNn (aSR (aM rfl (aM rfl (aU rfl (bZ 0 k el139 rfl rfl rfl rfl hk) (aU rfl (bE 0 k 0 tk135 rfl rfl hr rfl rfl) (aA rfl (aNn (az (FZ1 [] Tryz.results71 rfl ?_))))))))))
 exact ⟨⟨rfl,rfl⟩,_,rfl,rfl⟩
theorem yp(v:Value)(l:List UInt8)(a:Nat)(ha:a+8≤l.length)(hm:l.length≤1000000000):Con Tryz.prog 69 [v,.int .i64 a] [ByD v l] [] (YN vL fun z=>z=pj l a 8):=by
 refine EN2 Tryz.func69 rfl (aSR (aA rfl (aNn (aSR (aA rfl (aNs (aSR (aA rfl (aNn (aq (aP [0,1,5,6] [0] [] (fun (q:Nat) st=>q≤8∧∃ z,z=pj l a (8-q)∧st=⟨[(0,true,v),(1,true,.int .i64 a),(5,true,.int .u64 z),(6,true,.int .i64 ((q:Int)-1))],[ByD v l],[]⟩) (fun q=>q) rfl (⟨8,Nat.le_refl _,0,rfl,rfl⟩) ?_)))))))))))
 rintro k st ⟨hk,z,hz,rfl⟩
 refine ai (aSR (aM rfl (aU rfl (fH rfl rfl) (aNn ?_))))
 refine ao _ rfl (fun h1 => ?_) (fun h1 => ?_)
 ·skip
  obtain ⟨j,rfl⟩:∃ j,k=j+1:=⟨k-1,by simp at h1;omega⟩
  have hu:=afC (l:=l) (k:=a+j) (by omega)
  obtain ⟨u,hue⟩:∃ u,l.getD (a+j) 0=u:=⟨_,rfl⟩
  rw [hue] at hu
  have ew:IntKind.u64.wrap (u.toNat:Int)=u.toNat:=by rw [IntKind.wrap_u64];have:=u.toNat_lt;omega
  refine ax (an (ai (aq (aa (aM rfl (aU rfl (tH rfl rfl (by decide)) (aM rfl (aM rfl (aM rfl (aU rfl (aV rfl rfl (by omega)) (aU rfl (agc (a+j) (aH 0 rfl) el60 rfl rfl (by omega) (by omega)) (aU rfl (adV (aH 0 rfl) tk5 rfl hu) (aU rfl (cW (by kernel_rfl) Tryz.underlying135 rfl) ?_)))))))))))))
  refine aU rfl (tG rfl rfl) (aA rfl (bP (bu (an (aa (aM rfl (aU rfl (cZ rfl rfl (by omega)) (aA rfl (aNn ?_)))))))))
  refine ⟨[0,1,5,6],[0],[],rfl,?_⟩
  refine ⟨j,⟨by omega,?_⟩,by omega⟩
  have e:((j+1:Nat):Int)-1-1=(j:Int)-1:=by omega
  rw [e]
  refine ⟨_,?_,rfl⟩
  rw [show 8-j=8-(j+1)+1 by omega,rv,← hz,show a+7-(8-(j+1))=a+j by omega,hue,ew]
  rfl
 ·skip
  refine aR (aS (aS (aY (an (aSR (aM rfl (aA rfl (aNn (az (FZ1 [] Tryz.results69 rfl ?_))))))))))
  have hk0:k=0:=by simp at h1;omega
  subst hk0
  exact ⟨⟨rfl,rfl⟩,z,rfl,hz⟩
end Go.Proofs.YtebnelfdimiifaaGreatDoor

