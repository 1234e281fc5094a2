/- Parts of the proof, in build order. No condition. -/
import Derived.Test.YtgkbbdgklpabpaaGreatDoorSc04
import Derived.Test.YtgkbbdgklpabpaaGreatDoorSc07
import Derived.ChangeKeysEq
import Derived.Test.YtgkbbdgklpabpaaGreatDoorSc09
import Derived.Test.YtgkbbdgklpabpaaGreatDoorSc05
import Derived.Test.YtgkbbdgklpabpaaGreatDoorSc06
import Derived.Lib.Bytealg
set_option linter.unusedSimpArgs false
set_option linter.unusedVariables false
set_option maxHeartbeats 20000000
set_option maxRecDepth 20000
namespace Go.Sy
open Go.RowKit Go.Lp
section
variable {P:Program}
theorem kf(d:Nat){e:TypeId}(he:lx P e=true)(hc:P.cellsOf e=1)(xs ys:Array Value):∀ (is:List Nat) (w:World),dy xs is=true→dy ys is=true →
   (Op.eqItems (d+1) e (P.cellsOf e) xs ys is).run P w=.ok (eD xs ys is) w
 | [],w,_,_=>rfl
 | i :: is,w,hx,hy=>by
   simp only [dy,List.all_cons,Bool.and_eq_true] at hx hy
   have ih:=kf d he hc xs ys is w hx.2 hy.2
   obtain ⟨k,hk⟩:∃ k,P.underlying e=some (.int k):=by
     unfold lx at he;split at he
     · exact ⟨_,by assumption⟩
     · cases he
   have hp:P.plainKey e=true:=by unfold Program.plainKey;rw [hk]
   have key:∀ zs:Array Value,(eG zs i).isSome=true→∃ a,zs[i]? = some (.int .i64 a)∧eG zs i=some a:=fun zs hz=>by
     unfold eG at hz ⊢
     split at hz
     · rename_i a hh;exact ⟨a,hh,rfl⟩
     · cases hz
   obtain ⟨a,ha,ha'⟩:=key xs hx.1
   obtain ⟨b,hb,hb'⟩:=key ys hy.1
   rw [hc] at ih ⊢
   simp only [Op.eqItems,Sem.run_bind,Nat.mul_one,run_part_plain w hp ha,run_part_plain w hp hb,Result.andThen_ok,run_equalIn_int w d e .i64 k a b hk,Sem.run_ite,Sem.run_pure,ih]
   simp only [eD,List.all_cons,ha',hb']
   cases h:(a == b)<;>simp
def vD(P:Program)(f:Field):Option (List Nat) :=
 match P.underlying f.type with
 | some (.int _)=>some [f.offset]
 | some (.array n e)=>if lx P e && P.cellsOf e == 1 && (P.info? f.type).any (fun i=>i.size == n) then some ((List.range n).map (f.offset + ·)) else none
 | _=>none
theorem ew (d:Nat) (xs ys:Array Value):∀ (fs:List Field) (os:List Nat) (w:World),fs.all (fun f=>decide (f.name ≠ "_"))=true→(fs.mapM (vD P)).map List.flatten=some os→dy xs os=true→dy ys os=true →
   (Op.eqFields (d+2) xs ys fs).run P w=.ok (eD xs ys os) w
 | [],os,w,_,h,_,_=>by
   have:os=[]:=by simpa using h.symm
   subst this;rfl
 | f :: fs,os,w,hn,h,hx,hy=>by
   simp only [List.all_cons,Bool.and_eq_true,decide_eq_true_eq] at hn
   cases h1:vD P f with
   | none=>simp [List.mapM_cons,h1] at h
   | some o1 =>
     cases h2:fs.mapM (vD P) with
     | none=>simp [List.mapM_cons,h1,h2] at h
     | some o2 =>
       have ho:os=o1++o2.flatten:=by simpa [List.mapM_cons,h1,h2] using h.symm
       subst ho
       have hx':dy xs o1=true∧dy xs o2.flatten=true:=by simpa [dy,List.all_append] using hx
       have hy':dy ys o1=true∧dy ys o2.flatten=true:=by simpa [dy,List.all_append] using hy
       have ih:=ew d xs ys fs o2.flatten w hn.2 (by rw [h2];rfl) hx'.2 hy'.2
       have he:eD xs ys (o1++o2.flatten)=(eD xs ys o1 && eD xs ys o2.flatten):=by simp [eD,List.all_append]
       have fin:∀ (a b:Value),(part f.type xs f.offset).run P w=.ok a w→(part f.type ys f.offset).run P w=.ok b w→(Op.equalIn (d+2) f.type a b).run P w=.ok (eD xs ys o1) w→(Op.eqFields (d+2) xs ys (f::fs)).run P w=.ok (eD xs ys (o1++o2.flatten)) w:=fun a b g1 g2 g3=>by
         simp only [Op.eqFields,if_pos hn.1,Sem.run_bind,g1,g2,g3,Result.andThen_ok,Sem.run_ite,Sem.run_pure,ih,he]
         cases eD xs ys o1<;>simp
       unfold vD at h1
       split at h1
       · rename_i k hk
         simp only [Option.some.injEq] at h1
         subst h1
         have hp:P.plainKey f.type=true:=by unfold Program.plainKey;rw [hk]
         have key:∀ zs:Array Value,dy zs [f.offset]=true→∃ a,zs[f.offset]? = some (.int .i64 a)∧eG zs f.offset=some a:=fun zs hz=>by
           have hz:(eG zs f.offset).isSome=true:=by simpa [dy] using hz
           unfold eG at hz ⊢
           split at hz
           · rename_i a hh;exact ⟨a,hh,rfl⟩
           · cases hz
         obtain ⟨a,ha,ha'⟩:=key xs hx'.1
         obtain ⟨b,hb,hb'⟩:=key ys hy'.1
         refine fin _ _ (run_part_plain w hp ha) (run_part_plain w hp hb) ?_
         rw [run_equalIn_int w (d+1) f.type .i64 k a b hk]
         simp [eD,ha',hb']
       · rename_i n e hk
         split at h1
         · rename_i hc
           simp only [Bool.and_eq_true,beq_iff_eq] at hc
           obtain ⟨⟨c1,c2⟩,c3⟩:=hc
           simp only [Option.some.injEq] at h1
           subst h1
           obtain ⟨it,hit,hsz⟩:∃ it,P.info? f.type=some it∧it.size=n:=by
             cases hi:P.info? f.type with
             | none=>rw [hi] at c3;cases c3
             | some it=>rw [hi] at c3;exact ⟨it,rfl,by simpa using c3⟩
           have hpart:∀ zs:Array Value,(part f.type zs f.offset).run P w=.ok (.agg (zs.extract f.offset (f.offset+n))) w:=fun zs=>by
             simp [part,ox hk,aau,cF hit,hsz,Sem.run_bind,Result.andThen]
           obtain ⟨ie,hie⟩:∃ ie,P.info? e=some ie:=by
             unfold lx at c1
             split at c1
             · rename_i q hq;exact info_of_underlying hq
             · cases c1
           have hsub:∀ zs:Array Value,dy zs ((List.range n).map (f.offset + ·))=true→dy (zs.extract f.offset (f.offset+n)) (List.range n)=true∧∀ i,i<n→eG (zs.extract f.offset (f.offset+n)) i=eG zs (f.offset+i):=fun zs hz=>by
             have hii:∀ i,i<n→eG (zs.extract f.offset (f.offset+n)) i=eG zs (f.offset+i):=fun i hi=>by
               have hs:(eG zs (f.offset+i)).isSome=true:=by
                 have:=List.all_eq_true.1 hz (f.offset+i) (List.mem_map.2 ⟨i,List.mem_range.2 hi,rfl⟩)
                 exact this
               have hlt:f.offset+i<zs.size:=by
                 rcases Nat.lt_or_ge (f.offset+i) zs.size with h | h
                 · exact h
                 · unfold eG at hs;rw [Array.getElem?_eq_none h] at hs;cases hs
               unfold eG
               rw [Array.getElem?_extract]
               rw [if_pos (by omega)]
             refine ⟨List.all_eq_true.2 fun i hi => ?_,hii⟩
             rw [hii i (List.mem_range.1 hi)]
             exact List.all_eq_true.1 hz (f.offset+i) (List.mem_map.2 ⟨i,hi,rfl⟩)
           obtain ⟨a1,a2⟩:=hsub xs hx'.1
           obtain ⟨b1,b2⟩:=hsub ys hy'.1
           refine fin _ _ (hpart xs) (hpart ys) ?_
           rw [show d+2=(d+1)+1 from rfl,run_equalIn_array w (d+1) _ _ hk hie,kf d c1 c2 _ _ _ w a1 b1]
           congr 1
           unfold eD
           rw [List.all_map]
           apply Bool.eq_iff_iff.2
           simp only [List.all_eq_true,List.mem_range,Function.comp]
           constructor
           · intro h i hi;have:=h i hi;rwa [a2 i hi,b2 i hi] at this
           · intro h i hi;have:=h i hi;rwa [← a2 i hi,← b2 i hi] at this
         · cases h1
       · cases h1
end
section
variable {P:Program} {n:Fr} {env:Env} {ps:List Per} {hp:List Res} {ty:TypeId} {pos:String} {af:Array Edge} {gd:Option (Nat × Bool)} {d:Option Tmp}
def abj(P:Program)(T:TypeId):Option (Nat × Nat):=match P.underlying T with
 | some (.array m e)=>(P.info? e).map fun i=>(i.size,m)
 | _=>none
theorem ri {T:TypeId} {l:List (Nat × Operand)} {xs:List Operand} {vs:List Value} {zs cells:List Value} {sz m:Nat} (hst:abj P T=some (sz,m)) (hz:ec P T=some zs) (hxs:l.map (·.2)=xs) (hx:evs env xs=some vs)
   (hb:bld (fun i=>some (i*sz,sz)) zs ((l.map (·.1)).zip vs)=some cells) :
   Quiet P n ⟨d,.build T l.toArray,ty,pos,af,gd⟩ ⟨env,ps,hp⟩ (.agg cells.toArray):=fun w S fp a hs he hn=>by
 have hm:=eM he xs vs hx
 have hf:=jY _ _ _ _ hb
 have hbuilt : P.built T ((l.map (·.1)).zip vs)=some cells.toArray:=by
   unfold abj at hst
   unfold ec at hz
   unfold Program.built
   cases hi:P.info? T with
   | none=>rw [hi] at hz;cases hz
   | some it =>
     rw [hi] at hz
     cases hzz:it.zero with
     | none=>rw [Option.bind_some,hzz] at hz;cases hz
     | some z =>
       rw [Option.bind_some,hzz] at hz
       simp only [Option.map_some,Option.some.injEq] at hz
       cases hu:P.underlying T with
       | none=>rw [hu] at hst;cases hst
       | some dd =>
         rw [hu] at hst
         cases dd with
         | array m' e =>
           simp only at hst
           cases hie:P.info? e with
           | none=>rw [hie] at hst;cases hst
           | some ie =>
             rw [hie] at hst
             simp only [Option.map_some,Option.some.injEq,Prod.mk.injEq] at hst
             simp only [hzz,hie]
             have e1:z.cells=zs.toArray:=by rw [← hz]
             rw [e1,hst.1]
             simpa using hf
         | _=>cases hst
 have:(execOp a.eval ⟨d,.build T l.toArray,ty,pos,af,gd⟩).run P w=.ok (.value (.agg cells.toArray)) w:=by
   have e:(execOp a.eval ⟨d,.build T l.toArray,ty,pos,af,gd⟩)=(Instr.build T (l.toArray.map fun (i,x)=>(i,a.eval x))).bind fun r=>Sem.pure (Next.value r):=rfl
   have e2:l.toArray.map (fun (i,x)=>(i,a.eval x))=((l.map (·.1)).zip vs).toArray:=by
     rw [← hm,← hxs]
     simp only [List.map_toArray,List.map_map]
     congr 1
     rw [List.zip_map']
     rfl
   rw [e,e2,Sem.run_bind',run_build w T _ cells.toArray (by simpa using hbuilt)];rfl
 rw [this];exact bE _ _
end
theorem StE.ents{ps ps':List Per}{hp:List Res}(h:∀ p∈ps',Ent ps p):StE ps hp ps' hp:=fun w S fp hst =>
 ⟨S,fp,⟨fun p hp=>h p hp w S hst.per,hst.res,hst.lt,hst.dj,hst.slt⟩,fun _ h=>h,fun _ h=>.inl h,fun _ h=>h⟩
end Go.Sy
namespace Go.Proofs.YtgkbbdgklpabpaaGreatDoor
open Go.RowKit Go.Lp Go.Sy
abbrev bd:Int→List D:=fun z=>[D.v (eI z)]
structure mF (s:bw):Prop where
 kind:0≤s.kind∧s.kind<5
 al:1≤s.align∧s.align≤256
 size:0≤s.size∧s.size≤1048576
 bytes:(s.bytes.size:Int)=if s.kind=2∨s.kind=4 then 0 else s.size
 code:s.kind=0→8≤s.align∧s.size.tmod 8=0
theorem ej{ps:List Per}{p q:Per}(h1:Ent ps p)(h2:Ent ps q):∀ r∈[p,q],Ent ps r:=fun r hr=>by
 simp only [List.mem_cons,List.not_mem_nil,or_false] at hr
 rcases hr with rfl | rfl
 · exact h1
 · exact h2
theorem jm{ps:List Per}{p q t:Per}(h1:Ent ps p)(h2:Ent ps q)(h3:Ent ps t):∀ r∈[p,q,t],Ent ps r:=fun r hr=>by
 simp only [List.mem_cons,List.not_mem_nil,or_false] at hr
 rcases hr with rfl | rfl | rfl
 · exact h1
 · exact h2
 · exact h3
theorem fA{p:Per} : Ent [p] p:=.of (ax 0 rfl)
open Go.Proofs.Tryz
attribute [local irreducible] aL aB awp aC fwp Quiet
theorem wM(s:bw)(p:Per):Con Tryz.prog 139 [s.val] [p] [] (YN gR fun _=>True):=by
 refine EN1 Tryz.func139 rfl (aSR (LT rfl (aS rfl rfl rfl (fun b0_0=>(aHN ?_)))))
 refine go 2 [0,0,0,0] ?_
 refine ae (FZ1 [] Tryz.results139 rfl ?_)
 exact ⟨⟨rfl,rfl⟩,_,rfl,trivial⟩
theorem wL(s:bw):Con Tryz.prog 134 [s.val] [s.ok] [] (YB (mF s)):=by
 refine EN1 Tryz.func134 rfl (cL (bw.f_name (.of (ax 0 rfl))) (fun hnl=>(aSR (LT rfl (aS rfl rfl rfl (fun b0_0=>(aHN ?_)))))))
 refine go 2 [0,3,0,0,1,0,0,0,1,0,0,0] ?_
 refine aa _ rfl (fun h1 => ?_) (fun h1 => ?_)
 ·skip
  refine go 0 [0,1,0,0,0,2,0,0,0,3,0] ?_
  refine aG rfl rfl (fun hc=>ee (ah rfl hc) rfl (by decide)) (go 0 [0,0,0,0,0,0] ?_)
  refine aE (caps:=[]) [] (false) (by kernel_rfl) true rfl rfl (fun _=>rfl) (fun hc=>rfl) (fun hc=>by rw [List.append_nil];exact eQ _ hnl) (fun c1 hc1 => ?_)
  refine go 0 [0,1,0] ?_
  refine aG rfl rfl (fun hc=>Q0 (ao (ah rfl hc) (ao (ah rfl rfl) rfl)) (bZ _ _)) (go 0 [0,0,2,0] ?_)
  refine aE (caps:=[]) [] (false) (by kernel_rfl) _ rfl rfl (fun _=>rfl) (fun hc=>(ao (ah rfl hc) rfl)) (fun hc=>by rw [List.append_nil];exact kZ _) (fun c2 hc2 => ?_)
  refine go 0 [0,0,3,0] ?_
  refine aG rfl rfl (fun hc=>Q0 (ao (ah rfl hc) (ao (ah rfl rfl) rfl)) (bZ _ _)) (go 2 [0,0,4,0,0,0,0,0,0,0,0,0] ?_)
  refine ae (FZ1 [] Tryz.results134 rfl ?_)
  refine ⟨⟨rfl,rfl⟩,_,rfl,fun hb => ?_⟩
  simp only [Bool.and_eq_true,Bool.or_eq_true,Bool.or_eq_false_iff,decide_eq_true_eq,Bool.not_eq_true',decide_eq_false_iff_not] at hb h1
  exact ⟨by omega,hc2 (by rw [hb.1.1.1.1.1];simp;omega) hb.1.1.1.2,by omega,by split<;>omega,fun hk=>by omega⟩
 ·skip
  refine go 0 [1,0,0,0,2,0,0,0,3,0] ?_
  refine aG rfl rfl (fun hc=>ee (ah rfl hc) rfl (by decide)) (go 0 [0,0,0,0,0,0] ?_)
  refine aE (caps:=[]) [] (false) (by kernel_rfl) true rfl rfl (fun _=>rfl) (fun hc=>rfl) (fun hc=>by rw [List.append_nil];exact eQ _ hnl) (fun c1 hc1 => ?_)
  refine go 0 [0,1,0] ?_
  refine aG rfl rfl (fun hc=>Q0 (ao (ah rfl hc) (ao (ah rfl rfl) rfl)) (bZ _ _)) (go 0 [0,0,2,0] ?_)
  refine aE (caps:=[]) [] (false) (by kernel_rfl) _ rfl rfl (fun _=>rfl) (fun hc=>(ao (ah rfl hc) rfl)) (fun hc=>by rw [List.append_nil];exact kZ _) (fun c2 hc2 => ?_)
  refine go 0 [0,0,3,0] ?_
  refine aG rfl rfl (fun hc=>Q0 (ao (ah rfl hc) (ao (ah rfl rfl) rfl)) (bZ _ _)) (go 2 [0,0,4,0,0,0,0,0,0,0,0,0] ?_)
  refine ae (FZ1 [] Tryz.results134 rfl ?_)
  refine ⟨⟨rfl,rfl⟩,_,rfl,fun hb => ?_⟩
  simp only [Bool.and_eq_true,Bool.or_eq_true,Bool.or_eq_false_iff,decide_eq_true_eq,Bool.not_eq_true',decide_eq_false_iff_not] at hb h1
  exact ⟨by omega,hc2 (by rw [hb.1.1.1.1.1];simp;omega) hb.1.1.1.2,by omega,by split<;>omega,fun hk=>by omega⟩
theorem wF(o:aI):Con Tryz.prog 101 [o.val] [o.ok] [] (YB (∀ s∈o.secs.l,mF s)):=by
 refine EN1 Tryz.func101 rfl (aO (aI.f_secs (.of (ax 0 rfl))) (fun hlen=>(aSR (LT rfl (aS rfl rfl rfl (fun b0_0=>(aHN ?_)))))))
 refine go 0 [0,0,0,1,0,174,0,0,0,1,0,0] ?_
 refine aE (caps:=[]) [0] (false) (by kernel_rfl) _ rfl rfl (fun _=>rfl) (fun hc=>(ao (ah rfl hc) (ao (ah rfl hc) rfl))) (fun hc=>by rw [List.append_nil];exact (j6 o.secs 134 [] o.ok mF (by kernel_rfl) (fun s hs=>(wL s).pre fun p hp=>(List.mem_singleton.1 hp) ▸ Ent.allm (aI.f_secsA (.of (ax 0 rfl))) hs)).pre (ej (aI.f_secs (.of (ax 0 rfl))) (.of (ax 0 rfl)))) (fun c1 hc1 => ?_)
 refine go 0 [0,0,0,1,0] ?_
 refine aE (caps:=[]) [0] (false) (by kernel_rfl) _ rfl rfl (fun _=>rfl) (fun hc=>(ao (ah rfl hc) (ao (ah rfl rfl) rfl))) (fun hc=>by rw [List.append_nil];exact (kP o.secs 139 [] o.ok (by kernel_rfl) (fun s hs=>wM s _)).pre (ej (aI.f_secs (.of (ax 0 rfl))) (.of (ax 0 rfl)))) (fun c2 hc2 => ?_)
 refine go 2 [0,0] ?_
 refine ae (FZ1 [] Tryz.results101 rfl ?_)
 refine ⟨⟨rfl,rfl⟩,_,rfl,fun hb => ?_⟩
 simp at hb
 exact hc1 (by simp;omega) hb.1.2
theorem wA(k:Int):Con Tryz.prog 142 [.int .i64 k] [] [] fun r ps hp=>hp=[]∧∃ l:Sl Int,r=l.val∧ps=[ShF bd l]:=by
 refine Con.conv (R:=fun r ps hp=>ps=[]∧∃ (ad:Option Addr) (zs:List Int),r=.slice ad zs.length zs.length∧hp=[aP (.slice ad zs.length zs.length) 3 1 (zs.map bd)]) ?_ fun _ _ _ ⟨h1,ad,zs,h2,h3⟩ => ?_
 rotate_left
 · subst h1 h2 h3
   exact ⟨_,_,(StE.share 0 (ShF bd ⟨ad,zs.length,zs⟩) rfl fun _ _ _ h=>db h).trans (StE.keep [0] [] rfl),rfl,⟨ad,zs.length,zs⟩,rfl,rfl⟩
 refine EN1 Tryz.func142 rfl (go 2 [0,0,0,0] ?_)
 refine aa _ rfl (fun h1 => ?_) (fun h1 => ?_)
 ·skip
  refine aSR (LT rfl (WL (zs:=[.int .i64 0]) el33 rfl rfl rfl (.more rfl (.v rfl .nil) .nil) rfl rfl (fun v3_0=>(aHN ?_))))
  refine go 2 [0] ?_
  refine ae (aK (aj (FZ1 [0] Tryz.results142 rfl ?_)))
  exact ⟨rfl,v3_0,[0],rfl,rfl⟩
 ·skip
  refine go 2 [0,0] ?_
  refine aa _ rfl (fun h2 => ?_) (fun h2 => ?_)
  ·skip
   refine aSR (LT rfl (WL (zs:=[.int .i64 0]) el33 rfl rfl rfl (.more rfl (.v rfl .nil) (.more rfl (.v rfl .nil) .nil)) rfl rfl (fun v5_0=>(aHN ?_))))
   refine go 2 [0] ?_
   refine ae (aK (aj (FZ1 [0] Tryz.results142 rfl ?_)))
   exact ⟨rfl,v5_0,[1,2],rfl,rfl⟩
  ·skip
   refine aD (ca (an (aSR (LT rfl (WL (zs:=[.int .i64 0]) el33 rfl rfl rfl (.more rfl (.v rfl .nil) (.more rfl (.v rfl .nil) .nil)) rfl rfl (fun v6_0=>(aHN ?_)))))))
   refine go 2 [0] ?_
   refine ae (FZ1 [0] Tryz.results142 rfl ?_)
   exact ⟨rfl,v6_0,[3,4],rfl,rfl⟩
theorem wP(b:Nat)(o:aI)(s:bJ):Con Tryz.prog 140 [s.val,.pointer (some ⟨b,0,none⟩)] [At b 0 o.row,o.ok,s.ok] [] (YB ((s.sec = -1∧s.bind≠0)∨(0≤s.sec∧s.sec<o.secs.l.length))):=by
 refine EN2 Tryz.func140 rfl (cL (bJ.f_name (.of (ax 2 rfl))) (fun hnl=>(cL (bJ.f_version (.of (ax 2 rfl))) (fun hvl=>(aO (aI.f_secs (.of (ax 1 rfl))) (fun hlen=>(aSR (LT rfl (aS rfl rfl rfl (fun b0_0=>(aHN ?_)))))))))))
 refine go 0 [0,0,0] ?_
 refine aE (caps:=[]) [] (false) (by kernel_rfl) true rfl rfl (fun _=>rfl) (fun hc=>rfl) (fun hc=>by rw [List.append_nil];exact eQ _ hnl) (fun c1 hc1 => ?_)
 refine go 0 [0,1,0] ?_
 refine aG rfl rfl (fun hc=>mB (ah rfl hc) rfl) (go 0 [0,1,0] ?_)
 refine aE (caps:=[]) [] (false) (by kernel_rfl) _ rfl rfl (fun _=>rfl) (fun hc=>(ao (ah rfl hc) rfl)) (fun hc=>by rw [List.append_nil];exact eQ _ hvl) (fun c2 hc2 => ?_)
 refine go 0 [0,0,0,3,0] ?_
 refine aG rfl rfl (fun hc=>Q0 (ao (ah rfl hc) (ao (ah rfl rfl) rfl)) (bZ _ _)) (go 0 [0,0,4,0] ?_)
 refine aG rfl rfl (fun hc=>Q0 (ao (ah rfl hc) (ao (ah rfl rfl) rfl)) (bZ _ _)) (go 0 [0,0,5,0] ?_)
 refine aG rfl rfl (fun hc=>Q0 (ao (ah rfl hc) (ao (ah rfl rfl) rfl)) (bZ _ _)) (go 0 [0,0,7,0] ?_)
 refine aG rfl rfl (fun hc=>eT (ah rfl hc) rfl) (go 0 [0,0,8,0] ?_)
 refine aG rfl rfl (fun hc=>eT (ah rfl hc) rfl) (go 2 [0,0,0,0,0] ?_)
 refine aa _ rfl (fun h1 => ?_) (fun h1 => ?_)
 ·skip
  refine go 2 [0] ?_
  refine ae (aK (aj (FZ1 [] Tryz.results140 rfl ?_)))
  exact ⟨⟨rfl,rfl⟩,_,rfl,fun hb=>by cases hb⟩
 ·skip
  refine go 0 [3,0] ?_
  refine aU rfl (dw rfl rfl) (go 2 [0] ?_)
  refine aa _ rfl (fun h2 => ?_) (fun h2 => ?_)
  ·skip
   refine go 0 [6,0] ?_
   refine aU rfl (dw rfl rfl) (go 0 [0,5,0] ?_)
   refine aG rfl rfl (fun hc=>dw (ah rfl hc) rfl) (go 0 [0,0,1,0] ?_)
   refine aG rfl rfl (fun hc=>mB (ah rfl hc) rfl) (go 0 [0,0,2,0,0,0,0,7,0] ?_)
   refine aG rfl rfl (fun hc=>dw (ah rfl hc) rfl) (go 0 [0,0,8,0] ?_)
   refine aG rfl rfl (fun hc=>eT (ah rfl hc) rfl) (go 0 [0,0,8,0] ?_)
   refine aG rfl rfl (fun hc=>lY (ah rfl hc) rfl) (go 0 [0,0,9,0] ?_)
   refine aE (caps:=[]) [] (false) (by kernel_rfl) _ rfl rfl (fun _=>rfl) (fun hc=>(ao (ah rfl hc) rfl)) (fun hc=>by rw [List.append_nil];exact kZ _) (fun c3 hc3 => ?_)
   refine go 2 [0,0] ?_
   refine ae (aK (aj (FZ1 [] Tryz.results140 rfl ?_)))
   refine ⟨⟨rfl,rfl⟩,_,rfl,fun hb=>.inl ?_⟩
   simp only [Bool.and_eq_true,decide_eq_true_eq] at hb h2;omega
  ·skip
   refine go 0 [6,0] ?_
   refine aU rfl (dw rfl rfl) (go 2 [0] ?_)
   refine aa _ rfl (fun h3 => ?_) (fun h3 => ?_)
   ·skip
    refine go 0 [3,0] ?_
    refine aU rfl (fg rfl rfl) (go 0 [0,2,0,0,0,0,7,0] ?_)
    refine aG rfl rfl (fun hc=>dw (ah rfl hc) rfl) (go 0 [0,0,8,0] ?_)
    refine aG rfl rfl (fun hc=>dw (ah rfl hc) rfl) (go 0 [0,0,9,0] ?_)
    refine aG rfl rfl (fun hc=>dw (ah rfl hc) rfl) (go 2 [0,0] ?_)
    refine ae (aK (aj (FZ1 [] Tryz.results140 rfl ?_)))
    refine ⟨⟨rfl,rfl⟩,_,rfl,fun hb=>.inl ?_⟩
    simp only [Bool.and_eq_true,Bool.not_eq_true',decide_eq_true_eq,decide_eq_false_iff_not] at hb h3;omega
   ·skip
    refine aq (DR [] 23 (go 0 [64514,12,0,10,0] ?_))
    refine dG (q:=true) 5 rfl (by kernel_rfl) rfl rfl (EC [] [] rfl (wA _) ?_)
    rintro _ _ _ ⟨rfl,kl,rfl,rfl⟩
    refine bST rfl ?_
    refine cQ (caps:=[]) 6 rfl (by kernel_rfl) [3,1] (false) (by kernel_rfl) true rfl rfl (fun _=>rfl) (fun hc=>rfl) (fun hc=>by rw [List.append_nil];exact j7 o kl _) (fun c4 hc4 => ?_)
    refine go 0 [0,0,18,0] ?_
    refine bW 11 rfl rfl rfl (fun hc=>fg (ah rfl hc) rfl) (go 0 [0,0,4,0,0,2,0] ?_)
    refine bW 19 rfl rfl rfl (fun hc=>mB (ah rfl hc) rfl) (go 2 [0,0,0] ?_)
    refine aa _ rfl (fun h4 => ?_) (fun h4 => ?_)
    ·skip
     refine go 2 [0] ?_
     refine ae (aK (aj (FZ1 [] Tryz.results140 rfl ?_)))
     exact ⟨⟨rfl,rfl⟩,_,rfl,fun hb=>by cases hb⟩
    ·skip
     have c4:0≤s.sec∧s.sec<o.secs.l.length:=hc4 rfl (by simp at h4;exact h4.1.1)
     refine go 0 [0,1,52,6,0] ?_
     refine bI true rfl rfl (fun _=>ai Tryz.underlying118 tk174 rfl ((aI.f_secs (.of (ax 2 rfl)))) rfl (bN (i:=s.sec) (by omega) (by omega)) (by omega) rfl) (fun h=>absurd h (by decide)) (fun ⟨b10_5,o10_5⟩=>(go 0 [3,146,0,3,0] ?_))
     refine aU rfl (fg rfl rfl) (go 0 [0,1,0] ?_)
     refine aG rfl rfl (fun hc=>mB (ah rfl hc) rfl) (go 0 [0,4,0] ?_)
     refine aG rfl rfl (fun hc=>dw (ah rfl hc) rfl) (go 0 [0,0,0,0,0,7,0,0] ?_)
     refine aG rfl rfl (fun hc=>lY (ah rfl hc) (ah rfl hc)) (go 0 [0,0,8,0,0,7,0] ?_)
     refine aG rfl rfl (fun hc=>sS (ah rfl hc) (ah rfl hc)) (aG rfl rfl (fun hc=>lY (ah rfl hc) (ah rfl hc)) (go 0 [0,0,5,0] ?_))
     refine aG rfl rfl (fun hc=>fg (ah rfl hc) rfl) (go 0 [0,7,0] ?_)
     refine aG rfl rfl (fun hc=>ee (ah rfl hc) rfl (by decide)) (aG rfl rfl (fun hc=>dw (ah rfl hc) rfl) (go 2 [0,0,0] ?_))
     refine ae (FZ1 [] Tryz.results140 rfl ?_)
     exact ⟨⟨rfl,rfl⟩,_,rfl,fun _=>.inr c4⟩
theorem wQ(s:bJ)(p:Per):Con Tryz.prog 145 [s.val] [p] [] (YN cH fun _=>True):=by
 refine EN1 Tryz.func145 rfl (aSR (LT rfl (aS rfl rfl rfl (fun b0_0=>(aHN ?_)))))
 refine LT rfl (aW (zs:=[.string .empty,.string .empty]) (by kernel_rfl) rfl (fun b0_1=>(aHN ?_)))
 refine go 0 [0,0,1,0] ?_
 refine aU rfl (ri (l:=[(0,.tmp 4),(1,.tmp 6)]) (zs:=[.string .empty,.string .empty]) (sz:=1) (m:=2) (by kernel_rfl) (by kernel_rfl) rfl rfl rfl) (go 2 [4611] ?_)
 refine ae ?_
 refine sr [] [] rfl Tryz.results145 (ef 1 tk114 rfl rfl rfl) ?_ (.inr rfl)
 exact ⟨⟨rfl,rfl⟩,(s.name,s.version),rfl,trivial⟩
theorem wG(o:aI):Con Tryz.prog 102 [o.val] [o.ok] [] (YB (∀ s∈o.syms.l,(s.sec = -1∧s.bind≠0)∨(0≤s.sec∧s.sec<o.secs.l.length))):=by
 refine EN1 Tryz.func102 rfl (aO (aI.f_syms (.of (ax 0 rfl))) (fun hlen=>(aSR (LT rfl (aS rfl rfl rfl (fun b0_0=>(aHN ?_)))))))
 refine go 4 [0] ?_
 refine aU rfl (cA (l:=[.tmp 1]) rfl) (go 3 [0] ?_)
 refine aZ 0 rfl rfl ?_
 show awp _ _ _ _ ⟨_,At _ 0 _::_,_⟩
 refine go 0 [0,2,97,176,0,0,0,2,97,0] ?_
 refine aE (caps:=[]) [1,0] (false) (by kernel_rfl) _ rfl rfl (fun _=>rfl) (fun hc=>(ao (ah rfl hc) (ao (ah rfl hc) rfl))) (fun hc=>by rw [List.append_nil];exact (kT o.syms 140 [.pointer (some ⟨b0_0,0,none⟩)] (bQ (At b0_0 0 o.row) o.ok) _ (by kernel_rfl) (fun s hs=>(wP b0_0 o s).pre (jm fA.left fA.right (.allm (aI.f_symsA fA.right) hs)))).pre (ej (aI.f_syms (.of (ax 1 rfl))) (.mk2 (.of (ax 0 rfl)) (.of (ax 1 rfl))))) (fun c1 hc1 => ?_)
 refine go 0 [0,0,0,2,97] ?_
 refine aE (caps:=[]) [0] (false) (by kernel_rfl) _ rfl rfl (fun _=>rfl) (fun hc=>(ao (ah rfl hc) (ao (ah rfl rfl) rfl))) (fun hc=>by rw [List.append_nil];exact (l5 o.syms 145 [] o.ok (by kernel_rfl) (fun s hs=>wQ s _)).pre (ej (aI.f_syms (.of (ax 0 rfl))) (.of (ax 0 rfl)))) (fun c2 hc2 => ?_)
 refine go 2 [0,0] ?_
 refine ae (FZ1 [] Tryz.results102 rfl ?_)
 refine ⟨⟨rfl,rfl⟩,_,rfl,fun hb => ?_⟩
 simp at hb
 exact hc1 (by simp;omega) hb.1.2
def sB(k:Int):Int:=if k=0 then 0 else if k=3∨k=4 then 2 else 1
theorem iY(k:Int):Con Tryz.prog 78 [.int .i64 k] [] [] fun r _ _=>r=.int .i64 (sB k):=by
 refine EN1 Tryz.func78 rfl (go 2 [0,0,0,0] ?_)
 refine aa _ rfl (fun h1 => ?_) (fun h1 => ?_)
 ·skip
  refine go 2 [0] ?_
  refine ae (aK (aj (FZ1 [] Tryz.results78 rfl ?_)))
  unfold sB;simp_all
 ·skip
  refine go 2 [0,0] ?_
  refine aa _ rfl (fun h2 => ?_) (fun h2 => ?_)
  ·skip
   refine aD (an ?_)
   refine aa _ rfl (fun _ => ?_) (fun h=>absurd (h2.symm.trans h) (by decide))
   refine go 2 [0] ?_
   refine ae (aK (aj (FZ1 [] Tryz.results78 rfl ?_)))
   unfold sB;simp_all
  ·skip
   refine go 2 [0,0] ?_
   refine aa _ rfl (fun h3 => ?_) (fun h3 => ?_)
   ·skip
    refine go 2 [0] ?_
    refine ae (aK (aj (FZ1 [] Tryz.results78 rfl ?_)))
    unfold sB;simp_all
   ·skip
    refine go 2 [0] ?_
    refine ae (FZ1 [] Tryz.results78 rfl ?_)
    unfold sB;simp_all
theorem jE(r s:Int):Con Tryz.prog 114 [.int .i64 r,.int .i64 s] [] [] (YB True):=by
 refine EN2 Tryz.func114 rfl (go 2 [0,0,0,0,0,0,0,0,0,0,0,0,0,0,0,0,0,0,0,0,0] ?_)
 refine aa _ rfl (fun h1 => ?_) (fun h1 => ?_)
 ·skip
  refine go 2 [0,0,0,0,0,0] ?_
  refine ae (aj (FZ1 [] Tryz.results114 rfl ?_))
  exact ⟨⟨rfl,rfl⟩,_,rfl,fun _=>trivial⟩
 ·skip
  refine go 2 [0,0,0,0,0,0,0,0,0,0,0] ?_
  refine ae (FZ1 [] Tryz.results114 rfl ?_)
  exact ⟨⟨rfl,rfl⟩,_,rfl,fun _=>trivial⟩
structure aao (u:aJ) (t:bY):Prop where
 node:t.kind=0→(0≤t.n∧t.n<u.nodes.l.length)∧0≤t.off∧t.off≤(elt u.nodes.l t.n).size∧0≤t.size
 imp:t.kind=1→(0≤t.n∧t.n<u.imports.l.length)∧t.off=0∧t.size=0
 nul:t.kind≠0→t.kind≠1→t=⟨2,0,0,0⟩
theorem ga(u:aJ)(t:bY):Con Tryz.prog 77 [u.val,t.val] [u.ok] [] (YB (aao u t)):=by
 refine EN2 Tryz.func77 rfl (aO (aJ.f_nodes (.of (ax 0 rfl))) (fun hlen=>(aO (aJ.f_imports (.of (ax 0 rfl))) (fun hlen2=>(aSR (LT rfl (aS rfl rfl rfl (fun b0_0=>(aHN ?_)))))))))
 refine LT rfl (aS rfl rfl rfl (fun b0_1=>(aHN ?_)))
 refine go 2 [0,0,3,0,0] ?_
 refine aa _ rfl (fun h1 => ?_) (fun h1 => ?_)
 ·skip
  refine aq (DR [] 36 (go 0 [2,6,0,0,2,6,0,4,0,104,0,0,0,4,6,0,0,0,4,6,0,4,0,2,6] ?_))
  refine dz 25 rfl (by kernel_rfl) _ rfl rfl (fun hc=>ai Tryz.underlying22 tk52 (ah rfl hc) ((aJ.f_nodes (.of (ax 0 rfl)))) (ah rfl hc) (bN (i:=t.n) (by simp at hc;omega) (by simp at hc;omega)) (by simp at hc;omega) rfl) (fun _=>⟨(0,0)⟩) (fun ⟨b3_25,o3_25⟩ => ?_)
  refine go 2 [8,388,0,0,0,6,6,0,0,0] ?_
  refine ae (aK (aj (FZ1 [] Tryz.results77 rfl ?_)))
  refine ⟨⟨rfl,rfl⟩,_,rfl,fun hb => ?_⟩
  simp at hb h1
  exact ⟨fun _=>by omega,fun h=>by omega,fun h=>absurd h1 h⟩
 ·skip
  refine go 2 [0,0] ?_
  refine aa _ rfl (fun h2 => ?_) (fun h2 => ?_)
  ·skip
   refine go 2 [1,3,0,0,1,3,0,3,0,137,0,0,0,2,3,0,0,0,3,3,0,0,0] ?_
   refine ae (aK (aj (FZ1 [] Tryz.results77 rfl ?_)))
   refine ⟨⟨rfl,rfl⟩,_,rfl,fun hb => ?_⟩
   simp at hb h1 h2
   exact ⟨fun h=>absurd h h1,fun _=>by omega,fun _ h=>absurd h2 h⟩
  ·skip
   refine go 0 [10755] ?_
   refine aU rfl (bP (l:=[(0,.const (.int .i64 2))]) (zs:=[.int .i64 0,.int .i64 0,.int .i64 0,.int .i64 0]) (pl:=[(0,1),(1,1),(2,1),(3,1)]) (by kernel_rfl) (by kernel_rfl) (by kernel_rfl) rfl rfl rfl) (aU rfl (lC (by kernel_rfl) (by kernel_rfl) (by kernel_rfl) (fun w=>ew 9997 _ _ _ [0,1,2,3] w (by kernel_rfl) (by kernel_rfl) rfl rfl) rfl rfl) (go 2 [0] ?_))
   refine ae (FZ1 [] Tryz.results77 rfl ?_)
   refine ⟨⟨rfl,rfl⟩,_,rfl,fun hb => ?_⟩
   simp at h1 h2
   simp [eD,eG] at hb
   obtain ⟨k,n,o,z⟩:=t
   exact ⟨fun h=>absurd h h1,fun h=>absurd h h2,fun _ _=>by simp_all⟩
theorem oW(l:Sl aQ)(F:FuncId)(caps:List Value)(p q:Per)(Ψ:aQ→Bool→Prop)(hF:aX Tryz.prog F=true)(h:∀ a∈l.l,Con Tryz.prog F (a.val::caps) [p,q] [] (YN Value.bool (Ψ a))):Con Tryz.prog 100 [l.val,.func (.func F) #[] caps.toArray] [ShF aQ.row l,p,q] []
   (YN (fun z:Int=>.int .i64 z) (fun z=>(z≥0→∃ a∈l.l,Ψ a true)∧(¬ z≥0→∀ a∈l.l,Ψ a false))):=by
 refine EN2 Tryz.func100 rfl (aO (.of (ax 0 rfl)) (fun hlen=>(go 3 [0,0,52,0] ?_)))
 refine aF [0,1,7,8] [2,1,0] [] (fun (k:Nat) s=>(k≤l.l.length∧∀ a∈l.l.take k,Ψ a false)∧s=⟨[(0,true,l.val),(1,true,.func (.func F) #[] caps.toArray),(7,true,.int .i64 l.l.length),(8,true,.int .i64 k)],[ShF aQ.row l,p,q],[]⟩) (fun k=>l.l.length-k) rfl (⟨0,⟨Nat.zero_le _,fun a ha=>by cases ha⟩,rfl⟩) ?_
 rintro k s ⟨⟨hk,hno⟩,rfl⟩
 refine go 3 [0] ?_
 refine aa _ rfl (fun h1 => ?_) (fun h1 => ?_)
 ·skip
  have hk':k<l.l.length:=by simpa using h1
  obtain ⟨a,ha⟩:∃ a,l.l[k]? = some a:=⟨l.l[k]'hk',by simp⟩
  refine go 0 [0,0,0,0,0] ?_
  refine UI Tryz.underlying22 tk52 0 rfl rfl rfl rfl rfl (ak ha) rfl rfl (fun ⟨b4_3,o4_3⟩=>(go 0 [35330] ?_))
  refine aE [1,0] (false) hF true rfl rfl (fun _=>rfl) (fun hc=>rfl) (fun hc=>h a (List.mem_of_getElem? ha)) (fun c hc=>(aNn ?_))
  refine aa _ rfl (fun h2 => ?_) (fun h2 => ?_)
  ·skip
   refine go 2 [0,0] ?_
   refine ae (aK (aj (aj (aK (aj (FZ1 [] Tryz.results100 rfl ?_))))))
   exact ⟨⟨rfl,rfl⟩,_,rfl,fun _=>⟨a,List.mem_of_getElem? ha,h2 ▸ hc rfl⟩,fun hz=>(hz (Int.natCast_nonneg k)).elim⟩
  ·skip
   refine go 1 [0,0] ?_
   refine an ?_
   refine ⟨[0,1,7,8],[2,1,0],[],rfl,?_⟩
   refine ⟨k+1,⟨⟨by omega,?_⟩,rfl⟩,by omega⟩
   intro y hy
   rw [List.take_add_one,ha,List.mem_append] at hy
   rcases hy with hy | hy
   · exact hno y hy
   · simp at hy;subst hy;exact h2 ▸ hc rfl
 ·skip
  refine go 2 [0] ?_
  refine ae (FZ1 [] Tryz.results100 rfl ?_)
  refine ⟨⟨rfl,rfl⟩,_,rfl,fun hz=>absurd hz (by decide),fun _ => ?_⟩
  rw [List.take_of_length_le (by simpa using h1)] at hno;exact hno
theorem oP(l:Sl aQ)(F:FuncId)(caps:List Value)(p q:Per)(Ψ:aQ→Bool→Prop)(hF:aX Tryz.prog F=true)(h:∀ a∈l.l,Con Tryz.prog F (a.val::caps) [p,q] [] (YN Value.bool (Ψ a))):Con Tryz.prog 65 [l.val,.func (.func F) #[] caps.toArray] [ShF aQ.row l,p,q] []
   (YN Value.bool (fun b=>(b=true→∃ a∈l.l,Ψ a true)∧(b=false→∀ a∈l.l,Ψ a false))):=by
 refine EN2 Tryz.func65 rfl (go 0 [0,0,0] ?_)
 refine LT rfl (EC [2,1,0] [] rfl (oW l F caps p q Ψ hF h) ?_)
 rintro _ _ _ ⟨⟨rfl,rfl⟩,z,rfl,hz⟩
 refine aST ?_
 refine go 2 [0,0] ?_
 refine ae (FZ1 [] Tryz.results65 rfl ?_)
 exact ⟨⟨rfl,rfl⟩,_,rfl,fun hb=>hz.1 (by simpa using hb),fun hb=>hz.2 (by simpa using hb)⟩

theorem qE(l:Sl dE)(F:FuncId)(caps:List Value)(p q:Per)(Ψ:dE→Bool→Prop)(hF:aX Tryz.prog F=true)(h:∀ a∈l.l,Con Tryz.prog F (a.val::caps) [p,q] [] (YN Value.bool (Ψ a))):Con Tryz.prog 112 [l.val,.func (.func F) #[] caps.toArray] [ShF dE.row l,p,q] []
   (YN (fun z:Int=>.int .i64 z) (fun z=>(z≥0→∃ a∈l.l,Ψ a true)∧(¬ z≥0→∀ a∈l.l,Ψ a false))):=by
 refine EN2 Tryz.func112 rfl (aO (.of (ax 0 rfl)) (fun hlen=>(go 3 [0,0,54,0] ?_)))
 refine aF [0,1,7,8] [2,1,0] [] (fun (k:Nat) s=>(k≤l.l.length∧∀ a∈l.l.take k,Ψ a false)∧s=⟨[(0,true,l.val),(1,true,.func (.func F) #[] caps.toArray),(7,true,.int .i64 l.l.length),(8,true,.int .i64 k)],[ShF dE.row l,p,q],[]⟩) (fun k=>l.l.length-k) rfl (⟨0,⟨Nat.zero_le _,fun a ha=>by cases ha⟩,rfl⟩) ?_
 rintro k s ⟨⟨hk,hno⟩,rfl⟩
 refine go 3 [0] ?_
 refine aa _ rfl (fun h1 => ?_) (fun h1 => ?_)
 ·skip
  have hk':k<l.l.length:=by simpa using h1
  obtain ⟨a,ha⟩:∃ a,l.l[k]? = some a:=⟨l.l[k]'hk',by simp⟩
  refine go 0 [0,0,0,0,0] ?_
  refine UI Tryz.underlying45 tk54 0 rfl rfl rfl rfl rfl (ak ha) rfl rfl (fun ⟨b4_3,o4_3⟩=>(go 0 [19970] ?_))
  refine aE [1,0] (false) hF true rfl rfl (fun _=>rfl) (fun hc=>rfl) (fun hc=>h a (List.mem_of_getElem? ha)) (fun c hc=>(aNn ?_))
  refine aa _ rfl (fun h2 => ?_) (fun h2 => ?_)
  ·skip
   refine go 2 [0,0] ?_
   refine ae (aK (aj (aj (aK (aj (FZ1 [] Tryz.results112 rfl ?_))))))
   exact ⟨⟨rfl,rfl⟩,_,rfl,fun _=>⟨a,List.mem_of_getElem? ha,h2 ▸ hc rfl⟩,fun hz=>(hz (Int.natCast_nonneg k)).elim⟩
  ·skip
   refine go 1 [0,0] ?_
   refine an ?_
   refine ⟨[0,1,7,8],[2,1,0],[],rfl,?_⟩
   refine ⟨k+1,⟨⟨by omega,?_⟩,rfl⟩,by omega⟩
   intro y hy
   rw [List.take_add_one,ha,List.mem_append] at hy
   rcases hy with hy | hy
   · exact hno y hy
   · simp at hy;subst hy;exact h2 ▸ hc rfl
 ·skip
  refine go 2 [0] ?_
  refine ae (FZ1 [] Tryz.results112 rfl ?_)
  refine ⟨⟨rfl,rfl⟩,_,rfl,fun hz=>absurd hz (by decide),fun _ => ?_⟩
  rw [List.take_of_length_le (by simpa using h1)] at hno;exact hno
theorem qy(l:Sl dE)(F:FuncId)(caps:List Value)(p q:Per)(Ψ:dE→Bool→Prop)(hF:aX Tryz.prog F=true)(h:∀ a∈l.l,Con Tryz.prog F (a.val::caps) [p,q] [] (YN Value.bool (Ψ a))):Con Tryz.prog 70 [l.val,.func (.func F) #[] caps.toArray] [ShF dE.row l,p,q] []
   (YN Value.bool (fun b=>(b=true→∃ a∈l.l,Ψ a true)∧(b=false→∀ a∈l.l,Ψ a false))):=by
 refine EN2 Tryz.func70 rfl (go 0 [0,0,0] ?_)
 refine LT rfl (EC [2,1,0] [] rfl (qE l F caps p q Ψ hF h) ?_)
 rintro _ _ _ ⟨⟨rfl,rfl⟩,z,rfl,hz⟩
 refine aST ?_
 refine go 2 [0,0] ?_
 refine ae (FZ1 [] Tryz.results70 rfl ?_)
 exact ⟨⟨rfl,rfl⟩,_,rfl,fun hb=>hz.1 (by simpa using hb),fun hb=>hz.2 (by simpa using hb)⟩

theorem kX(l:Sl bS)(F:FuncId)(caps:List Value)(p q:Per)(Ψ:bS→Bool→Prop)(hF:aX Tryz.prog F=true)(h:∀ a∈l.l,Con Tryz.prog F (a.val::caps) [p,q] [] (YN Value.bool (Ψ a))):Con Tryz.prog 117 [l.val,.func (.func F) #[] caps.toArray] [ShF bS.row l,p,q] []
   (YN (fun z:Int=>.int .i64 z) (fun z=>(z≥0→∃ a∈l.l,Ψ a true)∧(¬ z≥0→∀ a∈l.l,Ψ a false))):=by
 refine EN2 Tryz.func117 rfl (aO (.of (ax 0 rfl)) (fun hlen=>(go 3 [0,0,134,0] ?_)))
 refine aF [0,1,7,8] [2,1,0] [] (fun (k:Nat) s=>(k≤l.l.length∧∀ a∈l.l.take k,Ψ a false)∧s=⟨[(0,true,l.val),(1,true,.func (.func F) #[] caps.toArray),(7,true,.int .i64 l.l.length),(8,true,.int .i64 k)],[ShF bS.row l,p,q],[]⟩) (fun k=>l.l.length-k) rfl (⟨0,⟨Nat.zero_le _,fun a ha=>by cases ha⟩,rfl⟩) ?_
 rintro k s ⟨⟨hk,hno⟩,rfl⟩
 refine go 3 [0] ?_
 refine aa _ rfl (fun h1 => ?_) (fun h1 => ?_)
 ·skip
  have hk':k<l.l.length:=by simpa using h1
  obtain ⟨a,ha⟩:∃ a,l.l[k]? = some a:=⟨l.l[k]'hk',by simp⟩
  refine go 0 [0,0,0,0,0] ?_
  refine UI Tryz.underlying49 tk134 0 rfl rfl rfl rfl rfl (ak ha) rfl rfl (fun ⟨b4_3,o4_3⟩=>(go 0 [26114] ?_))
  refine aE [1,0] (false) hF true rfl rfl (fun _=>rfl) (fun hc=>rfl) (fun hc=>h a (List.mem_of_getElem? ha)) (fun c hc=>(aNn ?_))
  refine aa _ rfl (fun h2 => ?_) (fun h2 => ?_)
  ·skip
   refine go 2 [0,0] ?_
   refine ae (aK (aj (aj (aK (aj (FZ1 [] Tryz.results117 rfl ?_))))))
   exact ⟨⟨rfl,rfl⟩,_,rfl,fun _=>⟨a,List.mem_of_getElem? ha,h2 ▸ hc rfl⟩,fun hz=>(hz (Int.natCast_nonneg k)).elim⟩
  ·skip
   refine go 1 [0,0] ?_
   refine an ?_
   refine ⟨[0,1,7,8],[2,1,0],[],rfl,?_⟩
   refine ⟨k+1,⟨⟨by omega,?_⟩,rfl⟩,by omega⟩
   intro y hy
   rw [List.take_add_one,ha,List.mem_append] at hy
   rcases hy with hy | hy
   · exact hno y hy
   · simp at hy;subst hy;exact h2 ▸ hc rfl
 ·skip
  refine go 2 [0] ?_
  refine ae (FZ1 [] Tryz.results117 rfl ?_)
  refine ⟨⟨rfl,rfl⟩,_,rfl,fun hz=>absurd hz (by decide),fun _ => ?_⟩
  rw [List.take_of_length_le (by simpa using h1)] at hno;exact hno
theorem kN(l:Sl bS)(F:FuncId)(caps:List Value)(p q:Per)(Ψ:bS→Bool→Prop)(hF:aX Tryz.prog F=true)(h:∀ a∈l.l,Con Tryz.prog F (a.val::caps) [p,q] [] (YN Value.bool (Ψ a))):Con Tryz.prog 74 [l.val,.func (.func F) #[] caps.toArray] [ShF bS.row l,p,q] []
   (YN Value.bool (fun b=>(b=true→∃ a∈l.l,Ψ a true)∧(b=false→∀ a∈l.l,Ψ a false))):=by
 refine EN2 Tryz.func74 rfl (go 0 [0,0,0] ?_)
 refine LT rfl (EC [2,1,0] [] rfl (kX l F caps p q Ψ hF h) ?_)
 rintro _ _ _ ⟨⟨rfl,rfl⟩,z,rfl,hz⟩
 refine aST ?_
 refine go 2 [0,0] ?_
 refine ae (FZ1 [] Tryz.results74 rfl ?_)
 exact ⟨⟨rfl,rfl⟩,_,rfl,fun hb=>hz.1 (by simpa using hb),fun hb=>hz.2 (by simpa using hb)⟩

theorem mc(l:Sl bY)(F:FuncId)(caps:List Value)(p q:Per)(Ψ:bY→Bool→Prop)(hF:aX Tryz.prog F=true)(h:∀ a∈l.l,Con Tryz.prog F (a.val::caps) [p,q] [] (YN Value.bool (Ψ a))):Con Tryz.prog 118 [l.val,.func (.func F) #[] caps.toArray] [ShF bY.row l,p,q] []
   (YN (fun z:Int=>.int .i64 z) (fun z=>(z≥0→∃ a∈l.l,Ψ a true)∧(¬ z≥0→∀ a∈l.l,Ψ a false))):=by
 refine EN2 Tryz.func118 rfl (aO (.of (ax 0 rfl)) (fun hlen=>(go 3 [0,0,28,0] ?_)))
 refine aF [0,1,7,8] [2,1,0] [] (fun (k:Nat) s=>(k≤l.l.length∧∀ a∈l.l.take k,Ψ a false)∧s=⟨[(0,true,l.val),(1,true,.func (.func F) #[] caps.toArray),(7,true,.int .i64 l.l.length),(8,true,.int .i64 k)],[ShF bY.row l,p,q],[]⟩) (fun k=>l.l.length-k) rfl (⟨0,⟨Nat.zero_le _,fun a ha=>by cases ha⟩,rfl⟩) ?_
 rintro k s ⟨⟨hk,hno⟩,rfl⟩
 refine go 3 [0] ?_
 refine aa _ rfl (fun h1 => ?_) (fun h1 => ?_)
 ·skip
  have hk':k<l.l.length:=by simpa using h1
  obtain ⟨a,ha⟩:∃ a,l.l[k]? = some a:=⟨l.l[k]'hk',by simp⟩
  refine go 0 [0,0,0,0,0] ?_
  refine UI Tryz.underlying25 tk28 0 rfl rfl rfl rfl rfl (ak ha) rfl rfl (fun ⟨b4_3,o4_3⟩=>(go 0 [10754] ?_))
  refine aE [1,0] (false) hF true rfl rfl (fun _=>rfl) (fun hc=>rfl) (fun hc=>h a (List.mem_of_getElem? ha)) (fun c hc=>(aNn ?_))
  refine aa _ rfl (fun h2 => ?_) (fun h2 => ?_)
  ·skip
   refine go 2 [0,0] ?_
   refine ae (aK (aj (aj (aK (aj (FZ1 [] Tryz.results118 rfl ?_))))))
   exact ⟨⟨rfl,rfl⟩,_,rfl,fun _=>⟨a,List.mem_of_getElem? ha,h2 ▸ hc rfl⟩,fun hz=>(hz (Int.natCast_nonneg k)).elim⟩
  ·skip
   refine go 1 [0,0] ?_
   refine an ?_
   refine ⟨[0,1,7,8],[2,1,0],[],rfl,?_⟩
   refine ⟨k+1,⟨⟨by omega,?_⟩,rfl⟩,by omega⟩
   intro y hy
   rw [List.take_add_one,ha,List.mem_append] at hy
   rcases hy with hy | hy
   · exact hno y hy
   · simp at hy;subst hy;exact h2 ▸ hc rfl
 ·skip
  refine go 2 [0] ?_
  refine ae (FZ1 [] Tryz.results118 rfl ?_)
  refine ⟨⟨rfl,rfl⟩,_,rfl,fun hz=>absurd hz (by decide),fun _ => ?_⟩
  rw [List.take_of_length_le (by simpa using h1)] at hno;exact hno
theorem ij(l:Sl bY)(F:FuncId)(caps:List Value)(p q:Per)(Ψ:bY→Bool→Prop)(hF:aX Tryz.prog F=true)(h:∀ a∈l.l,Con Tryz.prog F (a.val::caps) [p,q] [] (YN Value.bool (Ψ a))):Con Tryz.prog 81 [l.val,.func (.func F) #[] caps.toArray] [ShF bY.row l,p,q] []
   (YN Value.bool (fun b=>(b=true→∃ a∈l.l,Ψ a true)∧(b=false→∀ a∈l.l,Ψ a false))):=by
 refine EN2 Tryz.func81 rfl (go 0 [0,0,0] ?_)
 refine LT rfl (EC [2,1,0] [] rfl (mc l F caps p q Ψ hF h) ?_)
 rintro _ _ _ ⟨⟨rfl,rfl⟩,z,rfl,hz⟩
 refine aST ?_
 refine go 2 [0,0] ?_
 refine ae (FZ1 [] Tryz.results81 rfl ?_)
 exact ⟨⟨rfl,rfl⟩,_,rfl,fun hb=>hz.1 (by simpa using hb),fun hb=>hz.2 (by simpa using hb)⟩

end Go.Proofs.YtgkbbdgklpabpaaGreatDoor

namespace Go.Lp
open Go.RowKit Go.Proofs.YtgkbbdgklpabpaaGreatDoor
def ofBytes(l:List UInt8):ByteArray:=⟨l.toArray⟩
def vq:List (List UInt8 × List UInt8 × List UInt8 × List UInt8):=[
 ([],[],[],[]),
 ([110,111,112],[],[],[]),
 ([115,97,102,101],[],[],[]),
 ([115,101,116],[65,73],[],[65]),
 ([104,105,103,104],[65,73],[65],[65]),
 ([109,111,118,101],[65,66],[66],[65]),
 ([97,100,100],[65,66,67],[66,67],[65]),
 ([115,117,98],[65,66,67],[66,67],[65]),
 ([109,117,108],[65,66,67],[66,67],[65]),
 ([97,110,100],[65,66,67],[66,67],[65]),
 ([111,114],[65,66,67],[66,67],[65]),
 ([108,101,115,115],[65,66,67],[66,67],[65]),
 ([115,97,109,101],[65,66,67],[66,67],[65]),
 ([97,100,100,105],[65,66,73],[66],[65]),
 ([97,100,100,114],[65,73],[],[65]),
 ([108,111,97,100],[65,66,73],[66],[65]),
 ([98,121,116,101],[65,66,73],[66],[65]),
 ([115,116,111,114,101],[65,66,73],[65,66],[]),
 ([112,117,116],[65,66,73],[65,66],[]),
 ([106,117,109,112],[73],[],[]),
 ([122,101,114,111],[65,73],[65],[]),
 ([110,111,110,122,101,114,111],[65,73],[65],[]),
 ([99,97,108,108],[73],[83],[83]),
 ([99,97,108,108,114],[65],[65,83],[83]),
 ([99,97,108,108,115],[73],[83],[83]),
 ([106,117,109,112,115],[73],[],[]),
 ([114,101,116,117,114,110],[],[83],[83]),
 ([112,117,115,104],[65],[65,83],[83]),
 ([112,111,112],[65],[83],[65,83]),
 ([116,108,115],[65,66],[66],[65]),
 ([115,121,115],[73],[],[])]
def acr(r:List UInt8 × List UInt8 × List UInt8 × List UInt8):List Value:=[.string (ofBytes r.1),.string (ofBytes r.2.1),.string (ofBytes r.2.2.1),.string (ofBytes r.2.2.2)]
def nw:List Value:=vq.flatMap acr
def ac7(op:Nat):List UInt8:=(vq.getD op ([],[],[],[])).2.1
theorem xN{k:Nat}(h:k<31):k=0∨k=1∨k=2∨k=3∨k=4∨k=5∨k=6∨k=7∨k=8∨k=9∨k=10∨k=11∨k=12∨k=13∨k=14∨k=15∨k=16∨k=17∨k=18∨k=19∨k=20∨k=21∨k=22∨k=23∨k=24∨k=25∨k=26∨k=27∨k=28∨k=29∨k=30:=by omega
theorem uA{k:Nat}(h:k<31):nw[k*4+1]? = some (.string (ofBytes (ac7 k))):=by
 rcases xN h with rfl | rfl | rfl | rfl | rfl | rfl | rfl | rfl | rfl | rfl | rfl | rfl | rfl | rfl | rfl | rfl | rfl | rfl | rfl | rfl | rfl | rfl | rfl | rfl | rfl | rfl | rfl | rfl | rfl | rfl | rfl<;>rfl
end Go.Lp

namespace Go.Sy
open Go.RowKit Go.Lp
section
variable {P:Program} {n:Fr} {s:Sta} {d:Option Tmp} {ty:TypeId} {pos:String} {af:Array Edge} {gd:Option (Nat × Bool)} {v:Value}
theorem aaT{x:Operand}{U:TypeId}{ag:Bool}{k b p q:Nat}{row:List D}(o:Nat)(hk:tyk P U=some (ag,k))(hx:ev s.env x=some (true,.pointer (some ⟨b,q,none⟩)))(hi:At b p row∈s.ps)(ho:q=p+o)(hv:rdD ag k row o=some v) :
   Quiet P n ⟨d,.load U x,ty,pos,af,gd⟩ s v:=fun w S fp a hst he hn=>by
 subst ho
 have h1:=he.val hx rfl
 have:(execOp a.eval ⟨d,.load U x,ty,pos,af,gd⟩).run P w=.ok (.value v) w:=by
   unfold execOp;dsimp only;rw [h1]
   have:=mD (P:=P) hk hv (hst.per _ hi)
   show ((loadVar U ⟨b,p+o,none⟩).bind fun r=>Sem.pure (Next.value r)).run P w=_
   rw [Sem.run_bind',this];rfl
 rw [this];exact bE _ _
theorem zN{cs:List Value}{o:Nat}{k:Nat}(h:cs[o]? = some v):rdD false k (cs.map D.v) o=some v:=by
 unfold rdD;simp [h]
end
end Go.Sy
namespace Go.Proofs.YtgkbbdgklpabpaaGreatDoor
open Go.RowKit Go.Lp Go.Sy
abbrev zc(op a b c m:Int):List Value:=[.int .i64 op,.int .i64 a,.int .i64 b,.int .i64 c,.int .i64 m]
def uH(ch:UInt8):Nat:=if ch=65 then 1 else if ch=66 then 2 else if ch=67 then 3 else 4
theorem aai(a b:UInt8):((a.toNat:Int)=b.toNat)↔a=b:=by
 rw [← UInt8.toNat_inj];omega
def ac0:List UInt8:=[65,66,67,73]
def rC:List (List D):=[[.v (.int .u8 65)],[.v (.int .u8 66)],[.v (.int .u8 67)],[.v (.int .u8 73)]]
theorem yd{k:Nat}(hk:k<4):∃ ch,ac0[k]? = some ch∧rC[k]? = some [.v (.int .u8 ch.toNat)]:=by
 have:k=0∨k=1∨k=2∨k=3:=by omega
 rcases this with rfl | rfl | rfl | rfl<;>exact ⟨_,rfl,rfl⟩
def acq(op a b c m:Int)(ch:UInt8):Int:=if ch=65 then a else if ch=66 then b else if ch=67 then c else m
theorem zd(op a b c m:Int)(ch:UInt8):(zc op a b c m)[uH ch]? = some (.int .i64 (acq op a b c m ch)):=by
 unfold uH acq
 split
 · rfl
 · split
   · rfl
   · split<;>rfl
end Go.Proofs.YtgkbbdgklpabpaaGreatDoor

