/- Parts of the proof, in build order. No condition. -/
import Derived.Test.YtfkcmbonmpcbfaaGreatTb25
import Derived.Test.YtfkcmbonmpcbfaaGreatTb18
import Derived.Test.YtfkcmbonmpcbfaaGreatTb05
import Derived.Test.YtfkcmbonmpcbfaaGreatTb10
set_option linter.unusedSimpArgs false
set_option linter.unusedVariables false
set_option maxHeartbeats 1000000
set_option maxRecDepth 20000
namespace Go.Proofs.YtfkcmbonmpcbfaaGreat
open Go.RowKit Go.Lp Go.Sy Go.Lv Go.Sort
def oe(im:ak):List UInt8:=bS im.tls++List.replicate (im.block-(bS im.tls).length).toNat 0
def iN(s:bk)(M:Mem)(t m:Int)(im:ak):Prop:=(im.block=0∧s.at_ (t,m)=none)∨(0<im.block∧∃ a,s.at_ (t,m)=some a∧((⟨a,im.block,4,t,m⟩:Ar),oe im)∈M)
theorem p8{M:Mem}(h:cL M){x:Cell}(hx:x∈M){z:Int}(hz:z≤x.1.size):dP M x.1.at_ z=some x:=by
 have hx2:=b8.1 (h.inv.right x hx)
 have:(dP M x.1.at_ z).isSome=true:=by
   unfold dP
   rw [List.find?_isSome]
   refine ⟨x,hx,?_⟩
   unfold holds
   simp only [Bool.and_eq_true,decide_eq_true_eq]
   omega
 obtain ⟨y,hy⟩:=Option.isSome_iff_exists.1 this
 obtain ⟨h1,h2,h3,h4⟩:=gn hy
 have e:y=x:=by
   obtain ⟨i,hi⟩:=List.mem_iff_getElem?.1 hx
   obtain ⟨j,hj⟩:=List.mem_iff_getElem?.1 h1
   rcases Nat.lt_trichotomy i j with hlt | rfl | hlt
   · have:=h.inv.lt hi hj hlt;omega
   · rw [hi] at hj;exact (Option.some.inj hj).symm
   · have:=h.inv.lt hj hi hlt;omega
 rw [hy,e]
theorem yZ{M:Mem}(hM:cL M){a:Ar}(he:(mapM M a).2=0){b:List UInt8}(hb:(b.length:Int)≤a.size) :
   (a,b++List.replicate (a.size-b.length).toNat 0)∈(df (mapM M a).1 a.at_ b).1∧∀ y∈M,y.1.at_≠a.at_→y∈(df (mapM M a).1 a.at_ b).1:=by
 have hc:=(iC he (a,List.replicate a.size.toNat 0)).2 (.inl rfl)
 have hk:=hM.map a
 unfold df
 by_cases hb0:b=[]
 · subst hb0
   rw [if_pos rfl]
   exact ⟨by simpa using hc,fun y hy _=>(iC he y).2 (.inr hy)⟩
 · rw [if_neg hb0,p8 hk hc (by dsimp only;exact hb)]
   dsimp only
   unfold oW
   refine ⟨List.mem_map.2 ⟨_,hc,?_⟩,fun y hy hne=>List.mem_map.2 ⟨y,(iC he y).2 (.inr hy),if_neg hne⟩⟩
   rw [if_pos rfl,Int.sub_self]
   congr 1
   unfold fo
   simp only [Int.toNat_zero,List.take_zero,List.nil_append,Nat.zero_add,List.drop_replicate]
   rw [show a.size.toNat-b.length=(a.size-b.length).toNat by omega]
theorem vm{s:bk}{M:Mem}{t m:Int}{im:ak}{B:Int}(hM:cL M)(hl:M.length<4096)(hB:0≤B∧B≤549755813888)(hb:∀ x∈M,x.1.at_+x.1.size≤B)(hm:s.mods m=some im)(hr:jO im)(hz:im.block≤1048576)(hn:s.at_ (t,m)=none) :
   ∃ s' M',mkT s M t m=(s',M',true)∧s'.mods=s.mods∧s'.thr=s.thr∧cL M'∧M'.length≤M.length+1∧(∀ x∈M',x.1.at_+x.1.size≤B+1050624)∧iN s' M' t m im∧(∀ p,p≠(t,m)→s'.at_ p=s.at_ p)∧∀ y∈M,y∈M':=by
 obtain ⟨r0,r1⟩:=hr
 have hg:(s.mods m).getD default=im:=by rw [hm];rfl
 unfold mkT
 dsimp only
 rw [hg]
 by_cases hb0:im.block=0
 · rw [if_pos hb0]
   exact ⟨s,M,rfl,rfl,rfl,hM,Nat.le_succ _,fun x hx=>by have:=hb x hx;omega,.inl ⟨hb0,hn⟩,fun _ _=>rfl,fun _ h=>h⟩
 · rw [if_neg hb0]
   obtain ⟨a,ha,h1,h2,h3,h4,h5⟩:=vf hM.inv hB hb (size:=im.block) (by omega)
   rw [ha]
   have he:(mapM M ⟨a,im.block,4,t,m⟩).2=0:=aag hM hl ⟨h1,h3,h4⟩ ⟨by dsimp only;omega,by dsimp only;omega⟩ (by dsimp only;omega) h5
   have hw:=qF he (b:=bS im.tls) (by dsimp only;exact r1)
   have hmem:=yZ hM he (b:=bS im.tls) (by dsimp only;exact r1)
   have har:∀ r,r∈ars (df (mapM M ⟨a,im.block,4,t,m⟩).1 a (bS im.tls)).1↔r=⟨a,im.block,4,t,m⟩∨r∈ars M:=fun r=>by rw [jq];exact jo he r
   have hok:cL (df (mapM M ⟨a,im.block,4,t,m⟩).1 a (bS im.tls)).1:=(hM.map _).write _ _
   dsimp only at hw hmem
   rw [if_neg (by rw [he];simp),hw]
   refine ⟨_,_,rfl,rfl,rfl,hok,?_,fun x hx => ?_,.inr ⟨by omega,a,?_,hmem.1⟩,fun p hp => ?_,fun y hy=>hmem.2 y hy ?_⟩
   · have hnd:(ars (df (mapM M ⟨a,im.block,4,t,m⟩).1 a (bS im.tls)).1).Nodup:=(aa8 hok).imp fun {a b} h e=>by rw [e] at h;exact absurd h (Int.lt_irrefl _)
     have:=jB hnd (m:=⟨a,im.block,4,t,m⟩::ars M) fun r hr=>by
       rcases (har r).1 hr with h | h
       · rw [h];exact List.mem_cons_self
       · exact List.mem_cons_of_mem _ h
     simpa [ars] using this
   · rcases (har x.1).1 (fG.2 ⟨x,hx,rfl⟩) with h | h
     · rw [h];dsimp only;omega
     · obtain ⟨y,hy,e⟩:=fG.1 h
       have:=hb y hy
       rw [e] at this;omega
   · show aZ s.at_ (t,m) a (t,m)=some a
     unfold aZ;rw [if_pos rfl]
   · show aZ s.at_ (t,m) a p=s.at_ p
     unfold aZ;rw [if_neg hp]
   · have:=h5 y hy
     have hyr:=b8.1 (hM.inv.right y hy)
     omega
theorem iN.keep{s s':bk}{M M':Mem}{t m:Int}{im:ak}(h:iN s M t m im)(h1:s'.at_ (t,m)=s.at_ (t,m))(h2:∀ y∈M,y∈M'):iN s' M' t m im:=by
 rcases h with ⟨a,b⟩ | ⟨a,z,b,c⟩
 · exact .inl ⟨a,h1.trans b⟩
 · exact .inr ⟨a,z,h1.trans b,h2 _ c⟩
theorem xi{M:Mem}(hM:cL M){a t m:Int}{im:ak}(hb:0<im.block)(h:((⟨a,im.block,4,t,m⟩:Ar),oe im)∈M):jg M a im.block=(oe im,0):=by
 have hl:=hM.inv.len _ h
 dsimp only at hl
 have hf:=p8 hM h (z:=im.block) (Int.le_refl _)
 dsimp only at hf
 unfold jg
 rw [if_neg (by omega),if_neg (by omega),hf]
 unfold rng
 dsimp only
 rw [Int.sub_self,Int.toNat_zero,List.drop_zero,List.take_of_length_le (by omega)]
theorem wV{s s':bk}{M M':Mem}{t m:Int}(ht:0≤t)(hn:s.thr t=none)(hm:∀ k,k∈[m]↔(s.mods k).isSome=true)(hk:mkT { s with thr:=aZ s.thr t true } M t m=(s',M',true)){x:bk × Mem}{e:Int}(h:rT s M t x e):x=(s',M')∧e=0:=by
 rcases h with ⟨h1,_⟩ | ⟨_,h1,_⟩ | ⟨_,_,ks,hks,hlt,h⟩
 · omega
 · rw [hn] at h1;cases h1
 · have e0:ks=[m]:=jb hks hlt (by simp) hm
   subst e0
   have hk2:eH t ({ s with thr:=aZ s.thr t true },M) m=(s',M',true):=hk
   have e1:cQ (eH t) ({ s with thr:=aZ s.thr t true },M) [m]=((s',M'),true):=by
     rw [fx (by rw [hk2]),hk2];rfl
   rw [e1] at h
   rcases h with ⟨_,rfl,rfl⟩ | ⟨h1,_⟩
   · exact ⟨rfl,rfl⟩
   · cases h1
theorem mod_one{s s':bk}{M M':Mem}{t m:Int}{im:ak}(h0:0≤m)(hn:s.mods m=none)(hm:∀ k,k∈[t]↔(s.thr k).isSome=true)(hk:mkT { s with mods:=aZ s.mods m im } M t m=(s',M',true)){x:bk × Mem}{e:Int}(h:uh s M m im true x e):x=(s',M')∧e=0:=by
 rcases h with ⟨h1 | h1,_⟩ | ⟨_,_,h1,_⟩ | ⟨_,_,_,ks,hks,hlt,h⟩
 · omega
 · cases h1
 · rw [hn] at h1;cases h1
 · have e0:ks=[t]:=jb hks hlt (by simp) hm
   subst e0
   have hk2:fJ m ({ s with mods:=aZ s.mods m im },M) t=(s',M',true):=hk
   have e1:cQ (fJ m) ({ s with mods:=aZ s.mods m im },M) [t]=((s',M'),true):=by
     rw [fx (by rw [hk2]),hk2];rfl
   rw [e1] at h
   rcases h with ⟨_,rfl,rfl⟩ | ⟨h1,_⟩
   · exact ⟨rfl,rfl⟩
   · cases h1
theorem wJ{α β:Type}[DecidableEq α]{f g:α→Option β}{k:α}{v:β}(hf:f=aZ g k v)(hg:∀ j,j≠k→g j=none)(j:α):j∈[k]↔(f j).isSome=true:=by
 rw [hf,jA,List.mem_singleton]
 refine ⟨.inl,fun h=>h.elim id fun h => ?_⟩
 by_cases e:j=k
 · exact e
 · rw [hg j e] at h;cases h
theorem qM{m:Int}(hm0:0≤m){im next:ak}(hri:jO im)(hrn:jO next)(hbi:im.block≤4096)(hbn:next.block≤4096)
   {x1:bk × Mem} {e1:Int} (h1:rT fB [] 1 x1 e1) {x2:bk × Mem} {e2:Int} (h2:uh x1.1 x1.2 m im true x2 e2) {x3:bk × Mem} {e3:Int} (h3:rT x2.1 x2.2 0 x3 e3) {br2:Bool} (hb2:(x3.1.mods m).isSome=true→br2=true) {s4:bk} {e4:Int} (h4:xa x3.1 m next br2 s4 e4) {x5:bk × Mem} {e5:Int} (h5:rT s4 x3.2 2 x5 e5) :
   (e1=0∧e2=0∧e3=0∧e5=0∧(e4=0↔im.block=next.block))∧cL x5.2∧iN x5.1 x5.2 1 m im∧iN x5.1 x5.2 0 m im∧iN x5.1 x5.2 2 m (if e4=0 then next else im):=by
 have a1:x1=({ fB with thr:=aZ fB.thr 1 true },[])∧e1=0:=by
   rcases h1 with ⟨k,_⟩ | ⟨_,k,_⟩ | ⟨_,_,ks,hks,hlt,h⟩
   · omega
   · cases k
   · have e0:ks=[]:=jb hks hlt .nil fun k=>⟨fun h=>(by cases h),fun h=>(by cases h)⟩
     subst e0
     rcases h with ⟨_,rfl,rfl⟩ | ⟨k,_⟩
     · exact ⟨rfl,rfl⟩
     · cases k
 obtain ⟨rfl,rfl⟩:=a1
 -- the module
 obtain ⟨s2,M2,k2,m2,t2,o2,l2,b2,c2,p2,y2⟩:=vm (s := { ({ fB with thr:=aZ fB.thr 1 true } : bk) with mods:=aZ fB.mods m im }) (M:=[]) (t:=1) (m:=m) (im:=im) (B:=0) cL.nil (by decide) ⟨Int.le_refl _,by decide⟩ (fun x h=>by cases h) (by show aZ fB.mods m im m=some im;unfold aZ;rw [if_pos rfl]) hri (by omega) rfl
 obtain ⟨rfl,rfl⟩:=mod_one hm0 rfl (wJ (g:=fB.thr) (v:=true) rfl fun j _=>rfl) k2 h2
 dsimp only at h3
 -- the next thread
 obtain ⟨s3,M3,k3,m3,t3,o3,l3,b3,c3,p3,y3⟩:=vm (s := { s2 with thr:=aZ s2.thr 0 true }) (M:=M2) (t:=0) (m:=m) (im:=im) (B:=1050624) o2 (by simp at l2;omega) ⟨by decide,by decide⟩ (fun x h=>by have:=b2 x h;omega) (by show s2.mods m=some im;rw [m2];show aZ fB.mods m im m=some im;unfold aZ;rw [if_pos rfl]) hri (by omega) (by show s2.at_ (0,m)=none;rw [p2 _ (fun e=>by cases e)];rfl)
 obtain ⟨rfl,rfl⟩:=wV (Int.le_refl _) (by rw [t2];show aZ fB.thr 1 true 0=none;unfold aZ;rw [if_neg (by decide)];rfl) (wJ (g:=fB.mods) (v:=im) m2 fun j _=>rfl) k3 h3
 dsimp only at h4 h5 hb2
 have m3':s3.mods=aZ fB.mods m im:=m3.trans m2
 have hsm:s3.mods m=some im:=by rw [m3'];unfold aZ;rw [if_pos rfl]
 obtain rfl:=hb2 (by rw [hsm];rfl)
 -- the image is replaced
 have a4 : (e4=0↔im.block=next.block)∧s4.thr=s3.thr∧s4.at_=s3.at_∧s4.mods m=some (if e4=0 then next else im)∧∀ j,j≠m→s4.mods j=none:=by
   have ho:∀ j,j≠m→s3.mods j=none:=fun j hj=>by rw [m3'];unfold aZ;rw [if_neg hj];rfl
   rcases h4 with ⟨k,_⟩ | ⟨old,k,h⟩
   · rw [hsm] at k;cases k
   · rw [hsm] at k
     obtain rfl:=Option.some.inj k
     rcases h with ⟨k1 | k1,rfl,rfl⟩ | ⟨_,k1,rfl,rfl⟩
     · cases k1
     · exact ⟨⟨fun h=>absurd h (by decide),fun h=>absurd h.symm k1⟩,rfl,rfl,hsm,ho⟩
     · refine ⟨⟨fun _=>k1.symm,fun _=>rfl⟩,rfl,rfl,?_,fun j hj => ?_⟩
       · show aZ s3.mods m next m=_
         unfold aZ;rw [if_pos rfl,if_pos rfl]
       · show aZ s3.mods m next j=none
         unfold aZ;rw [if_neg hj];exact ho j hj
 obtain ⟨q4,t4,at4,ml,mo⟩:=a4
 have hrl:jO (if e4=0 then next else im):=by split<;>assumption
 have hbl:(if e4=0 then next else im).block≤1048576:=by split<;>omega
 generalize hlt:(if e4=0 then next else im)=later at ml hrl hbl
 obtain ⟨s5,M5,k5,m5,t5,o5,l5,b5,c5,p5,y5⟩:=vm (s := { s4 with thr:=aZ s4.thr 2 true }) (M:=M3) (t:=2) (m:=m) (im:=later) (B:=2101248) o3 (by simp at l2;omega) ⟨by decide,by decide⟩ (fun x h=>by have:=b3 x h;omega) ml hrl hbl (by show s4.at_ (2,m)=none;rw [at4,p3 _ (fun e=>by cases e)];show s2.at_ (2,m)=none;rw [p2 _ (fun e=>by cases e)];rfl)
 obtain ⟨rfl,rfl⟩:=wV (by decide) (by rw [t4,t3];show aZ s2.thr 0 true 2=none;unfold aZ;rw [if_neg (by decide),t2];show aZ fB.thr 1 true 2=none;unfold aZ;rw [if_neg (by decide)];rfl)
   (fun j=>by
     rw [List.mem_singleton]
     constructor
     · rintro rfl;rw [ml];rfl
     · intro h
       refine Classical.byContradiction fun hj => ?_
       rw [mo j hj] at h;cases h) k5 h5
 refine ⟨⟨rfl,rfl,rfl,rfl,q4⟩,o5,?_,?_,c5⟩
 · exact (c2.keep (s':=s3) (M':=M3) (by rw [p3 _ (fun e=>by cases e)]) y3).keep (by rw [p5 _ (fun e=>by cases e)];exact congrFun at4 _) y5
 · exact c3.keep (by rw [p5 _ (fun e=>by cases e)];exact congrFun at4 _) y5
end Go.Proofs.YtfkcmbonmpcbfaaGreat

namespace Go.Sy
open Go.RowKit Go.Lp
section
variable {P:Program} {n:Fr} {env:Env} {ps:List Per} {hp:List Res} {d:Option Tmp} {ty:TypeId} {pos:String} {af:Array Edge} {gd:Option (Nat × Bool)}
theorem tz{x:Operand}{T E T2:TypeId}{m c:Nat}{ad:Option Addr}{rows:List (List D)}(i:Nat)(bs:List UInt8)(hT:P.underlying T=some (.slice E))(hE:P.underlying E=some (.int .u8))(hD:P.underlying T2=some .string)(hx:ev env x=some (true,.slice ad m c))
   (hi:hp[i]? = some (aD (.slice ad m c) E 1 rows)) (hr:rows=bs.map fun b=>[.v (.int .u8 b.toNat)]) :
   Quiet P n ⟨d,.convert T T2 x,ty,pos,af,gd⟩ ⟨env,ps,hp⟩ (.string (ofBytes bs)):=by
 by_cases h0:bs=[]
 · subst h0
   subst hr
   intro w S fp a hst he hn
   have h1:=he.val hx rfl
   have hcv:(convert T T2 (.slice ad m c)).run P w=.ok (.string (ofBytes [])) w:=by
     rw [run_convert_bytes_string w T T2 E _ _ _ hT hE hD]
     rcases hst.res i _ hi with ⟨h,_,_⟩ | ⟨b,cap,hv,_,_⟩
     · injection h with h2 _ _
       subst h2
       rfl
     · injection hv with hv1 hv2 hv3
       subst hv1 hv2
       exact run_bytesToString w ⟨b,0,none⟩ 0 c [] (run_loadCells w ⟨b,0,none⟩ 0 (fun _=>undef) (fun k hk=>absurd hk (Nat.not_lt_zero _)))
   have hx2:(execOp a.eval ⟨d,.convert T T2 x,ty,pos,af,gd⟩).run P w=.ok (.value (.string (ofBytes []))) w:=by
     unfold execOp;dsimp only;rw [h1]
     show ((convert T T2 _).bind fun r=>Sem.pure (Next.value r)).run P w=_
     rw [Sem.run_bind',hcv];rfl
   rw [hx2];exact bu _ _
 · exact vG i bs hT hE hD hx hi hr h0
end
end Go.Sy

namespace Go.Proofs.YtfkcmbonmpcbfaaGreat
open Go.RowKit Go.Lp Go.Sy Go.Lv Go.Sort
open Go.Proofs.Tryz
attribute [local irreducible] aL aB awp aC fwp Quiet
theorem yc{im:ak} : im.tls++ofBytes (List.replicate (im.block-(bS im.tls).length).toNat 0)=bytesOf (oe im):=by
 unfold oe
 rw [na,qN]
 rfl
theorem fv(b p mb tb ab:Nat)(s:bk)(M:Mem)(hM:cL M)(t m:Int)(im:ak)(hr:jO im)(hz:im.block≤4096)(hc:iN s M t m im)(hI:∀ k a,s.at_ k=some a→I64 a) :
   Con Tryz.prog 21 [.pointer (some ⟨b,0,none⟩),.pointer (some ⟨p,0,none⟩),.int .i64 t,.int .i64 m,im.val] [im.ok] (fO b p mb tb ab s M) fun r ps hp=>ps=[]∧hp=fO b p mb tb ab s M∧r=.bool true:=by
 obtain ⟨r0,r1⟩:=hr
 have hlen:(bS im.tls).length=im.tls.size:=j3 _
 refine EN5 Tryz.func21 rfl (aSR (LT rfl (bz rfl rfl rfl (fun b0_0=>(aHN ?_)))))
 refine aA rfl (aNn (aSR (aM rfl (aM rfl (aM rfl (LF rfl (EC [] [0,1,2,3,4] rfl (wk b p mb tb ab s M t m) ?_)))))))
 rintro _ _ _ ⟨rfl,rfl,rfl⟩
 refine aST ?_
 refine aM rfl (aU rfl (aK rfl rfl) (aU rfl (aK rfl rfl) (aA rfl (aA rfl (aNs (aSR (UO 7 rfl rfl (UL 5 tk3 rfl rfl rfl rfl (aU rfl (bw rfl rfl) (aNn ?_))))))))))
 refine ah _ rfl (fun h1 => ?_) (fun h1 => ?_)
 ·skip
  have hb0:im.block=0:=by simpa using h1
  have hnone:s.at_ (t,m)=none:=hc.elim (fun h=>h.2) fun h=>by omega
  refine aSR (aM rfl (aU rfl (bY rfl) (aA rfl (aNn (aj (aN (FZ1 [0,1,2,3,4] Tryz.results21 rfl ?_)))))))
  exact ⟨rfl,rfl,by rw [hnone];rfl⟩
 ·skip
  have hb0:im.block≠0:=by simpa using h1
  obtain ⟨a,ha,hcell⟩:∃ a,s.at_ (t,m)=some a∧((⟨a,im.block,4,t,m⟩:Ar),oe im)∈M:=hc.elim (fun h=>absurd h.1 hb0) fun h=>h.2
  have hrd:=xi hM (by omega) hcell
  rw [ha]
  refine ai (an (aSR (aM rfl (aM rfl (UO 7 rfl rfl (UL 5 tk3 rfl rfl rfl rfl (LF rfl (EC [] [4] rfl (tV p M hM a im.block (hI _ _ ha)) ?_))))))))
  rintro _ _ _ ⟨rfl,rfl,rfl⟩
  refine aST ?_
  rw [hrd]
  refine aM rfl (aU rfl (aK rfl rfl) (aU rfl (aK rfl rfl) (aA rfl (aA rfl (aNs (DC [16] [] [b0_0] 21 (CF 0 rfl rfl rfl (az rfl) (CF 1 rfl rfl rfl (az rfl) (CF 2 rfl rfl rfl (az rfl) (CF 3 rfl rfl rfl (bw rfl rfl) (CF 4 rfl rfl rfl (aQ rfl rfl (fun _=>rfl)) (CF 5 rfl rfl rfl (az rfl) (CF 6 rfl rfl rfl (az rfl) (CF 7 rfl rfl rfl (qFA (off:=6) rfl) ?_))))))))))))))
  refine dt 8 5 rfl (by kernel_rfl) true rfl rfl (by simp) tk9 (fun _=>rfl) rfl rfl ?_
  refine CF 9 rfl rfl rfl (qFA (off:=7) rfl) ?_
  refine dt 10 5 rfl (by kernel_rfl) true rfl rfl (by simp) tk3 (fun _=>rfl) rfl rfl ?_
  refine CF 11 rfl rfl rfl (qFA (off:=6) rfl) ?_
  refine dt 12 5 rfl (by kernel_rfl) true rfl rfl (by simp) tk9 (fun _=>rfl) rfl rfl ?_
  refine CF 13 rfl rfl rfl (ep Tryz.underlying9 rfl) (CF 14 rfl rfl rfl (bN rfl rfl (by omega)) ?_)
  refine cr 15 [] (by kernel_rfl) (bD ?_ bX)
  refine c7 15 rfl rfl (Eff.x (id (fR (m:=(im.block-(bS im.tls).length).toNat) (zs:=[.int .u8 0]) el89 (by kernel_rfl) rfl (by decide) (dv rfl (by omega)) (dv rfl (by omega)) (by omega) rfl (fun v5_15=>(CST ?_)))))
  refine cr 16 [] (by kernel_rfl) (bD ?_ bX)
  refine c7 16 rfl rfl (Eff.framed (q:=false) [6] rfl rfl (gF 5 rfl rfl oX) ?_)
  refine Quiet.eff (tz 0 (List.replicate (im.block-(bS im.tls).length).toNat 0) Tryz.underlying89 Tryz.underlying5 Tryz.underlying9 rfl rfl (by simp)) rfl ?_
  refine i7 (CST ?_)
  refine CF 17 rfl rfl rfl ((acK rfl rfl (by show im.tls.size+(List.replicate (im.block-(bS im.tls).length).toNat (0:UInt8)).length≤maxLen;rw [List.length_replicate];exact Nat.le_trans (show _≤4096 by omega) (by decide))).castV (v':=.string (bytesOf (oe im))) (congrArg Value.string yc)) ?_
  refine CF 18 rfl rfl rfl ((vN rfl rfl).castV (v':=.bool true) (congrArg Value.bool (beq_self_eq_true _))) (CF 19 rfl rfl rfl (aQ rfl rfl (fun _=>rfl)) (CF 20 rfl rfl rfl (bB rfl) (fg (by kernel_rfl) (an (aj (FZ1 [0,1,2,3,4] Tryz.results21 rfl ?_))))))
  exact ⟨rfl,rfl,rfl⟩
theorem pg(im next:ak)(hi:jM im)(hn:jM next)(m:Int) :
   Con Tryz.prog 4 [im.val,next.val,.int .i64 m] [im.ok,next.ok] [] fun r _ _=>r=.bool true:=by
 have hims:∀ i,jM (eB [im,next] i):=fun i=>by
   unfold eB
   rw [if_neg (by simp)]
   have h1:=Int.emod_nonneg i (show (([im,next]:List ak).length:Int)≠0 by simp)
   have h2:=Int.emod_lt_of_pos i (show 0<(([im,next]:List ak).length:Int) by simp)
   have hm:elt [im,next] (i % ([im,next]:List ak).length)∈[im,next]:=List.mem_of_getElem? (gV (by omega) (by omega))
   rcases List.mem_cons.1 hm with e | hm
   · rw [e];exact hi
   · rw [List.mem_singleton.1 hm];exact hn
 refine EN3 Tryz.func4 rfl (aSR (LT rfl (bz rfl rfl rfl (fun b0_0=>(aHN ?_)))))
 refine LT rfl (bz rfl rfl rfl (fun b0_1=>(aHN ?_)))
 refine aA rfl (aNn (aSR (LT rfl (EC [] [] rfl (sG) ?_))))
 rintro _ _ _ ⟨rfl,rfl,rfl⟩
 refine aST ?_
 refine aA rfl (aNn (aSR (LT rfl (EC [] [] rfl (pT) ?_))))
 rintro _ _ _ ⟨rfl,p,rfl,rfl⟩
 refine aST ?_
 refine aA rfl (aNs (aSR (UL 0 tk40 rfl rfl rfl rfl (UL 1 tk40 rfl rfl rfl rfl (LT rfl (WL (zs:=ZI) (l:=[(0,.tmp 18),(1,.tmp 19)]) el49 rfl rfl rfl (.more rfl (.v rfl (.v rfl (.v rfl (.v rfl (.v rfl (.v rfl (.v rfl (.v rfl (.v rfl (.v rfl (.v rfl (.v rfl (.v rfl (.v rfl (.v rfl (.v rfl (.v rfl (.v rfl (.v rfl (.v rfl (.v rfl (.v rfl (.v rfl (.v rfl (.v rfl (.v rfl .nil)))))))))))))))))))))))))) (.more rfl (.v rfl (.v rfl (.v rfl (.v rfl (.v rfl (.v rfl (.v rfl (.v rfl (.v rfl (.v rfl (.v rfl (.v rfl (.v rfl (.v rfl (.v rfl (.v rfl (.v rfl (.v rfl (.v rfl (.v rfl (.v rfl (.v rfl (.v rfl (.v rfl (.v rfl (.v rfl .nil)))))))))))))))))))))))))) .nil)) rfl rfl (fun v3_2=>(aHN ?_))))))))
 refine kh 3 rfl (aU rfl (Q1 rfl (xt ⟨none,0,[]⟩ ⟨v3_2,2,[im,next]⟩) 0 rfl) (aU rfl (bY rfl) (aM rfl (aG rfl rfl (fun hc=>az rfl) (aG rfl rfl (fun hc=>kP (by kernel_rfl) (aa rfl hc)) (aU rfl (cm rfl rfl (fun h=>gf rfl h)) (aM rfl (aG rfl rfl (fun hc=>az rfl) (aG rfl rfl (fun hc=>bg (aa rfl hc) rfl) (aU rfl (cm rfl rfl (fun h=>gf rfl h)) (aM rfl (aG rfl rfl (fun hc=>bJ 0 tk40 rfl rfl rfl) ?_))))))))))))
 refine ga (caps:=[]) [1] (false) (by kernel_rfl) _ rfl rfl (fun _=>rfl) (fun hc=>(ax (aa rfl hc) rfl)) (fun hc=>by rw [List.append_nil];exact gA im hi.r) (fun b1 hb1 => ?_)
 refine aG rfl rfl (fun hc=>bY (aa rfl hc)) (aU rfl (cm rfl rfl (fun h=>gf rfl h)) (aM rfl (aG rfl rfl (fun hc=>bJ 1 tk40 rfl rfl rfl) ?_)))
 refine ga (caps:=[]) [0] (false) (by kernel_rfl) _ rfl rfl (fun _=>rfl) (fun hc=>(ax (aa rfl hc) rfl)) (fun hc=>by rw [List.append_nil];exact gA next hn.r) (fun b2 hb2 => ?_)
 refine aG rfl rfl (fun hc=>bY (aa rfl hc)) (aU rfl (cm rfl rfl (fun h=>gf rfl h)) (aNn ?_))
 refine ah _ rfl (fun h1 => ?_) (fun h1 => ?_)
 ·skip
  refine aSR (aM rfl (aM rfl (aG rfl rfl (fun hc=>az rfl) (aG rfl rfl (fun hc=>aby (by kernel_rfl) (aa rfl hc)) (aU rfl (aQ rfl rfl (fun h=>gt rfl h)) (aA rfl (aNn (aj (aN (FZ1 [] Tryz.results4 rfl ?_))))))))))
  rfl
 ·skip
  obtain ⟨hA,hb2t⟩:=Bool.or_eq_false_iff.1 h1
  obtain ⟨hB,hb1t⟩:=Bool.or_eq_false_iff.1 hA
  obtain ⟨hC,hm0⟩:=Bool.or_eq_false_iff.1 hB
  obtain ⟨hD,_⟩:=Bool.or_eq_false_iff.1 hC
  rw [Bool.not_eq_false'] at hb1t hb2t
  have hRi:=(hb1 (by rw [hB];rfl)).1 hb1t
  have hRn:=(hb2 (by rw [hA];rfl)).1 hb2t
  have hm:0≤m:=by simp at hm0;omega
  have hti:=oQ hRi.2
  have htn:=oQ hRn.2
  have hfew:im.block≤4096∧next.block≤4096:=by
    rw [Bool.not_eq_false',Bool.and_eq_true] at hD
    have:=hD.1
    simp [fW] at this
    omega
  refine ai (an (aq (gb [2,3,4,7,8] [1,0] [0,1,2] rfl ?_)))
  show awp _ _ _ _ ⟨[(2,true,.int .i64 m),(3,true,.pointer (some ⟨b0_0,0,none⟩)),(4,true,.pointer (some ⟨b0_1,0,none⟩)),(7,true,.bool true),(8,true,.pointer (some ⟨p,0,none⟩))],[im.ok,next.ok],[Box b0_0 40 im.vs,Box b0_1 40 next.vs,SpR p []]⟩
  refine ae (aM rfl (LT rfl (EC [] [] rfl (sN p) ?_)))
  rintro _ _ _ ⟨rfl,b,mb,tb,ab,rfl,rfl⟩
  refine aST ?_
  refine aA rfl (aNs (aSR (aM rfl (aU rfl (kP (by kernel_rfl) rfl) (aNn ?_)))))
  refine ah _ rfl (fun h2 => ?_) (fun h2 => ?_)
  ·skip
   cases h2
  ·skip
   refine ai (an (aq (gb [2,3,4,7,8,9] [1,0] [3,4,5,6,2,0,1] rfl ?_)))
   show awp _ _ _ _ ⟨[(2,true,.int .i64 m),(3,true,.pointer (some ⟨b0_0,0,none⟩)),(4,true,.pointer (some ⟨b0_1,0,none⟩)),(7,true,.bool true),(8,true,.pointer (some ⟨p,0,none⟩)),(9,true,.pointer (some ⟨b,0,none⟩))],[im.ok,next.ok],fO b p mb tb ab fB []++[Box b0_0 40 im.vs,Box b0_1 40 next.vs]⟩
   have hQ0:=TQ.start
   refine ae (aM rfl (LF rfl (EC [] [0,1,2,3,4] rfl (fI b p mb tb ab fB (hQ0.ok (by decide)).fit (hQ0.ok (by decide)).fa (hQ0.ok (by decide)).fm (by decide) [] cL.nil 1) ?_)))
   rintro _ _ _ ⟨rfl,x1,e1,hx1,rfl,rfl⟩
   refine aST ?_
   have hQ1:=hQ0.step hims (a:=⟨1,1,0,0,0⟩) (.inr (.inl ⟨rfl,hx1⟩))
   refine aA rfl (aNn (aSR (aM rfl (aM rfl (UL 5 tk40 rfl rfl rfl rfl (LF rfl (EC [1] [0,1,2,3,4] rfl (iY b p mb tb ab x1.1 (hQ1.ok (by decide)).fit (hQ1.ok (by decide)).fa (hQ1.ok (by decide)).ft (by decide) x1.2 hQ1.ti.blk.ok m im hi) ?_)))))))
   rintro _ _ _ ⟨rfl,br1,x2,e2,hbr1,hx2,rfl,rfl⟩
   refine aST ?_
   have hQ2:=hQ1.step hims (a:=⟨0,m,0,0,0⟩) (.inl ⟨rfl,br1,hbr1,hx2⟩)
   obtain rfl:=(hbr1 hm).2 hRi
   refine aA rfl (aNn (aSR (aM rfl (LF rfl (EC [] [0,1,2,3,4] rfl (fI b p mb tb ab x2.1 (hQ2.ok (by decide)).fit (hQ2.ok (by decide)).fa (hQ2.ok (by decide)).fm (by decide) x2.2 hQ2.ti.blk.ok 0) ?_)))))
   rintro _ _ _ ⟨rfl,x3,e3,hx3,rfl,rfl⟩
   refine aST ?_
   have hQ3:=hQ2.step hims (a:=⟨1,0,0,0,0⟩) (.inr (.inl ⟨rfl,hx3⟩))
   refine aA rfl (aNn (aSR (aM rfl (aM rfl (UL 6 tk40 rfl rfl rfl rfl (LF rfl (EC [0] [0,1,2,3,4] rfl (nw b p mb tb ab x3.1 x3.2 m next hn) ?_)))))))
   rintro _ _ _ ⟨rfl,br2,s4,e4,hbr2,hx4,rfl,rfl⟩
   refine aST ?_
   have hQ4:=hQ3.step hims (a:=⟨2,m,0,1,0⟩) (x:=(s4,x3.2)) (.inr (.inr (.inl ⟨rfl,br2,s4,hbr2,hx4,rfl⟩)))
   refine aA rfl (aNn (aSR (aM rfl (LF rfl (EC [] [0,1,2,3,4] rfl (fI b p mb tb ab s4 (hQ4.ok (by decide)).fit (hQ4.ok (by decide)).fa (hQ4.ok (by decide)).fm (by decide) x3.2 hQ4.ti.blk.ok 2) ?_)))))
   rintro _ _ _ ⟨rfl,x5,e5,hx5,rfl,rfl⟩
   refine aST ?_
   have hQ5:=hQ4.step hims (a:=⟨1,2,0,0,0⟩) (.inr (.inl ⟨rfl,hx5⟩))
   obtain ⟨⟨rfl,rfl,rfl,rfl,hq⟩,hok5,hc1,hc0,hc2⟩:=qM hm hti htn hfew.1 hfew.2 hx1 hx2 hx3 (fun h=>(hbr2 h).2 hRn) hx4 hx5
   refine aA rfl (aNs (aSR (aM rfl (aU rfl (dS rfl rfl) (aM rfl (aG rfl rfl (fun hc=>az rfl) (aG rfl rfl (fun hc=>dS (aa rfl hc) rfl) (aU rfl (cm rfl rfl (fun h=>gf rfl h)) (aM rfl (aG rfl rfl (fun hc=>az rfl) (aG rfl rfl (fun hc=>dS (aa rfl hc) rfl) (aU rfl (cm rfl rfl (fun h=>gf rfl h)) ?_))))))))))))
   refine aM rfl (aG rfl rfl (fun hc=>az rfl) (aG rfl rfl (fun hc=>dS (aa rfl hc) rfl) (aU rfl (cm rfl rfl (fun h=>gf rfl h)) (aM rfl (aG rfl rfl (fun hc=>az rfl) (aG rfl rfl (fun hc=>bw (aa rfl hc) rfl) (GO 7 rfl rfl rfl (GL 5 tk3 rfl rfl rfl rfl rfl (GO 7 rfl rfl rfl (GL 6 tk3 rfl rfl rfl rfl rfl (aG rfl rfl (fun hc=>bw (aa rfl hc) (aa rfl hc)) (aG rfl rfl (fun hc=>acI (by kernel_rfl) (aa rfl hc) (aa rfl hc)) (aU rfl (cm rfl rfl (fun h=>gf rfl h)) (aNn ?_))))))))))))))
   refine ah _ rfl (fun h3 => ?_) (fun h3 => ?_)
   ·skip
    exfalso
    have e:decide (e4=0)=decide (im.block=next.block):=decide_eq_decide.2 hq
    rw [e] at h3
    simp at h3
   ·skip
    refine ai (an (aSR (UL 5 tk40 rfl rfl rfl rfl (LT rfl (bt (zs:=ZI) (by kernel_rfl) rfl (fun b15_1=>(aHN ?_)))))))
    refine aI rfl (aW 7 tk40 rfl rfl rfl rfl (aHK ?_))
    refine aNs (aSR (aM rfl (aU rfl (bw rfl rfl) (aNn ?_))))
    refine ah _ rfl (fun h4 => ?_) (fun h4 => ?_)
    ·skip
     rw [if_pos (by simpa using h4)] at hc2
     have hE:∀ ps:List Per,im.ok∈ps→next.ok∈ps→Ent ps next.ok:=fun _ _ h=>.of h
     refine ae (UL 6 tk40 rfl rfl rfl rfl (aI rfl (aW 7 tk40 rfl rfl rfl rfl (aHK ?_))))
     refine aNs (bF _ (hE _ (aF 0 rfl) (aF 1 rfl)) (ae (aM rfl (aM rfl (aM rfl (aM rfl (aM rfl (UL 5 tk40 rfl rfl rfl rfl (LF rfl (EC [1] [0,1,2,3,4] rfl (fv b p mb tb ab x5.1 x5.2 hok5 1 m im hti hfew.1 hc1 hQ5.ti.i64) ?_))))))))))
     rintro _ _ _ ⟨rfl,rfl,rfl⟩
     refine aST ?_
     refine aU rfl (aQ rfl rfl (fun _=>rfl)) (aM rfl (aM rfl (aM rfl (aM rfl (UL 5 tk40 rfl rfl rfl rfl (LF rfl (EC [1] [0,1,2,3,4] rfl (fv b p mb tb ab x5.1 x5.2 hok5 0 m im hti hfew.1 hc0 hQ5.ti.i64) ?_)))))))
     rintro _ _ _ ⟨rfl,rfl,rfl⟩
     refine aST ?_
     refine aU rfl (aQ rfl rfl (fun _=>rfl)) (aM rfl (aM rfl (aM rfl (aM rfl (UL 7 tk40 rfl rfl rfl rfl ?_)))))
     refine LF rfl (EC [2] [0,1,2,3,4] rfl (fv b p mb tb ab x5.1 x5.2 hok5 2 m _ (by assumption) (by omega) hc2 hQ5.ti.i64) ?_)
     rintro _ _ _ ⟨rfl,rfl,rfl⟩
     refine aST ?_
     refine aU rfl (aQ rfl rfl (fun _=>rfl)) (aA rfl (aNn (aj (FZ1 [] Tryz.results4 rfl ?_))))
     rfl
    ·skip
     rw [if_neg (by simpa using h4)] at hc2
     have hE:∀ ps:List Per,im.ok∈ps→next.ok∈ps→Ent ps im.ok:=fun _ h _=>.of h
     refine ai (an (aq (bF _ (hE _ (aF 0 rfl) (aF 1 rfl)) (ae (aM rfl (aM rfl (aM rfl (aM rfl (aM rfl (UL 5 tk40 rfl rfl rfl rfl (LF rfl (EC [1] [0,1,2,3,4] rfl (fv b p mb tb ab x5.1 x5.2 hok5 1 m im hti hfew.1 hc1 hQ5.ti.i64) ?_))))))))))))
     rintro _ _ _ ⟨rfl,rfl,rfl⟩
     refine aST ?_
     refine aU rfl (aQ rfl rfl (fun _=>rfl)) (aM rfl (aM rfl (aM rfl (aM rfl (UL 5 tk40 rfl rfl rfl rfl (LF rfl (EC [1] [0,1,2,3,4] rfl (fv b p mb tb ab x5.1 x5.2 hok5 0 m im hti hfew.1 hc0 hQ5.ti.i64) ?_)))))))
     rintro _ _ _ ⟨rfl,rfl,rfl⟩
     refine aST ?_
     refine aU rfl (aQ rfl rfl (fun _=>rfl)) (aM rfl (aM rfl (aM rfl (aM rfl (UL 7 tk40 rfl rfl rfl rfl ?_)))))
     refine LF rfl (EC [2] [0,1,2,3,4] rfl (fv b p mb tb ab x5.1 x5.2 hok5 2 m _ (by assumption) (by omega) hc2 hQ5.ti.i64) ?_)
     rintro _ _ _ ⟨rfl,rfl,rfl⟩
     refine aST ?_
     refine aU rfl (aQ rfl rfl (fun _=>rfl)) (aA rfl (aNn (aj (FZ1 [] Tryz.results4 rfl ?_))))
     rfl
end Go.Proofs.YtfkcmbonmpcbfaaGreat

