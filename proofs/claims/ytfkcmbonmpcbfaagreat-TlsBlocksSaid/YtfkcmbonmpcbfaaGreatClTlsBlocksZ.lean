/- Proved: for all lists of operations and images the law TlsBlocks of the given program answers true and leaves what it was handed as it was. Conditions: none but those in the given statement itself. -/
import Derived.Test.YtfkcmbonmpcbfaaGreatTa25
import Derived.Test.YtfkcmbonmpcbfaaGreatTa05
import Derived.Test.YtfkcmbonmpcbfaaGreatTa10
import Derived.Test.YtfkcmbonmpcbfaaGreatRows
import Derived.WalkKit
import Derived.ProofKit
import Derived.OpenShut
import Derived.ShutString
import Derived.ChangeOld
import Derived.Below
set_option linter.unusedSimpArgs false
set_option linter.unusedVariables false
set_option maxHeartbeats 1000000
set_option maxRecDepth 20000
namespace Go.Proofs.YtfkcmbonmpcbfaaGreat
open Go.RowKit Go.Lp Go.Sy Go.Lv Go.Sort
def bsz(s:bk)(m:Int):Int:=((s.mods m).map (·.block)).getD 0
structure KnR (s:bk) (size:List Int) (known:List Bool):Prop where
 sl:size.length=6
 kl:known.length=6
 sz:∀ n:Nat,n<6→size[n]? = some (bsz s n)
 kn:∀ n:Nat,n<6→known[n]? = some (s.thr n).isSome
 mi:∀ k,(s.mods k).isSome=true→0≤k∧k<6
 ti:∀ k,(s.thr k).isSome=true→0≤k∧k<6
theorem KnR.start:KnR jd (List.replicate 6 0) (List.replicate 6 false) :=
 ⟨rfl,rfl,fun n hn=>by rw [List.getElem?_replicate,if_pos hn];rfl,fun n hn=>by rw [List.getElem?_replicate,if_pos hn];rfl,fun k h=>(by cases h),fun k h=>(by cases h)⟩
theorem KnR.same{s s':bk}{size:List Int}{known:List Bool}(h:KnR s size known)(hm:s'.mods=s.mods)(ht:s'.thr=s.thr):KnR s' size known :=
 ⟨h.sl,h.kl,fun n hn=>by unfold bsz;rw [hm];exact h.sz n hn,fun n hn=>by rw [ht];exact h.kn n hn,fun k=>by rw [hm];exact h.mi k,fun k=>by rw [ht];exact h.ti k⟩
theorem KnR.mods{s s':bk}{size:List Int}{known:List Bool}(h:KnR s size known)(ht:s'.thr=s.thr){n:Int}(hn:0≤n∧n<6){v:Option an}(hm:∀ k,s'.mods k=if k=n then v else s.mods k){z:Int}(hz:(v.map (·.block)).getD 0=z) :
   KnR s' (size.set n.toNat z) known:=by
 refine ⟨by rw [List.length_set];exact h.sl,h.kl,fun k hk => ?_,fun k hk=>by rw [ht];exact h.kn k hk,fun k hk => ?_,fun k=>by rw [ht];exact h.ti k⟩
 · rw [List.getElem?_set]
   have:=h.sl
   unfold bsz
   rw [hm]
   split
   · rw [if_pos (by omega),if_pos (show (k:Int)=n by omega),hz]
   · rw [if_neg (show ¬ (k:Int)=n by omega)];exact h.sz k hk
 · rw [hm] at hk
   split at hk
   · omega
   · exact h.mi k hk
theorem KnR.thr{s s':bk}{size:List Int}{known:List Bool}(h:KnR s size known)(hm:s'.mods=s.mods){n:Int}(hn:0≤n∧n<6){v:Option Bool}(ht:∀ k,s'.thr k=if k=n then v else s.thr k) :
   KnR s' size (known.set n.toNat v.isSome):=by
 refine ⟨h.sl,by rw [List.length_set];exact h.kl,fun k hk=>by unfold bsz;rw [hm];exact h.sz k hk,fun k hk => ?_,fun k=>by rw [hm];exact h.mi k,fun k hk => ?_⟩
 · rw [List.getElem?_set]
   have:=h.kl
   rw [ht]
   split
   · rw [if_pos (by omega),if_pos (show (k:Int)=n by omega)]
   · rw [if_neg (show ¬ (k:Int)=n by omega)];exact h.kn k hk
 · rw [ht] at hk
   split at hk
   · omega
   · exact h.ti k hk
def mY(ims:List an)(a:dP)(e:Int)(size:List Int):List Int:=if a.do_ % 7=0∧e=0 then size.set a.n.toNat (bI ims a.i).block else if a.do_ % 7=3 then size.set a.n.toNat 0 else size
def mT(a:dP)(e:Int)(known:List Bool):List Bool:=if a.do_ % 7=1∧e=0 then known.set a.n.toNat true else if a.do_ % 7=4 then known.set a.n.toNat false else known
theorem tc{ims:List an}{a:dP}(hn:0≤a.n∧a.n<6){s:bk}{M:Mem}(hI:TI s M){x:bk × Mem}{e:Int}(h:DoR ims a s M x e){size:List Int}{known:List Bool}(hK:KnR s size known) :
   KnR x.1 (mY ims a e size) (mT a e known):=by
 have hims:∀ i b,fM (bI ims i) b→b=true→pR (bI ims i):=fun i b h1 h2=>gM h1 h2
 unfold mY mT
 rcases h with ⟨d,br,hbr,h⟩ | ⟨d,h⟩ | ⟨d,br,s',hbr,h,rfl⟩ | ⟨d,rfl,ds,hd,_,rfl⟩ | ⟨d,rfl,ds,hd,_,rfl⟩ | ⟨d,rfl,_⟩ | ⟨d,⟨_,rfl,_⟩ | ⟨_,rfl,_⟩⟩
 · rw [d,if_neg (show ¬ ((0:Int)=1∧e=0) by omega),if_neg (show ¬ (0:Int)=4 by decide)]
   rcases oK hI (hims a.i br (hbr hn.1)) h with ⟨h1,h2,_⟩ | ⟨h1,_,_,_,h2,h3⟩
   · rw [if_neg (show ¬ ((0:Int)=0∧e=0) from fun h=>h1 h.2),if_neg (show ¬ (0:Int)=3 by decide)]
     exact hK.same h2.mods h2.thr
   · rw [if_pos ⟨rfl,h1⟩]
     exact hK.mods h3 hn (v:=some (bI ims a.i)) (fun k=>by rw [h2];rfl) rfl
 · rw [d,if_neg (show ¬ ((1:Int)=0∧e=0) by omega),if_neg (show ¬ (1:Int)=3 by decide)]
   rcases pq hI h with ⟨h1,h2,_⟩ | ⟨h1,_,_,h2,h3⟩
   · rw [if_neg (show ¬ ((1:Int)=1∧e=0) from fun h=>h1 h.2),if_neg (show ¬ (1:Int)=4 by decide)]
     exact hK.same h2.mods h2.thr
   · rw [if_pos ⟨rfl,h1⟩]
     exact hK.thr h2 hn (v:=some true) fun k=>by rw [h3];rfl
 · rw [d,if_neg (show ¬ ((2:Int)=0∧e=0) by omega),if_neg (show ¬ (2:Int)=3 by decide),if_neg (show ¬ ((2:Int)=1∧e=0) by omega),if_neg (show ¬ (2:Int)=4 by decide)]
   rcases h with ⟨_,rfl,rfl⟩ | ⟨old,ho,⟨_,rfl,rfl⟩ | ⟨_,hbl,rfl,rfl⟩⟩
   · exact hK
   · exact hK
   · have:=hK.mods (s' := { s with mods:=bw s.mods a.n (bI ims a.i) }) rfl hn (v:=some (bI ims a.i)) (fun k=>rfl) rfl
     have e1:size.set a.n.toNat (((some (bI ims a.i)).map (·.block)).getD 0)=size:=by
       have h1:=hK.sz a.n.toNat (by omega)
       unfold bsz at h1
       rw [show ((a.n.toNat:Nat):Int)=a.n by omega,ho] at h1
       have h2:(((some (bI ims a.i)).map (·.block)).getD 0)=(((some old).map (·.block)).getD 0):=hbl
       rw [h2]
       apply List.ext_getElem?
       intro j
       rw [List.getElem?_set]
       split
       · rename_i hj;subst hj
         have:=hK.sl
         rw [if_pos (by omega),h1]
       · rfl
     rw [e1] at this
     exact this
 · rw [d,if_neg (show ¬ ((3:Int)=0∧(0:Int)=0) by omega),if_pos rfl,if_neg (show ¬ ((3:Int)=1∧(0:Int)=0) by omega),if_neg (show ¬ (3:Int)=4 by decide)]
   have hg:=mS hI (m:=a.n) hd
   exact hK.mods hg.2.2 hn (v:=none) (fun k=>by rw [hg.2.1];rfl) rfl
 · rw [d,if_neg (show ¬ ((4:Int)=0∧(0:Int)=0) by omega),if_neg (show ¬ (4:Int)=3 by decide),if_neg (show ¬ ((4:Int)=1∧(0:Int)=0) by omega),if_pos rfl]
   have hg:=kB hI (t:=a.n) hd
   exact hK.thr hg.2.1 hn (v:=none) fun k=>by rw [hg.2.2];rfl
 all_goals
   rw [d]
   simp only [show ¬ (5:Int)=0 by decide,show ¬ (5:Int)=3 by decide,show ¬ (5:Int)=1 by decide,show ¬ (5:Int)=4 by decide,show ¬ (6:Int)=0 by decide,show ¬ (6:Int)=3 by decide,show ¬ (6:Int)=1 by decide,show ¬ (6:Int)=4 by decide,false_and,if_false]
   exact hK
theorem yG{s:bk}{M:Mem}(hI:TI s M)(t m:Int):(s.at_ (t,m)).isSome=((s.thr t).isSome && decide (0<bsz s m)):=by
 rw [Bool.eq_iff_iff,Bool.and_eq_true,decide_eq_true_eq]
 constructor
 · intro h
   obtain ⟨a,ha⟩:=Option.isSome_iff_exists.1 h
   obtain ⟨im,h1,h2,h3,_⟩:=hI.blk.own t m a ha
   exact ⟨h2,by unfold bsz;rw [h1];exact h3⟩
 · rintro ⟨h1,h2⟩
   unfold bsz at h2
   cases hm:s.mods m with
   | none=>rw [hm] at h2;exact absurd h2 (by decide)
   | some im=>rw [hm] at h2;exact hI.full t m im h1 hm h2
theorem abD{M:Mem}(h:cS M){r:Ar}(hr:r∈ars M):kg M r.at_=(r,true):=by
 obtain ⟨x,hx,rfl⟩:=gh.1 hr
 have hx2:=cU.1 (h.inv.right x hx)
 have:(dW M x.1.at_ 1).isSome=true:=by
   unfold dW
   rw [List.find?_isSome]
   refine ⟨x,hx,?_⟩
   unfold holds
   simp only [Bool.and_eq_true,decide_eq_true_eq]
   omega
 obtain ⟨y,hy⟩:=Option.isSome_iff_exists.1 this
 obtain ⟨h1,h2,h3,h4⟩:=fb hy
 have e:y=x:=by
   obtain ⟨i,hi⟩:=List.mem_iff_getElem?.1 hx
   obtain ⟨j,hj⟩:=List.mem_iff_getElem?.1 h1
   rcases Nat.lt_trichotomy i j with hlt | rfl | hlt
   · have:=h.inv.lt hi hj hlt;omega
   · rw [hi] at hj;exact (Option.some.inj hj).symm
   · have:=h.inv.lt hj hi hlt;omega
 unfold kg
 rw [hy,e]
theorem uD{s:bk}{M:Mem}(hI:TI s M){t m:Int}{a:Int}(ha:s.at_ (t,m)=some a):kg M a=(⟨a,bsz s m,4,t,m⟩,true):=by
 obtain ⟨im,h1,_,_,h4⟩:=hI.blk.own t m a ha
 have:=abD hI.blk.ok h4
 unfold bsz
 rw [h1];exact this
def prN(n:Nat):Int × Int:=(((n / 6:Nat):Int),((n % 6:Nat):Int))
def ny(s:bk)(n:Nat):Nat:=(List.range n).countP fun i=>(s.at_ (prN i)).isSome
theorem xM(s:bk)(n:Nat):ny s (n+1)=ny s n+if (s.at_ (prN n)).isSome=true then 1 else 0:=by
 unfold ny;rw [List.range_succ,List.countP_append];simp
theorem aaR{t m:Nat}(hm:m<6):prN (6*t+m)=((t:Int),(m:Int)):=by
 unfold prN
 rw [show (6*t+m) / 6=t by omega,show (6*t+m) % 6=m by omega]
theorem ab0{a b:Nat}(h:prN a=prN b):a=b:=by
 unfold prN at h
 simp only [Prod.mk.injEq,Int.natCast_inj] at h
 omega
def py(M:Mem)(n:Nat):Nat:=((ars M).take n).countP fun r=>decide (r.kind=4)
theorem xN{M:Mem}{n:Nat}{r:Ar}(h:(ars M)[n]? = some r):py M (n+1)=py M n+if r.kind=4 then 1 else 0:=by
 unfold py;rw [List.take_add_one,h,List.countP_append];simp
theorem rv{s:bk}{M:Mem}(hI:TI s M){size:List Int}{known:List Bool}(hK:KnR s size known):ny s 36=py M (ars M).length:=by
 unfold ny py
 rw [List.take_length,List.countP_eq_length_filter,List.countP_eq_length_filter]
 have hp : (((List.range 36).filter fun i=>(s.at_ (prN i)).isSome).map prN).Perm (((ars M).filter fun r=>decide (r.kind=4)).map fun r=>(r.owner,r.mod)):=by
   refine (List.perm_ext_iff_of_nodup ?_ ?_).2 fun p => ?_
   · exact List.Pairwise.map _ (fun a b hab e=>hab (ab0 e)) (List.nodup_range.filter _)
   · have hnd:((ars M).filter fun r=>decide (r.kind=4)).Nodup:=((qV hI.blk.ok).imp fun {a b} h e=>by rw [e] at h;exact absurd h (Int.lt_irrefl _)).filter _
     refine List.pairwise_map.2 (hnd.imp_of_mem fun {a b} ha hb hab e=>hab ?_)
     obtain ⟨ha1,ha2⟩:=List.mem_filter.1 ha
     obtain ⟨hb1,hb2⟩:=List.mem_filter.1 hb
     have h1:=hI.blk.all a ha1 (of_decide_eq_true ha2)
     have h2:=hI.blk.all b hb1 (of_decide_eq_true hb2)
     rw [e,h2] at h1
     exact uB hI.blk.ok ha1 hb1 (Option.some.inj h1).symm
   · rw [List.mem_map,List.mem_map]
     constructor
     · rintro ⟨i,hi,rfl⟩
       obtain ⟨_,h1⟩:=List.mem_filter.1 hi
       obtain ⟨a,ha⟩:=Option.isSome_iff_exists.1 h1
       obtain ⟨im,_,_,_,h4⟩:=hI.blk.own (prN i).1 (prN i).2 a ha
       exact ⟨_,List.mem_filter.2 ⟨h4,rfl⟩,rfl⟩
     · rintro ⟨r,hr,rfl⟩
       obtain ⟨h1,h2⟩:=List.mem_filter.1 hr
       have h3:=hI.blk.all r h1 (of_decide_eq_true h2)
       obtain ⟨im,k1,k2,_,_⟩:=hI.blk.own r.owner r.mod r.at_ h3
       have b1:=hK.ti r.owner k2
       have b2:=hK.mi r.mod (by rw [k1];rfl)
       have e:prN (6*r.owner.toNat+r.mod.toNat)=(r.owner,r.mod):=by
         rw [aaR (by omega)];exact Prod.ext (by simp;omega) (by simp;omega)
       exact ⟨6*r.owner.toNat+r.mod.toNat,List.mem_filter.2 ⟨List.mem_range.2 (by omega),by rw [e,h3];rfl⟩,e⟩
 have:=hp.length_eq
 rw [List.length_map,List.length_map] at this
 exact this
open Go.Proofs.Tryz
attribute [local irreducible] aL aB awp aC fwp Quiet
abbrev rI6:Int→List D:=fun z=>[.v (.int .i64 z)]
abbrev rB6:Bool→List D:=fun b=>[.v (.bool b)]
theorem aba{l:List Int}{k:Nat}{y z:Int} : (l.map rI6).set k (jc (rI6 y) 0 [.v (.int .i64 z)])=(l.set k z).map rI6:=by rw [List.map_set];rfl
theorem aa9{l:List Bool}{k:Nat}{y z:Bool} : (l.map rB6).set k (jc (rB6 y) 0 [.v (.bool z)])=(l.set k z).map rB6:=by rw [List.map_set];rfl
theorem sf{ims:List an}{a:dP}{e:Int}{size size1 size2:List Int}{known known1 known2:List Bool}
   (h1:size1=if e=0∧a.do_ % 7=0 then size.set a.n.toNat (bI ims a.i).block else size) (h2:known1=if e=0∧a.do_ % 7=1 then known.set a.n.toNat true else known)
   (h3:size2=if a.do_ % 7=3 then size1.set a.n.toNat 0 else size1) (h4:known2=if a.do_ % 7=4 then known1.set a.n.toNat false else known1) :
   size2=mY ims a e size∧known2=mT a e known:=by
 unfold mY mT
 subst h1 h2
 rw [h3,h4]
 constructor
 · by_cases c:a.do_ % 7=3
   · rw [if_pos c,if_neg (by omega),if_neg (by omega),if_pos c]
   · rw [if_neg c,if_neg c]
     by_cases d:e=0∧a.do_ % 7=0
     · rw [if_pos d,if_pos ⟨d.2,d.1⟩]
     · rw [if_neg d,if_neg fun h=>d ⟨h.2,h.1⟩]
 · by_cases c:a.do_ % 7=4
   · rw [if_pos c,if_neg (by omega),if_neg (by omega),if_pos c]
   · rw [if_neg c,if_neg c]
     by_cases d:e=0∧a.do_ % 7=1
     · rw [if_pos d,if_pos ⟨d.2,d.1⟩]
     · rw [if_neg d,if_neg fun h=>d ⟨h.2,h.1⟩]
theorem wH(s:bk)(n:Nat):ny s n≤n:=by
 have:=List.countP_le_length (p:=fun i=>(s.at_ (prN i)).isSome) (l:=List.range n)
 rw [List.length_range] at this;exact this
theorem abI(M:Mem)(n:Nat):py M n≤n:=by
 have:=List.countP_le_length (p:=fun r:Ar=>decide (r.kind=4)) (l:=(ars M).take n)
 rw [List.length_take] at this
 exact Nat.le_trans this (Nat.min_le_left _ _)
theorem pH (acts:Sl dP) (ims:Sl an) (ha:∀ a∈acts.l,I64 a.size) (hi:∀ i,j8 (bI ims.l i)) :
   Con Tryz.prog 5 [acts.val,ims.val] [ShF dP.row acts,ShF an.row ims,bN an.ok ims.l] [] fun r _ _=>r=.bool true:=by
 refine EN2 Tryz.func5 rfl (aSR (aA rfl (aNn (aSR (LT rfl (EC [] [] rfl (mh) ?_))))))
 rintro _ _ _ ⟨rfl,rfl,rfl⟩
 refine aST ?_
 refine aA rfl (aNn (aSR (LT rfl (EC [] [] rfl (lz) ?_))))
 rintro _ _ _ ⟨rfl,p,rfl,rfl⟩
 refine aST ?_
 refine aA rfl (aNs (aSR (aM rfl (aM rfl (aU rfl (Q1 rfl (qc acts ims) 1 rfl) (aU rfl (bX rfl) (aM rfl (aG rfl rfl (fun hc=>ax rfl) (aG rfl rfl (fun hc=>fU (by kernel_rfl) (aa rfl hc)) (aU rfl (cC rfl rfl (fun h=>gf rfl h)) (aNn ?_)))))))))))
 refine ah _ rfl (fun h1 => ?_) (fun h1 => ?_)
 ·skip
  refine aSR (aM rfl (aM rfl (aG rfl rfl (fun hc=>ax rfl) (aG rfl rfl (fun hc=>xc (by kernel_rfl) (aa rfl hc)) (aU rfl (aT rfl rfl (fun h=>gt rfl h)) (aA rfl (aNn (aj (aK (FZ1 [] Tryz.results5 rfl ?_))))))))))
  rfl
 ·skip
  have hfew:fQ ims.l=true∧acts.l.length≤30∧ims.l.length≤6:=by
    simp at h1
    exact ⟨h1.1,by omega,by omega⟩
  refine ai (ak (aSR (aM rfl (LT rfl (EC [] [] rfl (oa p) ?_)))))
  rintro _ _ _ ⟨rfl,b,mb,tb,ab,rfl,rfl⟩
  refine aST ?_
  refine aA rfl (aNs (aSR (aM rfl (aU rfl (fU (by kernel_rfl) rfl) (aNn ?_)))))
  refine ah _ rfl (fun h2 => ?_) (fun h2 => ?_)
  ·skip
   cases h2
  ·skip
   refine ai (ak (aSR (LT rfl (fL (m:=6) (zs:=[.int .i64 0]) el26 (by kernel_rfl) rfl (by decide) (cY rfl (rfl)) (cY rfl (rfl)) (by omega) rfl (fun v8_0=>(aHN ?_))))))
   refine aA rfl (aNn (aSR (LT rfl (fL (m:=6) (zs:=[.bool false]) el59 (by kernel_rfl) rfl (by decide) (cY rfl (rfl)) (cY rfl (rfl)) (by omega) rfl (fun v9_0=>(aHN ?_))))))
   refine aA rfl (aNs (aq (fR [0,1,5,6,7,8,9] [2,1,0] [1,2,3,4,0,5,6] rfl ?_)))
   show awp _ _ _ _ ⟨[(0,true,acts.val),(1,true,ims.val),(5,true,.bool true),(6,true,.pointer (some ⟨p,0,none⟩)),(7,true,.pointer (some ⟨b,0,none⟩)),(8,true,.slice v8_0 6 6),(9,true,.slice v9_0 6 6)],[ShF dP.row acts,ShF an.row ims,bN an.ok ims.l],eo b p mb tb ab jd []++[az (.slice v8_0 6 6) 3 1 ((List.replicate 6 0).map rI6),az (.slice v9_0 6 6) 4 1 ((List.replicate 6 false).map rB6)]⟩
   generalize v8_0=sv
   generalize v9_0=kv
   refine ae (aA rfl (aNn (ao (aP [0,1,5,6,7,8,9,10] [2,1,0] [0,1,2,3,4,5,6] (fun (q:(Nat × (bk × Mem)) × (List Int × List Bool)) st=>(q.1.1≤acts.l.length∧TQ q.1.2.1 q.1.2.2 q.1.1∧KnR q.1.2.1 q.2.1 q.2.2)∧st=⟨[(0,true,acts.val),(1,true,ims.val),(5,true,.bool true),(6,true,.pointer (some ⟨p,0,none⟩)),(7,true,.pointer (some ⟨b,0,none⟩)),(8,true,.slice sv 6 6),(9,true,.slice kv 6 6),(10,true,.int .i64 q.1.1)],[ShF dP.row acts,ShF an.row ims,bN an.ok ims.l],eo b p mb tb ab q.1.2.1 q.1.2.2++[az (.slice sv 6 6) 3 1 (q.2.1.map rI6),az (.slice kv 6 6) 4 1 (q.2.2.map rB6)]⟩) (fun q=>acts.l.length-q.1.1) rfl (⟨((0,(jd,[])),(List.replicate 6 0,List.replicate 6 false)),⟨Nat.zero_le _,TQ.start,KnR.start⟩,rfl⟩) ?_))))
   rintro ⟨⟨j,s,M⟩,size,known⟩ st ⟨⟨hj,hQ,hK⟩,rfl⟩
   dsimp only at hj hQ hK ⊢
   refine aq (aSR (aM rfl (aM rfl (aU rfl (aY Tryz.underlying58 rfl) (aU rfl (bd rfl rfl) (aNn ?_))))))
   refine ah _ rfl (fun h3 => ?_) (fun h3 => ?_)
   ·skip
    have hj':j<acts.l.length:=by simpa using h3
    obtain ⟨a,hja⟩:∃ a,acts.l[j]? = some a:=⟨_,List.getElem?_eq_getElem hj'⟩
    refine ai (ak (aq (ao (aSR (aM rfl (aM rfl (UI Tryz.underlying58 tk61 0 rfl rfl rfl rfl rfl (aH (row:=dP.row) hja) rfl rfl (fun ⟨b13_2,o13_2⟩=>(US 0 tk61 0 rfl rfl rfl rfl rfl (LT rfl (bg (zs:=[.int .i64 0,.int .i64 0,.int .i64 0,.int .i64 0,.int .i64 0]) (by kernel_rfl) rfl (fun b13_4=>(aHN ?_)))))))))))))
    refine aJ rfl (aV 7 tk61 rfl rfl rfl rfl (aHK ?_))
    refine aNs (aSR (UO 1 rfl rfl (UL 7 tk3 rfl rfl rfl rfl (aU rfl (bd rfl rfl) (aM rfl (GO 1 rfl rfl rfl (GL 7 tk3 rfl rfl rfl rfl rfl (aG rfl rfl (fun hc=>db (aa rfl hc) rfl) (aU rfl (cC rfl rfl (fun h=>gf rfl h)) (aNn ?_))))))))))
    refine ah _ rfl (fun h4 => ?_) (fun h4 => ?_)
    ·skip
     refine aSR (aM rfl (aA rfl (aNn (aj (aK (bF (aK (aK (bF (aK (FZ1 [] Tryz.results5 rfl ?_)))))))))))
     rfl
    ·skip
     have hn:0≤a.n∧a.n<6:=by simp at h4;omega
     have hsl:=hK.sl
     have hkl:=hK.kl
     refine ai (ak (aSR (aM rfl (aM rfl (aM rfl (UL 7 tk61 rfl rfl rfl rfl (LF rfl (EC [1,0] [0,1,2,3,4] rfl (n1 b p mb tb ab ims (by omega) hi a (ha a (List.mem_of_getElem? hja)) s (hQ.ok (by omega)) M hQ.ti.blk.ok) ?_))))))))
     rintro _ _ _ ⟨rfl,x,e,hR,rfl,rfl⟩
     refine aST ?_
     refine aA rfl (aNn (aSR (UO 0 rfl rfl (UL 7 tk3 rfl rfl rfl rfl (aU rfl (Q0 rfl (jQ a.do_ 7 (by omega))) (aA rfl (aNs ?_)))))))
     refine fv (X := {l:List Int // l=if e=0∧a.do_ % 7=0 then size.set a.n.toNat (bI ims.l a.i).block else size}) (fun l=>⟨[(0,true,acts.val),(1,true,ims.val),(5,true,.bool true),(6,true,.pointer (some ⟨p,0,none⟩)),(7,true,.pointer (some ⟨b,0,none⟩)),(8,true,.slice sv 6 6),(9,true,.slice kv 6 6),(10,true,.int .i64 j),(11,true,.pointer (some ⟨b13_4,0,none⟩)),(12,true,.int .i64 e),(13,true,.int .i64 (a.do_ % 7))],[ShF dP.row acts,ShF an.row ims,bN an.ok ims.l],eo b p mb tb ab x.1 x.2++[az (.slice sv 6 6) 3 1 (l.1.map rI6),az (.slice kv 6 6) 4 1 (known.map rB6),Box b13_4 61 a.vs]⟩) ?_ ?_
     ·skip
      refine aSR (aM rfl (aU rfl (bp rfl rfl) (aM rfl (aG rfl rfl (fun hc=>ax rfl) (aG rfl rfl (fun hc=>bp (aa rfl hc) rfl) (aU rfl (aT rfl rfl (fun h=>gt rfl h)) (aNn ?_)))))))
      refine ah _ rfl (fun h5 => ?_) (fun h5 => ?_)
      ·skip
       refine DR [9] 10 (VM 0 rfl rfl (VO 1 1 rfl rfl rfl (VL 2 7 tk3 rfl rfl rfl rfl rfl (VM 3 rfl rfl (VO 4 3 rfl rfl rfl (VL 5 7 tk3 rfl rfl rfl rfl rfl (bV 6 rfl rfl (Q1 rfl (jP ims (by omega) a.i) 2 rfl) (bV 7 rfl rfl ((aaT (off:=7) (by kernel_rfl) rfl rfl).castV (v':=.int .i64 (bI ims.l a.i).block) rfl) ?_))))))))
       refine bV 8 rfl rfl (bA 5 a.n.toNat el26 rfl rfl rfl (by omega) (by rw [List.length_map];omega)) ?_
       refine VE 9 rfl rfl (cA 5 a.n.toNat 0 tk3 rfl rfl rfl (aH (List.getElem?_eq_getElem (by omega))) rfl (.v rfl .nil) rfl (by decide) ?_)
       rw [aba]
       refine bST rfl ?_
       refine BN (ak ?_)
       first
       | exact ⟨[0,1,5,6,7,8,9,10,11,12,13],[2,1,0],[0,1,2,3,4,5,6,7],⟨size.set a.n.toNat (bI ims.l a.i).block,by rw [if_pos (by simpa using h5)]⟩,rfl,rfl⟩
       | exact ⟨[0,1,5,6,7,8,9,10,11,12,13],[2,1,0],[0,1,2,3,4,5,6,7],⟨size,by rw [if_neg (by simpa using h5)]⟩,rfl,rfl⟩
      ·skip
       refine ai (ak ?_)
       first
       | exact ⟨[0,1,5,6,7,8,9,10,11,12,13],[2,1,0],[0,1,2,3,4,5,6,7],⟨size.set a.n.toNat (bI ims.l a.i).block,by rw [if_pos (by simpa using h5)]⟩,rfl,rfl⟩
       | exact ⟨[0,1,5,6,7,8,9,10,11,12,13],[2,1,0],[0,1,2,3,4,5,6,7],⟨size,by rw [if_neg (by simpa using h5)]⟩,rfl,rfl⟩
     ·skip
      rintro ⟨size1,hs1⟩
      dsimp only
      have hl1:size1.length=6:=by rw [hs1];split<;>simp only [List.length_set,hsl]
      refine aq ?_
      refine fv (X := {l:List Bool // l=if e=0∧a.do_ % 7=1 then known.set a.n.toNat true else known}) (fun l=>⟨[(0,true,acts.val),(1,true,ims.val),(5,true,.bool true),(6,true,.pointer (some ⟨p,0,none⟩)),(7,true,.pointer (some ⟨b,0,none⟩)),(8,true,.slice sv 6 6),(9,true,.slice kv 6 6),(10,true,.int .i64 j),(11,true,.pointer (some ⟨b13_4,0,none⟩)),(12,true,.int .i64 e),(13,true,.int .i64 (a.do_ % 7))],[ShF dP.row acts,ShF an.row ims,bN an.ok ims.l],eo b p mb tb ab x.1 x.2++[az (.slice sv 6 6) 3 1 (size1.map rI6),az (.slice kv 6 6) 4 1 (l.1.map rB6),Box b13_4 61 a.vs]⟩) ?_ ?_
      ·skip
       refine aSR (aM rfl (aU rfl (bp rfl rfl) (aM rfl (aG rfl rfl (fun hc=>ax rfl) (aG rfl rfl (fun hc=>bp (aa rfl hc) rfl) (aU rfl (aT rfl rfl (fun h=>gt rfl h)) (aNn ?_)))))))
       refine ah _ rfl (fun h6 => ?_) (fun h6 => ?_)
       ·skip
        refine ae (aM rfl (UO 1 rfl rfl (UL 7 tk3 rfl rfl rfl rfl ?_)))
        refine aU rfl (bA 6 a.n.toNat el59 rfl rfl rfl (by omega) (by rw [List.length_map];omega)) ?_
        refine LF rfl (cA 6 a.n.toNat 0 tk4 rfl rfl rfl (aH (List.getElem?_eq_getElem (by omega))) rfl (.v rfl .nil) rfl (by decide) ?_)
        refine aHK ?_
        rw [aa9]
        refine aNn ?_
        first
        | exact ⟨[0,1,5,6,7,8,9,10,11,12,13],[2,1,0],[0,1,2,3,4,5,6,7],⟨known.set a.n.toNat true,by rw [if_pos (by simpa using h6)]⟩,rfl,rfl⟩
        | exact ⟨[0,1,5,6,7,8,9,10,11,12,13],[2,1,0],[0,1,2,3,4,5,6,7],⟨known,by rw [if_neg (by simpa using h6)]⟩,rfl,rfl⟩
       ·skip
        refine ai (ak ?_)
        first
        | exact ⟨[0,1,5,6,7,8,9,10,11,12,13],[2,1,0],[0,1,2,3,4,5,6,7],⟨known.set a.n.toNat true,by rw [if_pos (by simpa using h6)]⟩,rfl,rfl⟩
        | exact ⟨[0,1,5,6,7,8,9,10,11,12,13],[2,1,0],[0,1,2,3,4,5,6,7],⟨known,by rw [if_neg (by simpa using h6)]⟩,rfl,rfl⟩
      ·skip
       rintro ⟨known1,hk1⟩
       dsimp only
       have hl2:known1.length=6:=by rw [hk1];split<;>simp only [List.length_set,hkl]
       refine aq ?_
       refine fv (X := {l:List Int // l=if a.do_ % 7=3 then size1.set a.n.toNat 0 else size1}) (fun l=>⟨[(0,true,acts.val),(1,true,ims.val),(5,true,.bool true),(6,true,.pointer (some ⟨p,0,none⟩)),(7,true,.pointer (some ⟨b,0,none⟩)),(8,true,.slice sv 6 6),(9,true,.slice kv 6 6),(10,true,.int .i64 j),(11,true,.pointer (some ⟨b13_4,0,none⟩)),(12,true,.int .i64 e),(13,true,.int .i64 (a.do_ % 7))],[ShF dP.row acts,ShF an.row ims,bN an.ok ims.l],eo b p mb tb ab x.1 x.2++[az (.slice sv 6 6) 3 1 (l.1.map rI6),az (.slice kv 6 6) 4 1 (known1.map rB6),Box b13_4 61 a.vs]⟩) ?_ ?_
       ·skip
        refine aSR (aM rfl (aU rfl (bp rfl rfl) (aNn ?_)))
        refine ah _ rfl (fun h7 => ?_) (fun h7 => ?_)
        ·skip
         refine ae (aM rfl (UO 1 rfl rfl (UL 7 tk3 rfl rfl rfl rfl ?_)))
         refine aU rfl (bA 5 a.n.toNat el26 rfl rfl rfl (by omega) (by rw [List.length_map,hl1];omega)) ?_
         refine LF rfl (cA 5 a.n.toNat 0 tk3 rfl rfl rfl (aH (List.getElem?_eq_getElem (by rw [hl1];omega))) rfl (.v rfl .nil) rfl (by decide) ?_)
         refine aHK ?_
         rw [aba]
         refine aNn ?_
         first
         | exact ⟨[0,1,5,6,7,8,9,10,11,12,13],[2,1,0],[0,1,2,3,4,5,6,7],⟨size1.set a.n.toNat 0,by rw [if_pos (by simpa using h7)]⟩,rfl,rfl⟩
         | exact ⟨[0,1,5,6,7,8,9,10,11,12,13],[2,1,0],[0,1,2,3,4,5,6,7],⟨size1,by rw [if_neg (by simpa using h7)]⟩,rfl,rfl⟩
        ·skip
         refine ai (ak ?_)
         first
         | exact ⟨[0,1,5,6,7,8,9,10,11,12,13],[2,1,0],[0,1,2,3,4,5,6,7],⟨size1.set a.n.toNat 0,by rw [if_pos (by simpa using h7)]⟩,rfl,rfl⟩
         | exact ⟨[0,1,5,6,7,8,9,10,11,12,13],[2,1,0],[0,1,2,3,4,5,6,7],⟨size1,by rw [if_neg (by simpa using h7)]⟩,rfl,rfl⟩
       ·skip
        rintro ⟨size2,hs2⟩
        dsimp only
        refine aSR (aM rfl (aU rfl (bp rfl rfl) (aNn ?_)))
        refine ah _ rfl (fun h8 => ?_) (fun h8 => ?_)
        ·skip
         refine ae (aM rfl (UO 1 rfl rfl (UL 7 tk3 rfl rfl rfl rfl ?_)))
         refine aU rfl (bA 6 a.n.toNat el59 rfl rfl rfl (by omega) (by rw [List.length_map,hl2];omega)) ?_
         refine LF rfl (cA 6 a.n.toNat 0 tk4 rfl rfl rfl (aH (List.getElem?_eq_getElem (by rw [hl2];omega))) rfl (.v rfl .nil) rfl (by decide) ?_)
         refine aHK ?_
         rw [aa9]
         refine bE (bb (ak (ae (aM rfl (aU rfl (aO rfl rfl (by omega)) (aA rfl (aNn ?_)))))))
         refine ⟨[0,1,5,6,7,8,9,10],[2,1,0],[0,1,2,3,4,5,6],rfl,?_⟩
         obtain ⟨e1,e2⟩:=sf hs1 hk1 hs2 (known2:=known1.set a.n.toNat false) (by rw [if_pos (by simpa using h8)])
         have hK2:=tc hn hQ.ti hR hK
         rw [← e1,← e2] at hK2
         exact ⟨((j+1,x),(size2,known1.set a.n.toNat false)),⟨⟨hj',hQ.step hi hR,hK2⟩,rfl⟩,by dsimp only;omega⟩
        ·skip
         refine ai (bb (ak (ae (aM rfl (aU rfl (aO rfl rfl (by omega)) (aA rfl (aNn ?_)))))))
         refine ⟨[0,1,5,6,7,8,9,10],[2,1,0],[0,1,2,3,4,5,6],rfl,?_⟩
         obtain ⟨e1,e2⟩:=sf hs1 hk1 hs2 (known2:=known1) (by rw [if_neg (by simpa using h8)])
         have hK2:=tc hn hQ.ti hR hK
         rw [← e1,← e2] at hK2
         exact ⟨((j+1,x),(size2,known1)),⟨⟨hj',hQ.step hi hR,hK2⟩,rfl⟩,by dsimp only;omega⟩
   ·skip
    have hI:=hQ.ti
    have hsl:=hK.sl
    have hkl:=hK.kl
    refine aQ (aR (aR (aX (ak (aSR (aA rfl (aNs (aSR (aA rfl (aNn (ao (aP [5,6,7,8,9,14,15] [] [0,1,2,3,4,5,6] (fun (t:Nat) st=>t≤6∧st=⟨[(5,true,.bool true),(6,true,.pointer (some ⟨p,0,none⟩)),(7,true,.pointer (some ⟨b,0,none⟩)),(8,true,.slice sv 6 6),(9,true,.slice kv 6 6),(14,true,.int .i64 (ny s (6*t))),(15,true,.int .i64 t)],[],eo b p mb tb ab s M++[az (.slice sv 6 6) 3 1 (size.map rI6),az (.slice kv 6 6) 4 1 (known.map rB6)]⟩) (fun t=>6-t) rfl (⟨0,Nat.zero_le _,rfl⟩) ?_))))))))))))
    rintro t st ⟨ht6,rfl⟩
    refine aq (aSR (aM rfl (aU rfl (bd rfl rfl) (aNn ?_))))
    refine ah _ rfl (fun h9 => ?_) (fun h9 => ?_)
    ·skip
     have ht6':t<6:=by simp at h9;omega
     refine ai (ak (aq (ao (aSR (aA rfl (bE (ak (ao (aP [5,6,7,8,9,14,15,16] [] [0,1,2,3,4,5,6] (fun (m:Nat) st=>m≤6∧st=⟨[(5,true,.bool true),(6,true,.pointer (some ⟨p,0,none⟩)),(7,true,.pointer (some ⟨b,0,none⟩)),(8,true,.slice sv 6 6),(9,true,.slice kv 6 6),(14,true,.int .i64 (ny s (6*t+m))),(15,true,.int .i64 t),(16,true,.int .i64 m)],[],eo b p mb tb ab s M++[az (.slice sv 6 6) 3 1 (size.map rI6),az (.slice kv 6 6) 4 1 (known.map rB6)]⟩) (fun m=>6-m) rfl (⟨0,Nat.zero_le _,rfl⟩) ?_)))))))))
     rintro m st ⟨hm6,rfl⟩
     refine aq (aSR (aM rfl (aU rfl (bd rfl rfl) (aNn ?_))))
     refine ah _ rfl (fun h10 => ?_) (fun h10 => ?_)
     ·skip
      have hm6':m<6:=by simp at h10;omega
      have hcs:=xM s (6*t+m)
      rw [aaR hm6'] at hcs
      have hcl:=wH s (6*t+m)
      have hhb:=yG hI (t:Int) (m:Int)
      have hsz:=hK.sz m hm6'
      have hkn:=hK.kn t ht6'
      refine ai (ak (aq (ao (aSR (aM rfl (aM rfl (aM rfl (LF rfl (EC [] [0,1,2,3,4] rfl (mP b p mb tb ab s M t m) ?_)))))))))
      rintro _ _ _ ⟨rfl,rfl,rfl⟩
      refine aST ?_
      refine aM rfl (aU rfl (aI rfl rfl) (aU rfl (aI rfl rfl) (aA rfl (aA rfl (aNs (aSR (aM rfl (aM rfl (aM rfl ?_)))))))))
      refine aU rfl (bA 6 t el59 rfl rfl rfl rfl (by rw [List.length_map];omega)) ?_
      refine aU rfl (ba (u:=.bool (s.thr (t:Int)).isSome) 6 t 0 tk4 rfl rfl (aH hkn) rfl rfl) (aM rfl (aG rfl rfl (fun hc=>ax rfl) (aG rfl rfl (fun hc=>ax rfl) ?_)))
      refine aG rfl rfl (fun hc=>bA 5 m el26 (aa rfl hc) rfl (aa rfl hc) rfl (by rw [List.length_map];omega)) ?_
      refine aG rfl rfl (fun hc=>ba (u:=.int .i64 (bsz s (m:Int))) 5 m 0 tk3 (aa rfl hc) rfl (aH hsz) rfl rfl) (aG rfl rfl (fun hc=>db (aa rfl hc) rfl) (aU rfl (aT rfl rfl (fun h=>gt rfl h)) (aU rfl (aaX (by kernel_rfl) rfl rfl) (aM rfl (aG rfl rfl (fun hc=>ax rfl) (aG rfl rfl (fun hc=>bX (aa rfl hc)) (aG rfl rfl (fun hc=>ax (aa rfl hc)) (aG rfl rfl (fun hc=>ax rfl) (aG rfl rfl (fun hc=>dE (aa rfl hc) rfl) (aG rfl rfl (fun hc=>aT (aa rfl hc) rfl (fun h=>gt hc h)) (aU rfl (cC rfl rfl (fun h=>gf rfl h)) (aNn ?_))))))))))))
      refine ah _ rfl (fun h11 => ?_) (fun h11 => ?_)
      ·skip
       exfalso
       rw [hhb] at h11
       cases hat:s.at_ ((t:Int),(m:Int)) with
       | none=>rw [hat] at h11 hhb;rw [← hhb] at h11;simp at h11
       | some z=>rw [hat] at h11 hhb;rw [← hhb] at h11;simp at h11
      ·skip
       refine ai (ak (aq (aSR (aM rfl (aU rfl (bX rfl) (aNn ?_))))))
       refine ah _ rfl (fun h12 => ?_) (fun h12 => ?_)
       ·skip
        have hnone:¬ (s.at_ ((t:Int),(m:Int))).isSome=true:=by simpa using h12
        rw [if_neg hnone,Nat.add_zero] at hcs
        refine aQ (aR (aX (ak (ae (aM rfl (aU rfl (aO rfl rfl (by omega)) (aA rfl (aNn ?_))))))))
        refine ⟨[5,6,7,8,9,14,15,16],[],[0,1,2,3,4,5,6],rfl,?_⟩
        exact ⟨m+1,⟨hm6',by rw [show 6*t+(m+1)=6*t+m+1 by omega,hcs];rfl⟩,by omega⟩
       ·skip
        obtain ⟨z,hz⟩:∃ z,s.at_ ((t:Int),(m:Int))=some z:=Option.isSome_iff_exists.1 (by simpa using h12)
        have hsome:(s.at_ ((t:Int),(m:Int))).isSome=true:=by rw [hz];rfl
        rw [if_pos hsome] at hcs
        have hba:=uD hI hz
        have hzi:=hI.i64 _ _ hz
        rw [hz]
        refine ai (ak (aSR (aM rfl (aU rfl (aO rfl rfl (by omega)) (aA rfl (aNn (aSR (aM rfl (aM rfl (LF rfl (EC [] [4] rfl (abf p M hI.blk.ok z hzi) ?_)))))))))))
        rintro _ _ _ ⟨rfl,rfl,rfl⟩
        refine aST ?_
        rw [hba]
        refine aM rfl (aU rfl (aI rfl rfl) (aU rfl (aI rfl rfl) (LT rfl (bg (zs:=[.int .i64 0,.int .i64 0,.int .i64 0,.int .i64 0,.int .i64 0]) (by kernel_rfl) rfl (fun b38_6=>(aHN ?_))))))
        refine aJ rfl (aV 7 tk68 rfl rfl rfl rfl (aHK ?_))
        refine aA rfl (aNn (aSR (aM rfl (aM rfl (aM rfl ?_)))))
        refine aU rfl (bA 5 m el26 rfl rfl rfl rfl (by rw [List.length_map];omega)) ?_
        refine aU rfl (ba (u:=.int .i64 (bsz s (m:Int))) 5 m 0 tk3 rfl rfl (aH hsz) rfl rfl) (aM rfl (aM rfl (aU rfl (eH (l:=[(0,.tmp 155),(1,.tmp 159),(2,.const (.int .i64 4)),(3,.tmp 160),(4,.tmp 161)]) (zs:=[.int .i64 0,.int .i64 0,.int .i64 0,.int .i64 0,.int .i64 0]) (pl:=[(0,1),(1,1),(2,1),(3,1),(4,1)]) (by kernel_rfl) (by kernel_rfl) (by kernel_rfl) rfl rfl rfl) (LT rfl (bg (zs:=[.int .i64 0,.int .i64 0,.int .i64 0,.int .i64 0,.int .i64 0]) (by kernel_rfl) rfl (fun b39_8=>(aHN ?_)))))))
        refine aJ rfl (aV 8 tk68 rfl rfl rfl rfl (aHK ?_))
        refine aNn (aSR (aM rfl (aU rfl (bX rfl) (aM rfl (UL 7 tk68 rfl rfl rfl rfl (UL 8 tk68 rfl rfl rfl rfl (aU rfl (aaW (by kernel_rfl) (by kernel_rfl) (by kernel_rfl) (fun w=>gN 9998 _ _ _ w (by kernel_rfl) rfl rfl) rfl rfl) (aU rfl (cC rfl rfl (fun _=>rfl)) (aNn ?_)))))))))
        refine ah _ rfl (fun h13 => ?_) (fun h13 => ?_)
        ·skip
         exfalso
         rw [show (List.map (fun x:Field=>x.offset) (Tryz.prog.fieldsOf 68).toList)=[0,1,2,3,4] by kernel_rfl] at h13
         simp [ox,mr] at h13
        ·skip
         refine ai (bb (ak (ae (aM rfl (aU rfl (aO rfl rfl (by omega)) (aA rfl (aNn ?_)))))))
         refine ⟨[5,6,7,8,9,14,15,16],[],[0,1,2,3,4,5,6],rfl,?_⟩
         exact ⟨m+1,⟨hm6',by rw [show 6*t+(m+1)=6*t+m+1 by omega,hcs];rfl⟩,by omega⟩
     ·skip
      have hme:m=6:=by simp at h10;omega
      subst hme
      refine aQ (aR (aR (aX (bb (ak (ae (aM rfl (aU rfl (aO rfl rfl (by omega)) (aA rfl (aNn ?_))))))))))
      refine ⟨[5,6,7,8,9,14,15],[],[0,1,2,3,4,5,6],rfl,?_⟩
      exact ⟨t+1,⟨ht6',by rw [show 6*(t+1)=6*t+6 by omega];rfl⟩,by omega⟩
    ·skip
     have hte:t=6:=by simp at h9;omega
     subst hte
     refine aQ (aR (aR (aX (ak (aSR (aM rfl (LF rfl (EC [] [4] rfl (j4 p M hI.blk.ok) ?_))))))))
     rintro _ _ _ ⟨rfl,ad,ac,rfl,rfl⟩
     refine aST ?_
     refine aA rfl (aNs (aq (eu 7 rfl ?_)))
     have hfin:=rv hI hK
     have hfl:=hI.blk.ok.few
     have hal:(ars M).length=M.length:=List.length_map _
     refine ae (aA rfl (aNn (ao ?_)))
     refine aP [5,14,22,23] [0] [] (fun (i:Nat) st=>i≤(ars M).length∧st=⟨[(5,true,.bool true),(14,true,.int .i64 ((ny s 36:Int)-py M i)),(22,true,.slice ad (ars M).length ac),(23,true,.int .i64 i)],[ShF iR ⟨ad,ac,ars M⟩],[]⟩) (fun i=>(ars M).length-i) rfl (⟨0,Nat.zero_le _,by rw [show py M 0=0 from rfl,Int.natCast_zero,Int.sub_zero];rfl⟩) ?_
     rintro i st ⟨hi9,rfl⟩
     refine aq (aSR (aM rfl (aM rfl (aU rfl (aY Tryz.underlying71 rfl) (aU rfl (bd rfl rfl) (aNn ?_))))))
     refine ah _ rfl (fun h14 => ?_) (fun h14 => ?_)
     ·skip
      have hi9':i<(ars M).length:=by simpa using h14
      obtain ⟨y,hy⟩:∃ y,(ars M)[i]? = some y:=⟨_,List.getElem?_eq_getElem hi9'⟩
      have hct:=xN hy
      have hcl:=abI M i
      have hca:=wH s 36
      refine ai (ak (aq (ao (aSR (aM rfl (aM rfl (UI Tryz.underlying71 tk68 0 rfl rfl rfl rfl rfl (aH hy) rfl rfl (fun ⟨b46_2,o46_2⟩=>(UO 2 rfl rfl (US 2 tk3 0 rfl rfl rfl rfl rfl (aU rfl (bp rfl rfl) (aNn ?_))))))))))))
      refine ah _ rfl (fun h15 => ?_) (fun h15 => ?_)
      ·skip
       have hk4:y.kind=4:=by simpa using h15
       rw [if_pos hk4] at hct
       refine ae (aM rfl (aU rfl (bQ rfl rfl (by omega)) (aA rfl (bE (bb (ak (ae (aM rfl (aU rfl (aO rfl rfl (by omega)) (aA rfl (aNn ?_)))))))))))
       refine ⟨[5,14,22,23],[0],[],rfl,?_⟩
       exact ⟨i+1,⟨hi9',by rw [hct,show (ny s 36:Int)-((py M i+1:Nat):Int)=(ny s 36:Int)-py M i-1 by omega];rfl⟩,by omega⟩
      ·skip
       have hk4:¬ y.kind=4:=by simpa using h15
       rw [if_neg hk4] at hct
       refine ai (bb (ak (ae (aM rfl (aU rfl (aO rfl rfl (by omega)) (aA rfl (aNn ?_)))))))
       refine ⟨[5,14,22,23],[0],[],rfl,?_⟩
       exact ⟨i+1,⟨hi9',by rw [hct];rfl⟩,by omega⟩
     ·skip
      have hie:i=(ars M).length:=by simp at h14;omega
      subst hie
      refine aQ (aR (aR (aX (ak (aSR (aM rfl (aM rfl (aG rfl rfl (fun hc=>ax rfl) (aG rfl rfl (fun hc=>bp (aa rfl hc) rfl) (aU rfl (aT rfl rfl (fun h=>gt rfl h)) (aA rfl (aNn (aj (FZ1 [] Tryz.results5 rfl ?_))))))))))))))
      rw [hfin,Int.sub_self];rfl
end Go.Proofs.YtfkcmbonmpcbfaaGreat

namespace Go.Proofs.YtfkcmbonmpcbfaaGreat.tlsBlocks
open Go.ChangeShapes Go.WideShapes Go.ChangeAt Go.RowKit
open Go.Lp Go.Sy Go.Lv
open Go.ChangeMaps (open_string shut_string)
theorem own:ownKnob Tryz.prog.godebug=none:=by kernel_rfl
theorem laidOut:laidOutB Tryz.prog=true:=by kernel_rfl
set_option maxRecDepth 100000 in
theorem lifted(os:Os)(started:os.Started)(H:Type)(enc:TypeId × Value→H) :
   ReturnsInHanded {} Tryz.checked os 5 .any (Rows.tlsBlocksSpec.pre6 enc Tryz.prog Tryz.f5 Rows.tlsBlocksRow.domain false) (Rows.tlsBlocksSpec.post enc Tryz.prog Tryz.f5 false true false false):=by
 refine returnsInHanded_of_change (C:=Tryz.checked) own started (by kernel_rfl) Tryz.func5
   (ChangeSpec.witness6 (enc:=enc) (C:=Tryz.checked) false ⟨#[],#[.slice none 0 0,.slice none 0 0],[]⟩ 12 (by kernel_rfl) (by kernel_rfl) (by kernel_rfl) (by kernel_rfl)) ?_
 intro W base args ds gs before hval0 hW hcnd _
 have hval:∀ (j:Nat) t v,Tryz.f5.params[j]? = some t→args[j]? = some v→Value.okWide Tryz.prog W .any base t v:=hval0
 have hW':=hW
 obtain ⟨p,q,hA0,hV,rfl,hfz,hnd⟩:=hW
 have hA:DataW.TrodAll enc Tryz.prog W 0 (fun _=>true) true Tryz.f5.params.toList args.toList ds p:=hA0
 rw [Tryz.params5] at hA hval
 obtain ⟨v0,vs0,d0,ds0,p0,q0,hargs,rfl,rfl,h0,r0⟩:=trodAll_cons hA
 obtain ⟨v1,vs1,d1,ds1,p1,q1,rfl,rfl,rfl,h1,r1⟩:=trodAll_cons r0
 obtain ⟨rfl,rfl,rfl⟩:=trodAll_nil r1
 obtain rfl:args = #[v0,v1]:=by cases args;simp_all
 obtain ⟨rfl,rfl⟩:=trodVars_none hV
 obtain ⟨ad0,len0,cap0,rfl⟩:=okWide_slice Tryz.underlying58 (hval 0 58 v0 rfl rfl)
 have k0:=h0
 have lt0:∀ x∈p0,x.block<W.heap.size:=by obtain ⟨m,hm⟩:=k0;exact DataW.trod_lt m _ _ _ hm
 obtain ⟨ad1,len1,cap1,rfl⟩:=okWide_slice Tryz.underlying49 (hval 1 49 v1 rfl rfl)
 have k1:=h1
 have lt1:∀ x∈p1,x.block<W.heap.size:=by obtain ⟨m,hm⟩:=k1;exact DataW.trod_lt m _ _ _ hm
 obtain ⟨x0,e0,s0,g0⟩:=(h0.elim fun f h=>wC (by simpa [Value.cells] using h))
 obtain ⟨x1,e1,s1,o1,g1⟩:=(h1.elim fun f h=>wT (by simpa [Value.cells] using h))
 clear hA0 hval0
 have hc:=(pH x0 x1 g0 g1).quiet3 (List.mem_cons_self) (List.mem_cons_of_mem _ List.mem_cons_self) (List.mem_cons_of_mem _ (List.mem_cons_of_mem _ List.mem_cons_self)) (acF (w:=W) (ps:=[ShF dP.row x0,ShF an.row x1,bN an.ok x1.l]) fun p hp=>by
   simp only [List.mem_cons,List.not_mem_nil,or_false] at hp
   rcases hp with rfl | rfl | rfl
   · exact s0
   · exact s1
   · exact o1)
 rw [← e0,← e1] at hc
 refine hc.mono fun e W' ⟨he,bel⟩ => ?_
 subst he
 exact ⟨_,rfl,_,_,_,[],_,[],hW',trodAll_mk1 (shut_bool Tryz.underlying4 _),(trodAll_cons_mk (Below.trod laidOut (by kernel_rfl) (of_decide_eq_true (by kernel_rfl)) k0 bel.kit lt0) (trodAll_cons_mk (Below.trod laidOut (by kernel_rfl) (of_decide_eq_true (by kernel_rfl)) k1 bel.kit lt1) trodAll_mk0)),rfl,bel.kit.frame _,fun h=>by cases h⟩
theorem named:Tryz.prog.funcNamed "linchpin/linchpinlaw30.TlsBlocks" = some 5:=by kernel_rfl
set_option maxHeartbeats 4000000 in
theorem closed:joinedFacts Tryz.prog 5 Tryz.f5 Rows.tlsBlocksSpec Rows.tlsBlocksRow=true:=by
 unfold joinedFacts
 repeat' with_reducible refine Bool.and_eq_true_iff.2 ⟨?_,?_⟩
 all_goals (as_aux_lemma=>kernel_rfl)
theorem proved:Rows.TlsBlocksSaid :=
 OpenClaim.holds_of_wide 5 Tryz.f5 rfl rfl rfl rfl rfl rfl rfl ⟨rfl,rfl,rfl,rfl,rfl⟩ rfl rfl rfl rfl rfl named Tryz.func5 closed
   (of_decide_eq_true (by as_aux_lemma=>kernel_rfl)) (by unfold Func.isWrapper;first | (rw [if_pos (by decide +kernel)];kernel_rfl) | (rw [if_neg (by decide +kernel)];exact ⟨rfl,rfl⟩))
   (fun os started H enc _=>lifted os started H enc)
end Go.Proofs.YtfkcmbonmpcbfaaGreat.tlsBlocks

