/- Parts of the proof, in build order. No condition. -/
import Derived.Test.YtfkcmbonmpcbfaaGreatTa24
import Derived.Test.YtfkcmbonmpcbfaaGreatTa05
import Derived.Test.YtfkcmbonmpcbfaaGreatTa10
import Derived.Test.YtfkcmbonmpcbfaaGreatTa08
import Derived.Test.YtfkcmbonmpcbfaaGreatTa12
set_option linter.unusedSimpArgs false
set_option linter.unusedVariables false
set_option maxHeartbeats 1000000
set_option maxRecDepth 20000
namespace Go.Proofs.YtfkcmbonmpcbfaaGreat
open Go.RowKit Go.Lp Go.Sy Go.Lv Go.Sort
structure TI (s:bk) (M:Mem):Prop where
 blk:qQ s M
 full:∀ t m im,(s.thr t).isSome=true→s.mods m=some im→0<im.block→(s.at_ (t,m)).isSome=true
 tr:∀ t b,s.thr t=some b→b=true
structure l3 (s:bk) (M:Mem) (x:bk × Mem):Prop where
 mods:x.1.mods=s.mods
 thr:x.1.thr=s.thr
 at_:x.1.at_=s.at_
 ar:∀ r,r∈ars x.2↔r∈ars M
theorem l3.refl(s:bk)(M:Mem):l3 s M (s,M):=⟨rfl,rfl,rfl,fun _=>Iff.rfl⟩
theorem l3.ti{s:bk}{M:Mem}{x:bk × Mem}(h:l3 s M x)(hI:TI s M)(hk:cS x.2):TI x.1 x.2:=by
 obtain ⟨⟨md,th,at'⟩,M'⟩:=x
 obtain ⟨h1,h2,h3,h4⟩:=h
 dsimp only at h1 h2 h3 h4 hk
 subst h1 h2 h3
 exact ⟨⟨hk,fun t m a ha=>let ⟨im,a1,a2,a3,a4⟩:=hI.blk.own t m a ha; ⟨im,a1,a2,a3,(h4 _).2 a4⟩,fun r hr=>hI.blk.all r ((h4 r).1 hr),hI.blk.rt⟩,hI.full,hI.tr⟩
theorem adY{c:Int × Int→Bool}{g:Int→Int × Int}{ks:List Int}{x y:bk × Mem}{b:Bool}(hm:acq g ks x y b)(hc:∀ k,c (g k)=true)(hx:∀ p,c p=true→x.1.at_ p=none)(hall:∀ r∈ars x.2,r.kind=4→x.1.at_ (r.owner,r.mod)=some r.at_)
   {s':bk} (hs:s'.at_=y.1.at_) {ds:List (Int × Int)} (hd:dq y.1.at_ ds) :
   (eF c (s',y.2) ds).1.mods=s'.mods∧(eF c (s',y.2) ds).1.thr=s'.thr∧(eF c (s',y.2) ds).1.at_=x.1.at_∧(∀ r,r∈ars (eF c (s',y.2) ds).2↔r∈ars x.2)∧cS (eF c (s',y.2) ds).2:=by
 have hA:=hm.inv.toAt
 have hD:=gq (c:=c) ds (s',y.2) ⟨hA.ok,fun p a h=>hA.own p a (by rw [← hs];exact h),fun r hr hk=>by rw [hs];exact hA.all r hr hk⟩ hd.nd (fun k hk=>by show (s'.at_ k).isSome=true;rw [hs];exact (hd.iff k).1 hk)
 refine ⟨hD.mods,hD.thr,funext fun p => ?_,fun r => ?_,hD.inv.ok⟩
 · rw [hD.at_ p]
   by_cases hp:c p=true
   · rw [hx p hp]
     by_cases h2:p∈ds
     · rw [if_pos ⟨h2,hp⟩]
     · rw [if_neg fun h=>h2 h.1]
       show s'.at_ p=none
       rw [hs]
       cases h3:y.1.at_ p with
       | none=>rfl
       | some a=>exact absurd ((hd.iff p).2 (by rw [h3];rfl)) h2
   · rw [if_neg fun h=>hp h.2]
     show s'.at_ p=_
     rw [hs]
     exact hm.at_ p fun k _ e=>hp (e ▸ hc k)
 · rw [hD.ar r]
   by_cases h:r.kind=4∧c (r.owner,r.mod)=true
   · constructor
     · rintro ⟨h1,h2⟩
       have:=hm.inv.all r h1 h.1
       exact absurd ⟨h.1,(hd.iff _).2 (by rw [this];rfl),h.2⟩ h2
     · intro h1
       have:=hall r h1 h.1
       rw [hx _ h.2] at this;cases this
   · have h3:r∈ars y.2↔r∈ars x.2:=hm.ar r (by
       by_cases h4:r.kind=4
       · exact .inr fun k _ e=>h ⟨h4,by rw [e];exact hc k⟩
       · exact .inl h4)
     exact ⟨fun h1=>h3.1 h1.1,fun h1=>⟨h3.2 h1,fun h2=>h ⟨h2.1,h2.2.2⟩⟩⟩
theorem zw{s:bk}{M:Mem}(hI:TI s M){t:Int}(ht:(s.thr t).getD false=false):s.thr t=none∧qQ { s with thr:=bw s.thr t true } M∧∀ m,s.at_ (t,m)=none:=by
 have hn:s.thr t=none:=by
   cases h:s.thr t with
   | none=>rfl
   | some b=>rw [h,hI.tr t b h] at ht;cases ht
 refine ⟨hn,⟨hI.blk.ok,fun t' m a ha => ?_,hI.blk.all,hI.blk.rt⟩,fun m => ?_⟩
 · obtain ⟨im,a1,a2,a3,a4⟩:=hI.blk.own t' m a ha
   refine ⟨im,a1,?_,a3,a4⟩
   dsimp only
   unfold bw
   split
   · rfl
   · exact a2
 · cases h:s.at_ (t,m) with
   | none=>rfl
   | some a=>obtain ⟨im,a1,a2,_⟩:=hI.blk.own t m a h;rw [hn] at a2;cases a2
theorem pq{s:bk}{M:Mem}(hI:TI s M){t:Int}{x:bk × Mem}{e:Int}(h:abA s M t x e) :
   (e≠0∧l3 s M x∧cS x.2)∨(e=0∧0≤t∧TI x.1 x.2∧x.1.mods=s.mods∧x.1.thr=bw s.thr t true):=by
 rcases h with ⟨_,rfl,rfl⟩ | ⟨_,_,rfl,rfl⟩ | ⟨ht0,htn,ks,hk,hlt,h⟩
 · exact .inl ⟨by decide,.refl _ _,hI.blk.ok⟩
 · exact .inl ⟨by decide,.refl _ _,hI.blk.ok⟩
 · obtain ⟨hn,hB,hnone⟩:=zw hI htn
   have hmade:=iE (g:=fun m=>(t,m)) (fun a b h=>congrArg Prod.snd h) ks ({ s with thr:=bw s.thr t true },M) hB hk.nd (fun k h=>(hk.iff k).1 h) (fun k h=>by show (bw s.thr t true t).isSome=true;unfold bw;rw [if_pos rfl];rfl) (fun k h=>hnone k)
   have eg:mkG (fun m=>(t,m))=fB t:=rfl
   rw [eg] at hmade
   rcases h with ⟨hb,rfl,rfl⟩ | ⟨hb,rfl,y,ds,rfl,hd,hdl,rfl⟩
   · refine .inr ⟨rfl,ht0,⟨hmade.inv,fun t' m im h1 h2 h3 => ?_,fun t' b h1 => ?_⟩,hmade.mods,hmade.thr⟩
     · rw [hmade.mods] at h2
       by_cases e:t'=t
       · subst e
         exact hmade.all hb m ((hk.iff m).2 (by rw [show s.mods m=some im from h2];rfl)) im h2 h3
       · rw [hmade.at_ (t',m) fun k _ h=>e (congrArg Prod.fst h)]
         rw [hmade.thr] at h1
         refine hI.full t' m im ?_ h2 h3
         have:(bw s.thr t true t').isSome=true:=h1
         unfold bw at this
         rwa [if_neg e] at this
     · rw [hmade.thr] at h1
       have:bw s.thr t true t'=some b:=h1
       unfold bw at this
       split at this
       · exact (Option.some.inj this).symm
       · exact hI.tr t' b this
   · refine .inl ⟨by decide,?_⟩
     obtain ⟨u1,u2,u3,u4,u5⟩:=adY (c:=isT t) hmade (fun k=>by unfold isT;simp) (fun p hp=>by
       have:p.1=t:=by unfold isT at hp;simpa using hp
       show s.at_ p=none
       rw [show p=(t,p.2) from Prod.ext this rfl];exact hnone p.2) hI.blk.all (s' := { (cV (fB t) ({ s with thr:=bw s.thr t true },M) ks).1.1 with thr:=cT (cV (fB t) ({ s with thr:=bw s.thr t true },M) ks).1.1.thr t }) rfl hd
     refine ⟨⟨u1.trans hmade.mods,u2.trans ?_,u3,u4⟩,u5⟩
     show cT (cV (fB t) ({ s with thr:=bw s.thr t true },M) ks).1.1.thr t=s.thr
     rw [hmade.thr]
     show cT (bw s.thr t true) t=s.thr
     funext q
     unfold cT bw
     by_cases hq:q=t
     · subst hq;rw [if_pos rfl,hn]
     · rw [if_neg hq,if_neg hq]
theorem yQ{s:bk}{M:Mem}(hI:TI s M){m:Int}{im:an}(hr:0≤im.block∧((c7 im.tls).length:Int)≤im.block)(hn:s.mods m=none):qQ { s with mods:=bw s.mods m im } M∧∀ t,s.at_ (t,m)=none:=by
 refine ⟨⟨hI.blk.ok,fun t' m' a ha => ?_,hI.blk.all,fun m' im' h => ?_⟩,fun t => ?_⟩
 · obtain ⟨im',a1,a2,a3,a4⟩:=hI.blk.own t' m' a ha
   refine ⟨im',?_,a2,a3,a4⟩
   dsimp only
   unfold bw
   rw [if_neg (show ¬ m'=m from fun e=>by rw [e,hn] at a1;cases a1)]
   exact a1
 · dsimp only at h
   unfold bw at h
   split at h
   · cases h;exact hr
   · exact hI.blk.rt m' im' h
 · cases h:s.at_ (t,m) with
   | none=>rfl
   | some a=>obtain ⟨im',a1,_⟩:=hI.blk.own t m a h;rw [hn] at a1;cases a1
theorem oK{s:bk}{M:Mem}(hI:TI s M){m:Int}{im:an}{br:Bool}(hr:br=true→0≤im.block∧((c7 im.tls).length:Int)≤im.block){x:bk × Mem}{e:Int}(h:zB s M m im br x e) :
   (e≠0∧l3 s M x∧cS x.2)∨(e=0∧0≤m∧br=true∧TI x.1 x.2∧x.1.mods=bw s.mods m im∧x.1.thr=s.thr):=by
 rcases h with ⟨_,rfl,rfl⟩ | ⟨_,_,_,rfl,rfl⟩ | ⟨hm0,hbr,hmn,ks,hk,hlt,h⟩
 · exact .inl ⟨by decide,.refl _ _,hI.blk.ok⟩
 · exact .inl ⟨by decide,.refl _ _,hI.blk.ok⟩
 · have hn:s.mods m=none:=by
     cases h9:s.mods m with
     | none=>rfl
     | some b=>rw [h9] at hmn;cases hmn
   obtain ⟨hB,hnone⟩:=yQ hI (hr hbr) hn
   have hself:bw s.mods m im m=some im:=by unfold bw;rw [if_pos rfl]
   have hmade:=iE (g:=fun t=>(t,m)) (fun a b h=>congrArg Prod.fst h) ks ({ s with mods:=bw s.mods m im },M) hB hk.nd (fun k h=>by show (bw s.mods m im m).isSome=true;rw [hself];rfl) (fun k h=>(hk.iff k).1 h) (fun k h=>hnone k)
   have eg:mkG (fun t=>(t,m))=gA m:=rfl
   rw [eg] at hmade
   rcases h with ⟨hb,rfl,rfl⟩ | ⟨hb,rfl,y,ds,rfl,hd,hdl,rfl⟩
   · refine .inr ⟨rfl,hm0,hbr,⟨hmade.inv,fun t' m' im' h1 h2 h3 => ?_,fun t' b h1 => ?_⟩,hmade.mods,hmade.thr⟩
     · rw [hmade.mods] at h2
       rw [hmade.thr] at h1
       by_cases e:m'=m
       · subst e
         exact hmade.all hb t' ((hk.iff t').2 h1) im' h2 h3
       · rw [hmade.at_ (t',m') fun k _ h=>e (congrArg Prod.snd h)]
         refine hI.full t' m' im' h1 ?_ h3
         have:bw s.mods m im m'=some im':=h2
         unfold bw at this
         rwa [if_neg e] at this
     · rw [hmade.thr] at h1
       exact hI.tr t' b h1
   · refine .inl ⟨by decide,?_⟩
     obtain ⟨u1,u2,u3,u4,u5⟩:=adY (c:=isM m) hmade (fun k=>by unfold isM;simp) (fun p hp=>by
       have:p.2=m:=by unfold isM at hp;simpa using hp
       show s.at_ p=none
       rw [show p=(p.1,m) from Prod.ext rfl this];exact hnone p.1) hI.blk.all (s' := { (cV (gA m) ({ s with mods:=bw s.mods m im },M) ks).1.1 with mods:=cT (cV (gA m) ({ s with mods:=bw s.mods m im },M) ks).1.1.mods m }) rfl hd
     refine ⟨⟨u1.trans ?_,u2.trans hmade.thr,u3,u4⟩,u5⟩
     show cT (cV (gA m) ({ s with mods:=bw s.mods m im },M) ks).1.1.mods m=s.mods
     rw [hmade.mods]
     show cT (bw s.mods m im) m=s.mods
     funext q
     unfold cT bw
     by_cases hq:q=m
     · subst hq;rw [if_pos rfl,hn]
     · rw [if_neg hq,if_neg hq]
theorem mS{s:bk}{M:Mem}(hI:TI s M){m:Int}{ds:List (Int × Int)}(hd:dq s.at_ ds):TI (goR s M m ds).1 (goR s M m ds).2∧(goR s M m ds).1.mods=cT s.mods m∧(goR s M m ds).1.thr=s.thr:=by
 have hA:=hI.blk.toAt
 have hD:=gq (c:=isM m) ds ({ s with mods:=cT s.mods m },M) ⟨hA.ok,hA.own,hA.all⟩ hd.nd (fun k hk=>(hd.iff k).1 hk)
 have e:goR s M m ds=eF (isM m) ({ s with mods:=cT s.mods m },M) ds:=rfl
 rw [e]
 have hat:∀ p,(eF (isM m) ({ s with mods:=cT s.mods m },M) ds).1.at_ p=if p.2=m then none else s.at_ p:=fun p=>by
   rw [hD.at_ p]
   by_cases h:p.2=m
   · rw [if_pos h]
     by_cases h2:p∈ds
     · rw [if_pos ⟨h2,by unfold isM;simp [h]⟩]
     · rw [if_neg fun h=>h2 h.1]
       show s.at_ p=none
       cases h3:s.at_ p with
       | none=>rfl
       | some a=>exact absurd ((hd.iff p).2 (by rw [h3];rfl)) h2
   · rw [if_neg h,if_neg fun h2=>h (by have:=h2.2;unfold isM at this;simpa using this)]
 refine ⟨⟨⟨hD.inv.ok,fun t m' a ha => ?_,hD.inv.all,fun m' im h => ?_⟩,fun t m' im h1 h2 h3 => ?_,fun t b h => ?_⟩,hD.mods,hD.thr⟩
 · rw [hat] at ha
   split at ha
   · cases ha
   · rename_i hm
     obtain ⟨im,a1,a2,a3,a4⟩:=hI.blk.own t m' a ha
     refine ⟨im,?_,?_,a3,(hD.ar _).2 ⟨a4,fun h=>hm (by have:=h.2.2;unfold isM at this;simpa using this)⟩⟩
     · rw [hD.mods]
       show cT s.mods m m'=some im
       unfold cT;rw [if_neg hm];exact a1
     · rw [hD.thr];exact a2
 · rw [hD.mods] at h
   have:cT s.mods m m'=some im:=h
   unfold cT at this
   split at this
   · cases this
   · exact hI.blk.rt m' im this
 · rw [hD.mods] at h2
   rw [hD.thr] at h1
   have:cT s.mods m m'=some im:=h2
   unfold cT at this
   split at this
   · cases this
   · rename_i hm
     rw [hat,if_neg hm]
     exact hI.full t m' im h1 this h3
 · rw [hD.thr] at h;exact hI.tr t b h
theorem kB{s:bk}{M:Mem}(hI:TI s M){t:Int}{ds:List (Int × Int)}(hd:dq s.at_ ds):TI (lC s M t ds).1 (lC s M t ds).2∧(lC s M t ds).1.mods=s.mods∧(lC s M t ds).1.thr=cT s.thr t:=by
 have hA:=hI.blk.toAt
 have hD:=gq (c:=isT t) ds ({ s with thr:=cT s.thr t },M) ⟨hA.ok,hA.own,hA.all⟩ hd.nd (fun k hk=>(hd.iff k).1 hk)
 have e:lC s M t ds=eF (isT t) ({ s with thr:=cT s.thr t },M) ds:=rfl
 rw [e]
 have hat:∀ p,(eF (isT t) ({ s with thr:=cT s.thr t },M) ds).1.at_ p=if p.1=t then none else s.at_ p:=fun p=>by
   rw [hD.at_ p]
   by_cases h:p.1=t
   · rw [if_pos h]
     by_cases h2:p∈ds
     · rw [if_pos ⟨h2,by unfold isT;simp [h]⟩]
     · rw [if_neg fun h=>h2 h.1]
       show s.at_ p=none
       cases h3:s.at_ p with
       | none=>rfl
       | some a=>exact absurd ((hd.iff p).2 (by rw [h3];rfl)) h2
   · rw [if_neg h,if_neg fun h2=>h (by have:=h2.2;unfold isT at this;simpa using this)]
 have hth:∀ t' b,cT s.thr t t'=some b→t'≠t∧s.thr t'=some b:=fun t' b h=>by
   unfold cT at h
   split at h
   · cases h
   · rename_i h2;exact ⟨h2,h⟩
 refine ⟨⟨⟨hD.inv.ok,fun t' m a ha => ?_,hD.inv.all,fun m im h => ?_⟩,fun t' m im h1 h2 h3 => ?_,fun t' b h => ?_⟩,hD.mods,hD.thr⟩
 · rw [hat] at ha
   split at ha
   · cases ha
   · rename_i hm
     obtain ⟨im,a1,a2,a3,a4⟩:=hI.blk.own t' m a ha
     refine ⟨im,by rw [hD.mods];exact a1,?_,a3,(hD.ar _).2 ⟨a4,fun h=>hm (by have:=h.2.2;unfold isT at this;simpa using this)⟩⟩
     rw [hD.thr]
     show (cT s.thr t t').isSome=true
     unfold cT;rw [if_neg (show ¬ t'=t from hm)];exact a2
 · rw [hD.mods] at h;exact hI.blk.rt m im h
 · rw [hD.mods] at h2
   rw [hD.thr] at h1
   obtain ⟨b,hb⟩:=Option.isSome_iff_exists.1 h1
   obtain ⟨k1,k2⟩:=hth t' b hb
   rw [hat,if_neg (show ¬ t'=t from k1)]
   exact hI.full t' m im (by rw [k2];rfl) h2 h3
 · rw [hD.thr] at h;exact hI.tr t' b (hth t' b h).2
theorem abb{s s':bk}{M:Mem}(hI:TI s M){m:Int}{im:an}{br:Bool}(hr:br=true→0≤im.block∧((c7 im.tls).length:Int)≤im.block){e:Int}(h:zF s m im br s' e) :
   (e≠0∧s'=s)∨(e=0∧TI s' M∧s'.thr=s.thr∧s'.mods=bw s.mods m im∧∃ old,s.mods m=some old∧im.block=old.block):=by
 rcases h with ⟨_,rfl,rfl⟩ | ⟨old,ho,⟨_,rfl,rfl⟩ | ⟨hb,hbl,rfl,rfl⟩⟩
 · exact .inl ⟨by decide,rfl⟩
 · exact .inl ⟨by decide,rfl⟩
 · refine .inr ⟨rfl,⟨⟨hI.blk.ok,fun t m' a ha => ?_,hI.blk.all,fun m' im' h => ?_⟩,fun t m' im' h1 h2 h3 => ?_,hI.tr⟩,rfl,rfl,old,ho,hbl⟩
   · obtain ⟨im',a1,a2,a3,a4⟩:=hI.blk.own t m' a ha
     dsimp only
     unfold bw
     by_cases e:m'=m
     · subst e
       rw [ho] at a1;cases a1
       exact ⟨im,by rw [if_pos rfl],a2,by omega,by rw [hbl];exact a4⟩
     · exact ⟨im',by rw [if_neg e];exact a1,a2,a3,a4⟩
   · dsimp only at h
     unfold bw at h
     split at h
     · cases h;exact hr hb
     · exact hI.blk.rt m' im' h
   · dsimp only at h2
     unfold bw at h2
     split at h2
     · rename_i e
       cases h2
       exact hI.full t m' old h1 (by rw [e];exact ho) (by omega)
     · exact hI.full t m' im' h1 h2 h3
theorem TI.areas{s:bk}{M N:Mem}(hI:TI s M)(hk:cS N)(h:∀ r:Ar,r.kind=4→(r∈ars N↔r∈ars M)):TI s N :=
 ⟨⟨hk,fun t m a ha=>let ⟨im,a1,a2,a3,a4⟩:=hI.blk.own t m a ha; ⟨im,a1,a2,a3,(h _ rfl).2 a4⟩,fun r hr h4=>hI.blk.all r ((h r h4).1 hr) h4,hI.blk.rt⟩,hI.full,hI.tr⟩
theorem aaz{s:bk}{M:Mem}(hI:TI s M){a:Ar}(ha:a.kind≠4):TI s (mapM M a).1:=by
 by_cases he:(mapM M a).2=0
 · exact hI.areas (hI.blk.ok.map a) fun r hr=>(kh he r).trans ⟨fun h=>h.elim (fun e=>absurd (e ▸ hr) ha) id,.inr⟩
 · rw [oH he];exact hI
theorem cS.store{M:Mem}(h:cS M)(t n:Int):cS (dJ M t 1 n).1:=by
 unfold dJ
 split
 · exact h
 · split
   · split
     · exact h
     · rename_i x hx _
       obtain ⟨h1,h2,h3,h4⟩:=fb hx
       have hl:=h.inv.len x h1
       exact h.upd h1 (gL (by rw [iF];omega))
   · exact h
theorem wq{M:Mem}{t n:Int}(h:(dJ M t 1 n).2≠0):(dJ M t 1 n).1=M:=by
 unfold dJ at h ⊢
 by_cases h1:kb M t 1≠0
 · rw [if_pos h1]
 · rw [if_neg h1] at h ⊢
   cases hm:dW M t 1 with
   | none=>rfl
   | some x =>
     simp only [hm] at h ⊢
     by_cases hk:x.1.kind=0
     · rw [if_pos hk]
     · rw [if_neg hk] at h;exact absurd rfl h
theorem wu{s:bk}{M:Mem}(hI:TI s M)(t n:Int):TI s (dJ M t 1 n).1:=hI.areas (hI.blk.ok.store t n) fun r _=>by rw [xC]
def pR(im:an):Prop:=0≤im.block∧((c7 im.tls).length:Int)≤im.block
theorem wK{ims:List an}(hims:∀ i b,fM (bI ims i) b→b=true→pR (bI ims i)){a:dP}{s:bk}{M:Mem}(hI:TI s M){x:bk × Mem}{e:Int}(h:DoR ims a s M x e) :
   TI x.1 x.2∧(e≠0→l3 s M x):=by
 rcases h with ⟨_,br,hbr,h⟩ | ⟨_,h⟩ | ⟨_,br,s',hbr,h,rfl⟩ | ⟨_,rfl,ds,hd,_,rfl⟩ | ⟨_,rfl,ds,hd,_,rfl⟩ | ⟨_,rfl,rfl⟩ | ⟨_,⟨_,rfl,rfl⟩ | ⟨_,rfl,rfl⟩⟩
 · rcases Int.lt_or_le a.n 0 with hn | hn
   · rcases h with ⟨_,rfl,rfl⟩ | ⟨h0,_⟩ | ⟨h0,_⟩
     · exact ⟨hI,fun _=>.refl _ _⟩
     · omega
     · omega
   · rcases oK hI (hims a.i br (hbr hn)) h with ⟨h1,h2,h3⟩ | ⟨h1,_,_,h2,_⟩
     · exact ⟨h2.ti hI h3,fun _=>h2⟩
     · exact ⟨h2,fun h3=>absurd h1 h3⟩
 · rcases pq hI h with ⟨h1,h2,h3⟩ | ⟨h1,_,h2,_⟩
   · exact ⟨h2.ti hI h3,fun _=>h2⟩
   · exact ⟨h2,fun h3=>absurd h1 h3⟩
 · by_cases hs:(s.mods a.n).isSome=true
   · rcases abb hI (hims a.i br (hbr hs)) h with ⟨h1,rfl⟩ | ⟨h1,h2,_⟩
     · exact ⟨hI,fun _=>.refl _ _⟩
     · exact ⟨h2,fun h3=>absurd h1 h3⟩
   · rcases h with ⟨_,rfl,rfl⟩ | ⟨old,ho,_⟩
     · exact ⟨hI,fun _=>.refl _ _⟩
     · rw [ho] at hs;exact absurd rfl hs
 · exact ⟨(mS hI hd).1,fun h=>absurd rfl h⟩
 · exact ⟨(kB hI hd).1,fun h=>absurd rfl h⟩
 · exact ⟨aaz hI (show (3:Int)≠4 by decide),fun h=>by rw [oH h];exact .refl _ _⟩
 · exact ⟨wu hI _ _,fun h=>by rw [wq h];exact .refl _ _⟩
 · exact ⟨hI,fun _=>.refl _ _⟩
theorem TI.i64{s:bk}{M:Mem}(hI:TI s M)(k:Int × Int)(a:Int)(h:s.at_ k=some a):I64 a:=by
 obtain ⟨im,_,_,_,h4⟩:=hI.blk.own k.1 k.2 a h
 obtain ⟨x,hx,e⟩:=gh.1 h4
 have:=cU.1 (hI.blk.ok.inv.right x hx)
 rw [e] at this
 unfold I64
 dsimp only at this
 omega
theorem acO{s:bk}{M:Mem}(hI:TI s M){N:Nat}(hM:M.length≤N):fk s.at_ N:=fun l hnd hl=>by
 have hp:(l.map fun p=>(s.at_ p).getD 0).Nodup:=by
   induction l with
   | nil=>exact List.nodup_nil
   | cons p l ih =>
     rw [List.map_cons,List.nodup_cons]
     refine ⟨fun h => ?_,ih (List.nodup_cons.1 hnd).2 fun q hq=>hl q (List.mem_cons_of_mem _ hq)⟩
     obtain ⟨q,hq,e⟩:=List.mem_map.1 h
     obtain ⟨a,ha⟩:=Option.isSome_iff_exists.1 (hl p List.mem_cons_self)
     obtain ⟨b,hb⟩:=Option.isSome_iff_exists.1 (hl q (List.mem_cons_of_mem _ hq))
     rw [ha,hb] at e
     have e:b=a:=e
     subst e
     obtain ⟨im1,_,_,_,h1⟩:=hI.blk.own p.1 p.2 b ha
     obtain ⟨im2,_,_,_,h2⟩:=hI.blk.own q.1 q.2 b hb
     have:=uB hI.blk.ok h1 h2 rfl
     simp only [Ar.mk.injEq] at this
     have:p=q:=Prod.ext this.2.2.2.1 this.2.2.2.2
     exact (List.nodup_cons.1 hnd).1 (this ▸ hq)
 have hin:∀ a∈(l.map fun p=>(s.at_ p).getD 0),a∈(ars M).map (·.at_):=fun a ha=>by
   obtain ⟨p,hq,e⟩:=List.mem_map.1 ha
   obtain ⟨b,hb⟩:=Option.isSome_iff_exists.1 (hl p hq)
   rw [hb] at e
   have e:b=a:=e
   obtain ⟨im1,_,_,_,h1⟩:=hI.blk.own p.1 p.2 b hb
   exact List.mem_map.2 ⟨_,h1,e⟩
 have:=lM hp hin
 simp only [List.length_map,ars] at this
 omega
theorem abn{im:an}(h:fY im=true):pR im:=by
 have hs:lU im=true:=by
   unfold fY at h
   simp only [Bool.and_eq_true] at h
   exact h.1.1.1.1.1.1.1.1
 have:=(fc.1 hs).bl
 unfold pR
 rw [oG]
 omega
theorem gM{im:an}{b:Bool}(h:fM im b)(hb:b=true):pR im:=abn (h.1 hb).2
structure uy (ims:List an) (s x:bk):Prop where
 mods:x.mods=s.mods∨(∃ m i,x.mods=bw s.mods m (bI ims i))∨∃ m,x.mods=cT s.mods m
 thr:x.thr=s.thr∨(∃ t,x.thr=bw s.thr t true)∨∃ t,x.thr=cT s.thr t
theorem abM{ims:List an}{a:dP}{s:bk}{M:Mem}(hI:TI s M){x:bk × Mem}{e:Int}(h:DoR ims a s M x e):uy ims s x.1:=by
 have hims:∀ i b,fM (bI ims i) b→b=true→pR (bI ims i):=fun i b h1 h2=>gM h1 h2
 rcases h with ⟨_,br,hbr,h⟩ | ⟨_,h⟩ | ⟨_,br,s',hbr,h,rfl⟩ | ⟨_,rfl,ds,hd,_,rfl⟩ | ⟨_,rfl,ds,hd,_,rfl⟩ | ⟨_,rfl,rfl⟩ | ⟨_,⟨_,rfl,rfl⟩ | ⟨_,rfl,rfl⟩⟩
 · rcases Int.lt_or_le a.n 0 with hn | hn
   · rcases h with ⟨_,rfl,rfl⟩ | ⟨h0,_⟩ | ⟨h0,_⟩
     · exact ⟨.inl rfl,.inl rfl⟩
     · omega
     · omega
   · rcases oK hI (hims a.i br (hbr hn)) h with ⟨_,h2,_⟩ | ⟨_,_,_,_,h2,h3⟩
     · exact ⟨.inl h2.mods,.inl h2.thr⟩
     · exact ⟨.inr (.inl ⟨_,_,h2⟩),.inl h3⟩
 · rcases pq hI h with ⟨_,h2,_⟩ | ⟨_,_,_,h2,h3⟩
   · exact ⟨.inl h2.mods,.inl h2.thr⟩
   · exact ⟨.inl h2,.inr (.inl ⟨_,h3⟩)⟩
 · rcases h with ⟨_,rfl,rfl⟩ | ⟨old,ho,⟨_,rfl,rfl⟩ | ⟨_,_,rfl,rfl⟩⟩
   · exact ⟨.inl rfl,.inl rfl⟩
   · exact ⟨.inl rfl,.inl rfl⟩
   · exact ⟨.inr (.inl ⟨_,_,rfl⟩),.inl rfl⟩
 · exact ⟨.inr (.inr ⟨_,(mS hI hd).2.1⟩),.inl (mS hI hd).2.2⟩
 · exact ⟨.inl (kB hI hd).2.1,.inr (.inr ⟨_,(kB hI hd).2.2⟩)⟩
 · exact ⟨.inl rfl,.inl rfl⟩
 · exact ⟨.inl rfl,.inl rfl⟩
 · exact ⟨.inl rfl,.inl rfl⟩
theorem uy.fewM{ims:List an}{s x:bk}(h:uy ims s x){N:Nat}(hN:fk s.mods N):fk x.mods (N+1):=by
 rcases h.mods with e | ⟨m,i,e⟩ | ⟨m,e⟩<;>rw [e]
 · exact hN.mono (by omega)
 · exact hN.put _ _
 · exact (hN.del _).mono (by omega)
theorem uy.fewT{ims:List an}{s x:bk}(h:uy ims s x){N:Nat}(hN:fk s.thr N):fk x.thr (N+1):=by
 rcases h.thr with e | ⟨m,e⟩ | ⟨m,e⟩<;>rw [e]
 · exact hN.mono (by omega)
 · exact hN.put _ _
 · exact (hN.del _).mono (by omega)
theorem uy.fit{ims:List an}{s x:bk}(h:uy ims s x)(hs:∀ k im,s.mods k=some im→gU im)(hi:∀ i,gU (bI ims i)):∀ k im,x.mods k=some im→gU im:=fun k im hk=>by
 rcases h.mods with e | ⟨m,i,e⟩ | ⟨m,e⟩<;>rw [e] at hk
 · exact hs k im hk
 · unfold bw at hk
   split at hk
   · cases hk;exact hi i
   · exact hs k im hk
 · unfold cT at hk
   split at hk
   · cases hk
   · exact hs k im hk
theorem gK{α:Type}{lt:α→α→Prop}(irr:∀ a,¬ lt a a)(tr:∀ a b c,lt a b→lt b c→lt a c):∀ {l q:List α},l.Pairwise lt→q.Pairwise lt→(∀ a,a∈l↔a∈q)→l=q
 | [],[],_,_,_=>rfl
 | [],b::q,_,_,h=>by cases (h b).2 List.mem_cons_self
 | a::l,[],_,_,h=>by cases (h a).1 List.mem_cons_self
 | a :: l,b::q,hl,hq,h=>by
   rw [List.pairwise_cons] at hl hq
   have hab:a=b:=by
     rcases List.mem_cons.1 ((h a).1 List.mem_cons_self) with e | e
     · exact e
     · rcases List.mem_cons.1 ((h b).2 List.mem_cons_self) with e2 | e2
       · exact e2.symm
       · exact absurd (tr _ _ _ (hq.1 a e) (hl.1 b e2)) (irr b)
   subst hab
   rw [gK irr tr hl.2 hq.2 fun x => ?_]
   constructor
   · intro hx
     rcases List.mem_cons.1 ((h x).1 (List.mem_cons_of_mem _ hx)) with e | e
     · rw [e] at hx;exact absurd (hl.1 a hx) (irr a)
     · exact e
   · intro hx
     rcases List.mem_cons.1 ((h x).2 (List.mem_cons_of_mem _ hx)) with e | e
     · rw [e] at hx;exact absurd (hq.1 a hx) (irr a)
     · exact e
theorem tD{β:Type}{m:Int→Option β}{ks q:List Int}(h:dq m ks)(hs:ks.Pairwise fun a b=>a<b)(hq:q.Pairwise fun a b=>a<b)(hm:∀ k,k∈q↔(m k).isSome=true):ks=q :=
 gK (fun a=>Int.lt_irrefl a) (fun a b c=>Int.lt_trans) hs hq fun k=>(h.iff k).trans (hm k).symm
theorem yV{β:Type}{m:Int × Int→Option β}{ks q:List (Int × Int)}(h:dq m ks)(hs:ks.Pairwise jE)(hq:q.Pairwise jE)(hm:∀ k,k∈q↔(m k).isSome=true):ks=q :=
 gK (fun a h=>by unfold jE at h;omega) (fun a b c h1 h2=>by unfold jE at *;omega) hs hq fun k=>(h.iff k).trans (hm k).symm
theorem lK{α β:Type}[DecidableEq α]{m:α→Option β}{k j:α}{v:β} : (bw m k v j).isSome=true↔j=k∨(m j).isSome=true:=by
 unfold bw
 split
 · rename_i e;exact ⟨fun _=>.inl e,fun _=>rfl⟩
 · rename_i e;exact ⟨.inr,fun h=>h.elim (fun h=>absurd h e) id⟩
theorem qV{M:Mem}(h:cS M):(ars M).Pairwise fun a b=>a.at_<b.at_:=by
 unfold ars
 rw [List.pairwise_map]
 exact h.inv.asc.imp_of_mem fun {x y} hx hy hh=>by have:=cU.1 (h.inv.right x hx);omega
theorem acN{M N:Mem}(hM:cS M)(hN:cS N)(h:∀ r,r∈ars M↔r∈ars N):ars M=ars N :=
 gK (lt:=fun a b:Ar=>a.at_<b.at_) (fun a h=>absurd h (Int.lt_irrefl _)) (fun a b c h1 h2=>Int.lt_trans h1 h2) (qV hM) (qV hN) h
def pic(name tls:ByteArray)(block:Int):an := { (default:an) with name:=name,lib:=true,entry := -1,tls:=tls,block:=block }
def mK:ByteArray:=⟨#[108,105,98]⟩
def abl:ByteArray:=⟨#[97,98,99,100]⟩
def tX:ByteArray:=⟨#[120]⟩
def ss:List UInt8:=[97,98,99,100,0,0,0,0,0,0,0,0]
abbrev smI:an:=pic mK abl 12
def sm1:bk := { jd with mods:=bw jd.mods 3 smI }
def sm2:bk := { sm1 with thr:=bw sm1.thr 0 true,at_:=bw sm1.at_ (0,3) 512 }
def sm3:bk := { sm2 with thr:=bw sm2.thr 1 true,at_:=bw sm2.at_ (1,3) 1024 }
def sm4:bk := { sm3 with thr:=cT sm3.thr 0,at_:=cT sm3.at_ (0,3) }
def abc:Mem:=[(⟨512,12,4,0,3⟩,ss)]
def j3:Mem:=[(⟨512,12,4,0,3⟩,ss),(⟨1024,12,4,1,3⟩,ss)]
def ug:Mem:=[(⟨1024,12,4,1,3⟩,ss)]
theorem adp{br:Bool}(hb:br=true){x:bk × Mem}{e:Int}(h:zB jd [] 3 smI br x e):x=(sm1,[])∧e=0:=by
 rcases h with ⟨h1 | h1,_⟩ | ⟨_,_,h1,_⟩ | ⟨_,_,_,ks,hk,hlt,h⟩
 · omega
 · rw [hb] at h1;cases h1
 · cases h1
 · have hks:ks=[]:=tD hk hlt .nil fun k=>⟨fun h=>(by cases h),fun h=>(by cases h)⟩
   subst hks
   rcases h with ⟨_,rfl,rfl⟩ | ⟨h1,_⟩
   · exact ⟨rfl,rfl⟩
   · cases h1
theorem ace{m:Int→Option an}(hm:m=sm1.mods)(k:Int):k∈[(3:Int)]↔(m k).isSome=true:=by
 subst hm
 show _↔(bw jd.mods 3 smI k).isSome=true
 rw [lK,List.mem_singleton]
 exact ⟨.inl,fun h=>h.elim id fun h=>(by cases h)⟩
theorem adn:fB 0 ({ sm1 with thr:=bw sm1.thr 0 true },[]) 3=(sm2,abc,true):=by kernel_rfl
theorem ado:fB 1 ({ sm2 with thr:=bw sm2.thr 1 true },abc) 3=(sm3,j3,true):=by kernel_rfl
theorem abd{s s':bk}{M M':Mem}{t:Int}(ht:0≤t)(hn:s.thr t=none)(hm:s.mods=sm1.mods)(hk:fB t ({ s with thr:=bw s.thr t true },M) 3=(s',M',true)){x:bk × Mem}{e:Int}(h:abA s M t x e):x=(s',M')∧e=0:=by
 rcases h with ⟨h1,_⟩ | ⟨_,h1,_⟩ | ⟨_,_,ks,hks,hlt,h⟩
 · omega
 · rw [hn] at h1;cases h1
 · have e0:ks=[3]:=tD hks hlt (by simp) (ace hm)
   subst e0
   have e1:cV (fB t) ({ s with thr:=bw s.thr t true },M) [3]=((s',M'),true):=by
     rw [ig (by rw [hk]),hk];rfl
   rw [e1] at h
   rcases h with ⟨_,rfl,rfl⟩ | ⟨h1,_⟩
   · exact ⟨rfl,rfl⟩
   · cases h1
theorem abe{im:an}{br:Bool}(hb:br=true){x:bk × Mem}{e:Int}(h:zB sm3 j3 3 im br x e):x=(sm3,j3)∧e=4:=by
 rcases h with ⟨h1 | h1,_⟩ | ⟨_,_,_,h1,h2⟩ | ⟨_,_,h1,_⟩
 · omega
 · rw [hb] at h1;cases h1
 · exact ⟨h1,h2⟩
 · cases h1
theorem acd:lC sm3 j3 0 [(0,3),(1,3)]=(sm4,ug):=by kernel_rfl
theorem adm{ds:List (Int × Int)}(hd:dq sm3.at_ ds)(hs:ds.Pairwise jE):lC sm3 j3 0 ds=(sm4,ug):=by
 have e0:ds=[(0,3),(1,3)]:=yV hd hs (by simp [jE]) fun k=>by
   show _↔(bw (bw jd.at_ (0,3) 512) (1,3) 1024 k).isSome=true
   rw [lK,lK,List.mem_cons,List.mem_singleton]
   exact ⟨fun h=>h.elim (fun h=>.inr (.inl h)) .inl,fun h=>h.elim .inr fun h=>h.elim .inl fun h=>(by cases h)⟩
 rw [e0];exact acd
theorem ads{im:an}(hbl:im.block=12){br:Bool}(hb:br=true){s':bk}{e:Int}(h:zF sm4 3 im br s' e):s' = { sm4 with mods:=bw sm4.mods 3 im } ∧ e=0:=by
 have h3:sm4.mods 3=some smI:=rfl
 rcases h with ⟨h1,_⟩ | ⟨old,ho,h⟩
 · rw [h3] at h1;cases h1
 · rw [h3] at ho;cases ho
   rcases h with ⟨h1 | h1,_⟩ | ⟨_,_,h1,h2⟩
   · rw [hb] at h1;cases h1
   · exact absurd hbl h1
   · exact ⟨h1,h2⟩
theorem acg{s:bk}(hs:s.mods 4=none){im:an}{br:Bool}{s':bk}{e:Int}(h:zF s 4 im br s' e):s'=s∧e=9:=by
 rcases h with ⟨_,h1,h2⟩ | ⟨old,ho,_⟩
 · exact ⟨h1,h2⟩
 · rw [hs] at ho;cases ho
theorem lO{n t:ByteArray}{b:Int}(h:fY (pic n t b)=true){br:Bool}(hr:fM (pic n t b) br):br=true :=
 hr.2 ⟨Nat.zero_le _,fun _ h=>(by cases h),fun _ h=>(by cases h)⟩ h
theorem adP:fY smI=true:=by kernel_rfl
theorem adQ:fY (pic mK .empty 0)=true:=by kernel_rfl
theorem adR:fY (pic mK tX 12)=true:=by kernel_rfl
theorem oz{α β:Type} : fk (fun _:α=>(none:Option β)) 0:=fun l _ h=>by
 cases l with
 | nil=>exact Nat.le_refl _
 | cons k l=>have:=h k List.mem_cons_self;cases this
theorem adq:cS abc:=⟨⟨fun x hx=>by rw [List.mem_singleton.1 hx];rfl,by simp [abc],fun x hx=>by rw [List.mem_singleton.1 hx];rfl⟩,by decide⟩
theorem wm:cS j3:=⟨⟨fun x hx=>by rcases List.mem_cons.1 hx with rfl | hx;(· rfl);rw [List.mem_singleton.1 hx];rfl,by simp [j3],fun x hx=>by rcases List.mem_cons.1 hx with rfl | hx;(· rfl);rw [List.mem_singleton.1 hx];rfl⟩,by decide⟩
theorem adr:cS ug:=⟨⟨fun x hx=>by rw [List.mem_singleton.1 hx];rfl,by simp [ug],fun x hx=>by rw [List.mem_singleton.1 hx];rfl⟩,by decide⟩
theorem wk:∀ k im,sm1.mods k=some im→gU im:=fun k im h=>by
 have h:bw jd.mods 3 smI k=some im:=h
 unfold bw at h
 split at h
 · cases h;exact ⟨by show I64 12;unfold I64;decide,by show abl.size≤maxLen;decide⟩
 · cases h
theorem acf:kO j3 1024 12=(ss,0):=by kernel_rfl
open Go.Proofs.Tryz
attribute [local irreducible] aL aB awp aC fwp Quiet
theorem abT(xs:Array Value)(l:List Nat):ox xs xs l=true:=by
 unfold ox
 rw [List.all_eq_true]
 intro o _
 cases mr xs o with
 | none=>rfl
 | some a=>simp
theorem gH(n t:ByteArray)(b:Int):Con Tryz.prog 62 [.string n,.string t,.int .i64 b] [] [] fun r _ _=>r=(pic n t b).val:=by
 refine EN3 Tryz.func62 rfl (aSR (LT rfl (bg (zs:=ZI) (by kernel_rfl) rfl (fun b0_0=>(aHN ?_)))))
 refine aNn (aSR (aM rfl (aM rfl (aM rfl (aU rfl (eH (l:=[(0,.tmp 7),(1,.const (.bool true)),(16,.const (.int .i64 (-1))),(6,.tmp 8),(7,.tmp 9)]) (zs:=ZI) (pl:=[(0,1),(1,1),(2,1),(3,1),(4,1),(5,1),(6,1),(7,1),(8,1),(9,1),(10,1),(11,1),(12,1),(13,1),(14,1),(15,1),(16,1),(17,1),(18,1),(19,6),(25,1)]) (by kernel_rfl) (by kernel_rfl) (by kernel_rfl) rfl rfl rfl) (aJ rfl (aV 0 tk40 rfl rfl rfl rfl (aHK ?_))))))))
 refine aNn (aj ?_)
 refine wP [] [] rfl Tryz.results62 (fE 0 tk40 rfl rfl rfl) ?_ (.inr rfl)
 rfl
theorem sW(a b:Sl Ar)(h:a.l=b.l):Con Tryz.prog 37 [a.val,b.val] [ShF iR a,ShF iR b] [] fun r _ _=>r=.bool true:=by
 have hll:a.l.length=b.l.length:=congrArg List.length h
 refine EN2 Tryz.func37 rfl (ct (.of (aF 1 rfl)) (fun hlen=>(aSR (aA rfl (aNs (aSR (aM rfl (aU rfl (aY Tryz.underlying71 rfl) (aM rfl (aU rfl (aY Tryz.underlying71 rfl) (aU rfl (dE rfl rfl) (aNn ?_))))))))))))
 refine ah _ rfl (fun h1 => ?_) (fun h1 => ?_)
 ·skip
  exact absurd h1 (by rw [hll];simp)
 ·skip
  refine ai (ak (aq (aSR (aA rfl (aNn (ao (aP [0,1,5] [1,0] [] (fun (k:Nat) st=>k≤a.l.length∧st=⟨[(0,true,a.val),(1,true,b.val),(5,true,.int .i64 k)],[ShF iR a,ShF iR b],[]⟩) (fun k=>a.l.length-k) rfl (⟨0,Nat.zero_le _,rfl⟩) ?_)))))))
  rintro k st ⟨hk,rfl⟩
  refine aq (aSR (aM rfl (aM rfl (aU rfl (aY Tryz.underlying71 rfl) (aU rfl (bd rfl rfl) (aNn ?_))))))
  refine ah _ rfl (fun h2 => ?_) (fun h2 => ?_)
  ·skip
   have hk':k<a.l.length:=by simpa using h2
   obtain ⟨x,hx⟩:∃ x,a.l[k]? = some x:=⟨_,List.getElem?_eq_getElem hk'⟩
   have hy:b.l[k]? = some x:=by rw [← h];exact hx
   refine ai (ak (aq (ao (aq (DR [] 9 (VM 0 rfl rfl (VM 1 rfl rfl (XI 2 Tryz.underlying71 tk68 0 rfl rfl rfl rfl rfl rfl (aH (row:=iR) hx) rfl rfl (fun ⟨b6_2,o6_2⟩=>(VT 3 0 tk68 0 rfl rfl rfl rfl rfl rfl (VM 4 rfl rfl (VM 5 rfl rfl (XI 6 Tryz.underlying71 tk68 2 rfl rfl rfl rfl rfl rfl (aH (row:=iR) hy) rfl rfl (fun ⟨b6_6,o6_6⟩=>(VT 7 0 tk68 0 rfl rfl rfl rfl rfl rfl ?_)))))))))))))))
   refine bV 8 rfl rfl (aaW (by kernel_rfl) (by kernel_rfl) (by kernel_rfl) (fun w=>gN 9998 _ _ _ w (by kernel_rfl) rfl rfl) rfl rfl) (BN (ak ?_))
   refine ah _ rfl (fun h3 => ?_) (fun h3 => ?_)
   ·skip
    rw [abT] at h3;cases h3
   ·skip
    refine ai (bb (ak (ae (aM rfl (aU rfl (aO rfl rfl (by omega)) (aA rfl (aNn ?_)))))))
    refine ⟨[0,1,5],[1,0],[],rfl,?_⟩
    exact ⟨k+1,⟨hk',rfl⟩,by omega⟩
  ·skip
   refine aQ (aR (aR (aX (ak (aSR (aA rfl (aNn (aj (FZ1 [] Tryz.results37 rfl ?_)))))))))
   rfl
theorem vS{n t:ByteArray}{b:Int}{ps:List Per}(hn:n.size≤maxLen)(ht:t.size≤maxLen):Ent ps (pic n t b).ok:=by
 unfold an.ok
 repeat' (first | exact acG | exact adW | exact acs | exact (fun _ _ _=>hn) | exact (fun _ _ _=>ht) | refine Ent.mk2 ?_ ?_)
theorem rM{n t:ByteArray}{b:Int}(hb:I64 b)(ht:t.size≤maxLen):j8 (pic n t b):=⟨⟨by show I64 0;unfold I64;decide,by show I64 0;unfold I64;decide,by show I64 0;unfold I64;decide⟩,hb,ht⟩
theorem xg{s:bk}(b p mb tb ab:Nat){M:Mem}{t m a:Int}{o:Bool}(h1:(s.at_ (t,m)).getD 0=a)(h2:(s.at_ (t,m)).isSome=o):Con Tryz.prog 25 [.pointer (some ⟨b,0,none⟩),.int .i64 t,.int .i64 m] [] (eo b p mb tb ab s M) fun r ps hp=>ps=[]∧hp=eo b p mb tb ab s M∧r=.tuple #[.int .i64 a,.bool o]:=by
 subst h1 h2
 exact mP b p mb tb ab s M t m
def adV:ByteArray:=⟨#[97,98,99,100,0,0,0,0,0,0,0,0]⟩
theorem adX(p:Nat):Con Tryz.prog 63 [.pointer (some ⟨p,0,none⟩),.int .i64 1024,.int .i64 12] [] [SpR p j3] fun r ps hp=>ps=[]∧hp=[SpR p j3]∧r=.tuple #[.string adV,.int .i64 0] :=
 (abh p j3 wm 1024 12 (by unfold I64;decide)).post fun r ps hp ⟨h1,h2,h3⟩=>⟨h1,h2,by rw [h3,acf];rfl⟩
theorem mh:Con Tryz.prog 13 [] [] [] fun r ps hp=>ps=[]∧hp=[]∧r=.bool true:=by
 refine Con.enter Tryz.func13 rfl (by simp [Tryz.ntmps13]) ?_
 show awp _ _ _ _ ⟨[],_,_⟩
 refine aSR (aA rfl (aNn (aSR (LT rfl (EC [] [] rfl (lz) ?_)))))
 rintro _ _ _ ⟨rfl,p,rfl,rfl⟩
 refine aST ?_
 refine aA rfl (aNs (aSR (aM rfl (aU rfl (fU (by kernel_rfl) rfl) (aNn ?_)))))
 refine ah _ rfl (fun h1 => ?_) (fun h1 => ?_)
 ·skip
  cases h1
 ·skip
  refine ai (ak (aSR (aM rfl (LT rfl (EC [] [] rfl (oa p) ?_)))))
  rintro _ _ _ ⟨rfl,b,mb,tb,ab,rfl,rfl⟩
  refine aST ?_
  refine aA rfl (aNs (aSR (aM rfl (aU rfl (fU (by kernel_rfl) rfl) (aNn ?_)))))
  refine ah _ rfl (fun h2 => ?_) (fun h2 => ?_)
  ·skip
   cases h2
  ·skip
   refine ai (ak (aq (fR [0,1,2] [] [1,2,3,4,0] rfl ?_)))
   refine bK smI.ok (vS (by decide) (by decide)) ?_
   show awp _ _ _ _ ⟨[(0,true,.bool false),(1,true,.pointer (some ⟨p,0,none⟩)),(2,true,.pointer (some ⟨b,0,none⟩))],[smI.ok],eo b p mb tb ab jd []⟩
   refine ae (aM rfl (aU rfl (Q0 rfl (gH mK abl 12)) ?_))
   refine LF rfl (EC [0] [0,1,2,3,4] rfl (iW b p mb tb ab jd (fun k im h=>by cases h) oz oz (by decide) [] cS.nil 3 smI (rM (by unfold I64;decide) (by decide))) ?_)
   rintro _ _ _ ⟨rfl,br,x,e,hbr,hR,rfl,rfl⟩
   refine aST ?_
   obtain ⟨rfl,rfl⟩:=adp (lO adP (hbr (by decide))) hR
   refine aA rfl (aNn (aSR (aM rfl (LF rfl (EC [] [0,1,2,3,4] rfl (iX b p mb tb ab sm1 wk oz (oz.put 3 smI) (by decide) [] cS.nil 0) ?_)))))
   rintro _ _ _ ⟨rfl,x,e,hR,rfl,rfl⟩
   refine aST ?_
   obtain ⟨rfl,rfl⟩:=abd (s:=sm1) (by decide) rfl rfl adn hR
   refine aA rfl (aNn (aSR (aM rfl (LF rfl (EC [] [0,1,2,3,4] rfl (iX b p mb tb ab sm2 wk (oz.put (0,3) 512) (oz.put 3 smI) (by decide) abc adq 1) ?_)))))
   rintro _ _ _ ⟨rfl,x,e,hR,rfl,rfl⟩
   refine aST ?_
   obtain ⟨rfl,rfl⟩:=abd (s:=sm2) (by decide) rfl rfl ado hR
   refine aA rfl (aNn (aSR (aM rfl (LF rfl (EC [] [0,1,2,3,4] rfl (xg (a:=512) (o:=true) b p mb tb ab (s:=sm3) (M:=j3) rfl rfl) ?_)))))
   rintro _ _ _ ⟨rfl,rfl,rfl⟩
   refine aST ?_
   refine aM rfl (aU rfl (aI rfl rfl) (aU rfl (aI rfl rfl) (aA rfl (aA rfl (aNn (aSR (aM rfl (LF rfl (EC [] [0,1,2,3,4] rfl (xg (a:=1024) (o:=true) b p mb tb ab (s:=sm3) (M:=j3) rfl rfl) ?_)))))))))
   rintro _ _ _ ⟨rfl,rfl,rfl⟩
   refine aST ?_
   refine aM rfl (aU rfl (aI rfl rfl) (aU rfl (aI rfl rfl) (aA rfl (aA rfl (aNn (aSR (aM rfl (aM rfl (LF rfl (EC [] [4] rfl (adX p) ?_))))))))))
   rintro _ _ _ ⟨rfl,rfl,rfl⟩
   refine aST ?_
   refine aM rfl (aU rfl (aI rfl rfl) (aU rfl (aI rfl rfl) (aA rfl (aA rfl (aNs (bK (pic mK .empty 0).ok (vS (by decide) (by decide)) (ae (aM rfl (aU rfl (Q0 rfl (gH mK .empty 0)) ?_)))))))))
   refine LF rfl (EC [1] [0,1,2,3,4] rfl (iW b p mb tb ab sm3 wk ((oz.put (0,3) 512).put (1,3) 1024) ((oz.put 0 true).put 1 true) (by decide) j3 wm 3 (pic mK .empty 0) (rM (by unfold I64;decide) (by decide))) ?_)
   rintro _ _ _ ⟨rfl,br,x,e,hbr,hR,rfl,rfl⟩
   refine aST ?_
   obtain ⟨rfl,rfl⟩:=abe (lO adQ (hbr (by decide))) hR
   refine aA rfl (aNn (aSR (aM rfl (LF rfl (EC [] [0,1,2,3,4] rfl (n9 b p mb tb ab sm3 (((oz.put (0,3) 512).put (1,3) 1024).toK (by decide)) j3 wm 0) ?_)))))
   rintro _ _ _ ⟨rfl,ds,hd,hdl,rfl⟩
   refine aST ?_
   refine aNs ?_
   rw [adm hd hdl]
   refine ae (aM rfl (LF rfl (EC [] [0,1,2,3,4] rfl (xg (a:=0) (o:=false) b p mb tb ab (s:=sm4) (M:=ug) rfl rfl) ?_)))
   rintro _ _ _ ⟨rfl,rfl,rfl⟩
   refine aST ?_
   refine aM rfl (aU rfl (aI rfl rfl) (aU rfl (aI rfl rfl) (aA rfl (aA rfl (aNs (bK (pic mK tX 12).ok (vS (by decide) (by decide)) ?_))))))
   refine ae (aM rfl (aU rfl (bp rfl rfl) (aM rfl (aM rfl (aU rfl (bp rfl rfl) (aU rfl (aT rfl rfl (fun _=>rfl)) (aM rfl (aM rfl (aU rfl (bp rfl rfl) (aU rfl (aT rfl rfl (fun _=>rfl)) (aM rfl (aM rfl (aU rfl (aT rfl rfl (fun _=>rfl)) (aM rfl (aM rfl ?_)))))))))))))))
   refine aU rfl (aT rfl rfl (fun _=>rfl)) (aM rfl (aM rfl (aM rfl (aU rfl (dE rfl rfl) (aU rfl (aT rfl rfl (fun _=>rfl)) (aM rfl (aM rfl (aU rfl (bp rfl rfl) (aU rfl (aT rfl rfl (fun _=>rfl)) (aM rfl (aM rfl (aU rfl ((aaY rfl rfl).castV (v':=.bool true) (congrArg Value.bool (beq_self_eq_true _))) (aU rfl (aT rfl rfl (fun _=>rfl)) (aM rfl (aM rfl ?_)))))))))))))))
   refine aU rfl (bp rfl rfl) (aU rfl (aT rfl rfl (fun _=>rfl)) (aM rfl (aM rfl (aU rfl (bp rfl rfl) (aU rfl (aT rfl rfl (fun _=>rfl)) (aM rfl (aM rfl (aU rfl (bX rfl) (aU rfl (aT rfl rfl (fun _=>rfl)) (aM rfl (aM rfl (aU rfl (Q0 rfl (gH mK tX 12)) ?_))))))))))))
   refine LF rfl (EC [2] [0,1,2,3,4] rfl (ob b p mb tb ab sm4 ug 3 (pic mK tX 12) (rM (by unfold I64;decide) (by decide))) ?_)
   rintro _ _ _ ⟨rfl,br,s',e,hbr,hR,rfl,rfl⟩
   refine aST ?_
   obtain ⟨rfl,rfl⟩:=ads rfl (lO adR (hbr rfl)) hR
   refine aU rfl (bp rfl rfl) (aU rfl (aT rfl rfl (fun _=>rfl)) (aM rfl (aM rfl (aU rfl (Q0 rfl (gH mK tX 12)) ?_))))
   refine LF rfl (EC [2] [0,1,2,3,4] rfl (ob b p mb tb ab _ ug 4 (pic mK tX 12) (rM (by unfold I64;decide) (by decide))) ?_)
   rintro _ _ _ ⟨rfl,br,s',e,_,hR,rfl,rfl⟩
   refine aST ?_
   obtain ⟨rfl,rfl⟩:=acg rfl hR
   refine aU rfl (bp rfl rfl) (aU rfl (aT rfl rfl (fun _=>rfl)) (aM rfl (aM rfl (LF rfl (EC [] [4] rfl (qF p ug adr) ?_)))))
   rintro _ _ _ ⟨rfl,ad,ac,rfl,rfl⟩
   refine aST ?_
   refine aU rfl (dA 5 Tryz.underlying71 rfl rfl) (aU rfl (bp rfl rfl) (aU rfl (aT rfl rfl (fun _=>rfl)) (aA rfl (aNn (aj (FZ1 [] Tryz.results13 rfl ?_))))))
   exact ⟨rfl,rfl,rfl⟩
end Go.Proofs.YtfkcmbonmpcbfaaGreat

namespace Go.Proofs.YtfkcmbonmpcbfaaGreat
open Go.RowKit Go.Lp Go.Sy Go.Lv
open Go.Proofs.Tryz
section
variable {H:Type} {enc:TypeId × Value→H} {w:World} {base:Nat} {spare:Nat→Bool} {held:Bool} {fuel:Nat}
theorem wC{ad:Option Addr}{len cap:Nat}{y:DataW H × List MemPlace}(h:DataW.trod enc Tryz.prog w base spare held fuel 58 [.slice ad len cap]=some y) :
   ∃ s:Sl dP,Value.slice ad len cap=s.val∧(ShF dP.row s).holds w (fun b=>b<w.heap.size)∧∀ a∈s.l,I64 a.size:=by
 obtain ⟨ds,hlen,ho,hR⟩:=jf 12 fuel 58 _ _ (by kernel_rfl) h
 obtain ⟨s,e,h1,h2⟩:=rql (k:=11) (row:=dP.row) (C:=fun a=>I64 a.do_∧I64 a.n∧I64 a.m∧I64 a.i∧I64 a.size) Tryz.underlying58 (fun _=>rfl) aa1 w _ ds [.slice ad len cap] (fun us=>∃ s:Sl dP,us=[s.val]∧(ShF dP.row s).holds w (fun b=>b<w.heap.size)∧∀ a∈s.l,I64 a.size) ho (wc hlen hR) (fun s a _ c=>⟨s,rfl,a,fun y hy=>(c y hy).2.2.2.2⟩)
 exact ⟨s,by simpa using e,h1,h2⟩
theorem acL{cs:Array Value}{y:DataW H × List MemPlace}(h:DataW.trod enc Tryz.prog w base spare held fuel 61 cs.toList=some y):∃ a:dP,Value.agg cs=a.val∧I64 a.size:=by
 obtain ⟨ds,hlen,ho,hR⟩:=jf 12 fuel 61 _ _ (by kernel_rfl) h
 exact aa1 (k:=10) w _ ds cs.toList (fun us=>∃ a:dP,Value.agg us.toArray=a.val∧I64 a.size) ho (wc hlen hR) (fun a _ c=>⟨a,rfl,c.2.2.2.2⟩)
def abz(y:an):Prop:=I64 y.code∧I64 y.data∧I64 y.zero∧I64 y.block∧I64 y.entry
theorem abz.to{y:an}{S:aW}(h:abz y)(ho:y.ok.holds w S):j8 y :=
 ⟨⟨h.1,h.2.1,h.2.2.1⟩,h.2.2.2.1,an.f_tls (ps:=[y.ok]) (.of (List.mem_singleton.2 rfl)) w S fun p hp=>by rw [List.mem_singleton.1 hp];exact ho⟩
theorem wT{ad:Option Addr}{len cap:Nat}{y:DataW H × List MemPlace}(h:DataW.trod enc Tryz.prog w base spare held fuel 49 [.slice ad len cap]=some y) :
   ∃ s:Sl an,Value.slice ad len cap=s.val∧(ShF an.row s).holds w (fun b=>b<w.heap.size)∧(bN an.ok s.l).holds w (fun b=>b<w.heap.size)∧∀ i,j8 (bI s.l i):=by
 obtain ⟨ds,hlen,ho,hR⟩:=jf 12 fuel 49 _ _ (by kernel_rfl) h
 obtain ⟨s,e,h1,h2,h3⟩:=rql (k:=11) (row:=an.row) (C:=abz) Tryz.underlying49 (fun _=>rfl) (aa3.mono fun w S R h y a b=>h y a b) w _ ds [.slice ad len cap] (fun us=>∃ s:Sl an,us=[s.val]∧(ShF an.row s).holds w (fun b=>b<w.heap.size)∧(bN an.ok s.l).holds w (fun b=>b<w.heap.size)∧∀ y∈s.l,abz y) ho (wc hlen hR) (fun s a b c=>⟨s,rfl,a,b,c⟩)
 refine ⟨s,by simpa using e,h1,h2,fun i => ?_⟩
 unfold bI
 split
 · exact ⟨⟨by show I64 0;unfold I64;decide,by show I64 0;unfold I64;decide,by show I64 0;unfold I64;decide⟩,jG⟩
 · rename_i hne
   have hlp:0<s.l.length:=List.length_pos_iff.2 hne
   have hi1:=Int.emod_nonneg i (show (s.l.length:Int)≠0 by omega)
   have hi2:=Int.emod_lt_of_pos i (show 0<(s.l.length:Int) by omega)
   have hm:elt s.l (i % s.l.length)∈s.l:=List.mem_of_getElem? (gr (by omega) (by omega))
   exact (h3 _ hm).to (h2 _ hm)
end
end Go.Proofs.YtfkcmbonmpcbfaaGreat

namespace Go.Sy
open Go.RowKit Go.Lp
theorem xc{P:Program}{n:Fr}{env:Env}{ps:List Per}{hp:List Res}{d:Option Tmp}{ty:TypeId}{pos:String}{af:Array Edge}{gd:Option (Nat × Bool)}{x:Operand}{t t':TypeId}{a:Option Addr}(hT:(match P.underlying t with | some (.pointer _)=>true | _=>false)=true)(hx:ev env x=some (true,.pointer a)):Quiet P n ⟨d,.binOp .neq t x (.const (.pointer none)) t',ty,pos,af,gd⟩ ⟨env,ps,hp⟩ (.bool a.isSome):=.run2 hx (y:=.const (.pointer none)) (vy:=.pointer none) rfl fun ρ w h1 h2=>by
 have hu:∃ e,P.underlying t=some (.pointer e):=by
   cases h:P.underlying t with
   | none=>rw [h] at hT;cases hT
   | some dd=>rw [h] at hT;cases dd<;>first | exact ⟨_,rfl⟩ | cases hT
 obtain ⟨e,hu⟩:=hu
 unfold execOp;dsimp only;rw [h1,h2]
 have e1:(do eqGuard BinOp.neq t x (.const (.pointer none)) (Value.pointer a) (Value.pointer none);binOp BinOp.neq t (Value.pointer a) (Value.pointer none))=binOp BinOp.neq t (Value.pointer a) (Value.pointer none):=by cases a<;>rfl
 have e2:(binOp BinOp.neq t (Value.pointer a) (Value.pointer none)).run P w=.ok (.bool a.isSome) w:=by
   have:=run_neq_pointer_nil (P:=P) (w:=w) t a (by rw [hu];unfold Program.pointee;rw [hu])
   rw [this];cases a<;>rfl
 show ((do eqGuard BinOp.neq t x (.const (.pointer none)) (Value.pointer a) (Value.pointer none);binOp BinOp.neq t (Value.pointer a) (Value.pointer none)).bind fun r=>Sem.pure (Next.value r)).run P w=_
 rw [e1,Sem.run_bind',e2];rfl
end Go.Sy

namespace Go.Proofs.YtfkcmbonmpcbfaaGreat
open Go.RowKit Go.Lp Go.Sy Go.Lv Go.Sort
open Go.Proofs.Tryz
attribute [local irreducible] aL aB awp aC fwp Quiet
structure TQ (s:bk) (M:Mem) (k:Nat):Prop where
 ti:TI s M
 fit:∀ j im,s.mods j=some im→gU im
 fm:fk s.mods k
 ft:fk s.thr k
theorem TQ.start:TQ jd [] 0 :=
 ⟨⟨⟨cS.nil,fun t m a h=>(by cases h),fun r h=>(by cases h),fun m im h=>(by cases h)⟩,fun t m im h=>(by cases h),fun t b h=>(by cases h)⟩,fun j im h=>(by cases h),oz,oz⟩
theorem TQ.ok{s:bk}{M:Mem}{k:Nat}(h:TQ s M k)(hk:k≤1000):acr s 4096 k k:=⟨h.fit,acO h.ti h.ti.blk.ok.few,h.fm,h.ft,h.ti.i64,by omega⟩
theorem TQ.step{ims:List an}(hi:∀ i,j8 (bI ims i)){a:dP}{s:bk}{M:Mem}{k:Nat}(h:TQ s M k){x:bk × Mem}{e:Int}(hd:DoR ims a s M x e):TQ x.1 x.2 (k+1) :=
 have hk:=abM h.ti hd
 ⟨(wK (fun _ _ h1 h2=>gM h1 h2) h.ti hd).1,hk.fit h.fit fun i=>(hi i).f,hk.fewM h.fm,hk.fewT h.ft⟩
theorem TQ.same{ims:List an}{a:dP}{s:bk}{M:Mem}{k:Nat}(h:TQ s M k){x:bk × Mem}{e:Int}(hd:DoR ims a s M x e)(he:e≠0):l3 s M x :=
 (wK (fun _ _ h1 h2=>gM h1 h2) h.ti hd).2 he
theorem j4(p:Nat)(M:Mem)(hM:cS M):Con Tryz.prog 27 [.pointer (some ⟨p,0,none⟩)] [] [SpR p M] fun r ps hp=>ps=[]∧∃ ad c,r=.slice ad (ars M).length c∧hp=[SpR p M,az (.slice ad (ars M).length c) 68 5 ((ars M).map iR)]:=by
 have e1:(ars M).length=M.length:=List.length_map _
 have e2:(ars M).map iR=gk M:=List.map_map
 rw [e1,e2]
 exact qF p M hM
theorem rr (acts:Sl dP) (ims:Sl an) (last:dP) (ha:∀ a∈acts.l,I64 a.size) (hl:I64 last.size) (hi:∀ i,j8 (bI ims.l i)) :
   Con Tryz.prog 7 [acts.val,ims.val,last.val] [ShF dP.row acts,ShF an.row ims,bN an.ok ims.l] [] fun r _ _=>r=.bool true:=by
 refine EN3 Tryz.func7 rfl (aSR (LT rfl (bC rfl rfl rfl (fun b0_0=>(aHN ?_)))))
 refine aA rfl (aNn (aSR (LT rfl (EC [] [] rfl (mh) ?_))))
 rintro _ _ _ ⟨rfl,rfl,rfl⟩
 refine aST ?_
 refine aA rfl (aNn (aSR (LT rfl (EC [] [] rfl (lz) ?_))))
 rintro _ _ _ ⟨rfl,p,rfl,rfl⟩
 refine aST ?_
 refine aA rfl (aNs (aSR (aM rfl (aM rfl (aU rfl (Q1 rfl (qc acts ims) 1 rfl) (aU rfl (bX rfl) (aM rfl (aG rfl rfl (fun hc=>ax rfl) (aG rfl rfl (fun hc=>fU (by kernel_rfl) (aa rfl hc)) (aU rfl (cC rfl rfl (fun h=>gf rfl h)) (aNn ?_)))))))))))
 refine ah _ rfl (fun h1 => ?_) (fun h1 => ?_)
 ·skip
  refine aSR (aM rfl (aM rfl (aG rfl rfl (fun hc=>ax rfl) (aG rfl rfl (fun hc=>xc (by kernel_rfl) (aa rfl hc)) (aU rfl (aT rfl rfl (fun h=>gt rfl h)) (aA rfl (aNn (aj (aK (FZ1 [] Tryz.results7 rfl ?_))))))))))
  rfl
 ·skip
  have hfew:fQ ims.l=true∧acts.l.length≤30∧ims.l.length≤6:=by
    simp at h1
    exact ⟨h1.1,by omega,by omega⟩
  refine ai (ak (aSR (aM rfl (LT rfl (EC [] [] rfl (oa p) ?_)))))
  rintro _ _ _ ⟨rfl,b,mb,tb,ab,rfl,rfl⟩
  refine aST ?_
  refine aA rfl (aNs (aSR (aM rfl (aU rfl (fU (by kernel_rfl) rfl) (aNn ?_)))))
  refine ah _ rfl (fun h2 => ?_) (fun h2 => ?_)
  ·skip
   cases h2
  ·skip
   refine ai (ak (aq (aq (fR [0,1,5,7,8,9] [2,1,0] [2,3,4,5,1,0] rfl ?_))))
   show awp _ _ _ _ ⟨[(0,true,acts.val),(1,true,ims.val),(5,true,.pointer (some ⟨b0_0,0,none⟩)),(7,true,.bool true),(8,true,.pointer (some ⟨p,0,none⟩)),(9,true,.pointer (some ⟨b,0,none⟩))],[ShF dP.row acts,ShF an.row ims,bN an.ok ims.l],eo b p mb tb ab jd []++[Box b0_0 61 last.vs]⟩
   refine ae (aA rfl (aNn (ao (aP [0,1,5,7,8,9,10] [2,1,0] [0,1,2,3,4,5] (fun (q:Nat × (bk × Mem)) st=>(q.1≤acts.l.length∧TQ q.2.1 q.2.2 q.1)∧st=⟨[(0,true,acts.val),(1,true,ims.val),(5,true,.pointer (some ⟨b0_0,0,none⟩)),(7,true,.bool true),(8,true,.pointer (some ⟨p,0,none⟩)),(9,true,.pointer (some ⟨b,0,none⟩)),(10,true,.int .i64 q.1)],[ShF dP.row acts,ShF an.row ims,bN an.ok ims.l],eo b p mb tb ab q.2.1 q.2.2++[Box b0_0 61 last.vs]⟩) (fun q=>acts.l.length-q.1) rfl (⟨(0,(jd,[])),⟨Nat.zero_le _,TQ.start⟩,rfl⟩) ?_))))
   rintro ⟨j,s,M⟩ st ⟨⟨hj,hQ⟩,rfl⟩
   dsimp only at hj hQ ⊢
   refine aq (aSR (aM rfl (aM rfl (aU rfl (aY Tryz.underlying58 rfl) (aU rfl (bd rfl rfl) (aNn ?_))))))
   refine ah _ rfl (fun h3 => ?_) (fun h3 => ?_)
   ·skip
    have hj':j<acts.l.length:=by simpa using h3
    obtain ⟨a,hja⟩:∃ a,acts.l[j]? = some a:=⟨_,List.getElem?_eq_getElem hj'⟩
    refine ai (ak (aq (ao (ae (aM rfl (aM rfl (aM rfl (aM rfl (aM rfl (UI Tryz.underlying58 tk61 0 rfl rfl rfl rfl rfl (aH (row:=dP.row) hja) rfl rfl (fun ⟨b11_5,o11_5⟩=>(US 0 tk61 0 rfl rfl rfl rfl rfl (LF rfl (EC [1,0] [0,1,2,3,4] rfl (n1 b p mb tb ab ims (by omega) hi a (ha a (List.mem_of_getElem? hja)) s (hQ.ok (by omega)) M hQ.ti.blk.ok) ?_))))))))))))))
    rintro _ _ _ ⟨rfl,x,e,hR,rfl,rfl⟩
    refine aST ?_
    refine bE (bb (ak (ae (aM rfl (aU rfl (aO rfl rfl (by omega)) (aA rfl (aNn ?_)))))))
    refine ⟨[0,1,5,7,8,9,10],[2,1,0],[0,1,2,3,4,5],rfl,?_⟩
    exact ⟨(j+1,x),⟨⟨hj',hQ.step hi hR⟩,rfl⟩,by dsimp only;omega⟩
   ·skip
    refine aQ (aR (aR (aX (ak (aSR (aM rfl (LF rfl (EC [] [4] rfl (abg p M hQ.ti.blk.ok) ?_))))))))
    rintro _ _ _ ⟨rfl,p2,rfl,rfl⟩
    refine aST ?_
    refine aA rfl (aNs (aSR (aM rfl (aU rfl (fU (by kernel_rfl) rfl) (aNn ?_)))))
    refine ah _ rfl (fun h4 => ?_) (fun h4 => ?_)
    ·skip
     cases h4
    ·skip
     refine ai (ak (aSR (aM rfl (aM rfl (LF rfl (EC [] [0,1,2,3] rfl (yq b p mb tb ab p2 s) ?_))))))
     rintro _ _ _ ⟨rfl,b2,mb2,tb2,ab2,rfl,rfl⟩
     refine aST ?_
     refine aA rfl (aNs (aSR (aM rfl (aU rfl (fU (by kernel_rfl) rfl) (aNn ?_)))))
     refine ah _ rfl (fun h5 => ?_) (fun h5 => ?_)
     ·skip
      cases h5
     ·skip
      refine ai (ak (aSR (aM rfl (aM rfl (aM rfl (UL 5 tk61 rfl rfl rfl rfl (LF rfl (EC [1,0] [0,1,2,3,4] rfl (n1 b p mb tb ab ims (by omega) hi last hl s (hQ.ok (by omega)) M hQ.ti.blk.ok) ?_))))))))
      rintro _ _ _ ⟨rfl,x,e,hR,rfl,rfl⟩
      refine aST ?_
      refine aA rfl (aNs (aSR (aM rfl (aU rfl (bp rfl rfl) (aNn ?_)))))
      refine ah _ rfl (fun h6 => ?_) (fun h6 => ?_)
      ·skip
       refine aSR (aM rfl (aA rfl (aNn (aj (aK (FZ1 [] Tryz.results7 rfl ?_))))))
       rfl
      ·skip
       have he:e≠0:=by simpa using h6
       have hS:=hQ.same hR he
       have hQ2:=hQ.step hi hR
       have hars:=acN hQ2.ti.blk.ok hQ.ti.blk.ok hS.ar
       refine ai (ak (aq (aSR (aM rfl (LF rfl (EC [] [4] rfl (j4 p x.2 hQ2.ti.blk.ok) ?_))))))
       rintro _ _ _ ⟨rfl,ad1,ac1,rfl,rfl⟩
       refine aST ?_
       refine aM rfl (LF rfl (EC [] [6] rfl (j4 p2 M hQ.ti.blk.ok) ?_))
       rintro _ _ _ ⟨rfl,ad2,ac2,rfl,rfl⟩
       refine aST ?_
       refine iQ 11 rfl (iQ 12 rfl (aU rfl (QC rfl (fun w S fp hst=>(sW ⟨ad1,ac1,ars x.2⟩ ⟨ad2,ac2,ars M⟩ hars).quiet2 (aF 1 rfl) (aF 0 rfl) hst)) (aU rfl (bX rfl) (aNn ?_))))
       refine ah _ rfl (fun h7 => ?_) (fun h7 => ?_)
       ·skip
        cases h7
       ·skip
        refine ai (ak (aq (aq (fR [7,9,12] [] [0,1,2,3,4,7,8,9,10,6] rfl ?_))))
        show awp _ _ _ _ ⟨[(7,true,.bool true),(9,true,.pointer (some ⟨b,0,none⟩)),(12,true,.pointer (some ⟨b2,0,none⟩))],[],eo b p mb tb ab x.1 x.2++eo b2 p2 mb2 tb2 ab2 s M⟩
        refine ae (aA rfl (aNn (ao (aP [7,9,12,14] [] [0,1,2,3,4,5,6,7,8,9] (fun (i:Nat) st=>i≤6∧st=⟨[(7,true,.bool true),(9,true,.pointer (some ⟨b,0,none⟩)),(12,true,.pointer (some ⟨b2,0,none⟩)),(14,true,.int .i64 i)],[],eo b p mb tb ab x.1 x.2++eo b2 p2 mb2 tb2 ab2 s M⟩) (fun i=>6-i) rfl (⟨0,Nat.zero_le _,rfl⟩) ?_))))
        rintro i st ⟨hi6,rfl⟩
        refine aq (aSR (aM rfl (aU rfl (bd rfl rfl) (aNn ?_))))
        refine ah _ rfl (fun h8 => ?_) (fun h8 => ?_)
        ·skip
         have hi6':i<6:=by simp at h8;omega
         refine ai (ak (aq (ao (aSR (aA rfl (bE (ak (ao (aP [7,9,12,14,15] [] [0,1,2,3,4,5,6,7,8,9] (fun (k:Nat) st=>k≤6∧st=⟨[(7,true,.bool true),(9,true,.pointer (some ⟨b,0,none⟩)),(12,true,.pointer (some ⟨b2,0,none⟩)),(14,true,.int .i64 i),(15,true,.int .i64 k)],[],eo b p mb tb ab x.1 x.2++eo b2 p2 mb2 tb2 ab2 s M⟩) (fun k=>6-k) rfl (⟨0,Nat.zero_le _,rfl⟩) ?_)))))))))
         rintro k st ⟨hk6,rfl⟩
         refine aq (aSR (aM rfl (aU rfl (bd rfl rfl) (aNn ?_))))
         refine ah _ rfl (fun h9 => ?_) (fun h9 => ?_)
         ·skip
          have hk6':k<6:=by simp at h9;omega
          refine ai (ak (aq (ao (aSR (aM rfl (aM rfl (aM rfl ?_)))))))
          refine LF rfl (EC [] [0,1,2,3,4] rfl (xg (s:=x.1) b p mb tb ab (M:=x.2) (t:=i) (m:=k) (a:=(s.at_ ((i:Int),(k:Int))).getD 0) (o:=(s.at_ ((i:Int),(k:Int))).isSome) (by rw [hS.at_]) (by rw [hS.at_])) ?_)
          rintro _ _ _ ⟨rfl,rfl,rfl⟩
          refine aST ?_
          refine aM rfl (aU rfl (aI rfl rfl) (aU rfl (aI rfl rfl) (aA rfl (aA rfl (aNn (aSR (aM rfl (aM rfl (aM rfl (LF rfl (EC [] [5,6,7,8,9] rfl (mP b2 p2 mb2 tb2 ab2 s M i k) ?_)))))))))))
          rintro _ _ _ ⟨rfl,rfl,rfl⟩
          refine aST ?_
          refine aM rfl (aU rfl (aI rfl rfl) (aU rfl (aI rfl rfl) (aA rfl (aA rfl (aNn (aSR (aM rfl (aM rfl (aU rfl (dE rfl rfl) (aM rfl (aG rfl rfl (fun hc=>ax rfl) (aG rfl rfl (fun hc=>ax rfl) (aG rfl rfl (fun hc=>aaX (by kernel_rfl) (aa rfl hc) (aa rfl hc)) (aU rfl (cC rfl rfl (fun h=>gf rfl h)) (aNn ?_)))))))))))))))
          refine ah _ rfl (fun h10 => ?_) (fun h10 => ?_)
          ·skip
           simp at h10
          ·skip
           refine ai (bb (ak (ae (aM rfl (aU rfl (aO rfl rfl (by omega)) (aA rfl (aNn ?_)))))))
           refine ⟨[7,9,12,14,15],[],[0,1,2,3,4,5,6,7,8,9],rfl,?_⟩
           exact ⟨k+1,⟨hk6',rfl⟩,by omega⟩
         ·skip
          refine aQ (aR (aR (aX (bb (ak (ae (aM rfl (aU rfl (aO rfl rfl (by omega)) (aA rfl (aNn ?_))))))))))
          refine ⟨[7,9,12,14],[],[0,1,2,3,4,5,6,7,8,9],rfl,?_⟩
          exact ⟨i+1,⟨hi6',rfl⟩,by omega⟩
        ·skip
         refine aQ (aR (aR (aX (ak (aSR (aM rfl (aA rfl (aNn (aj (FZ1 [] Tryz.results7 rfl ?_))))))))))
         rfl
end Go.Proofs.YtfkcmbonmpcbfaaGreat

