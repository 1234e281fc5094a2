/- Parts of the proof, in build order. No condition. -/
import Derived.Test.YtfkcmbonmpcbfaaGreatTb24
import Derived.Test.YtfkcmbonmpcbfaaGreatTb05
import Derived.Test.YtfkcmbonmpcbfaaGreatTb10
import Derived.Test.YtfkcmbonmpcbfaaGreatTb08
import Derived.Test.YtfkcmbonmpcbfaaGreatTb13
import Derived.Test.YtfkcmbonmpcbfaaGreatTb21
set_option linter.unusedSimpArgs false
set_option linter.unusedVariables false
set_option maxHeartbeats 1000000
set_option maxRecDepth 20000
namespace Go.Proofs.YtfkcmbonmpcbfaaGreat
open Go.RowKit Go.Lp Go.Sy Go.Lv Go.Sort
structure TI (s:bk) (M:Mem):Prop where
 blk:qG s M
 full:∀ t m im,(s.thr t).isSome=true→s.mods m=some im→0<im.block→(s.at_ (t,m)).isSome=true
 tr:∀ t b,s.thr t=some b→b=true
structure mO (s:bk) (M:Mem) (x:bk × Mem):Prop where
 mods:x.1.mods=s.mods
 thr:x.1.thr=s.thr
 at_:x.1.at_=s.at_
 ar:∀ r,r∈ars x.2↔r∈ars M
theorem mO.refl(s:bk)(M:Mem):mO s M (s,M):=⟨rfl,rfl,rfl,fun _=>Iff.rfl⟩
theorem mO.ti{s:bk}{M:Mem}{x:bk × Mem}(h:mO s M x)(hI:TI s M)(hk:cL x.2):TI x.1 x.2:=by
 obtain ⟨⟨md,th,at'⟩,M'⟩:=x
 obtain ⟨h1,h2,h3,h4⟩:=h
 dsimp only at h1 h2 h3 h4 hk
 subst h1 h2 h3
 exact ⟨⟨hk,fun t m a ha=>let ⟨im,a1,a2,a3,a4⟩:=hI.blk.own t m a ha; ⟨im,a1,a2,a3,(h4 _).2 a4⟩,fun r hr=>hI.blk.all r ((h4 r).1 hr),hI.blk.rt⟩,hI.full,hI.tr⟩
theorem adz{c:Int × Int→Bool}{g:Int→Int × Int}{ks:List Int}{x y:bk × Mem}{b:Bool}(hm:abX g ks x y b)(hc:∀ k,c (g k)=true)(hx:∀ p,c p=true→x.1.at_ p=none)(hall:∀ r∈ars x.2,r.kind=4→x.1.at_ (r.owner,r.mod)=some r.at_)
   {s':bk} (hs:s'.at_=y.1.at_) {ds:List (Int × Int)} (hd:dw y.1.at_ ds) :
   (ej c (s',y.2) ds).1.mods=s'.mods∧(ej c (s',y.2) ds).1.thr=s'.thr∧(ej c (s',y.2) ds).1.at_=x.1.at_∧(∀ r,r∈ars (ej c (s',y.2) ds).2↔r∈ars x.2)∧cL (ej c (s',y.2) ds).2:=by
 have hA:=hm.inv.toAt
 have hD:=gj (c:=c) ds (s',y.2) ⟨hA.ok,fun p a h=>hA.own p a (by rw [← hs];exact h),fun r hr hk=>by rw [hs];exact hA.all r hr hk⟩ hd.nd (fun k hk=>by show (s'.at_ k).isSome=true;rw [hs];exact (hd.iff k).1 hk)
 refine ⟨hD.mods,hD.thr,funext fun p => ?_,fun r => ?_,hD.inv.ok⟩
 · rw [hD.at_ p]
   by_cases hp:c p=true
   · rw [hx p hp]
     by_cases h2:p∈ds
     · rw [if_pos ⟨h2,hp⟩]
     · rw [if_neg fun h=>h2 h.1]
       show s'.at_ p=none
       rw [hs]
       cases h3:y.1.at_ p with
       | none=>rfl
       | some a=>exact absurd ((hd.iff p).2 (by rw [h3];rfl)) h2
   · rw [if_neg fun h=>hp h.2]
     show s'.at_ p=_
     rw [hs]
     exact hm.at_ p fun k _ e=>hp (e ▸ hc k)
 · rw [hD.ar r]
   by_cases h:r.kind=4∧c (r.owner,r.mod)=true
   · constructor
     · rintro ⟨h1,h2⟩
       have:=hm.inv.all r h1 h.1
       exact absurd ⟨h.1,(hd.iff _).2 (by rw [this];rfl),h.2⟩ h2
     · intro h1
       have:=hall r h1 h.1
       rw [hx _ h.2] at this;cases this
   · have h3:r∈ars y.2↔r∈ars x.2:=hm.ar r (by
       by_cases h4:r.kind=4
       · exact .inr fun k _ e=>h ⟨h4,by rw [e];exact hc k⟩
       · exact .inl h4)
     exact ⟨fun h1=>h3.1 h1.1,fun h1=>⟨h3.2 h1,fun h2=>h ⟨h2.1,h2.2.2⟩⟩⟩
theorem yX{s:bk}{M:Mem}(hI:TI s M){t:Int}(ht:(s.thr t).getD false=false):s.thr t=none∧qG { s with thr:=aZ s.thr t true } M∧∀ m,s.at_ (t,m)=none:=by
 have hn:s.thr t=none:=by
   cases h:s.thr t with
   | none=>rfl
   | some b=>rw [h,hI.tr t b h] at ht;cases ht
 refine ⟨hn,⟨hI.blk.ok,fun t' m a ha => ?_,hI.blk.all,hI.blk.rt⟩,fun m => ?_⟩
 · obtain ⟨im,a1,a2,a3,a4⟩:=hI.blk.own t' m a ha
   refine ⟨im,a1,?_,a3,a4⟩
   dsimp only
   unfold aZ
   split
   · rfl
   · exact a2
 · cases h:s.at_ (t,m) with
   | none=>rfl
   | some a=>obtain ⟨im,a1,a2,_⟩:=hI.blk.own t m a h;rw [hn] at a2;cases a2
theorem tY{s:bk}{M:Mem}(hI:TI s M){t:Int}{x:bk × Mem}{e:Int}(h:rT s M t x e) :
   (e≠0∧mO s M x∧cL x.2)∨(e=0∧0≤t∧TI x.1 x.2∧x.1.mods=s.mods∧x.1.thr=aZ s.thr t true):=by
 rcases h with ⟨_,rfl,rfl⟩ | ⟨_,_,rfl,rfl⟩ | ⟨ht0,htn,ks,hk,hlt,h⟩
 · exact .inl ⟨by decide,.refl _ _,hI.blk.ok⟩
 · exact .inl ⟨by decide,.refl _ _,hI.blk.ok⟩
 · obtain ⟨hn,hB,hnone⟩:=yX hI htn
   have hmade:=iD (g:=fun m=>(t,m)) (fun a b h=>congrArg Prod.snd h) ks ({ s with thr:=aZ s.thr t true },M) hB hk.nd (fun k h=>(hk.iff k).1 h) (fun k h=>by show (aZ s.thr t true t).isSome=true;unfold aZ;rw [if_pos rfl];rfl) (fun k h=>hnone k)
   have eg:mkG (fun m=>(t,m))=eH t:=rfl
   rw [eg] at hmade
   rcases h with ⟨hb,rfl,rfl⟩ | ⟨hb,rfl,y,ds,rfl,hd,hdl,rfl⟩
   · refine .inr ⟨rfl,ht0,⟨hmade.inv,fun t' m im h1 h2 h3 => ?_,fun t' b h1 => ?_⟩,hmade.mods,hmade.thr⟩
     · rw [hmade.mods] at h2
       by_cases e:t'=t
       · subst e
         exact hmade.all hb m ((hk.iff m).2 (by rw [show s.mods m=some im from h2];rfl)) im h2 h3
       · rw [hmade.at_ (t',m) fun k _ h=>e (congrArg Prod.fst h)]
         rw [hmade.thr] at h1
         refine hI.full t' m im ?_ h2 h3
         have:(aZ s.thr t true t').isSome=true:=h1
         unfold aZ at this
         rwa [if_neg e] at this
     · rw [hmade.thr] at h1
       have:aZ s.thr t true t'=some b:=h1
       unfold aZ at this
       split at this
       · exact (Option.some.inj this).symm
       · exact hI.tr t' b this
   · refine .inl ⟨by decide,?_⟩
     obtain ⟨u1,u2,u3,u4,u5⟩:=adz (c:=isT t) hmade (fun k=>by unfold isT;simp) (fun p hp=>by
       have:p.1=t:=by unfold isT at hp;simpa using hp
       show s.at_ p=none
       rw [show p=(t,p.2) from Prod.ext this rfl];exact hnone p.2) hI.blk.all (s' := { (cQ (eH t) ({ s with thr:=aZ s.thr t true },M) ks).1.1 with thr:=cV (cQ (eH t) ({ s with thr:=aZ s.thr t true },M) ks).1.1.thr t }) rfl hd
     refine ⟨⟨u1.trans hmade.mods,u2.trans ?_,u3,u4⟩,u5⟩
     show cV (cQ (eH t) ({ s with thr:=aZ s.thr t true },M) ks).1.1.thr t=s.thr
     rw [hmade.thr]
     show cV (aZ s.thr t true) t=s.thr
     funext q
     unfold cV aZ
     by_cases hq:q=t
     · subst hq;rw [if_pos rfl,hn]
     · rw [if_neg hq,if_neg hq]
theorem ym{s:bk}{M:Mem}(hI:TI s M){m:Int}{im:ak}(hr:0≤im.block∧((bS im.tls).length:Int)≤im.block)(hn:s.mods m=none):qG { s with mods:=aZ s.mods m im } M∧∀ t,s.at_ (t,m)=none:=by
 refine ⟨⟨hI.blk.ok,fun t' m' a ha => ?_,hI.blk.all,fun m' im' h => ?_⟩,fun t => ?_⟩
 · obtain ⟨im',a1,a2,a3,a4⟩:=hI.blk.own t' m' a ha
   refine ⟨im',?_,a2,a3,a4⟩
   dsimp only
   unfold aZ
   rw [if_neg (show ¬ m'=m from fun e=>by rw [e,hn] at a1;cases a1)]
   exact a1
 · dsimp only at h
   unfold aZ at h
   split at h
   · cases h;exact hr
   · exact hI.blk.rt m' im' h
 · cases h:s.at_ (t,m) with
   | none=>rfl
   | some a=>obtain ⟨im',a1,_⟩:=hI.blk.own t m a h;rw [hn] at a1;cases a1
theorem tl{s:bk}{M:Mem}(hI:TI s M){m:Int}{im:ak}{br:Bool}(hr:br=true→0≤im.block∧((bS im.tls).length:Int)≤im.block){x:bk × Mem}{e:Int}(h:uh s M m im br x e) :
   (e≠0∧mO s M x∧cL x.2)∨(e=0∧0≤m∧br=true∧TI x.1 x.2∧x.1.mods=aZ s.mods m im∧x.1.thr=s.thr):=by
 rcases h with ⟨_,rfl,rfl⟩ | ⟨_,_,_,rfl,rfl⟩ | ⟨hm0,hbr,hmn,ks,hk,hlt,h⟩
 · exact .inl ⟨by decide,.refl _ _,hI.blk.ok⟩
 · exact .inl ⟨by decide,.refl _ _,hI.blk.ok⟩
 · have hn:s.mods m=none:=by
     cases h9:s.mods m with
     | none=>rfl
     | some b=>rw [h9] at hmn;cases hmn
   obtain ⟨hB,hnone⟩:=ym hI (hr hbr) hn
   have hself:aZ s.mods m im m=some im:=by unfold aZ;rw [if_pos rfl]
   have hmade:=iD (g:=fun t=>(t,m)) (fun a b h=>congrArg Prod.fst h) ks ({ s with mods:=aZ s.mods m im },M) hB hk.nd (fun k h=>by show (aZ s.mods m im m).isSome=true;rw [hself];rfl) (fun k h=>(hk.iff k).1 h) (fun k h=>hnone k)
   have eg:mkG (fun t=>(t,m))=fJ m:=rfl
   rw [eg] at hmade
   rcases h with ⟨hb,rfl,rfl⟩ | ⟨hb,rfl,y,ds,rfl,hd,hdl,rfl⟩
   · refine .inr ⟨rfl,hm0,hbr,⟨hmade.inv,fun t' m' im' h1 h2 h3 => ?_,fun t' b h1 => ?_⟩,hmade.mods,hmade.thr⟩
     · rw [hmade.mods] at h2
       rw [hmade.thr] at h1
       by_cases e:m'=m
       · subst e
         exact hmade.all hb t' ((hk.iff t').2 h1) im' h2 h3
       · rw [hmade.at_ (t',m') fun k _ h=>e (congrArg Prod.snd h)]
         refine hI.full t' m' im' h1 ?_ h3
         have:aZ s.mods m im m'=some im':=h2
         unfold aZ at this
         rwa [if_neg e] at this
     · rw [hmade.thr] at h1
       exact hI.tr t' b h1
   · refine .inl ⟨by decide,?_⟩
     obtain ⟨u1,u2,u3,u4,u5⟩:=adz (c:=isM m) hmade (fun k=>by unfold isM;simp) (fun p hp=>by
       have:p.2=m:=by unfold isM at hp;simpa using hp
       show s.at_ p=none
       rw [show p=(p.1,m) from Prod.ext rfl this];exact hnone p.1) hI.blk.all (s' := { (cQ (fJ m) ({ s with mods:=aZ s.mods m im },M) ks).1.1 with mods:=cV (cQ (fJ m) ({ s with mods:=aZ s.mods m im },M) ks).1.1.mods m }) rfl hd
     refine ⟨⟨u1.trans ?_,u2.trans hmade.thr,u3,u4⟩,u5⟩
     show cV (cQ (fJ m) ({ s with mods:=aZ s.mods m im },M) ks).1.1.mods m=s.mods
     rw [hmade.mods]
     show cV (aZ s.mods m im) m=s.mods
     funext q
     unfold cV aZ
     by_cases hq:q=m
     · subst hq;rw [if_pos rfl,hn]
     · rw [if_neg hq,if_neg hq]
theorem rp{s:bk}{M:Mem}(hI:TI s M){m:Int}{ds:List (Int × Int)}(hd:dw s.at_ ds):TI (goR s M m ds).1 (goR s M m ds).2∧(goR s M m ds).1.mods=cV s.mods m∧(goR s M m ds).1.thr=s.thr:=by
 have hA:=hI.blk.toAt
 have hD:=gj (c:=isM m) ds ({ s with mods:=cV s.mods m },M) ⟨hA.ok,hA.own,hA.all⟩ hd.nd (fun k hk=>(hd.iff k).1 hk)
 have e:goR s M m ds=ej (isM m) ({ s with mods:=cV s.mods m },M) ds:=rfl
 rw [e]
 have hat:∀ p,(ej (isM m) ({ s with mods:=cV s.mods m },M) ds).1.at_ p=if p.2=m then none else s.at_ p:=fun p=>by
   rw [hD.at_ p]
   by_cases h:p.2=m
   · rw [if_pos h]
     by_cases h2:p∈ds
     · rw [if_pos ⟨h2,by unfold isM;simp [h]⟩]
     · rw [if_neg fun h=>h2 h.1]
       show s.at_ p=none
       cases h3:s.at_ p with
       | none=>rfl
       | some a=>exact absurd ((hd.iff p).2 (by rw [h3];rfl)) h2
   · rw [if_neg h,if_neg fun h2=>h (by have:=h2.2;unfold isM at this;simpa using this)]
 refine ⟨⟨⟨hD.inv.ok,fun t m' a ha => ?_,hD.inv.all,fun m' im h => ?_⟩,fun t m' im h1 h2 h3 => ?_,fun t b h => ?_⟩,hD.mods,hD.thr⟩
 · rw [hat] at ha
   split at ha
   · cases ha
   · rename_i hm
     obtain ⟨im,a1,a2,a3,a4⟩:=hI.blk.own t m' a ha
     refine ⟨im,?_,?_,a3,(hD.ar _).2 ⟨a4,fun h=>hm (by have:=h.2.2;unfold isM at this;simpa using this)⟩⟩
     · rw [hD.mods]
       show cV s.mods m m'=some im
       unfold cV;rw [if_neg hm];exact a1
     · rw [hD.thr];exact a2
 · rw [hD.mods] at h
   have:cV s.mods m m'=some im:=h
   unfold cV at this
   split at this
   · cases this
   · exact hI.blk.rt m' im this
 · rw [hD.mods] at h2
   rw [hD.thr] at h1
   have:cV s.mods m m'=some im:=h2
   unfold cV at this
   split at this
   · cases this
   · rename_i hm
     rw [hat,if_neg hm]
     exact hI.full t m' im h1 this h3
 · rw [hD.thr] at h;exact hI.tr t b h
theorem n0{s:bk}{M:Mem}(hI:TI s M){t:Int}{ds:List (Int × Int)}(hd:dw s.at_ ds):TI (mz s M t ds).1 (mz s M t ds).2∧(mz s M t ds).1.mods=s.mods∧(mz s M t ds).1.thr=cV s.thr t:=by
 have hA:=hI.blk.toAt
 have hD:=gj (c:=isT t) ds ({ s with thr:=cV s.thr t },M) ⟨hA.ok,hA.own,hA.all⟩ hd.nd (fun k hk=>(hd.iff k).1 hk)
 have e:mz s M t ds=ej (isT t) ({ s with thr:=cV s.thr t },M) ds:=rfl
 rw [e]
 have hat:∀ p,(ej (isT t) ({ s with thr:=cV s.thr t },M) ds).1.at_ p=if p.1=t then none else s.at_ p:=fun p=>by
   rw [hD.at_ p]
   by_cases h:p.1=t
   · rw [if_pos h]
     by_cases h2:p∈ds
     · rw [if_pos ⟨h2,by unfold isT;simp [h]⟩]
     · rw [if_neg fun h=>h2 h.1]
       show s.at_ p=none
       cases h3:s.at_ p with
       | none=>rfl
       | some a=>exact absurd ((hd.iff p).2 (by rw [h3];rfl)) h2
   · rw [if_neg h,if_neg fun h2=>h (by have:=h2.2;unfold isT at this;simpa using this)]
 have hth:∀ t' b,cV s.thr t t'=some b→t'≠t∧s.thr t'=some b:=fun t' b h=>by
   unfold cV at h
   split at h
   · cases h
   · rename_i h2;exact ⟨h2,h⟩
 refine ⟨⟨⟨hD.inv.ok,fun t' m a ha => ?_,hD.inv.all,fun m im h => ?_⟩,fun t' m im h1 h2 h3 => ?_,fun t' b h => ?_⟩,hD.mods,hD.thr⟩
 · rw [hat] at ha
   split at ha
   · cases ha
   · rename_i hm
     obtain ⟨im,a1,a2,a3,a4⟩:=hI.blk.own t' m a ha
     refine ⟨im,by rw [hD.mods];exact a1,?_,a3,(hD.ar _).2 ⟨a4,fun h=>hm (by have:=h.2.2;unfold isT at this;simpa using this)⟩⟩
     rw [hD.thr]
     show (cV s.thr t t').isSome=true
     unfold cV;rw [if_neg (show ¬ t'=t from hm)];exact a2
 · rw [hD.mods] at h;exact hI.blk.rt m im h
 · rw [hD.mods] at h2
   rw [hD.thr] at h1
   obtain ⟨b,hb⟩:=Option.isSome_iff_exists.1 h1
   obtain ⟨k1,k2⟩:=hth t' b hb
   rw [hat,if_neg (show ¬ t'=t from k1)]
   exact hI.full t' m im (by rw [k2];rfl) h2 h3
 · rw [hD.thr] at h;exact hI.tr t' b (hth t' b h).2
theorem aaM{s s':bk}{M:Mem}(hI:TI s M){m:Int}{im:ak}{br:Bool}(hr:br=true→0≤im.block∧((bS im.tls).length:Int)≤im.block){e:Int}(h:xa s m im br s' e) :
   (e≠0∧s'=s)∨(e=0∧TI s' M∧s'.thr=s.thr∧s'.mods=aZ s.mods m im∧∃ old,s.mods m=some old∧im.block=old.block):=by
 rcases h with ⟨_,rfl,rfl⟩ | ⟨old,ho,⟨_,rfl,rfl⟩ | ⟨hb,hbl,rfl,rfl⟩⟩
 · exact .inl ⟨by decide,rfl⟩
 · exact .inl ⟨by decide,rfl⟩
 · refine .inr ⟨rfl,⟨⟨hI.blk.ok,fun t m' a ha => ?_,hI.blk.all,fun m' im' h => ?_⟩,fun t m' im' h1 h2 h3 => ?_,hI.tr⟩,rfl,rfl,old,ho,hbl⟩
   · obtain ⟨im',a1,a2,a3,a4⟩:=hI.blk.own t m' a ha
     dsimp only
     unfold aZ
     by_cases e:m'=m
     · subst e
       rw [ho] at a1;cases a1
       exact ⟨im,by rw [if_pos rfl],a2,by omega,by rw [hbl];exact a4⟩
     · exact ⟨im',by rw [if_neg e];exact a1,a2,a3,a4⟩
   · dsimp only at h
     unfold aZ at h
     split at h
     · cases h;exact hr hb
     · exact hI.blk.rt m' im' h
   · dsimp only at h2
     unfold aZ at h2
     split at h2
     · rename_i e
       cases h2
       exact hI.full t m' old h1 (by rw [e];exact ho) (by omega)
     · exact hI.full t m' im' h1 h2 h3
theorem TI.areas{s:bk}{M N:Mem}(hI:TI s M)(hk:cL N)(h:∀ r:Ar,r.kind=4→(r∈ars N↔r∈ars M)):TI s N :=
 ⟨⟨hk,fun t m a ha=>let ⟨im,a1,a2,a3,a4⟩:=hI.blk.own t m a ha; ⟨im,a1,a2,a3,(h _ rfl).2 a4⟩,fun r hr h4=>hI.blk.all r ((h r h4).1 hr) h4,hI.blk.rt⟩,hI.full,hI.tr⟩
theorem aah{s:bk}{M:Mem}(hI:TI s M){a:Ar}(ha:a.kind≠4):TI s (mapM M a).1:=by
 by_cases he:(mapM M a).2=0
 · exact hI.areas (hI.blk.ok.map a) fun r hr=>(jo he r).trans ⟨fun h=>h.elim (fun e=>absurd (e ▸ hr) ha) id,.inr⟩
 · rw [og he];exact hI
theorem cL.store{M:Mem}(h:cL M)(t n:Int):cL (gL M t 1 n).1:=by
 unfold gL
 split
 · exact h
 · split
   · split
     · exact h
     · rename_i x hx _
       obtain ⟨h1,h2,h3,h4⟩:=gn hx
       have hl:=h.inv.len x h1
       exact h.upd h1 (ji (by rw [rz];omega))
   · exact h
theorem vW{M:Mem}{t n:Int}(h:(gL M t 1 n).2≠0):(gL M t 1 n).1=M:=by
 unfold gL at h ⊢
 by_cases h1:acf M t 1≠0
 · rw [if_pos h1]
 · rw [if_neg h1] at h ⊢
   cases hm:dP M t 1 with
   | none=>rfl
   | some x =>
     simp only [hm] at h ⊢
     by_cases hk:x.1.kind=0
     · rw [if_pos hk]
     · rw [if_neg hk] at h;exact absurd rfl h
theorem vX{s:bk}{M:Mem}(hI:TI s M)(t n:Int):TI s (gL M t 1 n).1:=hI.areas (hI.blk.ok.store t n) fun r _=>by rw [xc]
def jO(im:ak):Prop:=0≤im.block∧((bS im.tls).length:Int)≤im.block
theorem abi{ims:List ak}(hims:∀ i b,fU (eB ims i) b→b=true→jO (eB ims i)){a:y0}{s:bk}{M:Mem}(hI:TI s M){x:bk × Mem}{e:Int}(h:DoR ims a s M x e) :
   TI x.1 x.2∧(e≠0→mO s M x):=by
 rcases h with ⟨_,br,hbr,h⟩ | ⟨_,h⟩ | ⟨_,br,s',hbr,h,rfl⟩ | ⟨_,rfl,ds,hd,_,rfl⟩ | ⟨_,rfl,ds,hd,_,rfl⟩ | ⟨_,rfl,rfl⟩ | ⟨_,⟨_,rfl,rfl⟩ | ⟨_,rfl,rfl⟩⟩
 · rcases Int.lt_or_le a.n 0 with hn | hn
   · rcases h with ⟨_,rfl,rfl⟩ | ⟨h0,_⟩ | ⟨h0,_⟩
     · exact ⟨hI,fun _=>.refl _ _⟩
     · omega
     · omega
   · rcases tl hI (hims a.i br (hbr hn)) h with ⟨h1,h2,h3⟩ | ⟨h1,_,_,h2,_⟩
     · exact ⟨h2.ti hI h3,fun _=>h2⟩
     · exact ⟨h2,fun h3=>absurd h1 h3⟩
 · rcases tY hI h with ⟨h1,h2,h3⟩ | ⟨h1,_,h2,_⟩
   · exact ⟨h2.ti hI h3,fun _=>h2⟩
   · exact ⟨h2,fun h3=>absurd h1 h3⟩
 · by_cases hs:(s.mods a.n).isSome=true
   · rcases aaM hI (hims a.i br (hbr hs)) h with ⟨h1,rfl⟩ | ⟨h1,h2,_⟩
     · exact ⟨hI,fun _=>.refl _ _⟩
     · exact ⟨h2,fun h3=>absurd h1 h3⟩
   · rcases h with ⟨_,rfl,rfl⟩ | ⟨old,ho,_⟩
     · exact ⟨hI,fun _=>.refl _ _⟩
     · rw [ho] at hs;exact absurd rfl hs
 · exact ⟨(rp hI hd).1,fun h=>absurd rfl h⟩
 · exact ⟨(n0 hI hd).1,fun h=>absurd rfl h⟩
 · exact ⟨aah hI (show (3:Int)≠4 by decide),fun h=>by rw [og h];exact .refl _ _⟩
 · exact ⟨vX hI _ _,fun h=>by rw [vW h];exact .refl _ _⟩
 · exact ⟨hI,fun _=>.refl _ _⟩
theorem TI.i64{s:bk}{M:Mem}(hI:TI s M)(k:Int × Int)(a:Int)(h:s.at_ k=some a):I64 a:=by
 obtain ⟨im,_,_,_,h4⟩:=hI.blk.own k.1 k.2 a h
 obtain ⟨x,hx,e⟩:=fG.1 h4
 have:=b8.1 (hI.blk.ok.inv.right x hx)
 rw [e] at this
 unfold I64
 dsimp only at this
 omega
theorem ach{s:bk}{M:Mem}(hI:TI s M){N:Nat}(hM:M.length≤N):e7 s.at_ N:=fun l hnd hl=>by
 have hp:(l.map fun p=>(s.at_ p).getD 0).Nodup:=by
   induction l with
   | nil=>exact List.nodup_nil
   | cons p l ih =>
     rw [List.map_cons,List.nodup_cons]
     refine ⟨fun h => ?_,ih (List.nodup_cons.1 hnd).2 fun q hq=>hl q (List.mem_cons_of_mem _ hq)⟩
     obtain ⟨q,hq,e⟩:=List.mem_map.1 h
     obtain ⟨a,ha⟩:=Option.isSome_iff_exists.1 (hl p List.mem_cons_self)
     obtain ⟨b,hb⟩:=Option.isSome_iff_exists.1 (hl q (List.mem_cons_of_mem _ hq))
     rw [ha,hb] at e
     have e:b=a:=e
     subst e
     obtain ⟨im1,_,_,_,h1⟩:=hI.blk.own p.1 p.2 b ha
     obtain ⟨im2,_,_,_,h2⟩:=hI.blk.own q.1 q.2 b hb
     have:=ze hI.blk.ok h1 h2 rfl
     simp only [Ar.mk.injEq] at this
     have:p=q:=Prod.ext this.2.2.2.1 this.2.2.2.2
     exact (List.nodup_cons.1 hnd).1 (this ▸ hq)
 have hin:∀ a∈(l.map fun p=>(s.at_ p).getD 0),a∈(ars M).map (·.at_):=fun a ha=>by
   obtain ⟨p,hq,e⟩:=List.mem_map.1 ha
   obtain ⟨b,hb⟩:=Option.isSome_iff_exists.1 (hl p hq)
   rw [hb] at e
   have e:b=a:=e
   obtain ⟨im1,_,_,_,h1⟩:=hI.blk.own p.1 p.2 b hb
   exact List.mem_map.2 ⟨_,h1,e⟩
 have:=jB hp hin
 simp only [List.length_map,ars] at this
 omega
theorem oQ{im:ak}(h:gK im=true):jO im:=by
 have hs:lO im=true:=by
   unfold gK at h
   simp only [Bool.and_eq_true] at h
   exact h.1.1.1.1.1.1.1.1
 have:=(eQ.1 hs).bl
 unfold jO
 rw [j3]
 omega
theorem mm{im:ak}{b:Bool}(h:fU im b)(hb:b=true):jO im:=oQ (h.1 hb).2
structure ug (ims:List ak) (s x:bk):Prop where
 mods:x.mods=s.mods∨(∃ m i,x.mods=aZ s.mods m (eB ims i))∨∃ m,x.mods=cV s.mods m
 thr:x.thr=s.thr∨(∃ t,x.thr=aZ s.thr t true)∨∃ t,x.thr=cV s.thr t
theorem abh{ims:List ak}{a:y0}{s:bk}{M:Mem}(hI:TI s M){x:bk × Mem}{e:Int}(h:DoR ims a s M x e):ug ims s x.1:=by
 have hims:∀ i b,fU (eB ims i) b→b=true→jO (eB ims i):=fun i b h1 h2=>mm h1 h2
 rcases h with ⟨_,br,hbr,h⟩ | ⟨_,h⟩ | ⟨_,br,s',hbr,h,rfl⟩ | ⟨_,rfl,ds,hd,_,rfl⟩ | ⟨_,rfl,ds,hd,_,rfl⟩ | ⟨_,rfl,rfl⟩ | ⟨_,⟨_,rfl,rfl⟩ | ⟨_,rfl,rfl⟩⟩
 · rcases Int.lt_or_le a.n 0 with hn | hn
   · rcases h with ⟨_,rfl,rfl⟩ | ⟨h0,_⟩ | ⟨h0,_⟩
     · exact ⟨.inl rfl,.inl rfl⟩
     · omega
     · omega
   · rcases tl hI (hims a.i br (hbr hn)) h with ⟨_,h2,_⟩ | ⟨_,_,_,_,h2,h3⟩
     · exact ⟨.inl h2.mods,.inl h2.thr⟩
     · exact ⟨.inr (.inl ⟨_,_,h2⟩),.inl h3⟩
 · rcases tY hI h with ⟨_,h2,_⟩ | ⟨_,_,_,h2,h3⟩
   · exact ⟨.inl h2.mods,.inl h2.thr⟩
   · exact ⟨.inl h2,.inr (.inl ⟨_,h3⟩)⟩
 · rcases h with ⟨_,rfl,rfl⟩ | ⟨old,ho,⟨_,rfl,rfl⟩ | ⟨_,_,rfl,rfl⟩⟩
   · exact ⟨.inl rfl,.inl rfl⟩
   · exact ⟨.inl rfl,.inl rfl⟩
   · exact ⟨.inr (.inl ⟨_,_,rfl⟩),.inl rfl⟩
 · exact ⟨.inr (.inr ⟨_,(rp hI hd).2.1⟩),.inl (rp hI hd).2.2⟩
 · exact ⟨.inl (n0 hI hd).2.1,.inr (.inr ⟨_,(n0 hI hd).2.2⟩)⟩
 · exact ⟨.inl rfl,.inl rfl⟩
 · exact ⟨.inl rfl,.inl rfl⟩
 · exact ⟨.inl rfl,.inl rfl⟩
theorem ug.fewM{ims:List ak}{s x:bk}(h:ug ims s x){N:Nat}(hN:e7 s.mods N):e7 x.mods (N+1):=by
 rcases h.mods with e | ⟨m,i,e⟩ | ⟨m,e⟩<;>rw [e]
 · exact hN.mono (by omega)
 · exact hN.put _ _
 · exact (hN.del _).mono (by omega)
theorem ug.fewT{ims:List ak}{s x:bk}(h:ug ims s x){N:Nat}(hN:e7 s.thr N):e7 x.thr (N+1):=by
 rcases h.thr with e | ⟨m,e⟩ | ⟨m,e⟩<;>rw [e]
 · exact hN.mono (by omega)
 · exact hN.put _ _
 · exact (hN.del _).mono (by omega)
theorem ug.fit{ims:List ak}{s x:bk}(h:ug ims s x)(hs:∀ k im,s.mods k=some im→gN im)(hi:∀ i,gN (eB ims i)):∀ k im,x.mods k=some im→gN im:=fun k im hk=>by
 rcases h.mods with e | ⟨m,i,e⟩ | ⟨m,e⟩<;>rw [e] at hk
 · exact hs k im hk
 · unfold aZ at hk
   split at hk
   · cases hk;exact hi i
   · exact hs k im hk
 · unfold cV at hk
   split at hk
   · cases hk
   · exact hs k im hk
theorem jh{α:Type}{lt:α→α→Prop}(irr:∀ a,¬ lt a a)(tr:∀ a b c,lt a b→lt b c→lt a c):∀ {l q:List α},l.Pairwise lt→q.Pairwise lt→(∀ a,a∈l↔a∈q)→l=q
 | [],[],_,_,_=>rfl
 | [],b::q,_,_,h=>by cases (h b).2 List.mem_cons_self
 | a::l,[],_,_,h=>by cases (h a).1 List.mem_cons_self
 | a :: l,b::q,hl,hq,h=>by
   rw [List.pairwise_cons] at hl hq
   have hab:a=b:=by
     rcases List.mem_cons.1 ((h a).1 List.mem_cons_self) with e | e
     · exact e
     · rcases List.mem_cons.1 ((h b).2 List.mem_cons_self) with e2 | e2
       · exact e2.symm
       · exact absurd (tr _ _ _ (hq.1 a e) (hl.1 b e2)) (irr b)
   subst hab
   rw [jh irr tr hl.2 hq.2 fun x => ?_]
   constructor
   · intro hx
     rcases List.mem_cons.1 ((h x).1 (List.mem_cons_of_mem _ hx)) with e | e
     · rw [e] at hx;exact absurd (hl.1 a hx) (irr a)
     · exact e
   · intro hx
     rcases List.mem_cons.1 ((h x).2 (List.mem_cons_of_mem _ hx)) with e | e
     · rw [e] at hx;exact absurd (hq.1 a hx) (irr a)
     · exact e
theorem jb{β:Type}{m:Int→Option β}{ks q:List Int}(h:dw m ks)(hs:ks.Pairwise fun a b=>a<b)(hq:q.Pairwise fun a b=>a<b)(hm:∀ k,k∈q↔(m k).isSome=true):ks=q :=
 jh (fun a=>Int.lt_irrefl a) (fun a b c=>Int.lt_trans) hs hq fun k=>(h.iff k).trans (hm k).symm
theorem yu{β:Type}{m:Int × Int→Option β}{ks q:List (Int × Int)}(h:dw m ks)(hs:ks.Pairwise jK)(hq:q.Pairwise jK)(hm:∀ k,k∈q↔(m k).isSome=true):ks=q :=
 jh (fun a h=>by unfold jK at h;omega) (fun a b c h1 h2=>by unfold jK at *;omega) hs hq fun k=>(h.iff k).trans (hm k).symm
theorem jA{α β:Type}[DecidableEq α]{m:α→Option β}{k j:α}{v:β} : (aZ m k v j).isSome=true↔j=k∨(m j).isSome=true:=by
 unfold aZ
 split
 · rename_i e;exact ⟨fun _=>.inl e,fun _=>rfl⟩
 · rename_i e;exact ⟨.inr,fun h=>h.elim (fun h=>absurd h e) id⟩
theorem aa8{M:Mem}(h:cL M):(ars M).Pairwise fun a b=>a.at_<b.at_:=by
 unfold ars
 rw [List.pairwise_map]
 exact h.inv.asc.imp_of_mem fun {x y} hx hy hh=>by have:=b8.1 (h.inv.right x hx);omega
def pic(name tls:ByteArray)(block:Int):ak := { (default:ak) with name:=name,lib:=true,entry := -1,tls:=tls,block:=block }
def mB:ByteArray:=⟨#[108,105,98]⟩
def aaW:ByteArray:=⟨#[97,98,99,100]⟩
def tX:ByteArray:=⟨#[120]⟩
def rZ:List UInt8:=[97,98,99,100,0,0,0,0,0,0,0,0]
abbrev smI:ak:=pic mB aaW 12
def sm1:bk := { fB with mods:=aZ fB.mods 3 smI }
def sm2:bk := { sm1 with thr:=aZ sm1.thr 0 true,at_:=aZ sm1.at_ (0,3) 512 }
def sm3:bk := { sm2 with thr:=aZ sm2.thr 1 true,at_:=aZ sm2.at_ (1,3) 1024 }
def sm4:bk := { sm3 with thr:=cV sm3.thr 0,at_:=cV sm3.at_ (0,3) }
def aaN:Mem:=[(⟨512,12,4,0,3⟩,rZ)]
def kb:Mem:=[(⟨512,12,4,0,3⟩,rZ),(⟨1024,12,4,1,3⟩,rZ)]
def tT:Mem:=[(⟨1024,12,4,1,3⟩,rZ)]
theorem acW{br:Bool}(hb:br=true){x:bk × Mem}{e:Int}(h:uh fB [] 3 smI br x e):x=(sm1,[])∧e=0:=by
 rcases h with ⟨h1 | h1,_⟩ | ⟨_,_,h1,_⟩ | ⟨_,_,_,ks,hk,hlt,h⟩
 · omega
 · rw [hb] at h1;cases h1
 · cases h1
 · have hks:ks=[]:=jb hk hlt .nil fun k=>⟨fun h=>(by cases h),fun h=>(by cases h)⟩
   subst hks
   rcases h with ⟨_,rfl,rfl⟩ | ⟨h1,_⟩
   · exact ⟨rfl,rfl⟩
   · cases h1
theorem abJ{m:Int→Option ak}(hm:m=sm1.mods)(k:Int):k∈[(3:Int)]↔(m k).isSome=true:=by
 subst hm
 show _↔(aZ fB.mods 3 smI k).isSome=true
 rw [jA,List.mem_singleton]
 exact ⟨.inl,fun h=>h.elim id fun h=>(by cases h)⟩
theorem acU:eH 0 ({ sm1 with thr:=aZ sm1.thr 0 true },[]) 3=(sm2,aaN,true):=by kernel_rfl
theorem acV:eH 1 ({ sm2 with thr:=aZ sm2.thr 1 true },aaN) 3=(sm3,kb,true):=by kernel_rfl
theorem aaP{s s':bk}{M M':Mem}{t:Int}(ht:0≤t)(hn:s.thr t=none)(hm:s.mods=sm1.mods)(hk:eH t ({ s with thr:=aZ s.thr t true },M) 3=(s',M',true)){x:bk × Mem}{e:Int}(h:rT s M t x e):x=(s',M')∧e=0:=by
 rcases h with ⟨h1,_⟩ | ⟨_,h1,_⟩ | ⟨_,_,ks,hks,hlt,h⟩
 · omega
 · rw [hn] at h1;cases h1
 · have e0:ks=[3]:=jb hks hlt (by simp) (abJ hm)
   subst e0
   have e1:cQ (eH t) ({ s with thr:=aZ s.thr t true },M) [3]=((s',M'),true):=by
     rw [fx (by rw [hk]),hk];rfl
   rw [e1] at h
   rcases h with ⟨_,rfl,rfl⟩ | ⟨h1,_⟩
   · exact ⟨rfl,rfl⟩
   · cases h1
theorem aaQ{im:ak}{br:Bool}(hb:br=true){x:bk × Mem}{e:Int}(h:uh sm3 kb 3 im br x e):x=(sm3,kb)∧e=4:=by
 rcases h with ⟨h1 | h1,_⟩ | ⟨_,_,_,h1,h2⟩ | ⟨_,_,h1,_⟩
 · omega
 · rw [hb] at h1;cases h1
 · exact ⟨h1,h2⟩
 · cases h1
theorem abI:mz sm3 kb 0 [(0,3),(1,3)]=(sm4,tT):=by kernel_rfl
theorem acT{ds:List (Int × Int)}(hd:dw sm3.at_ ds)(hs:ds.Pairwise jK):mz sm3 kb 0 ds=(sm4,tT):=by
 have e0:ds=[(0,3),(1,3)]:=yu hd hs (by simp [jK]) fun k=>by
   show _↔(aZ (aZ fB.at_ (0,3) 512) (1,3) 1024 k).isSome=true
   rw [jA,jA,List.mem_cons,List.mem_singleton]
   exact ⟨fun h=>h.elim (fun h=>.inr (.inl h)) .inl,fun h=>h.elim .inr fun h=>h.elim .inl fun h=>(by cases h)⟩
 rw [e0];exact abI
theorem acZ{im:ak}(hbl:im.block=12){br:Bool}(hb:br=true){s':bk}{e:Int}(h:xa sm4 3 im br s' e):s' = { sm4 with mods:=aZ sm4.mods 3 im } ∧ e=0:=by
 have h3:sm4.mods 3=some smI:=rfl
 rcases h with ⟨h1,_⟩ | ⟨old,ho,h⟩
 · rw [h3] at h1;cases h1
 · rw [h3] at ho;cases ho
   rcases h with ⟨h1 | h1,_⟩ | ⟨_,_,h1,h2⟩
   · rw [hb] at h1;cases h1
   · exact absurd hbl h1
   · exact ⟨h1,h2⟩
theorem abL{s:bk}(hs:s.mods 4=none){im:ak}{br:Bool}{s':bk}{e:Int}(h:xa s 4 im br s' e):s'=s∧e=9:=by
 rcases h with ⟨_,h1,h2⟩ | ⟨old,ho,_⟩
 · exact ⟨h1,h2⟩
 · rw [hs] at ho;cases ho
theorem lK{n t:ByteArray}{b:Int}(h:gK (pic n t b)=true){br:Bool}(hr:fU (pic n t b) br):br=true :=
 hr.2 ⟨jm.all ⟨Nat.zero_le _,fun _ h=>(by cases h),fun _ h=>(by cases h)⟩,h⟩
theorem adn:gK smI=true:=by kernel_rfl
theorem ado:gK (pic mB .empty 0)=true:=by kernel_rfl
theorem adp:gK (pic mB tX 12)=true:=by kernel_rfl
theorem n4{α β:Type} : e7 (fun _:α=>(none:Option β)) 0:=fun l _ h=>by
 cases l with
 | nil=>exact Nat.le_refl _
 | cons k l=>have:=h k List.mem_cons_self;cases this
theorem acX:cL aaN:=⟨⟨fun x hx=>by rw [List.mem_singleton.1 hx];rfl,by simp [aaN],fun x hx=>by rw [List.mem_singleton.1 hx];rfl⟩,by decide⟩
theorem vU:cL kb:=⟨⟨fun x hx=>by rcases List.mem_cons.1 hx with rfl | hx;(· rfl);rw [List.mem_singleton.1 hx];rfl,by simp [kb],fun x hx=>by rcases List.mem_cons.1 hx with rfl | hx;(· rfl);rw [List.mem_singleton.1 hx];rfl⟩,by decide⟩
theorem acY:cL tT:=⟨⟨fun x hx=>by rw [List.mem_singleton.1 hx];rfl,by simp [tT],fun x hx=>by rw [List.mem_singleton.1 hx];rfl⟩,by decide⟩
theorem vT:∀ k im,sm1.mods k=some im→gN im:=fun k im h=>by
 have h:aZ fB.mods 3 smI k=some im:=h
 unfold aZ at h
 split at h
 · cases h;exact ⟨by show I64 12;unfold I64;decide,by show aaW.size≤maxLen;decide⟩
 · cases h
theorem abK:jg kb 1024 12=(rZ,0):=by kernel_rfl
open Go.Proofs.Tryz
attribute [local irreducible] aL aB awp aC fwp Quiet
theorem gB(n t:ByteArray)(b:Int):Con Tryz.prog 62 [.string n,.string t,.int .i64 b] [] [] fun r _ _=>r=(pic n t b).val:=by
 refine EN3 Tryz.func62 rfl (aSR (LT rfl (bt (zs:=ZI) (by kernel_rfl) rfl (fun b0_0=>(aHN ?_)))))
 refine aNn (aSR (aM rfl (aM rfl (aM rfl (aU rfl (gr (l:=[(0,.tmp 7),(1,.const (.bool true)),(16,.const (.int .i64 (-1))),(6,.tmp 8),(7,.tmp 9)]) (zs:=ZI) (pl:=[(0,1),(1,1),(2,1),(3,1),(4,1),(5,1),(6,1),(7,1),(8,1),(9,1),(10,1),(11,1),(12,1),(13,1),(14,1),(15,1),(16,1),(17,1),(18,1),(19,6),(25,1)]) (by kernel_rfl) (by kernel_rfl) (by kernel_rfl) rfl rfl rfl) (aI rfl (aW 0 tk40 rfl rfl rfl rfl (aHK ?_))))))))
 refine aNn (aj ?_)
 refine ab4 [] [] rfl Tryz.results62 (mL 0 tk40 rfl rfl rfl) ?_ (.inr rfl)
 rfl
theorem vA{n t:ByteArray}{b:Int}{ps:List Per}(hn:n.size≤maxLen)(ht:t.size≤maxLen):Ent ps (pic n t b).ok:=by
 unfold ak.ok
 repeat' (first | exact ady | exact adJ | exact adg | exact (fun _ _ _=>hn) | exact (fun _ _ _=>ht) | refine Ent.mk2 ?_ ?_)
theorem rB{n t:ByteArray}{b:Int}(hb:I64 b)(ht:t.size≤maxLen):jM (pic n t b):=⟨⟨by show I64 0;unfold I64;decide,by show I64 0;unfold I64;decide,by show I64 0;unfold I64;decide⟩,hb,ht⟩
theorem aaO{s:bk}(b p mb tb ab:Nat){M:Mem}{t m a:Int}{o:Bool}(h1:(s.at_ (t,m)).getD 0=a)(h2:(s.at_ (t,m)).isSome=o):Con Tryz.prog 25 [.pointer (some ⟨b,0,none⟩),.int .i64 t,.int .i64 m] [] (fO b p mb tb ab s M) fun r ps hp=>ps=[]∧hp=fO b p mb tb ab s M∧r=.tuple #[.int .i64 a,.bool o]:=by
 subst h1 h2
 exact wk b p mb tb ab s M t m
def adu:ByteArray:=⟨#[97,98,99,100,0,0,0,0,0,0,0,0]⟩
theorem adw(p:Nat):Con Tryz.prog 63 [.pointer (some ⟨p,0,none⟩),.int .i64 1024,.int .i64 12] [] [SpR p kb] fun r ps hp=>ps=[]∧hp=[SpR p kb]∧r=.tuple #[.string adu,.int .i64 0] :=
 (tV p kb vU 1024 12 (by unfold I64;decide)).post fun r ps hp ⟨h1,h2,h3⟩=>⟨h1,h2,by rw [h3,abK];rfl⟩
theorem sG:Con Tryz.prog 13 [] [] [] fun r ps hp=>ps=[]∧hp=[]∧r=.bool true:=by
 refine Con.enter Tryz.func13 rfl (by simp [Tryz.ntmps13]) ?_
 show awp _ _ _ _ ⟨[],_,_⟩
 refine aSR (aA rfl (aNn (aSR (LT rfl (EC [] [] rfl (pT) ?_)))))
 rintro _ _ _ ⟨rfl,p,rfl,rfl⟩
 refine aST ?_
 refine aA rfl (aNs (aSR (aM rfl (aU rfl (kP (by kernel_rfl) rfl) (aNn ?_)))))
 refine ah _ rfl (fun h1 => ?_) (fun h1 => ?_)
 ·skip
  cases h1
 ·skip
  refine ai (an (aSR (aM rfl (LT rfl (EC [] [] rfl (sN p) ?_)))))
  rintro _ _ _ ⟨rfl,b,mb,tb,ab,rfl,rfl⟩
  refine aST ?_
  refine aA rfl (aNs (aSR (aM rfl (aU rfl (kP (by kernel_rfl) rfl) (aNn ?_)))))
  refine ah _ rfl (fun h2 => ?_) (fun h2 => ?_)
  ·skip
   cases h2
  ·skip
   refine ai (an (aq (gb [0,1,2] [] [1,2,3,4,0] rfl ?_)))
   refine bF smI.ok (vA (by decide) (by decide)) ?_
   show awp _ _ _ _ ⟨[(0,true,.bool false),(1,true,.pointer (some ⟨p,0,none⟩)),(2,true,.pointer (some ⟨b,0,none⟩))],[smI.ok],fO b p mb tb ab fB []⟩
   refine ae (aM rfl (aU rfl (Q0 rfl (gB mB aaW 12)) ?_))
   refine LF rfl (EC [0] [0,1,2,3,4] rfl (iY b p mb tb ab fB (fun k im h=>by cases h) n4 n4 (by decide) [] cL.nil 3 smI (rB (by unfold I64;decide) (by decide))) ?_)
   rintro _ _ _ ⟨rfl,br,x,e,hbr,hR,rfl,rfl⟩
   refine aST ?_
   obtain ⟨rfl,rfl⟩:=acW (lK adn (hbr (by decide))) hR
   refine aA rfl (aNn (aSR (aM rfl (LF rfl (EC [] [0,1,2,3,4] rfl (fI b p mb tb ab sm1 vT n4 (n4.put 3 smI) (by decide) [] cL.nil 0) ?_)))))
   rintro _ _ _ ⟨rfl,x,e,hR,rfl,rfl⟩
   refine aST ?_
   obtain ⟨rfl,rfl⟩:=aaP (s:=sm1) (by decide) rfl rfl acU hR
   refine aA rfl (aNn (aSR (aM rfl (LF rfl (EC [] [0,1,2,3,4] rfl (fI b p mb tb ab sm2 vT (n4.put (0,3) 512) (n4.put 3 smI) (by decide) aaN acX 1) ?_)))))
   rintro _ _ _ ⟨rfl,x,e,hR,rfl,rfl⟩
   refine aST ?_
   obtain ⟨rfl,rfl⟩:=aaP (s:=sm2) (by decide) rfl rfl acV hR
   refine aA rfl (aNn (aSR (aM rfl (LF rfl (EC [] [0,1,2,3,4] rfl (aaO (a:=512) (o:=true) b p mb tb ab (s:=sm3) (M:=kb) rfl rfl) ?_)))))
   rintro _ _ _ ⟨rfl,rfl,rfl⟩
   refine aST ?_
   refine aM rfl (aU rfl (aK rfl rfl) (aU rfl (aK rfl rfl) (aA rfl (aA rfl (aNn (aSR (aM rfl (LF rfl (EC [] [0,1,2,3,4] rfl (aaO (a:=1024) (o:=true) b p mb tb ab (s:=sm3) (M:=kb) rfl rfl) ?_)))))))))
   rintro _ _ _ ⟨rfl,rfl,rfl⟩
   refine aST ?_
   refine aM rfl (aU rfl (aK rfl rfl) (aU rfl (aK rfl rfl) (aA rfl (aA rfl (aNn (aSR (aM rfl (aM rfl (LF rfl (EC [] [4] rfl (adw p) ?_))))))))))
   rintro _ _ _ ⟨rfl,rfl,rfl⟩
   refine aST ?_
   refine aM rfl (aU rfl (aK rfl rfl) (aU rfl (aK rfl rfl) (aA rfl (aA rfl (aNs (bF (pic mB .empty 0).ok (vA (by decide) (by decide)) (ae (aM rfl (aU rfl (Q0 rfl (gB mB .empty 0)) ?_)))))))))
   refine LF rfl (EC [1] [0,1,2,3,4] rfl (iY b p mb tb ab sm3 vT ((n4.put (0,3) 512).put (1,3) 1024) ((n4.put 0 true).put 1 true) (by decide) kb vU 3 (pic mB .empty 0) (rB (by unfold I64;decide) (by decide))) ?_)
   rintro _ _ _ ⟨rfl,br,x,e,hbr,hR,rfl,rfl⟩
   refine aST ?_
   obtain ⟨rfl,rfl⟩:=aaQ (lK ado (hbr (by decide))) hR
   refine aA rfl (aNn (aSR (aM rfl (LF rfl (EC [] [0,1,2,3,4] rfl (sM b p mb tb ab sm3 (((n4.put (0,3) 512).put (1,3) 1024).toK (by decide)) kb vU 0) ?_)))))
   rintro _ _ _ ⟨rfl,ds,hd,hdl,rfl⟩
   refine aST ?_
   refine aNs ?_
   rw [acT hd hdl]
   refine ae (aM rfl (LF rfl (EC [] [0,1,2,3,4] rfl (aaO (a:=0) (o:=false) b p mb tb ab (s:=sm4) (M:=tT) rfl rfl) ?_)))
   rintro _ _ _ ⟨rfl,rfl,rfl⟩
   refine aST ?_
   refine aM rfl (aU rfl (aK rfl rfl) (aU rfl (aK rfl rfl) (aA rfl (aA rfl (aNs (bF (pic mB tX 12).ok (vA (by decide) (by decide)) ?_))))))
   refine ae (aM rfl (aU rfl (bw rfl rfl) (aM rfl (aM rfl (aU rfl (bw rfl rfl) (aU rfl (aQ rfl rfl (fun _=>rfl)) (aM rfl (aM rfl (aU rfl (bw rfl rfl) (aU rfl (aQ rfl rfl (fun _=>rfl)) (aM rfl (aM rfl (aU rfl (aQ rfl rfl (fun _=>rfl)) (aM rfl (aM rfl ?_)))))))))))))))
   refine aU rfl (aQ rfl rfl (fun _=>rfl)) (aM rfl (aM rfl (aM rfl (aU rfl (dS rfl rfl) (aU rfl (aQ rfl rfl (fun _=>rfl)) (aM rfl (aM rfl (aU rfl (bw rfl rfl) (aU rfl (aQ rfl rfl (fun _=>rfl)) (aM rfl (aM rfl (aU rfl ((vN rfl rfl).castV (v':=.bool true) (congrArg Value.bool (beq_self_eq_true _))) (aU rfl (aQ rfl rfl (fun _=>rfl)) (aM rfl (aM rfl ?_)))))))))))))))
   refine aU rfl (bw rfl rfl) (aU rfl (aQ rfl rfl (fun _=>rfl)) (aM rfl (aM rfl (aU rfl (bw rfl rfl) (aU rfl (aQ rfl rfl (fun _=>rfl)) (aM rfl (aM rfl (aU rfl (bY rfl) (aU rfl (aQ rfl rfl (fun _=>rfl)) (aM rfl (aM rfl (aU rfl (Q0 rfl (gB mB tX 12)) ?_))))))))))))
   refine LF rfl (EC [2] [0,1,2,3,4] rfl (nw b p mb tb ab sm4 tT 3 (pic mB tX 12) (rB (by unfold I64;decide) (by decide))) ?_)
   rintro _ _ _ ⟨rfl,br,s',e,hbr,hR,rfl,rfl⟩
   refine aST ?_
   obtain ⟨rfl,rfl⟩:=acZ rfl (lK adp (hbr rfl)) hR
   refine aU rfl (bw rfl rfl) (aU rfl (aQ rfl rfl (fun _=>rfl)) (aM rfl (aM rfl (aU rfl (Q0 rfl (gB mB tX 12)) ?_))))
   refine LF rfl (EC [2] [0,1,2,3,4] rfl (nw b p mb tb ab _ tT 4 (pic mB tX 12) (rB (by unfold I64;decide) (by decide))) ?_)
   rintro _ _ _ ⟨rfl,br,s',e,_,hR,rfl,rfl⟩
   refine aST ?_
   obtain ⟨rfl,rfl⟩:=abL rfl hR
   refine aU rfl (bw rfl rfl) (aU rfl (aQ rfl rfl (fun _=>rfl)) (aM rfl (aM rfl (LF rfl (EC [] [4] rfl (yN p tT acY) ?_)))))
   rintro _ _ _ ⟨rfl,ad,ac,rfl,rfl⟩
   refine aST ?_
   refine aU rfl (dF 5 Tryz.underlying71 rfl rfl) (aU rfl (bw rfl rfl) (aU rfl (aQ rfl rfl (fun _=>rfl)) (aA rfl (aNn (aj (FZ1 [] Tryz.results13 rfl ?_))))))
   exact ⟨rfl,rfl,rfl⟩
end Go.Proofs.YtfkcmbonmpcbfaaGreat

namespace Go.Proofs.YtfkcmbonmpcbfaaGreat
open Go.RowKit Go.Lp Go.Sy Go.Lv
open Go.Proofs.Tryz
section
variable {H:Type} {enc:TypeId × Value→H} {w:World} {base:Nat} {spare:Nat→Bool} {held:Bool} {fuel:Nat}
def acb(y:ak):Prop:=I64 y.code∧I64 y.data∧I64 y.zero∧I64 y.block∧I64 y.entry
theorem acb.to{y:ak}{S:aT}(h:acb y)(ho:y.ok.holds w S):jM y :=
 ⟨⟨h.1,h.2.1,h.2.2.1⟩,h.2.2.2.1,ak.f_tls (ps:=[y.ok]) (.of (List.mem_singleton.2 rfl)) w S fun p hp=>by rw [List.mem_singleton.1 hp];exact ho⟩
theorem zZ{cs:Array Value}{y:DataW H × List MemPlace}(h:DataW.trod enc Tryz.prog w base spare held fuel 40 cs.toList=some y):∃ x:ak,Value.agg cs=x.val∧x.ok.holds w (fun b=>b<w.heap.size)∧jM x:=by
 obtain ⟨ds,hlen,ho,hR⟩:=oT 12 fuel 40 _ _ (by kernel_rfl) h
 exact aaG (k:=6) w _ ds cs.toList (fun us=>∃ x:ak,Value.agg us.toArray=x.val∧x.ok.holds w (fun b=>b<w.heap.size)∧jM x) ho (acQ hlen hR) (fun x a b=>⟨x,rfl,a,acb.to (w:=w) (S:=fun b=>b<w.heap.size) b a⟩)
end
end Go.Proofs.YtfkcmbonmpcbfaaGreat

namespace Go.Sy
open Go.RowKit Go.Lp
theorem aby{P:Program}{n:Fr}{env:Env}{ps:List Per}{hp:List Res}{d:Option Tmp}{ty:TypeId}{pos:String}{af:Array Edge}{gd:Option (Nat × Bool)}{x:Operand}{t t':TypeId}{a:Option Addr}(hT:(match P.underlying t with | some (.pointer _)=>true | _=>false)=true)(hx:ev env x=some (true,.pointer a)):Quiet P n ⟨d,.binOp .neq t x (.const (.pointer none)) t',ty,pos,af,gd⟩ ⟨env,ps,hp⟩ (.bool a.isSome):=.run2 hx (y:=.const (.pointer none)) (vy:=.pointer none) rfl fun ρ w h1 h2=>by
 have hu:∃ e,P.underlying t=some (.pointer e):=by
   cases h:P.underlying t with
   | none=>rw [h] at hT;cases hT
   | some dd=>rw [h] at hT;cases dd<;>first | exact ⟨_,rfl⟩ | cases hT
 obtain ⟨e,hu⟩:=hu
 unfold execOp;dsimp only;rw [h1,h2]
 have e1:(do eqGuard BinOp.neq t x (.const (.pointer none)) (Value.pointer a) (Value.pointer none);binOp BinOp.neq t (Value.pointer a) (Value.pointer none))=binOp BinOp.neq t (Value.pointer a) (Value.pointer none):=by cases a<;>rfl
 have e2:(binOp BinOp.neq t (Value.pointer a) (Value.pointer none)).run P w=.ok (.bool a.isSome) w:=by
   have:=run_neq_pointer_nil (P:=P) (w:=w) t a (by rw [hu];unfold Program.pointee;rw [hu])
   rw [this];cases a<;>rfl
 show ((do eqGuard BinOp.neq t x (.const (.pointer none)) (Value.pointer a) (Value.pointer none);binOp BinOp.neq t (Value.pointer a) (Value.pointer none)).bind fun r=>Sem.pure (Next.value r)).run P w=_
 rw [e1,Sem.run_bind',e2];rfl
end Go.Sy

namespace Go.Proofs.YtfkcmbonmpcbfaaGreat
open Go.RowKit Go.Lp Go.Sy Go.Lv Go.Sort
open Go.Proofs.Tryz
attribute [local irreducible] aL aB awp aC fwp Quiet
structure TQ (s:bk) (M:Mem) (k:Nat):Prop where
 ti:TI s M
 fit:∀ j im,s.mods j=some im→gN im
 fm:e7 s.mods k
 ft:e7 s.thr k
theorem TQ.start:TQ fB [] 0 :=
 ⟨⟨⟨cL.nil,fun t m a h=>(by cases h),fun r h=>(by cases h),fun m im h=>(by cases h)⟩,fun t m im h=>(by cases h),fun t b h=>(by cases h)⟩,fun j im h=>(by cases h),n4,n4⟩
theorem TQ.ok{s:bk}{M:Mem}{k:Nat}(h:TQ s M k)(hk:k≤1000):ac7 s 4096 k k:=⟨h.fit,ach h.ti h.ti.blk.ok.few,h.fm,h.ft,h.ti.i64,by omega⟩
theorem TQ.step{ims:List ak}(hi:∀ i,jM (eB ims i)){a:y0}{s:bk}{M:Mem}{k:Nat}(h:TQ s M k){x:bk × Mem}{e:Int}(hd:DoR ims a s M x e):TQ x.1 x.2 (k+1) :=
 have hk:=abh h.ti hd
 ⟨(abi (fun _ _ h1 h2=>mm h1 h2) h.ti hd).1,hk.fit h.fit fun i=>(hi i).f,hk.fewM h.fm,hk.fewT h.ft⟩
end Go.Proofs.YtfkcmbonmpcbfaaGreat

namespace Go.Proofs.YtfkcmbonmpcbfaaGreat
open Go.RowKit Go.Lp Go.Sy Go.Lv Go.Sort
def InS(z:Int)(p:Span):Prop:=p.1≤z∧z<p.1+p.2
theorem ox{x n z:Int}{p:Span}(hn:0<n):(∃ q∈pieces x n p,InS z q)↔InS z p∧(z<x∨x+n≤z):=by
 unfold pieces InS
 constructor
 · rintro ⟨q,hq,h1,h2⟩
   rcases List.mem_append.1 hq with h | h
   · obtain ⟨h3,rfl⟩:=eY.1 h
     dsimp only at h1 h2
     omega
   · obtain ⟨h3,rfl⟩:=eY.1 h
     dsimp only at h1 h2
     omega
 · rintro ⟨⟨h1,h2⟩,h3 | h3⟩
   · exact ⟨(p.1,min (p.1+p.2) x-p.1),List.mem_append_left _ (eY.2 ⟨by omega,rfl⟩),by dsimp only;omega,by dsimp only;omega⟩
   · exact ⟨(max p.1 (x+n),p.1+p.2-max p.1 (x+n)),List.mem_append_right _ (eY.2 ⟨by omega,rfl⟩),by dsimp only;omega,by dsimp only;omega⟩
theorem zK{a:Ar}(h:dK a=true){l:List Span}{z:Int} : (∃ q∈ph a l,InS z q)↔(∃ p∈l,InS z p)∧(z<a.at_-256∨fQ a≤z):=by
 have hu:=fY h
 have hr:=b8.1 h
 unfold ph
 constructor
 · rintro ⟨q,hq,hz⟩
   obtain ⟨p,hp,hqp⟩:=kG.1 hq
   obtain ⟨h1,h2⟩:=(ox (by omega)).1 ⟨q,hqp,hz⟩
   exact ⟨⟨p,hp,h1⟩,by omega⟩
 · rintro ⟨⟨p,hp,h1⟩,h2⟩
   obtain ⟨q,hq,hz⟩:=(ox (x:=a.at_-256) (n:=fQ a-(a.at_-256)) (by omega)).2 ⟨h1,by omega⟩
   exact ⟨q,kG.2 ⟨p,hp,hq⟩,hz⟩
theorem kD{M:Mem}(h:∀ x∈M,dK x.1=true){z:Int} : (∃ q∈dp M,InS z q)↔(512≤z∧z<1099511627776)∧∀ x∈M,z<x.1.at_-256∨fQ x.1≤z:=by
 have key:∀ (M:Mem) (l:List Span),(∀ x∈M,dK x.1=true)→((∃ q∈M.foldl (fun l x=>ph x.1 l) l,InS z q)↔(∃ p∈l,InS z p)∧∀ x∈M,z<x.1.at_-256∨fQ x.1≤z):=by
   intro M
   induction M with
   | nil=>intro l _;simp
   | cons x M ih =>
     intro l hM
     rw [List.foldl_cons,ih _ fun y hy=>hM y (List.mem_cons_of_mem _ hy),zK (hM x List.mem_cons_self)]
     simp only [List.mem_cons,forall_eq_or_imp,and_assoc]
 unfold dp
 rw [key M _ h]
 refine and_congr_left fun _ => ?_
 simp only [List.mem_singleton,exists_eq_left,InS]
 omega
theorem qa{n al u:Int} : ∀ {l:List Span} {a:Int},iL n al 0 u l=(a,true)→∃ p∈l,a=upI (max p.1 0) al∧a+n≤min (p.1+p.2) u
 | [],a,h=>by simp [iL] at h
 | p :: l,a,h=>by
   unfold iL at h
   split at h
   · rename_i hc
     simp only [Prod.mk.injEq,and_true] at h
     exact ⟨p,List.mem_cons_self,h.symm,by rw [← h];exact hc⟩
   · obtain ⟨q,hq,h2⟩:=qa h
     exact ⟨q,List.mem_cons_of_mem _ hq,h2⟩
theorem p9{n u:Int} : ∀ {l:List Span},(∀ p∈l,0≤p.1∧p.1≤1099511627776∧0<p.2)→(l.Pairwise fun p q=>p.1+p.2<q.1)→∀ {p:Span},p∈l→upI (max p.1 0) 256+n≤min (p.1+p.2) u→∃ a,iL n 256 0 u l=(a,true)∧a<p.1+256
 | [],_,_,p,hp,_=>by cases hp
 | q :: l,hr,hg,p,hp,hf=>by
   have hq:=hr q List.mem_cons_self
   have hu := @jS (max q.1 0) (by omega)
   obtain ⟨g1,g2⟩:=List.pairwise_cons.1 hg
   unfold iL
   split
   · refine ⟨_,rfl,?_⟩
     rcases List.mem_cons.1 hp with rfl | hp
     · omega
     · have:=g1 p hp;omega
   · rename_i hc
     rcases List.mem_cons.1 hp with rfl | hp
     · exact absurd hf hc
     · exact p9 (fun x hx=>hr x (List.mem_cons_of_mem _ hx)) g2 hp hf
theorem vf{M:Mem}(hM:dI M){B:Int}(hB:0≤B∧B≤549755813888)(hb:∀ x∈M,x.1.at_+x.1.size≤B){size:Int}(hs:1≤size∧size≤1048576) :
   ∃ a,dD M size=a∧512≤a∧a≤B+2048∧a % 256=0∧a+size≤1099511627776∧∀ x∈M,a+size≤x.1.at_∨x.1.at_+x.1.size≤a:=by
 have hup := @jS (max 1 size) (by omega)
 obtain ⟨hR,_⟩:=ja M fun x hx=>hM.right x hx
 have hend:∀ z,B+1024≤z→z<1099511627776→∃ q∈dp M,InS z q:=fun z h1 h2=>(kD fun x hx=>hM.right x hx).2 ⟨by omega,fun x hx=>.inr (by have:=fY (hM.right x hx);have:=hb x hx;omega)⟩
 obtain ⟨L,hL,hz1,hz2⟩:=hend (B+1024) (Int.le_refl _) (by omega)
 have hLr:=hR.ok L hL
 have hLe:1099511627776≤L.1+L.2:=by
   refine Int.not_lt.1 fun hlt => ?_
   obtain ⟨q,hq,h1,h2⟩:=hend (L.1+L.2) (by omega) hlt
   obtain ⟨i,hi,rfl⟩:=List.getElem_of_mem hL
   obtain ⟨j,hj,rfl⟩:=List.getElem_of_mem hq
   have hg:=List.pairwise_iff_getElem.1 hR.gap
   rcases Nat.lt_trichotomy i j with h | rfl | h
   · have:=hg i j hi hj h;omega
   · omega
   · have:=hg j i hj hi h;omega
 have hLu := @jS (max L.1 0) (by omega)
 obtain ⟨a,ha,hnear⟩:=p9 (n:=upI (max 1 size) 256) (u:=1099511627776) (fun p hp=>by have:=hR.ok p hp;omega) hR.gap hL (by omega)
 have hfm:dD M size=a:=by
   unfold dD
   rw [if_neg (by omega),ha]
 obtain ⟨p,hp,e1,e2⟩:=qa ha
 have hpr:=hR.ok p hp
 have hpu := @jS (max p.1 0) (by omega)
 have hin:∀ z,a≤z→z<a+upI (max 1 size) 256→(512≤z∧z<1099511627776)∧∀ x∈M,z<x.1.at_-256∨fQ x.1≤z:=fun z h1 h2=>(kD fun x hx=>hM.right x hx).1 ⟨p,hp,by omega,by omega⟩
 have h0:=(hin a (Int.le_refl _) (by omega)).1
 refine ⟨a,hfm,h0.1,by omega,by omega,by omega,fun x hx => ?_⟩
 have hxr:=b8.1 (hM.right x hx)
 have hxu:=fY (hM.right x hx)
 rcases (hin a (Int.le_refl _) (by omega)).2 x hx with h | h
 · refine .inl (Int.not_lt.1 fun hlt => ?_)
   rcases (hin (x.1.at_-256) (by omega) (by omega)).2 x hx with k | k
   · omega
   · omega
 · exact .inr (by omega)
theorem aag{M:Mem}(hM:cL M)(hl:M.length<4096){a:Ar}(ha:512≤a.at_∧a.at_ % 256=0∧a.at_+a.size≤1099511627776)(hs:1≤a.size∧a.size≤1048576)(hk:0≤a.kind∧a.kind<5)(hd:∀ x∈M,a.at_+a.size≤x.1.at_∨x.1.at_+x.1.size≤a.at_):(mapM M a).2=0:=by
 have hr:dK a=true:=b8.2 (by omega)
 have hm:¬ M.any (meets a)=true:=fun h=>by
   obtain ⟨x,hx,hh⟩:=List.any_eq_true.1 h
   simp only [meets,Bool.and_eq_true,decide_eq_true_eq] at hh
   have:=hd x hx
   omega
 unfold mapM
 rw [if_neg (by rw [hr];decide),if_neg hm,if_neg (by omega)]
end Go.Proofs.YtfkcmbonmpcbfaaGreat

