/- Parts of the proof, in build order. No condition. -/
import Derived.Test.YtfkcmbonmpcbfaaGreatTb06
set_option linter.unusedSimpArgs false
set_option linter.unusedVariables false
set_option maxHeartbeats 1000000
set_option maxRecDepth 20000
namespace Go.Lv
open Go.Sy
abbrev BS:=List Int × List Int
def dr(N:Nat)(s:BS)(v:Int):BS:=if 0≤v∧v<N then (s.1.set v.toNat v,s.2++[v]) else s
def cS(N:Nat)(rs:List Int):BS:=rs.foldl (dr N) (List.replicate N (-1),[])
def visit(u:Int)(s:BS)(x:Int):BS:=if elt s.1 x<0 then (s.1.set x.toNat u,s.2++[x]) else s
def mZ(out:List (List Int))(s:BS)(k:Nat):BS:=match s.2[k]? with
 | none=>s
 | some u=>(elt out u).foldl (visit u) s
def bfs(out:List (List Int))(s:BS):Nat→BS
 | 0=>s
 | k+1=>mZ out (bfs out s k) k
def aam(b:List Int):Nat:=b.countP (fun z=>decide (z<0))
theorem du{b:List Int}{x y u:Int}(h0:0≤x)(h1:x<b.length)(hy:0≤y):elt (b.set x.toNat u) y=if x=y then u else elt b y:=by
 unfold elt
 rw [List.getD_eq_getElem?_getD,List.getD_eq_getElem?_getD,List.getElem?_set]
 have hx:x.toNat<b.length:=by omega
 by_cases h:x=y
 · subst h;rw [if_pos rfl,if_pos hx,if_pos rfl];rfl
 · rw [if_neg (by omega),if_neg h]
theorem aan{b:List Int}{x u:Int}(h0:0≤x)(h1:x<b.length)(hx:elt b x<0)(hu:0≤u):aam (b.set x.toNat u)+1=aam b:=by
 have hlt:x.toNat<b.length:=by omega
 have e:b[x.toNat]<0:=by unfold elt at hx;rw [List.getD_eq_getElem?_getD,List.getElem?_eq_getElem hlt] at hx;exact hx
 unfold aam
 have hm:b[x.toNat]∈b:=List.getElem_mem hlt
 have hpos:0<b.countP (fun z=>decide (z<0)):=List.countP_pos_iff.2 ⟨_,hm,by simpa using e⟩
 rw [List.countP_set hlt]
 rw [if_pos (by simpa using e),if_neg (by simpa using hu)]
 omega
structure BI (N M:Nat) (s:BS):Prop where
 len:s.1.length=N
 mem:∀ x∈s.2,0≤x∧x<N
 cnt:s.2.length+aam s.1≤M
theorem BI.le{N M:Nat}{s:BS}(h:BI N M s):s.2.length≤M:=by have:=h.cnt;omega
theorem rJ{N:Nat}{s:BS}{v:Int} : (dr N s v).1.length=s.1.length∧(dr N s v).2.length≤s.2.length+1:=by
 unfold dr;split<;>simp
theorem ir(N:Nat)(rs:List Int):(cS N rs).1.length=N∧(cS N rs).2.length≤rs.length:=by
 have:∀ (rs:List Int) (s:BS),(rs.foldl (dr N) s).1.length=s.1.length∧(rs.foldl (dr N) s).2.length≤s.2.length+rs.length:=by
   intro rs
   induction rs with
   | nil=>intro s;exact ⟨rfl,Nat.le_refl _⟩
   | cons v rs ih=>intro s;obtain ⟨h1,h2⟩:=ih (dr N s v);obtain ⟨h3,h4⟩:=rJ (N:=N) (s:=s) (v:=v);rw [List.foldl_cons,List.length_cons];exact ⟨by rw [h1,h3],by omega⟩
 have:=this rs (List.replicate N (-1),[])
 unfold cS;simpa using this
theorem um(N:Nat)(rs:List Int):∀ x∈(cS N rs).2,(0≤x∧x<N)∧x∈rs:=by
 have:∀ (rs rs0:List Int) (s:BS),(∀ x∈s.2,(0≤x∧x<(N:Int))∧x∈rs0)→∀ x∈(rs.foldl (dr N) s).2,(0≤x∧x<(N:Int))∧(x∈rs0∨x∈rs):=by
   intro rs
   induction rs with
   | nil=>intro rs0 s h x hx;exact ⟨(h x hx).1,.inl (h x hx).2⟩
   | cons v rs ih =>
     intro rs0 s h x hx
     rw [List.foldl_cons] at hx
     have:=ih (rs0++[v]) (dr N s v) (fun y hy=>by
       unfold dr at hy
       split at hy
       · rename_i hv
         rcases List.mem_append.1 hy with h1 | h1
         · exact ⟨(h y h1).1,List.mem_append_left _ (h y h1).2⟩
         · rw [List.mem_singleton.1 h1];exact ⟨hv,by simp⟩
       · exact ⟨(h y hy).1,List.mem_append_left _ (h y hy).2⟩) x hx
     refine ⟨this.1,?_⟩
     rcases this.2 with h1 | h1
     · rcases List.mem_append.1 h1 with h2 | h2
       · exact .inl h2
       · rw [List.mem_singleton.1 h2];exact .inr List.mem_cons_self
     · exact .inr (List.mem_cons_of_mem _ h1)
 intro x hx
 have:=this rs [] _ (fun _ h=>by cases h) x hx
 exact ⟨this.1,this.2.elim (fun h=>by cases h) id⟩
theorem sd(N:Nat)(rs:List Int){k:Nat}{v:Int}(h:rs[k]? = some v):cS N (rs.take (k+1))=dr N (cS N (rs.take k)) v:=by
 unfold cS;rw [List.take_add_one,h,List.foldl_append];rfl
theorem jt(N:Nat)(rs:List Int):BI N (rs.length+N) (cS N rs) where
 len:=(ir N rs).1
 mem x hx:=(um N rs x hx).1
 cnt:=by
   have h1:=ir N rs
   have h2:aam (cS N rs).1≤(cS N rs).1.length:=List.countP_le_length
   omega
theorem aa1{N M:Nat}{s:BS}{u x:Int}(h:BI N M s)(hu:0≤u)(hx:0≤x∧x<N):BI N M (visit u s x):=by
 unfold visit
 split
 · rename_i h0
   have hn:=aan hx.1 (by rw [h.len];exact hx.2) h0 hu
   refine ⟨by simpa using h.len,fun y hy => ?_,?_⟩
   · rcases List.mem_append.1 hy with h1 | h1
     · exact h.mem y h1
     · rw [List.mem_singleton.1 h1];exact hx
   · have:=h.cnt
     rw [List.length_append,List.length_singleton];dsimp only;omega
 · exact h
theorem qB{s:BS}{u x:Int} : s.2 <+: (visit u s x).2:=by
 unfold visit;split
 · exact List.prefix_append _ _
 · exact List.prefix_refl _
theorem lT{N M:Nat}{u:Int}(hu:0≤u):∀ (l:List Int) (s:BS),BI N M s→(∀ x∈l,0≤x∧x<N)→BI N M (l.foldl (visit u) s)
 | [],_,h,_=>h
 | x::l,s,h,hl=>lT hu l _ (aa1 h hu (hl x List.mem_cons_self)) fun y hy=>hl y (List.mem_cons_of_mem _ hy)
theorem iJ{u:Int} : ∀ (l:List Int) (s:BS),s.2 <+: (l.foldl (visit u) s).2
 | [],_=>List.prefix_refl _
 | x::l,s=>List.IsPrefix.trans qB (iJ l (visit u s x))
theorem uc{u:Int}(l:List Int)(s:BS){k:Nat}{v:Int}(h:l[k]? = some v):(l.take (k+1)).foldl (visit u) s=visit u ((l.take k).foldl (visit u) s) v:=by
 rw [List.take_add_one,h,List.foldl_append];rfl
theorem rC{l l':List Int}(h:l <+: l'){k:Nat}{u:Int}(hk:l[k]? = some u):l'[k]? = some u:=by
 obtain ⟨t,rfl⟩:=h
 rw [List.getElem?_append_left (List.getElem?_eq_some_iff.1 hk).1];exact hk
def jN(N:Nat)(out:List (List Int)):Prop:=∀ u:Int,∀ x∈elt out u,0≤x∧x<N
theorem mW{N M:Nat}{out:List (List Int)}{s:BS}(ho:jN N out)(h:BI N M s):∀ k,BI N M (bfs out s k)
 | 0=>h
 | k + 1=>by
   have ih:=mW ho h k
   unfold bfs mZ
   split
   · exact ih
   · rename_i u hu
     exact lT (ih.mem u (List.mem_of_getElem? hu)).1 _ _ ih (ho u)
theorem mX{out:List (List Int)}{s:BS}{k:Nat}(h:(bfs out s k).2.length≤k):∀ j,bfs out s (k+j)=bfs out s k
 | 0=>rfl
 | j+1=>by
   have ih:=mX h j
   show mZ out (bfs out s (k+j)) (k+j)=_
   rw [ih]
   unfold mZ
   rw [List.getElem?_eq_none (by omega)]
def iH(N:Nat)(out:List (List Int))(rs:List Int):List Int:=(bfs out (cS N rs) (rs.length+N)).1
theorem vQ{N:Nat}{out:List (List Int)}{rs:List Int}{k:Nat}(ho:jN N out)(hk:k=(bfs out (cS N rs) k).2.length):(bfs out (cS N rs) k).1=iH N out rs:=by
 have hle:=(mW ho (jt N rs) k).le
 obtain ⟨j,hj⟩:∃ j,rs.length+N=k+j:=⟨rs.length+N-k,by omega⟩
 unfold iH
 rw [hj,mX (by omega)]
structure TS where
 idx:List Int
 low:List Int
 stk:List Int
 part:List Int
 np:Nat
 calls:List (Int × Int)
 cnt:Int
structure TI (N:Nat) (nx:List (List Int)) (r:Int) (s:TS):Prop where
 li:s.idx.length=N
 ll:s.low.length=N
 lp:s.part.length=N
 cn:s.cnt=(s.idx.countP (fun z=>decide (z≠0)):Nat)
 ile:∀ v:Int,0≤v→v<N→0≤elt s.idx v∧elt s.idx v≤s.cnt
 stk:∀ v:Int,v∈s.stk↔(0≤v∧v<N)∧elt s.idx v≠0∧elt s.part v=0
 nd:s.stk.Nodup
 pr:∀ v:Int,0≤v→v<N→0≤elt s.part v∧elt s.part v≤s.np∧(elt s.idx v=0→elt s.part v=0)
 sub:(s.calls.map (·.1)).Sublist s.stk
 ci:∀ c∈s.calls,0≤c.2∧c.2≤(elt nx c.1).length
 top:s.calls≠[]→(s.calls.map (·.1)).head? = some r∧s.stk.head? = some r
 low':∀ v∈s.stk,elt s.idx r≤elt s.low v∧elt s.idx r≤elt s.idx v
 lr:s.calls≠[]→elt s.low r=elt s.idx r
def cq(s:TS)(w:Int):TS := { s with idx:=s.idx.set w.toNat (s.cnt+1),low:=s.low.set w.toNat (s.cnt+1),stk:=s.stk++[w],calls:=s.calls++[(w,0)],cnt:=s.cnt+1 }
section
variable {N:Nat} {nx:List (List Int)} {r:Int} {s:TS}
theorem TI.any(h:TI N nx r s)(h1:s.calls=[])(h2:s.stk=[])(q:Int):TI N nx q s :=
 ⟨h.li,h.ll,h.lp,h.cn,h.ile,h.stk,h.nd,h.pr,h.sub,h.ci,fun h=>absurd h1 h,fun v hv=>(by rw [h2] at hv;cases hv),fun h=>absurd h1 h⟩
theorem uU{l:List Int}{i:Nat}{u:Int}(hi:i<l.length)(h0:l[i]=0)(hu:u≠0):(l.set i u).countP (fun z=>decide (z≠0))=l.countP (fun z=>decide (z≠0))+1:=by
 rw [List.countP_set hi,h0];simp [hu]
theorem abo{l:List Int}{v:Int}(h0:0≤v)(h1:v<l.length):l[v.toNat]'(by omega)=elt l v:=by
 unfold elt;rw [List.getD_eq_getElem?_getD,List.getElem?_eq_getElem (by omega)];rfl
theorem TI.cnt0(h:TI N nx r s):0≤s.cnt∧s.cnt≤N:=by
 have h1:=h.cn
 have h2:s.idx.countP (fun z=>decide (z≠0))≤s.idx.length:=List.countP_le_length
 have:=h.li
 omega
theorem TI.enter(h:TI N nx r s){w:Int}(hw:0≤w∧w<N)(h0:elt s.idx w=0)(hc:s.calls≠[]∨(s.stk=[]∧w=r)):TI N nx r (cq s w):=by
 have hli:=h.li
 have hll:=h.ll
 have hc0:=h.cnt0
 have eI:∀ v,0≤v→elt (cq s w).idx v=if w=v then s.cnt+1 else elt s.idx v:=fun v hv=>du hw.1 (by omega) hv
 have eL:∀ v,0≤v→elt (cq s w).low v=if w=v then s.cnt+1 else elt s.low v:=fun v hv=>du hw.1 (by omega) hv
 have hws:w ∉ s.stk:=fun hm=>((h.stk w).1 hm).2.1 h0
 have hr0:s.calls≠[]→0≤r∧r∈s.stk∧w≠r:=fun hne=>by
   have hm:r∈s.stk:=List.mem_of_mem_head? (by rw [(h.top hne).2];rfl)
   exact ⟨((h.stk r).1 hm).1.1,hm,fun e=>hws (e ▸ hm)⟩
 refine ⟨?_,?_,h.lp,?_,?_,?_,?_,?_,?_,?_,?_,?_,?_⟩
 · show (s.idx.set _ _).length=N;rw [List.length_set];exact hli
 · show (s.low.set _ _).length=N;rw [List.length_set];exact hll
 · show s.cnt+1=((s.idx.set _ _).countP _:Nat)
   rw [uU (by omega) ((abo hw.1 (by omega)).trans h0) (by omega),h.cn];rfl
 · intro v hv hvN
   rw [eI v hv]
   have:=h.ile v hv hvN
   show _∧_≤s.cnt+1
   split<;>omega
 · intro v
   show v∈s.stk++[w]↔_∧_∧elt s.part v=0
   rw [List.mem_append,List.mem_singleton,h.stk v]
   by_cases hwv:w=v
   · subst hwv
     rw [eI _ hw.1,if_pos rfl]
     have:=(h.pr w hw.1 hw.2).2.2 h0
     exact ⟨fun _=>⟨hw,by omega,this⟩,fun _=>.inr rfl⟩
   · constructor
     · rintro (⟨h1,h2,h3⟩ | h1)
       · exact ⟨h1,by rw [eI _ h1.1,if_neg hwv];exact h2,h3⟩
       · exact absurd h1.symm hwv
     · rintro ⟨h1,h2,h3⟩
       rw [eI _ h1.1,if_neg hwv] at h2
       exact .inl ⟨h1,h2,h3⟩
 · show (s.stk++[w]).Nodup
   rw [List.nodup_append]
   exact ⟨h.nd,by simp,fun a ha b hb=>by rw [List.mem_singleton.1 hb];exact fun e=>hws (e ▸ ha)⟩
 · intro v hv hvN
   have:=h.pr v hv hvN
   refine ⟨this.1,this.2.1,fun he=>this.2.2 ?_⟩
   rw [eI v hv] at he
   split at he
   · omega
   · exact he
 · show (List.map (fun c:Int × Int=>c.1) (s.calls++[(w,(0:Int))])).Sublist (s.stk++[w])
   rw [List.map_append]
   exact h.sub.append (List.Sublist.refl _)
 · intro c hc2
   rcases List.mem_append.1 hc2 with h1 | h1
   · exact h.ci c h1
   · rw [List.mem_singleton.1 h1];exact ⟨Int.le_refl _,Int.natCast_nonneg _⟩
 · intro _
   show (List.map (fun c:Int × Int=>c.1) (s.calls++[(w,(0:Int))])).head? = some r∧(s.stk++[w]).head? = some r
   rcases hc with hne | ⟨h1,h2⟩
   · obtain ⟨t1,t2⟩:=h.top hne
     rw [List.map_append,List.head?_append,List.head?_append,t1,t2];exact ⟨rfl,rfl⟩
   · have hce:s.calls=[]:=by
       have:=h.sub
       rw [h1] at this
       exact List.map_eq_nil_iff.1 (List.eq_nil_of_sublist_nil this)
     rw [hce,h1,h2];exact ⟨rfl,rfl⟩
 · intro v hv
   have hv2:v∈s.stk++[w]:=hv
   rcases hc with hne | ⟨h1,h2⟩
   · obtain ⟨hr,hrm,hwr⟩:=hr0 hne
     rw [eI r hr,if_neg hwr]
     have hrc:=h.ile r hr ((h.stk r).1 hrm).1.2
     rcases List.mem_append.1 hv2 with h1 | h1
     · have hv0:=((h.stk v).1 h1).1.1
       have hvw:w≠v:=fun e=>hws (e ▸ h1)
       rw [eL v hv0,eI v hv0,if_neg hvw,if_neg hvw]
       exact h.low' v h1
     · rw [List.mem_singleton.1 h1,eL w hw.1,eI w hw.1,if_pos rfl,if_pos rfl]
       exact ⟨by omega,by omega⟩
   · rw [h1,List.nil_append] at hv2
     rw [List.mem_singleton.1 hv2,← h2,eI w hw.1,eL w hw.1,if_pos rfl,if_pos rfl]
     exact ⟨Int.le_refl _,Int.le_refl _⟩
 · intro _
   rcases hc with hne | ⟨_,h2⟩
   · obtain ⟨hr,_,hwr⟩:=hr0 hne
     rw [eL r hr,eI r hr,if_neg hwr,if_neg hwr]
     exact h.lr hne
   · rw [← h2,eL w hw.1,eI w hw.1,if_pos rfl,if_pos rfl]
theorem TI.adv(h:TI N nx r s){cs:List (Int × Int)}{v i:Int}(hc:s.calls=cs++[(v,i)])(hi:i<(elt nx v).length):TI N nx r { s with calls:=cs++[(v,i+1)] } := by
 have e:(cs++[(v,i+1)]).map (·.1)=s.calls.map (·.1):=by rw [hc];simp
 have hne:s.calls≠[]:=by rw [hc];simp
 refine ⟨h.li,h.ll,h.lp,h.cn,h.ile,h.stk,h.nd,h.pr,?_,?_,?_,h.low',fun _=>h.lr hne⟩
 · show ((cs++[(v,i+1)]).map (·.1)).Sublist s.stk;rw [e];exact h.sub
 · intro c hc2
   rcases List.mem_append.1 hc2 with h1 | h1
   · exact h.ci c (by rw [hc];exact List.mem_append_left _ h1)
   · rw [List.mem_singleton.1 h1]
     have:=h.ci (v,i) (by rw [hc];simp)
     dsimp only at this ⊢;omega
 · intro _
   show ((cs++[(v,i+1)]).map (·.1)).head? = some r∧_
   rw [e];exact h.top hne
theorem TI.lower(h:TI N nx r s){v u:Int}(hv:v∈s.stk)(hu:elt s.idx r≤u):TI N nx r { s with low:=s.low.set v.toNat (min (elt s.low v) u) } := by
 have hvr:=((h.stk v).1 hv).1
 have hll:=h.ll
 have eL:∀ x,0≤x→elt (s.low.set v.toNat (min (elt s.low v) u)) x=if v=x then min (elt s.low v) u else elt s.low x:=fun x hx=>du hvr.1 (by omega) hx
 have hlv:=(h.low' v hv).1
 refine ⟨h.li,by show (s.low.set _ _).length=N;rw [List.length_set];exact hll,h.lp,h.cn,h.ile,h.stk,h.nd,h.pr,h.sub,h.ci,h.top,?_,?_⟩
 · intro x hx
   have hx0:=((h.stk x).1 hx).1.1
   show elt s.idx r≤elt (s.low.set _ _) x∧_
   rw [eL x hx0]
   refine ⟨?_,(h.low' x hx).2⟩
   split
   · omega
   · exact (h.low' x hx).1
 · intro hne
   have hrm:r∈s.stk:=List.mem_of_mem_head? (by rw [(h.top hne).2];rfl)
   show elt (s.low.set _ _) r=elt s.idx r
   rw [eL r ((h.stk r).1 hrm).1.1]
   have:=h.lr hne
   split
   · rename_i e;subst e;omega
   · exact this
theorem TI.pop(h:TI N nx r s){cs:List (Int × Int)}{v i:Int}(hc:s.calls=cs++[(v,i)]):TI N nx r { s with calls:=cs } ∧ v∈s.stk∧(cs=[]→v=r∧elt s.low v=elt s.idx v):=by
 have hne:s.calls≠[]:=by rw [hc];simp
 have hsub:(cs.map (·.1)++[v]).Sublist s.stk:=by have:=h.sub;rw [hc,List.map_append] at this;exact this
 refine ⟨⟨h.li,h.ll,h.lp,h.cn,h.ile,h.stk,h.nd,h.pr,(List.sublist_append_left _ _).trans hsub,fun c hc2=>h.ci c (by rw [hc];exact List.mem_append_left _ hc2),fun hcs => ?_,h.low',fun _=>h.lr hne⟩,hsub.subset (by simp),fun he => ?_⟩
 · have ht:=h.top hne
   rw [hc,List.map_append] at ht
   show (cs.map (·.1)).head? = some r∧_
   cases cs with
   | nil=>exact absurd rfl hcs
   | cons c cs=>exact ⟨ht.1,ht.2⟩
 · have ht:=(h.top hne).1
   rw [hc,he] at ht
   have hv:v=r:=by simpa using ht
   refine ⟨hv,?_⟩
   rw [hv];exact h.lr hne
theorem yT{cs A B:List Int}{v:Int}(hs:(cs++[v]).Sublist (A++v::B))(hn:(A++v::B).Nodup):cs.Sublist A:=by
 obtain ⟨l1,l2,e,h1,h2⟩:=List.append_sublist_iff.1 hs
 have hv2:v∈l2:=h2.subset (by simp)
 -- v is not in A,so l1 is a beginning of A
 have hvA:v ∉ A:=fun h=>by
   rw [List.nodup_append] at hn
   exact hn.2.2 v h v (by simp) rfl
 by_cases hl:l1.length≤A.length
 · have:l1=A.take l1.length:=by
     have h3:=congrArg (List.take l1.length) e
     rw [List.take_append_of_le_length hl,List.take_append_of_le_length (Nat.le_refl _),List.take_length] at h3
     exact h3.symm
   rw [this] at h1
   exact h1.trans (List.take_sublist _ _)
 · exfalso
   have hv1:v∈l1:=by
     have h3:l1[A.length]? = some v:=by
       have h4:(l1++l2)[A.length]? = some v:=by rw [← e];simp
       rw [List.getElem?_append_left (by omega)] at h4;exact h4
     exact List.mem_of_getElem? h3
   rw [e,List.nodup_append] at hn
   exact hn.2.2 v hv1 v hv2 rfl
def b9(l:List Int)(u:Int)(p:List Int):List Int:=p.foldl (fun b w=>b.set w.toNat u) l
theorem oG(u:Int)(p:List Int):∀ l:List Int,(b9 l u p).length=l.length:=by
 induction p with
 | nil=>intro l;rfl
 | cons w p ih=>intro l;show (b9 _ u p).length=_;rw [ih,List.length_set]
theorem iA{u:Int}(p:List Int):∀ (l:List Int),(∀ w∈p,0≤w∧w<l.length)→∀ x,0≤x→elt (b9 l u p) x=if x∈p then u else elt l x:=by
 induction p with
 | nil=>intro l _ x _;simp [b9]
 | cons w p ih =>
   intro l hl x hx
   have hw:=hl w List.mem_cons_self
   show elt (b9 (l.set w.toNat u) u p) x=_
   rw [ih _ (fun y hy=>by rw [List.length_set];exact hl y (List.mem_cons_of_mem _ hy)) x hx]
   by_cases hxp:x∈p
   · rw [if_pos hxp,if_pos (List.mem_cons_of_mem _ hxp)]
   · rw [if_neg hxp,du hw.1 hw.2 hx]
     by_cases e:w=x
     · rw [if_pos e,if_pos (by rw [e];exact List.mem_cons_self)]
     · rw [if_neg e,if_neg (fun h=>(List.mem_cons.1 h).elim (fun h=>e h.symm) hxp)]
theorem TI.close(h:TI N nx r s){A B p:List Int}{v:Int}(hs:s.stk=A++v::B)(hsub:(s.calls.map (·.1)++[v]).Sublist s.stk)(hp:∀ x,x∈p↔x∈v::B) :
   TI N nx r { s with stk:=A,part:=b9 s.part ((s.np:Int)+1) p,np:=s.np+1 } ∧ (v=r→s.calls=[]→s.stk.head? = some r→A=[]):=by
 have hnd:=h.nd
 rw [hs] at hnd
 have hlp:=h.lp
 have hpr:∀ w∈p,0≤w∧w<s.part.length:=fun w hw=>by
   have:=((h.stk w).1 (by rw [hs];exact List.mem_append_right _ ((hp w).1 hw))).1
   rw [hlp];exact this
 have eP:∀ x,0≤x→elt (b9 s.part ((s.np:Int)+1) p) x=if x∈p then (s.np:Int)+1 else elt s.part x:=iA p s.part hpr
 have hA:∀ x,x∈A↔x∈s.stk∧x ∉ p:=fun x=>by
   rw [hs,hp,List.mem_append]
   rw [List.nodup_append] at hnd
   exact ⟨fun hx=>⟨.inl hx,fun h2=>hnd.2.2 x hx x h2 rfl⟩,fun ⟨h1,h2⟩=>h1.resolve_right h2⟩
 have hsubA:(s.calls.map (·.1)).Sublist A:=yT (by rw [← hs];exact hsub) hnd
 refine ⟨⟨h.li,h.ll,by show (b9 _ _ _).length=N;rw [oG];exact hlp,h.cn,h.ile,?_,?_,?_,hsubA,h.ci,?_,?_,h.lr⟩,?_⟩
 · intro x
   show x∈A↔_∧_∧elt (b9 _ _ _) x=0
   rw [hA,h.stk x]
   constructor
   · rintro ⟨⟨h1,h2,h3⟩,h4⟩;exact ⟨h1,h2,by rw [eP x h1.1,if_neg h4];exact h3⟩
   · rintro ⟨h1,h2,h3⟩
     rw [eP x h1.1] at h3
     split at h3
     · omega
     · rename_i h4;exact ⟨⟨h1,h2,h3⟩,h4⟩
 · rw [List.nodup_append] at hnd;exact hnd.1
 · intro x hx hxN
   show 0≤elt (b9 _ _ _) x∧elt (b9 _ _ _) x≤((s.np+1:Nat):Int)∧(_→elt (b9 _ _ _) x=0)
   rw [eP x hx]
   have:=h.pr x hx hxN
   split
   · rename_i h4
     refine ⟨by omega,by omega,fun h0 => ?_⟩
     have:=((h.stk x).1 (by rw [hs];exact List.mem_append_right _ ((hp x).1 h4))).2.1
     exact absurd h0 this
   · exact ⟨this.1,by omega,this.2.2⟩
 · intro hne
   have ht:=h.top hne
   refine ⟨ht.1,?_⟩
   show A.head? = some r
   have h2:=ht.2
   rw [hs] at h2
   cases A with
   | nil =>
     have:=List.eq_nil_of_sublist_nil hsubA
     exact absurd (List.map_eq_nil_iff.1 this) hne
   | cons a A=>exact h2
 · intro x hx;exact h.low' x ((hA x).1 hx).1
 · intro hv _ hhd
   rw [hs] at hhd
   cases A with
   | nil=>rfl
   | cons a A =>
     exfalso
     have:a=r:=by simpa using hhd
     rw [List.nodup_append] at hnd
     exact hnd.2.2 a List.mem_cons_self v List.mem_cons_self (this.trans hv.symm)
def tmu(N:Nat)(nx:List (List Int))(s:TS):Nat:=((List.range N).map fun v:Nat=>if elt s.idx (v:Int)=0 then (elt nx (v:Int)).length+2 else 0).sum+(s.calls.map fun c=>(elt nx c.1).length-c.2.toNat+1).sum
theorem wT{f g:Nat→Nat}{w:Nat} : ∀ l:List Nat,l.Nodup→w∈l→(∀ x∈l,x≠w→f x=g x)→g w=0→(l.map g).sum+f w=(l.map f).sum
 | [],_,h,_,_=>by cases h
 | a :: l,hn,hw,hf,h0=>by
   rw [List.nodup_cons] at hn
   rw [List.map_cons,List.map_cons,List.sum_cons,List.sum_cons]
   by_cases ha:a=w
   · subst ha
     have:l.map g=l.map f:=List.map_congr_left fun x hx=>(hf x (List.mem_cons_of_mem _ hx) fun e=>hn.1 (e ▸ hx)).symm
     rw [this,h0];omega
   · have h1:=wT l hn.2 ((List.mem_cons.1 hw).resolve_left fun e=>ha e.symm) (fun x hx=>hf x (List.mem_cons_of_mem _ hx)) h0
     rw [hf a List.mem_cons_self ha];omega
theorem yY(h:TI N nx r s){w:Int}(hw:0≤w∧w<N)(h0:elt s.idx w=0):tmu N nx (cq s w)+1=tmu N nx s:=by
 have hli:=h.li
 have hc0:=h.cnt0
 have eI:∀ v,0≤v→elt (cq s w).idx v=if w=v then s.cnt+1 else elt s.idx v:=fun v hv=>du hw.1 (by omega) hv
 unfold tmu
 have h1:=wT (f:=fun v:Nat=>if elt s.idx (v:Int)=0 then (elt nx (v:Int)).length+2 else 0) (g:=fun v:Nat=>if elt (cq s w).idx (v:Int)=0 then (elt nx (v:Int)).length+2 else 0) (w:=w.toNat) (List.range N) List.nodup_range (List.mem_range.2 (by omega)) (fun x _ hx=>by
   have e:elt (cq s w).idx (x:Int)=elt s.idx (x:Int):=by rw [eI _ (Int.natCast_nonneg x),if_neg (by omega)]
   rw [e]) (by
   have e:elt (cq s w).idx (w.toNat:Int)=s.cnt+1:=by rw [eI _ (Int.natCast_nonneg _),if_pos (by omega)]
   rw [e,if_neg (by omega)])
 rw [Int.toNat_of_nonneg hw.1,if_pos h0] at h1
 rw [show (cq s w).calls=s.calls++[(w,0)] from rfl,List.map_append,List.sum_append]
 simp only [List.map_cons,List.map_nil,List.sum_cons,List.sum_nil]
 simp
 omega
theorem abP{cs:List (Int × Int)}{v i:Int}(hc:s.calls=cs++[(v,i)])(h0:0≤i)(hi:i<(elt nx v).length):tmu N nx { s with calls:=cs++[(v,i+1)] } + 1=tmu N nx s:=by
 unfold tmu
 rw [hc,List.map_append,List.map_append,List.sum_append,List.sum_append]
 simp only [List.map_cons,List.map_nil,List.sum_cons,List.sum_nil]
 omega
theorem abQ{cs:List (Int × Int)}{v i:Int}(hc:s.calls=cs++[(v,i)]):tmu N nx { s with calls:=cs } + 1≤tmu N nx s:=by
 unfold tmu
 rw [hc,List.map_append,List.sum_append]
 simp only [List.map_cons,List.map_nil,List.sum_cons,List.sum_nil]
 omega
end
def oR(us:List (List Int))(p:Int):Nat:=((List.range us.length).map fun q:Nat=>(elt us (q:Int)).count p).sum
def dnU(us:List (List Int))(D:List Int)(p:Int):Nat:=(D.map fun q=>(elt us q).count p).sum
theorem cX(f:Nat→Nat):∀ (D R:List Nat),D.Nodup→(∀ q∈D,q∈R)→(D.map f).sum≤(R.map f).sum
 | [],_,_,_=>Nat.zero_le _
 | q :: D,R,hn,hs=>by
   rw [List.nodup_cons] at hn
   have hq:=hs q List.mem_cons_self
   have h1:=cX f D (R.erase q) hn.2 (fun x hx=>(List.mem_erase_of_ne (a:=x) (b:=q) (fun e=>hn.1 (by rw [← e];exact hx))).2 (hs x (List.mem_cons_of_mem _ hx)))
   have h2:(R.map f).sum=f q+((R.erase q).map f).sum:=by
     have:=(List.perm_cons_erase hq).map f
     rw [this.sum_nat];simp
   rw [List.map_cons,List.sum_cons,h2];omega
theorem dG{D:List Int}(hn:D.Nodup)(h0:∀ q∈D,0≤q):(D.map Int.toNat).Nodup:=by
 induction D with
 | nil=>simp
 | cons q D ih =>
   rw [List.nodup_cons] at hn
   rw [List.map_cons,List.nodup_cons]
   refine ⟨fun hm => ?_,ih hn.2 fun x hx=>h0 x (List.mem_cons_of_mem _ hx)⟩
   obtain ⟨x,hx,e⟩:=List.mem_map.1 hm
   have h1:=h0 x (List.mem_cons_of_mem _ hx)
   have h2:=h0 q List.mem_cons_self
   have:x=q:=by omega
   exact hn.1 (this ▸ hx)
theorem pY{us:List (List Int)}{D:List Int}{p:Int}(hn:D.Nodup)(hr:∀ q∈D,0≤q∧q<us.length):dnU us D p≤oR us p:=by
 have h:=cX (fun q:Nat=>(elt us (q:Int)).count p) (D.map Int.toNat) (List.range us.length) (dG hn fun q hq=>(hr q hq).1) (fun q hq=>by
   obtain ⟨x,hx,e⟩:=List.mem_map.1 hq
   have:=hr x hx
   exact List.mem_range.2 (by omega))
 have e:dnU us D p=((D.map Int.toNat).map fun q:Nat=>(elt us (q:Int)).count p).sum:=by
   unfold dnU
   rw [List.map_map]
   refine congrArg List.sum (List.map_congr_left fun q hq => ?_)
   show _=(elt us ((q.toNat:Nat):Int)).count p
   rw [Int.toNat_of_nonneg (hr q hq).1]
 unfold oR;rw [e];exact h
structure KI (M:Nat) (us:List (List Int)) (w:List Int) (D H:List Int) (seen:List Int):Prop where
 lw:w.length=M+1
 lu:us.length=M+1
 ur:∀ q:Nat,∀ p∈elt us (q:Int),1≤p∧p≤M
 nd:(D++H).Nodup
 rg:∀ p∈D++H,1≤p∧p≤M
 wt:∀ p:Int,1≤p→p≤M→elt w p=oR us p-dnU us D p-seen.count p
 zr:∀ p:Int,1≤p→p≤M→(p∈D++H↔elt w p=0)
section
variable {M:Nat} {us:List (List Int)} {w D H:List Int}
theorem KI.len(h:KI M us w D H []):D.length≤M:=by
 have hn:D.Nodup:=by have:=h.nd;rw [List.nodup_append] at this;exact this.1
 have hr:∀ q∈D,1≤q∧q≤M:=fun q hq=>h.rg q (List.mem_append_left _ hq)
 have h1:=cX (fun _=>1) (D.map Int.toNat) (List.range' 1 M) (dG hn fun q hq=>by have:=hr q hq;omega) (fun q hq=>by
   obtain ⟨x,hx,e⟩:=List.mem_map.1 hq
   have:=hr x hx
   exact List.mem_range'_1.2 (by omega))
 have e:∀ l:List Nat,(l.map fun _=>1).sum=l.length:=fun l=>by induction l with
   | nil=>rfl
   | cons a l ih=>rw [List.map_cons,List.sum_cons,ih,List.length_cons];omega
 rw [e,e,List.length_map,List.length_range'] at h1
 exact h1
theorem KI.perm(h:KI M us w D H []){H':List Int}(hp:H'.Perm H):KI M us w D H' [] :=
 ⟨h.lw,h.lu,h.ur,(hp.append_left D).nodup_iff.2 h.nd,fun p hm=>h.rg p ((hp.append_left D).mem_iff.1 hm),h.wt,fun p h1 h2=>((hp.append_left D).mem_iff).trans (h.zr p h1 h2)⟩
theorem KI.pos{q p:Int}{j:Nat}(h:KI M us w D (q::H) ((elt us q).take j))(hp:(elt us q)[j]? = some p):(1≤p∧p≤M)∧1≤elt w p∧p ∉ D++q::H:=by
 have hq:1≤q∧q≤M:=h.rg q (by simp)
 have hpr:1≤p∧p≤M:=by
   have:=h.ur q.toNat p (by rw [Int.toNat_of_nonneg (by omega)];exact List.mem_of_getElem? hp)
   exact this
 have hn2:(D++[q]).Nodup:=by
   have h1:(D++[q]).Sublist (D++q::H):=List.Sublist.append (List.Sublist.refl _) (by simp)
   exact h1.nodup h.nd
 have hle:=pY (us:=us) (D:=D++[q]) (p:=p) hn2 (fun x hx=>by
   have hlu:=h.lu
   rcases List.mem_append.1 hx with h1 | h1
   · have:=h.rg x (List.mem_append_left _ h1);omega
   · rw [List.mem_singleton.1 h1];omega)
 have e:dnU us (D++[q]) p=dnU us D p+(elt us q).count p:=by unfold dnU;simp
 have hc:((elt us q).take j).count p+1≤(elt us q).count p:=by
   have h1:((elt us q).take (j+1)).count p≤(elt us q).count p:=(List.take_sublist _ _).count_le _
   rw [List.take_add_one,hp,List.count_append] at h1
   simpa using h1
 have hw:=h.wt p hpr.1 hpr.2
 have h1:1≤elt w p:=by omega
 exact ⟨hpr,h1,fun hm=>by have:=(h.zr p hpr.1 hpr.2).1 hm;omega⟩
theorem KI.step{q p:Int}{j:Nat}(h:KI M us w D (q::H) ((elt us q).take j))(hp:(elt us q)[j]? = some p) :
   KI M us (w.set p.toNat (elt w p-1)) D (if elt w p-1=0 then q::p::H else q::H) ((elt us q).take (j+1)):=by
 obtain ⟨hpr,hge,hno⟩:=h.pos hp
 have hlw:=h.lw
 have eW:∀ x,0≤x→elt (w.set p.toNat (elt w p-1)) x=if p=x then elt w p-1 else elt w x:=fun x hx=>du (by omega) (by omega) hx
 have hmem:∀ x,x∈(if elt w p-1=0 then q::p::H else q::H)↔x∈q::H∨(elt w p-1=0∧x=p):=fun x=>by
   split
   · rename_i h0
     simp only [List.mem_cons,h0,true_and]
     constructor
     · rintro (a | a | a)
       · exact .inl (.inl a)
       · exact .inr a
       · exact .inl (.inr a)
     · rintro ((a | a) | a)
       · exact .inl a
       · exact .inr (.inr a)
       · exact .inr (.inl a)
   · rename_i h0;simp [h0]
 refine ⟨by rw [List.length_set];exact hlw,h.lu,h.ur,?_,?_,?_,?_⟩
 · split
   · have h1:(p::(D++q::H)).Nodup:=List.nodup_cons.2 ⟨hno,h.nd⟩
     have h2:(D++q::p::H).Perm (p::(D++q::H)):=by
       have h3:(D++q::p::H).Perm (D++p::q::H):=(List.Perm.swap p q H).append_left D
       exact h3.trans List.perm_middle
     exact h2.nodup_iff.2 h1
   · exact h.nd
 · intro x hx
   rcases List.mem_append.1 hx with h1 | h1
   · exact h.rg x (List.mem_append_left _ h1)
   · rcases (hmem x).1 h1 with h2 | ⟨_,h2⟩
     · exact h.rg x (List.mem_append_right _ h2)
     · rw [h2];exact hpr
 · intro x h1 h2
   have hx:=h.wt x h1 h2
   rw [eW x (by omega),List.take_add_one,hp,List.count_append]
   simp only [Option.toList_some,List.count_singleton,beq_iff_eq]
   split
   · rename_i e;subst e;omega
   · omega
 · intro x h1 h2
   rw [eW x (by omega),List.mem_append,hmem]
   have hz:=h.zr x h1 h2
   rw [List.mem_append] at hz
   split
   · rename_i e;subst e
     constructor
     · rintro (a | a | a)
       · exact absurd (List.mem_append_left _ a) hno
       · exact absurd (List.mem_append_right _ a) hno
       · exact a.1
     · intro a;exact .inr (.inr ⟨a,rfl⟩)
   · rename_i e
     rw [← hz]
     constructor
     · rintro (a | a | a)
       · exact .inl a
       · exact .inr a
       · exact absurd a.2.symm e
     · rintro (a | a)
       · exact .inl a
       · exact .inr (.inl a)
theorem KI.done{q:Int}{j:Nat}(h:KI M us w D (q::H) ((elt us q).take j))(hj:(elt us q).length≤j):KI M us w (D++[q]) H []:=by
 have hp:(D++[q]++H).Perm (D++q::H):=by simp
 refine ⟨h.lw,h.lu,h.ur,hp.nodup_iff.2 h.nd,fun p hm=>h.rg p (hp.mem_iff.1 hm),fun p h1 h2 => ?_,fun p h1 h2=>hp.mem_iff.trans (h.zr p h1 h2)⟩
 have:=h.wt p h1 h2
 rw [List.take_of_length_le hj] at this
 have e:dnU us (D++[q]) p=dnU us D p+(elt us q).count p:=by unfold dnU;simp
 rw [this,e];simp;omega
end
structure PL (N:Nat) (part:List Int) (ps:List (List Int)):Prop where
 ne:∀ (k:Nat) (p:List Int),ps[k]? = some p→p≠[]∧p.Nodup
 of:∀ (k:Nat) (p:List Int),ps[k]? = some p→∀ x∈p,(0≤x∧x<N)∧elt part x=(k:Int)+1
section
variable {N:Nat} {nx:List (List Int)} {r:Int} {s:TS}
theorem PL.close{ps:List (List Int)}(hP:PL N s.part ps)(h:TI N nx r s)(hn:s.np=ps.length){A B p:List Int}{v:Int}(hs:s.stk=A++v::B)(hp:p.Perm (v::B)):PL N (b9 s.part ((s.np:Int)+1) p) (ps++[p]):=by
 have hnd:=h.nd
 rw [hs,List.nodup_append] at hnd
 have hst:∀ x∈p,(0≤x∧x<(N:Int))∧elt s.part x=0:=fun x hx=>by
   have:=(h.stk x).1 (by rw [hs];exact List.mem_append_right _ (hp.mem_iff.1 hx))
   exact ⟨this.1,this.2.2⟩
 have hlp:=h.lp
 have eP:∀ x,0≤x→elt (b9 s.part ((s.np:Int)+1) p) x=if x∈p then (s.np:Int)+1 else elt s.part x:=iA p s.part fun w hw=>by rw [hlp];exact (hst w hw).1
 constructor
 · intro k q hq
   rcases Nat.lt_or_ge k ps.length with hk | hk
   · rw [List.getElem?_append_left hk] at hq;exact hP.ne k q hq
   · have hk2:k=ps.length:=by have:=(List.getElem?_eq_some_iff.1 hq).1;simp at this;omega
     subst hk2
     rw [List.getElem?_append_right (Nat.le_refl _),Nat.sub_self] at hq
     obtain rfl:=Option.some.inj hq
     exact ⟨fun e=>by have:=hp.length_eq;rw [e] at this;simp at this,hp.nodup_iff.2 hnd.2.1⟩
 · intro k q hq x hx
   rcases Nat.lt_or_ge k ps.length with hk | hk
   · rw [List.getElem?_append_left hk] at hq
     have h1:=hP.of k q hq x hx
     rw [eP x h1.1.1,if_neg (fun hm=>by have:=(hst x hm).2;omega)]
     exact h1
   · have hk2:k=ps.length:=by have:=(List.getElem?_eq_some_iff.1 hq).1;simp at this;omega
     subst hk2
     rw [List.getElem?_append_right (Nat.le_refl _),Nat.sub_self] at hq
     obtain rfl:=Option.some.inj hq
     rw [eP x (hst x hx).1.1,if_pos hx,hn]
     exact ⟨(hst x hx).1,rfl⟩
theorem PL.short{part:List Int}{ps:List (List Int)}(hP:PL N part ps){p:List Int}(hp:p∈ps):p.length≤N:=by
 obtain ⟨k,hk⟩:=List.getElem?_of_mem hp
 have h1:=(hP.ne k p hk).2
 have h2:=hP.of k p hk
 have h3:=cX (fun _=>1) (p.map Int.toNat) (List.range N) (dG h1 fun q hq=>(h2 q hq).1.1) (fun q hq=>by
   obtain ⟨x,hx,e⟩:=List.mem_map.1 hq
   have:=h2 x hx
   exact List.mem_range.2 (by omega))
 have e:∀ l:List Nat,(l.map fun _=>1).sum=l.length:=fun l=>by induction l with
   | nil=>rfl
   | cons a l ih=>rw [List.map_cons,List.sum_cons,ih,List.length_cons];omega
 rw [e,e,List.length_map,List.length_range] at h3
 exact h3
end
structure WB (M:Nat) (w:List Int) (us:List (List Int)):Prop where
 lw:w.length=M+1
 lu:us.length=M+1
 ur:∀ q:Nat,∀ p∈elt us (q:Int),1≤p∧p≤M
 wt:∀ p:Int,1≤p→p≤M→elt w p=oR us p
theorem aaU{f g:Nat→Nat}{w d:Nat} : ∀ l:List Nat,l.Nodup→w∈l→(∀ x∈l,x≠w→g x=f x)→g w=f w+d→(l.map g).sum=(l.map f).sum+d
 | [],_,h,_,_=>by cases h
 | a :: l,hn,hw,hf,h0=>by
   rw [List.nodup_cons] at hn
   rw [List.map_cons,List.map_cons,List.sum_cons,List.sum_cons]
   by_cases ha:a=w
   · subst ha
     have:l.map g=l.map f:=List.map_congr_left fun x hx=>hf x (List.mem_cons_of_mem _ hx) fun e=>hn.1 (e ▸ hx)
     rw [this,h0];omega
   · have h1:=aaU l hn.2 ((List.mem_cons.1 hw).resolve_left fun e=>ha e.symm) (fun x hx=>hf x (List.mem_cons_of_mem _ hx)) h0
     rw [hf a List.mem_cons_self ha];omega
theorem sV{l:List (List Int)}{q:Int}{y:List Int}(h0:0≤q)(h1:q<l.length){x:Int}(hx:0≤x):elt (l.set q.toNat y) x=if q=x then y else elt l x:=by
 unfold elt
 rw [List.getD_eq_getElem?_getD,List.getD_eq_getElem?_getD,List.getElem?_set]
 by_cases h:q=x
 · subst h;rw [if_pos rfl,if_pos (by omega),if_pos rfl];rfl
 · rw [if_neg (by omega),if_neg h]
theorem WB.step{M:Nat}{w:List Int}{us:List (List Int)}(h:WB M w us){p q:Int}(hp:1≤p∧p≤M)(hq:1≤q∧q≤M):WB M (w.set p.toNat (elt w p+1)) (us.set q.toNat (elt us q++[p])):=by
 have hlw:=h.lw
 have hlu:=h.lu
 have eU:∀ x:Int,0≤x→elt (us.set q.toNat (elt us q++[p])) x=if q=x then elt us q++[p] else elt us x:=fun x hx=>sV (by omega) (by omega) hx
 refine ⟨by rw [List.length_set];exact hlw,by rw [List.length_set];exact hlu,fun k x hx => ?_,fun x h1 h2 => ?_⟩
 · rw [eU _ (Int.natCast_nonneg k)] at hx
   split at hx
   · rcases List.mem_append.1 hx with h1 | h1
     · have:=h.ur q.toNat x (by rw [Int.toNat_of_nonneg (by omega)];exact h1)
       exact this
     · rw [List.mem_singleton.1 h1];exact hp
   · exact h.ur k x hx
 · rw [du (by omega) (by omega) (by omega)]
   have hw:=h.wt x h1 h2
   have ht:oR (us.set q.toNat (elt us q++[p])) x=oR us x+if p=x then 1 else 0:=by
     unfold oR
     rw [List.length_set]
     refine aaU (w:=q.toNat) (List.range us.length) List.nodup_range (List.mem_range.2 (by omega)) (fun y _ hy => ?_) ?_
     · rw [eU _ (Int.natCast_nonneg y),if_neg (by omega)]
     · rw [eU _ (Int.natCast_nonneg _),if_pos (by omega),Int.toNat_of_nonneg (by omega),List.count_append,List.count_singleton]
       simp only [beq_iff_eq]
   rw [ht]
   split
   · rename_i e;subst e;rw [hw];omega
   · rw [hw];omega
theorem WB.start(M:Nat):WB M (List.replicate (M+1) 0) (List.replicate (M+1) []):=by
 have e:∀ q:Int,elt (List.replicate (M+1) ([]:List Int)) q=[]:=fun q=>by
   unfold elt
   rw [List.getD_eq_getElem?_getD,List.getElem?_replicate]
   split<;>rfl
 refine ⟨by simp,by simp,fun q p hp=>(by rw [e] at hp;cases hp),fun p _ _ => ?_⟩
 have h1:oR (List.replicate (M+1) []) p=0:=by
   unfold oR
   have:∀ l:List Nat,(l.map fun q:Nat=>(elt (List.replicate (M+1) ([]:List Int)) (q:Int)).count p).sum=0:=fun l=>by
     induction l with
     | nil=>rfl
     | cons a l ih=>rw [List.map_cons,List.sum_cons,ih,e];rfl
   exact this _
 rw [h1]
 unfold elt
 rw [List.getD_eq_getElem?_getD,List.getElem?_replicate]
 split<;>rfl
theorem KI.start{M:Nat}{w:List Int}{us:List (List Int)}(h:WB M w us){H:List Int}(hn:H.Nodup)(hr:∀ p∈H,1≤p∧p≤M)(hz:∀ p:Int,1≤p→p≤M→(p∈H↔elt w p=0)):KI M us w [] H [] :=
 ⟨h.lw,h.lu,h.ur,hn,hr,fun p h1 h2=>by rw [h.wt p h1 h2];simp [dnU],hz⟩
end Go.Lv

namespace Go.Lv
def zz(z:Int):Nat:=if z<0 then (2*(-z-1)+1).toNat else (2*z).toNat
abbrev I64(z:Int):Prop := -9223372036854775808≤z∧z≤9223372036854775807
def bytesOf(l:List UInt8):ByteArray:=⟨l.toArray⟩
def bS(b:ByteArray):List UInt8:=b.data.toList
theorem qN(b:ByteArray):bytesOf (bS b)=b:=rfl
theorem j3(b:ByteArray):(bS b).length=b.size:=rfl
end Go.Lv

namespace Go.Sy
open Go.RowKit Go.Lp Go.Lv
section
variable {P:Program} {k:Nat} {t e:TypeId}
abbrev RqW:Type:=World→aT→(List Value→Prop)→Prop
def Rq(P:Program)(k:Nat)(t:TypeId)(W:RqW):Prop:=∀ (w:World) (S:aT) (ds:List D) (us:List Value) (R:List Value→Prop),okD P k t ds→lf w S us ds→W w S R→R us
def RqF(P:Program)(k:Nat)(fs:List Field)(W:RqW):Prop:=∀ (w:World) (S:aT) (ds:List D) (us:List Value) (R:List Value→Prop),okF (okD P k) fs ds→lf w S us ds→W w S R→R us
theorem rqn:RqF P k [] fun _ _ R=>R []:=fun _ _ ds us R h hr hR=>by
 obtain rfl:ds=[]:=h
 rw [hr.nil];exact hR
theorem rqc{f:Field}{fs:List Field}{W1 W2:RqW}(h1:Rq P k f.type W1)(h2:RqF P k fs W2):RqF P k (f::fs) fun w S R=>W1 w S fun u1=>W2 w S fun u2=>R (u1++u2):=fun w S ds us R h hr hR=>by
 obtain ⟨d1,d2,rfl,o1,o2⟩:=h
 obtain ⟨u1,u2,rfl,r1,r2⟩:=hr.app
 exact h2 w S d2 u2 _ o2 r2 (h1 w S d1 u1 _ o1 r1 hR)
theorem rqs{fs:Array Field}{W W':RqW}(hu:P.underlying t=some (.struct fs))(h:RqF P k fs.toList W)(hW:∀ w S R,W' w S R→W w S R):Rq P (k+1) t W':=fun w S ds us R ho hr hR=>h w S ds us R (vq hu ho) hr (hW w S R hR)
theorem rqi(hu:P.underlying t=some (.int .i64)):Rq P (k+1) t fun _ _ R=>∀ z,I64 z→R [.int .i64 z]:=fun w S ds us R h hr hR=>by
 obtain ⟨z,rfl,hw⟩:=abv hu h
 obtain ⟨u,_,rfl,r,hr⟩:=hr.cons
 obtain rfl:=hr.nil;obtain rfl:=iG r
 exact hR z (adL hw)
theorem rqb(hu:P.underlying t=some .bool):Rq P (k+1) t fun _ _ R=>∀ b,R [.bool b]:=fun w S ds us R h hr hR=>by
 obtain ⟨z,rfl⟩:=aaq hu h
 obtain ⟨u,_,rfl,r,hr⟩:=hr.cons
 obtain rfl:=hr.nil;obtain rfl:=iG r
 exact hR z
theorem rqt(hu:P.underlying t=some .string):Rq P (k+1) t fun w S R=>∀ s,(dU s).holds w S→R [.string s]:=fun w S ds us R h hr hR=>by
 obtain ⟨z,rfl,hz⟩:=vp hu h
 obtain ⟨u,_,rfl,r,hr⟩:=hr.cons
 obtain rfl:=hr.nil;obtain rfl:=iG r
 exact hR z hz
theorem Rq.mono{W W':RqW}(h:Rq P k t W)(hW:∀ w S R,W' w S R→W w S R):Rq P k t W':=fun w S ds us R h1 h2 hR=>h w S ds us R h1 h2 (hW w S R hR)
theorem rql{α:Type}[Inhabited α]{vs:α→List Value}{row:α→List D}{ok:α→Per}{C:α→Prop}(hu:P.underlying t=some (.slice e))(hrow:∀ y,row y=(vs y).map D.v)
   (hf:Rq P k e fun w S R=>∀ y,(ok y).holds w S→C y→R (vs y)) :
   Rq P (k+1) t fun w S R=>∀ (s:Sl α),(ShF row s).holds w S→(b6 ok s.l).holds w S→(∀ y∈s.l,C y)→R [.slice s.ad s.l.length s.cap]:=fun w S ds us R h hr hR=>by
 obtain ⟨rows,rfl,_,hrows⟩:=yq hu h
 obtain ⟨u,_,rfl,r,hr⟩:=hr.cons
 obtain rfl:=hr.nil
 obtain ⟨s,rfl,h1,h2,h3,h4⟩:=zW (row:=row) (ok:=ok) (C:=C) (fun _=>0) r fun r hr us hu =>
   hf w S r us (fun us=>∃ y,row y=us.map D.v∧(ok y).holds w S∧C y∧0≤zL r) (hrows r hr) hu fun y a b=>⟨y,hrow y,a,b,Nat.zero_le _⟩
 exact hR s h1 h2 h3
theorem abG(hu:P.underlying t=some (.slice e))(he:P.underlying e=some (.int .i64)):Rq P (k+2) t fun w S R=>∀ (s:Sl Int),(ShF (fun z=>[.v (.int .i64 z)]) s).holds w S→R [.slice s.ad s.l.length s.cap] :=
 (rql (vs:=fun z=>[.int .i64 z]) (row:=fun z=>[.v (.int .i64 z)]) (ok:=fun _=>Fa True) (C:=fun _=>True) hu (fun _=>rfl) ((rqi he).mono fun w S R h z _=>h z trivial trivial)).mono fun w S R h s a _ _=>h s a
theorem adt(hu:P.underlying t=some (.slice e))(he:P.underlying e=some .string):Rq P (k+2) t fun w S R=>∀ (s:Sl ByteArray),(ShF (fun s=>[.v (.string s)]) s).holds w S→(b6 (fun y=>dU y) s.l).holds w S→R [.slice s.ad s.l.length s.cap] :=
 (rql (vs:=fun z=>[.string z]) (row:=fun z=>[.v (.string z)]) (ok:=fun y=>dU y) (C:=fun _=>True) hu (fun _=>rfl) ((rqt he).mono fun w S R h z a=>h z a trivial)).mono fun w S R h s a b _=>h s a b
end
end Go.Sy

namespace Go.Proofs.YtfkcmbonmpcbfaaGreat
open Go.RowKit Go.Lp Go.Sy
structure aH where
 name:ByteArray
 parents:Sl ByteArray
 deriving Inhabited
abbrev aH.row(x:aH):List D:=[.v (.string x.name),.v (.slice x.parents.ad x.parents.l.length x.parents.cap)]
abbrev aH.vs(x:aH):List Value:=[.string x.name,.slice x.parents.ad x.parents.l.length x.parents.cap]
def aH.ok(x:aH):Per:=b7 (dU x.name) (b7 (ShF (fun s=>[.v (.string s)]) x.parents) (b6 (fun y=>dU y) x.parents.l))
theorem aH.f_name{ps:List Per}{x:aH}(h:Ent ps x.ok):Ent ps (dU x.name):=(Ent.left h)
theorem aH.f_parents{ps:List Per}{x:aH}(h:Ent ps x.ok):Ent ps (ShF (fun s=>[.v (.string s)]) x.parents):=(Ent.left (Ent.right h))
structure fb where
 sec:Int
 at_:Int
 file:ByteArray
 line:Int
 deriving Inhabited
abbrev fb.row(x:fb):List D:=[.v (.int .i64 x.sec),.v (.int .i64 x.at_),.v (.string x.file),.v (.int .i64 x.line)]
abbrev fb.vs(x:fb):List Value:=[.int .i64 x.sec,.int .i64 x.at_,.string x.file,.int .i64 x.line]
abbrev fb.val(x:fb):Value:=.agg #[.int .i64 x.sec,.int .i64 x.at_,.string x.file,.int .i64 x.line]
def fb.ok(x:fb):Per:=dU x.file
structure cK where
 sec:Int
 from_:Int
 to_:Int
 name:ByteArray
 file:ByteArray
 line:Int
 deriving Inhabited
abbrev cK.row(x:cK):List D:=[.v (.int .i64 x.sec),.v (.int .i64 x.from_),.v (.int .i64 x.to_),.v (.string x.name),.v (.string x.file),.v (.int .i64 x.line)]
abbrev cK.vs(x:cK):List Value:=[.int .i64 x.sec,.int .i64 x.from_,.int .i64 x.to_,.string x.name,.string x.file,.int .i64 x.line]
abbrev cK.val(x:cK):Value:=.agg #[.int .i64 x.sec,.int .i64 x.from_,.int .i64 x.to_,.string x.name,.string x.file,.int .i64 x.line]
def cK.ok(x:cK):Per:=b7 (dU x.name) (dU x.file)
structure fT where
 sec:Int
 from_:Int
 to_:Int
 name:ByteArray
 where_:Int
 n:Int
 deriving Inhabited
abbrev fT.row(x:fT):List D:=[.v (.int .i64 x.sec),.v (.int .i64 x.from_),.v (.int .i64 x.to_),.v (.string x.name),.v (.int .i64 x.where_),.v (.int .i64 x.n)]
abbrev fT.vs(x:fT):List Value:=[.int .i64 x.sec,.int .i64 x.from_,.int .i64 x.to_,.string x.name,.int .i64 x.where_,.int .i64 x.n]
abbrev fT.val(x:fT):Value:=.agg #[.int .i64 x.sec,.int .i64 x.from_,.int .i64 x.to_,.string x.name,.int .i64 x.where_,.int .i64 x.n]
def fT.ok(x:fT):Per:=dU x.name
structure dH where
 sec:Int
 from_:Int
 to_:Int
 bytes:Int
 deriving Inhabited
abbrev dH.row(x:dH):List D:=[.v (.int .i64 x.sec),.v (.int .i64 x.from_),.v (.int .i64 x.to_),.v (.int .i64 x.bytes)]
abbrev dH.vs(x:dH):List Value:=[.int .i64 x.sec,.int .i64 x.from_,.int .i64 x.to_,.int .i64 x.bytes]
abbrev dH.val(x:dH):Value:=.agg #[.int .i64 x.sec,.int .i64 x.from_,.int .i64 x.to_,.int .i64 x.bytes]
structure eD where
 from_:Int
 size:Int
 to_:Int
 deriving Inhabited
abbrev eD.row(x:eD):List D:=[.v (.int .i64 x.from_),.v (.int .i64 x.size),.v (.int .i64 x.to_)]
abbrev eD.vs(x:eD):List Value:=[.int .i64 x.from_,.int .i64 x.size,.int .i64 x.to_]
abbrev eD.val(x:eD):Value:=.agg #[.int .i64 x.from_,.int .i64 x.size,.int .i64 x.to_]
structure ct where
 from_:Int
 to_:Int
 deriving Inhabited
abbrev ct.row(x:ct):List D:=[.v (.int .i64 x.from_),.v (.int .i64 x.to_)]
abbrev ct.val(x:ct):Value:=.agg #[.int .i64 x.from_,.int .i64 x.to_]
end Go.Proofs.YtfkcmbonmpcbfaaGreat

