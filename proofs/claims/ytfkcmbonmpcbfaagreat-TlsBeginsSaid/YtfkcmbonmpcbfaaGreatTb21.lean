/- Parts of the proof, in build order. No condition. -/
import Derived.Test.YtfkcmbonmpcbfaaGreatTb20
import Derived.Test.YtfkcmbonmpcbfaaGreatTb05
import Derived.Test.YtfkcmbonmpcbfaaGreatTb10
import Derived.Test.YtfkcmbonmpcbfaaGreatTb09
import Derived.Test.YtfkcmbonmpcbfaaGreatTb17
import Derived.Test.YtfkcmbonmpcbfaaGreatTb19
set_option linter.unusedSimpArgs false
set_option linter.unusedVariables false
set_option maxHeartbeats 1000000
set_option maxRecDepth 20000
namespace Go.Proofs.YtfkcmbonmpcbfaaGreat
open Go.RowKit Go.Lp Go.Sy Go.Lv
open Go.Proofs.Tryz
attribute [local irreducible] aL aB awp aC fwp Quiet
structure fu (l:List Span):Prop where
 ok:∀ p∈l,0≤p.1∧p.1≤1099511627776∧0<p.2∧p.2≤1099511627776-p.1
 gap:l.Pairwise fun p q=>p.1+p.2<q.1
theorem aap{l:List Span}{i:Nat}{p:Span} : pw l i p=true↔gM p.1 p.2=true∧p.2≠0∧(0<i→(l.getD (i-1) (0,0)).1+(l.getD (i-1) (0,0)).2<p.1):=by
 unfold pw
 cases hv:gM p.1 p.2 with
 | false=>simp
 | true =>
   simp only [Bool.not_true,Bool.false_or,Bool.not_eq_true',Bool.or_eq_false_iff,decide_eq_false_iff_not,Bool.and_eq_false_iff,true_and]
   constructor
   · rintro ⟨h1,h2⟩
     refine ⟨h1,fun hi => ?_⟩
     rcases h2 with h2 | h2
     · omega
     · omega
   · rintro ⟨h1,h2⟩
     refine ⟨h1,?_⟩
     by_cases hi:0<i
     · right;have:=h2 hi;omega
     · left;omega
theorem fu.to{l:List Span}(h:fu l):rgB l=true:=by
 rw [kQ]
 intro i p hp
 have hmem:=h.ok p (List.mem_of_getElem? hp)
 rw [aap]
 refine ⟨fC.2 (by omega),by omega,fun hi => ?_⟩
 have hil:=(List.getElem?_eq_some_iff.1 hp).1
 have:=List.pairwise_iff_getElem.1 h.gap (i-1) i (by omega) hil (by omega)
 have e:l[i]=p:=by rw [List.getElem?_eq_getElem hil] at hp;injection hp
 rw [e] at this
 simpa [List.getD,show i-1<l.length by omega] using this
def pieces(x n:Int)(p:Span):List Span:=en p.1 (min (p.1+p.2) x)++en (max p.1 (x+n)) (p.1+p.2)
theorem eY{f u:Int}{p:Span} : p∈en f u↔f<u∧p=(f,u-f):=by
 unfold en
 split
 · rename_i h;simp [h]
 · rename_i h;simp [h]
theorem lL{x n:Int}{p q:Span}(h:q∈pieces x n p):0<q.2∧p.1≤q.1∧q.1+q.2≤p.1+p.2∧((q.1+q.2≤x∧q.1=p.1)∨(x+n≤q.1∧q.1+q.2=p.1+p.2)):=by
 unfold pieces at h
 rcases List.mem_append.1 h with h | h
 · obtain ⟨h1,rfl⟩:=eY.1 h;exact ⟨by simp only;omega,by simp only;omega,by simp only;omega,.inl ⟨by simp only;omega,rfl⟩⟩
 · obtain ⟨h1,rfl⟩:=eY.1 h;exact ⟨by simp only;omega,by simp only;omega,by simp only;omega,.inr ⟨by simp only;omega,by simp only;omega⟩⟩
theorem vC{x n:Int}(hn:0<n)(p:Span):(pieces x n p).Pairwise fun a b=>a.1+a.2<b.1:=by
 unfold pieces
 rw [List.pairwise_append]
 refine ⟨?_,?_,fun a ha b hb => ?_⟩
 · unfold en;split<;>simp
 · unfold en;split<;>simp
 · obtain ⟨h1,rfl⟩:=eY.1 ha
   obtain ⟨h2,rfl⟩:=eY.1 hb
   simp only;omega
theorem lA(x n:Int)(p:Span)(l:List Span):gi x n (p::l)=pieces x n p++gi x n l:=rfl
theorem kG{x n:Int}{l:List Span}{q:Span} : q∈gi x n l↔∃ p∈l,q∈pieces x n p:=by
 unfold gi;rw [List.mem_flatMap];rfl
theorem uW{x n:Int}{l:List Span}(h:fu l)(hn:0<n):fu (gi x n l):=by
 refine ⟨fun q hq => ?_,?_⟩
 · obtain ⟨p,hp,hqp⟩:=kG.1 hq
   have:=h.ok p hp
   have:=lL hqp
   omega
 · obtain ⟨hok,hgap⟩:=h
   induction l with
   | nil=>exact List.Pairwise.nil
   | cons p l ih =>
     rw [lA,List.pairwise_append]
     obtain ⟨g1,g2⟩:=List.pairwise_cons.1 hgap
     refine ⟨vC hn p,ih (fun q hq=>hok q (by simp [hq])) g2,fun a ha b hb => ?_⟩
     obtain ⟨q,hq,hbq⟩:=kG.1 hb
     have:=g1 q hq
     have:=lL ha
     have:=lL hbq
     omega
theorem vD{x n:Int}{p:Span} : (pieces x n p).length≤1∨((pieces x n p).length=2∧x+n<p.1+p.2):=by
 unfold pieces en
 split<;>split<;>simp<;>omega
theorem xR {x n:Int} {l:List Span} (h:fu l) (hn:0<n):(gi x n l).length≤l.length+1:=by
 obtain ⟨hok,hgap⟩:=h
 induction l with
 | nil=>simp [gi]
 | cons p l ih =>
   obtain ⟨g1,g2⟩:=List.pairwise_cons.1 hgap
   have ih':=ih (fun q hq=>hok q (by simp [hq])) g2
   rw [lA]
   simp only [List.length_append,List.length_cons]
   rcases @vD x n p with h1 | ⟨h1,h2⟩
   · omega
   · have key:∀ m:List Span,(∀ q∈m,x+n<q.1)→(gi x n m).length≤m.length:=by
       intro m
       induction m with
       | nil=>intro _;simp [gi]
       | cons q m ih2 =>
         intro hm
         have hq:=hm q (by simp)
         have:=ih2 (fun r hr=>hm r (by simp [hr]))
         rw [lA]
         have:(pieces x n q).length≤1:=by
           unfold pieces en
           rw [if_neg (by omega)]
           split<;>simp
         simp only [List.length_append,List.length_cons];omega
     have:=key l (fun q hq=>by have:=g1 q hq;omega)
     omega
def fQ(a:Ar):Int:=min 1099511627776 (upI (a.at_+a.size) 256+256)
def ph(a:Ar)(l:List Span):List Span:=gi (a.at_-256) (fQ a-(a.at_-256)) l
def dp(M:Mem):List Span:=M.foldl (fun l x=>ph x.1 l) [(512,1099511627264)]
def dD(M:Mem)(size:Int):Int :=
 if 1099511627776<size then -1 else
   match iL (upI (max 1 size) 256) 256 0 1099511627776 (dp M) with
   | (a,true)=>a
   | (_,false) => -1
theorem jS{n:Int}(h : -1152921504606846976≤n∧n≤1152921504606846976):n≤upI n 256∧upI n 256<n+256∧upI n 256 % 256=0:=by
 have e:gC n 256=n-n % 256:=by unfold gC;rw [if_neg (by omega)]
 unfold upI
 rw [e]
 split<;>omega
theorem fY{a:Ar}(h:dK a=true):a.at_+a.size≤fQ a∧fQ a≤1099511627776∧fQ a<a.at_+a.size+512:=by
 obtain ⟨r1,r2,r3,r4,r5,r6,r7,r8⟩:=b8.1 h
 have := @jS (a.at_+a.size) (by omega)
 unfold fQ;omega
theorem uV{a:Ar}(h:dK a=true){l:List Span}(hl:fu l):fu (ph a l):=by
 obtain ⟨r1,r2,r3,r4,r5,r6,r7,r8⟩:=b8.1 h
 have:=fY h
 exact uW hl (by omega)
theorem zJ{a:Ar}(h:dK a=true){l:List Span}(hl:fu l):(ph a l).length≤l.length+1:=by
 obtain ⟨r1,r2,r3,r4,r5,r6,r7,r8⟩:=b8.1 h
 have:=fY h
 exact xR hl (by omega)
theorem ja(M:Mem)(h:∀ x∈M,dK x.1=true):fu (dp M)∧(dp M).length≤M.length+1:=by
 have key:∀ (M:Mem) (l:List Span),(∀ x∈M,dK x.1=true)→fu l→fu (M.foldl (fun l x=>ph x.1 l) l)∧(M.foldl (fun l x=>ph x.1 l) l).length≤M.length+l.length:=by
   intro M
   induction M with
   | nil=>intro l _ hl;exact ⟨hl,by simp⟩
   | cons x M ih =>
     intro l hM hl
     have hx:=hM x (by simp)
     obtain ⟨h1,h2⟩:=ih (ph x.1 l) (fun y hy=>hM y (by simp [hy])) (uV hx hl)
     have:=zJ hx hl
     exact ⟨h1,by simp only [List.foldl_cons,List.length_cons];omega⟩
 have:=key M [(512,1099511627264)] h ⟨by simp,by simp⟩
 exact ⟨this.1,this.2⟩
theorem pj{M:Mem}{k:Nat}{x:Cell}(h:M[k]? = some x):dp (M.take (k+1))=ph x.1 (dp (M.take k)):=by
 unfold dp;rw [List.take_add_one,h];simp
theorem fu.i64{l:List Span}(h:fu l):∀ p∈l,I64 p.1∧I64 p.2:=fun p hp=>by have:=h.ok p hp;unfold I64;omega
theorem uN(p:Nat)(M:Mem)(vs:List Value)(hvs:OkV M vs)(v:Value)(size:Int)(hs:I64 size)(hM:dI M)(hl:M.length≤4096) :
   Con Tryz.prog 80 [.pointer (some ⟨p,0,none⟩),.int .i64 size] [] (op2 p v M vs) fun r ps hp=>ps=[]∧hp=op2 p v M vs∧r=.int .i64 (dD M size):=by
 have hlr:=eO hvs.len
 unfold I64 at hs
 refine EN2 Tryz.func80 rfl (aSR (aA rfl (aNs (aSR (aM rfl (aU rfl (dy rfl rfl) (aNn ?_)))))))
 refine ah _ rfl (fun h1 => ?_) (fun h1 => ?_)
 ·skip
  refine aSR (aA rfl (aNn (aj (aN (FZ1 [0,1] Tryz.results80 rfl ?_)))))
  refine ⟨rfl,rfl,?_⟩
  unfold dD;rw [if_pos (of_decide_eq_true h1)]
 ·skip
  have hs':size≤1099511627776:=by simpa using h1
  have hup := @jS (max 1 size) (by omega)
  refine ai (an (aSR (aM rfl (aU rfl (aaC rfl rfl) ?_))))
  refine aU rfl (Q0 rfl (rb _ _ (by unfold I64;omega))) ?_
  refine aA rfl (aNn (aSR (aU rfl (gr (l:=[(0,.const (.int .i64 512)),(1,.const (.int .i64 1099511627264))]) (zs:=[.int .i64 0,.int .i64 0]) (pl:=[(0,1),(1,1)]) (by kernel_rfl) (by kernel_rfl) (by kernel_rfl) rfl rfl rfl) (LT rfl (WL (zs:=[.int .i64 0,.int .i64 0]) el32 rfl rfl rfl (.more rfl (.v rfl (.v rfl .nil)) .nil) rfl rfl (fun v4_1=>(aHN ?_)))))))
  refine aA rfl (aNs (aSR (aM rfl (UN rfl rfl (UO 0 rfl rfl (UL 0 tk115 rfl rfl rfl rfl (aU rfl (dF 1 Tryz.underlying115 rfl rfl) (aM rfl (aNn (ao (ez 2 rfl ?_)))))))))))
  refine aR [0,1,5,22,23,24] [0] [0,1] (fun (k:Nat) s=>k≤M.length∧∃ ad c,s=⟨[(0,true,.pointer (some ⟨p,0,none⟩)),(1,true,.int .i64 (upI (max 1 size) 256)),(5,true,.slice ad (dp (M.take k)).length c),(22,true,v),(23,true,.int .i64 M.length),(24,true,.int .i64 k)],[Sh (.slice ad (dp (M.take k)).length c) (.sl ((dp (M.take k)).map dX))],op2 p v M vs⟩) (fun k=>M.length-k) rfl (⟨0,Nat.zero_le _,v4_1,1,by rw [hlr];rfl⟩) ?_
  rintro k s ⟨hk,ad,c,rfl⟩
  obtain ⟨hfr,hfl⟩:=ja (M.take k) (fun x hx=>hM.right x (List.mem_of_mem_take hx))
  have htl:(M.take k).length≤M.length:=List.length_take_le' _ _
  refine aSR (aU rfl (bg rfl rfl) (aNs ?_))
  refine ah _ rfl (fun h2 => ?_) (fun h2 => ?_)
  ·skip
   have hk':k<M.length:=by simpa using h2
   obtain ⟨q,hq⟩:∃ q,M[k]? = some q:=⟨M[k]'hk',by simp⟩
   obtain ⟨u,hu⟩:∃ u,vs[k]? = some u:=⟨_,List.getElem?_eq_getElem (by have:=hvs.len;omega)⟩
   have hqr:dK q.1=true:=hM.right _ (List.mem_of_getElem? hq)
   obtain ⟨ad0,cu,rfl⟩:=hvs.sl hq hu
   obtain ⟨r1,r2,r3,r4,r5,r6,r7,r8⟩:=b8.1 hqr
   have hqu:=fY hqr
   have hqp := @jS (q.1.at_+q.1.size) (by omega)
   have hum:min 1099511627776 (upI (q.1.at_+q.1.size) 256+256)=fQ q.1:=rfl
   refine ai (an (aq (ao (aSR ?_))))
   refine aU rfl (bE 1 k el115 rfl rfl rfl rfl (by rw [hlr];exact hk')) ?_
   refine aU rfl (bb 1 k 0 tk135 rfl rfl (eo hq hu) rfl rfl) (LT rfl (bt (zs:=[.int .i64 0,.int .i64 0,.int .i64 0,.int .i64 0,.int .i64 0,.slice none 0 0]) (by kernel_rfl) rfl (fun b7_2=>(aHN ?_))))
   refine aI rfl (aW 2 tk135 rfl rfl rfl rfl (aHK ?_))
   refine aNn (aSR (UO 0 rfl rfl (UO 0 rfl rfl (UL 2 tk3 rfl rfl rfl rfl (aU rfl (bN rfl rfl (by omega)) (aA rfl (aNn (aSR (UO 0 rfl rfl (UO 0 rfl rfl (UL 2 tk3 rfl rfl rfl rfl (UO 0 rfl rfl (UO 1 rfl rfl (UL 2 tk3 rfl rfl rfl rfl (aU rfl (aO rfl rfl (by omega)) ?_)))))))))))))))
   refine aU rfl (Q0 rfl (rb _ _ (by unfold I64;omega))) ?_
   refine aU rfl (aO rfl rfl (by omega)) (aU rfl (oB rfl rfl) (aA rfl (aNn (ae (aM rfl (aM rfl (aM rfl (aM rfl (aU rfl (bN rfl rfl (by omega)) (aU rfl (gr (l:=[(0,.tmp 43),(1,.tmp 46)]) (zs:=[.int .i64 0,.int .i64 0]) (pl:=[(0,1),(1,1)]) (by kernel_rfl) (by kernel_rfl) (by kernel_rfl) rfl rfl rfl) (LT rfl (EC [0] [] rfl (aco (dp (M.take k)) ad c (q.1.at_-256) (fQ q.1-(q.1.at_-256)) hfr.to hfr.i64 (fC.2 (by omega)) (by omega) (by omega)) ?_))))))))))))
   rintro v' ps' hp' ⟨rfl,ad2,c2,rfl,rfl⟩
   refine aST ?_
   refine aA rfl (bK (bo (an (ez 3 rfl (ae (aU rfl (aO rfl rfl (by omega)) (aM rfl (aNn ?_))))))))
   refine ⟨[0,1,5,22,23,24],[1],[0,1],rfl,?_⟩
   refine ⟨k+1,⟨by omega,ad2,c2,?_⟩,by omega⟩
   rw [pj hq];rfl
  ·skip
   have eT:M.take k=M:=List.take_of_length_le (by simp at h2;omega)
   rw [eT]
   rw [eT] at hfr
   have hfM:=hfr
   refine aS (aV (aV (ba (an (aSR (aM rfl (aM rfl (aU rfl (Q1 rfl (acu (dp M) ad c _ _ _ _ hfM.to hfM.i64 (by omega) (by omega) (by omega)) 0 rfl) ?_))))))))
   refine aM rfl (aU rfl (aK rfl rfl) (aU rfl (aK rfl rfl) (aA rfl (aA rfl (aNs (aSR (aM rfl (aU rfl (bY rfl) (aNn ?_)))))))))
   refine ah _ rfl (fun h3 => ?_) (fun h3 => ?_)
   ·skip
    refine aSR (aA rfl (aNn (aj (aN (FZ1 [0,1] Tryz.results80 rfl ?_)))))
    refine ⟨rfl,rfl,?_⟩
    unfold dD
    rw [if_neg (by omega)]
    cases hf:iL (upI (max 1 size) 256) 256 0 1099511627776 (dp M) with
    | mk x b =>
      rw [hf] at h3
      cases b with
      | true=>simp at h3
      | false=>rfl
   ·skip
    refine ai (an (aSR (aM rfl (aA rfl (aNn (aj (FZ1 [0,1] Tryz.results80 rfl ?_)))))))
    refine ⟨rfl,rfl,?_⟩
    unfold dD
    rw [if_neg (by omega)]
    cases hf:iL (upI (max 1 size) 256) 256 0 1099511627776 (dp M) with
    | mk x b =>
      rw [hf] at h3
      cases b with
      | true=>rfl
      | false=>simp at h3
end Go.Proofs.YtfkcmbonmpcbfaaGreat

namespace Go.Sy
open Go.RowKit Go.Lp
theorem Con.frame{P:Program}{f:FuncId}{args:List Value}{ps:List Per}{l:List Res}{A:Res}{R:Value→List Per→List Res→Prop}(h:Con P f args ps l R):Con P f args ps (l++[A]) fun r ps' hp'=>∃ l',hp'=l'++[A]∧R r ps' l':=fun w S fp hst=>by
 have hl:(l++[A]).length=l.length+1:=by simp
 have hA:=hst.res l.length A (by rw [List.getElem?_append_right (Nat.le_refl _),Nat.sub_self];rfl)
 have hst0:St w S fp ps l:=⟨hst.per,fun i R hR=>hst.res i R (by rw [List.getElem?_append_left (List.getElem?_eq_some_iff.1 hR).1];exact hR),fun i hi=>hst.lt i (by omega),fun i j hi hj=>hst.dj i j (by omega) (by omega),hst.slt⟩
 refine (h w S fp hst0).mono fun e w' ⟨v,ps',hp',S',fp',he,hR,hst',hE,hg⟩ => ?_
 have hAo:∀ b,fp l.length b→b<w.heap.size∧¬ S b:=hst.lt l.length (by omega)
 have hAx:∀ b,fp l.length b→¬ tot fp l.length b:=fun b hb ⟨j,hj,hjb⟩=>hst.dj l.length j (by omega) (by omega) (by omega) b hb hjb
 have hl2:(hp'++[A]).length=hp'.length+1:=by simp
 have hno:∀ i b,i<hp'.length→fp' i b→¬ fp l.length b:=fun i b hi hb hb2=>(hg b ⟨i,hi,hb⟩).elim (hAx b hb2) (fun h=>by have:=(hAo b hb2).1;omega)
 refine ⟨v,ps',hp'++[A],S',fun i=>if i<hp'.length then fp' i else fp l.length,he,⟨hp',rfl,hR⟩,⟨hst'.per,fun i R hR => ?_,fun i hi b hb => ?_,fun i j hi hj hne b hb hb2 => ?_,hst'.slt⟩,hE.wider (fun b ⟨j,hj,hb⟩=>⟨j,by omega,hb⟩),fun b hb => ?_⟩
 · skip
   split
   · rename_i hi
     rw [List.getElem?_append_left hi] at hR;exact hst'.res i R hR
   · rename_i hi
     rw [List.getElem?_append_right (by omega)] at hR
     have e:=(List.getElem?_eq_some_iff.1 hR).1
     simp only [List.length_singleton] at e
     rw [show i-hp'.length=0 by omega] at hR
     simp only [List.getElem?_cons_zero,Option.some.injEq] at hR;subst hR
     exact A.mono hA (fun b hb=>hE.block b (hAo b hb).1 (hAx b hb)) (fun b hb=>hE.block b (hst.slt b hb) (fun ⟨j,hj,hjb⟩=>(hst.lt j (by omega) b hjb).2 hb)) hE.more
 · skip
   split at hb
   · rename_i hi';exact hst'.lt i hi' b hb
   · exact ⟨Nat.lt_of_lt_of_le (hAo b hb).1 hE.size,fun hS=>(hE.new b hS).elim (hAo b hb).2 fun h=>h.elim (hAx b hb) fun h=>by have:=(hAo b hb).1;omega⟩
 · skip
   split at hb<;>split at hb2
   · rename_i a1 a2;exact hst'.dj i j a1 a2 hne b hb hb2
   · rename_i a1 a2;exact hno i b a1 hb hb2
   · rename_i a1 a2;exact hno j b a2 hb2 hb
   · omega
 · obtain ⟨i,hi,hb⟩:=hb
   split at hb
   · rename_i hi';exact (hg b ⟨i,hi',hb⟩).imp (fun ⟨j,hj,hjb⟩=>⟨j,by omega,hjb⟩) id
   · exact .inl ⟨l.length,by omega,hb⟩
end Go.Sy

namespace Go.Proofs.YtfkcmbonmpcbfaaGreat
open Go.RowKit Go.Lp Go.Sy Go.Lv
open Go.Proofs.Tryz
theorem acA{M:Mem}(h:dI M)(t:Int):∃ k,LoM M t k:=by
 have key:∀ n,n≤M.length→(∀ (i:Nat) (x:Cell),i<n→M[i]? = some x→x.1.at_<t)∨∃ k,LoM M t k:=by
   intro n
   induction n with
   | zero=>intro _;left;intro i x hi;omega
   | succ n ih =>
     intro hn
     rcases ih (by omega) with h1 | h1
     · have hx:M[n]? = some M[n]:=List.getElem?_eq_getElem (by omega)
       by_cases hc:(M[n]).1.at_<t
       · left
         intro i x hi hix
         rcases Nat.lt_succ_iff_lt_or_eq.1 hi with h2 | rfl
         · exact h1 i x h2 hix
         · rw [hx] at hix;cases hix;exact hc
       · right
         exact ⟨n,by omega,h1,fun i x hi hix=>by have:=h.mono hx hix hi;omega⟩
     · exact .inr h1
 rcases key M.length (Nat.le_refl _) with h1 | h1
 · exact ⟨M.length,Nat.le_refl _,fun i x hi=>h1 i x hi,fun i x hi hx=>by have:=(List.getElem?_eq_some_iff.1 hx).1;omega⟩
 · exact h1
structure cL (M:Mem):Prop where
 inv:dI M
 few:M.length≤4096
theorem cL.nil:cL []:=⟨dI.nil,Nat.zero_le _⟩
theorem cL.map{M:Mem}(h:cL M)(a:Ar):cL (mapM M a).1:=by
 unfold mapM
 split
 · exact h
 · split
   · exact h
   · split
     · exact h
     · rename_i h1 h2 h3
       have hr:dK a=true:=by simpa using h1
       obtain ⟨k,hk⟩:∃ k,LoM M a.at_ k:=acA h.inv a.at_
       obtain ⟨c1,c2⟩:=dI.cut hk
       refine ⟨by rw [c1,c2];exact h.inv.put hr hk h2,?_⟩
       rw [c1,c2];have:=h.few;simp;omega
theorem cL.unmap{M:Mem}(h:cL M)(t:Int):cL (eS M t).1:=by
 unfold eS
 split
 · exact ⟨h.inv.sub List.filter_sublist,Nat.le_trans (List.length_filter_le _ _) h.few⟩
 · exact h
theorem cL.upd{M:Mem}(h:cL M){x:Cell}(hx:x∈M){bs:List UInt8}(hb:bs.length=x.2.length):cL (oW M x.1.at_ bs):=⟨aa0 h.inv hx hb,by unfold oW;rw [List.length_map];exact h.few⟩
section
variable {p:Nat} {M:Mem} {f:FuncId} {args:List Value} {u:Value}
theorem rM{N:Mem}(h:∀ v vs,OkV M vs→Con Tryz.prog f args [] (opn p v M vs) fun r ps hp=>∃ (M':Mem) (v':Value) (vs':List Value) (L:List Res),vs'.length=M'.length∧hp=opn p v' M' vs'++L∧(ps=[]∧L=[]∧M'=N∧r=u)) :
   Con Tryz.prog f args [] [SpR p M] fun r ps hp=>ps=[]∧hp=[SpR p N]∧r=u :=
 (zG (R:=fun M' r ps L=>ps=[]∧L=[]∧M'=N∧r=u) h).post fun r ps hp ⟨M',L,e,h1,h2,h3,h4⟩=>by subst h2 h3;exact ⟨h1,e,h4⟩
theorem wO{N:Mem}(hl:N.length=M.length)(h:∀ v vs,OkV M vs→Con Tryz.prog f args [] (opn p v M vs) fun r ps hp=>ps=[]∧hp=opn p v N vs∧r=u):Con Tryz.prog f args [] [SpR p M] fun r ps hp=>ps=[]∧hp=[SpR p N]∧r=u :=
 rM fun v vs hvs=>(h v vs hvs).post fun r ps hp ⟨h1,h2,h3⟩=>⟨N,v,vs,[],by rw [hvs.len,hl],by rw [h2];rfl,h1,rfl,rfl,h3⟩
theorem abM(h:∀ v vs,OkV M vs→Con Tryz.prog f args [] (op2 p v M vs) fun r ps hp=>ps=[]∧hp=op2 p v M vs∧r=u):Con Tryz.prog f args [] [SpR p M] fun r ps hp=>ps=[]∧hp=[SpR p M]∧r=u :=
 wO rfl fun v vs hvs=>((h v vs hvs).frame (A:=bT (eG M vs))).post fun r ps hp ⟨l',e,h1,h2,h3⟩=>⟨h1,by rw [e,h2];rfl,h3⟩
end
section
variable (p:Nat) (M:Mem) (hM:cL M)
include hM
theorem aaS(size:Int)(hs:I64 size):Con Tryz.prog 80 [.pointer (some ⟨p,0,none⟩),.int .i64 size] [] [SpR p M] fun r ps hp=>ps=[]∧hp=[SpR p M]∧r=.int .i64 (dD M size) :=
 abM fun v vs hvs=>uN p M vs hvs v size hs hM.inv hM.few
theorem tV(t size:Int)(ht:I64 t):Con Tryz.prog 63 [.pointer (some ⟨p,0,none⟩),.int .i64 t,.int .i64 size] [] [SpR p M] fun r ps hp=>ps=[]∧hp=[SpR p M]∧r=.tuple #[.string (bytesOf (jg M t size).1),.int .i64 (jg M t size).2] :=
 wO rfl fun v vs hvs=>uO p M vs hvs v t size ht hM.inv hM.few
theorem abN(a:Ar)(ha:I64 a.at_):Con Tryz.prog 79 [.pointer (some ⟨p,0,none⟩),zd a] [] [SpR p M] fun r ps hp=>ps=[]∧hp=[SpR p (mapM M a).1]∧r=.int .i64 (mapM M a).2 :=
 rM fun v vs hvs=>xO p M vs hvs v a ha hM.inv hM.few
theorem yO(t:Int):Con Tryz.prog 243 [.pointer (some ⟨p,0,none⟩),.int .i64 t] [] [SpR p M] fun r ps hp=>ps=[]∧hp=[SpR p (eS M t).1]∧r=.int .i64 (eS M t).2 :=
 rM fun v vs hvs=>sK p M vs hvs v t hM.inv hM.few
theorem yP(t:Int)(s:ByteArray)(hs:s.size≤maxLen)(ht:I64 t):Con Tryz.prog 187 [.pointer (some ⟨p,0,none⟩),.int .i64 t,.string s] [] [SpR p M] fun r ps hp=>ps=[]∧hp=[SpR p (df M t (bS s)).1]∧r=.int .i64 (df M t (bS s)).2 :=
 rM fun v vs hvs=>(sL p M vs hvs v t s hs ht hM.inv hM.few).post fun r ps hp ⟨h1,h2,h3,h4⟩=>⟨_,v,vs,[],by rw [hvs.len,h3],by rw [h2];rfl,h1,rfl,rfl,h4⟩
theorem yN:Con Tryz.prog 27 [.pointer (some ⟨p,0,none⟩)] [] [SpR p M] fun r ps hp=>ps=[]∧∃ ad c,r=.slice ad M.length c∧hp=[SpR p M,aD (.slice ad M.length c) 68 5 (gG M)] :=
 (zG (R:=fun M' r ps L=>ps=[]∧M'=M∧∃ ad c,r=.slice ad M.length c∧L=[aD (.slice ad M.length c) 68 5 (gG M)]) fun v vs hvs =>
   ((sI p M vs hvs v hM.inv hM.few).frame (A:=bT (eG M vs))).conv fun r ps hp ⟨l',e,h1,ad,c,h2,h3⟩=>by
     subst e h1 h3
     exact ⟨[],opn p v M vs++[aD (.slice ad M.length c) 68 5 (gG M)],StE.keep (ps:=[]) [] [0,1,3,2] rfl,M,v,vs,_,hvs.len,rfl,rfl,rfl,ad,c,h2,rfl⟩).post fun r ps hp ⟨M',L,e,h1,h2,ad,c,h3,h4⟩=>by subst h2 h4;exact ⟨h1,ad,c,h3,e⟩
end
end Go.Proofs.YtfkcmbonmpcbfaaGreat

namespace Go.Proofs.YtfkcmbonmpcbfaaGreat
open Go.RowKit Go.Lp Go.Sy Go.Lv Go.Sort
open Go.Proofs.Tryz
attribute [local irreducible] aL aB awp aC fwp Quiet
structure bk where
 mods:Int→Option ak
 thr:Int→Option Bool
 at_:Int × Int→Option Int
abbrev fO(b p mb tb ab:Nat)(s:bk)(M:Mem):List Res:=[Box b 122 [.pointer (some ⟨p,0,none⟩),.map (some mb),.map (some tb),.map (some ab)],cN mb kI ak.val s.mods,cN tb kI vBo s.thr,cN ab cj vI s.at_,SpR p M]
structure gN (im:ak):Prop where
 b:I64 im.block
 t:im.tls.size≤maxLen
theorem pn:gN (default:ak):=⟨by unfold I64;decide,by decide⟩
theorem n9{size al until_:Int}(hal:al=256)(hs:0≤size)(hu:until_≤1099511627776):∀ (l:List Span),(∀ p∈l,0≤p.1∧p.1≤1099511627776)→∀ a,iL size al 0 until_ l=(a,true)→0≤a∧a+size≤until_
 | [],_,a,h=>by simp [iL] at h
 | p :: l,hl,a,h=>by
   unfold iL at h
   have hp:=hl p List.mem_cons_self
   split at h
   · rename_i hc
     have := @jS (max p.1 0) (by omega)
     subst hal
     simp only [Prod.mk.injEq,and_true] at h
     subst h
     omega
   · exact n9 hal hs hu l (fun q hq=>hl q (List.mem_cons_of_mem _ hq)) a h
theorem ta{M:Mem}(hM:cL M){size:Int} : dD M size = -1∨(0≤dD M size∧dD M size+upI (max 1 size) 256≤1099511627776):=by
 unfold dD
 split
 · exact .inl rfl
 · rename_i h
   have hu := @jS (max 1 size) (by omega)
   split
   · rename_i a hf
     exact .inr (n9 rfl (by omega) (Int.le_refl _) _ (fun p hp=>by have:=(ja M fun x hx=>hM.inv.right x hx).1.ok p hp;omega) a hf)
   · exact .inl rfl
theorem xZ{M:Mem}(hM:cL M){size:Int}(hs:I64 size):I64 (dD M size):=by
 unfold I64 at *
 rcases Int.lt_or_le 1099511627776 size with h | h
 · have:dD M size = -1:=by unfold dD;rw [if_pos h]
   omega
 · have hu := @jS (max 1 size) (by omega)
   rcases @ta M hM size with h | h<;>omega
def mkT(s:bk)(M:Mem)(t m:Int):bk × Mem × Bool :=
 let im:=(s.mods m).getD default
 if im.block=0 then (s,M,true) else
 let a:=dD M im.block
 let r:=mapM M ⟨a,im.block,4,t,m⟩
 if r.2≠0 then (s,r.1,false) else
 let w:=df r.1 a (bS im.tls)
 ({ s with at_:=aZ s.at_ (t,m) a },w.1,decide (w.2=0))
theorem wk(b p mb tb ab:Nat)(s:bk)(M:Mem)(t m:Int):Con Tryz.prog 25 [.pointer (some ⟨b,0,none⟩),.int .i64 t,.int .i64 m] [] (fO b p mb tb ab s M) fun r ps hp=>ps=[]∧hp=fO b p mb tb ab s M∧r=.tuple #[.int .i64 ((s.at_ (t,m)).getD 0),.bool (s.at_ (t,m)).isSome]:=by
 refine EN3 Tryz.func25 rfl (aSR (aA rfl (aA rfl (aNn (aSR (aM rfl (UN rfl rfl (UO 3 rfl rfl (UL 0 tk120 rfl rfl rfl rfl (aM rfl (aM rfl (aU rfl (iF (l:=[(0,.tmp 15),(1,.tmp 16)]) (zs:=[.int .i64 0,.int .i64 0]) (sz:=1) (m:=2) (by kernel_rfl) (by kernel_rfl) rfl rfl rfl) (aU rfl (jf (k:=(t,m)) (v0:=(0:Int)) 3 Tryz.underlying120 (lG) (by kernel_rfl) rfl rfl rfl) ?_)))))))))))))
 refine aM rfl (aU rfl (aK rfl rfl) (aU rfl (aK rfl rfl) (aA rfl (aA rfl (aNn (aSR (aM rfl (aM rfl (aA rfl (aA rfl (aNn (aj (FZ2 [0,1,2,3,4] Tryz.results25 rfl rfl ?_)))))))))))))
 exact ⟨rfl,rfl,rfl⟩
theorem pW(b p mb tb ab:Nat)(s:bk)(hs:∀ k im,s.mods k=some im→gN im)(M:Mem)(hM:cL M)(t m:Int):Con Tryz.prog 76 [.pointer (some ⟨b,0,none⟩),.int .i64 t,.int .i64 m] [] (fO b p mb tb ab s M) fun r ps hp=>ps=[]∧hp=fO b p mb tb ab (mkT s M t m).1 (mkT s M t m).2.1∧r=.bool (mkT s M t m).2.2:=by
 obtain ⟨im,him⟩:∃ im,(s.mods m).getD default=im:=⟨_,rfl⟩
 have hif:gN im:=by
   subst him
   cases h:s.mods m with
   | none=>exact pn
   | some x=>exact hs m x h
 have hai:=xZ hM hif.b
 have hmk:mkT s M t m=if im.block=0 then (s,M,true) else if (mapM M ⟨dD M im.block,im.block,4,t,m⟩).2≠0 then (s,(mapM M ⟨dD M im.block,im.block,4,t,m⟩).1,false) else ({ s with at_:=aZ s.at_ (t,m) (dD M im.block) },(df (mapM M ⟨dD M im.block,im.block,4,t,m⟩).1 (dD M im.block) (bS im.tls)).1,decide ((df (mapM M ⟨dD M im.block,im.block,4,t,m⟩).1 (dD M im.block) (bS im.tls)).2=0)):=by
   unfold mkT;rw [him]
 refine EN3 Tryz.func76 rfl (aSR (aA rfl (aNn (aSR (aM rfl (UN rfl rfl (UO 1 rfl rfl (UL 0 tk118 rfl rfl rfl rfl (aM rfl (aU rfl (gJ (k:=m) (v0:=(default:ak)) 1 Tryz.underlying118 (keI) (by kernel_rfl) rfl rfl rfl) ?_))))))))))
 rw [him]
 refine LT rfl (bt (zs:=ZI) (by kernel_rfl) rfl (fun b1_6=>(aHN ?_)))
 refine aI rfl (aW 5 tk40 rfl rfl rfl rfl (aHK ?_))
 refine aNs (aSR (UO 7 rfl rfl (UL 5 tk3 rfl rfl rfl rfl (aU rfl (bw rfl rfl) (aNn ?_)))))
 refine ah _ rfl (fun h1 => ?_) (fun h1 => ?_)
 ·skip
  refine aSR (aA rfl (aNn (aj (aN (FZ1 [0,1,2,3,4] Tryz.results76 rfl ?_)))))
  rw [hmk,if_pos (by simpa using h1)];exact ⟨rfl,rfl,rfl⟩
 ·skip
  refine ai (an (aq (DC [6] [] [b,b1_6] 8 (CF 0 rfl rfl rfl (az rfl) (CF 1 rfl rfl rfl (cH rfl) (CF 2 rfl rfl rfl (qFA (off:=0) rfl) ?_))))))
  refine dt 3 0 rfl (by kernel_rfl) true rfl rfl (by simp) tk46 (fun _=>rfl) rfl rfl ?_
  refine CF 4 rfl rfl rfl (qFA (off:=7) rfl) ?_
  refine dt 5 5 rfl (by kernel_rfl) true rfl rfl (by simp) tk3 (fun _=>rfl) rfl rfl ?_
  refine cr 6 [] (by kernel_rfl) (bD ?_ bX)
  refine c7 6 rfl rfl (Eff.framed (q:=false) [4] rfl rfl (gF 0 rfl rfl (gF 5 rfl rfl oX)) (id (EC [] [0] rfl (aaS p M hM im.block hif.b) ?_)))
  rintro _ _ _ ⟨rfl,rfl,rfl⟩
  refine i7 (CST ?_)
  refine CF 7 rfl rfl rfl (bB rfl) (fg (by kernel_rfl) (an (aq (aq (DC [10] [] [b,b1_6] 12 (CF 0 rfl rfl rfl (az rfl) (CF 1 rfl rfl rfl (cH rfl) (CF 2 rfl rfl rfl (qFA (off:=0) rfl) ?_))))))))
  refine dt 3 0 rfl (by kernel_rfl) true rfl rfl (by simp) tk46 (fun _=>rfl) rfl rfl ?_
  refine CF 4 rfl rfl rfl (az rfl) (CF 5 rfl rfl rfl (qFA (off:=7) rfl) ?_)
  refine dt 6 5 rfl (by kernel_rfl) true rfl rfl (by simp) tk3 (fun _=>rfl) rfl rfl ?_
  refine CF 7 rfl rfl rfl (az rfl) (CF 8 rfl rfl rfl (az rfl) (CF 9 rfl rfl rfl (gr (l:=[(0,.tmp 29),(1,.tmp 31),(2,.const (.int .i64 4)),(3,.tmp 32),(4,.tmp 33)]) (zs:=[.int .i64 0,.int .i64 0,.int .i64 0,.int .i64 0,.int .i64 0]) (pl:=[(0,1),(1,1),(2,1),(3,1),(4,1)]) (by kernel_rfl) (by kernel_rfl) (by kernel_rfl) rfl rfl rfl) ?_))
  refine cr 10 [] (by kernel_rfl) (bD ?_ bX)
  refine c7 10 rfl rfl (Eff.framed (q:=false) [4] rfl rfl (gF 0 rfl rfl (gF 5 rfl rfl oX)) (id (EC [] [0] rfl (abN p M hM ⟨dD M im.block,im.block,4,t,m⟩ hai) ?_)))
  rintro _ _ _ ⟨rfl,rfl,rfl⟩
  refine i7 (CST ?_)
  refine CF 11 rfl rfl rfl (dS rfl rfl) (fg (by kernel_rfl) (an ?_))
  refine ah _ rfl (fun h2 => ?_) (fun h2 => ?_)
  ·skip
   refine aSR (aA rfl (aNn (aj (aN (FZ1 [0,1,2,3,4] Tryz.results76 rfl ?_)))))
   rw [hmk,if_neg (by simpa using h1),if_pos (by simpa using h2)];exact ⟨rfl,rfl,rfl⟩
  ·skip
   refine ai (an (aSR (aM rfl (UN rfl rfl (UO 3 rfl rfl (UL 0 tk120 rfl rfl rfl rfl (aM rfl (aM rfl (aU rfl (iF (l:=[(0,.tmp 41),(1,.tmp 42)]) (zs:=[.int .i64 0,.int .i64 0]) (sz:=1) (m:=2) (by kernel_rfl) (by kernel_rfl) rfl rfl rfl) (aM rfl (aI rfl (cP (k:=(t,m)) (v:=dD M im.block) 3 Tryz.underlying120 (lG) rfl rfl rfl rfl (aHK ?_)))))))))))))
   refine aNs (DC [7] [] [b,b1_6] 10 (CF 0 rfl rfl rfl (az rfl) (CF 1 rfl rfl rfl (cH rfl) (CF 2 rfl rfl rfl (qFA (off:=0) rfl) ?_))))
   refine dt 3 0 rfl (by kernel_rfl) true rfl rfl (by simp) tk46 (fun _=>rfl) rfl rfl ?_
   refine CF 4 rfl rfl rfl (az rfl) (CF 5 rfl rfl rfl (qFA (off:=6) rfl) ?_)
   refine dt 6 5 rfl (by kernel_rfl) true rfl rfl (by simp) tk9 (fun _=>rfl) rfl rfl ?_
   refine cr 7 [] (by kernel_rfl) (bD ?_ bX)
   refine c7 7 rfl rfl (Eff.framed (q:=false) [4] rfl rfl (gF 0 rfl rfl (gF 5 rfl rfl oX)) (id (EC [] [0] rfl (yP p _ (hM.map _) (dD M im.block) im.tls hif.t hai) ?_)))
   rintro _ _ _ ⟨rfl,rfl,rfl⟩
   refine i7 (CST ?_)
   refine CF 8 rfl rfl rfl (bw rfl rfl) (CF 9 rfl rfl rfl (bB rfl) (fg (by kernel_rfl) (an (aj (FZ1 [0,1,2,3,4] Tryz.results76 rfl ?_)))))
   rw [hmk,if_neg (by simpa using h1),if_neg (by simpa using h2)];exact ⟨rfl,rfl,rfl⟩
def iZ(c:Int × Int→Bool)(x:bk × Mem)(k:Int × Int):bk × Mem:=if c k=true then ({ x.1 with at_:=cV x.1.at_ k },(eS x.2 ((x.1.at_ k).getD 0)).1) else x
def ej(c:Int × Int→Bool)(x:bk × Mem)(ks:List (Int × Int)):bk × Mem:=ks.foldl (iZ c) x
theorem uZ{c:Int × Int→Bool}{x:bk × Mem}{ks:List (Int × Int)}{j:Nat}{k:Int × Int}(h:ks[j]? = some k):ej c x (ks.take (j+1))=iZ c (ej c x (ks.take j)) k:=by
 unfold ej;rw [List.take_add_one,h];simp
theorem zN{c:Int × Int→Bool}{x:bk × Mem}(h:cL x.2)(k:Int × Int):cL (iZ c x k).2:=by
 unfold iZ;split
 · exact h.unmap _
 · exact h
theorem sR{c:Int × Int→Bool} : ∀ (ks:List (Int × Int)) (x:bk × Mem),cL x.2→cL (ej c x ks).2
 | [],x,h=>h
 | k::ks,x,h=>sR ks _ (zN h k)
def aa5{α β:Type}(m:α→Option β):Prop:=∀ l:List α,l.Nodup→(∀ k∈l,(m k).isSome=true)→l.length≤1000000
theorem pU(b p mb tb ab:Nat)(s:bk)(hB:aa5 s.at_)(M:Mem)(hM:cL M)(g:FuncId)(hg:cM Tryz.prog g=true)(bx:Nat)(pc:Per)(c:Int × Int→Bool)(hc:∀ k,Con Tryz.prog g [cj k,.pointer (some ⟨bx,0,none⟩)] [pc] [] fun r _ _=>r=.bool (c k)) :
   Con Tryz.prog 137 [.pointer (some ⟨b,0,none⟩),.func (.func g) #[] #[.pointer (some ⟨bx,0,none⟩)]] [pc] (fO b p mb tb ab s M) fun _ ps hp=>ps=[]∧∃ ks,dw s.at_ ks∧ks.Pairwise jK∧hp=fO b p mb tb ab (ej c (s,M) ks).1 (ej c (s,M) ks).2:=by
 refine EN2 Tryz.func137 rfl (aSR (aM rfl (UN rfl rfl (UO 3 rfl rfl (UL 0 tk120 rfl rfl rfl rfl (LT rfl (EC [] [] rfl (xH ab) ?_)))))))
 rintro _ _ _ ⟨rfl,bx2,rfl,rfl⟩
 refine aST ?_
 refine LF rfl (EC [1] [3] rfl (sH (by kernel_rfl) (adH ab bx2 s.at_) hB) ?_)
 rintro r0 _ _ ⟨rfl,ks,hk,hlt,rfl⟩
 refine aST ?_
 refine aA rfl (aNn (aSR ?_))
 have hkl:ks.length≤1000000:=hB ks hk.nd fun k h=>(hk.iff k).1 h
 refine aM rfl (aU rfl (dF 5 Tryz.underlying340 rfl rfl) (aM rfl (aNn (ao ?_))))
 refine aR [0,1,13,14,15] [0] [0,1,2,3,4,5] (fun (j:Nat) s'=>j≤ks.length∧s'=⟨[(0,true,.pointer (some ⟨b,0,none⟩)),(1,true,.func (.func g) #[] #[.pointer (some ⟨bx,0,none⟩)]),(13,true,r0),(14,true,.int .i64 ks.length),(15,true,.int .i64 j)],[pc],fO b p mb tb ab (ej c (s,M) (ks.take j)).1 (ej c (s,M) (ks.take j)).2++[aD r0 133 2 (ks.map ow)]⟩) (fun j=>ks.length-j) rfl (⟨0,Nat.zero_le _,by rw [List.length_map];rfl⟩) ?_
 rintro j s' ⟨hj,rfl⟩
 refine aSR (aU rfl (bg rfl rfl) (aNs ?_))
 refine ah _ rfl (fun h1 => ?_) (fun h1 => ?_)
 ·skip
  have hj':j<ks.length:=by simpa using h1
  obtain ⟨k,hkj⟩:∃ k,ks[j]? = some k:=⟨ks[j]'hj',by simp⟩
  have hrow:(ks.map ow)[j]? = some (ow k):=by rw [List.getElem?_map,hkj];rfl
  have hsu:=uZ (c:=c) (x:=(s,M)) hkj
  have hMj:=sR (c:=c) (ks.take j) (s,M) hM
  generalize ej c (s,M) (ks.take j)=x at hsu hMj
  refine ai (an (aq (ao (aSR ?_))))
  refine aU rfl (bE 5 j el340 rfl rfl rfl rfl (by rw [List.length_map];exact hj')) ?_
  refine aU rfl (bb 5 j 0 tk133 rfl rfl hrow rfl rfl) (LT rfl (bt (zs:=[.int .i64 0,.int .i64 0]) (by kernel_rfl) rfl (fun b3_2=>(aHN ?_))))
  refine aI rfl (aW 6 tk133 rfl rfl rfl rfl (aHK ?_))
  refine aNn (aSR (aM rfl (UL 6 tk133 rfl rfl rfl rfl (aU rfl (fl hg rfl rfl (fun w S fp hst=>(hc k).quiet1 (aF 0 rfl) hst)) (aNn ?_)))))
  refine ah _ rfl (fun h2 => ?_) (fun h2 => ?_)
  ·skip
   refine aq (DC [10] [] [b,b3_2] 11 (CF 0 rfl rfl rfl (az rfl) (CF 1 rfl rfl rfl (cH rfl) (CF 2 rfl rfl rfl (qFA (off:=0) rfl) ?_))))
   refine dt 3 0 rfl (by kernel_rfl) true rfl rfl (by simp) tk46 (fun _=>rfl) rfl rfl ?_
   refine CF 4 rfl rfl rfl (az rfl) (CF 5 rfl rfl rfl (cH rfl) (CF 6 rfl rfl rfl (qFA (off:=3) rfl) ?_))
   refine dt 7 0 rfl (by kernel_rfl) true rfl rfl (by simp) tk120 (fun _=>rfl) rfl rfl ?_
   refine dt 8 6 rfl (by kernel_rfl) true rfl rfl (by simp) tk133 (fun _=>rfl) rfl rfl ?_
   refine CQ 9 rfl rfl rfl (gJ (k:=k) (v0:=(0:Int)) 3 Tryz.underlying120 (lG) (by kernel_rfl) rfl rfl rfl) ?_
   refine cr 10 [] (by kernel_rfl) (bD ?_ bX)
   refine c7 10 rfl rfl (Eff.framed (q:=false) [4] rfl rfl (gF 0 rfl rfl (gF 6 rfl rfl oX)) (id (EC [] [0] rfl (yO p _ hMj _) ?_)))
   rintro _ _ _ ⟨rfl,rfl,rfl⟩
   refine i7 (CST ?_)
   refine fg (by kernel_rfl) (an (DR [5] 6 (VM 0 rfl rfl (VN 1 rfl rfl rfl (VO 2 3 rfl rfl rfl (VL 3 0 tk120 rfl rfl rfl rfl rfl (VL 4 6 tk133 rfl rfl rfl rfl rfl (VE 5 rfl rfl (nV (k:=k) 3 Tryz.underlying120 lG rfl rfl rfl (bST rfl ?_))))))))))
   refine BN (bo (an (ae (aU rfl (aO rfl rfl (by omega)) (aM rfl (aNn ?_))))))
   refine ⟨[0,1,13,14,15],[0],[0,1,2,3,4,5],rfl,?_⟩
   refine ⟨j+1,⟨by omega,?_⟩,by omega⟩
   rw [hsu,show iZ c x k=_ from if_pos (by simpa using h2)];rfl
  ·skip
   refine ai (bo (an (ae (aU rfl (aO rfl rfl (by omega)) (aM rfl (aNn ?_))))))
   refine ⟨[0,1,13,14,15],[0],[0,1,2,3,4,5],rfl,?_⟩
   refine ⟨j+1,⟨by omega,?_⟩,by omega⟩
   rw [hsu,show iZ c x k=_ from if_neg (by simpa using h2)];rfl
 ·skip
  have hjk:ks.take j=ks:=List.take_of_length_le (by simp at h1;omega)
  rw [hjk]
  refine aS (aV (aV (ba (FZ0 [0,1,2,3,4] Tryz.results137 ?_))))
  exact ⟨rfl,ks,hk,hlt,rfl⟩
def isT(t:Int)(k:Int × Int):Bool:=decide (k.1=t)
def isM(m:Int)(k:Int × Int):Bool:=decide (k.2=m)
theorem zx(bx:Nat)(t:Int)(k:Int × Int):Con Tryz.prog 138 [cj k,.pointer (some ⟨bx,0,none⟩)] [At bx 0 [.v (.int .i64 t)]] [] fun r _ _=>r=.bool (isT t k):=by
 refine EN2 Tryz.func138 rfl ?_
 unfold cj
 refine aSR (LT rfl (bz rfl rfl rfl (fun b0_0=>(aHN ?_))))
 refine aA rfl (aNn (aSR (aU rfl (kO (0) Tryz.underlying133 tk3 rfl rfl (rfl) (by decide)) (UL 0 tk3 rfl rfl rfl rfl (UD 0 tk3 0 rfl rfl rfl rfl (aU rfl (bw rfl rfl) (aA rfl (aNn (aj (FZ1 [] Tryz.results138 rfl ?_))))))))))
 rfl
theorem uR(bx:Nat)(t:Int)(k:Int × Int):Con Tryz.prog 189 [cj k,.pointer (some ⟨bx,0,none⟩)] [At bx 0 [.v (.int .i64 t)]] [] fun r _ _=>r=.bool (isM t k):=by
 refine EN2 Tryz.func189 rfl ?_
 unfold cj
 refine aSR (LT rfl (bz rfl rfl rfl (fun b0_0=>(aHN ?_))))
 refine aA rfl (aNn (aSR (aU rfl (kO (1) Tryz.underlying133 tk3 rfl rfl (rfl) (by decide)) (UL 0 tk3 rfl rfl rfl rfl (UD 0 tk3 0 rfl rfl rfl rfl (aU rfl (bw rfl rfl) (aA rfl (aNn (aj (FZ1 [] Tryz.results189 rfl ?_))))))))))
 rfl
def mz(s:bk)(M:Mem)(t:Int)(ks:List (Int × Int)):bk × Mem:=ej (isT t) ({ s with thr:=cV s.thr t },M) ks
def goR(s:bk)(M:Mem)(m:Int)(ks:List (Int × Int)):bk × Mem:=ej (isM m) ({ s with mods:=cV s.mods m },M) ks
theorem sM(b p mb tb ab:Nat)(s:bk)(hB:aa5 s.at_)(M:Mem)(hM:cL M)(t:Int) :
   Con Tryz.prog 64 [.pointer (some ⟨b,0,none⟩),.int .i64 t] [] (fO b p mb tb ab s M) fun _ ps hp=>ps=[]∧∃ ks,dw s.at_ ks∧ks.Pairwise jK∧hp=fO b p mb tb ab (mz s M t ks).1 (mz s M t ks).2:=by
 refine EN2 Tryz.func64 rfl (aSR (LT rfl (bz rfl rfl rfl (fun b0_0=>(aHN ?_)))))
 refine aNs (DR [5] 6 (VM 0 rfl rfl (VN 1 rfl rfl rfl (VO 2 2 rfl rfl rfl (VL 3 0 tk119 rfl rfl rfl rfl rfl (VL 4 5 tk3 rfl rfl rfl rfl rfl (VE 5 rfl rfl (nV (k:=t) 2 Tryz.underlying119 keI rfl rfl rfl (bST rfl ?_)))))))))
 refine BN (an (bd 5 rfl rfl ?_))
 show awp _ _ _ _ ⟨_,At _ 0 _::_,_⟩
 refine ae (aM rfl (aU rfl (dB (l:=[.tmp 3]) rfl) (LF rfl (EC [0] [0,1,2,3,4] rfl (pU b p mb tb ab { s with thr:=cV s.thr t } hB M hM 138 (by kernel_rfl) b0_0 _ (isT t) (fun k=>zx b0_0 t k)) ?_))))
 rintro _ _ _ ⟨rfl,ks,hk,hlt,rfl⟩
 refine aST ?_
 refine bK (FZ0 [0,1,2,3,4] Tryz.results64 ?_)
 exact ⟨rfl,ks,hk,hlt,rfl⟩
theorem abg(b p mb tb ab:Nat)(s:bk)(hB:aa5 s.at_)(M:Mem)(hM:cL M)(m:Int) :
   Con Tryz.prog 78 [.pointer (some ⟨b,0,none⟩),.int .i64 m] [] (fO b p mb tb ab s M) fun _ ps hp=>ps=[]∧∃ ks,dw s.at_ ks∧ks.Pairwise jK∧hp=fO b p mb tb ab (goR s M m ks).1 (goR s M m ks).2:=by
 refine EN2 Tryz.func78 rfl (aSR (LT rfl (bz rfl rfl rfl (fun b0_0=>(aHN ?_)))))
 refine aNs (DR [5] 6 (VM 0 rfl rfl (VN 1 rfl rfl rfl (VO 2 1 rfl rfl rfl (VL 3 0 tk118 rfl rfl rfl rfl rfl (VL 4 5 tk3 rfl rfl rfl rfl rfl (VE 5 rfl rfl (nV (k:=m) 1 Tryz.underlying118 keI rfl rfl rfl (bST rfl ?_)))))))))
 refine BN (an (bd 5 rfl rfl ?_))
 show awp _ _ _ _ ⟨_,At _ 0 _::_,_⟩
 refine ae (aM rfl (aU rfl (dB (l:=[.tmp 3]) rfl) (LF rfl (EC [0] [0,1,2,3,4] rfl (pU b p mb tb ab { s with mods:=cV s.mods m } hB M hM 189 (by kernel_rfl) b0_0 _ (isM m) (fun k=>uR b0_0 m k)) ?_))))
 rintro _ _ _ ⟨rfl,ks,hk,hlt,rfl⟩
 refine aST ?_
 refine bK (FZ0 [0,1,2,3,4] Tryz.results78 ?_)
 exact ⟨rfl,ks,hk,hlt,rfl⟩
def e7{α β:Type}(m:α→Option β)(N:Nat):Prop:=∀ l:List α,l.Nodup→(∀ k∈l,(m k).isSome=true)→l.length≤N
theorem e7.toK{α β:Type}{m:α→Option β}{N:Nat}(h:e7 m N)(hN:N≤1000000):aa5 m:=fun l h1 h2=>Nat.le_trans (h l h1 h2) hN
theorem e7.put{α β:Type}[DecidableEq α]{m:α→Option β}{N:Nat}(h:e7 m N)(k:α)(v:β):e7 (aZ m k v) (N+1):=fun l h1 h2=>by
 have h3:=h (l.erase k) (h1.erase k) fun a ha=>by
   have ha2:=(List.Nodup.mem_erase_iff h1).1 ha
   have:=h2 a ha2.2
   unfold aZ at this;rw [if_neg ha2.1] at this;exact this
 have:l.length≤(l.erase k).length+1:=by rw [List.length_erase];split<;>omega
 omega
theorem e7.del{α β:Type}[DecidableEq α]{m:α→Option β}{N:Nat}(h:e7 m N)(k:α):e7 (cV m k) N:=fun l h1 h2=>h l h1 fun a ha=>by
 have:=h2 a ha
 unfold cV at this
 split at this
 · cases this
 · exact this
theorem e7.mono{α β:Type}{m:α→Option β}{N K:Nat}(h:e7 m N)(hN:N≤K):e7 m K:=fun l h1 h2=>Nat.le_trans (h l h1 h2) hN
def cQ(f:bk × Mem→Int→bk × Mem × Bool):bk × Mem→List Int→(bk × Mem) × Bool
 | x,[]=>(x,true)
 | x,k::ks=>if (f x k).2.2=true then cQ f ((f x k).1,(f x k).2.1) ks else (((f x k).1,(f x k).2.1),false)
theorem fx{f:bk × Mem→Int→bk × Mem × Bool}{x:bk × Mem}{k:Int}{ks:List Int}(h:(f x k).2.2=true):cQ f x (k::ks)=cQ f ((f x k).1,(f x k).2.1) ks:=if_pos h
theorem oh{f:bk × Mem→Int→bk × Mem × Bool}{x:bk × Mem}{k:Int}{ks:List Int}(h:(f x k).2.2=false):cQ f x (k::ks)=(((f x k).1,(f x k).2.1),false):=if_neg (by rw [h];decide)
def eH(t:Int)(x:bk × Mem)(m:Int):bk × Mem × Bool:=mkT x.1 x.2 t m
def fJ(m:Int)(x:bk × Mem)(t:Int):bk × Mem × Bool:=mkT x.1 x.2 t m
theorem tk(s:bk)(M:Mem)(t m:Int):(mkT s M t m).1.mods=s.mods:=by unfold mkT;dsimp only;repeat (first | rfl | split)
theorem mI{s:bk}{M:Mem}{N:Nat}(h:e7 s.at_ N)(t m:Int):e7 (mkT s M t m).1.at_ (N+1):=by
 unfold mkT;dsimp only
 split
 · exact h.mono (by omega)
 · split
   · exact h.mono (by omega)
   · exact h.put _ _
theorem cL.write{M:Mem}(h:cL M)(t:Int)(b:List UInt8):cL (df M t b).1:=by
 unfold df
 split
 · exact h
 · split
   · rename_i x hx
     obtain ⟨h1,h2,h3,h4⟩:=gn hx
     have hl:=h.inv.len x h1
     exact h.upd h1 (ji (by omega))
   · exact h
theorem ru{s:bk}{M:Mem}(h:cL M)(t m:Int):cL (mkT s M t m).2.1:=by
 unfold mkT;dsimp only
 split
 · exact h
 · split
   · exact h.map _
   · exact (h.map _).write _ _
def rT (s:bk) (M:Mem) (t:Int) (x:bk × Mem) (e:Int):Prop :=
 (t<0∧x=(s,M)∧e=1)∨(0≤t∧(s.thr t).getD false=true∧x=(s,M)∧e=4) ∨
 (0 ≤ t∧(s.thr t).getD false=false∧∃ ks,dw s.mods ks∧ks.Pairwise (fun a b=>a<b) ∧
   (((cQ (eH t) ({ s with thr:=aZ s.thr t true },M) ks).2=true∧x=(cQ (eH t) ({ s with thr:=aZ s.thr t true },M) ks).1∧e=0) ∨
    ((cQ (eH t) ({ s with thr:=aZ s.thr t true },M) ks).2=false∧e=7∧∃ y ds,y=(cQ (eH t) ({ s with thr:=aZ s.thr t true },M) ks).1∧dw y.1.at_ ds∧ds.Pairwise jK∧x=mz y.1 y.2 t ds)))
theorem fI(b p mb tb ab:Nat)(s:bk)(hs:∀ k im,s.mods k=some im→gN im){A B:Nat}(hA:e7 s.at_ A)(hB:e7 s.mods B)(hAB:A+B≤1000000)(M:Mem)(hM:cL M)(t:Int) :
   Con Tryz.prog 18 [.pointer (some ⟨b,0,none⟩),.int .i64 t] [] (fO b p mb tb ab s M) fun r ps hp=>ps=[]∧∃ x e,rT s M t x e∧r=.int .i64 e∧hp=fO b p mb tb ab x.1 x.2:=by
 refine EN2 Tryz.func18 rfl (aSR (aA rfl (aNs (aSR (aM rfl (aU rfl (bg rfl rfl) (aNn ?_)))))))
 refine ah _ rfl (fun h1 => ?_) (fun h1 => ?_)
 ·skip
  refine aSR (aA rfl (aNn (aj (aN (FZ1 [0,1,2,3,4] Tryz.results18 rfl ?_)))))
  exact ⟨rfl,(s,M),1,.inl ⟨by simpa using h1,rfl,rfl⟩,rfl,rfl⟩
 ·skip
  have ht0:0≤t:=by simp at h1;omega
  refine ai (an (aq (aSR (aM rfl (UN rfl rfl (UO 2 rfl rfl (UL 0 tk119 rfl rfl rfl rfl (aM rfl (aU rfl (gJ (k:=t) (v0:=false) 2 Tryz.underlying119 (keI) (by kernel_rfl) rfl rfl rfl) (aNn ?_))))))))))
  refine ah _ rfl (fun h2 => ?_) (fun h2 => ?_)
  ·skip
   refine aSR (aA rfl (aNn (aj (aN (FZ1 [0,1,2,3,4] Tryz.results18 rfl ?_)))))
   exact ⟨rfl,(s,M),4,.inr (.inl ⟨ht0,h2,rfl,rfl⟩),rfl,rfl⟩
  ·skip
   refine ai (an (aSR (aM rfl (UN rfl rfl (UO 2 rfl rfl (UL 0 tk119 rfl rfl rfl rfl (aM rfl (aI rfl (cP (k:=t) (v:=true) 2 Tryz.underlying119 (keI) rfl rfl rfl rfl (aHK ?_))))))))))
   refine aNs (aSR (aM rfl (UN rfl rfl (UO 1 rfl rfl (UL 0 tk118 rfl rfl rfl rfl (LT rfl (EC [] [] rfl (xG mb) ?_)))))))
   rintro _ _ _ ⟨rfl,bx2,rfl,rfl⟩
   refine aST ?_
   refine LF rfl (EC [0] [1] rfl (l7 (by kernel_rfl) (adG mb bx2 s.mods) (hB.toK (by omega))) ?_)
   rintro r6 _ _ ⟨rfl,ks,hk,hlt,rfl⟩
   refine aST ?_
   have hkl:ks.length≤B:=hB ks hk.nd fun k h=>(hk.iff k).1 h
   refine aU rfl (dF 5 Tryz.underlying26 rfl rfl) (aM rfl (aNn (ao ?_)))
   refine aR [0,1,25,26,27] [] [0,1,2,3,4,5] (fun (q:Nat × (bk × Mem)) s'=>q.1≤ks.length∧cQ (eH t) ({ s with thr:=aZ s.thr t true },M) ks=cQ (eH t) q.2 (ks.drop q.1)∧q.2.1.mods=s.mods∧cL q.2.2∧e7 q.2.1.at_ (A+q.1)∧s'=⟨[(0,true,.pointer (some ⟨b,0,none⟩)),(1,true,.int .i64 t),(25,true,r6),(26,true,.int .i64 ks.length),(27,true,.int .i64 q.1)],[],fO b p mb tb ab q.2.1 q.2.2++[aD r6 3 1 (ks.map gl)]⟩) (fun q=>ks.length-q.1) rfl (⟨(0,({ s with thr:=aZ s.thr t true },M)),Nat.zero_le _,rfl,rfl,hM,hA,by rw [List.length_map];rfl⟩) ?_
   rintro ⟨j,x⟩ s' ⟨hj,hmk,hmo,hMx,hAx,rfl⟩
   dsimp only at hj hmk hmo hMx hAx
   refine aSR (aU rfl (bg rfl rfl) (aNs ?_))
   refine ah _ rfl (fun h3 => ?_) (fun h3 => ?_)
   ·skip
    have hj':j<ks.length:=by simpa using h3
    obtain ⟨k,hkj⟩:∃ k,ks[j]? = some k:=⟨ks[j]'hj',by simp⟩
    have hrow:(ks.map gl)[j]? = some (gl k):=by rw [List.getElem?_map,hkj];rfl
    have hdr:ks.drop j=k::ks.drop (j+1):=by rw [List.drop_eq_getElem_cons hj'];congr 1;rw [List.getElem?_eq_getElem hj'] at hkj;exact Option.some.inj hkj
    rw [hdr] at hmk
    refine ai (an (aq (ao (aSR ?_))))
    refine aU rfl (bE 5 j el26 rfl rfl rfl rfl (by rw [List.length_map];exact hj')) ?_
    refine aU rfl (bb 5 j 0 tk3 rfl rfl hrow rfl rfl) (aA rfl (aNn (aSR (aM rfl (aM rfl (aM rfl (LF rfl (EC [] [0,1,2,3,4] rfl (pW b p mb tb ab x.1 (fun k im h=>hs k im (hmo ▸ h)) x.2 hMx t k) ?_))))))))
    rintro _ _ _ ⟨rfl,rfl,rfl⟩
    refine aST ?_
    refine aU rfl (bY rfl) (aNn ?_)
    refine ah _ rfl (fun h4 => ?_) (fun h4 => ?_)
    ·skip
     have hno:(mkT x.1 x.2 t k).2.2=false:=by simpa using h4
     have hmk2:cQ (eH t) ({ s with thr:=aZ s.thr t true },M) ks=(((mkT x.1 x.2 t k).1,(mkT x.1 x.2 t k).2.1),false):=hmk.trans (oh (f:=eH t) hno)
     refine aSR (aM rfl (aM rfl (LF rfl (EC [] [0,1,2,3,4] rfl (sM b p mb tb ab (mkT x.1 x.2 t k).1 ((mI hAx t k).toK (by omega)) (mkT x.1 x.2 t k).2.1 (ru hMx t k) t) ?_))))
     rintro _ _ _ ⟨rfl,ds,hd,hdl,rfl⟩
     refine aST ?_
     refine aNn (aSR (aA rfl (aNn (aj (bH (aN (aN (bH (aN (FZ1 [0,1,2,3,4] Tryz.results18 rfl ?_))))))))))
     exact ⟨rfl,mz (mkT x.1 x.2 t k).1 (mkT x.1 x.2 t k).2.1 t ds,7,.inr (.inr ⟨ht0,by simpa using h2,ks,hk,hlt,.inr ⟨by rw [hmk2],rfl,((mkT x.1 x.2 t k).1,(mkT x.1 x.2 t k).2.1),ds,by rw [hmk2],hd,hdl,rfl⟩⟩),rfl,rfl⟩
    ·skip
     have hyes:(mkT x.1 x.2 t k).2.2=true:=by simpa using h4
     have hmk2:cQ (eH t) ({ s with thr:=aZ s.thr t true },M) ks=cQ (eH t) ((mkT x.1 x.2 t k).1,(mkT x.1 x.2 t k).2.1) (ks.drop (j+1)):=hmk.trans (fx (f:=eH t) hyes)
     refine ai (bo (an (ae (aU rfl (aO rfl rfl (by omega)) (aM rfl (aNn ?_))))))
     refine ⟨[0,1,25,26,27],[],[0,1,2,3,4,5],rfl,?_⟩
     refine ⟨(j+1,((mkT x.1 x.2 t k).1,(mkT x.1 x.2 t k).2.1)),⟨by omega,hmk2,(tk _ _ _ _).trans hmo,ru hMx t k,mI hAx t k,rfl⟩,by dsimp only;omega⟩
   ·skip
    have hdr:ks.drop j=[]:=List.drop_of_length_le (by simp at h3;omega)
    rw [hdr] at hmk
    refine aS (aV (aV (ba (an (aSR (aA rfl (aNn (aj (FZ1 [0,1,2,3,4] Tryz.results18 rfl ?_)))))))))
    exact ⟨rfl,x,0,.inr (.inr ⟨ht0,by simpa using h2,ks,hk,hlt,.inl ⟨by rw [hmk];rfl,by rw [hmk];rfl,rfl⟩⟩),rfl,rfl⟩
end Go.Proofs.YtfkcmbonmpcbfaaGreat

namespace Go.Proofs.YtfkcmbonmpcbfaaGreat
open Go.RowKit Go.Lp Go.Sy Go.Lv
theorem wM{α:Type}[DecidableEq α]{l:List α}{a:α} : (ee l a).getD false=true↔a∈l:=by unfold ee;by_cases h:a∈l<;>simp [h]
def nS(a b:bj):Bool:=decide (a.at_+a.size≤b.at_) || decide (b.at_+b.size≤a.at_)
theorem uY{a b:bj}(h:nS a b=true):nS b a=true:=by unfold nS at *;rw [Bool.or_comm];exact h
def jd:List bj→Bool
 | []=>true
 | a::l=>l.all (nS a) && jd l
theorem lJ:∀ {l:List bj},jd l=true↔l.Pairwise fun a b=>nS a b=true
 | []=>by simp [jd]
 | a::l=>by rw [jd,Bool.and_eq_true,List.all_eq_true,List.pairwise_cons,lJ]
def eX(s:bj):Bool := !decide (s.size≤0)
def mU(l:List bj):Bool:=jd (l.filter eX)
def zk(q:List bj)(i:Nat)(a:bj):Bool:=decide ((i:Int)=0) || decide ((elt q ((i:Int)-1)).at_+(elt q ((i:Int)-1)).size≤a.at_)
theorem vr{l m:List bj}(h:l.Perm m):jd l=jd m:=by
 rw [Bool.eq_iff_iff,lJ,lJ]
 exact h.pairwise_iff fun h=>uY h
theorem mV:∀ {q:List bj},(∀ s∈q,eX s=true)→(q.Pairwise fun a b=>a.at_≤b.at_)→((∀ k a b,q[k]? = some a→q[k+1]? = some b→a.at_+a.size≤b.at_)↔jd q=true)
 | [],_,_=>by simp [jd]
 | [a],_,_=>by simp [jd]
 | a :: b::q,hf,hs=>by
   have ih:=mV (q:=b::q) (fun s hs=>hf s (List.mem_cons_of_mem _ hs)) (List.pairwise_cons.1 hs).2
   have ha:¬ a.size≤0:=by have:=hf a (by simp);simpa [eX] using this
   have hb:¬ b.size≤0:=by have:=hf b (by simp);simpa [eX] using this
   rw [List.pairwise_cons] at hs
   have hab:=hs.1 b (by simp)
   have hbc:=(List.pairwise_cons.1 hs.2).1
   rw [jd,Bool.and_eq_true,← ih,List.all_eq_true]
   constructor
   · intro h
     have h0:=h 0 a b rfl rfl
     refine ⟨fun s hm => ?_,fun k x y hx hy=>h (k+1) x y (by simpa using hx) (by simpa using hy)⟩
     unfold nS
     rw [Bool.or_eq_true,decide_eq_true_eq]
     rcases List.mem_cons.1 hm with rfl | hm
     · exact .inl h0
     · have:=hbc s hm;left;omega
   · rintro ⟨h1,h2⟩ k x y hx hy
     cases k with
     | zero =>
       simp at hx hy;subst hx;subst hy
       have:=h1 b (by simp)
       unfold nS at this
       rw [Bool.or_eq_true,decide_eq_true_eq,decide_eq_true_eq] at this
       rcases this with h | h
       · exact h
       · omega
     | succ k=>exact h2 k x y (by simpa using hx) (by simpa using hy)
theorem sf{l q:List bj}(hp:q.Perm (l.filter eX))(hs:q.Pairwise fun a b=>¬ jX b.at_ a.at_<0):allI (zk q) 0 q=mU l:=by
 unfold mU
 rw [← vr hp,Bool.eq_iff_iff,gO,← mV (fun s h=>(List.mem_filter.1 (hp.mem_iff.1 h)).2) (hs.imp fun h=>by rw [kr] at h;omega)]
 constructor
 · intro h k a b ha hb
   have:=h (k+1) b hb
   have hk:=(List.getElem?_eq_some_iff.1 ha).1
   have he:elt q (((0+(k+1):Nat):Int)-1)=a:=by
     rw [show (((0+(k+1):Nat):Int)-1)=(k:Int) by omega]
     unfold elt;rw [List.getD_eq_getElem?_getD,Int.toNat_natCast,ha];rfl
   unfold zk at this
   rw [he,Bool.or_eq_true,decide_eq_true_eq,decide_eq_true_eq] at this
   rcases this with h | h
   · omega
   · exact h
 · intro h k b hb
   unfold zk
   rw [Bool.or_eq_true,decide_eq_true_eq,decide_eq_true_eq]
   cases k with
   | zero=>left;rfl
   | succ k =>
     right
     have hk:=(List.getElem?_eq_some_iff.1 hb).1
     have ha:q[k]? = some q[k]:=List.getElem?_eq_getElem (by omega)
     have he:elt q (((0+(k+1):Nat):Int)-1)=q[k]:=by
       rw [show (((0+(k+1):Nat):Int)-1)=(k:Int) by omega]
       unfold elt;rw [List.getD_eq_getElem?_getD,Int.toNat_natCast,ha];rfl
     rw [he];exact h k _ b ha hb
structure ke (g:bj→Bool) (zs ys:List bj) (w r:Nat):Prop where
 ln:ys.length=zs.length
 wr:w<r
 rl:r≤zs.length
 kp:ys.take w=(zs.take r).filter fun a => !g a
 rs:ys.drop r=zs.drop r
section
variable {g:bj→Bool} {zs ys:List bj} {w r i:Nat} {a:bj}
theorem ke.start(ha:zs[i]? = some a)(hg:g a=true)(h:∀ b∈zs.take i,g b=false):ke g zs zs i (i+1):=by
 have hi:=(List.getElem?_eq_some_iff.1 ha).1
 refine ⟨rfl,Nat.lt_succ_self _,hi,?_,rfl⟩
 rw [List.take_add_one,ha,Option.toList_some,List.filter_append,List.filter_eq_self.2 fun b hb=>by rw [h b hb];rfl]
 simp [hg]
theorem ke.get(h:ke g zs ys w r)(hr:r<zs.length):ys[r]? = zs[r]? := by
 have:=congrArg (·[0]?) h.rs
 simpa [List.getElem?_drop] using this
theorem ke.keep(h:ke g zs ys w r)(ha:zs[r]? = some a)(hg:g a=false):ke g zs (ys.set w a) (w+1) (r+1):=by
 have hr:=(List.getElem?_eq_some_iff.1 ha).1
 have hln:=h.ln
 have hwr:=h.wr
 refine ⟨by rw [List.length_set];exact hln,by omega,hr,?_,?_⟩
 · rw [List.take_add_one,List.getElem?_set_self (by omega),List.take_set_of_le (Nat.le_refl _),h.kp,List.take_add_one,ha]
   simp [hg]
 · rw [List.drop_set_of_lt (by omega)]
   have:=congrArg (List.drop 1) h.rs
   rwa [List.drop_drop,List.drop_drop] at this
theorem ke.drop(h:ke g zs ys w r)(ha:zs[r]? = some a)(hg:g a=true):ke g zs ys w (r+1):=by
 have hr:=(List.getElem?_eq_some_iff.1 ha).1
 have hwr:=h.wr
 refine ⟨h.ln,by omega,hr,?_,?_⟩
 · rw [h.kp,List.take_add_one,ha];simp [hg]
 · have:=congrArg (List.drop 1) h.rs
   rwa [List.drop_drop,List.drop_drop] at this
theorem ke.all(h:ke g zs ys w r)(hr:zs.length≤r):ys.take w=zs.filter fun a => !g a:=by rw [h.kp,List.take_of_length_le hr]
end

abbrev pV(p:Int × Int):Value:=.agg #[.int .i64 p.1,.int .i64 p.2]
def vv(im:ak)(k:Int):Int:=if k=1 then im.code else if k=2 then im.data else 0
def vu(im:ak)(k:Int):Int:=if k=0 then im.code else if k=1 then im.data else if k=2 then im.zero else im.block
theorem aax(im:ak){k:Int}(h:0≤k∧k≤4):(aZ (aZ (aZ (aZ (aZ (fun _=>none) 0 ((0:Int),im.code)) 1 (im.code,im.data)) 2 (im.data,im.zero)) 3 ((0:Int),im.block)) 4 ((0:Int),im.block) k).getD ((0:Int),(0:Int))=(vv im k,vu im k):=by
 unfold aZ vv vu
 rcases (by omega:k=0∨k=1∨k=2∨k=3∨k=4) with rfl | rfl | rfl | rfl | rfl<;>simp
def kK(x:bp):Bool:=((((((!fV x.kind 0 4) || (!dV x.sec)) || (!kJ x.obj)) || (!decide ((x.digest.size:Int)=32))) || ((!decide ((x.form.size:Int)=0)) && (!decide ((x.form.size:Int)=32)))) || (!fV x.size 0 1048576)) || (!fV x.at_ 0 1048576)
def acC(im:ak)(x:bp):Bool:=(decide (vv im x.kind≤x.at_) && decide (x.at_+x.size≤vu im x.kind)) && ((!decide (x.kind=0)) || decide (x.at_.tmod 8=0))
def jP(im:ak)(x:bp):Bool:=(!kK x) && acC im x
theorem mg{x:bp}(h:kK x=false):(0≤x.kind∧x.kind≤4)∧(0≤x.size∧x.size≤1048576)∧(0≤x.at_∧x.at_≤1048576):=by
 unfold kK at h
 simp only [Bool.or_eq_false_iff,Bool.not_eq_false',ko] at h
 exact ⟨h.1.1.1.1.1.1,h.1.2,h.2⟩
end Go.Proofs.YtfkcmbonmpcbfaaGreat

