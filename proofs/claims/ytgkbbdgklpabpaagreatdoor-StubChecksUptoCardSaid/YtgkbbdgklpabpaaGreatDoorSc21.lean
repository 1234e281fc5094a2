/- Parts of the proof, in build order. No condition. -/
import Derived.Test.YtgkbbdgklpabpaaGreatDoorSc20
import Derived.Test.YtgkbbdgklpabpaaGreatDoorSc06
import Derived.Lib.Hide
import Derived.Test.YtgkbbdgklpabpaaGreatDoorSc07
import Derived.Test.YtgkbbdgklpabpaaGreatDoorSc05
import Derived.Test.YtgkbbdgklpabpaaGreatDoorSc09
import Derived.Test.YtgkbbdgklpabpaaGreatDoorSc15
import Derived.Test.YtgkbbdgklpabpaaGreatDoorSc12
import Derived.Test.YtgkbbdgklpabpaaGreatDoorSc11
set_option linter.unusedSimpArgs false
set_option linter.unusedVariables false
set_option maxHeartbeats 20000000
set_option maxRecDepth 20000
namespace Go.Proofs.YtgkbbdgklpabpaaGreatDoor
open Go.RowKit Go.Lp Go.Sy
open Go.Proofs.Tryz
attribute [local irreducible] aL aB awp aC fwp Quiet
def dA(x n:Int):Bool:=decide (0≤x) && decide (x≤1099511627776) && decide (0≤n) && decide (n≤1099511627776-x)
theorem gF(x n:Int)(hx:I64 x)(hn:I64 n):Con Tryz.prog 92 [.agg #[.int .i64 x,.int .i64 n]] [] [] fun v _ _=>v=.bool (dA x n):=by
 unfold I64 at hx hn
 refine EN1 Tryz.func92 rfl (aSR (LT rfl (aS rfl rfl rfl (fun b0_0=>(aHN ?_)))))
 refine go 2 [0,0,0,0,0,0,0,0,0,0,1,0,0,0,0,1,0,0,0,0,0,0,0] ?_
 refine ae (FZ1 [] Tryz.results92 rfl ?_)
 rfl
theorem fS(x n:Int)(h:I64 (x+n)):Con Tryz.prog 94 [.agg #[.int .i64 x,.int .i64 n]] [] [] fun v _ _=>v=.int .i64 (x+n):=by
 unfold I64 at h
 refine EN1 Tryz.func94 rfl (aSR (LT rfl (aS rfl rfl rfl (fun b0_0=>(aHN ?_)))))
 refine go 2 [0,0,0,1,0,0,0] ?_
 refine ae (FZ1 [] Tryz.results94 rfl ?_)
 rfl
abbrev Span:=Int × Int
def aV(p:Span):List D:=[.v (.int .i64 p.1),.v (.int .i64 p.2)]
theorem cU{x n:Int} : dA x n=true↔0≤x∧x≤1099511627776∧0≤n∧n≤1099511627776-x:=by
 simp only [dA,Bool.and_eq_true,decide_eq_true_eq,and_assoc]
def oo(l:List Span)(i:Nat)(p:Span):Bool := !((!dA p.1 p.2 || decide (p.2=0)) || (decide (0<(i:Int)) && decide (p.1≤(l.getD (i-1) (0,0)).1+(l.getD (i-1) (0,0)).2)))
def rgB(l:List Span):Bool:=l.zipIdx.all fun x=>oo l x.2 x.1
theorem gj{l:List Span} : rgB l=true↔∀ (j:Nat) (p:Span),l[j]? = some p→oo l j p=true:=by
 unfold rgB
 rw [List.all_eq_true]
 constructor
 · intro h j p hp
   exact h (p,j) (by rw [List.mem_zipIdx_iff_getElem?];exact hp)
 · rintro h ⟨p,j⟩ hx
   exact h j p (by rw [List.mem_zipIdx_iff_getElem?] at hx;exact hx)
theorem gV{l:List Span}{i:Nat}{p:Span}(h:oo l i p=true):dA p.1 p.2=true:=by
 unfold oo at h
 cases hv:dA p.1 p.2 with
 | true=>rfl
 | false=>rw [hv] at h;simp at h
theorem gC(l:List Span)(ad:Option Addr)(c:Nat)(hl:∀ p∈l,I64 p.1∧I64 p.2):Con Tryz.prog 91 [.slice ad l.length c] [Sh (.slice ad l.length c) (.sl (l.map aV))] [] fun v _ _=>v=.bool (rgB l):=by
 have HL:=Lib.hid hl
 clear hl
 refine EN1 Tryz.func91 rfl (jX 0 rfl (fun hlen => ?_))
 rw [List.length_map] at hlen
 refine go 3 [0,0,95,0] ?_
 refine aF [0,5,6,7] [0] [] (fun (k:Nat) s=>(k≤l.length∧∀ j p,j<k→l[j]? = some p→oo l j p=true)∧s=⟨[(0,true,.slice ad l.length c),(5,true,.slice ad l.length c),(6,true,.int .i64 l.length),(7,true,.int .i64 k)],[Sh (.slice ad l.length c) (.sl (l.map aV))],[]⟩) (fun k=>l.length-k) rfl (⟨0,⟨Nat.zero_le _,by omega⟩,rfl⟩) ?_
 rintro k s ⟨⟨hk,hok⟩,rfl⟩
 refine go 3 [0] ?_
 refine aa _ rfl (fun h1 => ?_) (fun h1 => ?_)
 ·skip
  have hk':k<l.length:=by simpa using h1
  obtain ⟨p,hp⟩:∃ p,l[k]? = some p:=⟨l[k]'hk',by simp⟩
  have hpI:=HL.out p (List.mem_of_getElem? hp)
  have hv0:0<k→dA (l.getD (k-1) (0,0)).1 (l.getD (k-1) (0,0)).2=true:=fun h0=>gV (hok (k-1) _ (by omega) (by simp [List.getD,show k-1<l.length by omega]))
  refine go 0 [0] ?_
  refine bI true rfl rfl (fun _=>eV Tryz.underlying78 tk95 rfl (ax 0 rfl) rfl (row:=aV p) (by simp [hp]) rfl rfl) (fun h=>absurd h (by decide)) (fun ⟨b3_1,o3_1⟩ => ?_)
  refine aU rfl (cq (o:=0) (v:=.agg #[.int .i64 p.1,.int .i64 p.2]) tk95 rfl (ax 0 rfl) rfl rfl) (LT rfl (aW (zs:=[.int .i64 0,.int .i64 0]) (by kernel_rfl) rfl (fun b3_3=>(aHN ?_))))
  refine go 3 [0,4608] ?_
  refine DR [] 23 (go 0 [9216] ?_)
  refine bV 1 rfl rfl (Q0 rfl (gF _ _ hpI.1 hpI.2)) (go 0 [0,0,2,0,0,0,0,0,0,0,0,0,0] ?_)
  refine dz 15 rfl (by kernel_rfl) _ rfl rfl (fun hc=>eV Tryz.underlying78 tk95 (ah rfl hc) (ax 1 rfl) (ah rfl hc) (i:=k-1) (row:=aV (l.getD (k-1) (0,0))) (by have h:=gT hc;simp at h;simp [List.getD,show k-1<l.length by omega]) (by have h:=gT hc;simp at h;omega) rfl) (fun _=>⟨(0,0)⟩) (fun ⟨b4_15,o4_15⟩ => ?_)
  refine bW 16 rfl rfl rfl (fun hc=>cq (o:=0) (v:=.agg #[.int .i64 (l.getD (k-1) (0,0)).1,.int .i64 (l.getD (k-1) (0,0)).2]) tk95 (ah rfl hc) (ax 0 rfl) hc rfl) ?_
  refine bW 17 rfl rfl rfl (fun hc=>Q0 (ao (ah rfl hc) rfl) (fS _ _ (by have h:=gT hc;simp at h;have:=cU.1 (hv0 h);unfold I64;omega))) ?_
  refine go 2 [0,0,0,0,0] ?_
  refine aa _ rfl (fun h2 => ?_) (fun h2 => ?_)
  ·skip
   refine go 2 [0] ?_
   refine ae (aK (aj (aj (aK (aj (FZ1 [] Tryz.results91 rfl ?_))))))
   have hno:oo l k p=false:=by unfold oo;rw [h2];rfl
   show Value.bool false=.bool (rgB l)
   congr 1;symm
   cases hr:rgB l with
   | false=>rfl
   | true=>rw [gj.1 hr k p hp] at hno;cases hno
  ·skip
   refine go 1 [0,0] ?_
   refine an ?_
   refine ⟨[0,5,6,7],[0],[],rfl,?_⟩
   refine ⟨k+1,⟨⟨by omega,fun j q hj hq => ?_⟩,rfl⟩,by omega⟩
   rcases Nat.lt_succ_iff_lt_or_eq.1 hj with h | rfl
   · exact hok j q h hq
   · obtain rfl:p=q:=by rw [hp] at hq;injection hq
     unfold oo;rw [h2];rfl
 ·skip
  refine go 2 [0] ?_
  refine ae (FZ1 [] Tryz.results91 rfl ?_)
  show Value.bool true=.bool (rgB l)
  rw [gj.2 (fun j p hp=>hok j p (by have:=(List.getElem?_eq_some_iff.1 hp).1;simp at h1;omega) hp)]
def ek(f u:Int):List Span:=if f<u then [(f,u-f)] else []
theorem vu(f u:Int)(b:Nat)(ad:Option Addr)(c:Nat)(rows:List Span)(hI:I64 (u-f))(hlen:rows.length≤999999998) :
   Con Tryz.prog 127 [.int .i64 f,.int .i64 u,.pointer (some ⟨b,0,none⟩)] [] [Box b 78 [.slice ad rows.length c],aP (.slice ad rows.length c) 95 2 (rows.map aV)]
     fun r ps' hp'=>r=.tuple #[]∧ps'=[]∧∃ ad' c',hp'=[Box b 78 [.slice ad' (rows++ek f u).length c'],aP (.slice ad' (rows++ek f u).length c') 95 2 ((rows++ek f u).map aV)]:=by
 unfold I64 at hI
 refine EN3 Tryz.func127 rfl (go 2 [0,0,0] ?_)
 refine aa _ rfl (fun h1 => ?_) (fun h1 => ?_)
 ·skip
  refine go 0 [0,0,0,0,0] ?_
  refine aU rfl (bP (l:=[(0,.tmp 9),(1,.tmp 12)]) (zs:=[.int .i64 0,.int .i64 0]) (pl:=[(0,1),(1,1)]) (by kernel_rfl) (by kernel_rfl) (by kernel_rfl) rfl rfl rfl) (LT rfl (WL (zs:=[.int .i64 0,.int .i64 0]) el78 rfl rfl rfl (.more rfl (.v rfl (.v rfl .nil)) .nil) rfl rfl (fun v1_6=>(aHN ?_))))
  refine aT rfl (bH 1 el78 rfl rfl rfl rfl (cP 2 el78 rfl (by simp)) (by first | assumption | simp) (by simp;omega) (rows.length+1) (by simp) (fun v1_7 c1_7 => ?_))
  refine aHK ?_
  refine go 1 [0] ?_
  refine FZ0 [0,1] Tryz.results127 ?_
  refine ⟨rfl,rfl,v1_7,c1_7,?_⟩
  have:ek f u=[(f,u-f)]:=by unfold ek;rw [if_pos (by simpa using h1)]
  rw [this,List.map_append,List.length_append];rfl
 ·skip
  refine aD (FZ0 [0,1] Tryz.results127 ?_)
  refine ⟨rfl,rfl,ad,c,?_⟩
  have:ek f u=[]:=by unfold ek;rw [if_neg (by simpa using h1)]
  rw [this,List.append_nil];rfl
def fR(x n:Int)(l:List Span):List Span:=l.flatMap fun p=>ek p.1 (min (p.1+p.2) x)++ek (max p.1 (x+n)) (p.1+p.2)
theorem wX{x n:Int}{l:List Span}{k:Nat}{p:Span}(hp:l[k]? = some p):fR x n (l.take (k+1))=(fR x n (l.take k)++ek p.1 (min (p.1+p.2) x))++ek (max p.1 (x+n)) (p.1+p.2):=by
 unfold fR
 rw [List.take_add_one,hp]
 simp [List.flatMap_append,List.append_assoc]
theorem ly(f u:Int):(ek f u).length≤1:=by unfold ek;split<;>simp
theorem yU(x n:Int)(l:List Span):(fR x n l).length≤2*l.length:=by
 induction l with
 | nil=>simp [fR]
 | cons p l ih =>
   have e:fR x n (p::l)=(ek p.1 (min (p.1+p.2) x)++ek (max p.1 (x+n)) (p.1+p.2))++fR x n l:=rfl
   have:=ly p.1 (min (p.1+p.2) x)
   have:=ly (max p.1 (x+n)) (p.1+p.2)
   rw [e];simp only [List.length_append,List.length_cons];omega
theorem abA(l:List Span)(ad:Option Addr)(c:Nat)(x n:Int)(hr:rgB l=true)(hl:∀ p∈l,I64 p.1∧I64 p.2)(hv:dA x n=true)(hn:n≠0)(hll:l.length≤400000000) :
   Con Tryz.prog 95 [.slice ad l.length c,.agg #[.int .i64 x,.int .i64 n]] [Sh (.slice ad l.length c) (.sl (l.map aV))] []
     fun r ps' hp'=>ps'=[]∧∃ ad' c',r=.slice ad' (fR x n l).length c'∧hp'=[aP (.slice ad' (fR x n l).length c') 95 2 ((fR x n l).map aV)]:=by
 have HL:=Lib.hid hl
 have HV:=Lib.hid (cU.1 hv)
 have HR:=Lib.hid (gj.1 hr)
 have HVV:=Lib.hid hv
 have HRR:=Lib.hid hr
 have HN:=Lib.hid hn
 clear hl hv hr hn
 refine EN2 Tryz.func95 rfl (jX 0 rfl (fun hlen => ?_))
 rw [List.length_map] at hlen
 refine aSR (LT rfl (aS rfl rfl rfl (fun b0_0=>(aHN ?_))))
 refine go 0 [0,0] ?_
 refine aU rfl (Q1 rfl (gC l ad c HL.out) 0 rfl) (go 0 [0,0,4608] ?_)
 refine aG rfl rfl (fun hc=>Q0 (ao (ah rfl hc) rfl) (gF _ _ (by have:=HV.out;unfold I64;omega) (by have:=HV.out;unfold I64;omega))) ?_
 refine go 2 [0,0,0,1,0,0,0] ?_
 refine aa _ rfl (fun h1 => ?_) (fun h1 => ?_)
 ·skip
  exfalso
  rw [HRR.out,HVV.out] at h1
  have:=HN.out
  simp at h1;omega
 ·skip
  refine aD (an (aSR (LT rfl (aW (zs:=[.slice none 0 0]) (by kernel_rfl) rfl (fun b3_0=>(aHN ?_))))))
  refine aNn (aSR (aU rfl (cA (l:=[.tmp 5]) rfl) (go 3 [0,0,95,0] ?_)))
  refine cV 95 2 (aF [3,5,6,25,26,27] [0] [0,1,2] (fun (k:Nat) s=>k≤l.length∧∃ ad' c',s=⟨[(3,true,.pointer (some ⟨b0_0,0,none⟩)),(5,true,.pointer (some ⟨b3_0,0,none⟩)),(6,true,.func (.func 127) #[] #[.pointer (some ⟨b3_0,0,none⟩)]),(25,true,.slice ad l.length c),(26,true,.int .i64 l.length),(27,true,.int .i64 k)],[Sh (.slice ad l.length c) (.sl (l.map aV))],[Box b0_0 95 [.int .i64 x,.int .i64 n],Box b3_0 78 [.slice ad' (fR x n (l.take k)).length c'],aP (.slice ad' (fR x n (l.take k)).length c') 95 2 ((fR x n (l.take k)).map aV)]⟩) (fun k=>l.length-k) rfl (⟨0,Nat.zero_le _,none,0,rfl⟩) ?_)
  rintro k s ⟨hk,ad',c',rfl⟩
  refine go 3 [0] ?_
  refine aa _ rfl (fun h2 => ?_) (fun h2 => ?_)
  ·skip
   have hk':k<l.length:=by simpa using h2
   obtain ⟨p,hp⟩:∃ p,l[k]? = some p:=⟨l[k]'hk',by simp⟩
   have hpv:=cU.1 (gV (HR.out k p hp))
   obtain ⟨q1,q2,q3,q4⟩:=hpv
   obtain ⟨q5,q6,q7,q8⟩:=HV.out
   have hcl:=yU x n (l.take k)
   have htl:(l.take k).length≤l.length:=List.length_take_le' _ _
   have hkl:=ly p.1 (min (p.1+p.2) x)
   refine aD (an (aq (aH (aSR ?_))))
   refine bI true rfl rfl (fun _=>eV Tryz.underlying78 tk95 rfl (ax 0 rfl) rfl (row:=aV p) (by simp [hp]) rfl rfl) (fun h=>absurd h (by decide)) (fun ⟨b7_0,o7_0⟩ => ?_)
   refine aU rfl (cq (o:=0) (v:=.agg #[.int .i64 p.1,.int .i64 p.2]) tk95 rfl (ax 0 rfl) rfl rfl) (LT rfl (aW (zs:=[.int .i64 0,.int .i64 0]) (by kernel_rfl) rfl (fun b7_2=>(aHN ?_))))
   refine go 3 [4617] ?_
   refine DR [8] 9 (go 0 [0,0,18,9234] ?_)
   refine bV 4 rfl rfl (Q0 rfl (fS _ _ (by unfold I64;omega))) ?_
   refine go 0 [0,0,0] ?_
   refine VE 8 rfl rfl (gh [] [1,2] (by kernel_rfl) rfl rfl rfl rfl rfl (vu _ _ _ _ _ _ (by unfold I64;omega) (by omega)) ?_)
   rintro v ps' hp' ⟨rfl,rfl,ad2,c2,rfl⟩
   refine bST rfl ?_
   refine BN (an (DR [8] 9 (go 0 [0,0,18,9216] ?_)))
   refine bV 4 rfl rfl (Q0 rfl (fS _ _ (by unfold I64;omega))) ?_
   refine go 0 [0,9234] ?_
   refine bV 7 rfl rfl (Q0 rfl (fS _ _ (by unfold I64;omega))) ?_
   refine VE 8 rfl rfl (gh [] [1,2] (by kernel_rfl) rfl rfl rfl rfl rfl (vu _ _ _ _ _ _ (by unfold I64;omega) (by simp only [List.length_append];omega)) ?_)
   rintro v ps' hp' ⟨rfl,rfl,ad3,c3,rfl⟩
   refine bST rfl ?_
   refine go 1 [0,0] ?_
   refine an ?_
   refine ⟨[3,5,6,25,26,27],[0],[0,1,2],rfl,?_⟩
   refine ⟨k+1,⟨by omega,ad3,c3,?_⟩,by omega⟩
   rw [wX hp];rfl
  ·skip
   refine go 2 [3,0] ?_
   refine ae (FZ1 [2] Tryz.results95 rfl ?_)
   have e:l.take k=l:=List.take_of_length_le (by simp at h2;omega)
   rw [e]
   exact ⟨rfl,ad',c',rfl,rfl⟩
def eN(size al from_ until_:Int):List Span→Int × Bool
 | []=>(0,false)
 | p::l=>if upI (max p.1 from_) al+size≤min (p.1+p.2) until_ then (upI (max p.1 from_) al,true) else eN size al from_ until_ l
theorem abD(l:List Span)(ad:Option Addr)(c:Nat)(size al from_ until_:Int)(hr:rgB l=true)(hl:∀ p∈l,I64 p.1∧I64 p.2)(h1:1≤size∧size≤1099511627776)(h2:1≤al∧al≤1099511627776)(h3 : -1099511627776≤from_∧from_≤1099511627776) :
   Con Tryz.prog 61 [.slice ad l.length c,.int .i64 size,.int .i64 al,.int .i64 from_,.int .i64 until_] [Sh (.slice ad l.length c) (.sl (l.map aV))] []
     fun r _ _=>r=.tuple #[.int .i64 (eN size al from_ until_ l).1,.bool (eN size al from_ until_ l).2]:=by
 have HL:=Lib.hid hl
 have HR:=Lib.hid (gj.1 hr)
 have HRR:=Lib.hid hr
 clear hl hr
 refine EN5 Tryz.func61 rfl (jX 0 rfl (fun hlen => ?_))
 rw [List.length_map] at hlen
 refine go 0 [0,0,0] ?_
 refine aU rfl (Q1 rfl (gC l ad c HL.out) 0 rfl) (go 2 [0,0,0,0,0,0,0,0,0,0,0,0,0,0,0,0,0,0,0,0,0] ?_)
 refine aa _ rfl (fun g1 => ?_) (fun g1 => ?_)
 ·skip
  exfalso
  rw [HRR.out] at g1
  simp at g1;omega
 ·skip
  refine go 3 [0,95,0] ?_
  refine aF [1,2,3,4,38,39,40] [0] [] (fun (k:Nat) s=>(k≤l.length∧eN size al from_ until_ l=eN size al from_ until_ (l.drop k))∧s=⟨[(1,true,.int .i64 size),(2,true,.int .i64 al),(3,true,.int .i64 from_),(4,true,.int .i64 until_),(38,true,.slice ad l.length c),(39,true,.int .i64 l.length),(40,true,.int .i64 k)],[Sh (.slice ad l.length c) (.sl (l.map aV))],[]⟩) (fun k=>l.length-k) rfl (⟨0,⟨Nat.zero_le _,rfl⟩,rfl⟩) ?_
  rintro k s ⟨⟨hk,hfit⟩,rfl⟩
  refine go 3 [0] ?_
  refine aa _ rfl (fun g2 => ?_) (fun g2 => ?_)
  ·skip
   have hk':k<l.length:=by simpa using g2
   obtain ⟨p,hp⟩:∃ p,l[k]? = some p:=⟨l[k]'hk',by simp⟩
   have hpv:=cU.1 (gV (HR.out k p hp))
   obtain ⟨q1,q2,q3,q4⟩:=hpv
   have hup:max p.1 from_-al<upI (max p.1 from_) al∧upI (max p.1 from_) al≤max p.1 from_+al:=by
     have hd := @nj (max p.1 from_) al
     unfold upI
     split<;>omega
   have hdr:l.drop k=p::l.drop (k+1):=by
     rw [List.drop_eq_getElem_cons hk'];congr 1
     rw [List.getElem?_eq_getElem hk'] at hp;injection hp
   refine aD (an (aq (aH (aSR ?_))))
   refine bI true rfl rfl (fun _=>eV Tryz.underlying78 tk95 rfl (ax 0 rfl) rfl (row:=aV p) (by simp [hp]) rfl rfl) (fun h=>absurd h (by decide)) (fun ⟨b5_0,o5_0⟩ => ?_)
   refine aU rfl (cq (o:=0) (v:=.agg #[.int .i64 p.1,.int .i64 p.2]) tk95 rfl (ax 0 rfl) rfl rfl) (LT rfl (aW (zs:=[.int .i64 0,.int .i64 0]) (by kernel_rfl) rfl (fun b5_2=>(aHN ?_))))
   refine go 0 [4608,0,0,0,0,0] ?_
   refine aU rfl (Q0 rfl (aaF _ _ (by unfold I64;omega))) ?_
   refine go 0 [0,0,0,0,4608] ?_
   refine aU rfl (Q0 rfl (fS _ _ (by unfold I64;omega))) ?_
   refine go 2 [0,0,0] ?_
   refine aa _ rfl (fun g3 => ?_) (fun g3 => ?_)
   ·skip
    refine go 2 [0,0,0] ?_
    refine ae (aK (aj (aj (aK (aj (FZ2 [] Tryz.results61 rfl rfl ?_))))))
    rw [hfit,hdr];unfold eN;rw [if_pos (by simpa using g3)]
   ·skip
    refine go 1 [0,0] ?_
    refine an ?_
    refine ⟨[1,2,3,4,38,39,40],[0],[],rfl,?_⟩
    refine ⟨k+1,⟨⟨by omega,?_⟩,rfl⟩,by omega⟩
    rw [hfit,hdr];conv=>lhs;unfold eN
    rw [if_neg (by simpa using g3)]
  ·skip
   refine go 2 [0,0] ?_
   refine ae (FZ2 [] Tryz.results61 rfl rfl ?_)
   rw [hfit,List.drop_of_length_le (by simp at g2;omega)];rfl
end Go.Proofs.YtgkbbdgklpabpaaGreatDoor

namespace Go.Proofs.YtgkbbdgklpabpaaGreatDoor
open Go.RowKit Go.Lp Go.Sy
open Go.Proofs.Tryz
structure bD (l:List Span):Prop where
 ok:∀ p∈l,0≤p.1∧p.1≤1099511627776∧0<p.2∧p.2≤1099511627776-p.1
 gap:l.Pairwise fun p q=>p.1+p.2<q.1
theorem oq{l:List Span}{i:Nat}{p:Span} : oo l i p=true↔dA p.1 p.2=true∧p.2≠0∧(0<i→(l.getD (i-1) (0,0)).1+(l.getD (i-1) (0,0)).2<p.1):=by
 unfold oo
 cases hv:dA p.1 p.2 with
 | false=>simp
 | true =>
   simp only [Bool.not_true,Bool.false_or,Bool.not_eq_true',Bool.or_eq_false_iff,decide_eq_false_iff_not,Bool.and_eq_false_iff,true_and]
   constructor
   · rintro ⟨h1,h2⟩
     refine ⟨h1,fun hi => ?_⟩
     rcases h2 with h2 | h2
     · omega
     · omega
   · rintro ⟨h1,h2⟩
     refine ⟨h1,?_⟩
     by_cases hi:0<i
     · right;have:=h2 hi;omega
     · left;omega
theorem bD.of{l:List Span}(h:rgB l=true):bD l:=by
 have h0:=gj.1 h
 have hv:∀ (i:Nat) (p:Span),l[i]? = some p→0≤p.1∧p.1≤1099511627776∧0<p.2∧p.2≤1099511627776-p.1:=fun i p hp=>by
   obtain ⟨h1,h2,_⟩:=oq.1 (h0 i p hp)
   obtain ⟨a,b,c,d⟩:=cU.1 h1
   omega
 refine ⟨fun p hp => ?_,?_⟩
 · obtain ⟨i,hi,rfl⟩:=List.getElem_of_mem hp
   exact hv i _ (by simp [hi])
 · rw [List.pairwise_iff_getElem]
   intro i j hi hj hij
   induction j with
   | zero=>omega
   | succ j ih =>
     have hjl:j<l.length:=by omega
     obtain ⟨_,_,h3⟩:=oq.1 (h0 (j+1) l[j+1] (by simp [hj]))
     have h4:=h3 (by omega)
     simp only [Nat.add_sub_cancel,List.getD,List.getElem?_eq_getElem hjl,Option.getD_some] at h4
     by_cases hij':i=j
     · subst hij';exact h4
     · have:=ih hjl (by omega)
       have:=hv j l[j] (by simp [hjl])
       omega
theorem bD.to{l:List Span}(h:bD l):rgB l=true:=by
 rw [gj]
 intro i p hp
 have hmem:=h.ok p (List.mem_of_getElem? hp)
 rw [oq]
 refine ⟨cU.2 (by omega),by omega,fun hi => ?_⟩
 have hil:=(List.getElem?_eq_some_iff.1 hp).1
 have:=List.pairwise_iff_getElem.1 h.gap (i-1) i (by omega) hil (by omega)
 have e:l[i]=p:=by rw [List.getElem?_eq_getElem hil] at hp;injection hp
 rw [e] at this
 simpa [List.getD,show i-1<l.length by omega] using this
def pieces(x n:Int)(p:Span):List Span:=ek p.1 (min (p.1+p.2) x)++ek (max p.1 (x+n)) (p.1+p.2)
theorem i7{f u:Int}{p:Span} : p∈ek f u↔f<u∧p=(f,u-f):=by
 unfold ek
 split
 · rename_i h;simp [h]
 · rename_i h;simp [h]
theorem lA{x n:Int}{p q:Span}(h:q∈pieces x n p):0<q.2∧p.1≤q.1∧q.1+q.2≤p.1+p.2∧((q.1+q.2≤x∧q.1=p.1)∨(x+n≤q.1∧q.1+q.2=p.1+p.2)):=by
 unfold pieces at h
 rcases List.mem_append.1 h with h | h
 · obtain ⟨h1,rfl⟩:=i7.1 h;exact ⟨by simp only;omega,by simp only;omega,by simp only;omega,.inl ⟨by simp only;omega,rfl⟩⟩
 · obtain ⟨h1,rfl⟩:=i7.1 h;exact ⟨by simp only;omega,by simp only;omega,by simp only;omega,.inr ⟨by simp only;omega,by simp only;omega⟩⟩
theorem uM{x n:Int}(hn:0<n)(p:Span):(pieces x n p).Pairwise fun a b=>a.1+a.2<b.1:=by
 unfold pieces
 rw [List.pairwise_append]
 refine ⟨?_,?_,fun a ha b hb => ?_⟩
 · unfold ek;split<;>simp
 · unfold ek;split<;>simp
 · obtain ⟨h1,rfl⟩:=i7.1 ha
   obtain ⟨h2,rfl⟩:=i7.1 hb
   simp only;omega
theorem lb(x n:Int)(p:Span)(l:List Span):fR x n (p::l)=pieces x n p++fR x n l:=rfl
theorem sC{x n:Int}{l:List Span}{q:Span} : q∈fR x n l↔∃ p∈l,q∈pieces x n p:=by
 unfold fR;rw [List.mem_flatMap];rfl
theorem uw{x n:Int}{l:List Span}(h:bD l)(hn:0<n):bD (fR x n l):=by
 refine ⟨fun q hq => ?_,?_⟩
 · obtain ⟨p,hp,hqp⟩:=sC.1 hq
   have:=h.ok p hp
   have:=lA hqp
   omega
 · obtain ⟨hok,hgap⟩:=h
   induction l with
   | nil=>exact List.Pairwise.nil
   | cons p l ih =>
     rw [lb,List.pairwise_append]
     obtain ⟨g1,g2⟩:=List.pairwise_cons.1 hgap
     refine ⟨uM hn p,ih (fun q hq=>hok q (by simp [hq])) g2,fun a ha b hb => ?_⟩
     obtain ⟨q,hq,hbq⟩:=sC.1 hb
     have:=g1 q hq
     have:=lA ha
     have:=lA hbq
     omega
theorem uN{x n:Int}{p:Span} : (pieces x n p).length≤1∨((pieces x n p).length=2∧x+n<p.1+p.2):=by
 unfold pieces ek
 split<;>split<;>simp<;>omega
theorem wW {x n:Int} {l:List Span} (h:bD l) (hn:0<n):(fR x n l).length≤l.length+1:=by
 obtain ⟨hok,hgap⟩:=h
 induction l with
 | nil=>simp [fR]
 | cons p l ih =>
   obtain ⟨g1,g2⟩:=List.pairwise_cons.1 hgap
   have ih':=ih (fun q hq=>hok q (by simp [hq])) g2
   rw [lb]
   simp only [List.length_append,List.length_cons]
   rcases @uN x n p with h1 | ⟨h1,h2⟩
   · omega
   · have key:∀ m:List Span,(∀ q∈m,x+n<q.1)→(fR x n m).length≤m.length:=by
       intro m
       induction m with
       | nil=>intro _;simp [fR]
       | cons q m ih2 =>
         intro hm
         have hq:=hm q (by simp)
         have:=ih2 (fun r hr=>hm r (by simp [hr]))
         rw [lb]
         have:(pieces x n q).length≤1:=by
           unfold pieces ek
           rw [if_neg (by omega)]
           split<;>simp
         simp only [List.length_append,List.length_cons];omega
     have:=key l (fun q hq=>by have:=g1 q hq;omega)
     omega
theorem bD.i64{l:List Span}(h:bD l):∀ p∈l,I64 p.1∧I64 p.2:=fun p hp=>by have:=h.ok p hp;unfold I64;omega
theorem bD.tail{p:Span}{l:List Span}(h:bD (p::l)):bD l:=⟨fun q hq=>h.ok q (List.mem_cons_of_mem _ hq),(List.pairwise_cons.1 h.gap).2⟩
attribute [local irreducible] aL aB awp aC fwp Quiet
theorem mR(l:List Span)(ad:Option Addr)(c:Nat)(hl:l.length≤400000000):Con Tryz.prog 93 [.slice ad l.length c] [Sh (.slice ad l.length c) (.sl (l.map aV))] []
   fun r ps hp=>ps=[]∧∃ ad' c',r=.slice ad' l.length c'∧hp=[aP (.slice ad' l.length c') 95 2 (l.map aV)]:=by
 refine EN1 Tryz.func93 rfl ?_
 refine gp (φ:=ad=none→l=[]) (fun w S fp hst => ?_) (fun hnil => ?_)
 · intro hn
   have hrep:dT w S (.slice ad l.length c) (.sl (l.map aV)):=hst.per _ (ax 0 rfl)
   rw [hn] at hrep
   generalize hrw:l.map aV=rows at hrep
   generalize l.length=m at hrep
   cases hrep with
   | e=>exact List.map_eq_nil_iff.1 hrw
 refine go 0 [0,0] ?_
 refine aU rfl (rk Tryz.underlying78 rfl) (aNn ?_)
 refine aa _ rfl (fun h1 => ?_) (fun h1 => ?_)
 ·skip
  have hl0:l=[]:=hnil (by simpa using h1)
  refine aq (cV 95 2 ?_)
  show awp _ _ _ _ ⟨_,_,[_]⟩
  refine go 2 [0] ?_
  refine ae (aj (FZ1 [0] Tryz.results93 rfl ?_))
  exact ⟨rfl,none,0,by rw [hl0];rfl,by rw [hl0];rfl⟩
 ·skip
  refine aD (an (aSR (LT rfl (uZ el78 rfl (fun v3_0=>(aHN ?_))))))
  refine aM rfl ?_
  refine aT rfl (ji 0 el78 el78 rfl rfl rfl rfl (ax 0 rfl) ((fun r hr=>by obtain ⟨z,_,rfl⟩:=List.mem_map.1 hr;rfl)) (by show ([]:List (List D)).length+(l.map aV).length≤_;rw [List.length_map];exact Nat.le_trans (show 0+l.length≤400000000 by omega) (by decide)) (l.length) (by simp;try omega) (fun v3_2 c3_2 => ?_))
  refine aHK ?_
  refine go 2 [0] ?_
  refine ae (FZ1 [0] Tryz.results93 rfl ?_)
  exact ⟨rfl,v3_2,c3_2,rfl,rfl⟩
def jl(x n:Int)(l:List Span):List Span:=if dA x n=true∧n≠0 then fR x n l else l
theorem yx(l:List Span)(ad:Option Addr)(c:Nat)(x n:Int)(hr:rgB l=true)(hl:∀ p∈l,I64 p.1∧I64 p.2)(hx:I64 x)(hn:I64 n)(hll:l.length≤400000000) :
   Con Tryz.prog 95 [.slice ad l.length c,.agg #[.int .i64 x,.int .i64 n]] [Sh (.slice ad l.length c) (.sl (l.map aV))] []
     fun r ps' hp'=>ps'=[]∧∃ ad' c',r=.slice ad' (jl x n l).length c'∧hp'=[aP (.slice ad' (jl x n l).length c') 95 2 ((jl x n l).map aV)]:=by
 by_cases hv:dA x n=true∧n≠0
 · unfold jl;rw [if_pos hv];exact abA l ad c x n hr hl hv.1 hv.2 hll
 unfold jl;rw [if_neg hv]
 have HL:=Lib.hid hl
 have HRR:=Lib.hid hr
 clear hl hr
 refine EN2 Tryz.func95 rfl (jX 0 rfl (fun hlen => ?_))
 rw [List.length_map] at hlen
 refine aSR (LT rfl (aS rfl rfl rfl (fun b0_0=>(aHN ?_))))
 refine go 0 [0,0] ?_
 refine aU rfl (Q1 rfl (gC l ad c HL.out) 0 rfl) (go 0 [0,0,4608] ?_)
 refine aG rfl rfl (fun hc=>Q0 (ao (ah rfl hc) rfl) (gF _ _ hx hn)) (go 2 [0,0,0,1,0,0,0] ?_)
 refine aa _ rfl (fun h1 => ?_) (fun h1 => ?_)
 ·skip
  refine go 0 [0] ?_
  refine LT rfl (EC [0] [] rfl (mR l ad c hll) ?_)
  rintro _ _ _ ⟨rfl,ad',c',rfl,rfl⟩
  refine aST ?_
  refine go 2 [0] ?_
  refine ae (aj (FZ1 [1] Tryz.results95 rfl ?_))
  exact ⟨rfl,ad',c',rfl,rfl⟩
 ·skip
  exfalso;rw [HRR.out] at h1;simp at h1;exact hv ⟨h1.1,h1.2⟩
theorem jF{x n:Int}{l:List Span}(h:bD l):bD (jl x n l)∧(jl x n l).length≤l.length+1:=by
 unfold jl
 split
 · rename_i hv
   have:=cU.1 hv.1
   exact ⟨uw h (by omega),wW h (by omega)⟩
 · exact ⟨h,Nat.le_succ _⟩
def addN(x n:Int):List Span:=if dA x n=true∧n≠0 then [(x,n)] else []
theorem mI(x n:Int):bD (addN x n):=by
 refine bD.of ?_
 unfold addN
 split
 · rename_i hv
   rw [gj]
   intro j p hj
   cases j with
   | zero =>
     simp at hj;subst hj
     unfold oo;simp [hv.1,hv.2]
   | succ j=>simp at hj
 · rfl
theorem yt(x n:Int)(hx:I64 x)(hn:I64 n):Con Tryz.prog 58 [.slice none 0 0,.agg #[.int .i64 x,.int .i64 n]] [] []
   fun r ps' hp'=>ps'=[]∧∃ ad' c',r=.slice ad' (addN x n).length c'∧hp'=[aP (.slice ad' (addN x n).length c') 95 2 ((addN x n).map aV)]:=by
 refine Con.pre (ps:=[Sh (.slice none 0 0) (.sl (([]:List Span).map aV))]) ?_ (fun p hp=>by rw [List.mem_singleton.1 hp];exact fun _ _ _=>.e none 0 (by decide))
 refine EN2 Tryz.func58 rfl (aSR (LT rfl (aS rfl rfl rfl (fun b0_0=>(aHN ?_)))))
 refine go 0 [0,0] ?_
 refine aU rfl (Q1 rfl (gC [] none 0 (fun _ h=>by cases h)) 0 rfl) ?_
 refine go 0 [0,0,4608] ?_
 refine aG rfl rfl (fun hc=>Q0 (ao (ah rfl hc) rfl) (gF _ _ hx hn)) (go 2 [0,0,0,1,0,0,0] ?_)
 refine aa _ rfl (fun h1 => ?_) (fun h1 => ?_)
 ·skip
  refine go 0 [0] ?_
  refine LT rfl (EC [0] [] rfl (mR [] none 0 (by decide)) ?_)
  rintro _ _ _ ⟨rfl,ad',c',rfl,rfl⟩
  refine aST ?_
  refine go 2 [0] ?_
  refine ae (aj (FZ1 [1] Tryz.results58 rfl ?_))
  have e:addN x n=[]:=by
    unfold addN;rw [if_neg]
    rintro ⟨g1,g2⟩
    rw [g1] at h1;simp at h1;exact (h1.resolve_left (by decide)) |> g2
  rw [e];exact ⟨rfl,ad',c',rfl,rfl⟩
 ·skip
  refine go 4 [0] ?_
  refine cV 95 2 ?_
  show awp _ _ _ _ ⟨_,_,[_,_]⟩
  refine go 3 [0,95,0] ?_
  refine aF [3,5,24,25,26] [] [0,1] (fun (_:Unit) st=>st=⟨[(3,true,.pointer (some ⟨b0_0,0,none⟩)),(5,true,.slice none 0 0),(24,true,.slice none 0 0),(25,true,.int .i64 (0:Nat)),(26,true,.int .i64 0)],[],[Box b0_0 95 [.int .i64 x,.int .i64 n],aP (.slice none 0 0) 95 2 []]⟩) (fun _=>0) rfl (⟨(),rfl⟩) ?_
  rintro _ st rfl
  refine go 3 [0] ?_
  refine aa _ rfl (fun h2 => ?_) (fun h2 => ?_)
  ·skip
   exact absurd h2 (by decide)
  ·skip
   refine go 0 [0,4608] ?_
   refine LT rfl (WL (zs:=[.int .i64 0,.int .i64 0]) el78 rfl rfl rfl (.more rfl (.v rfl (.v rfl .nil)) .nil) rfl rfl (fun v14_2=>(aHN ?_)))
   refine aT rfl (bH 1 el78 rfl rfl rfl rfl (cP 2 el78 rfl (by simp)) (by first | assumption | simp) (by exact Nat.le_of_ble_eq_true rfl) (1) (rfl) (fun v14_3 c14_3 => ?_))
   refine aHK ?_
   refine go 2 [0] ?_
   refine ae (FZ1 [1] Tryz.results58 rfl ?_)
   have e:addN x n=[(x,n)]:=by
     unfold addN;rw [if_pos]
     simp only [Bool.or_eq_false_iff,Bool.not_eq_false',decide_eq_false_iff_not] at h1
     exact ⟨h1.1.2,h1.2⟩
   rw [e];exact ⟨rfl,v14_3,c14_3,rfl,rfl⟩
abbrev mkV(u:aJ)(l:aN)(sv fv:Value)(st:Int)(b:Nat):List Value:=[.string u.name,.bool u.lib,u.nodes.val,u.imports.val,u.offers.val,u.inits.val,u.lasts.val,u.needs.val,.int .i64 u.entry.kind,.int .i64 u.entry.n,.int .i64 u.entry.off,.int .i64 u.entry.size,u.versions.val,u.changes.val,l.nodes.val,l.slots.val,sv,.int .i64 l.code,.int .i64 l.data,.int .i64 l.zero,.int .i64 l.tls,fv,.int .i64 st,.map (some b)]
theorem nb(bm:Nat)(u:aJ)(l:aN)(sv fv:Value)(st:Int)(b:Nat)(fr:List Span)(x n:Int)(hr:bD fr)(hx:I64 x)(hn:I64 n)(hl:fr.length≤400000000) :
   Con Tryz.prog 60 [.pointer (some ⟨bm,0,none⟩),.agg #[.int .i64 x,.int .i64 n]] [] [Box bm 105 (mkV u l sv fv st b),aP fv 95 2 (fr.map aV)]
     fun r ps hp=>(ps=[]∧r=.tuple #[])∧∃ fv',hp=[Box bm 105 (mkV u l sv fv' st b),aP fv' 95 2 ((jl x n fr).map aV)]:=by
 have hrg:=hr.to
 have hri:=hr.i64
 refine EN2 Tryz.func60 rfl (cB 1 rfl (fun _ _ _ h=>df h) (fun ⟨a3,c3,hv⟩ => ?_))
 rw [List.length_map] at hv
 subst hv
 refine cK 1 (Sh (.slice a3 fr.length c3) (.sl (fr.map aV))) rfl (fun _ _ _ h=>db h) (aSR (LT rfl (aS rfl rfl rfl (fun b0_0=>(aHN ?_)))))
 refine aNn (DR [9] 10 (go 0 [0,0,0,42,0,9228] ?_))
 refine dG (q:=true) 6 rfl (by kernel_rfl) rfl rfl (EC [0] [] rfl (yx fr a3 c3 x n hrg hri hx hn hl) ?_)
 rintro _ _ _ ⟨rfl,ad',c',rfl,rfl⟩
 refine bST rfl ?_
 refine go 1 [0,42,7,0] ?_
 refine FZ0 [0,3] Tryz.results60 ?_
 exact ⟨⟨rfl,rfl⟩,_,rfl⟩
end Go.Proofs.YtgkbbdgklpabpaaGreatDoor

namespace Go.Sy
open Go.RowKit Go.Lp
section
variable {P:Program} {d:Option Tmp} {ty:TypeId} {pos:String} {af:Array Edge} {gd:Option (Nat × Bool)}
theorem uz{f:FuncId}(hf:aX P f=true){ts:Array TypeId}{g:Operand}{l:List Operand}{vs:List Value}{fst:Array Value}{ρ:Operand→Value}(hg:ρ g=.func (.func f) fst #[])(hl:l.map ρ=vs)(w:World) :
   (execOp ρ ⟨d,.call ⟨.value g,l.toArray,ts⟩,ty,pos,af,gd⟩).run P w=.ok (.enter f (fst++vs.toArray)) w:=by
 unfold execOp
 dsimp only
 show ((resolve ρ ⟨.value g,l.toArray,ts⟩ ty).bind fun x=>invoke x.target x.args).run P w=_
 have:resolve ρ ⟨.value g,l.toArray,ts⟩ ty=Sem.pure { target:=.fn (.func f) #[],args:=fst++vs.toArray } := by
   unfold resolve
   dsimp only
   rw [hg]
   show Deferred.ofValue _ _=_
   unfold Deferred.ofValue
   dsimp only
   rw [List.map_toArray,hl]
   rfl
 rw [this]
 show (callFunc f ((fst++vs.toArray) ++ #[])).run P w=_
 rw [Array.append_empty]
 exact fK hf _ w
variable {n:Fr} {env:Env} {ps:List Per} {hp:List Res}
theorem vm{t:Nat}{f:FuncId}{g:Operand}{fst:List Value}{l:List Operand}{vs:List Value}{ts:Array TypeId}{q:Bool}{R:Value→List Per→List Res→Prop}{K:Sta→Prop}(lp lh:List Nat)(hf:aX P f=true)(hgv:ev env g=some (true,.func (.func f) fst.toArray #[]))(hx:evs env l=some vs)(ht:fits n (some t)=true)(ok:okH hp lh=true)
   (hq:(!q || lh.isEmpty)=true) (hc:Con P f (fst++vs) (el ps lp) (bT hp lh) R) (hK:∀ v ps' hp',R v ps' hp'→K ⟨(t,true,v)::env,ps'++ps,fD lh hp' 0 hp⟩) :
   Eff P n ⟨some t,.call ⟨.value g,l.toArray,ts⟩,ty,pos,af,gd⟩ ⟨env,ps,hp⟩ q K:=fun w S fp a hst he hn=>by
 rw [uz hf (he.val hgv rfl) (eM he l vs hx)]
 obtain ⟨k1,k2⟩:=hst.bT lp lh ok
 have hcc:=hc w S _ k1
 rw [show fst.toArray++vs.toArray=(fst++vs).toArray from List.append_toArray ..]
 refine hcc.mono fun e w' ⟨v,ps',hp',S',fp',he',hR,hst',hE,hg⟩=>⟨v,he',?_⟩
 obtain ⟨m1,m2⟩:=hst.back lp lh ok hst' hE hg
 refine ⟨_,S',_,hK v ps' hp' hR,m1,?_,hE.wider k2,m2,fun hq' => ?_⟩
 · exact he.put (g:=true) (by rw [hn];simpa [fits] using ht) v
 · rw [hq'] at hq
   have:lh=[]:=by simpa using hq
   subst this
   exact hE.toX (fun b hb=>mE _ b hb)
end
end Go.Sy

namespace Go.Proofs.YtgkbbdgklpabpaaGreatDoor
open Go.RowKit Go.Lp Go.Sy
open Go.Proofs.Tryz
attribute [local irreducible] aL aB awp aC fwp Quiet
def qV(f:List Span)(p:aQ × Int):List Span:=if p.1.kind<3 then jl p.2 p.1.size f else f
def acm(f:List Span)(s:bj):List Span:=jl s.at_ 8 f
def gg(l:List (aQ × Int))(f:List Span):List Span:=l.foldl qV f
def pK(l:List bj)(f:List Span):List Span:=l.foldl acm f
theorem nv{α β:Type}{f:β→α→β}{b:β}{l:List α}{k:Nat}{a:α}(h:l[k]? = some a):(l.take (k+1)).foldl f b=f ((l.take k).foldl f b) a:=by
 rw [List.take_add_one,h,List.foldl_append];rfl
theorem nh{f:List Span}{p:aQ × Int}(h:bD f):bD (qV f p)∧(qV f p).length≤f.length+1:=by
 unfold qV;split
 · exact jF h
 · exact ⟨h,Nat.le_succ _⟩
theorem gi{α:Type}{g:List Span→α→List Span}(hg:∀ f a,bD f→bD (g f a)∧(g f a).length≤f.length+1):∀ (l:List α) (f:List Span),bD f→bD (l.foldl g f)∧(l.foldl g f).length≤f.length+l.length
 | [],f,h=>⟨h,Nat.le_refl _⟩
 | a::l,f,h=>by
   have h1:=hg f a h
   have h2:=gi hg l (g f a) h1.1
   exact ⟨h2.1,by rw [List.foldl_cons,List.length_cons];omega⟩
theorem uc(bm:Nat)(mu:aJ)(ml:aN)(sv fv:Value)(st:Int)(b:Nat)(fr:List Span)(u:aJ)(l:aN)(hr:bD fr)(hl:l.nodes.l.length=u.nodes.l.length)
   (hI:(∀ z∈l.nodes.l,I64 z)∧(∀ x∈u.nodes.l,I64 x.size)∧∀ s∈l.stubs.l,I64 s.at_) (hle:fr.length+u.nodes.l.length+l.stubs.l.length≤400000000) :
   Con Tryz.prog 59 [u.val,l.val,.func (.func 60) #[.pointer (some ⟨bm,0,none⟩)] #[]] [ShF aQ.row u.nodes,bu aQ.ok u.nodes.l,ShF bd l.nodes,ShF bj.row l.stubs] [Box bm 105 (mkV mu ml sv fv st b),aP fv 95 2 (fr.map aV)]
     fun r ps hp=>(ps=[]∧r=.tuple #[])∧∃ fv',hp=[Box bm 105 (mkV mu ml sv fv' st b),aP fv' 95 2 ((pK l.stubs.l (gg (u.nodes.l.zip l.nodes.l) fr)).map aV)]:=by
 have hzl:(u.nodes.l.zip l.nodes.l).length=u.nodes.l.length:=by rw [List.length_zip];omega
 refine EN3 Tryz.func59 rfl (aO (.of (ax 0 rfl)) (fun hlen=>(aO (.of (ax 3 rfl)) (fun hlen2=>(aSR (LT rfl (aS rfl rfl rfl (fun b0_0=>(aHN ?_)))))))))
 refine LT rfl (aS rfl rfl rfl (fun b0_1=>(aHN ?_)))
 refine go 3 [2,6,52,0] ?_
 refine aF [2,4,11,12,13] [3,2,1,0] [0,1,3] (fun (q:Nat × Value) s=>q.1≤u.nodes.l.length∧s=⟨[(2,true,.func (.func 60) #[.pointer (some ⟨bm,0,none⟩)] #[]),(4,true,.pointer (some ⟨b0_1,0,none⟩)),(11,true,u.nodes.val),(12,true,.int .i64 u.nodes.l.length),(13,true,.int .i64 q.1)],[ShF aQ.row u.nodes,bu aQ.ok u.nodes.l,ShF bd l.nodes,ShF bj.row l.stubs],[Box bm 105 (mkV mu ml sv q.2 st b),aP q.2 95 2 ((gg ((u.nodes.l.zip l.nodes.l).take q.1) fr).map aV),Box b0_1 36 l.vs]⟩) (fun q=>u.nodes.l.length-q.1) rfl (⟨(0,fv),Nat.zero_le _,rfl⟩) ?_
 rintro ⟨k,v⟩ s ⟨hk,rfl⟩
 dsimp only at hk
 have hfr:bD (gg ((u.nodes.l.zip l.nodes.l).take k) fr)∧(gg ((u.nodes.l.zip l.nodes.l).take k) fr).length≤fr.length+((u.nodes.l.zip l.nodes.l).take k).length:=gi (g:=qV) (fun f p h=>nh h) ((u.nodes.l.zip l.nodes.l).take k) fr hr
 have htl:=List.length_take_le k (u.nodes.l.zip l.nodes.l)
 refine go 3 [0] ?_
 refine aa _ rfl (fun h1 => ?_) (fun h1 => ?_)
 ·skip
  have hk':k<u.nodes.l.length:=by simpa using h1
  obtain ⟨x,hx⟩:∃ x,u.nodes.l[k]? = some x:=⟨_,List.getElem?_eq_getElem hk'⟩
  obtain ⟨a,ha⟩:∃ a,l.nodes.l[k]? = some a:=⟨_,List.getElem?_eq_getElem (by omega)⟩
  have hz:(u.nodes.l.zip l.nodes.l)[k]? = some (x,a):=List.getElem?_zip_eq_some.2 ⟨hx,ha⟩
  have hsn:gg ((u.nodes.l.zip l.nodes.l).take (k+1)) fr=qV (gg ((u.nodes.l.zip l.nodes.l).take k) fr) (x,a):=nv hz
  refine go 0 [0] ?_
  refine UI Tryz.underlying22 tk52 0 rfl rfl rfl rfl rfl (ak hx) rfl rfl (fun ⟨b3_1,o3_1⟩=>(go 0 [35330] ?_))
  refine LT rfl (aW (zs:=[.string .empty,.string .empty,.int .i64 0,.int .i64 0,.int .i64 0,.string .empty,.slice none 0 0,.slice none 0 0,.slice none 0 0,.slice none 0 0,.slice none 0 0,.slice none 0 0]) (by kernel_rfl) rfl (fun b3_3=>(aHN ?_)))
  refine go 2 [0,35337,2,9,0] ?_
  refine aa _ rfl (fun h2 => ?_) (fun h2 => ?_)
  ·skip
   have hk3:x.kind<3:=by simpa using h2
   rw [show qV (gg ((u.nodes.l.zip l.nodes.l).take k) fr) (x,a)=jl a x.size (gg ((u.nodes.l.zip l.nodes.l).take k) fr) from if_pos hk3] at hsn
   refine DR [9] 10 (go 0 [0,0,12,0] ?_)
   refine XI 4 Tryz.underlying33 tk3 3 rfl rfl rfl rfl rfl rfl (ak ha) rfl rfl (fun ⟨b5_4,o5_4⟩=>(go 0 [4,8,18] ?_))
   refine bV 8 rfl rfl (bP (l:=[(0,.tmp 26),(1,.tmp 28)]) (zs:=[.int .i64 0,.int .i64 0]) (pl:=[(0,1),(1,1)]) (by kernel_rfl) (by kernel_rfl) (by kernel_rfl) rfl rfl rfl) (VE 9 rfl rfl (vm (fst:=[.pointer (some ⟨bm,0,none⟩)]) (vs:=[.agg #[.int .i64 a,.int .i64 x.size]]) [] [0,1] (by kernel_rfl) rfl rfl rfl rfl rfl (nb bm mu ml sv v st b _ a x.size hfr.1 (hI.1 a (List.mem_of_getElem? ha)) (hI.2.1 x (List.mem_of_getElem? hx)) (by omega)) ?_))
   rintro _ _ _ ⟨⟨rfl,rfl⟩,fv',rfl⟩
   refine bST rfl ?_
   refine go 1 [0,0] ?_
   refine an ?_
   refine ⟨[2,4,11,12,13],[3,2,1,0],[0,1,2],rfl,?_⟩
   exact ⟨(k+1,fv'),⟨hk',by rw [hsn];rfl⟩,by dsimp only;omega⟩
  ·skip
   have hk3:¬ x.kind<3:=by simpa using h2
   rw [show qV (gg ((u.nodes.l.zip l.nodes.l).take k) fr) (x,a)=gg ((u.nodes.l.zip l.nodes.l).take k) fr from if_neg hk3] at hsn
   refine go 1 [0,0] ?_
   refine an ?_
   refine ⟨[2,4,11,12,13],[3,2,1,0],[0,1,2],rfl,?_⟩
   exact ⟨(k+1,v),⟨hk',by rw [hsn];rfl⟩,by dsimp only;omega⟩
 ·skip
  have hke:k=u.nodes.l.length:=by have:=of_decide_eq_false h1;omega
  have hfl:(u.nodes.l.zip l.nodes.l).take k=u.nodes.l.zip l.nodes.l:=List.take_of_length_le (by omega)
  rw [hfl] at hfr ⊢
  generalize hcf:gg (u.nodes.l.zip l.nodes.l) fr=f1
  have hf1:bD f1∧f1.length≤fr.length+u.nodes.l.length:=by rw [← hcf];exact ⟨hfr.1,by have:=hfr.2;rw [hzl] at this;exact this⟩
  refine go 3 [2,6,44,0] ?_
  refine aF [2,33,34,35] [0] [0,1] (fun (q:Nat × Value) s=>q.1≤l.stubs.l.length∧s=⟨[(2,true,.func (.func 60) #[.pointer (some ⟨bm,0,none⟩)] #[]),(33,true,l.stubs.val),(34,true,.int .i64 l.stubs.l.length),(35,true,.int .i64 q.1)],[ShF bj.row l.stubs],[Box bm 105 (mkV mu ml sv q.2 st b),aP q.2 95 2 ((pK (l.stubs.l.take q.1) f1).map aV)]⟩) (fun q=>l.stubs.l.length-q.1) rfl (⟨(0,v),Nat.zero_le _,rfl⟩) ?_
  rintro ⟨j,w⟩ st2 ⟨hj,rfl⟩
  dsimp only at hj
  have hfs:bD (pK (l.stubs.l.take j) f1)∧(pK (l.stubs.l.take j) f1).length≤f1.length+(l.stubs.l.take j).length:=gi (g:=acm) (fun f p h=>jF h) (l.stubs.l.take j) f1 hf1.1
  have htl2:=List.length_take_le j l.stubs.l
  refine go 3 [0] ?_
  refine aa _ rfl (fun h3 => ?_) (fun h3 => ?_)
  ·skip
   have hj':j<l.stubs.l.length:=by simpa using h3
   obtain ⟨y,hy⟩:∃ y,l.stubs.l[j]? = some y:=⟨_,List.getElem?_eq_getElem hj'⟩
   have hsn:pK (l.stubs.l.take (j+1)) f1=jl y.at_ 8 (pK (l.stubs.l.take j) f1):=nv hy
   refine aD (an (aq (aH (aSR (UI Tryz.underlying34 tk44 0 rfl rfl rfl rfl rfl (ak hy) rfl rfl (fun ⟨b9_0,o9_0⟩=>(go 0 [10754] ?_)))))))
   refine LT rfl (aW (zs:=[.int .i64 0,.int .i64 0,.int .i64 0,.int .i64 0]) (by kernel_rfl) rfl (fun b9_2=>(aHN ?_)))
   refine go 0 [10758,0,0,6] ?_
   refine aU rfl (bP (l:=[(0,.tmp 41),(1,.const (.int .i64 8))]) (zs:=[.int .i64 0,.int .i64 0]) (pl:=[(0,1),(1,1)]) (by kernel_rfl) (by kernel_rfl) (by kernel_rfl) rfl rfl rfl) ?_
   refine LF rfl (vm (fst:=[.pointer (some ⟨bm,0,none⟩)]) (vs:=[.agg #[.int .i64 y.at_,.int .i64 8]]) [] [0,1] (by kernel_rfl) rfl rfl rfl rfl rfl (nb bm mu ml sv w st b _ y.at_ 8 hfs.1 (hI.2.2 y (List.mem_of_getElem? hy)) (by unfold I64;omega) (by omega)) ?_)
   rintro _ _ _ ⟨⟨rfl,rfl⟩,fw',rfl⟩
   refine aST ?_
   refine go 1 [0,0] ?_
   refine an ?_
   refine ⟨[2,33,34,35],[0],[0,1],rfl,?_⟩
   exact ⟨(j+1,fw'),⟨hj',by rw [hsn];rfl⟩,by dsimp only;omega⟩
  ·skip
   rw [List.take_of_length_le (by simpa using h3)]
   refine aY (bb (bb (bg (FZ0 [0,1] Tryz.results59 ?_))))
   exact ⟨⟨rfl,rfl⟩,w,rfl⟩
theorem ac1{ps:List Per}{p q t v:Per}(h1:Ent ps p)(h2:Ent ps q)(h3:Ent ps t)(h4:Ent ps v):∀ r∈[p,q,t,v],Ent ps r:=fun r hr=>by
 rcases List.mem_cons.1 hr with rfl | hr
 · exact h1
 · exact jm h2 h3 h4 r hr
def sy(u:aJ)(l:aN):List Span:=gg (u.nodes.l.zip l.nodes.l) (addN 0 l.code)
theorem tY(u:aJ)(l:aN)(hl:l.nodes.l.length=u.nodes.l.length)(hI:(∀ z∈l.nodes.l,I64 z)∧(∀ x∈u.nodes.l,I64 x.size)∧I64 l.code)(hle:u.nodes.l.length≤100000000) :
   Con Tryz.prog 25 [u.val,l.val] [ShF aQ.row u.nodes,bu aQ.ok u.nodes.l,ShF bd l.nodes] []
     fun r ps hp=>ps=[]∧∃ bm b fv,r=.pointer (some ⟨bm,0,none⟩)∧hp=[Box bm 105 (mkV u l (.slice none 0 0) fv 0 b),aP (.slice none 0 0) 44 4 [],aP fv 95 2 ((sy u l).map aV),eg b eI vBo (fun _=>none)]:=by
 have hal:(addN 0 l.code).length≤1:=by unfold addN;split<;>simp
 refine EN2 Tryz.func25 rfl (aSR (LT rfl (aS rfl rfl rfl (fun b0_0=>(aHN ?_)))))
 refine LT rfl (aS rfl rfl rfl (fun b0_1=>(aHN ?_)))
 refine go 0 [0,41472,19971] ?_
 refine LT rfl (dB (eI) (vBo) rfl (fun b1_2=>(aHN ?_)))
 refine aU rfl (bP (l:=[(0,.tmp 6),(1,.tmp 7),(4,.tmp 8)]) (zs:=[.string .empty,.bool false,.slice none 0 0,.slice none 0 0,.slice none 0 0,.slice none 0 0,.slice none 0 0,.slice none 0 0,.int .i64 0,.int .i64 0,.int .i64 0,.int .i64 0,.slice none 0 0,.slice none 0 0,.slice none 0 0,.slice none 0 0,.slice none 0 0,.int .i64 0,.int .i64 0,.int .i64 0,.int .i64 0,.slice none 0 0,.int .i64 0,.map none]) (pl:=[(0,14),(14,7),(21,1),(22,1),(23,1)]) (by kernel_rfl) (by kernel_rfl) (by kernel_rfl) rfl rfl rfl) (LT rfl (aS rfl rfl rfl (fun b1_4=>(aHN ?_))))
 refine go 0 [0,0,0,14,2,9,0,3,3] ?_
 refine aU rfl (bP (l:=[(1,.tmp 17)]) (zs:=[.int .i64 0,.int .i64 0]) (pl:=[(0,1),(1,1)]) (by kernel_rfl) (by kernel_rfl) (by kernel_rfl) rfl rfl rfl) ?_
 refine LT rfl (EC [] [] rfl (yt 0 l.code (by unfold I64;omega) hI.2.2) ?_)
 rintro _ _ _ ⟨rfl,ad,cc,rfl,rfl⟩
 refine aST ?_
 refine go 3 [0,21,9] ?_
 refine DR [7] 8 (go 0 [82944,0,0,28,39954,0] ?_)
 refine bV 6 rfl rfl (dZ (l:=[.tmp 27]) rfl) ?_
 refine VE 7 rfl rfl (fe (vs:=[u.val,({ l with stubs:=cI } : aN).val,.func (.func 60) #[.pointer (some ⟨b1_4,0,none⟩)] #[]]) [2,1,0] [3,4] (by kernel_rfl) rfl rfl rfl rfl ((uc b1_4 u l (.slice none 0 0) _ 0 b1_2 _ u { l with stubs:=cI } (mI 0 l.code) hl ⟨hI.1,hI.2.1,fun _ h=>by cases h⟩ (by show (addN 0 l.code).length+u.nodes.l.length+0≤_;omega)).pre (ac1 (.of (ax 0 rfl)) (.of (ax 1 rfl)) (.of (ax 2 rfl)) eC)) ?_)
 rintro _ _ _ ⟨⟨rfl,rfl⟩,fv',rfl⟩
 refine bST rfl ?_
 refine BN (an (aq (cV 44 4 (go 2 [0,0] ?_))))
 refine ae (FZ1 [3,5,4,2] Tryz.results25 rfl ?_)
 exact ⟨rfl,b1_4,b1_2,fv',rfl,rfl⟩
end Go.Proofs.YtgkbbdgklpabpaaGreatDoor

namespace Go.Proofs.YtgkbbdgklpabpaaGreatDoor
open Go.RowKit Go.Lp Go.Sy
open Go.Proofs.Tryz
structure StS where
 S:List bj
 fr:List Span
 U:List Int
def fj(ln:List Int)(q:StS)(c:bt):Option StS :=
 if om ln c=true then none
 else if dt ln c=false then some q
 else if 0≤b9 c q.S then some ⟨q.S,q.fr,q.U++[b9 c q.S]⟩
 else if (eN 8 8 (c.at_-512) (c.at_+512) q.fr).2=true then
   some ⟨q.S++[{ eF c with at_:=(eN 8 8 (c.at_-512) (c.at_+512) q.fr).1 }],jl (eN 8 8 (c.at_-512) (c.at_+512) q.fr).1 8 q.fr,q.U++[(q.S.length:Int)]⟩
 else none
def kx(ln:List Int)(cs:List bt)(q:StS):Option StS:=cs.foldlM (fj ln) q
theorem xB{ln:List Int}{cs:List bt}{k:Nat}{c:bt}{q:StS}(h:cs[k]? = some c):kx ln (cs.take (k+1)) q=(kx ln (cs.take k) q).bind fun q=>fj ln q c:=by
 unfold kx
 rw [List.take_add_one,h,Option.toList_some,List.foldlM_append]
 show (_ >>= fun s=>List.foldlM (fj ln) s [c])=_
 cases List.foldlM (fj ln) q (cs.take k) with
 | none=>rfl
 | some s=>show List.foldlM (fj ln) s [c]=_;rw [List.foldlM_cons];show (fj ln s c >>= fun s=>pure s)=_;rw [bind_pure];rfl
theorem p6{ln:List Int}{cs:List bt}{k:Nat}{q:StS}(h:kx ln (cs.take k) q=none):kx ln cs q=none:=by
 unfold kx at *
 rw [← List.take_append_drop k cs,List.foldlM_append,h];rfl
def ac8(st:Int)(q:StS):List bj:=(q.S.zipIdx.filter fun p=>decide ((p.2:Int)∈q.U) || decide ((p.2:Int)≥st)).map (·.1)
theorem acV{n t:Int}(h : -1152921504606846976≤n∧n≤1152921504606846976)(ht:1≤t∧t≤1099511627776):n≤upI n t∧upI n t<n+t:=by
 have h1:=nj (n:=n) (t:=t)
 unfold upI
 have h2:=Int.emod_nonneg n (show t≠0 by omega)
 have h3:=Int.emod_lt_of_pos n (show 0<t by omega)
 unfold gw at *
 split at * <;> (try split)<;>omega
theorem ss{al f u:Int}(ha:1≤al∧al≤1099511627776)(hf : -1099511627776≤f∧f≤1099511627776){size:Int} : ∀ {l:List Span},bD l→(eN size al f u l).2=true →
   ∃ p∈l,p.1≤(eN size al f u l).1∧(eN size al f u l).1+size≤p.1+p.2∧f≤(eN size al f u l).1∧(eN size al f u l).1+size≤u
 | [],_,h=>by cases h
 | p :: l,hr,h=>by
   have hp:=hr.ok p (List.mem_cons_self ..)
   have hu:=acV (n:=max p.1 f) (t:=al) (by omega) ha
   unfold eN at h ⊢
   by_cases hc:upI (max p.1 f) al+size≤min (p.1+p.2) u
   · rw [if_pos hc]
     exact ⟨p,List.mem_cons_self ..,by dsimp only;omega,by dsimp only;omega,by dsimp only;omega,by dsimp only;omega⟩
   · rw [if_neg hc] at h ⊢
     obtain ⟨q,hq,h1⟩:=ss ha hf (bD.tail hr) h
     exact ⟨q,List.mem_cons_of_mem _ hq,h1⟩
theorem r6(c:bt){ln:List Int}(hc:jk ln c)(ad:Option Addr)(cap:Nat)(S:List bj)(h:∀ s∈S,-4611686018427387904≤s.at_-c.at_∧s.at_-c.at_≤4611686018427387904) :
   Con Tryz.prog 20 [c.val,.slice ad S.length cap] [] [aP (.slice ad S.length cap) 44 4 (S.map bj.row)] fun r ps hp=>ps=[]∧r=.int .i64 (b9 c S)∧hp=[aP (.slice ad S.length cap) 44 4 (S.map bj.row)] :=
 (Con.borrow ((jC c hc ⟨ad,cap,S⟩ h).clean (φ:=fun r=>r=.int .i64 (b9 c S)) fun _ _ _ h=>h) (fun w S F h=>db h) (fun v ps' hp' h r hr=>by rw [h.2.2] at hr;cases hr)).post fun v ps' hp' ⟨h1,ps2,hp2,⟨h2,h3,h4⟩,h5⟩=>⟨h1,h2,by rw [h5,h4]⟩
theorem yD(l:List Span)(v:Value)(al from_ until_ size:Int)(hr:bD l)(h1:1≤size∧size≤1099511627776)(h2:1≤al∧al≤1099511627776)(h3 : -1099511627776≤from_∧from_≤1099511627776)(hv:∃ ad c,v=.slice ad l.length c) :
   Con Tryz.prog 61 [v,.int .i64 size,.int .i64 al,.int .i64 from_,.int .i64 until_] [] [aP v 95 2 (l.map aV)] fun r ps hp=>ps=[]∧r=.tuple #[.int .i64 (eN size al from_ until_ l).1,.bool (eN size al from_ until_ l).2]∧hp=[aP v 95 2 (l.map aV)]:=by
 obtain ⟨ad,c,rfl⟩:=hv
 exact (Con.borrow ((abD l ad c size al from_ until_ hr.to hr.i64 h1 h2 h3).clean (φ:=fun r=>r=.tuple #[.int .i64 (eN size al from_ until_ l).1,.bool (eN size al from_ until_ l).2]) fun _ _ _ h=>h) (fun w S F h=>db h) (fun v ps' hp' h r hr=>by rw [h.2.2] at hr;cases hr)).post fun v ps' hp' ⟨h1,ps2,hp2,⟨h2,h3,h4⟩,h5⟩=>⟨h1,h2,by rw [h5,h4]⟩
end Go.Proofs.YtgkbbdgklpabpaaGreatDoor

