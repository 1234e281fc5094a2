/- Parts of the proof, in build order. No condition. -/
import Derived.Test.YtebnelfdimiifaaGreatDoorSa11
import Derived.Test.YtebnelfdimiifaaGreatDoorSa06
import Derived.Test.YtebnelfdimiifaaGreatDoorSa05
import Derived.Test.YtebnelfdimiifaaGreatDoorSa10
import Derived.Shelf.Slices.Clone
import Derived.Shelf.Slices.Reverse
import Derived.Shelf.Slices.In.SortNone
import Derived.Test.YtebnelfdimiifaaGreatDoorSa07
import Derived.Test.YtebnelfdimiifaaGreatDoorSa08
import Derived.Test.YtebnelfdimiifaaGreatDoorSa09
set_option linter.unusedSimpArgs false
set_option linter.unusedVariables false
set_option maxHeartbeats 1000000
set_option maxRecDepth 20000
namespace Go.Proofs.YtebnelfdimiifaaGreatDoor
open Go.RowKit Go.Lp Go.Sy Go.Sort Go.Shelf
open Go.Proofs.Tryz
theorem oD{v:Value}{T:TypeId}(zs:List Int)(hz:zs.length<4611686018427387904):Con Tryz.prog 203 [v] [] [aN v T 1 (cD encI zs)] fun _ ps' hp'=>ps'=[]∧hp'=[aN v T 1 (cD encI (fT zs))]:=by
 have hlen:(fT zs).length=zs.length:=List.length_mergeSort _
 refine mn (zs1:=fT zs) (rest:=[]) (fun _=>rfl) (by simp [hlen]) (fun hv hz w => ?_) (fun b cap w hv hb hc hm hH => ?_)
 · subst hv;subst hz
   refine (Any.slices_Sort_int_none Tryz.lays189 none 0 w).mono fun e w' ⟨he,hw⟩=>⟨_,he,hw,rfl,?_⟩
   rw [show fT []=[] by simp [fT]]
 · refine (Any.slices_Sort_int Tryz.lays189 b 0 cap zs w hH hb hz).mono fun e w' ⟨he,n,os,hw⟩=>⟨⟨_,he,rfl,by rw [hlen,hv]⟩,n,os,by rw [List.append_nil];exact hw⟩
theorem mV{v:Value}{T:TypeId}(zs:List Int):Con Tryz.prog 204 [v] [] [aN v T 1 (cD encI zs)] fun r ps' hp'=>ps'=[]∧∃ ad c,r=.slice ad (Lib.compact zs).length c∧hp'=[aN r T 1 (cD encI (Lib.compact zs))]:=by
 have hle:(Lib.compact zs).length≤zs.length:=by
   unfold Lib.compact Lib.compactUpTo
   rw [List.length_map]
   exact Nat.le_trans (List.length_filter_le _ _) (by simp)
 refine mn (zs1:=Lib.compact zs) (rest:=List.replicate (zs.length-(Lib.compact zs).length) 0) (fun _=>rfl) (by simp;omega) (fun hv hz w => ?_) (fun b cap w hv hb hc hm hH => ?_)
 · subst hv;subst hz
   refine (Any.slices_Compact_int_empty Tryz.lays20 none 0 w).mono fun e w' ⟨he,hw⟩=>⟨_,he,hw,rfl,none,0,rfl,rfl⟩
 · refine (Any.slices_Compact_int Tryz.lays20 b 0 cap zs w hH (by unfold maxLen at hm;omega) hc).mono fun e w' ⟨he,n,hw⟩=>⟨⟨_,he,rfl,_,_,rfl,rfl⟩,n,#[],?_⟩
   rw [Sort.grow_empty];exact hw
theorem uD{v:Value}{T:TypeId}(zs:List Int):Con Tryz.prog 205 [v] [] [aN v T 1 (cD encI zs)] fun _ ps' hp'=>ps'=[]∧hp'=[aN v T 1 (cD encI zs.reverse)]:=by
 refine mn (zs1:=zs.reverse) (rest:=[]) (fun _=>rfl) (by simp) (fun hv hz w => ?_) (fun b cap w hv hb hc hm hH => ?_)
 · subst hv;subst hz
   exact (Any.slices_Reverse_int_empty Tryz.lays112 none 0 w).mono fun e w' ⟨he,hw⟩=>⟨_,he,hw,rfl,rfl⟩
 · refine (Any.slices_Reverse_int Tryz.lays112 b 0 cap zs w hH (by unfold maxLen at hm;omega)).mono fun e w' ⟨he,n,hw⟩=>⟨⟨_,he,rfl,by rw [List.length_reverse,hv]⟩,n,#[],?_⟩
   rw [Sort.grow_empty,List.append_nil];exact hw
theorem qK{ad:Option Addr}{c:Nat}(zs:List Int)(hz:zs.length≤1000000):Con Tryz.prog 202 [.slice ad zs.length c] [Sh (.slice ad zs.length c) (.sl (cD encI zs))] [] fun r ps' hp'=>ps'=[]∧hp'=[aN r 3 1 (cD encI zs)] :=
 (ye ⟨ad,c,zs⟩ hz).post fun _ _ _ ⟨h1,_,_,h2,h3⟩=>⟨h1,by rw [h2];exact h3⟩
end Go.Proofs.YtebnelfdimiifaaGreatDoor

namespace Go.Proofs.YtebnelfdimiifaaGreatDoor
open Go.RowKit Go.Lp Go.Sy
open Go.Proofs.Tryz
attribute [local irreducible] aL aB awp aC fwp Quiet
set_option maxHeartbeats 1000000 in
theorem wi(N:Nat)(hN:N≤1000000)(l:Sl dm)(hl:l.l.length≤100000000)(hr:∀ a∈l.l,0≤a.from_∧a.from_<N) :
   Con Tryz.prog 194 [.int .i64 N,l.val] [ShF dm.row l] [] fun r ps hp=>ps=[]∧hp=[kz r 25 3 encI (dv N l.l)]:=by
 refine EN2 Tryz.func194 rfl (aSR (aA rfl (aNn (aSR (aM rfl (LT rfl (gP (m:=N) (zs:=[.slice none 0 0]) el273 (by kernel_rfl) rfl (by decide) (dS rfl (rfl)) (dS rfl (rfl)) (by omega) rfl (fun v1_1=>(aHN ?_)))))))))
 refine aA rfl (aNs (ai (oZ (α:=Int) (E:=3) (enc:=encI) 0 N rfl (bS (.of (aH 0 rfl)) (fun hlen=>(aa (aM rfl (aU rfl (aX Tryz.underlying251 rfl) (aM rfl (aNn (aq (aP [5,11,12,13] [0] [0] (fun (k:Nat) s=>k≤l.l.length∧∃ vo,s=⟨[(5,true,vo),(11,true,l.val),(12,true,.int .i64 l.l.length),(13,true,.int .i64 k)],[ShF dm.row l],[kz vo 25 3 encI (dZ N (l.l.take k))]⟩) (fun k=>l.l.length-k) rfl (⟨0,Nat.zero_le _,_,rfl⟩) ?_))))))))))))
 rintro k s ⟨hk,vo,rfl⟩
 refine aSR (aU rfl (bC rfl rfl) (aNs ?_))
 refine ao _ rfl (fun h1 => ?_) (fun h1 => ?_)
 ·skip
  have hk':k<l.l.length:=by simpa using h1
  obtain ⟨a,ha⟩:∃ a,l.l[k]? = some a:=⟨l.l[k]'hk',by simp⟩
  have har:=hr a (List.mem_of_getElem? ha)
  refine ax (an (ai (aq (aSR (UI Tryz.underlying251 tk253 0 rfl rfl rfl rfl rfl (aI ha) rfl rfl (fun ⟨b4_0,o4_0⟩=>(US 0 tk253 0 rfl rfl rfl rfl rfl (LT rfl (bJ (zs:=[.int .i64 0,.int .i64 0]) (by kernel_rfl) rfl (fun b4_2=>(aHN ?_)))))))))))
  refine aW rfl (ba 1 tk253 rfl rfl rfl rfl (aHK ?_))
  refine aNn ?_
  have hkk:a.from_.toNat<(dZ N (l.l.take k)).length:=by rw [dB];omega
  obtain ⟨xr,hxr⟩:∃ xr,(dZ N (l.l.take k))[a.from_.toNat]? = some xr:=⟨(dZ N (l.l.take k))[a.from_.toNat]'hkk,by simp⟩
  have hxl:xr.length≤100000000:=by have:=tD N _ (List.mem_of_getElem? hxr);rw [List.length_take] at this;omega
  refine jW 0 a.from_.toNat rfl hxr (fun vs v hvl hv => ?_)
  rw [dB] at hvl
  have hne:dy vs≠[]:=fun h0=>by
    have:=congrArg List.length h0
    simp [dy,hvl] at this;omega
  refine fm 0 rfl hne (fun B cp hvo => ?_)
  have hvr:(dy vs).length=N:=by simp [dy,hvl]
  rw [hvr] at hvo
  subst hvo
  have hrow:(dy vs)[a.from_.toNat]? = some [.v v]:=by simp [dy,hv]
  show awp _ _ _ _ ⟨_,_,[_,_,_,_]⟩
  refine DC [11,13] [13] [b4_2] 14 (CF 0 rfl rfl rfl (aT rfl) (CF 1 rfl rfl rfl (qFA (off:=0) rfl) ?_))
  refine oc 2 1 rfl (by kernel_rfl) true rfl rfl (by simp) tk3 (fun _=>rfl) rfl rfl ?_
  refine CF 3 rfl rfl rfl (aT rfl) (CF 4 rfl rfl rfl (qFA (off:=0) rfl) ?_)
  refine oc 5 1 rfl (by kernel_rfl) true rfl rfl (by simp) tk3 (fun _=>rfl) rfl rfl ?_
  refine CF 6 rfl rfl rfl (fW a.from_.toNat el273 rfl rfl (by omega) (by omega)) (CQ 7 rfl rfl rfl (bE (v:=.slice (some ⟨B,0,none⟩) N cp) (u:=v) 0 a.from_.toNat 0 tk25 rfl rfl hrow rfl rfl) (CF 8 rfl rfl rfl (qFA (off:=1) rfl) ?_))
  refine oc 9 1 rfl (by kernel_rfl) true rfl rfl (by simp) tk3 (fun _=>rfl) rfl rfl ?_
  refine dg 10 [] (by kernel_rfl) (cj ?_ cM)
  refine dA 10 rfl rfl (Eff.x (id (WL (zs:=[.int .i64 0]) el25 rfl rfl rfl (.more rfl (.v rfl .nil) .nil) rfl rfl (fun v5_10=>(CST ?_)))))
  refine dg 11 [] (by kernel_rfl) (cj ?_ cM)
  refine dA 11 rfl rfl (Eff.framed (q:=false) [2,4] rfl rfl (afH 1 rfl rfl afs) ?_)
  refine id (cK 0 el25 rfl rfl rfl rfl (dW 1 el25 rfl (by simp)) (by first | assumption | simp) (by simp [dG];omega) _ rfl (fun v5_11 c5_11 => ?_))
  refine zW (CST ?_)
  refine CF 12 rfl rfl rfl (fW a.from_.toNat el273 rfl rfl (by omega) (by omega)) ?_
  refine dg 13 [] (by kernel_rfl) (cj ?_ cM)
  refine dA 13 rfl rfl (Eff.wild (q:=false) (du 0 a.from_.toNat 0 tk25 rfl rfl rfl hrow rfl (.v rfl .nil) rfl (by decide) (CST ?_)))
  refine gb (by kernel_rfl) (bu (an ?_))
  refine sU (hp':=[aN (.slice (some ⟨B,0,none⟩) N cp) 25 1 (dy (vs.set a.from_.toNat (.slice v5_11 (xr.length+1) c5_11))),_,aN (.slice v5_11 (xr.length+1) c5_11) 3 1 (cD encI (xr++[a.to_])),fA ((inner 3 encI vs (dZ N (l.l.take k))).set a.from_.toNat emp),_]) (by rw [lW,dG];simp [cD,mE];exact ⟨rfl,rfl⟩) ?_
  refine gR 0 2 3 a.from_.toNat rfl rfl rfl rfl rfl rfl (by rw [hvl,dB]) hkk ?_
  show awp _ _ _ _ ⟨_,_,[_,_,_,_,_]⟩
  refine aa (aU rfl (aV rfl rfl (by omega)) (aM rfl (aNn ?_)))
  refine ⟨[5,11,12,13],[0],[0],rfl,?_⟩
  refine ⟨k+1,⟨by omega,.slice (some ⟨B,0,none⟩) N cp,?_⟩,by omega⟩
  rw [w6 _ _ ha,show gn (dZ N (l.l.take k)) a=(dZ N (l.l.take k)).set a.from_.toNat (xr++[a.to_]) by unfold gn;rw [List.getD_eq_getElem?_getD,hxr];rfl]
  rfl
 ·skip
  have hkl:k=l.l.length:=by simp at h1;omega
  rw [hkl,List.take_length]
  refine aR (aS (aS (aY (an (ai (ai (aaH 0 rfl (fun ad cp hvo => ?_))))))))
  rw [dB] at hvo
  subst hvo
  refine aa (aM rfl (aU rfl (aX Tryz.underlying273 rfl) (aM rfl (aNn (aq ?_)))))
  refine aP [5,32,33] [] [0] (fun (j:Nat) s=>j≤N∧s=⟨[(5,true,.slice ad N cp),(32,true,.int .i64 N),(33,true,.int .i64 j)],[],[kz (.slice ad N cp) 25 3 encI (gG (dZ N l.l) j)]⟩) (fun j=>N-j) rfl (⟨0,Nat.zero_le _,by rw [show gG (dZ N l.l) 0=dZ N l.l by simp [gG]];rfl⟩) ?_
  rintro j s ⟨hj,rfl⟩
  refine aSR (aU rfl (bC rfl rfl) (aNs ?_))
  refine ao _ rfl (fun h2 => ?_) (fun h2 => ?_)
  ·skip
   have hj':j<N:=by simpa using h2
   have hjj:j<(dZ N l.l).length:=by rw [dB];omega
   obtain ⟨xr,hxr⟩:∃ xr,(dZ N l.l)[j]? = some xr:=⟨(dZ N l.l)[j]'hjj,by simp⟩
   have hxl:xr.length≤100000000:=by have:=tD N _ (List.mem_of_getElem? hxr);omega
   refine ax (an (ai (aq (aSR (aM rfl (aA rfl (aNs (jW 0 j rfl (y7 hxr) (fun vs v hvl hv => ?_)))))))))
   rw [mx _ _ (by rw [dB];omega),dB] at hvl
   have hne:dy vs≠[]:=fun h0=>by
     have:=congrArg List.length h0
     simp [dy,hvl] at this;omega
   refine fm 0 rfl hne (fun B cp2 hvo => ?_)
   obtain ⟨rfl,rfl⟩:ad=some ⟨B,0,none⟩∧cp=cp2:=by simp at hvo;exact ⟨hvo.1,hvo.2.2⟩
   have hrow:(dy vs)[j]? = some [.v v]:=by simp [dy,hv]
   show awp _ _ _ _ ⟨_,_,[_,_,_]⟩
   refine aa (aM rfl (aM rfl (aU rfl (fW j el273 rfl rfl (by omega) (by omega)) (aU rfl (bE (v:=.slice (some ⟨B,0,none⟩) N cp) (u:=v) 0 j 0 tk25 rfl rfl hrow rfl rfl) (LF rfl (EC [] [1] rfl (oD _ (by omega)) ?_))))))
   rintro _ _ _ ⟨rfl,rfl⟩
   refine aST ?_
   refine aNn (aa (aM rfl (aM rfl (aM rfl (aM rfl (aU rfl (fW j el273 rfl rfl (by omega) (by omega)) (aU rfl (bE (v:=.slice (some ⟨B,0,none⟩) N cp) (u:=v) 0 j 0 tk25 rfl rfl hrow rfl rfl) (LF rfl (EC [] [1] rfl (mV _) ?_)))))))))
   rintro r11 _ _ ⟨rfl,ad2,c2,rfl,rfl⟩
   refine aST ?_
   refine aU rfl (fW j el273 rfl rfl (by omega) (by omega)) (LF rfl (du 0 j 0 tk25 rfl rfl rfl hrow rfl (.v rfl .nil) rfl (by decide) (bP (bu (an ?_)))))
   refine sU (hp':=[aN (.slice (some ⟨B,0,none⟩) N cp) 25 1 (dy (vs.set j (.slice ad2 (Lib.compact (fT xr)).length c2))),aN (.slice ad2 (Lib.compact (fT xr)).length c2) 3 1 (cD encI (dx xr)),fA ((inner 3 encI vs (gG (dZ N l.l) j)).set j emp)]) (by rw [lW];simp [mE];rfl) ?_
   refine gR 0 1 2 j rfl rfl rfl rfl rfl rfl (by rw [hvl,mx _ _ (by rw [dB];omega),dB]) (by rw [mx _ _ (by rw [dB];omega)];exact hjj) ?_
   show awp _ _ _ _ ⟨_,_,[_,_,_]⟩
   refine aa (aU rfl (aV rfl rfl (by omega)) (aM rfl (aNn ?_)))
   refine ⟨[5,32,33],[],[0],rfl,?_⟩
   refine ⟨j+1,⟨by omega,?_⟩,by omega⟩
   rw [← xa hxr];rfl
  ·skip
   have hjl:j=N:=by simp at h2;omega
   subst hjl
   have e:gG (dZ j l.l) j=dv j l.l:=by have:=dB j l.l;unfold gG dv;rw [List.take_of_length_le (by omega),List.drop_of_length_le (by omega),List.append_nil]
   rw [e]
   refine aR (aS (aS (aY (an (aSR (aM rfl (aA rfl (aNn (az (FZ1 [0] Tryz.results194 rfl ?_))))))))))
   exact ⟨rfl,rfl⟩
theorem agU(N:Nat)(hN:N≤1000000)(w:World):Calls Tryz.prog 117 #[.int .u64 (IntKind.u64.wrap 1),.int .u64 (IntKind.u64.wrap (N:Int))] w fun e w'=>e=.returned (.tuple #[.int .u64 0,.int .u64 N])∧Go.Sy.Below w.heap.size w w':=by
 have h:=Any.bits_Mul Tryz.lays212 1 N (by omega) (by omega) w
 have e1:IntKind.u64.wrap 1=1:=by decide
 have e2:IntKind.u64.wrap (N:Int)=N:=by rw [IntKind.wrap_u64];omega
 rw [e1,e2]
 refine h.mono fun e w' ⟨h1,h2⟩=>⟨?_,by rw [h2];exact Go.Sy.Below.refl _ _⟩
 rw [h1]
 have e3:1*N / 18446744073709551616=0:=by omega
 have e4:1*N % 18446744073709551616=N:=by omega
 rw [e3,e4];rfl
theorem wx{ad:Option Addr}{c:Nat}(v:Int):Con Tryz.prog 201 [.slice ad 1 c,.int .i64 ((0:Nat):Int)] [Sh (.slice ad 1 c) (.sl (cD encI [v]))] [] fun r ps hp=>ps=[]∧hp=[aN r 3 1 (cD encI [])]:=by
 refine EN2 Tryz.func201 rfl (aSR (aA rfl (aNs (aSR (aM rfl (aU rfl (bC rfl rfl) (aNn ?_)))))))
 refine ao _ rfl (fun h1 => ?_) (fun h1 => ?_)
 ·skip
  exact absurd h1 (by simp)
 ·skip
  refine ax (an (aSR (aM rfl (aU rfl (aX Tryz.underlying25 rfl) (aU rfl (cW (by kernel_rfl) Tryz.underlying206 rfl) (aM rfl (aU rfl (cW (by kernel_rfl) Tryz.underlying206 rfl) (aU rfl (QC rfl (fun w S fp hst=>agU 0 (by omega) w)) ?_))))))))
  refine aM rfl (aU rfl (ck rfl rfl) (aU rfl (ck rfl rfl) (aA rfl (aA rfl (aNs (aSR (aM rfl (aU rfl (cN rfl rfl) (aM rfl (aG rfl rfl (fun hc=>aT rfl) (aG rfl rfl (fun hc=>cN (ae rfl hc) rfl) (aU rfl (dp rfl rfl (fun h=>gf rfl h)) (aNn ?_)))))))))))))
  refine ao _ rfl (fun h2 => ?_) (fun h2 => ?_)
  ·skip
   exact absurd h2 (by decide)
  ·skip
   refine ax (an (aSR (aM rfl (aU rfl (cW (by kernel_rfl) Tryz.underlying3 rfl) (LT rfl (gP (m:=0) (zs:=[.int .i64 0]) el25 (by kernel_rfl) rfl (by decide) (dS rfl (rfl)) (dS rfl (rfl)) (by omega) rfl (fun v6_2=>(aHN ?_))))))))
   refine aA rfl (aNn (aSR (aM rfl (aM rfl (aU rfl (aan el25 rfl rfl) (aA rfl (aNs (aq (aP [7,8] [] [0] (fun (k:Nat) s=>s=⟨[(7,true,.slice v6_2 0 0),(8,true,.int .i64 0)],[],[aN (.slice v6_2 0 0) 3 1 (cD encI [])]⟩) (fun k=>k) rfl (⟨0,rfl⟩) ?_)))))))))
   rintro k s rfl
   refine ai (aSR (aM rfl (aM rfl (aU rfl (gK 0 Tryz.underlying25 rfl rfl) (aU rfl (bC rfl rfl) (aNn ?_))))))
   refine ao _ rfl (fun h3 => ?_) (fun h3 => ?_)
   ·skip
    exact absurd h3 (by decide)
   ·skip
    refine aR (aS (aS (aY (an (aSR (aM rfl (aA rfl (aNn (az (FZ1 [0] Tryz.results201 rfl ?_))))))))))
    exact ⟨rfl,rfl⟩
theorem wy{ad:Option Addr}{c:Nat}(v:Int)(N:Nat)(hN:N≤1000000)(h0:0<N):Con Tryz.prog 201 [.slice ad 1 c,.int .i64 N] [Sh (.slice ad 1 c) (.sl (cD encI [v]))] [] fun r ps hp=>ps=[]∧hp=[aN r 3 1 (cD encI (List.replicate N v))]:=by
 refine EN2 Tryz.func201 rfl (aSR (aA rfl (aNs (aSR (aM rfl (aU rfl (bC rfl rfl) (aNn ?_)))))))
 refine ao _ rfl (fun h1 => ?_) (fun h1 => ?_)
 ·skip
  exact absurd h1 (by simp)
 ·skip
  refine ax (an (aSR (aM rfl (aU rfl (aX Tryz.underlying25 rfl) (aU rfl (cW (by kernel_rfl) Tryz.underlying206 rfl) (aM rfl (aU rfl (cW (by kernel_rfl) Tryz.underlying206 rfl) (aU rfl (QC rfl (fun w S fp hst=>agU N hN w)) ?_))))))))
  refine aM rfl (aU rfl (ck rfl rfl) (aU rfl (ck rfl rfl) (aA rfl (aA rfl (aNs (aSR (aM rfl (aU rfl (cN rfl rfl) (aM rfl (aG rfl rfl (fun hc=>aT rfl) (aG rfl rfl (fun hc=>cN (ae rfl hc) rfl) (aU rfl (dp rfl rfl (fun h=>gf rfl h)) (aNn ?_)))))))))))))
  refine ao _ rfl (fun h2 => ?_) (fun h2 => ?_)
  ·skip
   exact absurd h2 (by simp;omega)
  ·skip
   refine ax (an (ai ?_))
   have hw:=wrapN N hN
   refine aa (aM rfl (aU rfl (cW (by kernel_rfl) Tryz.underlying3 rfl) (LT rfl (gP (m:=N) (zs:=[.int .i64 0]) el25 (by kernel_rfl) rfl (by decide) (dS rfl (hw)) (dS rfl (hw)) (by omega) rfl (fun v6_2=>(aHN ?_))))))
   refine aA rfl (aNs ?_)
   refine sU (hp':=[aN (.slice v6_2 N N) 3 1 (cD encI (List.replicate N 0))]) (by simp [cD]) ?_
   refine fm 0 rfl (by simp [cD];omega) (fun B cp hvo => ?_)
   obtain ⟨rfl,rfl⟩:v6_2=some ⟨B,0,none⟩∧N=cp:=by simp at hvo;exact ⟨hvo.1,hvo.2.2⟩
   refine aa (aM rfl (aM rfl ?_))
   refine LF rfl (aeH (zs:=List.replicate N 0) (xs:=[v]) 0 el25 (fun _=>rfl) rfl rfl rfl rfl (by simp) (aH 0 rfl) (by simp) (by simp;omega) (by simp;omega) (part N 1 v) (by simp [part]) rfl ?_)
   refine aA rfl (aNs (aq (aP [7,8] [] [0] (fun (k:Nat) s=>(1≤k∧k≤N)∧s=⟨[(7,true,.slice (some ⟨B,0,none⟩) N N),(8,true,.int .i64 k)],[],[aN (.slice (some ⟨B,0,none⟩) N N) 3 1 (cD encI (part N k v))]⟩) (fun k=>N-k) rfl (⟨1,⟨by omega,by omega⟩,rfl⟩) ?_)))
   rintro k s ⟨⟨hk1,hk2⟩,rfl⟩
   refine ai (aSR (aM rfl (aM rfl (aU rfl (aX Tryz.underlying25 rfl) (aU rfl (bC rfl rfl) (aNn ?_))))))
   refine ao _ rfl (fun h3 => ?_) (fun h3 => ?_)
   ·skip
    have hkN:k<N:=by simp at h3;omega
    obtain ⟨j,hj⟩:∃ j,j=min k (N-k):=⟨_,rfl⟩
    refine ax (an (aq (DR [7] 10 (aaE 0 rfl (by kernel_rfl) true rfl rfl (fun _=>aT rfl) (VM 1 rfl rfl (VM 2 rfl rfl (bV 3 rfl rfl (oN k (N-k) k el25 rfl rfl rfl hkN (Nat.le_refl _) rfl (by omega)) (VM 4 rfl rfl (VM 5 rfl rfl (bV 6 rfl rfl (iM k el25 rfl rfl rfl (by omega) (Nat.le_refl _)) ?_))))))))))
    refine VE 7 rfl rfl (aeG (zs:=part N k v) 0 el25 (fun _=>rfl) rfl rfl rfl rfl (wZ v hk2) j hj (by rw [wZ v hk2];omega) (part N (k+j) v) (abR v (by omega) (by omega)) ?_)
    refine bST rfl ?_
    refine bV 8 rfl rfl (aV rfl rfl (by omega)) (bV 9 rfl rfl (bo rfl) (BN (bu (an ?_))))
    refine ⟨[7,8],[],[0],rfl,?_⟩
    refine ⟨k+j,⟨⟨by omega,by omega⟩,?_⟩,by omega⟩
    rw [Int.natCast_add];rfl
   ·skip
    have hkN:k=N:=by simp at h3;omega
    subst hkN
    rw [show part k k v=List.replicate k v by simp [part]]
    refine aR (aS (aS (aY (an (aSR (aM rfl (aA rfl (aNn (az (FZ1 [0] Tryz.results201 rfl ?_))))))))))
    exact ⟨rfl,rfl⟩
end Go.Proofs.YtebnelfdimiifaaGreatDoor

namespace Go.Proofs.YtebnelfdimiifaaGreatDoor
open Go.RowKit Go.Lp Go.Sy Go.Lv
open Go.Proofs.Tryz
attribute [local irreducible] aL aB awp aC fwp Quiet
theorem yr{ad:Option Addr}{c:Nat}(v:Int)(N:Nat)(hN:N≤1000000):Con Tryz.prog 201 [.slice ad 1 c,.int .i64 N] [Sh (.slice ad 1 c) (.sl (cD encI [v]))] [] fun r ps hp=>ps=[]∧hp=[aN r 3 1 (cD encI (List.replicate N v))]:=by
 cases N with
 | zero=>exact wx v
 | succ N=>exact wy v (N+1) hN (Nat.succ_pos _)
set_option maxHeartbeats 4000000 in
theorem yt(N:Nat)(hN:N≤1000000)(l:Sl dm)(hl:l.l.length≤100000000)(hr:∀ a∈l.l,ja N a)(rs:Sl Int)(hrs:rs.l.length≤1000000) :
   Con Tryz.prog 180 [.int .i64 N,l.val,rs.val] [ShF dm.row l,ShF (fun z=>[.v (encI z)]) rs] [] fun r ps hp=>ps=[]∧hp=[aN r 3 1 (cD encI (ko N (dv N l.l) (dx rs.l)))]:=by
 have hro:=pw hr
 have hrl:=xD rs.l
 obtain ⟨M,hM⟩:∃ M,M=(dx rs.l).length+N:=⟨_,rfl⟩
 have hB:=lx N (dx rs.l)
 rw [← hM] at hB
 refine EN3 Tryz.func180 rfl (aSR (aA rfl (aNn (aSR (LT rfl (WL (zs:=[.int .i64 0]) el25 rfl rfl rfl (.more rfl (.v rfl .nil) .nil) rfl rfl (fun v1_0=>(aHN ?_))))))))
 refine aM rfl (LF rfl (EC [] [0] rfl (Con.ofOwn (yr (-1) N hN)) ?_))
 rintro vb _ _ ⟨rfl,rfl⟩
 refine aST ?_
 refine aA rfl (aNs (sW 0 rfl (fun ab cb hvb => ?_)))
 rw [dG,List.length_replicate] at hvb
 subst hvb
 refine aa (aM rfl (LT rfl (EC [0] [] rfl (qK rs.l hrs) ?_)))
 rintro vc _ _ ⟨rfl,rfl⟩
 refine aST ?_
 refine aA rfl (aNn (aSR (aM rfl (LF rfl (EC [] [1] rfl (oD rs.l (by omega)) ?_)))))
 rintro _ _ _ ⟨rfl,rfl⟩
 refine aST ?_
 refine aNs (ef 3 1 ?_)
 show awp _ _ _ _ ⟨_,_,[_,_,_]⟩
 refine aa (aA rfl (aNs (aSR (aM rfl (LF rfl (EC [] [1] rfl (mV _) ?_))))))
 rintro _ _ _ ⟨rfl,au,cu,rfl,rfl⟩
 refine aST ?_
 refine aU rfl (aX Tryz.underlying25 rfl) (aM rfl (aNn (aq (aP [0,1,7,9,24,25,26] [1] [0,1,2] (fun (p:Nat × Value) s=>p.1≤(dx rs.l).length∧s=⟨[(0,true,.int .i64 N),(1,true,l.val),(7,true,.slice ab N cb),(9,true,p.2),(24,true,.slice au (dx rs.l).length cu),(25,true,.int .i64 (dx rs.l).length),(26,true,.int .i64 p.1)],[ShF dm.row l],[aN (.slice ab N cb) 3 1 (cD encI (dK N ((dx rs.l).take p.1)).1),aN (.slice au (dx rs.l).length cu) 3 1 (cD encI (dx rs.l)),aN p.2 3 1 (cD encI (dK N ((dx rs.l).take p.1)).2)]⟩) (fun p=>(dx rs.l).length-p.1) rfl (⟨(0,.slice none 0 0),Nat.zero_le _,rfl⟩) ?_))))
 rintro ⟨k,vw⟩ s ⟨hk,rfl⟩
 dsimp only at hk
 refine aSR (aU rfl (bC rfl rfl) (aNs ?_))
 refine ao _ rfl (fun h1 => ?_) (fun h1 => ?_)
 ·skip
  have hk':k<(dx rs.l).length:=by simp at h1;omega
  obtain ⟨v,hv⟩:∃ v,(dx rs.l)[k]? = some v:=⟨_,List.getElem?_eq_getElem hk'⟩
  have hst:=vB N _ hv
  refine ax (an (ai (aq (ai (fm 1 rfl (na (by omega)) (fun Bu cpu hvu => ?_))))))
  obtain ⟨rfl,rfl⟩:au=some ⟨Bu,0,none⟩∧cu=cpu:=by simp at hvu;exact ⟨hvu.1,hvu.2.2⟩
  refine aa (aU rfl (fW k el25 rfl rfl rfl hk') (aU rfl (bE (v:=.slice (some ⟨Bu,0,none⟩) (dx rs.l).length cu) (u:=encI v) 1 k 0 tk3 rfl rfl (jH hv) rfl rfl) (aA rfl (aNn (aSR (aM rfl (aU rfl (fH rfl rfl) (aM rfl (aG rfl rfl (fun hc=>aT rfl) (aG rfl rfl (fun hc=>aT rfl) (aG rfl rfl (fun hc=>bC (ae rfl hc) (ae rfl hc)) (aU rfl (bB rfl rfl (fun h=>gt rfl h)) (aNn ?_)))))))))))))
  refine ao _ rfl (fun h2 => ?_) (fun h2 => ?_)
  ·skip
   have hvn:0≤v∧v<N:=by simpa using h2
   refine ai ?_
   have hbl:=(jY N ((dx rs.l).take k)).1
   refine fm 0 rfl (na (by rw [hbl];omega)) (fun B cp hvb => ?_)
   obtain ⟨rfl,rfl⟩:ab=some ⟨B,0,none⟩∧cb=cp:=by simp at hvb;exact ⟨hvb.1,hvb.2.2⟩
   obtain ⟨o,ho⟩:∃ o,(dK N ((dx rs.l).take k)).1[v.toNat]? = some o:=⟨_,List.getElem?_eq_getElem (by rw [hbl];omega)⟩
   have hrow:=jH ho
   refine aa (aM rfl (aM rfl (aM rfl (aU rfl (fW v.toNat el25 rfl rfl (by omega) (by omega)) (LF rfl (du 0 v.toNat 0 tk3 rfl rfl rfl hrow rfl (.v rfl .nil) rfl (by decide) (aNn (aa (aM rfl (aM rfl (LT rfl (WL (zs:=[.int .i64 0]) el25 rfl rfl rfl (.more rfl (.v rfl .nil) .nil) rfl rfl (fun v10_2=>(aHN ?_))))))))))))))
   refine aW rfl (cK 2 el25 rfl rfl rfl rfl (dW 3 el25 rfl (by simp)) (by first | assumption | simp) (by have:=(jY N ((dx rs.l).take k)).2;rw [List.length_take] at this;simp [dG];omega) _ rfl (fun v10_3 c10_3 => ?_))
   refine aHK ?_
   refine aA rfl (bP (bu (an (aa (aU rfl (aV rfl rfl (by omega)) (aM rfl (aNn ?_)))))))
   refine ⟨[0,1,7,9,24,25,26],[0],[0,1,2],rfl,?_⟩
   refine ⟨(k+1,.slice v10_3 ((cD encI (dK N ((dx rs.l).take k)).2).length+1) c10_3),⟨by omega,?_⟩,by omega⟩
   dsimp only
   rw [hst]
   unfold ed
   rw [if_pos hvn,wJ,lJ]
   rfl
  ·skip
   have hvn:¬ (0≤v∧v<N):=by simpa using h2
   refine ax (bu (an (aa (aU rfl (aV rfl rfl (by omega)) (aM rfl (aNn ?_))))))
   refine ⟨[0,1,7,9,24,25,26],[0],[0,1,2],rfl,?_⟩
   refine ⟨(k+1,vw),⟨by omega,?_⟩,by omega⟩
   dsimp only
   rw [hst]
   unfold ed
   rw [if_neg hvn]
   rfl
 ·skip
  have hkl:k=(dx rs.l).length:=by simp at h1;omega
  subst hkl
  rw [List.take_length]
  refine aR (aS (aS (aY (an (aSR (aM rfl (aM rfl (LT rfl (EC [0] [] rfl (wi N hN l hl (fun a ha=>(hr a ha).1)) ?_)))))))))
  rintro vn _ _ ⟨rfl,rfl⟩
  refine aST ?_
  refine aA rfl (aNs (ai (iO 3 rfl (fun so hso hsl => ?_))))
  subst hso
  refine aa (aA rfl (aNn (aq (aP [7,9,12,13] [2,1] [0,2] (fun (p:Nat × Value) s=>p.1≤(bfs (dv N l.l) (dK N (dx rs.l)) p.1).2.length∧s=⟨[(7,true,.slice ab N cb),(9,true,p.2),(12,true,so.val),(13,true,.int .i64 p.1)],[b6 (ShF fun z=>[.v (encI z)]) so.l,ShF (fun t:Sl Int=>[.v t.val]) so],[aN (.slice ab N cb) 3 1 (cD encI (bfs (dv N l.l) (dK N (dx rs.l)) p.1).1),aN p.2 3 1 (cD encI (bfs (dv N l.l) (dK N (dx rs.l)) p.1).2)]⟩) (fun p=>M-p.1) rfl (⟨(0,vw),Nat.zero_le _,rfl⟩) ?_))))
  rintro ⟨k,vw2⟩ s ⟨hk,rfl⟩
  dsimp only at hk
  have hBk:=qe hro hB k
  have hkM:=hBk.le
  refine ai (ai ?_)
  obtain ⟨sk,hsk⟩:∃ sk,bfs (dv N l.l) (dK N (dx rs.l)) k=sk:=⟨_,rfl⟩
  rw [hsk] at hk hBk hkM ⊢
  refine sW 1 rfl (fun aw cw hvw => ?_)
  rw [dG] at hvw
  subst hvw
  refine aa (aM rfl (aM rfl (aU rfl (aX Tryz.underlying25 rfl) (aU rfl (bC rfl rfl) (aNn ?_)))))
  refine ao _ rfl (fun h3 => ?_) (fun h3 => ?_)
  ·skip
   have hk':k<sk.2.length:=by simp at h3;omega
   obtain ⟨u,hu⟩:∃ u,sk.2[k]? = some u:=⟨_,List.getElem?_eq_getElem hk'⟩
   have hun:=hBk.mem u (List.mem_of_getElem? hu)
   have hsol:so.l.length=N:=by rw [← List.length_map (f:=Sl.l),hsl];unfold dv;rw [List.length_map,dB]
   refine ax (an (ai (aq (ai (fm 1 rfl (na (by omega)) (fun Bw cpw hvw => ?_))))))
   obtain ⟨rfl,rfl⟩:aw=some ⟨Bw,0,none⟩∧cw=cpw:=by simp at hvw;exact ⟨hvw.1,hvw.2.2⟩
   refine aa (aM rfl (aM rfl (aM rfl (aU rfl (fW k el25 rfl rfl rfl hk') (aU rfl (bE (v:=.slice (some ⟨Bw,0,none⟩) sk.2.length cw) (u:=encI u) 1 k 0 tk3 rfl rfl (jH hu) rfl rfl) (jo true rfl rfl (fun _=>bI Tryz.underlying273 tk25 rfl ((.of (aH 1 rfl))) rfl (fJ (i:=u) (by omega) (by omega)) (by omega) rfl) (fun h=>absurd h (by decide)) (fun ⟨b16_5,o16_5⟩=>(US 0 tk25 0 rfl rfl rfl rfl rfl (aU rfl (aX Tryz.underlying25 rfl) (aM rfl (aNn (aq ?_))))))))))))
   obtain ⟨row,hrow⟩:∃ row,elt so.l u=row:=⟨_,rfl⟩
   have hrm:row∈so.l:=by rw [← hrow];exact List.mem_of_getElem? (kO (by omega) hun.1)
   have hrl:row.l=elt (dv N l.l) u:=by rw [← hrow,← hsl];unfold elt;rw [List.getD_eq_getElem?_getD,List.getD_eq_getElem?_getD,List.getElem?_map];cases so.l[u.toNat]? <;> rfl
   have hrb:∀ x∈row.l,0≤x∧x<N:=by rw [hrl];exact hro u
   rw [hrow]
   refine bS (Ent.allm (f:=ShF fun z:Int=>[.v (encI z)]) (.of (aH 1 rfl)) hrm) (fun hrlen=>(aP [7,9,12,13,61,62,63] [1,0] [0,1] (fun (q:Nat × Value) s=>q.1≤row.l.length∧s=⟨[(7,true,.slice ab N cb),(9,true,q.2),(12,true,so.val),(13,true,.int .i64 k),(61,true,row.val),(62,true,.int .i64 row.l.length),(63,true,.int .i64 q.1)],[b6 (ShF fun z=>[.v (encI z)]) so.l,ShF (fun t:Sl Int=>[.v t.val]) so],[aN (.slice ab N cb) 3 1 (cD encI ((row.l.take q.1).foldl (visit u) sk).1),aN q.2 3 1 (cD encI ((row.l.take q.1).foldl (visit u) sk).2)]⟩) (fun q=>row.l.length-q.1) rfl (⟨(0,.slice (some ⟨Bw,0,none⟩) sk.2.length cw),Nat.zero_le _,rfl⟩) ?_))
   rintro ⟨j,vw3⟩ s ⟨hj,rfl⟩
   dsimp only at hj
   have hBj:=oT hun.1 (row.l.take j) sk hBk (fun x hx=>hrb x (List.mem_of_mem_take hx))
   have huj:=uP (kq (u:=u) (row.l.take j) sk) hu
   refine aSR (aU rfl (bC rfl rfl) (aNs ?_))
   refine ao _ rfl (fun h4 => ?_) (fun h4 => ?_)
   ·skip
    have hj':j<row.l.length:=by simp at h4;omega
    obtain ⟨x,hx⟩:∃ x,row.l[j]? = some x:=⟨_,List.getElem?_eq_getElem hj'⟩
    have hxn:=hrb x (List.mem_of_getElem? hx)
    have hvs:=xF (u:=u) row.l sk hx
    obtain ⟨sj,hsj⟩:∃ sj,(row.l.take j).foldl (visit u) sk=sj:=⟨_,rfl⟩
    rw [hsj] at hBj huj hvs ⊢
    refine ax (an (ai (aq (aSR (jo true rfl rfl (fun _=>bI Tryz.underlying25 tk3 rfl ((Ent.allm (f:=ShF fun z:Int=>[.v (encI z)]) (.of (aH 0 rfl)) hrm)) rfl (aI hx) rfl rfl) (fun h=>absurd h (by decide)) (fun ⟨b18_0,o18_0⟩=>(US 0 tk3 0 rfl rfl rfl rfl rfl (aA rfl (aNs ?_)))))))))
    refine fm 0 rfl (na (by rw [hBj.len];omega)) (fun B cp hvb => ?_)
    obtain ⟨rfl,rfl⟩:ab=some ⟨B,0,none⟩∧cb=cp:=by simp at hvb;exact ⟨hvb.1,hvb.2.2⟩
    have hbx:sj.1[x.toNat]? = some (elt sj.1 x):=kO (by rw [hBj.len];exact hxn.2) hxn.1
    refine aa (aM rfl (aM rfl (aU rfl (fW x.toNat el25 rfl rfl (by omega) (by omega)) (aU rfl (bE (v:=.slice (some ⟨B,0,none⟩) N cb) (u:=encI (elt sj.1 x)) 0 x.toNat 0 tk3 rfl rfl (jH hbx) rfl rfl) (aU rfl (bC rfl rfl) (aNn ?_))))))
    refine ao _ rfl (fun h5 => ?_) (fun h5 => ?_)
    ·skip
     have hneg:elt sj.1 x<0:=by simpa using h5
     refine ai ?_
     have hklt:k<sj.2.length:=(List.getElem?_eq_some_iff.1 huj).1
     refine fm 1 rfl (na (by omega)) (fun Bw2 cpw2 hvw => ?_)
     rw [dG] at hvw
     subst hvw
     refine aa (aM rfl (aM rfl (aM rfl (aM rfl (aU rfl (fW k el25 rfl rfl rfl hklt) (aU rfl (bE (v:=.slice (some ⟨Bw2,0,none⟩) sj.2.length cpw2) (u:=encI u) 1 k 0 tk3 rfl rfl (jH huj) rfl rfl) (aU rfl (fW x.toNat el25 rfl rfl (by omega) (by omega)) (LF rfl (du 0 x.toNat 0 tk3 rfl rfl rfl (jH hbx) rfl (.v rfl .nil) rfl (by decide) (aNn (aa (aM rfl (aM rfl ?_)))))))))))))
     refine LT rfl (WL (zs:=[.int .i64 0]) el25 rfl rfl rfl (.more rfl (.v rfl .nil) .nil) rfl rfl (fun v21_2=>(aHN ?_)))
     refine aW rfl (cK 1 el25 rfl rfl rfl rfl (dW 2 el25 rfl (by simp)) (by first | assumption | simp) (by have:=hBj.le;simp [dG];omega) _ rfl (fun v21_3 c21_3 => ?_))
     refine aHK ?_
     refine aA rfl (bP (bu (an (aa (aU rfl (aV rfl rfl (by omega)) (aM rfl (aNn ?_)))))))
     refine ⟨[7,9,12,13,61,62,63],[1,0],[0,1],rfl,?_⟩
     refine ⟨(j+1,.slice v21_3 ((cD encI sj.2).length+1) c21_3),⟨by omega,?_⟩,by omega⟩
     dsimp only
     rw [hvs]
     unfold visit
     rw [if_pos hneg,wJ,lJ]
     rfl
    ·skip
     have hneg:¬ elt sj.1 x<0:=by simpa using h5
     refine ax (bu (an (aa (aU rfl (aV rfl rfl (by omega)) (aM rfl (aNn ?_))))))
     refine ⟨[7,9,12,13,61,62,63],[1,0],[0,1],rfl,?_⟩
     refine ⟨(j+1,vw3),⟨by omega,?_⟩,by omega⟩
     dsimp only
     rw [hvs]
     unfold visit
     rw [if_neg hneg]
     rfl
   ·skip
    have hjl:j=row.l.length:=by simp at h4;omega
    subst hjl
    have hk1:bfs (dv N l.l) (dK N (dx rs.l)) (k+1)=row.l.foldl (visit u) sk:=by show qg _ (bfs (dv N l.l) (dK N (dx rs.l)) k) k=_;rw [hsk];unfold qg;rw [hu,hrl]
    refine aR (aS (aS (aY (bu (an (aa (aM rfl (aU rfl (aV rfl rfl (by omega)) (aA rfl (aNn ?_))))))))))
    refine ⟨[7,9,12,13],[1,0],[0,1],rfl,?_⟩
    refine ⟨(k+1,vw3),⟨?_,?_⟩,?_⟩
    · dsimp only;rw [hk1,← List.take_length (l:=row.l)];exact (List.getElem?_eq_some_iff.1 huj).1
    · dsimp only;rw [hk1,List.take_length];rfl
    · dsimp only;omega
  ·skip
   have hkl:k=sk.2.length:=by simp at h3;omega
   refine aR (aS (aS (aY (an (aSR (aM rfl (aA rfl (aNn (az (FZ1 [0] Tryz.results180 rfl ?_))))))))))
   refine ⟨rfl,?_⟩
   rw [← zi hro (k:=k) (by rw [hsk];exact hkl),hsk];rfl
end Go.Proofs.YtebnelfdimiifaaGreatDoor

namespace Go.Proofs.YtebnelfdimiifaaGreatDoor
open Go.RowKit Go.Lp Go.Sy
def abu(l:List Int)(v:Int):Prop:=0≤v∧v<l.length∧0≤elt l v
def chain(l:List Int):Nat→Int→List Int
 | 0,v=>[v]
 | f+1,v=>if elt l v=v then [v] else v::chain l f (elt l v)
structure Tree (l:List Int) (ρ:Int→Nat):Prop where
 step:∀ v,abu l v→elt l v≠v→abu l (elt l v)∧ρ (elt l v)<ρ v
theorem vF{l:List Int}{ρ:Int→Nat}(hT:Tree l ρ):∀ (f g:Nat) (v:Int),abu l v→ρ v≤f→ρ v≤g→chain l f v=chain l g v
 | 0,0,v,_,_,_=>rfl
 | 0,g+1,v,h,hf,_=>by
   unfold chain
   split
   · rfl
   · rename_i hne;have:=(hT.step v h hne).2;omega
 | f+1,0,v,h,_,hg=>by
   unfold chain
   split
   · rfl
   · rename_i hne;have:=(hT.step v h hne).2;omega
 | f + 1,g+1,v,h,hf,hg=>by
   unfold chain
   split
   · rfl
   · rename_i hne
     obtain ⟨h1,h2⟩:=hT.step v h hne
     rw [vF hT f g _ h1 (by omega) (by omega)]
theorem j0(l:List Int)(f:Nat)(v:Int):chain l f v=v::(chain l f v).tail:=by
 cases f with
 | zero=>rfl
 | succ f=>unfold chain;split<;>rfl
theorem xS{l:List Int}{ρ:Int→Nat}(hT:Tree l ρ){v:Int}(h:abu l v)(hne:elt l v≠v):(chain l (ρ v) v).tail=chain l (ρ (elt l v)) (elt l v):=by
 obtain ⟨h1,h2⟩:=hT.step v h hne
 obtain ⟨f,hf⟩:∃ f,ρ v=f+1:=⟨ρ v-1,by omega⟩
 rw [hf]
 show (if elt l v=v then [v] else v::chain l f (elt l v)).tail=_
 rw [if_neg hne,List.tail_cons]
 exact vF hT _ _ _ h1 (by omega) (Nat.le_refl _)
theorem aaL{l:List Int}(f:Nat){v:Int}(h:elt l v=v):chain l f v=[v]:=by
 cases f with
 | zero=>rfl
 | succ f=>unfold chain;rw [if_pos h]
def iu(l:List Int)(ρ:Int→Nat)(to_:Int):List Int:=if elt l to_<0 then [] else (chain l (ρ to_) to_).reverse
open Go.Proofs.Tryz
attribute [local irreducible] aL aB awp aC fwp Quiet
theorem yy(l:Sl Int)(ρ:Int→Nat)(hT:Tree l.l ρ)(to_:Int)(ht:0≤to_∧to_<l.l.length)(hb:ρ to_≤100000) :
   Con Tryz.prog 181 [l.val,.int .i64 to_] [ShF (fun z=>[.v (encI z)]) l] [] fun r ps hp=>hp=[]∧∃ ad c,(ad=none↔iu l.l ρ to_=[])∧r=.slice ad (iu l.l ρ to_).length c∧ps=[Sh (.slice ad (iu l.l ρ to_).length c) (.sl (cD encI (iu l.l ρ to_)))]:=by
 refine EN2 Tryz.func181 rfl (aSR (aA rfl (aNs (aSR (aM rfl (aM rfl (jo true rfl rfl (fun _=>bI Tryz.underlying25 tk3 rfl ((.of (aH 0 rfl))) rfl (fJ (i:=to_) (by omega) (by omega)) (by omega) rfl) (fun h=>absurd h (by decide)) (fun ⟨b1_2,o1_2⟩=>(US 0 tk3 0 rfl rfl rfl rfl rfl (aU rfl (bC rfl rfl) (aNn ?_)))))))))))
 refine ao _ rfl (fun h1 => ?_) (fun h1 => ?_)
 ·skip
  refine aSR (aA rfl (aNn ?_))
  refine acr (Sh (.slice none 0 0) (.sl [])) (fun _ _ _=>fv.e _ _ (by unfold maxLen;omega)) ?_
  refine az (bw ?_)
  refine nf [2] [] rfl Tryz.results181 rfl ?_ (.inr rfl)
  exact ⟨rfl,none,0,⟨fun _=>if_pos (by simpa using h1),fun _=>rfl⟩,by rw [show iu l.l ρ to_=[] from if_pos (by simpa using h1)];rfl,by rw [show iu l.l ρ to_=[] from if_pos (by simpa using h1)];rfl⟩
 ·skip
  have hgo:abu l.l to_:=⟨ht.1,ht.2,by simpa using h1⟩
  refine ax (an (aSR (aM rfl (LT rfl (WL (zs:=[.int .i64 0]) el25 rfl rfl rfl (.more rfl (.v rfl .nil) .nil) rfl rfl (fun v3_1=>(aHN ?_)))))))
  refine aA rfl (aNs (aq ?_))
  refine aP [0,1,5] [0] [0] (fun (p:Int × List Int × Value) s=>(abu l.l p.1∧p.2.1++(chain l.l (ρ p.1) p.1).tail=chain l.l (ρ to_) to_∧p.2.1.length+ρ p.1≤ρ to_+1)∧s=⟨[(0,true,l.val),(1,true,.int .i64 p.1),(5,true,p.2.2)],[ShF (fun z=>[.v (encI z)]) l],[aN p.2.2 3 1 (cD encI p.2.1)]⟩) (fun p=>ρ p.1) rfl (⟨(to_,[to_],_),⟨hgo,(j0 _ _ _).symm,by simp;omega⟩,rfl⟩) ?_
  rintro ⟨v,acc,out⟩ s ⟨⟨hv,hch,hlen⟩,rfl⟩
  dsimp only at hv hch hlen
  have hv1:=hv.1
  have hv2:=hv.2.1
  refine ai (aSR (aM rfl (aM rfl (jo true rfl rfl (fun _=>bI Tryz.underlying25 tk3 rfl ((.of (aH 0 rfl))) rfl (fJ (i:=v) (by omega) (by omega)) (by omega) rfl) (fun h=>absurd h (by decide)) (fun ⟨b4_2,o4_2⟩=>(US 0 tk3 0 rfl rfl rfl rfl rfl (aM rfl (aU rfl (fI rfl rfl) (aNn ?_)))))))))
  refine ao _ rfl (fun h2 => ?_) (fun h2 => ?_)
  ·skip
   have hne:elt l.l v≠v:=by simpa using h2
   have hst:=hT.step v hv hne
   have hcs:=xS hT hv hne
   refine ax (an (aq (aSR (aM rfl (aM rfl (jo true rfl rfl (fun _=>bI Tryz.underlying25 tk3 rfl ((.of (aH 1 rfl))) rfl (fJ (i:=v) (by omega) (by omega)) (by omega) rfl) (fun h=>absurd h (by decide)) (fun ⟨b5_2,o5_2⟩=>(US 0 tk3 0 rfl rfl rfl rfl rfl (aA rfl (aNn (aa (aM rfl (aM rfl ?_)))))))))))))
   refine LT rfl (WL (zs:=[.int .i64 0]) el25 rfl rfl rfl (.more rfl (.v rfl .nil) .nil) rfl rfl (fun v6_2=>(aHN ?_)))
   refine aW rfl (cK 0 el25 rfl rfl rfl rfl (dW 1 el25 rfl (by simp)) (by first | assumption | simp) (by simp [dG];omega) _ rfl (fun v6_3 c6_3 => ?_))
   refine aHK ?_
   refine aA rfl (bP (bu (an ?_)))
   refine ⟨[0,1,5],[0],[0],rfl,?_⟩
   refine ⟨(elt l.l v,acc++[elt l.l v],.slice v6_3 ((cD encI acc).length+1) c6_3),⟨⟨hst.1,?_,by simp;omega⟩,?_⟩,hst.2⟩
   · rw [← hch,hcs,List.append_assoc]
     exact congrArg _ (j0 _ _ _).symm
   · show _=(⟨_,_,[aN _ _ 1 (cD encI (acc++[elt l.l v]))]⟩:Sta)
     rw [show cD encI (acc++[elt l.l v])=cD encI acc++[[.v (encI (elt l.l v))]] by simp [cD]]
     rfl
  ·skip
   have heq:elt l.l v=v:=by simpa using h2
   rw [aaL _ heq,List.tail_cons,List.append_nil] at hch
   subst hch
   refine aR (aS (aS (aY (an (aSR (aM rfl (LF rfl (EC [] [0] rfl (uD _) ?_))))))))
   rintro r7 _ _ ⟨rfl,rfl⟩
   refine aST ?_
   refine aNn (aSR (aM rfl (aA rfl (aNn ?_))))
   have hcn:(chain l.l (ρ to_) to_).reverse≠[]:=fun h0=>by
     rw [List.reverse_eq_nil_iff,j0] at h0
     cases h0
   refine fm 0 rfl (fun h0=>hcn (List.map_eq_nil_iff.1 h0)) (fun B kc hv => ?_)
   rw [dG] at hv
   refine ep 0 rfl (az ?_)
   refine nf [2] [] rfl Tryz.results181 rfl ?_ (.inr rfl)
   have e:iu l.l ρ to_=(chain l.l (ρ to_) to_).reverse:=if_neg (by simpa using h1)
   exact ⟨rfl,some ⟨B,0,none⟩,kc,⟨fun h=>(by cases h),fun h=>absurd (e ▸ h) hcn⟩,by rw [e];exact hv,by rw [e,← hv];rfl⟩
end Go.Proofs.YtebnelfdimiifaaGreatDoor

namespace Go.Lv
open Go.Sy
structure G (N:Nat) (out:List (List Int)) (rs:List Int) (k:Nat) (s:BS):Prop where
 len:s.1.length=N
 mem:∀ v∈s.2,0≤v∧v<N
 iff:∀ v:Int,0≤v→v<N→(0≤elt s.1 v↔v∈s.2)
 nodup:s.2.Nodup
 par:∀ (j:Nat) (v:Int),s.2[j]? = some v→(elt s.1 v=v∧v∈rs)∨∃ (i:Nat) (u:Int),i<j∧i≤k∧s.2[i]? = some u∧elt s.1 v=u∧v∈elt out u∧∀ i'<i,∀ u',s.2[i']? = some u'→v ∉ elt out u'
 clo:∀ i<k,∀ u,s.2[i]? = some u→∀ x∈elt out u,x∈s.2
 root:∀ v∈rs,0≤v→v<N→v∈s.2
theorem mZ(N:Nat)(v:Int)(h0:0≤v)(h1:v<N):elt (List.replicate N (-1:Int)) v = -1:=by
 unfold elt;rw [List.getD_eq_getElem?_getD,List.getElem?_replicate,if_pos (by omega)];rfl
structure G0 (N:Nat) (rd:List Int) (s:BS):Prop where
 len:s.1.length=N
 mem:∀ v∈s.2,(0≤v∧v<N)∧elt s.1 v=v∧v∈rd
 iff:∀ v:Int,0≤v→v<N→(0≤elt s.1 v↔v∈s.2)
 nodup:s.2.Nodup
 root:∀ v∈rd,0≤v→v<N→v∈s.2
theorem xt{N:Nat}{rd:List Int}{s:BS}{v:Int}(h:G0 N rd s)(hv:v ∉ rd):G0 N (rd++[v]) (ed N s v):=by
 unfold ed
 split
 · rename_i hvn
   have hvs:v ∉ s.2:=fun hm=>hv (h.mem v hm).2.2
   have he:∀ y,0≤y→elt (s.1.set v.toNat v) y=if v=y then v else elt s.1 y:=fun y hy=>ei hvn.1 (by rw [h.len];exact hvn.2) hy
   refine ⟨by simpa using h.len,fun y hy => ?_,fun y hy0 hy1 => ?_,?_,fun y hy h0 h1 => ?_⟩
   · dsimp only
     rcases List.mem_append.1 hy with hy | hy
     · obtain ⟨h1,h2,h3⟩:=h.mem y hy
       refine ⟨h1,?_,List.mem_append_left _ h3⟩
       rw [he y h1.1];split
       · rename_i e;exact e
       · exact h2
     · rw [List.mem_singleton.1 hy]
       exact ⟨hvn,by rw [he v hvn.1,if_pos rfl],by simp⟩
   · dsimp only
     rw [he y hy0,List.mem_append,List.mem_singleton]
     split
     · rename_i e;exact ⟨fun _=>.inr e.symm,fun _=>hvn.1⟩
     · rename_i e
       rw [h.iff y hy0 hy1]
       exact ⟨.inl,fun h=>h.elim id fun h=>(e h.symm).elim⟩
   · refine List.nodup_append.2 ⟨h.nodup,by simp,fun a ha b hb => ?_⟩
     rw [List.mem_singleton.1 hb];rintro rfl;exact hvs ha
   · rcases List.mem_append.1 hy with hy | hy
     · exact List.mem_append_left _ (h.root y hy h0 h1)
     · exact List.mem_append_right _ hy
 · rename_i hvn
   refine ⟨h.len,fun y hy=>⟨(h.mem y hy).1,(h.mem y hy).2.1,List.mem_append_left _ (h.mem y hy).2.2⟩,h.iff,h.nodup,fun y hy h0 h1 => ?_⟩
   rcases List.mem_append.1 hy with hy | hy
   · exact h.root y hy h0 h1
   · rw [List.mem_singleton.1 hy] at h0 h1;exact (hvn ⟨h0,h1⟩).elim
theorem sZ(N:Nat):∀ (l rd:List Int) (s:BS),G0 N rd s→(rd++l).Nodup→G0 N (rd++l) (l.foldl (ed N) s)
 | [],rd,s,h,_=>by simpa using h
 | v::l,rd,s,h,hn=>by
   rw [List.foldl_cons,show rd++v::l=(rd++[v])++l by simp]
   refine sZ N l (rd++[v]) _ (xt h fun hm => ?_) (by simpa using hn)
   have:=(List.nodup_append.1 hn).2.2 v hm v List.mem_cons_self
   exact this rfl
theorem acA{N:Nat}{out:List (List Int)}{rs:List Int}(hn:rs.Nodup):G N out rs 0 (dK N rs):=by
 have h:G0 N rs (dK N rs):=by
   have h0:G0 N [] (List.replicate N (-1),[]):=by
     refine ⟨by simp,(fun v hv=>by cases hv),fun v h0 h1 => ?_,by simp,fun v hv=>by cases hv⟩
     dsimp only;rw [mZ N v h0 h1];simp
   have:=sZ N rs [] _ h0 (by simpa using hn)
   unfold dK;simpa using this
 exact ⟨h.len,fun v hv=>(h.mem v hv).1,h.iff,h.nodup,fun j v hj=>.inl (h.mem v (List.mem_of_getElem? hj)).2,fun i hi=>by omega,h.root⟩
theorem afk{N:Nat}{out:List (List Int)}{rs:List Int}{k:Nat}{s:BS}{u x:Int}(h:G N out rs k s)(hu:s.2[k]? = some u)(hx:x∈elt out u)(hxn:0≤x∧x<N):G N out rs k (visit u s x)∧x∈(visit u s x).2:=by
 unfold visit
 split
 · rename_i h0
   have hxs:x ∉ s.2:=fun hm=>by have:=(h.iff x hxn.1 hxn.2).2 hm;omega
   have hun:=h.mem u (List.mem_of_getElem? hu)
   have he:∀ y,0≤y→elt (s.1.set x.toNat u) y=if x=y then u else elt s.1 y:=fun y hy=>ei hxn.1 (by rw [h.len];exact hxn.2) hy
   have hkl:=(List.getElem?_eq_some_iff.1 hu).1
   have hget:∀ (i:Nat),i<s.2.length→(s.2++[x])[i]? = s.2[i]? := fun i hi=>List.getElem?_append_left hi
   refine ⟨⟨by simpa using h.len,fun y hy => ?_,fun y hy0 hy1 => ?_,?_,fun j v hj => ?_,fun i hi w hw y hy => ?_,fun y hy h1 h2=>List.mem_append_left _ (h.root y hy h1 h2)⟩,by simp⟩
   · rcases List.mem_append.1 hy with hy | hy
     · exact h.mem y hy
     · rw [List.mem_singleton.1 hy];exact hxn
   · dsimp only
     rw [he y hy0,List.mem_append,List.mem_singleton]
     split
     · rename_i e;exact ⟨fun _=>.inr e.symm,fun _=>hun.1⟩
     · rename_i e
       rw [h.iff y hy0 hy1]
       exact ⟨.inl,fun h=>h.elim id fun h=>(e h.symm).elim⟩
   · refine List.nodup_append.2 ⟨h.nodup,by simp,fun a ha b hb => ?_⟩
     rw [List.mem_singleton.1 hb];rintro rfl;exact hxs ha
   · dsimp only at hj ⊢
     by_cases hjl:j<s.2.length
     · rw [hget j hjl] at hj
       have hvm:=List.mem_of_getElem? hj
       have hvx:x≠v:=fun e=>hxs (e ▸ hvm)
       rw [he v (h.mem v hvm).1,if_neg hvx]
       rcases h.par j v hj with h1 | ⟨i,w,h1,h2,h3,h4,h5,h6⟩
       · exact .inl h1
       · refine .inr ⟨i,w,h1,h2,by rw [hget i (by omega)];exact h3,h4,h5,fun i' hi' u' hu'=>h6 i' hi' u' ?_⟩
         rwa [hget i' (by omega)] at hu'
     · have hjx:v=x:=by
         have hjl2:=(List.getElem?_eq_some_iff.1 hj).1
         rw [List.length_append,List.length_singleton] at hjl2
         rw [List.getElem?_append_right (by omega),show j-s.2.length=0 by omega] at hj
         simpa using hj.symm
       subst hjx
       refine .inr ⟨k,u,by omega,Nat.le_refl _,by rw [hget k hkl];exact hu,by rw [he v hxn.1,if_pos rfl],hx,fun i' hi' u' hu' hm=>hxs (h.clo i' hi' u' ?_ v hm)⟩
       rwa [hget i' (by omega)] at hu'
   · dsimp only at hw ⊢
     rw [hget i (by omega)] at hw
     exact List.mem_append_left _ (h.clo i hi w hw y hy)
 · rename_i h0
   exact ⟨h,(h.iff x hxn.1 hxn.2).1 (by omega)⟩
theorem xE{N:Nat}{out:List (List Int)}{rs:List Int}{k:Nat}{u:Int} : ∀ (l:List Int) (s:BS),G N out rs k s→s.2[k]? = some u→(∀ x∈l,x∈elt out u∧0≤x∧x<N)→G N out rs k (l.foldl (visit u) s)∧∀ x∈l,x∈(l.foldl (visit u) s).2
 | [],s,h,_,_=>⟨h,fun _ h=>by cases h⟩
 | x::l,s,h,hu,hl=>by
   obtain ⟨h1,h2⟩:=afk h hu (hl x List.mem_cons_self).1 (hl x List.mem_cons_self).2
   obtain ⟨h3,h4⟩:=xE l (visit u s x) h1 (uP tR hu) (fun y hy=>hl y (List.mem_cons_of_mem _ hy))
   refine ⟨h3,fun y hy => ?_⟩
   rcases List.mem_cons.1 hy with rfl | hy
   · exact (kq l (visit u s y)).subset h2
   · exact h4 y hy
theorem afx{N:Nat}{out:List (List Int)}{rs:List Int}(hn:rs.Nodup)(ho:l4 N out):∀ k,G N out rs k (bfs out (dK N rs) k)
 | 0=>acA hn
 | k + 1 => by
   have ih:=afx hn ho k
   unfold bfs qg
   split
   · rename_i hnone
     refine ⟨ih.len,ih.mem,ih.iff,ih.nodup,fun j v hj => ?_,fun i hi u hu x hx => ?_,ih.root⟩
     · exact (ih.par j v hj).imp id fun ⟨i,u,h1,h2,h⟩=>⟨i,u,h1,by omega,h⟩
     · by_cases hik:i=k
       · subst hik;rw [hnone] at hu;cases hu
       · exact ih.clo i (by omega) u hu x hx
   · rename_i u hu
     obtain ⟨h1,h2⟩:=xE (elt out u) _ ih hu (fun x hx=>⟨hx,ho u x hx⟩)
     refine ⟨h1.len,h1.mem,h1.iff,h1.nodup,fun j v hj => ?_,fun i hi w hw x hx => ?_,h1.root⟩
     · exact (h1.par j v hj).imp id fun ⟨i,u,h1,h2,h⟩=>⟨i,u,h1,by omega,h⟩
     · by_cases hik:i=k
       · subst hik
         have:=uP (kq (u:=u) (elt out u) _) hu
         rw [this] at hw
         simp only [Option.some.injEq] at hw
         subst hw
         exact h2 x hx
       · exact h1.clo i (by omega) w hw x hx
inductive Rch (N:Nat) (out:List (List Int)) (rs:List Int):Int→Prop where
 | root {v:Int} : v∈rs→0≤v→v<N→Rch N out rs v
 | arc {u v:Int} : Rch N out rs u→v∈elt out u→Rch N out rs v
def xG(N:Nat)(out:List (List Int))(rs:List Int):List Int:=(bfs out (dK N rs) (rs.length+N)).2
section
variable {N:Nat} {out:List (List Int)} {rs:List Int}
theorem xH(ho:l4 N out):(xG N out rs).length≤rs.length+N:=(qe ho (lx N rs) _).le
theorem uK(hn:rs.Nodup)(ho:l4 N out):G N out rs (rs.length+N) (ko N out rs,xG N out rs):=afx hn ho _
theorem adk(hn:rs.Nodup)(ho:l4 N out)(v:Int):v∈xG N out rs↔Rch N out rs v:=by
 have hG:=uK (rs:=rs) hn ho
 have hl:=xH (rs:=rs) ho
 constructor
 · have:∀ (j:Nat) (v:Int),(xG N out rs)[j]? = some v→Rch N out rs v:=by
     intro j
     induction j using Nat.strongRecOn with
     | _ j ih =>
       intro v hj
       have hvn:=hG.mem v (List.mem_of_getElem? hj)
       rcases hG.par j v hj with ⟨_,h1⟩ | ⟨i,u,h1,_,h3,_,h5,_⟩
       · exact .root h1 hvn.1 hvn.2
       · exact .arc (ih i h1 u h3) h5
   intro hv
   obtain ⟨j,hj⟩:=List.mem_iff_getElem?.1 hv
   exact this j v hj
 · intro h
   induction h with
   | root h h0 h1=>exact hG.root _ h h0 h1
   | arc _ h ih =>
     obtain ⟨i,hi⟩:=List.mem_iff_getElem?.1 ih
     have:=(List.getElem?_eq_some_iff.1 hi).1
     exact hG.clo i (by omega) _ hi _ h
theorem zj(ho:l4 N out):(ko N out rs).length=N:=(qe ho (lx N rs) _).len
theorem sL(hn:rs.Nodup)(ho:l4 N out){v:Int}(h0:0≤v)(h1:v<N):0≤elt (ko N out rs) v↔Rch N out rs v:=by
 rw [← adk hn ho];exact (uK hn ho).iff v h0 h1
theorem agn(ho:l4 N out){v:Int}(h:Rch N out rs v):0≤v∧v<N:=by
 cases h with
 | root _ h0 h1=>exact ⟨h0,h1⟩
 | arc _ h=>exact ho _ _ h
def adX(w:List Int)(v:Int):Nat:=w.idxOf v
theorem xm{w:List Int}(hn:w.Nodup){j:Nat}{v:Int}(h:w[j]? = some v):adX w v=j:=by
 obtain ⟨hj,rfl⟩:=List.getElem?_eq_some_iff.1 h
 exact hn.idxOf_getElem j hj
end
end Go.Lv

namespace Go.Proofs.YtebnelfdimiifaaGreatDoor
open Go.RowKit Go.Lp Go.Sy Go.Lv
theorem xq{N:Nat}{l:List dm}(hN:N≤100000)(hr:∀ a∈l,ja N a):zh (N:Int) l=true:=by
 unfold zh
 have h:l.any (mc (N:Int))=false:=by
   rw [List.any_eq_false]
   intro a ha
   have:=hr a ha
   unfold ja at this
   obtain ⟨⟨h1,h2⟩,h3,h4⟩:=this
   simp [mc,aaf,h1,h2,h3,h4]
 rw [h]
 simp;omega
theorem lb(zs:List Int):(dx zs).Nodup:=(r9 zs).1.imp fun h=>by omega
abbrev oJ(N:Nat)(l:List dm)(rs:List Int):List Int:=ko N (dv N l) (dx rs)
abbrev rp(N:Nat)(l:List dm)(rs:List Int):List Int:=xG N (dv N l) (dx rs)
theorem yK{N:Nat}{l:List dm}(hr:∀ a∈l,ja N a)(rs:List Int):Tree (oJ N l rs) (adX (rp N l rs)):=⟨fun v hv hne=>by
 have hG:=uK (rs:=dx rs) (lb rs) (pw hr)
 have hlen:=hG.len
 have hvm:=(hG.iff v hv.1 (by have:=hv.2.1;rw [← hlen];exact this)).1 hv.2.2
 obtain ⟨j,hj⟩:=List.mem_iff_getElem?.1 hvm
 rcases hG.par j v hj with ⟨h,_⟩ | ⟨i,u,h1,_,h3,h4,_⟩
 · exact (hne h).elim
 · have h4':elt (oJ N l rs) v=u:=h4
   have hum:=List.mem_of_getElem? h3
   have hun:=hG.mem u hum
   rw [h4',xm hG.nodup h3,xm hG.nodup hj]
   exact ⟨⟨hun.1,by rw [show (oJ N l rs).length=N from hlen];exact hun.2,(hG.iff u hun.1 hun.2).2 hum⟩,h1⟩⟩
theorem ae7(w:List Int)(v:Int):adX w v≤w.length:=List.idxOf_le_length
open Go.Proofs.Tryz
theorem wA(N:Nat)(hN:N≤1000000)(l:Sl dm)(hl:l.l.length≤100000000)(hr:∀ a∈l.l,ja N a)(rs:Sl Int)(hrs:rs.l.length≤1000000){b:List Int}(hb:oJ N l.l rs.l=b) :
   Con Tryz.prog 180 [.int .i64 N,l.val,rs.val] [ShF dm.row l,ShF (fun z=>[.v (encI z)]) rs] [] fun r ps hp=>ps=[]∧hp=[aN r 3 1 (cD encI b)]:=by
 subst hb;exact yt N hN l hl hr rs hrs
end Go.Proofs.YtebnelfdimiifaaGreatDoor

namespace Go.Proofs.YtebnelfdimiifaaGreatDoor
open Go.RowKit Go.Lp Go.Sy
abbrev slR{α:Type} : Sl α→List D:=fun s=>[.v (.slice s.ad s.l.length s.cap)]
end Go.Proofs.YtebnelfdimiifaaGreatDoor

namespace Go.Proofs.YtebnelfdimiifaaGreatDoor
open Go.RowKit Go.Lp Go.Sy Go.Lv
open Go.Proofs.Tryz
attribute [local irreducible] aL aB awp aC fwp Quiet
abbrev eR:List Int→List (List D):=fun l=>l.map cO
abbrev abt(bf bc:Nat)(nx iv lv sv pv qv:Value)(s:TS)(P:List (Sl Int)):List Res :=
 [Box bf 290 [nx,iv,lv,sv,pv,qv],aN iv 3 1 (eR s.idx),aN lv 3 1 (eR s.low),aN sv 3 1 (eR s.stk),aN pv 3 1 (eR s.part),aN qv 25 1 (P.map slR),Box bc 3 [.int .i64 s.cnt]]
theorem s9(bf bc b5 b3:Nat)(nx iv lv sv pv qv:Value)(s:TS)(P:List (Sl Int))(w:Nat)(hi:w<s.idx.length)(hl:w<s.low.length)(hc:0≤s.cnt∧s.cnt≤1000000)(hs:s.stk.length≤1000000) :
   Con Tryz.prog 211 [.int .i64 w,.pointer (some ⟨b5,0,none⟩),.pointer (some ⟨b3,0,none⟩)] [At b5 0 [.v (.pointer (some ⟨bc,0,none⟩))],At b3 0 [.v (.pointer (some ⟨bf,0,none⟩))]] (abt bf bc nx iv lv sv pv qv s P)
     fun r ps hp=>r=.agg #[.int .i64 w,.int .i64 0]∧ps=[]∧∃ sv':Value,hp=abt bf bc nx iv lv sv' pv qv (di s w) P:=by
 obtain ⟨io,hio⟩:∃ z,s.idx[w]? = some z:=⟨_,List.getElem?_eq_getElem hi⟩
 obtain ⟨lo,hlo⟩:∃ z,s.low[w]? = some z:=⟨_,List.getElem?_eq_getElem hl⟩
 refine EN3 Tryz.func211 rfl (aSR (LT rfl (bJ (zs:=[.int .i64 0,.int .i64 0]) (by kernel_rfl) rfl (fun b0_0=>(aHN ?_)))))
 refine aNn (aSR (UD 0 tk90 0 rfl rfl rfl rfl (UN rfl rfl (UL 6 tk3 rfl rfl rfl rfl (aU rfl (aV rfl rfl (by omega)) (UN rfl rfl (aW rfl (ba 6 tk3 rfl rfl rfl rfl (aHK ?_)))))))))
 refine aNs (DR [17,19] 20 (VD 0 0 tk306 1 rfl rfl rfl rfl rfl (VN 1 rfl rfl rfl (VO 2 1 rfl rfl rfl (VL 3 0 tk25 rfl rfl rfl rfl rfl (VM 4 rfl rfl (VD 5 0 tk306 1 rfl rfl rfl rfl rfl (VN 6 rfl rfl rfl (VO 7 2 rfl rfl rfl (VL 8 0 tk25 rfl rfl rfl rfl rfl (aaE 9 rfl (by kernel_rfl) true rfl rfl (fun _=>aT rfl) (VD 10 0 tk90 0 rfl rfl rfl rfl rfl (VN 11 rfl rfl rfl (VL 12 6 tk3 rfl rfl rfl rfl rfl (VD 13 0 tk90 0 rfl rfl rfl rfl rfl ?_)))))))))))))))
 refine VN 14 rfl rfl rfl (VL 15 6 tk3 rfl rfl rfl rfl rfl ?_)
 refine bV 16 rfl rfl (bZ 1 w el25 rfl rfl rfl rfl (by rw [List.length_map];exact hi)) ?_
 refine VE 17 rfl rfl (du 1 w 0 tk3 rfl rfl rfl (aI hio) rfl (.v rfl .nil) rfl (by decide) (bST rfl ?_))
 refine bV 18 rfl rfl (bZ 2 w el25 rfl rfl rfl rfl (by rw [List.length_map];exact hl)) ?_
 refine VE 19 rfl rfl (du 2 w 0 tk3 rfl rfl rfl (aI hlo) rfl (.v rfl .nil) rfl (by decide) (bST rfl ?_))
 refine BN (an (ai (DC [7,10] [10] [bf] 11 (CF 0 rfl rfl rfl (bk (o:=0) tk306 rfl (.of (aH 1 rfl)) rfl) (CF 1 rfl rfl rfl (bk (o:=0) tk306 rfl (.of (aH 1 rfl)) rfl) (CF 2 rfl rfl rfl (dC rfl) (CF 3 rfl rfl rfl (qFA (off:=3) rfl) ?_)))))))
 refine oc 4 0 rfl (by kernel_rfl) true rfl rfl (by simp) tk25 (fun _=>rfl) rfl rfl ?_
 refine CF 5 rfl rfl rfl (aT rfl) ?_
 refine dg 6 [] (by kernel_rfl) (cj ?_ cM)
 refine dA 6 rfl rfl (Eff.x (id (WL (zs:=[.int .i64 0]) el25 rfl rfl rfl (.more rfl (.v rfl .nil) .nil) rfl rfl (fun v3_6=>(CST ?_)))))
 refine dg 7 [] (by kernel_rfl) (cj ?_ cM)
 refine dA 7 rfl rfl (Eff.framed (q:=false) [3,8] rfl rfl (afH 0 rfl rfl afs) ?_)
 refine id (cK 0 el25 rfl rfl rfl rfl (dW 1 el25 rfl (by simp)) (by first | assumption | simp) (by show (eR s.stk).length+1≤_;rw [List.length_map];exact Nat.le_trans (show s.stk.length+1≤1000001 by omega) (by decide)) (s.stk.length+1) (by simp) (fun v3_7 c3_7 => ?_))
 refine zW (CST ?_)
 refine CF 8 rfl rfl rfl (dC rfl) (CF 9 rfl rfl rfl (qFA (off:=3) rfl) ?_)
 refine dg 10 [] (by kernel_rfl) (cj ?_ cM)
 refine dA 10 rfl rfl (Eff.wild (q:=false) (id (ba 0 tk25 rfl rfl rfl rfl (CST ?_))))
 refine gb (by kernel_rfl) (an (aSR (aM rfl (aU rfl (ib (l:=[(0,.tmp 38)]) (zs:=[.int .i64 0,.int .i64 0]) (pl:=[(0,1),(1,1)]) (by kernel_rfl) (by kernel_rfl) (by kernel_rfl) rfl rfl rfl) (aW rfl (ba 7 tk308 rfl rfl rfl rfl (aHK ?_)))))))
 refine aNn (az ?_)
 refine ac6 [] [0,1,2,3,4,5,6] rfl Tryz.results211 (nz 7 tk308 rfl rfl rfl) ?_ (.inr rfl)
 refine ⟨rfl,rfl,.slice v3_7 (s.stk.length+1) c3_7,?_⟩
 show _=[_,aN iv _ 1 ((s.idx.set (w:Int).toNat (s.cnt+1)).map cO),aN lv _ 1 ((s.low.set (w:Int).toNat (s.cnt+1)).map cO),aN _ _ 1 ((s.stk++[(w:Int)]).map cO),_,_,Box bc _ [.int .i64 (s.cnt+1)]]
 rw [Int.toNat_natCast,List.map_set,List.map_set,List.map_append]
 rfl
end Go.Proofs.YtebnelfdimiifaaGreatDoor

namespace Go.Sy
open Go.RowKit Go.Lp
section
variable {P:Program} {n:Fr} {s:Sta} {d:Option Tmp} {ty:TypeId} {pos:String} {af:Array Edge} {gd:Option (Nat × Bool)} {x y1 y2 y3:Operand}
end
def aft(R:Res):Prop:=∀ w S S' F,R.holds w S F→R.holds w S' F
theorem abv{v:Value}{E:TypeId}{sz:Nat}{rows:List (List D)}(hr:∀ r∈rows,∀ d∈r,∃ u,d=D.v u):aft (aN v E sz rows):=fun w S S' F h=>by
 rcases h with ⟨h1,h2,h3⟩ | ⟨b,cap,h1,⟨cs,sp,hb,ha,hl,hle,hc⟩,hF⟩
 · exact .inl ⟨h1,h2,h3⟩
 · refine .inr ⟨b,cap,h1,⟨cs,sp,hb,⟨ha.len,ha.row,ha.one,fun i j r d h1 h2 => ?_⟩,hl,hle,hc⟩,hF⟩
   obtain ⟨u,hu,hd⟩:=ha.rep i j r d h1 h2
   obtain ⟨u',rfl⟩:=hr r (List.mem_of_getElem? h1) d (List.mem_of_getElem? h2)
   refine ⟨u,hu,?_⟩
   cases hd;exact .v _
section
variable {P:Program} {n:Fr} {s:Sta} {d:Option Tmp} {ty:TypeId} {pos:String} {af:Array Edge} {gd:Option (Nat × Bool)} {x y1 y2 y3:Operand}
end
end Go.Sy

