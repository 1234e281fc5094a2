/- Parts of the proof, in build order. No condition. -/
import Derived.Test.YtebnelfdimiifaaGreatDoorSa17
import Derived.Test.YtebnelfdimiifaaGreatDoorSa05
import Derived.Test.YtebnelfdimiifaaGreatDoorSa07
import Derived.Shelf.SlSortCmp.WholeK
import Derived.Shelf.SlSortCmp.NoneTotal
import Derived.Test.YtebnelfdimiifaaGreatDoorProg
import Derived.Ground.SlsfProg
import Derived.Test.YtebnelfdimiifaaGreatDoorSa06
set_option linter.unusedSimpArgs false
set_option linter.unusedVariables false
set_option maxHeartbeats 1000000
set_option maxRecDepth 20000
namespace Go.Proofs.YtebnelfdimiifaaGreatDoor
open Go.RowKit Go.Lp Go.Sy Go.Lv
open Go.Proofs.Tryz
attribute [local irreducible] aL aB awp aC fwp Quiet
abbrev kZ(z:Int):Value:=.int .i64 z
theorem kyI:iw Tryz.prog 3 kZ:=af1 Tryz.underlying3
theorem aa5(im:aD)(x:bp)(hs:x.sec.size≤maxLen)(ho:x.obj.size≤maxLen):Con Tryz.prog 79 [im.val,x.val] [] [] fun r _ _=>r=.bool (jh im x):=by
 refine EN2 Tryz.func79 rfl (aSR (LT rfl (cx rfl rfl rfl (fun b0_0=>(aHN ?_)))))
 refine LT rfl (cx rfl rfl rfl (fun b0_1=>(aHN ?_)))
 refine aA rfl (aNs (aSR (UO 2 rfl rfl (UL 1 tk3 rfl rfl rfl rfl (aU rfl (Q0 rfl (dt _ _ _)) (aU rfl (dO rfl) (aM rfl (GO 1 rfl rfl rfl (GL 1 tk9 rfl rfl rfl rfl rfl (aG rfl rfl (fun hc=>Q0 (aK (ae rfl hc) rfl) (gF _ hs)) (aG rfl rfl (fun hc=>dO (ae rfl hc)) (aU rfl (dp rfl rfl (fun h=>gf rfl h)) (aM rfl (GO 0 rfl rfl rfl (GL 1 tk9 rfl rfl rfl rfl rfl ?_)))))))))))))))
 refine aG rfl rfl (fun hc=>Q0 (aK (ae rfl hc) rfl) (j5 _ ho)) (aG rfl rfl (fun hc=>dO (ae rfl hc)) (aU rfl (dp rfl rfl (fun h=>gf rfl h)) (aM rfl (GO 5 rfl rfl rfl (GL 1 tk9 rfl rfl rfl rfl rfl (aG rfl rfl (fun hc=>cB Tryz.underlying9 (ae rfl hc)) (aG rfl rfl (fun hc=>fI (ae rfl hc) rfl) (aU rfl (dp rfl rfl (fun h=>gf rfl h)) (aM rfl (GO 6 rfl rfl rfl (GL 1 tk9 rfl rfl rfl rfl rfl (aG rfl rfl (fun hc=>cB Tryz.underlying9 (ae rfl hc)) (aG rfl rfl (fun hc=>fI (ae rfl hc) rfl) (aG rfl rfl (fun hc=>aT (ae rfl hc)) (GO 6 rfl rfl rfl ?_)))))))))))))))
 refine GL 1 tk9 rfl rfl rfl rfl rfl (aG rfl rfl (fun hc=>cB Tryz.underlying9 (ae rfl hc)) (aG rfl rfl (fun hc=>fI (ae rfl hc) rfl) (aG rfl rfl (fun hc=>bB (ae rfl hc) rfl (fun h=>gt hc h)) (aU rfl (dp rfl rfl (fun h=>gf rfl h)) (aM rfl (GO 4 rfl rfl rfl (GL 1 tk3 rfl rfl rfl rfl rfl (aG rfl rfl (fun hc=>fb (by kernel_rfl) (aK (ae rfl hc) (aK (ae rfl rfl) (aK (ae rfl rfl) rfl))) (fun w S fp hst=>(dt _ _ _).quiet0 hst)) (aG rfl rfl (fun hc=>dO (ae rfl hc)) (aU rfl (dp rfl rfl (fun h=>gf rfl h)) (aM rfl (GO 3 rfl rfl rfl (GL 1 tk3 rfl rfl rfl rfl rfl (aG rfl rfl (fun hc=>fb (by kernel_rfl) (aK (ae rfl hc) (aK (ae rfl rfl) (aK (ae rfl rfl) rfl))) (fun w S fp hst=>(dt _ _ _).quiet0 hst)) ?_))))))))))))))
 refine aG rfl rfl (fun hc=>dO (ae rfl hc)) (aU rfl (dp rfl rfl (fun h=>gf rfl h)) (aNn ?_))
 refine ao _ rfl (fun h1 => ?_) (fun h1 => ?_)
 ·skip
  have hbad:iF x=true:=h1
  refine aSR (aA rfl (aNn (az (bw (FZ1 [] Tryz.results79 rfl ?_)))))
  unfold jh;rw [hbad];rfl
 ·skip
  have hbad:iF x=false:=h1
  obtain ⟨hk,hsz,hat⟩:=pn hbad
  refine ax (an (aSR (LT rfl (gi (kZ) (pV) rfl (fun b3_0=>(aHN ?_))))))
  refine UO 2 rfl rfl (UL 0 tk3 rfl rfl rfl rfl (aU rfl (my (l:=[(0,.const (.int .i64 0)),(1,.tmp 55)]) (zs:=[.int .i64 0,.int .i64 0]) (sz:=1) (m:=2) (by kernel_rfl) (by kernel_rfl) rfl rfl rfl) (aW rfl (jG (k:=(0:Int)) (v:=((0:Int),im.code)) 2 Tryz.underlying243 (kyI) rfl rfl rfl rfl (aHK ?_)))))
  refine UO 2 rfl rfl (UL 0 tk3 rfl rfl rfl rfl (UO 3 rfl rfl (UL 0 tk3 rfl rfl rfl rfl (aU rfl (my (l:=[(0,.tmp 58),(1,.tmp 60)]) (zs:=[.int .i64 0,.int .i64 0]) (sz:=1) (m:=2) (by kernel_rfl) (by kernel_rfl) rfl rfl rfl) (aW rfl (jG (k:=(1:Int)) (v:=(im.code,im.data)) 2 Tryz.underlying243 (kyI) rfl rfl rfl rfl (aHK ?_)))))))
  refine UO 3 rfl rfl (UL 0 tk3 rfl rfl rfl rfl (UO 4 rfl rfl (UL 0 tk3 rfl rfl rfl rfl (aU rfl (my (l:=[(0,.tmp 63),(1,.tmp 65)]) (zs:=[.int .i64 0,.int .i64 0]) (sz:=1) (m:=2) (by kernel_rfl) (by kernel_rfl) rfl rfl rfl) (aW rfl (jG (k:=(2:Int)) (v:=(im.data,im.zero)) 2 Tryz.underlying243 (kyI) rfl rfl rfl rfl (aHK ?_)))))))
  refine UO 7 rfl rfl (UL 0 tk3 rfl rfl rfl rfl (aU rfl (my (l:=[(0,.const (.int .i64 0)),(1,.tmp 68)]) (zs:=[.int .i64 0,.int .i64 0]) (sz:=1) (m:=2) (by kernel_rfl) (by kernel_rfl) rfl rfl rfl) (aW rfl (jG (k:=(3:Int)) (v:=((0:Int),im.block)) 2 Tryz.underlying243 (kyI) rfl rfl rfl rfl (aHK ?_)))))
  refine UO 7 rfl rfl (UL 0 tk3 rfl rfl rfl rfl (aU rfl (my (l:=[(0,.const (.int .i64 0)),(1,.tmp 71)]) (zs:=[.int .i64 0,.int .i64 0]) (sz:=1) (m:=2) (by kernel_rfl) (by kernel_rfl) rfl rfl rfl) (aW rfl (jG (k:=(4:Int)) (v:=((0:Int),im.block)) 2 Tryz.underlying243 (kyI) rfl rfl rfl rfl (aHK ?_)))))
  refine aM rfl (aA rfl (aNn (aSR (aM rfl (UO 2 rfl rfl (UL 1 tk3 rfl rfl rfl rfl (aU rfl (mz (k:=x.kind) (v0:=((0:Int),(0:Int))) 2 Tryz.underlying243 (kyI) (by kernel_rfl) rfl rfl rfl) (LT rfl (bJ (zs:=[.int .i64 0,.int .i64 0]) (by kernel_rfl) rfl (fun b4_4=>(aHN ?_)))))))))))
  refine aW rfl (ba 3 tk242 rfl rfl rfl rfl (aHK ?_))
  refine aNs ?_
  rw [adL im hk]
  refine aa (UO 3 rfl rfl (UL 1 tk3 rfl rfl rfl rfl (aU rfl (dN (0) Tryz.underlying242 tk3 rfl rfl (rfl) (by decide)) (UL 3 tk3 rfl rfl rfl rfl (aU rfl (fH rfl rfl) (aM rfl (GO 3 rfl rfl rfl (GL 1 tk3 rfl rfl rfl rfl rfl (GO 4 rfl rfl rfl (GL 1 tk3 rfl rfl rfl rfl rfl ?_))))))))))
  refine aG rfl rfl (fun hc=>aV (ae rfl hc) (ae rfl hc) (by (first | omega | (simp at hc;omega)))) ?_
  refine aG rfl rfl (fun hc=>dN (1) Tryz.underlying242 tk3 rfl rfl (rfl) (by decide)) (GL 3 tk3 rfl rfl rfl rfl rfl (aG rfl rfl (fun hc=>eY (ae rfl hc) (ae rfl hc)) (aU rfl (bB rfl rfl (fun h=>gt rfl h)) (aM rfl (GO 2 rfl rfl rfl (GL 1 tk3 rfl rfl rfl rfl rfl (aG rfl rfl (fun hc=>fI (ae rfl hc) rfl) (aG rfl rfl (fun hc=>aT (ae rfl hc)) (GO 3 rfl rfl rfl (GL 1 tk3 rfl rfl rfl rfl rfl (aG rfl rfl (fun hc=>fl (ae rfl hc) rfl (by decide)) ?_)))))))))))
  refine aG rfl rfl (fun hc=>cA (ae rfl hc) rfl) (aG rfl rfl (fun hc=>dp (ae rfl hc) rfl (fun h=>gf hc h)) (aU rfl (bB rfl rfl (fun h=>gt rfl h)) (aA rfl (aNn (az (FZ1 [] Tryz.results79 rfl ?_))))))
  unfold jh;rw [hbad];rfl
end Go.Proofs.YtebnelfdimiifaaGreatDoor

namespace Go.Proofs.YtebnelfdimiifaaGreatDoor
open Go.RowKit Go.Lp Go.Sy Go.Lv
abbrev keyOf(x:bp):ByteArray × ByteArray:=(x.obj,x.sec)
abbrev iZ(x:bp):bK:=⟨x.at_,x.size⟩
abbrev xz(s:Int):bK:=⟨s,8⟩
def sI(l:List bp):List bK:=(l.filter fun x=>ik x.kind).map iZ
def vA(l:List bp):List bK:=(l.filter fun x => !ik x.kind).map iZ
def l8(im:aD)(i:Nat)(s:Int):Bool := !((!instrB im.code s) || (decide ((i:Int)>0) && decide (elt im.stubs.l ((i:Int)-1)≥s)))
def nj(im:aD):Bool:=(decide ((im.nodes.l.length:Int)>4096) || decide ((im.stubs.l.length:Int)>4096)) || !allI (fun _ x=>jh im x) 0 im.nodes.l
def kS(im:aD):Bool:=(!nj im) &&
 (decide ((im.nodes.l.map keyOf).Nodup) && (allI (l8 im) 0 im.stubs.l && (qc (sI im.nodes.l++im.stubs.l.map xz) && qc (vA im.nodes.l))))
structure NdI (im:aD) (k:Nat) (mem blk:List bK):Prop where
 le:k≤im.nodes.l.length
 m:mem=sI (im.nodes.l.take k)
 b:blk=vA (im.nodes.l.take k)
 nd:((im.nodes.l.take k).map keyOf).Nodup
section
variable {im:aD} {k:Nat} {mem blk:List bK} {x:bp}
theorem abz(l:List bp)(x:bp):sI (l++[x])=if ik x.kind=true then sI l++[iZ x] else sI l:=by
 unfold sI;rw [List.filter_append,List.map_append]
 by_cases h:ik x.kind=true
 · rw [if_pos h];simp [h]
 · rw [if_neg h];simp [h]
theorem aaK(l:List bp)(x:bp):vA (l++[x])=if ik x.kind=true then vA l else vA l++[iZ x]:=by
 unfold vA;rw [List.filter_append,List.map_append]
 by_cases h:ik x.kind=true
 · rw [if_pos h];simp [h]
 · rw [if_neg h];simp [h]
theorem NdI.len(h:NdI im k mem blk):mem.length≤k∧blk.length≤k:=by
 have hk:=h.le
 rw [h.m,h.b]
 unfold sI vA
 rw [List.length_map,List.length_map]
 have h1:=List.length_filter_le (fun x:bp=>ik x.kind) (im.nodes.l.take k)
 have h2:=List.length_filter_le (fun x:bp => !ik x.kind) (im.nodes.l.take k)
 rw [List.length_take] at h1 h2
 omega
theorem NdI.start(im:aD):NdI im 0 [] []:=⟨Nat.zero_le _,rfl,rfl,List.nodup_nil⟩
theorem NdI.step(h:NdI im k mem blk)(hx:im.nodes.l[k]? = some x)(hn:keyOf x ∉ (im.nodes.l.take k).map keyOf):NdI im (k+1) (if ik x.kind=true then mem++[iZ x] else mem) (if ik x.kind=true then blk else blk++[iZ x]):=by
 have ht:im.nodes.l.take (k+1)=im.nodes.l.take k++[x]:=by rw [List.take_add_one,hx];rfl
 refine ⟨(List.getElem?_eq_some_iff.1 hx).1,?_,?_,?_⟩
 · rw [ht,abz,h.m]
 · rw [ht,aaK,h.b]
 · rw [ht,List.map_append,List.nodup_append]
   exact ⟨h.nd,by simp,fun a ha b hb e=>hn (by rw [List.map_cons,List.map_nil,List.mem_singleton] at hb;rw [hb] at e;exact e ▸ ha)⟩
theorem NdI.dup(hx:im.nodes.l[k]? = some x)(hn:keyOf x∈(im.nodes.l.take k).map keyOf):¬ (im.nodes.l.map keyOf).Nodup:=fun h=>by
 have ht:im.nodes.l=im.nodes.l.take k++x::im.nodes.l.drop (k+1):=by
   obtain ⟨hk,he⟩:=List.getElem?_eq_some_iff.1 hx
   rw [← he,← List.drop_eq_getElem_cons hk,List.take_append_drop]
 rw [ht,List.map_append,List.nodup_append] at h
 exact h.2.2 _ hn (keyOf x) (by simp) rfl
end
def vj(l:List bK):Prop:=∀ s∈l,(0≤s.at_∧s.at_≤1048576)∧0≤s.size∧s.size≤1048576
theorem abC{im:aD}{x:bp}(h:jh im x=true):(0≤x.at_∧x.at_≤1048576)∧(0≤x.size∧x.size≤1048576):=by
 unfold jh at h
 rw [Bool.and_eq_true,Bool.not_eq_true'] at h
 have:=pn h.1
 exact ⟨this.2.2,this.2.1⟩
theorem tz{im:aD}(h:allI (fun _ x=>jh im x) 0 im.nodes.l=true){p:bp→Bool}{s:bK}(hs:s∈(im.nodes.l.filter p).map iZ):(0≤s.at_∧s.at_≤1048576)∧0≤s.size∧s.size≤1048576:=by
 obtain ⟨x,hx,rfl⟩:=List.mem_map.1 hs
 obtain ⟨k,hk⟩:=List.mem_iff_getElem?.1 (List.mem_filter.1 hx).1
 have:=abC (ju.1 h k x hk)
 exact this
end Go.Proofs.YtebnelfdimiifaaGreatDoor

namespace Go.Sy
open Go.RowKit Go.Lp Go.Sort Go.Proofs
section
variable {α:Type} [Inhabited α] {enc:α→List Value} {k:Nat}
omit [Inhabited α] in
theorem iS(hk:∀ x,(enc x).length=k):∀ zs:List α,(zs.flatMap enc).length=zs.length*k
 | []=>by simp
 | x::zs=>by rw [List.flatMap_cons,List.length_append,iS hk zs,hk,List.length_cons,Nat.add_mul,Nat.one_mul];omega
omit [Inhabited α] in
theorem flat_get(hk:∀ x,(enc x).length=k):∀ (zs:List α) (i j:Nat) (x:α),zs[i]? = some x→j<k→(zs.flatMap enc)[i*k+j]? = (enc x)[j]?
 | [],i,j,x,h,_=>by simp at h
 | y::zs,0,j,x,h,hj=>by
   simp only [List.getElem?_cons_zero,Option.some.injEq] at h
   subst h
   rw [List.flatMap_cons,Nat.zero_mul,Nat.zero_add,List.getElem?_append_left (by rw [hk];exact hj)]
 | y::zs,i+1,j,x,h,hj=>by
   rw [List.getElem?_cons_succ] at h
   rw [List.flatMap_cons,List.getElem?_append_right (by rw [hk,Nat.add_mul];omega),hk,show (i+1)*k+j-k=i*k+j by rw [Nat.add_mul];omega]
   exact flat_get hk zs i j x h hj
theorem rm(hk:∀ x,(enc x).length=k)(d:Array α):flatK enc k d=(d.toList.flatMap enc).toArray:=by
 apply Array.ext'
 apply List.ext_getElem?
 intro t
 show (flatK enc k d).toList[t]? = (d.toList.flatMap enc)[t]?
 by_cases ht:t<d.size*k
 · have k0 : 0 < k := by rcases Nat.eq_zero_or_pos k with h | h
                         · subst h;simp at ht
                         · exact h
   have hd:t / k<d.size:=(Nat.div_lt_iff_lt_mul k0).2 ht
   have h1:=flat_get hk d.toList (t / k) (t % k) d[t / k]! (by simp [hd]) (Nat.mod_lt _ k0)
   rw [show t / k*k+t % k=t by rw [Nat.mul_comm];exact Nat.div_add_mod t k] at h1
   rw [h1,Array.getElem?_toList]
   have h2:=get_flatK enc k d t ht
   have h3:t % k<(enc d[t / k]!).length:=by rw [hk];exact Nat.mod_lt _ k0
   rw [List.getElem?_eq_getElem h3]
   have hs:t<(flatK enc k d).size:=by rw [size_flatK];exact ht
   rw [Array.getElem?_eq_getElem hs]
   rw [getElem!_pos _ t hs] at h2
   rw [h2,getElem!_pos (enc d[t / k]!) (t % k) h3]
 · rw [List.getElem?_eq_none (by simpa using ht),List.getElem?_eq_none (by rw [iS hk];simpa using ht)]
abbrev wI(enc:α→List Value)(l:List α):List (List D):=l.map fun x=>(enc x).map D.v
theorem adG(hk:∀ x,(enc x).length=k)(k0:0<k){w:World}{S F:bH}{v:Value}{T:TypeId}{zs:List α}(h:(aN v T k (wI enc zs)).holds w S F) :
   (v=.slice none 0 0∧zs=[])∨∃ b cap sp,v=.slice (some ⟨b,0,none⟩) zs.length cap∧w.heap[b]? = some (.cells (zs.flatMap enc++sp).toArray T (0,0))∧zs.length*k+sp.length=cap*k∧zs.length≤cap∧cap≤maxLen∧(∀ j,F j↔j=b)∧HoldsK enc k w b 0 zs.toArray:=by
 rcases h with ⟨h1,h2,_⟩ | ⟨b,cap,hv,⟨cs,sp,hb,hr,hl,hle,hc⟩,hF⟩
 · left;exact ⟨h1,by simpa using h2⟩
 · right
   have hlen:=hr.len
   rw [List.length_map] at hlen
   have hcs:cs=zs.flatMap enc:=by
     apply List.ext_getElem?
     intro t
     by_cases ht:t<zs.length*k
     · have hd:t / k<zs.length:=(Nat.div_lt_iff_lt_mul k0).2 ht
       have hj:=Nat.mod_lt t k0
       have hx:zs[t / k]? = some (zs[t / k]'hd):=List.getElem?_eq_getElem hd
       have h1:=flat_get hk zs (t / k) (t % k) _ hx hj
       have h3:t % k<(enc (zs[t / k]'hd)).length:=by rw [hk];exact hj
       obtain ⟨u,hu,hrep⟩:=hr.rep (t / k) (t % k) ((enc (zs[t / k]'hd)).map D.v) (.v ((enc (zs[t / k]'hd))[t % k]'h3)) (by rw [List.getElem?_map,hx];rfl) (by rw [List.getElem?_map,List.getElem?_eq_getElem h3];rfl)
       rw [show t / k*k+t % k=t by rw [Nat.mul_comm];exact Nat.div_add_mod t k] at h1 hu
       cases hrep
       rw [hu,h1,List.getElem?_eq_getElem h3]
     · rw [List.getElem?_eq_none (by omega),List.getElem?_eq_none (by rw [iS hk];omega)]
   subst hcs
   refine ⟨b,cap,sp,by rw [hv,List.length_map],hb,by rw [← hl,List.length_append,iS hk],by rwa [List.length_map] at hle,hc,hF,fun j hj => ?_⟩
   rw [rm hk] at hj ⊢
   have hj':j<(zs.flatMap enc).length:=by simpa using hj
   refine ⟨?_,?_⟩
   · rw [Nat.zero_add,ec hb,List.getElem?_append_left hj',List.getElem?_eq_getElem hj']
     congr 1
     show _=(zs.flatMap enc).toArray[j]!
     rw [getElem!_pos (zs.flatMap enc).toArray j (by simpa using hj')];simp
   · unfold World.frozen?
     rw [hb]
     simp
theorem abh{P:Program}{ρ:Go.Shelf.Ren}(L:SlLaysF0.n6 P ρ)(k0:0<k)(aE:∀ w,(isAgg (ρ.t 24)).run P w=.ok true w)(zE:∀ w,(Go.sizeOf (ρ.t 24)).run P w=.ok k w)(hk:∀ x,(enc x).length=k)(h1:∀ x,∀ v∈enc x,v.oneCell'=true)
   (cf:α→α→Int) (hO:SWO (ltOf cf)) (g:FuncId) (hg:dP P g=true) (hcmp:∀ x y,Con P g [.agg (enc x).toArray,.agg (enc y).toArray] [] [] fun r _ _=>r=.int .i64 (cf x y)) {T:TypeId} {v:Value} (zs:List α) (hz:zs.length<4611686018427387904) :
   Con P (ρ.f 6) [v,.func (.func g) #[] #[]] [] [aN v T k (wI enc zs)] fun _ ps' hp'=>ps'=[]∧∃ q:List α,q.Perm zs∧(q.Pairwise fun a b=>¬ cf b a<0)∧hp'=[aN v T k (wI enc q)]:=fun w S fp hst=>by
 have hr:=hst.res 0 _ rfl
 rcases adG hk k0 hr with ⟨e1,e2⟩ | ⟨b,cap,sp,hv,hb,hl,hle,hc,hF,hH⟩
 · subst e1 e2
   refine (AnyF.slices_SortFunc_none L none 0 (.func (.func g) #[] #[]) w).mono fun e w' ⟨he,hw⟩ => ?_
   have hbl:Go.Sy.Below w.heap.size w w':=by rw [hw];exact .refl _ _
   exact ⟨_,[],_,S,fp,he,⟨rfl,[],List.Perm.refl _,List.Pairwise.nil,rfl⟩,⟨(fun p hp=>by cases hp),(hst.below hbl).res,(hst.below hbl).lt,hst.dj,(hst.below hbl).slt⟩,Evo.of_below _ _ hbl,fun b hb=>.inl hb⟩
 · have hbl:=lt_of_heap hb
   have eg:∀ args w,(callFunc g args).run P w=.ok (.enter g args) w:=km hg
   have hlays:CmpLays P g #[] enc k cf b 0 zs.toArray.size w:=fun m os dk _ x y=>by
     have hst0:∀ W:World,St W (fun _=>False) (fun _ _=>False) [] []:=fun W=>⟨fun p hp=>(by cases hp),fun i R hi=>(by simp at hi),fun i hi=>(by simp at hi),fun i j hi=>(by simp at hi),fun b hb=>hb.elim⟩
     refine ((hcmp x y).quiet0 (hst0 (sortWorldK enc k w b 0 m dk os))).mono fun e w' ⟨he,hbw⟩=>⟨he,?_⟩
     obtain ⟨objs,d,rfl⟩:=kb hbw.kit
     have hd:=hbw.drawn
     refine ⟨d-(sortWorldK enc k w b 0 m dk os).drawn,objs,?_⟩
     unfold World.ext grow World.drewN
     have hd':(sortWorldK enc k w b 0 m dk os).drawn≤d:=hd
     simp only [World.mk.injEq,true_and,and_true]
     omega
   have hcall:=AnyQ.slices_SortFunc L k aE zE enc hk h1 cf hO g #[] b 0 cap zs.toArray w eg hlays hH hbl (by simpa using hz)
   rw [show zs.toArray.size=zs.length by simp,← hv] at hcall
   refine hcall.mono fun e w' ⟨he,d',n,os,hp,hs,hw⟩ => ?_
   obtain ⟨p1,_,p3⟩:=hp
   have hsz':d'.toList.length=zs.length:=by simpa using p1
   have hperm:d'.toList.Perm zs:=by
     have e1:(d'.extract 0 zs.length).toList=d'.toList:=by
       rw [Array.toList_extract,List.extract_eq_take_drop,List.drop_zero,List.take_of_length_le (by omega)]
     have e2:(zs.toArray.extract 0 zs.length).toList=zs:=by simp
     rw [e1,e2] at p3;exact p3
   have hsort:d'.toList.Pairwise fun a b=>¬ cf b a<0:=by
     rw [List.pairwise_iff_getElem]
     intro i j hi hj hij
     have hi':i<d'.size:=by simpa using hi
     have hj':j<d'.size:=by simpa using hj
     have:=hs i j (Nat.zero_le _) hij (by omega)
     rw [getElem!_pos d' i hi',getElem!_pos d' j hj'] at this
     unfold ltOf at this
     simpa using this
   have hfl:(flatK enc k d')=(d'.toList.flatMap enc).toArray:=rm hk d'
   have hlen':(d'.toList.flatMap enc).length=zs.length*k:=by rw [iS hk,hsz']
   have hb':w'.heap[b]? = some (.cells (d'.toList.flatMap enc++sp).toArray T (0,0)):=by
     rw [hw]
     show ((w.heap.modify b (onCells (putCells id 0 (flatK enc k d'))))++os)[b]? = _
     rw [Array.getElem?_append_left (by simpa using hbl),Array.getElem?_modify,if_pos rfl,hb,Option.map_some]
     show some (Obj.cells (putCells id 0 (flatK enc k d') (zs.flatMap enc++sp).toArray) T (0,0))=_
     rw [hfl,l7 id (d'.toList.flatMap enc) (zs.flatMap enc) sp (by rw [hlen',iS hk]),List.map_id]
   have hoth:∀ j,j<w.heap.size→j≠b→w'.heap[j]? = w.heap[j]? := fun j hj hne=>by
     rw [hw]
     show ((w.heap.modify b (onCells (putCells id 0 (flatK enc k d'))))++os)[j]? = _
     rw [Array.getElem?_append_left (by simpa using hj),Array.getElem?_modify,if_neg (Ne.symm hne)]
   have hsz:w.heap.size≤w'.heap.size:=by
     rw [hw]
     show _≤((w.heap.modify b (onCells (putCells id 0 (flatK enc k d'))))++os).size
     simp
   have hfb:fp 0 b:=(hF b).2 rfl
   refine ⟨_,[],[aN v T k (wI enc d'.toList)],S,fp,he,⟨rfl,d'.toList,hperm,hsort,rfl⟩,⟨(fun p hp=>by cases hp),fun i R' hi => ?_,fun i hi j hj => ?_,hst.dj,fun j hj=>Nat.lt_of_lt_of_le (hst.slt j hj) hsz⟩,⟨by rw [hw];rfl,by rw [hw];rfl,by rw [hw];rfl,hsz,by rw [hw];exact Nat.le_add_right _ _,fun j hj hx=>hoth j hj fun e=>hx ⟨0,by simp,e ▸ hfb⟩,fun _ h=>h,fun _ h=>.inl h⟩,fun j hj=>.inl hj⟩
   · cases i with
     | succ i=>simp at hi
     | zero =>
       simp only [List.getElem?_cons_zero,Option.some.injEq] at hi
       subst hi
       refine .inr ⟨b,cap,by rw [List.length_map,hsz',hv],⟨d'.toList.flatMap enc,sp,hb',⟨by rw [List.length_map,iS hk],fun i r hi => ?_,fun u hu => ?_,fun i j r d g1 g2 => ?_⟩,by rw [List.length_append,hlen'];exact hl,by rw [List.length_map,hsz'];exact hle,hc⟩,hF⟩
       · rw [List.getElem?_map,Option.map_eq_some_iff] at hi
         obtain ⟨x,_,rfl⟩:=hi;rw [List.length_map,hk]
       · obtain ⟨x,_,hx⟩:=List.mem_flatMap.1 hu;exact h1 x u hx
       · rw [List.getElem?_map,Option.map_eq_some_iff] at g1
         obtain ⟨x,hx,rfl⟩:=g1
         rw [List.getElem?_map,Option.map_eq_some_iff] at g2
         obtain ⟨u,hu,rfl⟩:=g2
         have hj:j<k:=by rw [← hk x];exact (List.getElem?_eq_some_iff.1 hu).1
         exact ⟨u,by rw [flat_get hk _ i j x hx hj];exact hu,.v u⟩
   · have hi':i<[aN v T k (wI enc zs)].length:=by simpa using hi
     exact ⟨Nat.lt_of_lt_of_le (hst.lt i hi' j hj).1 hsz,(hst.lt i hi' j hj).2⟩
end
def afB(P:Program)(T:TypeId)(i:Nat):Option Nat:=match P.underlying T with
 | some (.struct fs)=>(match fs[i]? with
   | some f=>if P.plainKey f.type=true then some f.offset else none
   | none=>none)
 | _=>none
theorem adS{P:Program}{n:Fr}{s:Sta}{d:Option Tmp}{ty:TypeId}{pos:String}{af:Array Edge}{gd:Option (Nat × Bool)}{T:TypeId}{i off:Nat}{x:Operand}{xs:Array Value}{v:Value}(hf:afB P T i=some off)(hx:ev s.env x=some (true,.agg xs))(hv:xs[off]? = some v) :
   Quiet P n ⟨d,.field T x i,ty,pos,af,gd⟩ s v:=fun w S fp a hst he hn=>by
 have h1:=he.val hx rfl
 unfold afB at hf
 cases hu:P.underlying T with
 | none=>rw [hu] at hf;cases hf
 | some t =>
   rw [hu] at hf
   cases t with
   | struct fs =>
     dsimp only at hf
     cases hi:fs[i]? with
     | none=>rw [hi] at hf;cases hf
     | some f =>
       rw [hi] at hf
       dsimp only at hf
       split at hf
       · rename_i hp
         obtain rfl:=Option.some.inj hf
         have:(execOp a.eval ⟨d,.field T x i,ty,pos,af,gd⟩).run P w=.ok (.value v) w:=by
           unfold execOp;dsimp only;rw [h1]
           show ((Instr.field T (.agg xs) i).bind fun r=>Sem.pure (Next.value r)).run P w=_
           have h2:(Instr.field T (.agg xs) i).run P w=.ok v w:=by
             simp only [Instr.field,Sem.run_bind,run_underlying hu,Result.andThen,hi,asAgg,Sem.run_pure]
             exact run_part_plain w hp hv
           rw [Sem.run_bind',h2];rfl
         rw [this];exact cg _ _
       · cases hf
   | _=>cases hf
end Go.Sy

namespace Go.Proofs
open Go.Shelf
def Tryz.sortSp_ren:Go.Shelf.Ren:=⟨fun | 6=>152 | 15=>176 | 14=>175 | 28=>192 | 29=>193 | 20=>184 | 21=>185 | 22=>186 | 23=>187 | 24=>188 | 25=>189 | 26=>190 | 27=>191 | 46=>206 | 47=>207 | 48=>208 | 49=>209 | 50=>210 | 57=>217 | n=>n,fun | 22=>31 | 24=>159 | 25=>248 | 3=>3 | 39=>206 | 0=>0 | 53=>256 | 55=>135 | 4=>4 | 46=>282 | 45=>281 | 50=>47 | 5=>5 | 9=>9 | 66=>302 | 70=>90 | 76=>319 | 77=>320 | n=>n,fun | n=>n⟩
theorem Tryz.sortSp:Go.Proofs.SlLaysF0.n6 Tryz.prog Tryz.sortSp_ren := {
 mixed:=by kernel_rfl
 f6:=⟨Tryz.f152.name,by decide,Tryz.func152.trans (congrArg some (by kernel_rfl))⟩
 f14:=⟨Tryz.f175.name,by decide,Tryz.func175.trans (congrArg some (by kernel_rfl))⟩
 f15:=Tryz.func176.trans (congrArg some (by kernel_rfl))
 f20:=⟨Tryz.f184.name,by decide,Tryz.func184.trans (congrArg some (by kernel_rfl))⟩
 f21:=⟨Tryz.f185.name,by decide,Tryz.func185.trans (congrArg some (by kernel_rfl))⟩
 f22:=⟨Tryz.f186.name,by decide,Tryz.func186.trans (congrArg some (by kernel_rfl))⟩
 f23:=⟨Tryz.f187.name,by decide,Tryz.func187.trans (congrArg some (by kernel_rfl))⟩
 f24:=⟨Tryz.f188.name,by decide,Tryz.func188.trans (congrArg some (by kernel_rfl))⟩
 f25:=⟨Tryz.f189.name,by decide,Tryz.func189.trans (congrArg some (by kernel_rfl))⟩
 f26:=⟨Tryz.f190.name,by decide,Tryz.func190.trans (congrArg some (by kernel_rfl))⟩
 f27:=⟨Tryz.f191.name,by decide,Tryz.func191.trans (congrArg some (by kernel_rfl))⟩
 f28:=Tryz.func192.trans (congrArg some (by kernel_rfl))
 f29:=Tryz.func193.trans (congrArg some (by kernel_rfl))
 f46:=⟨Tryz.f206.name,by decide,Tryz.func206.trans (congrArg some (by kernel_rfl))⟩
 f47:=Tryz.func207.trans (congrArg some (by kernel_rfl))
 f48:=Tryz.func208.trans (congrArg some (by kernel_rfl))
 f49:=⟨Tryz.f209.name,by decide,Tryz.func209.trans (congrArg some (by kernel_rfl))⟩
 f50:=⟨Tryz.f210.name,by decide,Tryz.func210.trans (congrArg some (by kernel_rfl))⟩
 f57:=⟨Tryz.f217.name,by decide,Tryz.func217.trans (congrArg some (by kernel_rfl))⟩
 t0:=Tryz.underlying0
 a0:=Tryz.isAgg0
 z0:=Tryz.sizeOf0
 v0:=Tryz.zeroValue0
 t3:=Tryz.underlying3
 a3:=Tryz.isAgg3
 z3:=Tryz.sizeOf3
 v3:=Tryz.zeroValue3
 t4:=Tryz.underlying4
 a4:=Tryz.isAgg4
 z4:=Tryz.sizeOf4
 v4:=Tryz.zeroValue4
 t5:=Tryz.underlying5
 a5:=Tryz.isAgg5
 z5:=Tryz.sizeOf5
 v5:=Tryz.zeroValue5
 t9:=Tryz.underlying9
 a9:=Tryz.isAgg9
 z9:=Tryz.sizeOf9
 v9:=Tryz.zeroValue9
 t22:=Tryz.underlying31
 a22:=Tryz.isAgg31
 z22:=Tryz.sizeOf31
 v22:=Tryz.zeroValue31
 t25:=Tryz.underlying248
 a25:=Tryz.isAgg248
 z25:=Tryz.sizeOf248
 v25:=Tryz.zeroValue248
 t39:=Tryz.underlying206
 a39:=Tryz.isAgg206
 z39:=Tryz.sizeOf206
 v39:=Tryz.zeroValue206
 t45:=Tryz.underlying281
 a45:=Tryz.isAgg281
 z45:=Tryz.sizeOf281
 v45:=Tryz.zeroValue281
 t46:=Tryz.underlying282
 a46:=Tryz.isAgg282
 z46:=Tryz.sizeOf282
 v46:=Tryz.zeroValue282
 t50:=Tryz.underlying47
 a50:=Tryz.isAgg47
 z50:=Tryz.sizeOf47
 v50:=Tryz.zeroValue47
 t53:=Tryz.underlying256
 a53:=Tryz.isAgg256
 z53:=Tryz.sizeOf256
 v53:=Tryz.zeroValue256
 t55:=Tryz.underlying135
 a55:=Tryz.isAgg135
 z55:=Tryz.sizeOf135
 v55:=Tryz.zeroValue135
 t66:=Tryz.underlying302
 a66:=Tryz.isAgg302
 z66:=Tryz.sizeOf302
 v66:=Tryz.zeroValue302
 t70:=Tryz.underlying90
 a70:=Tryz.isAgg90
 z70:=Tryz.sizeOf90
 v70:=Tryz.zeroValue90
 t76:=Tryz.underlying319
 a76:=Tryz.isAgg319
 z76:=Tryz.sizeOf319
 v76:=Tryz.zeroValue319
 t77:=Tryz.underlying320
 a77:=Tryz.isAgg320
 z77:=Tryz.sizeOf320
 v77:=Tryz.zeroValue320 }
end Go.Proofs

namespace Go.Proofs.YtebnelfdimiifaaGreatDoor
open Go.RowKit Go.Lp Go.Sy Go.Lv Go.Sort
open Go.Proofs.Tryz
attribute [local irreducible] aL aB awp aC fwp Quiet
def vI(a b:bK):Int:=ub a.at_ b.at_
theorem mr(a b:bK):ltOf vI a b=decide (a.at_<b.at_):=by
 unfold ltOf vI
 exact decide_eq_decide.2 (vH _ _)
theorem aca:SWO (ltOf vI) where
 irrefl x:=by rw [mr,decide_eq_false_iff_not];omega
 trans x y z h1 h2:=by rw [mr,decide_eq_true_eq] at *;omega
 ntrans x y z h1 h2:=by
   rw [mr,decide_eq_false_iff_not] at *
   omega
theorem xV(a b:bK):Con Tryz.prog 153 [a.val,b.val] [] [] fun r _ _=>r=.int .i64 (vI a b):=by
 refine EN2 Tryz.func153 rfl (aSR (LT rfl (cx rfl rfl rfl (fun b0_0=>(aHN ?_)))))
 refine LT rfl (cx rfl rfl rfl (fun b0_1=>(aHN ?_)))
 refine aA rfl (aNn (aSR (UO 0 rfl rfl (UL 0 tk3 rfl rfl rfl rfl (UO 0 rfl rfl (UL 1 tk3 rfl rfl rfl rfl (aU rfl (Q0 rfl (vW _ _)) (aA rfl (aNn (az (FZ1 [] Tryz.results153 rfl ?_)))))))))))
 rfl
theorem yv(v:Value)(zs:List bK)(hz:zs.length≤1000000):Con Tryz.prog 152 [v,.func (.func 153) #[] #[]] [] [aN v 159 2 (zs.map bK.row)]
   fun _ ps hp=>ps=[]∧∃ q:List bK,q.Perm zs∧(q.Pairwise fun a b=>¬ ub b.at_ a.at_<0)∧hp=[aN v 159 2 (q.map bK.row)] :=
 abh (enc:=bK.vs) Tryz.sortSp (by decide) Tryz.isAgg159 Tryz.sizeOf159 (fun _=>rfl) (fun x v hv=>by simp at hv;rcases hv with rfl | rfl<;>rfl) vI aca 153 (by kernel_rfl) (fun x y=>xV x y) (T:=159) (v:=v) zs (by omega)
theorem xW(b:Nat)(q:Sl bK)(hf:vj q.l)(hql:q.l.length≤1000000)(i:Nat)(a:bK)(ha:q.l[i]? = some a):Con Tryz.prog 155 [.int .i64 i,a.val,.pointer (some ⟨b,0,none⟩)] [cF (At b 0 [.v (.slice q.ad q.l.length q.cap)]) (ShF bK.row q)] [] fun r _ _=>r=.bool (acy q.l i a):=by
 have hil:=(List.getElem?_eq_some_iff.1 ha).1
 refine EN3 Tryz.func155 rfl (aSR (LT rfl (cx rfl rfl rfl (fun b0_0=>(aHN ?_)))))
 refine aA rfl (aNs (DR [] 21 (VM 0 rfl rfl (bV 1 rfl rfl (cA rfl rfl) (VM 2 rfl rfl (bW 3 rfl rfl rfl (fun hc=>bk (o:=0) tk31 rfl (Ent.left (.of (aH 0 rfl))) rfl) (bW 4 rfl rfl rfl (fun hc=>aT rfl) ?_)))))))
 refine bW 5 rfl rfl rfl (fun hc=>cZ (ae rfl hc) rfl (by (first | omega | (simp at hc;omega)))) ?_
 refine sd 6 rfl (by kernel_rfl) _ rfl rfl (fun hc=>bI Tryz.underlying31 tk159 (ae rfl hc) ((Ent.right (.of (aH 0 rfl)))) (ae rfl hc) (fJ (i:=(i:Int)-1) (by omega) (by simp at hc;omega)) ((Int.toNat_of_nonneg (by simp at hc;omega)).symm) rfl) (fun _=>⟨(0,0)⟩) (fun ⟨b1_6,o1_6⟩ => ?_)
 refine bW 7 rfl rfl rfl (fun hc=>qFA (off:=0) (ae rfl hc)) (bW 8 rfl rfl rfl (fun hc=>gz (o:=0) tk3 (ae rfl hc) (aH 0 rfl) hc rfl) (bW 9 rfl rfl rfl (fun hc=>bk (o:=0) tk31 rfl (Ent.left (.of (aH 1 rfl))) rfl) (bW 10 rfl rfl rfl (fun hc=>aT rfl) ?_)))
 refine bW 11 rfl rfl rfl (fun hc=>cZ (ae rfl hc) rfl (by (first | omega | (simp at hc;omega)))) ?_
 refine sd 12 rfl (by kernel_rfl) _ rfl rfl (fun hc=>bI Tryz.underlying31 tk159 (ae rfl hc) ((Ent.right (.of (aH 1 rfl)))) (ae rfl hc) (fJ (i:=(i:Int)-1) (by omega) (by simp at hc;omega)) ((Int.toNat_of_nonneg (by simp at hc;omega)).symm) rfl) (fun _=>⟨(0,0)⟩) (fun ⟨b1_12,o1_12⟩ => ?_)
 refine bW 13 rfl rfl rfl (fun hc=>qFA (off:=1) (ae rfl hc)) (bW 14 rfl rfl rfl (fun hc=>gz (o:=1) tk3 (ae rfl hc) (aH 0 rfl) hc rfl) ?_)
 refine bW 15 rfl rfl rfl (fun hc=>aV (ae rfl hc) (ae rfl hc) (by (have h9:=hf (elt q.l ((i:Int)-1)) (List.mem_of_getElem? (kO (by omega) (by simp at hc;omega)));omega))) ?_
 refine bW 16 rfl rfl rfl (fun hc=>qFA (off:=0) rfl) (bW 17 rfl rfl rfl (fun hc=>bj 0 tk3 (ae rfl hc) rfl rfl) (bW 18 rfl rfl rfl (fun hc=>eY (ae rfl hc) (ae rfl hc)) (bV 19 rfl rfl (dp rfl rfl (fun h=>gf rfl h)) (bV 20 rfl rfl (bo rfl) (BN (an (az (FZ1 [] Tryz.results155 rfl ?_))))))))
 rfl
theorem s7(l:Sl bK)(hl:l.l.length≤1000000)(hf:vj l.l):Con Tryz.prog 81 [l.val] [ShF bK.row l] [] fun r _ _=>r=.bool (qc l.l):=by
 have hfl:(l.l.filter gj).length≤1000000:=Nat.le_trans (List.length_filter_le _ _) hl
 refine EN1 Tryz.func81 rfl (aSR (LT rfl (acV ([.slice l.ad l.l.length l.cap]) rfl rfl rfl (fun b0_0=>(aHN ?_)))))
 refine aA rfl (aNn (aSR (UL 0 tk31 rfl rfl rfl rfl (LT rfl (EC [0] [] rfl (wC l hl) ?_)))))
 rintro _ _ _ ⟨rfl,ad1,c1,rfl,rfl⟩
 refine aST ?_
 refine LF rfl (EC [] [1] rfl ((abi _ l.l hl).know (φ:=fun r=>∃ ad cp,r=.slice ad (l.l.filter gj).length cp) (fun v ps' hp' w S fp ⟨_,h2⟩ hst=>by subst h2;have:=ga (hst.res 0 _ rfl);rwa [List.length_map] at this)) ?_)
 rintro _ _ _ ⟨⟨rfl,rfl⟩,ad2,c2,rfl⟩
 refine aST ?_
 refine aW rfl (ba 0 tk31 rfl rfl rfl rfl (aHK ?_))
 refine aNn (aSR (UL 0 tk31 rfl rfl rfl rfl (LF rfl (EC [] [1] rfl (yv _ _ hfl) ?_))))
 rintro _ _ _ ⟨rfl,q,hqp,hqs,rfl⟩
 refine aST ?_
 refine aNs ?_
 rw [← hqp.length_eq]
 refine ep 1 rfl ?_
 have hqf:vj q:=fun s hs=>hf s (List.mem_filter.1 (hqp.mem_iff.1 hs)).1
 refine bT 0 rfl rfl ?_
 show awp _ _ _ _ ⟨_,At _ 0 _::_,_⟩
 refine aa (UD 0 tk31 0 rfl rfl rfl rfl (aU rfl (cq (l:=[.tmp 1]) rfl) ?_))
 refine aU rfl (QC rfl (fun w S fp hst=>(((sn ⟨ad2,c2,q⟩ 155 [.pointer (some ⟨b0_0,0,none⟩)] (cF (At b0_0 0 [.v (.slice ad2 q.length c2)]) (ShF bK.row ⟨ad2,c2,q⟩)) (fun i a=>acy q i a) (by kernel_rfl) (fun i a ha=>xW b0_0 ⟨ad2,c2,q⟩ hqf (by have:=hqp.length_eq;dsimp only;omega) i a ha)).post (fun _ _ _ h=>h.2.2)).pre2 (ps:=[At b0_0 0 [.v (.slice ad2 q.length c2)],ShF bK.row ⟨ad2,c2,q⟩]) (.of (aH 1 rfl)) (Ent.mk2 (.of (aH 0 rfl)) (.of (aH 1 rfl)))).quiet2 (aH 0 rfl) (aH 1 rfl) hst)) ?_
 refine aA rfl (aNn (az (FZ1 [] Tryz.results81 rfl ?_)))
 exact congrArg Value.bool (vE hqp hqs)
end Go.Proofs.YtebnelfdimiifaaGreatDoor

namespace Go.Proofs.YtebnelfdimiifaaGreatDoor
open Go.RowKit Go.Lp Go.Sy Go.Lv
open Go.Proofs.Tryz
attribute [local irreducible] aL aB awp aC fwp Quiet
theorem kyP:iw Tryz.prog 157 dM:=abx Tryz.underlying157 rfl (by kernel_rfl) Tryz.underlying9
theorem yo(im:aD)(b i:Nat)(x:bp)(hx:im.nodes.l[i]? = some x):Con Tryz.prog 78 [.int .i64 i,x.val,.pointer (some ⟨b,0,none⟩)] [cF (At b 0 im.row) im.ok] [] fun r _ _=>r=.bool (jh im x):=by
 refine EN3 Tryz.func78 rfl (fC (bp.f_sec (Ent.all (f:=bp.ok) (aD.f_nodesA (Ent.right (.of (aH 0 rfl)))) hx)) (fun hs=>(fC (bp.f_obj (Ent.all (f:=bp.ok) (aD.f_nodesA (Ent.right (.of (aH 0 rfl)))) hx)) (fun ho=>(aSR (LT rfl (cx rfl rfl rfl (fun b0_0=>(aHN ?_)))))))))
 refine aA rfl (aNn (aSR (aU rfl (bk (o:=0) tk39 rfl (Ent.left (.of (aH 0 rfl))) rfl) (UL 0 tk71 rfl rfl rfl rfl (aU rfl (Q0 rfl (aa5 im x hs ho)) (aA rfl (aNn (az (FZ1 [] Tryz.results78 rfl ?_)))))))))
 rfl
theorem aa8 (im:aD) (hS:fZ im):Con Tryz.prog 26 [im.val] [im.ok] [] fun r _ _=>r=.bool (kS im):=by
 have hc0:=hS.c0
 have hcd:=hS.cd
 have hdz:=hS.dz
 have hzm:=hS.zm
 refine EN1 Tryz.func26 rfl (aSR (LT rfl (cx rfl rfl rfl (fun b0_0=>(aHN ?_)))))
 refine aA rfl (aNs (ai (bT 0 rfl rfl ?_)))
 show awp _ _ _ _ ⟨_,At _ 0 _::_,_⟩
 refine aa (UO 8 rfl rfl (UD 8 tk22 0 rfl rfl rfl rfl (aU rfl (aX Tryz.underlying22 rfl) (aU rfl (cN rfl rfl) (aM rfl (GO 12 rfl rfl rfl (aG rfl rfl (fun hc=>bk (o:=12) tk25 (ae rfl hc) (.of (aH 0 rfl)) rfl) (aG rfl rfl (fun hc=>aX Tryz.underlying25 (ae rfl hc)) (aG rfl rfl (fun hc=>cN (ae rfl hc) rfl) (aU rfl (dp rfl rfl (fun h=>gf rfl h)) (aM rfl (GO 8 rfl rfl rfl (aG rfl rfl (fun hc=>bk (o:=8) tk22 (ae rfl hc) (.of (aH 0 rfl)) rfl) (aG rfl rfl (fun hc=>cq (l:=[.tmp 1]) rfl) (aG rfl rfl (fun hc=>QC (aK (ae rfl hc) (aK (ae rfl hc) rfl)) (fun w S fp hst=>(((pE im.nodes 78 [.pointer (some ⟨b0_0,0,none⟩)] (cF (At b0_0 0 im.row) im.ok) (fun _ x=>jh im x) (by kernel_rfl) (fun i x hx=>yo im b0_0 i x hx)).post (fun _ _ _ h=>h.2.2)).pre2 (ps:=[At b0_0 0 im.row,im.ok]) (aD.f_nodes (.of (aH 1 rfl))) (Ent.mk2 (.of (aH 0 rfl)) (.of (aH 1 rfl)))).quiet2 (aH 0 rfl) (aH 1 rfl) hst)) ?_)))))))))))))))
 refine aG rfl rfl (fun hc=>dO (ae rfl hc)) (aU rfl (dp rfl rfl (fun h=>gf rfl h)) (aNn ?_))
 refine ao _ rfl (fun h1 => ?_) (fun h1 => ?_)
 ·skip
  have hh:nj im=true:=h1
  refine aSR (aA rfl (aNn (az (bw (FZ1 [] Tryz.results26 rfl ?_)))))
  unfold kS;rw [hh];rfl
 ·skip
  have hh:nj im=false:=h1
  have hh2:(im.nodes.l.length≤4096∧im.stubs.l.length≤4096)∧allI (fun _ x=>jh im x) 0 im.nodes.l=true:=by
    unfold nj at hh
    simp only [Bool.or_eq_false_iff,Bool.not_eq_false',decide_eq_false_iff_not] at hh
    exact ⟨⟨by omega,by omega⟩,hh.2⟩
  obtain ⟨⟨hnl,hsl⟩,hall⟩:=hh2
  refine ax (an (aSR (aA rfl (aA rfl (aNs (ef 159 2 (ef 159 2 ?_)))))))
  show awp _ _ _ _ ⟨_,_,[_,_,_]⟩
  refine aa (LT rfl (gi (dM) (vBo) rfl (fun b4_0=>(aHN ?_))))
  refine aA rfl (aNs (aSR (UO 8 rfl rfl (UD 8 tk22 0 rfl rfl rfl rfl (aU rfl (aX Tryz.underlying22 rfl) (aM rfl (aNn (aq ?_))))))))
  refine aP [1,3,4,5,31,32,33] [1,0] [1,2,3] (fun (q:(Nat × (Value × Value)) × (List bK × List bK)) st=>NdI im q.1.1 q.2.1 q.2.2∧st=⟨[(1,true,.pointer (some ⟨b0_0,0,none⟩)),(3,true,q.1.2.1),(4,true,q.1.2.2),(5,true,.map (some b4_0)),(31,true,im.nodes.val),(32,true,.int .i64 im.nodes.l.length),(33,true,.int .i64 q.1.1)],[At b0_0 0 im.row,im.ok],[aN q.1.2.1 159 2 (q.2.1.map bK.row),aN q.1.2.2 159 2 (q.2.2.map bK.row),fy b4_0 dM vBo (fw ((im.nodes.l.take q.1.1).map keyOf))]⟩) (fun q=>im.nodes.l.length-q.1.1) rfl (⟨((0,(.slice none 0 0,.slice none 0 0)),([],[])),NdI.start im,by show _=(⟨_,_,[_,_,fy b4_0 dM vBo (fw [])]⟩:Sta);rw [← rT];rfl⟩) ?_
  rintro ⟨⟨k,mv,bv⟩,mem,blk⟩ st ⟨hI,rfl⟩
  dsimp only at hI ⊢
  have hil:=hI.len
  have hile:=hI.le
  refine aSR (aU rfl (bC rfl rfl) (aNs ?_))
  refine ao _ rfl (fun h2 => ?_) (fun h2 => ?_)
  ·skip
   have hk':k<im.nodes.l.length:=by simpa using h2
   obtain ⟨x,hx⟩:∃ x,im.nodes.l[k]? = some x:=⟨_,List.getElem?_eq_getElem hk'⟩
   have ht1:(im.nodes.l.take (k+1)).map keyOf=(im.nodes.l.take k).map keyOf++[keyOf x]:=by rw [List.take_add_one,hx,List.map_append];rfl
   refine ax (an (ai (aq (aSR (jo true rfl rfl (fun _=>bI Tryz.underlying22 tk71 rfl ((aD.f_nodes (.of (aH 1 rfl)))) rfl (aI hx) rfl rfl) (fun h=>absurd h (by decide)) (fun ⟨b7_0,o7_0⟩=>(US 0 tk71 0 rfl rfl rfl rfl rfl (LT rfl (bJ (zs:=[.string .empty,.string .empty,.int .i64 0,.int .i64 0,.int .i64 0,.string .empty,.string .empty]) (by kernel_rfl) rfl (fun b7_2=>(aHN ?_)))))))))))
   refine aW rfl (ba 3 tk71 rfl rfl rfl rfl (aHK ?_))
   refine aNn (aSR (UO 0 rfl rfl (UL 3 tk9 rfl rfl rfl rfl (UO 1 rfl rfl (UL 3 tk9 rfl rfl rfl rfl (aU rfl (my (l:=[(0,.tmp 38),(1,.tmp 40)]) (zs:=[.string .empty,.string .empty]) (sz:=1) (m:=2) (by kernel_rfl) (by kernel_rfl) rfl rfl rfl) (LT rfl (bJ (zs:=[.string .empty,.string .empty]) (by kernel_rfl) rfl (fun b8_5=>(aHN ?_))))))))))
   refine aW rfl (ba 4 tk157 rfl rfl rfl rfl (aHK ?_))
   refine aNs (aSR (aM rfl (UL 4 tk157 rfl rfl rfl rfl (aU rfl (mz (k:=(x.obj,x.sec)) (v0:=false) 2 Tryz.underlying156 (kyP) (by kernel_rfl) rfl rfl rfl) (aNn ?_)))))
   refine ao _ rfl (fun h3 => ?_) (fun h3 => ?_)
   ·skip
    have hdup:keyOf x∈(im.nodes.l.take k).map keyOf:=aas.1 h3
    refine aSR (aA rfl (aNn (az (bw (cH (bw (bw (cH (bw (FZ1 [] Tryz.results26 rfl (congrArg Value.bool (Eq.symm ?_))))))))))))
    unfold kS
    rw [decide_eq_false (NdI.dup hx hdup),Bool.false_and,Bool.and_false]
   ·skip
    have hdup:keyOf x ∉ (im.nodes.l.take k).map keyOf:=fun hm=>by rw [aas.2 hm] at h3;cases h3
    have hst1:=hI.step hx hdup
    refine ax (an (aSR (aM rfl (UL 4 tk157 rfl rfl rfl rfl (aW rfl (fe (k:=(x.obj,x.sec)) (v:=true) 2 Tryz.underlying156 (kyP) rfl rfl rfl rfl (aHK ?_)))))))
    refine aNn (aSR (UO 3 rfl rfl (UL 3 tk3 rfl rfl rfl rfl (UO 4 rfl rfl (UL 3 tk3 rfl rfl rfl rfl (aU rfl (ib (l:=[(0,.tmp 48),(1,.tmp 50)]) (zs:=[.int .i64 0,.int .i64 0]) (pl:=[(0,1),(1,1)]) (by kernel_rfl) (by kernel_rfl) (by kernel_rfl) rfl rfl rfl) (LT rfl (bJ (zs:=[.int .i64 0,.int .i64 0]) (by kernel_rfl) rfl (fun b12_5=>(aHN ?_))))))))))
    refine aW rfl (ba 5 tk159 rfl rfl rfl rfl (aHK ?_))
    refine aNn (aSR (UO 2 rfl rfl (UL 3 tk3 rfl rfl rfl rfl (aU rfl (Q0 rfl (tc _)) (aNn ?_)))))
    refine ao _ rfl (fun h4 => ?_) (fun h4 => ?_)
    ·skip
     rw [if_pos h4,if_pos h4] at hst1
     refine aa (aM rfl (UL 5 tk159 rfl rfl rfl rfl (LT rfl (WL (zs:=[.int .i64 0,.int .i64 0]) el31 rfl rfl rfl (.more rfl (.v rfl (.v rfl .nil)) .nil) rfl rfl (fun v14_2=>(aHN ?_))))))
     refine aW rfl (cK 0 el31 rfl rfl rfl rfl (dW 6 el31 rfl (by simp)) (by first | assumption | simp) (by rw [List.length_map];show mem.length+1≤_;omega) (mem.length+1) (by rw [List.length_map];rfl) (fun v14_3 c14_3 => ?_))
     refine aHK ?_
     refine aA rfl (bP (bu (an (aa (aU rfl (aV rfl rfl (by omega)) (aM rfl (aNn ?_)))))))
     refine ⟨[1,3,4,5,31,32,33],[1,0],[0,1,2],rfl,?_⟩
     refine ⟨((k+1,(.slice v14_3 (mem.length+1) c14_3,bv)),(mem++[iZ x],blk)),⟨hst1,?_⟩,by dsimp only;omega⟩
     show _=(⟨_,_,[aN (.slice v14_3 (mem.length+1) c14_3) 159 2 ((mem++[iZ x]).map bK.row),_,fy b4_0 dM vBo (fw ((im.nodes.l.take (k+1)).map keyOf))]⟩:Sta)
     rw [ht1,ig,List.map_append];rfl
    ·skip
     rw [if_neg (by rw [h4];decide),if_neg (by rw [h4];decide)] at hst1
     refine aa (aM rfl (UL 5 tk159 rfl rfl rfl rfl (LT rfl (WL (zs:=[.int .i64 0,.int .i64 0]) el31 rfl rfl rfl (.more rfl (.v rfl (.v rfl .nil)) .nil) rfl rfl (fun v15_2=>(aHN ?_))))))
     refine aW rfl (cK 1 el31 rfl rfl rfl rfl (dW 6 el31 rfl (by simp)) (by first | assumption | simp) (by rw [List.length_map];show blk.length+1≤_;omega) (blk.length+1) (by rw [List.length_map];rfl) (fun v15_3 c15_3 => ?_))
     refine aHK ?_
     refine aA rfl (bP (bu (an (aa (aU rfl (aV rfl rfl (by omega)) (aM rfl (aNn ?_)))))))
     refine ⟨[1,3,4,5,31,32,33],[1,0],[0,1,2],rfl,?_⟩
     refine ⟨((k+1,(mv,.slice v15_3 (blk.length+1) c15_3)),(mem,blk++[iZ x])),⟨hst1,?_⟩,by dsimp only;omega⟩
     show _=(⟨_,_,[_,aN (.slice v15_3 (blk.length+1) c15_3) 159 2 ((blk++[iZ x]).map bK.row),fy b4_0 dM vBo (fw ((im.nodes.l.take (k+1)).map keyOf))]⟩:Sta)
     rw [ht1,ig,List.map_append];rfl
  ·skip
   have hkn:k=im.nodes.l.length:=by simp at h2;omega
   have hmN:mem=sI im.nodes.l:=by have:=hI.m;rwa [hkn,List.take_length] at this
   have hbN:blk=vA im.nodes.l:=by have:=hI.b;rwa [hkn,List.take_length] at this
   have hnd:(im.nodes.l.map keyOf).Nodup:=by have:=hI.nd;rwa [hkn,List.take_length] at this
   refine aR (aS (aS (aY (an (ai (aSR (UO 12 rfl rfl (UD 12 tk25 0 rfl rfl rfl rfl (aU rfl (aX Tryz.underlying25 rfl) (aM rfl (aNn (aq ?_))))))))))))
   refine aP [1,3,4,65,66,67] [1,0] [0,1] (fun (q:Nat × (Value × List bK)) st=>(q.1≤im.stubs.l.length∧q.2.2=sI im.nodes.l++(im.stubs.l.take q.1).map xz∧∀ i s,i<q.1→im.stubs.l[i]? = some s→l8 im i s=true)∧st=⟨[(1,true,.pointer (some ⟨b0_0,0,none⟩)),(3,true,q.2.1),(4,true,bv),(65,true,im.stubs.val),(66,true,.int .i64 im.stubs.l.length),(67,true,.int .i64 q.1)],[At b0_0 0 im.row,im.ok],[aN q.2.1 159 2 (q.2.2.map bK.row),aN bv 159 2 (blk.map bK.row)]⟩) (fun q=>im.stubs.l.length-q.1) rfl (⟨(0,(mv,mem)),⟨Nat.zero_le _,by simp [hmN],fun i s h=>absurd h (Nat.not_lt_zero _)⟩,rfl⟩) ?_
   rintro ⟨j,mv2,mem2⟩ st ⟨⟨hj,hm2,hpre⟩,rfl⟩
   dsimp only at hj hm2 hpre ⊢
   have hm2l:mem2.length≤8192:=by rw [hm2,← hmN,List.length_append,List.length_map,List.length_take];omega
   refine aSR (aU rfl (bC rfl rfl) (aNs ?_))
   refine ao _ rfl (fun h5 => ?_) (fun h5 => ?_)
   ·skip
    have hj':j<im.stubs.l.length:=by simpa using h5
    obtain ⟨s,hs⟩:∃ s,im.stubs.l[j]? = some s:=⟨_,List.getElem?_eq_getElem hj'⟩
    refine ax (an (ai (aq (aSR (aM rfl (jo true rfl rfl (fun _=>bI Tryz.underlying25 tk3 rfl ((aD.f_stubs (.of (aH 1 rfl)))) rfl (aI hs) rfl rfl) (fun h=>absurd h (by decide)) (fun ⟨b19_1,o19_1⟩=>(US 0 tk3 0 rfl rfl rfl rfl rfl (aA rfl (aA rfl (aNs (aSR (UD 0 tk39 1 rfl rfl rfl rfl (aM rfl (aU rfl (Q0 rfl (con_instr im ⟨hc0,by omega⟩ s)) ?_)))))))))))))))
    refine aU rfl (dO rfl) (aM rfl (aG rfl rfl (fun hc=>aT rfl) (aG rfl rfl (fun hc=>cN (ae rfl hc) rfl) (aG rfl rfl (fun hc=>aT (ae rfl hc)) (GO 12 rfl rfl rfl (aG rfl rfl (fun hc=>bk (o:=12) tk25 (ae rfl hc) (.of (aH 1 rfl)) rfl) (aG rfl rfl (fun hc=>aT rfl) ?_)))))))
    refine aG rfl rfl (fun hc=>cZ (ae rfl hc) rfl (by (first | omega | (simp at hc;omega)))) ?_
    refine jo _ rfl rfl (fun hc=>bI Tryz.underlying25 tk3 (ae rfl hc) ((aD.f_stubs (.of (aH 2 rfl)))) (ae rfl hc) (fJ (i:=(j:Int)-1) (by omega) (by simp at hc;omega)) ((Int.toNat_of_nonneg (by simp at hc;omega)).symm) rfl) (fun _=>⟨(0,0)⟩) (fun ⟨b20_12,o20_12⟩ => ?_)
    refine aG rfl rfl (fun hc=>gz (o:=0) tk3 (ae rfl hc) (aH 0 rfl) hc rfl) (aG rfl rfl (fun hc=>aT rfl) (aG rfl rfl (fun hc=>fH (ae rfl hc) (ae rfl hc)) (aG rfl rfl (fun hc=>bB (ae rfl hc) rfl (fun h=>gt hc h)) (aU rfl (dp rfl rfl (fun h=>gf rfl h)) (aNn ?_)))))
    refine ao _ rfl (fun h6 => ?_) (fun h6 => ?_)
    ·skip
     have hsb:l8 im j s=false:=by unfold l8;rw [Bool.not_eq_false'];exact h6
     refine aSR (aA rfl (aNn (az (bw (cH (bw (bw (cH (bw (FZ1 [] Tryz.results26 rfl (congrArg Value.bool (Eq.symm ?_))))))))))))
     have hf:allI (l8 im) 0 im.stubs.l=false:=by
       cases h:allI (l8 im) 0 im.stubs.l with
       | false=>rfl
       | true=>have:=ju.1 h j s hs;rw [Nat.zero_add,hsb] at this;cases this
     unfold kS
     rw [hf,Bool.false_and,Bool.and_false,Bool.and_false]
    ·skip
     have hsb:l8 im j s=true:=by unfold l8;rw [Bool.not_eq_true'];exact h6
     refine ax (an (aa (aM rfl (aM rfl (aU rfl (ib (l:=[(0,.tmp 91),(1,.const (.int .i64 8))]) (zs:=[.int .i64 0,.int .i64 0]) (pl:=[(0,1),(1,1)]) (by kernel_rfl) (by kernel_rfl) (by kernel_rfl) rfl rfl rfl) (LT rfl (WL (zs:=[.int .i64 0,.int .i64 0]) el31 rfl rfl rfl (.more rfl (.v rfl (.v rfl .nil)) .nil) rfl rfl (fun v22_3=>(aHN ?_)))))))))
     refine aW rfl (cK 0 el31 rfl rfl rfl rfl (dW 2 el31 rfl (by simp)) (by first | assumption | simp) (by rw [List.length_map];show mem2.length+1≤_;omega) (mem2.length+1) (by rw [List.length_map];rfl) (fun v22_4 c22_4 => ?_))
     refine aHK ?_
     refine aA rfl (bP (bu (an (aa (aU rfl (aV rfl rfl (by omega)) (aM rfl (aNn ?_)))))))
     refine ⟨[1,3,4,65,66,67],[1,0],[0,1],rfl,?_⟩
     refine ⟨(j+1,(.slice v22_4 (mem2.length+1) c22_4,mem2++[xz s])),⟨⟨hj',?_,fun i t hi ht => ?_⟩,?_⟩,by dsimp only;omega⟩
     · dsimp only;rw [hm2,List.append_assoc,List.take_add_one,hs,List.map_append];rfl
     · rcases Nat.lt_or_ge i j with h | h
       · exact hpre i t h ht
       · obtain rfl:i=j:=by dsimp only at hi;omega
         rw [hs] at ht;obtain rfl:=Option.some.inj ht;exact hsb
     · show _=(⟨_,_,[aN (.slice v22_4 (mem2.length+1) c22_4) 159 2 ((mem2++[xz s]).map bK.row),_]⟩:Sta)
       rw [List.map_append];rfl
   ·skip
    have hjn:j=im.stubs.l.length:=by simp at h5;omega
    have hstubs:allI (l8 im) 0 im.stubs.l=true:=ju.2 fun i t ht=>by rw [Nat.zero_add];exact hpre i t (by rw [hjn];exact (List.getElem?_eq_some_iff.1 ht).1) ht
    have hm3:mem2=sI im.nodes.l++im.stubs.l.map xz:=by rw [hm2,hjn,List.take_length]
    have hfM:vj mem2:=fun t ht=>by
      rw [hm3] at ht
      rcases List.mem_append.1 ht with h | h
      · exact tz hall h
      · obtain ⟨z,hz,rfl⟩:=List.mem_map.1 h
        obtain ⟨i,hi⟩:=List.mem_iff_getElem?.1 hz
        have:=ju.1 hstubs i z hi
        unfold l8 instrB at this
        simp only [Bool.not_eq_true',Bool.or_eq_false_iff,Bool.not_eq_false',Bool.and_eq_true,mP] at this
        have h9:=this.1.1
        exact ⟨⟨h9.1,by show z≤_;omega⟩,by show 0≤(8:Int)∧(8:Int)≤1048576;decide⟩
    have hfB:vj blk:=fun t ht=>by rw [hbN] at ht;exact tz hall ht
    refine aR (aS (aS (aY (an (ai (fK 0 rfl (fun w S F hh=>ga hh) (fun hov => ?_)))))))
    obtain ⟨mad,mcp,rfl⟩:=hov
    refine fK 1 rfl (fun w S F hh=>ga hh) (fun hov => ?_)
    obtain ⟨bad,bcp,rfl⟩:=hov
    rw [List.length_map,List.length_map]
    refine ep 0 rfl (ep 1 rfl (aa (aM rfl ?_)))
    refine aU rfl (Q1 rfl (s7 ⟨mad,mcp,mem2⟩ (by dsimp only;omega) hfM) 1 rfl) ?_
    refine aM rfl (aG rfl rfl (fun hc=>aT rfl) ?_)
    refine aG rfl rfl (fun hc=>Q1 (aK (ae rfl hc) rfl) (s7 ⟨bad,bcp,blk⟩ (by dsimp only;omega) hfB) 0 rfl) ?_
    refine aU rfl (bB rfl rfl (fun h=>gt rfl h)) (aA rfl (aNn (az (FZ1 [] Tryz.results26 rfl (congrArg Value.bool ?_)))))
    unfold kS
    rw [hh,decide_eq_true hnd,hstubs,← hm3,← hbN];rfl
end Go.Proofs.YtebnelfdimiifaaGreatDoor

namespace Go.Proofs.YtebnelfdimiifaaGreatDoor
open Go.RowKit Go.Lp Go.Sy Go.Lv
def aad(im:aD)(x:bQ):Int:=if x.kind=2 then im.block else im.zero
def ahc(y x:bQ):Int:=if xT y.name x.name≠0 then xT y.name x.name else xT y.version x.version
def kQ(im:aD)(i:Nat)(x:bQ):Bool:=decide ((i:Int)>0) && decide (ahc (elt im.exports.l ((i:Int)-1)) x≥0)
def p5(x:bQ):Bool:=x.main || decide (x.version=⟨#[]⟩)
def agQ(im:aD)(x:bQ):Bool:=(((fg x.name && ni x.version) && iy x.kind 0 2) && decide (x.size≥0)) && iy x.at_ 0 (aad im x)
def yJ(im:aD)(s:List ByteArray)(i:Nat)(x:bQ):Bool × List ByteArray :=
 if kQ im i x=true then (false,s) else if p5 x=true then (if (fw s x.name).getD false=true then (false,s) else (agQ im x,s++[x.name])) else (agQ im x,s)
def ri(im:aD):Bool:=decide ((im.exports.l.length:Int)≤4096) && (fU (yJ im) [] 0 im.exports.l).1
abbrev af0(x:b7):ByteArray × ByteArray:=(x.name,x.version)
abbrev nS(im:aD)(i:Nat):Int:=elt im.slots.l (i:Int)
def yL(im:aD)(st:List (ByteArray × ByteArray) × List Int)(i:Nat)(x:b7):Bool :=
 (fw st.1 (af0 x)).getD false || ((!decide (nS im i = -1)) && (((fw st.2 (nS im i)).getD false || !iy (nS im i) im.code (im.data-8)) || !decide ((nS im i).tmod 8=0)))
def ahe(x:b7):Bool:=(fg x.name && ni x.version) && iy x.kind 0 2
def yM(im:aD)(st:List (ByteArray × ByteArray) × List Int)(i:Nat)(x:b7):Bool × (List (ByteArray × ByteArray) × List Int) :=
 if yL im st i x=true then (false,st) else (ahe x,(st.1++[af0 x],st.2++[nS im i]))
def wO(im:aD):Bool:=decide ((im.imports.l.length:Int)>4096) || !decide ((im.slots.l.length:Int)=im.imports.l.length)
def iT(im:aD):Bool:=if wO im=true then false else (fU (yM im) ([],[]) 0 im.imports.l).1
def q8(im:aD)(e:Int)(x:fx):Bool:=((!iy x.kind 0 7) || (!iy x.at_ e (im.data-dX x.kind))) || (!iy x.import_ (-1) (im.imports.l.length-1))
def uF(im:aD)(x:fx):Bool:=decide (x.import_<0) || (!decide (elt im.slots.l x.import_=x.at_))
def ij(im:aD)(st:Int × Int)(_:Nat)(x:fx):Bool × (Int × Int) :=
 if q8 im st.1 x=true then (false,st) else
 if x.kind=3 then (if uF im x=true then (false,st) else (true,(x.at_+dX x.kind,st.2+1))) else
 if (x.kind=5∨x.kind=6∨x.kind=7)∧x.import_<0 then (false,st) else (true,(x.at_+dX x.kind,st.2))
def nT(l:List Int):Int:=((l.filter fun s => !decide (s = -1)).length:Nat)
def mY(im:aD):Bool:=(fU (ij im) (0,0) 0 im.dyns.l).1 && decide ((fU (ij im) (0,0) 0 im.dyns.l).2.2-nT im.slots.l=0)
theorem yD{im:aD}{e:Int}{x:fx}(h:q8 im e x=false):(0≤x.kind∧x.kind≤7)∧(e≤x.at_∧x.at_≤im.data-dX x.kind)∧(-1≤x.import_∧x.import_≤im.imports.l.length-1):=by
 unfold q8 at h
 simp only [Bool.or_eq_false_iff,Bool.not_eq_false',mP] at h
 exact ⟨h.1.1,h.1.2,h.2⟩
theorem abw(k:Int):dX k=4∨dX k=8:=by unfold dX;split<;>simp
theorem zk(l:List Int)(s:Int):nT (l++[s])=if s = -1 then nT l else nT l+1:=by
 unfold nT
 rw [List.filter_append]
 by_cases h:s = -1
 · rw [if_pos h];simp [h]
 · rw [if_neg h];simp [h]
theorem xy(l:List Int):0≤nT l∧nT l≤l.length:=by
 unfold nT
 have:=List.length_filter_le (fun s:Int => !decide (s = -1)) l
 omega
end Go.Proofs.YtebnelfdimiifaaGreatDoor

namespace Go.Sy
open Go.RowKit Go.Lp
theorem acq{P:Program}{n:Fr}{ops:Array Oper}{Q:Exit→Sta→Prop}{env:Env}{ps:List Per}{hp:List Res}{rest:List Oper}(i:Nat)(h:aL P n ops Q rest ⟨env,ps,hp.set i emp⟩):aL P n ops Q rest ⟨env,ps,hp⟩:=fun w S fp a hst he hn hd=>by
 have hX:∀ b,tot (fun k=>if k=i then (fun _=>False) else fp k) (hp.set i emp).length b→tot fp hp.length b:=fun b ⟨k,hk,hb⟩=>by
   dsimp only at hb
   by_cases e:k=i
   · rw [if_pos e] at hb;exact hb.elim
   · rw [if_neg e] at hb;exact ⟨k,by simpa using hk,hb⟩
 exact fR (fun e a' w' hp'=>hp'.trans (Evo.refl _ _ _) fun b hb=>.inl (hX b hb)) _ _ _ (h w S _ a (hst.drop i) he hn hd)
theorem sN{P:Program}{n:Fr}{ops:Array Oper}{Q:Exit→Sta→Prop}{env:Env}{ps:List Per}{hp:List Res}{ty:TypeId}{pos:String}{af:Array Edge}{gd:Option (Nat × Bool)}{rest:List Oper}{t:Nat}{f:FuncId}{g:Operand}{caps:List Value}{l:List Operand}{ts:Array TypeId}{vs:List Value}{v:Value}(lp:List Nat)(i:Nat)(hf:dP P f=true)(c:Bool)(hc:guardOf ops env ⟨some t,.call ⟨.value g,l.toArray,ts⟩,ty,pos,af,gd⟩=some c)(ht:fits n.size (some t)=true)(hi:i<hp.length)
   (hgv:c=true→ev env g=some (true,.func (.func f) #[] caps.toArray)) (hx:c=true→evs env l=some vs) (hcon:c=true→Con P f (vs++caps) (fG ps lp) (cI hp [i]) fun r ps' hp'=>ps'=[]∧hp'=[]∧r=v)
   (h:aL P n ops Q rest ⟨(t,c,v)::env,ps,hp.set i emp⟩):aL P n ops Q (⟨some t,.call ⟨.value g,l.toArray,ts⟩,ty,pos,af,gd⟩::rest) ⟨env,ps,hp⟩:=by
 cases c with
 | true =>
   refine aW (q:=false) hc (fN lp [i] hf (hgv rfl) (hx rfl) ht (by simp [okH,hi]) rfl (hcon rfl) ?_)
   rintro _ _ _ ⟨rfl,rfl,rfl⟩
   refine iN ?_ h
   apply List.ext_getElem?;intro j;rw [iX,List.getElem?_set,Nat.zero_add]
   by_cases hj:j<hp.length
   · rw [if_pos hj]
     by_cases e:i=j
     · subst e;rw [if_pos rfl,if_pos hj];simp [place]
     · rw [if_neg e];simp [place,e]
   · rw [if_neg hj,if_neg (by omega),List.getElem?_eq_none (by simp),List.getElem?_eq_none (by omega)]
 | false=>exact kB (v:=v) false hc ht (fun h=>by cases h) (acq i h)
theorem aey{P:Program}{f:FuncId}{args:List Value}{ps:List Per}{l:List Res}{R:Value→List Per→List Res→Prop}(h:Con P f args ps l R):Con P f args ps [Bun l] fun v ps' hp'=>∃ l',hp'=[Bun l']∧R v ps' l':=fun w S fp hst=>by
 obtain ⟨fp2,k1,k2⟩:=hst.unbun
 refine (h w S fp2 k1).mono fun e w' ⟨v,ps',hp',S',fp',he,hR,hst',hE,hg⟩ => ?_
 exact ⟨v,ps',[Bun hp'],S',_,he,⟨hp',rfl,hR⟩,hst'.bun,hE.wider k2,fun b hb=>(hg b ((u9 _ b (Bun hp')).1 hb)).imp (k2 b) id⟩
end Go.Sy

