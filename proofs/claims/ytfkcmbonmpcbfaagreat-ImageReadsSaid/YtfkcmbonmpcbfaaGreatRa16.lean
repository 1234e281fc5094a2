/- Parts of the proof, in build order. No condition. -/
import Derived.Test.YtfkcmbonmpcbfaaGreatRa15
import Derived.Test.YtfkcmbonmpcbfaaGreatRa05
import Derived.Test.YtfkcmbonmpcbfaaGreatRa09
import Derived.Shelf.SlSortCmp.WholeK
import Derived.Shelf.SlSortCmp.NoneTotal
import Derived.Test.YtfkcmbonmpcbfaaGreatProg
import Derived.Ground.SlsfProg
import Derived.Test.YtfkcmbonmpcbfaaGreatRa08
set_option linter.unusedSimpArgs false
set_option linter.unusedVariables false
set_option maxHeartbeats 1000000
set_option maxRecDepth 20000
namespace Go.Proofs.YtfkcmbonmpcbfaaGreat
open Go.RowKit Go.Lp Go.Sy Go.Lv
open Go.Proofs.Tryz
attribute [local irreducible] aL aB awp aC fwp Quiet
abbrev kZ(z:Int):Value:=.int .i64 z
theorem kyI:ij Tryz.prog 3 kZ:=adt Tryz.underlying3
theorem y7(im:az)(x:ba)(hs:x.sec.size≤maxLen)(ho:x.obj.size≤maxLen):Con Tryz.prog 146 [im.val,x.val] [] [] fun r _ _=>r=.bool (jf im x):=by
 refine EN2 Tryz.func146 rfl (aSR (LT rfl (cK rfl rfl rfl (fun b0_0=>(aHN ?_)))))
 refine LT rfl (cK rfl rfl rfl (fun b0_1=>(aHN ?_)))
 refine aA rfl (aNs (aSR (UO 2 rfl rfl (UL 1 tk3 rfl rfl rfl rfl (aU rfl (Q0 rfl (dA _ _ _)) (aU rfl (cV rfl) (aM rfl (GO 1 rfl rfl rfl (GL 1 tk9 rfl rfl rfl rfl rfl (aG rfl rfl (fun hc=>Q0 (aN (ae rfl hc) rfl) (gG _ hs)) (aG rfl rfl (fun hc=>cV (ae rfl hc)) (aU rfl (eu rfl rfl (fun h=>gf rfl h)) (aM rfl (GO 0 rfl rfl rfl (GL 1 tk9 rfl rfl rfl rfl rfl ?_)))))))))))))))
 refine aG rfl rfl (fun hc=>Q0 (aN (ae rfl hc) rfl) (jU _ ho)) (aG rfl rfl (fun hc=>cV (ae rfl hc)) (aU rfl (eu rfl rfl (fun h=>gf rfl h)) (aM rfl (GO 5 rfl rfl rfl (GL 1 tk9 rfl rfl rfl rfl rfl (aG rfl rfl (fun hc=>cP Tryz.underlying9 (ae rfl hc)) (aG rfl rfl (fun hc=>ft (ae rfl hc) rfl) (aU rfl (eu rfl rfl (fun h=>gf rfl h)) (aM rfl (GO 6 rfl rfl rfl (GL 1 tk9 rfl rfl rfl rfl rfl (aG rfl rfl (fun hc=>cP Tryz.underlying9 (ae rfl hc)) (aG rfl rfl (fun hc=>ft (ae rfl hc) rfl) (aG rfl rfl (fun hc=>aS (ae rfl hc)) (GO 6 rfl rfl rfl ?_)))))))))))))))
 refine GL 1 tk9 rfl rfl rfl rfl rfl (aG rfl rfl (fun hc=>cP Tryz.underlying9 (ae rfl hc)) (aG rfl rfl (fun hc=>ft (ae rfl hc) rfl) (aG rfl rfl (fun hc=>bo (ae rfl hc) rfl (fun h=>gt hc h)) (aU rfl (eu rfl rfl (fun h=>gf rfl h)) (aM rfl (GO 4 rfl rfl rfl (GL 1 tk3 rfl rfl rfl rfl rfl (aG rfl rfl (fun hc=>fe (by kernel_rfl) (aN (ae rfl hc) (aN (ae rfl rfl) (aN (ae rfl rfl) rfl))) (fun w S fp hst=>(dA _ _ _).quiet0 hst)) (aG rfl rfl (fun hc=>cV (ae rfl hc)) (aU rfl (eu rfl rfl (fun h=>gf rfl h)) (aM rfl (GO 3 rfl rfl rfl (GL 1 tk3 rfl rfl rfl rfl rfl (aG rfl rfl (fun hc=>fe (by kernel_rfl) (aN (ae rfl hc) (aN (ae rfl rfl) (aN (ae rfl rfl) rfl))) (fun w S fp hst=>(dA _ _ _).quiet0 hst)) ?_))))))))))))))
 refine aG rfl rfl (fun hc=>cV (ae rfl hc)) (aU rfl (eu rfl rfl (fun h=>gf rfl h)) (aNn ?_))
 refine ao _ rfl (fun h1 => ?_) (fun h1 => ?_)
 ·skip
  have hbad:iC x=true:=h1
  refine aSR (aA rfl (aNn (ax (bB (FZ1 [] Tryz.results146 rfl ?_)))))
  unfold jf;rw [hbad];rfl
 ·skip
  have hbad:iC x=false:=h1
  obtain ⟨hk,hsz,hat⟩:=og hbad
  refine ar (aj (aSR (LT rfl (gh (kZ) (pV) rfl (fun b3_0=>(aHN ?_))))))
  refine UO 2 rfl rfl (UL 0 tk3 rfl rfl rfl rfl (aU rfl (lY (l:=[(0,.const (.int .i64 0)),(1,.tmp 55)]) (zs:=[.int .i64 0,.int .i64 0]) (sz:=1) (m:=2) (by kernel_rfl) (by kernel_rfl) rfl rfl rfl) (aD rfl (jD (k:=(0:Int)) (v:=((0:Int),im.code)) 2 Tryz.underlying346 (kyI) rfl rfl rfl rfl (aHK ?_)))))
  refine UO 2 rfl rfl (UL 0 tk3 rfl rfl rfl rfl (UO 3 rfl rfl (UL 0 tk3 rfl rfl rfl rfl (aU rfl (lY (l:=[(0,.tmp 58),(1,.tmp 60)]) (zs:=[.int .i64 0,.int .i64 0]) (sz:=1) (m:=2) (by kernel_rfl) (by kernel_rfl) rfl rfl rfl) (aD rfl (jD (k:=(1:Int)) (v:=(im.code,im.data)) 2 Tryz.underlying346 (kyI) rfl rfl rfl rfl (aHK ?_)))))))
  refine UO 3 rfl rfl (UL 0 tk3 rfl rfl rfl rfl (UO 4 rfl rfl (UL 0 tk3 rfl rfl rfl rfl (aU rfl (lY (l:=[(0,.tmp 63),(1,.tmp 65)]) (zs:=[.int .i64 0,.int .i64 0]) (sz:=1) (m:=2) (by kernel_rfl) (by kernel_rfl) rfl rfl rfl) (aD rfl (jD (k:=(2:Int)) (v:=(im.data,im.zero)) 2 Tryz.underlying346 (kyI) rfl rfl rfl rfl (aHK ?_)))))))
  refine UO 7 rfl rfl (UL 0 tk3 rfl rfl rfl rfl (aU rfl (lY (l:=[(0,.const (.int .i64 0)),(1,.tmp 68)]) (zs:=[.int .i64 0,.int .i64 0]) (sz:=1) (m:=2) (by kernel_rfl) (by kernel_rfl) rfl rfl rfl) (aD rfl (jD (k:=(3:Int)) (v:=((0:Int),im.block)) 2 Tryz.underlying346 (kyI) rfl rfl rfl rfl (aHK ?_)))))
  refine UO 7 rfl rfl (UL 0 tk3 rfl rfl rfl rfl (aU rfl (lY (l:=[(0,.const (.int .i64 0)),(1,.tmp 71)]) (zs:=[.int .i64 0,.int .i64 0]) (sz:=1) (m:=2) (by kernel_rfl) (by kernel_rfl) rfl rfl rfl) (aD rfl (jD (k:=(4:Int)) (v:=((0:Int),im.block)) 2 Tryz.underlying346 (kyI) rfl rfl rfl rfl (aHK ?_)))))
  refine aM rfl (aA rfl (aNn (aSR (aM rfl (UO 2 rfl rfl (UL 1 tk3 rfl rfl rfl rfl (aU rfl (lZ (k:=x.kind) (v0:=((0:Int),(0:Int))) 2 Tryz.underlying346 (kyI) (by kernel_rfl) rfl rfl rfl) (LT rfl (bk (zs:=[.int .i64 0,.int .i64 0]) (by kernel_rfl) rfl (fun b4_4=>(aHN ?_)))))))))))
  refine aD rfl (aF 3 tk132 rfl rfl rfl rfl (aHK ?_))
  refine aNs ?_
  rw [abz im hk]
  refine aa (UO 3 rfl rfl (UL 1 tk3 rfl rfl rfl rfl (aU rfl (vE (0) Tryz.underlying132 tk3 rfl rfl (rfl) (by decide)) (UL 3 tk3 rfl rfl rfl rfl (aU rfl (fi rfl rfl) (aM rfl (GO 3 rfl rfl rfl (GL 1 tk3 rfl rfl rfl rfl rfl (GO 4 rfl rfl rfl (GL 1 tk3 rfl rfl rfl rfl rfl ?_))))))))))
  refine aG rfl rfl (fun hc=>aX (ae rfl hc) (ae rfl hc) (by (first | omega | (simp at hc;omega)))) ?_
  refine aG rfl rfl (fun hc=>vE (1) Tryz.underlying132 tk3 rfl rfl (rfl) (by decide)) (GL 3 tk3 rfl rfl rfl rfl rfl (aG rfl rfl (fun hc=>ff (ae rfl hc) (ae rfl hc)) (aU rfl (bo rfl rfl (fun h=>gt rfl h)) (aM rfl (GO 2 rfl rfl rfl (GL 1 tk3 rfl rfl rfl rfl rfl (aG rfl rfl (fun hc=>ft (ae rfl hc) rfl) (aG rfl rfl (fun hc=>aS (ae rfl hc)) (GO 3 rfl rfl rfl (GL 1 tk3 rfl rfl rfl rfl rfl (aG rfl rfl (fun hc=>gZ (ae rfl hc) rfl (by decide)) ?_)))))))))))
  refine aG rfl rfl (fun hc=>cJ (ae rfl hc) rfl) (aG rfl rfl (fun hc=>eu (ae rfl hc) rfl (fun h=>gf hc h)) (aU rfl (bo rfl rfl (fun h=>gt rfl h)) (aA rfl (aNn (ax (FZ1 [] Tryz.results146 rfl ?_))))))
  unfold jf;rw [hbad];rfl
end Go.Proofs.YtfkcmbonmpcbfaaGreat

namespace Go.Proofs.YtfkcmbonmpcbfaaGreat
open Go.RowKit Go.Lp Go.Sy Go.Lv
abbrev keyOf(x:ba):ByteArray × ByteArray:=(x.obj,x.sec)
abbrev iW(x:ba):bC:=⟨x.at_,x.size⟩
abbrev vR(s:Int):bC:=⟨s,8⟩
def rn(l:List ba):List bC:=(l.filter fun x=>ib x.kind).map iW
def ua(l:List ba):List bC:=(l.filter fun x => !ib x.kind).map iW
def lJ(im:az)(i:Nat)(s:Int):Bool := !((!instrB im.code s) || (decide ((i:Int)>0) && decide (elt im.stubs.l ((i:Int)-1)≥s)))
def mC(im:az):Bool:=(decide ((im.nodes.l.length:Int)>4096) || decide ((im.stubs.l.length:Int)>4096)) || !allI (fun _ x=>jf im x) 0 im.nodes.l
def kA(im:az):Bool:=(!mC im) &&
 (decide ((im.nodes.l.map keyOf).Nodup) && (allI (lJ im) 0 im.stubs.l && (o6 (rn im.nodes.l++im.stubs.l.map vR) && o6 (ua im.nodes.l))))
structure NdI (im:az) (k:Nat) (mem blk:List bC):Prop where
 le:k≤im.nodes.l.length
 m:mem=rn (im.nodes.l.take k)
 b:blk=ua (im.nodes.l.take k)
 nd:((im.nodes.l.take k).map keyOf).Nodup
section
variable {im:az} {k:Nat} {mem blk:List bC} {x:ba}
theorem zF(l:List ba)(x:ba):rn (l++[x])=if ib x.kind=true then rn l++[iW x] else rn l:=by
 unfold rn;rw [List.filter_append,List.map_append]
 by_cases h:ib x.kind=true
 · rw [if_pos h];simp [h]
 · rw [if_neg h];simp [h]
theorem yJ(l:List ba)(x:ba):ua (l++[x])=if ib x.kind=true then ua l else ua l++[iW x]:=by
 unfold ua;rw [List.filter_append,List.map_append]
 by_cases h:ib x.kind=true
 · rw [if_pos h];simp [h]
 · rw [if_neg h];simp [h]
theorem NdI.len(h:NdI im k mem blk):mem.length≤k∧blk.length≤k:=by
 have hk:=h.le
 rw [h.m,h.b]
 unfold rn ua
 rw [List.length_map,List.length_map]
 have h1:=List.length_filter_le (fun x:ba=>ib x.kind) (im.nodes.l.take k)
 have h2:=List.length_filter_le (fun x:ba => !ib x.kind) (im.nodes.l.take k)
 rw [List.length_take] at h1 h2
 omega
theorem NdI.start(im:az):NdI im 0 [] []:=⟨Nat.zero_le _,rfl,rfl,List.nodup_nil⟩
theorem NdI.step(h:NdI im k mem blk)(hx:im.nodes.l[k]? = some x)(hn:keyOf x ∉ (im.nodes.l.take k).map keyOf):NdI im (k+1) (if ib x.kind=true then mem++[iW x] else mem) (if ib x.kind=true then blk else blk++[iW x]):=by
 have ht:im.nodes.l.take (k+1)=im.nodes.l.take k++[x]:=by rw [List.take_add_one,hx];rfl
 refine ⟨(List.getElem?_eq_some_iff.1 hx).1,?_,?_,?_⟩
 · rw [ht,zF,h.m]
 · rw [ht,yJ,h.b]
 · rw [ht,List.map_append,List.nodup_append]
   exact ⟨h.nd,by simp,fun a ha b hb e=>hn (by rw [List.map_cons,List.map_nil,List.mem_singleton] at hb;rw [hb] at e;exact e ▸ ha)⟩
theorem NdI.dup(hx:im.nodes.l[k]? = some x)(hn:keyOf x∈(im.nodes.l.take k).map keyOf):¬ (im.nodes.l.map keyOf).Nodup:=fun h=>by
 have ht:im.nodes.l=im.nodes.l.take k++x::im.nodes.l.drop (k+1):=by
   obtain ⟨hk,he⟩:=List.getElem?_eq_some_iff.1 hx
   rw [← he,← List.drop_eq_getElem_cons hk,List.take_append_drop]
 rw [ht,List.map_append,List.nodup_append] at h
 exact h.2.2 _ hn (keyOf x) (by simp) rfl
end
def tS(l:List bC):Prop:=∀ s∈l,(0≤s.at_∧s.at_≤1048576)∧0≤s.size∧s.size≤1048576
theorem zJ{im:az}{x:ba}(h:jf im x=true):(0≤x.at_∧x.at_≤1048576)∧(0≤x.size∧x.size≤1048576):=by
 unfold jf at h
 rw [Bool.and_eq_true,Bool.not_eq_true'] at h
 have:=og h.1
 exact ⟨this.2.2,this.2.1⟩
theorem rY{im:az}(h:allI (fun _ x=>jf im x) 0 im.nodes.l=true){p:ba→Bool}{s:bC}(hs:s∈(im.nodes.l.filter p).map iW):(0≤s.at_∧s.at_≤1048576)∧0≤s.size∧s.size≤1048576:=by
 obtain ⟨x,hx,rfl⟩:=List.mem_map.1 hs
 obtain ⟨k,hk⟩:=List.mem_iff_getElem?.1 (List.mem_filter.1 hx).1
 have:=zJ (jo.1 h k x hk)
 exact this
end Go.Proofs.YtfkcmbonmpcbfaaGreat

namespace Go.Sy
open Go.RowKit Go.Lp Go.Sort Go.Proofs
section
variable {α:Type} [Inhabited α] {enc:α→List Value} {k:Nat}
omit [Inhabited α] in
theorem iQ(hk:∀ x,(enc x).length=k):∀ zs:List α,(zs.flatMap enc).length=zs.length*k
 | []=>by simp
 | x::zs=>by rw [List.flatMap_cons,List.length_append,iQ hk zs,hk,List.length_cons,Nat.add_mul,Nat.one_mul];omega
omit [Inhabited α] in
theorem flat_get(hk:∀ x,(enc x).length=k):∀ (zs:List α) (i j:Nat) (x:α),zs[i]? = some x→j<k→(zs.flatMap enc)[i*k+j]? = (enc x)[j]?
 | [],i,j,x,h,_=>by simp at h
 | y::zs,0,j,x,h,hj=>by
   simp only [List.getElem?_cons_zero,Option.some.injEq] at h
   subst h
   rw [List.flatMap_cons,Nat.zero_mul,Nat.zero_add,List.getElem?_append_left (by rw [hk];exact hj)]
 | y::zs,i+1,j,x,h,hj=>by
   rw [List.getElem?_cons_succ] at h
   rw [List.flatMap_cons,List.getElem?_append_right (by rw [hk,Nat.add_mul];omega),hk,show (i+1)*k+j-k=i*k+j by rw [Nat.add_mul];omega]
   exact flat_get hk zs i j x h hj
theorem qq(hk:∀ x,(enc x).length=k)(d:Array α):flatK enc k d=(d.toList.flatMap enc).toArray:=by
 apply Array.ext'
 apply List.ext_getElem?
 intro t
 show (flatK enc k d).toList[t]? = (d.toList.flatMap enc)[t]?
 by_cases ht:t<d.size*k
 · have k0 : 0 < k := by rcases Nat.eq_zero_or_pos k with h | h
                         · subst h;simp at ht
                         · exact h
   have hd:t / k<d.size:=(Nat.div_lt_iff_lt_mul k0).2 ht
   have h1:=flat_get hk d.toList (t / k) (t % k) d[t / k]! (by simp [hd]) (Nat.mod_lt _ k0)
   rw [show t / k*k+t % k=t by rw [Nat.mul_comm];exact Nat.div_add_mod t k] at h1
   rw [h1,Array.getElem?_toList]
   have h2:=get_flatK enc k d t ht
   have h3:t % k<(enc d[t / k]!).length:=by rw [hk];exact Nat.mod_lt _ k0
   rw [List.getElem?_eq_getElem h3]
   have hs:t<(flatK enc k d).size:=by rw [size_flatK];exact ht
   rw [Array.getElem?_eq_getElem hs]
   rw [getElem!_pos _ t hs] at h2
   rw [h2,getElem!_pos (enc d[t / k]!) (t % k) h3]
 · rw [List.getElem?_eq_none (by simpa using ht),List.getElem?_eq_none (by rw [iQ hk];simpa using ht)]
abbrev uY(enc:α→List Value)(l:List α):List (List D):=l.map fun x=>(enc x).map D.v
theorem abv(hk:∀ x,(enc x).length=k)(k0:0<k){w:World}{S F:bO}{v:Value}{T:TypeId}{zs:List α}(h:(aO v T k (uY enc zs)).holds w S F) :
   (v=.slice none 0 0∧zs=[])∨∃ b cap sp,v=.slice (some ⟨b,0,none⟩) zs.length cap∧w.heap[b]? = some (.cells (zs.flatMap enc++sp).toArray T (0,0))∧zs.length*k+sp.length=cap*k∧zs.length≤cap∧cap≤maxLen∧(∀ j,F j↔j=b)∧HoldsK enc k w b 0 zs.toArray:=by
 rcases h with ⟨h1,h2,_⟩ | ⟨b,cap,hv,⟨cs,sp,hb,hr,hl,hle,hc⟩,hF⟩
 · left;exact ⟨h1,by simpa using h2⟩
 · right
   have hlen:=hr.len
   rw [List.length_map] at hlen
   have hcs:cs=zs.flatMap enc:=by
     apply List.ext_getElem?
     intro t
     by_cases ht:t<zs.length*k
     · have hd:t / k<zs.length:=(Nat.div_lt_iff_lt_mul k0).2 ht
       have hj:=Nat.mod_lt t k0
       have hx:zs[t / k]? = some (zs[t / k]'hd):=List.getElem?_eq_getElem hd
       have h1:=flat_get hk zs (t / k) (t % k) _ hx hj
       have h3:t % k<(enc (zs[t / k]'hd)).length:=by rw [hk];exact hj
       obtain ⟨u,hu,hrep⟩:=hr.rep (t / k) (t % k) ((enc (zs[t / k]'hd)).map D.v) (.v ((enc (zs[t / k]'hd))[t % k]'h3)) (by rw [List.getElem?_map,hx];rfl) (by rw [List.getElem?_map,List.getElem?_eq_getElem h3];rfl)
       rw [show t / k*k+t % k=t by rw [Nat.mul_comm];exact Nat.div_add_mod t k] at h1 hu
       cases hrep
       rw [hu,h1,List.getElem?_eq_getElem h3]
     · rw [List.getElem?_eq_none (by omega),List.getElem?_eq_none (by rw [iQ hk];omega)]
   subst hcs
   refine ⟨b,cap,sp,by rw [hv,List.length_map],hb,by rw [← hl,List.length_append,iQ hk],by rwa [List.length_map] at hle,hc,hF,fun j hj => ?_⟩
   rw [qq hk] at hj ⊢
   have hj':j<(zs.flatMap enc).length:=by simpa using hj
   refine ⟨?_,?_⟩
   · rw [Nat.zero_add,ej hb,List.getElem?_append_left hj',List.getElem?_eq_getElem hj']
     congr 1
     show _=(zs.flatMap enc).toArray[j]!
     rw [getElem!_pos (zs.flatMap enc).toArray j (by simpa using hj')];simp
   · unfold World.frozen?
     rw [hb]
     simp
theorem zi{P:Program}{ρ:Go.Shelf.Ren}(L:SlLaysF0.n6 P ρ)(k0:0<k)(aE:∀ w,(isAgg (ρ.t 24)).run P w=.ok true w)(zE:∀ w,(Go.sizeOf (ρ.t 24)).run P w=.ok k w)(hk:∀ x,(enc x).length=k)(h1:∀ x,∀ v∈enc x,v.oneCell'=true)
   (cf:α→α→Int) (hO:SWO (ltOf cf)) (g:FuncId) (hg:dV P g=true) (hcmp:∀ x y,Con P g [.agg (enc x).toArray,.agg (enc y).toArray] [] [] fun r _ _=>r=.int .i64 (cf x y)) {T:TypeId} {v:Value} (zs:List α) (hz:zs.length<4611686018427387904) :
   Con P (ρ.f 6) [v,.func (.func g) #[] #[]] [] [aO v T k (uY enc zs)] fun _ ps' hp'=>ps'=[]∧∃ q:List α,q.Perm zs∧(q.Pairwise fun a b=>¬ cf b a<0)∧hp'=[aO v T k (uY enc q)]:=fun w S fp hst=>by
 have hr:=hst.res 0 _ rfl
 rcases abv hk k0 hr with ⟨e1,e2⟩ | ⟨b,cap,sp,hv,hb,hl,hle,hc,hF,hH⟩
 · subst e1 e2
   refine (AnyF.slices_SortFunc_none L none 0 (.func (.func g) #[] #[]) w).mono fun e w' ⟨he,hw⟩ => ?_
   have hbl:Go.Sy.Below w.heap.size w w':=by rw [hw];exact .refl _ _
   exact ⟨_,[],_,S,fp,he,⟨rfl,[],List.Perm.refl _,List.Pairwise.nil,rfl⟩,⟨(fun p hp=>by cases hp),(hst.below hbl).res,(hst.below hbl).lt,hst.dj,(hst.below hbl).slt⟩,Evo.of_below _ _ hbl,fun b hb=>.inl hb⟩
 · have hbl:=lt_of_heap hb
   have eg:∀ args w,(callFunc g args).run P w=.ok (.enter g args) w:=j7 hg
   have hlays:CmpLays P g #[] enc k cf b 0 zs.toArray.size w:=fun m os dk _ x y=>by
     have hst0:∀ W:World,St W (fun _=>False) (fun _ _=>False) [] []:=fun W=>⟨fun p hp=>(by cases hp),fun i R hi=>(by simp at hi),fun i hi=>(by simp at hi),fun i j hi=>(by simp at hi),fun b hb=>hb.elim⟩
     refine ((hcmp x y).quiet0 (hst0 (sortWorldK enc k w b 0 m dk os))).mono fun e w' ⟨he,hbw⟩=>⟨he,?_⟩
     obtain ⟨objs,d,rfl⟩:=my hbw.kit
     have hd:=hbw.drawn
     refine ⟨d-(sortWorldK enc k w b 0 m dk os).drawn,objs,?_⟩
     unfold World.ext grow World.drewN
     have hd':(sortWorldK enc k w b 0 m dk os).drawn≤d:=hd
     simp only [World.mk.injEq,true_and,and_true]
     omega
   have hcall:=AnyQ.slices_SortFunc L k aE zE enc hk h1 cf hO g #[] b 0 cap zs.toArray w eg hlays hH hbl (by simpa using hz)
   rw [show zs.toArray.size=zs.length by simp,← hv] at hcall
   refine hcall.mono fun e w' ⟨he,d',n,os,hp,hs,hw⟩ => ?_
   obtain ⟨p1,_,p3⟩:=hp
   have hsz':d'.toList.length=zs.length:=by simpa using p1
   have hperm:d'.toList.Perm zs:=by
     have e1:(d'.extract 0 zs.length).toList=d'.toList:=by
       rw [Array.toList_extract,List.extract_eq_take_drop,List.drop_zero,List.take_of_length_le (by omega)]
     have e2:(zs.toArray.extract 0 zs.length).toList=zs:=by simp
     rw [e1,e2] at p3;exact p3
   have hsort:d'.toList.Pairwise fun a b=>¬ cf b a<0:=by
     rw [List.pairwise_iff_getElem]
     intro i j hi hj hij
     have hi':i<d'.size:=by simpa using hi
     have hj':j<d'.size:=by simpa using hj
     have:=hs i j (Nat.zero_le _) hij (by omega)
     rw [getElem!_pos d' i hi',getElem!_pos d' j hj'] at this
     unfold ltOf at this
     simpa using this
   have hfl:(flatK enc k d')=(d'.toList.flatMap enc).toArray:=qq hk d'
   have hlen':(d'.toList.flatMap enc).length=zs.length*k:=by rw [iQ hk,hsz']
   have hb':w'.heap[b]? = some (.cells (d'.toList.flatMap enc++sp).toArray T (0,0)):=by
     rw [hw]
     show ((w.heap.modify b (onCells (putCells id 0 (flatK enc k d'))))++os)[b]? = _
     rw [Array.getElem?_append_left (by simpa using hbl),Array.getElem?_modify,if_pos rfl,hb,Option.map_some]
     show some (Obj.cells (putCells id 0 (flatK enc k d') (zs.flatMap enc++sp).toArray) T (0,0))=_
     rw [hfl,lI id (d'.toList.flatMap enc) (zs.flatMap enc) sp (by rw [hlen',iQ hk]),List.map_id]
   have hoth:∀ j,j<w.heap.size→j≠b→w'.heap[j]? = w.heap[j]? := fun j hj hne=>by
     rw [hw]
     show ((w.heap.modify b (onCells (putCells id 0 (flatK enc k d'))))++os)[j]? = _
     rw [Array.getElem?_append_left (by simpa using hj),Array.getElem?_modify,if_neg (Ne.symm hne)]
   have hsz:w.heap.size≤w'.heap.size:=by
     rw [hw]
     show _≤((w.heap.modify b (onCells (putCells id 0 (flatK enc k d'))))++os).size
     simp
   have hfb:fp 0 b:=(hF b).2 rfl
   refine ⟨_,[],[aO v T k (uY enc d'.toList)],S,fp,he,⟨rfl,d'.toList,hperm,hsort,rfl⟩,⟨(fun p hp=>by cases hp),fun i R' hi => ?_,fun i hi j hj => ?_,hst.dj,fun j hj=>Nat.lt_of_lt_of_le (hst.slt j hj) hsz⟩,⟨by rw [hw];rfl,by rw [hw];rfl,by rw [hw];rfl,hsz,by rw [hw];exact Nat.le_add_right _ _,fun j hj hx=>hoth j hj fun e=>hx ⟨0,by simp,e ▸ hfb⟩,fun _ h=>h,fun _ h=>.inl h⟩,fun j hj=>.inl hj⟩
   · cases i with
     | succ i=>simp at hi
     | zero =>
       simp only [List.getElem?_cons_zero,Option.some.injEq] at hi
       subst hi
       refine .inr ⟨b,cap,by rw [List.length_map,hsz',hv],⟨d'.toList.flatMap enc,sp,hb',⟨by rw [List.length_map,iQ hk],fun i r hi => ?_,fun u hu => ?_,fun i j r d g1 g2 => ?_⟩,by rw [List.length_append,hlen'];exact hl,by rw [List.length_map,hsz'];exact hle,hc⟩,hF⟩
       · rw [List.getElem?_map,Option.map_eq_some_iff] at hi
         obtain ⟨x,_,rfl⟩:=hi;rw [List.length_map,hk]
       · obtain ⟨x,_,hx⟩:=List.mem_flatMap.1 hu;exact h1 x u hx
       · rw [List.getElem?_map,Option.map_eq_some_iff] at g1
         obtain ⟨x,hx,rfl⟩:=g1
         rw [List.getElem?_map,Option.map_eq_some_iff] at g2
         obtain ⟨u,hu,rfl⟩:=g2
         have hj:j<k:=by rw [← hk x];exact (List.getElem?_eq_some_iff.1 hu).1
         exact ⟨u,by rw [flat_get hk _ i j x hx hj];exact hu,.v u⟩
   · have hi':i<[aO v T k (uY enc zs)].length:=by simpa using hi
     exact ⟨Nat.lt_of_lt_of_le (hst.lt i hi' j hj).1 hsz,(hst.lt i hi' j hj).2⟩
end
def ac2(P:Program)(T:TypeId)(i:Nat):Option Nat:=match P.underlying T with
 | some (.struct fs)=>(match fs[i]? with
   | some f=>if P.plainKey f.type=true then some f.offset else none
   | none=>none)
 | _=>none
theorem abE{P:Program}{n:Fr}{s:Sta}{d:Option Tmp}{ty:TypeId}{pos:String}{af:Array Edge}{gd:Option (Nat × Bool)}{T:TypeId}{i off:Nat}{x:Operand}{xs:Array Value}{v:Value}(hf:ac2 P T i=some off)(hx:ev s.env x=some (true,.agg xs))(hv:xs[off]? = some v) :
   Quiet P n ⟨d,.field T x i,ty,pos,af,gd⟩ s v:=fun w S fp a hst he hn=>by
 have h1:=he.val hx rfl
 unfold ac2 at hf
 cases hu:P.underlying T with
 | none=>rw [hu] at hf;cases hf
 | some t =>
   rw [hu] at hf
   cases t with
   | struct fs =>
     dsimp only at hf
     cases hi:fs[i]? with
     | none=>rw [hi] at hf;cases hf
     | some f =>
       rw [hi] at hf
       dsimp only at hf
       split at hf
       · rename_i hp
         obtain rfl:=Option.some.inj hf
         have:(execOp a.eval ⟨d,.field T x i,ty,pos,af,gd⟩).run P w=.ok (.value v) w:=by
           unfold execOp;dsimp only;rw [h1]
           show ((Instr.field T (.agg xs) i).bind fun r=>Sem.pure (Next.value r)).run P w=_
           have h2:(Instr.field T (.agg xs) i).run P w=.ok v w:=by
             simp only [Instr.field,Sem.run_bind,run_underlying hu,Result.andThen,hi,asAgg,Sem.run_pure]
             exact run_part_plain w hp hv
           rw [Sem.run_bind',h2];rfl
         rw [this];exact cx _ _
       · cases hf
   | _=>cases hf
end Go.Sy

namespace Go.Proofs
open Go.Shelf
def Tryz.sortSp_ren:Go.Shelf.Ren:=⟨fun | 6=>248 | 15=>261 | 14=>301 | 28=>316 | 29=>317 | 20=>331 | 21=>332 | 22=>333 | 23=>334 | 24=>335 | 25=>336 | 26=>337 | 27=>338 | 46=>368 | 47=>351 | 48=>352 | 49=>369 | 50=>370 | 57=>380 | n=>n,fun | 22=>32 | 24=>222 | 25=>351 | 3=>3 | 39=>305 | 0=>0 | 53=>369 | 55=>301 | 4=>4 | 46=>388 | 45=>387 | 50=>65 | 5=>5 | 9=>9 | 66=>417 | 70=>165 | 76=>443 | 77=>444 | n=>n,fun | n=>n⟩
theorem Tryz.sortSp:Go.Proofs.SlLaysF0.n6 Tryz.prog Tryz.sortSp_ren := {
 mixed:=by kernel_rfl
 f6:=⟨Tryz.f248.name,by decide,Tryz.func248.trans (congrArg some (by kernel_rfl))⟩
 f14:=⟨Tryz.f301.name,by decide,Tryz.func301.trans (congrArg some (by kernel_rfl))⟩
 f15:=Tryz.func261.trans (congrArg some (by kernel_rfl))
 f20:=⟨Tryz.f331.name,by decide,Tryz.func331.trans (congrArg some (by kernel_rfl))⟩
 f21:=⟨Tryz.f332.name,by decide,Tryz.func332.trans (congrArg some (by kernel_rfl))⟩
 f22:=⟨Tryz.f333.name,by decide,Tryz.func333.trans (congrArg some (by kernel_rfl))⟩
 f23:=⟨Tryz.f334.name,by decide,Tryz.func334.trans (congrArg some (by kernel_rfl))⟩
 f24:=⟨Tryz.f335.name,by decide,Tryz.func335.trans (congrArg some (by kernel_rfl))⟩
 f25:=⟨Tryz.f336.name,by decide,Tryz.func336.trans (congrArg some (by kernel_rfl))⟩
 f26:=⟨Tryz.f337.name,by decide,Tryz.func337.trans (congrArg some (by kernel_rfl))⟩
 f27:=⟨Tryz.f338.name,by decide,Tryz.func338.trans (congrArg some (by kernel_rfl))⟩
 f28:=Tryz.func316.trans (congrArg some (by kernel_rfl))
 f29:=Tryz.func317.trans (congrArg some (by kernel_rfl))
 f46:=⟨Tryz.f368.name,by decide,Tryz.func368.trans (congrArg some (by kernel_rfl))⟩
 f47:=Tryz.func351.trans (congrArg some (by kernel_rfl))
 f48:=Tryz.func352.trans (congrArg some (by kernel_rfl))
 f49:=⟨Tryz.f369.name,by decide,Tryz.func369.trans (congrArg some (by kernel_rfl))⟩
 f50:=⟨Tryz.f370.name,by decide,Tryz.func370.trans (congrArg some (by kernel_rfl))⟩
 f57:=⟨Tryz.f380.name,by decide,Tryz.func380.trans (congrArg some (by kernel_rfl))⟩
 t0:=Tryz.underlying0
 a0:=Tryz.isAgg0
 z0:=Tryz.sizeOf0
 v0:=Tryz.zeroValue0
 t3:=Tryz.underlying3
 a3:=Tryz.isAgg3
 z3:=Tryz.sizeOf3
 v3:=Tryz.zeroValue3
 t4:=Tryz.underlying4
 a4:=Tryz.isAgg4
 z4:=Tryz.sizeOf4
 v4:=Tryz.zeroValue4
 t5:=Tryz.underlying5
 a5:=Tryz.isAgg5
 z5:=Tryz.sizeOf5
 v5:=Tryz.zeroValue5
 t9:=Tryz.underlying9
 a9:=Tryz.isAgg9
 z9:=Tryz.sizeOf9
 v9:=Tryz.zeroValue9
 t22:=Tryz.underlying32
 a22:=Tryz.isAgg32
 z22:=Tryz.sizeOf32
 v22:=Tryz.zeroValue32
 t25:=Tryz.underlying351
 a25:=Tryz.isAgg351
 z25:=Tryz.sizeOf351
 v25:=Tryz.zeroValue351
 t39:=Tryz.underlying305
 a39:=Tryz.isAgg305
 z39:=Tryz.sizeOf305
 v39:=Tryz.zeroValue305
 t45:=Tryz.underlying387
 a45:=Tryz.isAgg387
 z45:=Tryz.sizeOf387
 v45:=Tryz.zeroValue387
 t46:=Tryz.underlying388
 a46:=Tryz.isAgg388
 z46:=Tryz.sizeOf388
 v46:=Tryz.zeroValue388
 t50:=Tryz.underlying65
 a50:=Tryz.isAgg65
 z50:=Tryz.sizeOf65
 v50:=Tryz.zeroValue65
 t53:=Tryz.underlying369
 a53:=Tryz.isAgg369
 z53:=Tryz.sizeOf369
 v53:=Tryz.zeroValue369
 t55:=Tryz.underlying301
 a55:=Tryz.isAgg301
 z55:=Tryz.sizeOf301
 v55:=Tryz.zeroValue301
 t66:=Tryz.underlying417
 a66:=Tryz.isAgg417
 z66:=Tryz.sizeOf417
 v66:=Tryz.zeroValue417
 t70:=Tryz.underlying165
 a70:=Tryz.isAgg165
 z70:=Tryz.sizeOf165
 v70:=Tryz.zeroValue165
 t76:=Tryz.underlying443
 a76:=Tryz.isAgg443
 z76:=Tryz.sizeOf443
 v76:=Tryz.zeroValue443
 t77:=Tryz.underlying444
 a77:=Tryz.isAgg444
 z77:=Tryz.sizeOf444
 v77:=Tryz.zeroValue444 }
end Go.Proofs

namespace Go.Proofs.YtfkcmbonmpcbfaaGreat
open Go.RowKit Go.Lp Go.Sy Go.Lv Go.Sort
open Go.Proofs.Tryz
attribute [local irreducible] aL aB awp aC fwp Quiet
def uf(a b:bC):Int:=sF a.at_ b.at_
theorem lV(a b:bC):ltOf uf a b=decide (a.at_<b.at_):=by
 unfold ltOf uf
 exact decide_eq_decide.2 (ue _ _)
theorem aaf:SWO (ltOf uf) where
 irrefl x:=by rw [lV,decide_eq_false_iff_not];omega
 trans x y z h1 h2:=by rw [lV,decide_eq_true_eq] at *;omega
 ntrans x y z h1 h2:=by
   rw [lV,decide_eq_false_iff_not] at *
   omega
theorem wh(a b:bC):Con Tryz.prog 249 [a.val,b.val] [] [] fun r _ _=>r=.int .i64 (uf a b):=by
 refine EN2 Tryz.func249 rfl (aSR (LT rfl (cK rfl rfl rfl (fun b0_0=>(aHN ?_)))))
 refine LT rfl (cK rfl rfl rfl (fun b0_1=>(aHN ?_)))
 refine aA rfl (aNn (aSR (UO 0 rfl rfl (UL 0 tk3 rfl rfl rfl rfl (UO 0 rfl rfl (UL 1 tk3 rfl rfl rfl rfl (aU rfl (Q0 rfl (uw _ _)) (aA rfl (aNn (ax (FZ1 [] Tryz.results249 rfl ?_)))))))))))
 rfl
theorem wN(v:Value)(zs:List bC)(hz:zs.length≤1000000):Con Tryz.prog 248 [v,.func (.func 249) #[] #[]] [] [aO v 222 2 (zs.map bC.row)]
   fun _ ps hp=>ps=[]∧∃ q:List bC,q.Perm zs∧(q.Pairwise fun a b=>¬ sF b.at_ a.at_<0)∧hp=[aO v 222 2 (q.map bC.row)] :=
 zi (enc:=bC.vs) Tryz.sortSp (by decide) Tryz.isAgg222 Tryz.sizeOf222 (fun _=>rfl) (fun x v hv=>by simp at hv;rcases hv with rfl | rfl<;>rfl) uf aaf 249 (by kernel_rfl) (fun x y=>wh x y) (T:=222) (v:=v) zs (by omega)
theorem wi(b:Nat)(q:Sl bC)(hf:tS q.l)(hql:q.l.length≤1000000)(i:Nat)(a:bC)(ha:q.l[i]? = some a):Con Tryz.prog 251 [.int .i64 i,a.val,.pointer (some ⟨b,0,none⟩)] [cM (At b 0 [.v (.slice q.ad q.l.length q.cap)]) (ShF bC.row q)] [] fun r _ _=>r=.bool (aay q.l i a):=by
 have hil:=(List.getElem?_eq_some_iff.1 ha).1
 refine EN3 Tryz.func251 rfl (aSR (LT rfl (cK rfl rfl rfl (fun b0_0=>(aHN ?_)))))
 refine aA rfl (aNs (DR [] 21 (VM 0 rfl rfl (bV 1 rfl rfl (cJ rfl rfl) (VM 2 rfl rfl (bW 3 rfl rfl rfl (fun hc=>bg (o:=0) tk32 rfl (Ent.left (.of (aI 0 rfl))) rfl) (bW 4 rfl rfl rfl (fun hc=>aS rfl) ?_)))))))
 refine bW 5 rfl rfl rfl (fun hc=>dp (ae rfl hc) rfl (by (first | omega | (simp at hc;omega)))) ?_
 refine qU 6 rfl (by kernel_rfl) _ rfl rfl (fun hc=>bI Tryz.underlying32 tk222 (ae rfl hc) ((Ent.right (.of (aI 0 rfl)))) (ae rfl hc) (fF (i:=(i:Int)-1) (by omega) (by simp at hc;omega)) ((Int.toNat_of_nonneg (by simp at hc;omega)).symm) rfl) (fun _=>⟨(0,0)⟩) (fun ⟨b1_6,o1_6⟩ => ?_)
 refine bW 7 rfl rfl rfl (fun hc=>qFA (off:=0) (ae rfl hc)) (bW 8 rfl rfl rfl (fun hc=>gz (o:=0) tk3 (ae rfl hc) (aI 0 rfl) hc rfl) (bW 9 rfl rfl rfl (fun hc=>bg (o:=0) tk32 rfl (Ent.left (.of (aI 1 rfl))) rfl) (bW 10 rfl rfl rfl (fun hc=>aS rfl) ?_)))
 refine bW 11 rfl rfl rfl (fun hc=>dp (ae rfl hc) rfl (by (first | omega | (simp at hc;omega)))) ?_
 refine qU 12 rfl (by kernel_rfl) _ rfl rfl (fun hc=>bI Tryz.underlying32 tk222 (ae rfl hc) ((Ent.right (.of (aI 1 rfl)))) (ae rfl hc) (fF (i:=(i:Int)-1) (by omega) (by simp at hc;omega)) ((Int.toNat_of_nonneg (by simp at hc;omega)).symm) rfl) (fun _=>⟨(0,0)⟩) (fun ⟨b1_12,o1_12⟩ => ?_)
 refine bW 13 rfl rfl rfl (fun hc=>qFA (off:=1) (ae rfl hc)) (bW 14 rfl rfl rfl (fun hc=>gz (o:=1) tk3 (ae rfl hc) (aI 0 rfl) hc rfl) ?_)
 refine bW 15 rfl rfl rfl (fun hc=>aX (ae rfl hc) (ae rfl hc) (by (have h9:=hf (elt q.l ((i:Int)-1)) (List.mem_of_getElem? (ku (by omega) (by simp at hc;omega)));omega))) ?_
 refine bW 16 rfl rfl rfl (fun hc=>qFA (off:=0) rfl) (bW 17 rfl rfl rfl (fun hc=>bJ 0 tk3 (ae rfl hc) rfl rfl) (bW 18 rfl rfl rfl (fun hc=>ff (ae rfl hc) (ae rfl hc)) (bV 19 rfl rfl (eu rfl rfl (fun h=>gf rfl h)) (bV 20 rfl rfl (bE rfl) (BN (aj (ax (FZ1 [] Tryz.results251 rfl ?_))))))))
 rfl
theorem rH(l:Sl bC)(hl:l.l.length≤1000000)(hf:tS l.l):Con Tryz.prog 148 [l.val] [ShF bC.row l] [] fun r _ _=>r=.bool (o6 l.l):=by
 have hfl:(l.l.filter gi).length≤1000000:=Nat.le_trans (List.length_filter_le _ _) hl
 refine EN1 Tryz.func148 rfl (aSR (LT rfl (wU ([.slice l.ad l.l.length l.cap]) rfl rfl rfl (fun b0_0=>(aHN ?_)))))
 refine aA rfl (aNn (aSR (UL 0 tk32 rfl rfl rfl rfl (LT rfl (EC [0] [] rfl (uU l hl) ?_)))))
 rintro _ _ _ ⟨rfl,ad1,c1,rfl,rfl⟩
 refine aST ?_
 refine LF rfl (EC [] [1] rfl ((zj _ l.l hl).know (φ:=fun r=>∃ ad cp,r=.slice ad (l.l.filter gi).length cp) (fun v ps' hp' w S fp ⟨_,h2⟩ hst=>by subst h2;have:=fW (hst.res 0 _ rfl);rwa [List.length_map] at this)) ?_)
 rintro _ _ _ ⟨⟨rfl,rfl⟩,ad2,c2,rfl⟩
 refine aST ?_
 refine aD rfl (aF 0 tk32 rfl rfl rfl rfl (aHK ?_))
 refine aNn (aSR (UL 0 tk32 rfl rfl rfl rfl (LF rfl (EC [] [1] rfl (wN _ _ hfl) ?_))))
 rintro _ _ _ ⟨rfl,q,hqp,hqs,rfl⟩
 refine aST ?_
 refine aNs ?_
 rw [← hqp.length_eq]
 refine cB 1 rfl ?_
 have hqf:tS q:=fun s hs=>hf s (List.mem_filter.1 (hqp.mem_iff.1 hs)).1
 refine bS 0 rfl rfl ?_
 show awp _ _ _ _ ⟨_,At _ 0 _::_,_⟩
 refine aa (UD 0 tk32 0 rfl rfl rfl rfl (aU rfl (cF (l:=[.tmp 1]) rfl) ?_))
 refine aU rfl (QC rfl (fun w S fp hst=>(((qY ⟨ad2,c2,q⟩ 251 [.pointer (some ⟨b0_0,0,none⟩)] (cM (At b0_0 0 [.v (.slice ad2 q.length c2)]) (ShF bC.row ⟨ad2,c2,q⟩)) (fun i a=>aay q i a) (by kernel_rfl) (fun i a ha=>wi b0_0 ⟨ad2,c2,q⟩ hqf (by have:=hqp.length_eq;dsimp only;omega) i a ha)).post (fun _ _ _ h=>h.2.2)).pre2 (ps:=[At b0_0 0 [.v (.slice ad2 q.length c2)],ShF bC.row ⟨ad2,c2,q⟩]) (.of (aI 1 rfl)) (Ent.mk2 (.of (aI 0 rfl)) (.of (aI 1 rfl)))).quiet2 (aI 0 rfl) (aI 1 rfl) hst)) ?_
 refine aA rfl (aNn (ax (FZ1 [] Tryz.results148 rfl ?_)))
 exact congrArg Value.bool (uc hqp hqs)
end Go.Proofs.YtfkcmbonmpcbfaaGreat

namespace Go.Proofs.YtfkcmbonmpcbfaaGreat
open Go.RowKit Go.Lp Go.Sy Go.Lv
open Go.Proofs.Tryz
attribute [local irreducible] aL aB awp aC fwp Quiet
theorem kyP:ij Tryz.prog 241 dU:=zD Tryz.underlying241 rfl (by kernel_rfl) Tryz.underlying9
theorem wE(im:az)(b i:Nat)(x:ba)(hx:im.nodes.l[i]? = some x):Con Tryz.prog 145 [.int .i64 i,x.val,.pointer (some ⟨b,0,none⟩)] [cM (At b 0 im.row) im.ok] [] fun r _ _=>r=.bool (jf im x):=by
 refine EN3 Tryz.func145 rfl (fy (ba.f_sec (Ent.all (f:=ba.ok) (az.f_nodesA (Ent.right (.of (aI 0 rfl)))) hx)) (fun hs=>(fy (ba.f_obj (Ent.all (f:=ba.ok) (az.f_nodesA (Ent.right (.of (aI 0 rfl)))) hx)) (fun ho=>(aSR (LT rfl (cK rfl rfl rfl (fun b0_0=>(aHN ?_)))))))))
 refine aA rfl (aNn (aSR (aU rfl (bg (o:=0) tk40 rfl (Ent.left (.of (aI 0 rfl))) rfl) (UL 0 tk153 rfl rfl rfl rfl (aU rfl (Q0 rfl (y7 im x hs ho)) (aA rfl (aNn (ax (FZ1 [] Tryz.results145 rfl ?_)))))))))
 rfl
theorem y9 (im:az) (hS:fV im):Con Tryz.prog 66 [im.val] [im.ok] [] fun r _ _=>r=.bool (kA im):=by
 have hc0:=hS.c0
 have hcd:=hS.cd
 have hdz:=hS.dz
 have hzm:=hS.zm
 refine EN1 Tryz.func66 rfl (aSR (LT rfl (cK rfl rfl rfl (fun b0_0=>(aHN ?_)))))
 refine aA rfl (aNs (ah (bS 0 rfl rfl ?_)))
 show awp _ _ _ _ ⟨_,At _ 0 _::_,_⟩
 refine aa (UO 8 rfl rfl (UD 8 tk23 0 rfl rfl rfl rfl (aU rfl (aZ Tryz.underlying23 rfl) (aU rfl (eA rfl rfl) (aM rfl (GO 12 rfl rfl rfl (aG rfl rfl (fun hc=>bg (o:=12) tk26 (ae rfl hc) (.of (aI 0 rfl)) rfl) (aG rfl rfl (fun hc=>aZ Tryz.underlying26 (ae rfl hc)) (aG rfl rfl (fun hc=>eA (ae rfl hc) rfl) (aU rfl (eu rfl rfl (fun h=>gf rfl h)) (aM rfl (GO 8 rfl rfl rfl (aG rfl rfl (fun hc=>bg (o:=8) tk23 (ae rfl hc) (.of (aI 0 rfl)) rfl) (aG rfl rfl (fun hc=>cF (l:=[.tmp 1]) rfl) (aG rfl rfl (fun hc=>QC (aN (ae rfl hc) (aN (ae rfl hc) rfl)) (fun w S fp hst=>(((ou im.nodes 145 [.pointer (some ⟨b0_0,0,none⟩)] (cM (At b0_0 0 im.row) im.ok) (fun _ x=>jf im x) (by kernel_rfl) (fun i x hx=>wE im b0_0 i x hx)).post (fun _ _ _ h=>h.2.2)).pre2 (ps:=[At b0_0 0 im.row,im.ok]) (az.f_nodes (.of (aI 1 rfl))) (Ent.mk2 (.of (aI 0 rfl)) (.of (aI 1 rfl)))).quiet2 (aI 0 rfl) (aI 1 rfl) hst)) ?_)))))))))))))))
 refine aG rfl rfl (fun hc=>cV (ae rfl hc)) (aU rfl (eu rfl rfl (fun h=>gf rfl h)) (aNn ?_))
 refine ao _ rfl (fun h1 => ?_) (fun h1 => ?_)
 ·skip
  have hh:mC im=true:=h1
  refine aSR (aA rfl (aNn (ax (bB (FZ1 [] Tryz.results66 rfl ?_)))))
  unfold kA;rw [hh];rfl
 ·skip
  have hh:mC im=false:=h1
  have hh2:(im.nodes.l.length≤4096∧im.stubs.l.length≤4096)∧allI (fun _ x=>jf im x) 0 im.nodes.l=true:=by
    unfold mC at hh
    simp only [Bool.or_eq_false_iff,Bool.not_eq_false',decide_eq_false_iff_not] at hh
    exact ⟨⟨by omega,by omega⟩,hh.2⟩
  obtain ⟨⟨hnl,hsl⟩,hall⟩:=hh2
  refine ar (aj (aSR (aA rfl (aA rfl (aNs (cW 222 2 (cW 222 2 ?_)))))))
  show awp _ _ _ _ ⟨_,_,[_,_,_]⟩
  refine aa (LT rfl (gh (dU) (vBo) rfl (fun b4_0=>(aHN ?_))))
  refine aA rfl (aNs (aSR (UO 8 rfl rfl (UD 8 tk23 0 rfl rfl rfl rfl (aU rfl (aZ Tryz.underlying23 rfl) (aM rfl (aNn (aq ?_))))))))
  refine aQ [1,3,4,5,31,32,33] [1,0] [1,2,3] (fun (q:(Nat × (Value × Value)) × (List bC × List bC)) st=>NdI im q.1.1 q.2.1 q.2.2∧st=⟨[(1,true,.pointer (some ⟨b0_0,0,none⟩)),(3,true,q.1.2.1),(4,true,q.1.2.2),(5,true,.map (some b4_0)),(31,true,im.nodes.val),(32,true,.int .i64 im.nodes.l.length),(33,true,.int .i64 q.1.1)],[At b0_0 0 im.row,im.ok],[aO q.1.2.1 222 2 (q.2.1.map bC.row),aO q.1.2.2 222 2 (q.2.2.map bC.row),fv b4_0 dU vBo (fu ((im.nodes.l.take q.1.1).map keyOf))]⟩) (fun q=>im.nodes.l.length-q.1.1) rfl (⟨((0,(.slice none 0 0,.slice none 0 0)),([],[])),NdI.start im,by show _=(⟨_,_,[_,_,fv b4_0 dU vBo (fu [])]⟩:Sta);rw [← qL];rfl⟩) ?_
  rintro ⟨⟨k,mv,bv⟩,mem,blk⟩ st ⟨hI,rfl⟩
  dsimp only at hI ⊢
  have hil:=hI.len
  have hile:=hI.le
  refine aSR (aU rfl (bu rfl rfl) (aNs ?_))
  refine ao _ rfl (fun h2 => ?_) (fun h2 => ?_)
  ·skip
   have hk':k<im.nodes.l.length:=by simpa using h2
   obtain ⟨x,hx⟩:∃ x,im.nodes.l[k]? = some x:=⟨_,List.getElem?_eq_getElem hk'⟩
   have ht1:(im.nodes.l.take (k+1)).map keyOf=(im.nodes.l.take k).map keyOf++[keyOf x]:=by rw [List.take_add_one,hx,List.map_append];rfl
   refine ar (aj (ah (aq (aSR (iJ true rfl rfl (fun _=>bI Tryz.underlying23 tk153 rfl ((az.f_nodes (.of (aI 1 rfl)))) rfl (aK hx) rfl rfl) (fun h=>absurd h (by decide)) (fun ⟨b7_0,o7_0⟩=>(US 0 tk153 0 rfl rfl rfl rfl rfl (LT rfl (bk (zs:=[.string .empty,.string .empty,.int .i64 0,.int .i64 0,.int .i64 0,.string .empty,.string .empty]) (by kernel_rfl) rfl (fun b7_2=>(aHN ?_)))))))))))
   refine aD rfl (aF 3 tk153 rfl rfl rfl rfl (aHK ?_))
   refine aNn (aSR (UO 0 rfl rfl (UL 3 tk9 rfl rfl rfl rfl (UO 1 rfl rfl (UL 3 tk9 rfl rfl rfl rfl (aU rfl (lY (l:=[(0,.tmp 38),(1,.tmp 40)]) (zs:=[.string .empty,.string .empty]) (sz:=1) (m:=2) (by kernel_rfl) (by kernel_rfl) rfl rfl rfl) (LT rfl (bk (zs:=[.string .empty,.string .empty]) (by kernel_rfl) rfl (fun b8_5=>(aHN ?_))))))))))
   refine aD rfl (aF 4 tk241 rfl rfl rfl rfl (aHK ?_))
   refine aNs (aSR (aM rfl (UL 4 tk241 rfl rfl rfl rfl (aU rfl (lZ (k:=(x.obj,x.sec)) (v0:=false) 2 Tryz.underlying240 (kyP) (by kernel_rfl) rfl rfl rfl) (aNn ?_)))))
   refine ao _ rfl (fun h3 => ?_) (fun h3 => ?_)
   ·skip
    have hdup:keyOf x∈(im.nodes.l.take k).map keyOf:=yq.1 h3
    refine aSR (aA rfl (aNn (ax (bB (dr (bB (bB (dr (bB (FZ1 [] Tryz.results66 rfl (congrArg Value.bool (Eq.symm ?_))))))))))))
    unfold kA
    rw [decide_eq_false (NdI.dup hx hdup),Bool.false_and,Bool.and_false]
   ·skip
    have hdup:keyOf x ∉ (im.nodes.l.take k).map keyOf:=fun hm=>by rw [yq.2 hm] at h3;cases h3
    have hst1:=hI.step hx hdup
    refine ar (aj (aSR (aM rfl (UL 4 tk241 rfl rfl rfl rfl (aD rfl (fg (k:=(x.obj,x.sec)) (v:=true) 2 Tryz.underlying240 (kyP) rfl rfl rfl rfl (aHK ?_)))))))
    refine aNn (aSR (UO 3 rfl rfl (UL 3 tk3 rfl rfl rfl rfl (UO 4 rfl rfl (UL 3 tk3 rfl rfl rfl rfl (aU rfl (eb (l:=[(0,.tmp 48),(1,.tmp 50)]) (zs:=[.int .i64 0,.int .i64 0]) (pl:=[(0,1),(1,1)]) (by kernel_rfl) (by kernel_rfl) (by kernel_rfl) rfl rfl rfl) (LT rfl (bk (zs:=[.int .i64 0,.int .i64 0]) (by kernel_rfl) rfl (fun b12_5=>(aHN ?_))))))))))
    refine aD rfl (aF 5 tk222 rfl rfl rfl rfl (aHK ?_))
    refine aNn (aSR (UO 2 rfl rfl (UL 3 tk3 rfl rfl rfl rfl (aU rfl (Q0 rfl (rL _)) (aNn ?_)))))
    refine ao _ rfl (fun h4 => ?_) (fun h4 => ?_)
    ·skip
     rw [if_pos h4,if_pos h4] at hst1
     refine aa (aM rfl (UL 5 tk222 rfl rfl rfl rfl (LT rfl (WL (zs:=[.int .i64 0,.int .i64 0]) el32 rfl rfl rfl (.more rfl (.v rfl (.v rfl .nil)) .nil) rfl rfl (fun v14_2=>(aHN ?_))))))
     refine aD rfl (cj 0 el32 rfl rfl rfl rfl (cY 6 el32 rfl (by simp)) (by first | assumption | simp) (by rw [List.length_map];show mem.length+1≤_;omega) (mem.length+1) (by rw [List.length_map];rfl) (fun v14_3 c14_3 => ?_))
     refine aHK ?_
     refine aA rfl (bj (bp (aj (aa (aU rfl (aX rfl rfl (by omega)) (aM rfl (aNn ?_)))))))
     refine ⟨[1,3,4,5,31,32,33],[1,0],[0,1,2],rfl,?_⟩
     refine ⟨((k+1,(.slice v14_3 (mem.length+1) c14_3,bv)),(mem++[iW x],blk)),⟨hst1,?_⟩,by dsimp only;omega⟩
     show _=(⟨_,_,[aO (.slice v14_3 (mem.length+1) c14_3) 222 2 ((mem++[iW x]).map bC.row),_,fv b4_0 dU vBo (fu ((im.nodes.l.take (k+1)).map keyOf))]⟩:Sta)
     rw [ht1,hY,List.map_append];rfl
    ·skip
     rw [if_neg (by rw [h4];decide),if_neg (by rw [h4];decide)] at hst1
     refine aa (aM rfl (UL 5 tk222 rfl rfl rfl rfl (LT rfl (WL (zs:=[.int .i64 0,.int .i64 0]) el32 rfl rfl rfl (.more rfl (.v rfl (.v rfl .nil)) .nil) rfl rfl (fun v15_2=>(aHN ?_))))))
     refine aD rfl (cj 1 el32 rfl rfl rfl rfl (cY 6 el32 rfl (by simp)) (by first | assumption | simp) (by rw [List.length_map];show blk.length+1≤_;omega) (blk.length+1) (by rw [List.length_map];rfl) (fun v15_3 c15_3 => ?_))
     refine aHK ?_
     refine aA rfl (bj (bp (aj (aa (aU rfl (aX rfl rfl (by omega)) (aM rfl (aNn ?_)))))))
     refine ⟨[1,3,4,5,31,32,33],[1,0],[0,1,2],rfl,?_⟩
     refine ⟨((k+1,(mv,.slice v15_3 (blk.length+1) c15_3)),(mem,blk++[iW x])),⟨hst1,?_⟩,by dsimp only;omega⟩
     show _=(⟨_,_,[_,aO (.slice v15_3 (blk.length+1) c15_3) 222 2 ((blk++[iW x]).map bC.row),fv b4_0 dU vBo (fu ((im.nodes.l.take (k+1)).map keyOf))]⟩:Sta)
     rw [ht1,hY,List.map_append];rfl
  ·skip
   have hkn:k=im.nodes.l.length:=by simp at h2;omega
   have hmN:mem=rn im.nodes.l:=by have:=hI.m;rwa [hkn,List.take_length] at this
   have hbN:blk=ua im.nodes.l:=by have:=hI.b;rwa [hkn,List.take_length] at this
   have hnd:(im.nodes.l.map keyOf).Nodup:=by have:=hI.nd;rwa [hkn,List.take_length] at this
   refine aT (aW (aW (aY (aj (ah (aSR (UO 12 rfl rfl (UD 12 tk26 0 rfl rfl rfl rfl (aU rfl (aZ Tryz.underlying26 rfl) (aM rfl (aNn (aq ?_))))))))))))
   refine aQ [1,3,4,65,66,67] [1,0] [0,1] (fun (q:Nat × (Value × List bC)) st=>(q.1≤im.stubs.l.length∧q.2.2=rn im.nodes.l++(im.stubs.l.take q.1).map vR∧∀ i s,i<q.1→im.stubs.l[i]? = some s→lJ im i s=true)∧st=⟨[(1,true,.pointer (some ⟨b0_0,0,none⟩)),(3,true,q.2.1),(4,true,bv),(65,true,im.stubs.val),(66,true,.int .i64 im.stubs.l.length),(67,true,.int .i64 q.1)],[At b0_0 0 im.row,im.ok],[aO q.2.1 222 2 (q.2.2.map bC.row),aO bv 222 2 (blk.map bC.row)]⟩) (fun q=>im.stubs.l.length-q.1) rfl (⟨(0,(mv,mem)),⟨Nat.zero_le _,by simp [hmN],fun i s h=>absurd h (Nat.not_lt_zero _)⟩,rfl⟩) ?_
   rintro ⟨j,mv2,mem2⟩ st ⟨⟨hj,hm2,hpre⟩,rfl⟩
   dsimp only at hj hm2 hpre ⊢
   have hm2l:mem2.length≤8192:=by rw [hm2,← hmN,List.length_append,List.length_map,List.length_take];omega
   refine aSR (aU rfl (bu rfl rfl) (aNs ?_))
   refine ao _ rfl (fun h5 => ?_) (fun h5 => ?_)
   ·skip
    have hj':j<im.stubs.l.length:=by simpa using h5
    obtain ⟨s,hs⟩:∃ s,im.stubs.l[j]? = some s:=⟨_,List.getElem?_eq_getElem hj'⟩
    refine ar (aj (ah (aq (aSR (aM rfl (iJ true rfl rfl (fun _=>bI Tryz.underlying26 tk3 rfl ((az.f_stubs (.of (aI 1 rfl)))) rfl (aK hs) rfl rfl) (fun h=>absurd h (by decide)) (fun ⟨b19_1,o19_1⟩=>(US 0 tk3 0 rfl rfl rfl rfl rfl (aA rfl (aA rfl (aNs (aSR (UD 0 tk40 1 rfl rfl rfl rfl (aM rfl (aU rfl (Q0 rfl (con_instr im ⟨hc0,by omega⟩ s)) ?_)))))))))))))))
    refine aU rfl (cV rfl) (aM rfl (aG rfl rfl (fun hc=>aS rfl) (aG rfl rfl (fun hc=>eA (ae rfl hc) rfl) (aG rfl rfl (fun hc=>aS (ae rfl hc)) (GO 12 rfl rfl rfl (aG rfl rfl (fun hc=>bg (o:=12) tk26 (ae rfl hc) (.of (aI 1 rfl)) rfl) (aG rfl rfl (fun hc=>aS rfl) ?_)))))))
    refine aG rfl rfl (fun hc=>dp (ae rfl hc) rfl (by (first | omega | (simp at hc;omega)))) ?_
    refine iJ _ rfl rfl (fun hc=>bI Tryz.underlying26 tk3 (ae rfl hc) ((az.f_stubs (.of (aI 2 rfl)))) (ae rfl hc) (fF (i:=(j:Int)-1) (by omega) (by simp at hc;omega)) ((Int.toNat_of_nonneg (by simp at hc;omega)).symm) rfl) (fun _=>⟨(0,0)⟩) (fun ⟨b20_12,o20_12⟩ => ?_)
    refine aG rfl rfl (fun hc=>gz (o:=0) tk3 (ae rfl hc) (aI 0 rfl) hc rfl) (aG rfl rfl (fun hc=>aS rfl) (aG rfl rfl (fun hc=>fi (ae rfl hc) (ae rfl hc)) (aG rfl rfl (fun hc=>bo (ae rfl hc) rfl (fun h=>gt hc h)) (aU rfl (eu rfl rfl (fun h=>gf rfl h)) (aNn ?_)))))
    refine ao _ rfl (fun h6 => ?_) (fun h6 => ?_)
    ·skip
     have hsb:lJ im j s=false:=by unfold lJ;rw [Bool.not_eq_false'];exact h6
     refine aSR (aA rfl (aNn (ax (bB (dr (bB (bB (dr (bB (FZ1 [] Tryz.results66 rfl (congrArg Value.bool (Eq.symm ?_))))))))))))
     have hf:allI (lJ im) 0 im.stubs.l=false:=by
       cases h:allI (lJ im) 0 im.stubs.l with
       | false=>rfl
       | true=>have:=jo.1 h j s hs;rw [Nat.zero_add,hsb] at this;cases this
     unfold kA
     rw [hf,Bool.false_and,Bool.and_false,Bool.and_false]
    ·skip
     have hsb:lJ im j s=true:=by unfold lJ;rw [Bool.not_eq_true'];exact h6
     refine ar (aj (aa (aM rfl (aM rfl (aU rfl (eb (l:=[(0,.tmp 91),(1,.const (.int .i64 8))]) (zs:=[.int .i64 0,.int .i64 0]) (pl:=[(0,1),(1,1)]) (by kernel_rfl) (by kernel_rfl) (by kernel_rfl) rfl rfl rfl) (LT rfl (WL (zs:=[.int .i64 0,.int .i64 0]) el32 rfl rfl rfl (.more rfl (.v rfl (.v rfl .nil)) .nil) rfl rfl (fun v22_3=>(aHN ?_)))))))))
     refine aD rfl (cj 0 el32 rfl rfl rfl rfl (cY 2 el32 rfl (by simp)) (by first | assumption | simp) (by rw [List.length_map];show mem2.length+1≤_;omega) (mem2.length+1) (by rw [List.length_map];rfl) (fun v22_4 c22_4 => ?_))
     refine aHK ?_
     refine aA rfl (bj (bp (aj (aa (aU rfl (aX rfl rfl (by omega)) (aM rfl (aNn ?_)))))))
     refine ⟨[1,3,4,65,66,67],[1,0],[0,1],rfl,?_⟩
     refine ⟨(j+1,(.slice v22_4 (mem2.length+1) c22_4,mem2++[vR s])),⟨⟨hj',?_,fun i t hi ht => ?_⟩,?_⟩,by dsimp only;omega⟩
     · dsimp only;rw [hm2,List.append_assoc,List.take_add_one,hs,List.map_append];rfl
     · rcases Nat.lt_or_ge i j with h | h
       · exact hpre i t h ht
       · obtain rfl:i=j:=by dsimp only at hi;omega
         rw [hs] at ht;obtain rfl:=Option.some.inj ht;exact hsb
     · show _=(⟨_,_,[aO (.slice v22_4 (mem2.length+1) c22_4) 222 2 ((mem2++[vR s]).map bC.row),_]⟩:Sta)
       rw [List.map_append];rfl
   ·skip
    have hjn:j=im.stubs.l.length:=by simp at h5;omega
    have hstubs:allI (lJ im) 0 im.stubs.l=true:=jo.2 fun i t ht=>by rw [Nat.zero_add];exact hpre i t (by rw [hjn];exact (List.getElem?_eq_some_iff.1 ht).1) ht
    have hm3:mem2=rn im.nodes.l++im.stubs.l.map vR:=by rw [hm2,hjn,List.take_length]
    have hfM:tS mem2:=fun t ht=>by
      rw [hm3] at ht
      rcases List.mem_append.1 ht with h | h
      · exact rY hall h
      · obtain ⟨z,hz,rfl⟩:=List.mem_map.1 h
        obtain ⟨i,hi⟩:=List.mem_iff_getElem?.1 hz
        have:=jo.1 hstubs i z hi
        unfold lJ instrB at this
        simp only [Bool.not_eq_true',Bool.or_eq_false_iff,Bool.not_eq_false',Bool.and_eq_true,mi] at this
        have h9:=this.1.1
        exact ⟨⟨h9.1,by show z≤_;omega⟩,by show 0≤(8:Int)∧(8:Int)≤1048576;decide⟩
    have hfB:tS blk:=fun t ht=>by rw [hbN] at ht;exact rY hall ht
    refine aT (aW (aW (aY (aj (ah (fH 0 rfl (fun w S F hh=>fW hh) (fun hov => ?_)))))))
    obtain ⟨mad,mcp,rfl⟩:=hov
    refine fH 1 rfl (fun w S F hh=>fW hh) (fun hov => ?_)
    obtain ⟨bad,bcp,rfl⟩:=hov
    rw [List.length_map,List.length_map]
    refine cB 0 rfl (cB 1 rfl (aa (aM rfl ?_)))
    refine aU rfl (Q1 rfl (rH ⟨mad,mcp,mem2⟩ (by dsimp only;omega) hfM) 1 rfl) ?_
    refine aM rfl (aG rfl rfl (fun hc=>aS rfl) ?_)
    refine aG rfl rfl (fun hc=>Q1 (aN (ae rfl hc) rfl) (rH ⟨bad,bcp,blk⟩ (by dsimp only;omega) hfB) 0 rfl) ?_
    refine aU rfl (bo rfl rfl (fun h=>gt rfl h)) (aA rfl (aNn (ax (FZ1 [] Tryz.results66 rfl (congrArg Value.bool ?_)))))
    unfold kA
    rw [hh,decide_eq_true hnd,hstubs,← hm3,← hbN];rfl
end Go.Proofs.YtfkcmbonmpcbfaaGreat

namespace Go.Proofs.YtfkcmbonmpcbfaaGreat
open Go.RowKit Go.Lp Go.Sy Go.Lv
def xX(im:az)(x:bA):Int:=if x.kind=2 then im.block else im.zero
def aep(y x:bA):Int:=if wg y.name x.name≠0 then wg y.name x.name else wg y.version x.version
def kx(im:az)(i:Nat)(x:bA):Bool:=decide ((i:Int)>0) && decide (aep (elt im.exports.l ((i:Int)-1)) x≥0)
def oS(x:bA):Bool:=x.main || decide (x.version=⟨#[]⟩)
def aea(im:az)(x:bA):Bool:=(((fj x.name && mB x.version) && il x.kind 0 2) && decide (x.size≥0)) && il x.at_ 0 (xX im x)
def wX(im:az)(s:List ByteArray)(i:Nat)(x:bA):Bool × List ByteArray :=
 if kx im i x=true then (false,s) else if oS x=true then (if (fu s x.name).getD false=true then (false,s) else (aea im x,s++[x.name])) else (aea im x,s)
def qo(im:az):Bool:=decide ((im.exports.l.length:Int)≤4096) && (fQ (wX im) [] 0 im.exports.l).1
abbrev ads(x:bK):ByteArray × ByteArray:=(x.name,x.version)
abbrev mL(im:az)(i:Nat):Int:=elt im.slots.l (i:Int)
def wZ(im:az)(st:List (ByteArray × ByteArray) × List Int)(i:Nat)(x:bK):Bool :=
 (fu st.1 (ads x)).getD false || ((!decide (mL im i = -1)) && (((fu st.2 (mL im i)).getD false || !il (mL im i) im.code (im.data-8)) || !decide ((mL im i).tmod 8=0)))
def aer(x:bK):Bool:=(fj x.name && mB x.version) && il x.kind 0 2
def w6(im:az)(st:List (ByteArray × ByteArray) × List Int)(i:Nat)(x:bK):Bool × (List (ByteArray × ByteArray) × List Int) :=
 if wZ im st i x=true then (false,st) else (aer x,(st.1++[ads x],st.2++[mL im i]))
def vd(im:az):Bool:=decide ((im.imports.l.length:Int)>4096) || !decide ((im.slots.l.length:Int)=im.imports.l.length)
def iR(im:az):Bool:=if vd im=true then false else (fQ (w6 im) ([],[]) 0 im.imports.l).1
def qe(im:az)(e:Int)(x:fb):Bool:=((!il x.kind 0 7) || (!il x.at_ e (im.data-ea x.kind))) || (!il x.import_ (-1) (im.imports.l.length-1))
def tb(im:az)(x:fb):Bool:=decide (x.import_<0) || (!decide (elt im.slots.l x.import_=x.at_))
def ia(im:az)(st:Int × Int)(_:Nat)(x:fb):Bool × (Int × Int) :=
 if qe im st.1 x=true then (false,st) else
 if x.kind=3 then (if tb im x=true then (false,st) else (true,(x.at_+ea x.kind,st.2+1))) else
 if (x.kind=5∨x.kind=6∨x.kind=7)∧x.import_<0 then (false,st) else (true,(x.at_+ea x.kind,st.2))
def mM(l:List Int):Int:=((l.filter fun s => !decide (s = -1)).length:Nat)
def mr(im:az):Bool:=(fQ (ia im) (0,0) 0 im.dyns.l).1 && decide ((fQ (ia im) (0,0) 0 im.dyns.l).2.2-mM im.slots.l=0)
theorem wT{im:az}{e:Int}{x:fb}(h:qe im e x=false):(0≤x.kind∧x.kind≤7)∧(e≤x.at_∧x.at_≤im.data-ea x.kind)∧(-1≤x.import_∧x.import_≤im.imports.l.length-1):=by
 unfold qe at h
 simp only [Bool.or_eq_false_iff,Bool.not_eq_false',mi] at h
 exact ⟨h.1.1,h.1.2,h.2⟩
theorem zB(k:Int):ea k=4∨ea k=8:=by unfold ea;split<;>simp
theorem xu(l:List Int)(s:Int):mM (l++[s])=if s = -1 then mM l else mM l+1:=by
 unfold mM
 rw [List.filter_append]
 by_cases h:s = -1
 · rw [if_pos h];simp [h]
 · rw [if_neg h];simp [h]
theorem vQ(l:List Int):0≤mM l∧mM l≤l.length:=by
 unfold mM
 have:=List.length_filter_le (fun s:Int => !decide (s = -1)) l
 omega
end Go.Proofs.YtfkcmbonmpcbfaaGreat

namespace Go.Sy
open Go.RowKit Go.Lp
theorem aas{P:Program}{n:Fr}{ops:Array Oper}{Q:Exit→Sta→Prop}{env:Env}{ps:List Per}{hp:List Res}{rest:List Oper}(i:Nat)(h:aL P n ops Q rest ⟨env,ps,hp.set i emp⟩):aL P n ops Q rest ⟨env,ps,hp⟩:=fun w S fp a hst he hn hd=>by
 have hX:∀ b,tot (fun k=>if k=i then (fun _=>False) else fp k) (hp.set i emp).length b→tot fp hp.length b:=fun b ⟨k,hk,hb⟩=>by
   dsimp only at hb
   by_cases e:k=i
   · rw [if_pos e] at hb;exact hb.elim
   · rw [if_neg e] at hb;exact ⟨k,by simpa using hk,hb⟩
 exact fN (fun e a' w' hp'=>hp'.trans (Evo.refl _ _ _) fun b hb=>.inl (hX b hb)) _ _ _ (h w S _ a (hst.drop i) he hn hd)
theorem ru{P:Program}{n:Fr}{ops:Array Oper}{Q:Exit→Sta→Prop}{env:Env}{ps:List Per}{hp:List Res}{ty:TypeId}{pos:String}{af:Array Edge}{gd:Option (Nat × Bool)}{rest:List Oper}{t:Nat}{f:FuncId}{g:Operand}{caps:List Value}{l:List Operand}{ts:Array TypeId}{vs:List Value}{v:Value}(lp:List Nat)(i:Nat)(hf:dV P f=true)(c:Bool)(hc:guardOf ops env ⟨some t,.call ⟨.value g,l.toArray,ts⟩,ty,pos,af,gd⟩=some c)(ht:fits n.size (some t)=true)(hi:i<hp.length)
   (hgv:c=true→ev env g=some (true,.func (.func f) #[] caps.toArray)) (hx:c=true→evs env l=some vs) (hcon:c=true→Con P f (vs++caps) (fD ps lp) (cO hp [i]) fun r ps' hp'=>ps'=[]∧hp'=[]∧r=v)
   (h:aL P n ops Q rest ⟨(t,c,v)::env,ps,hp.set i emp⟩):aL P n ops Q (⟨some t,.call ⟨.value g,l.toArray,ts⟩,ty,pos,af,gd⟩::rest) ⟨env,ps,hp⟩:=by
 cases c with
 | true =>
   refine aD (q:=false) hc (fK lp [i] hf (hgv rfl) (hx rfl) ht (by simp [okH,hi]) rfl (hcon rfl) ?_)
   rintro _ _ _ ⟨rfl,rfl,rfl⟩
   refine dS ?_ h
   apply List.ext_getElem?;intro j;rw [iV,List.getElem?_set,Nat.zero_add]
   by_cases hj:j<hp.length
   · rw [if_pos hj]
     by_cases e:i=j
     · subst e;rw [if_pos rfl,if_pos hj];simp [place]
     · rw [if_neg e];simp [place,e]
   · rw [if_neg hj,if_neg (by omega),List.getElem?_eq_none (by simp),List.getElem?_eq_none (by omega)]
 | false=>exact ke (v:=v) false hc ht (fun h=>by cases h) (aas i h)
theorem acg{P:Program}{f:FuncId}{args:List Value}{ps:List Per}{l:List Res}{R:Value→List Per→List Res→Prop}(h:Con P f args ps l R):Con P f args ps [Bun l] fun v ps' hp'=>∃ l',hp'=[Bun l']∧R v ps' l':=fun w S fp hst=>by
 obtain ⟨fp2,k1,k2⟩:=hst.unbun
 refine (h w S fp2 k1).mono fun e w' ⟨v,ps',hp',S',fp',he,hR,hst',hE,hg⟩ => ?_
 exact ⟨v,ps',[Bun hp'],S',_,he,⟨hp',rfl,hR⟩,hst'.bun,hE.wider k2,fun b hb=>(hg b ((tL _ b (Bun hp')).1 hb)).imp (k2 b) id⟩
end Go.Sy

