/- Parts of the proof, in build order. No condition. -/
import Derived.Test.YtfkcmbonmpcbfaaGreatTb06
import Derived.Test.YtfkcmbonmpcbfaaGreatTb08
import Derived.DeepKeys3
import Derived.Test.YtfkcmbonmpcbfaaGreatTb07
import Derived.Test.YtfkcmbonmpcbfaaGreatTb04
import Derived.Test.YtfkcmbonmpcbfaaGreatTb05
import Derived.Lib.Zigzag
import Derived.Lib.EndianBits
import Derived.Lib.Varint
set_option linter.unusedSimpArgs false
set_option linter.unusedVariables false
set_option maxHeartbeats 1000000
set_option maxRecDepth 20000
namespace Go.Sy
open Go.RowKit Go.Lp
theorem Ent.mk2{ps:List Per}{p q:Per}(h1:Ent ps p)(h2:Ent ps q):Ent ps (b7 p q):=fun w S hp=>⟨h1 w S hp,h2 w S hp⟩
def Bun(l:List Res):Res :=
 ⟨fun w S F=>∃ fp:Nat→aT,(∀ (i:Nat) (R:Res),l[i]? = some R→R.holds w S (fp i))∧(∀ i j,i<l.length→j<l.length→i≠j→∀ b,fp i b→¬ fp j b)∧∀ b,F b↔tot fp l.length b,
  fun ⟨fp,h1,h2,h3⟩ k1 k2 k3=>⟨fp,fun i R hR=>R.mono (h1 i R hR) (fun b hb=>k1 b ((h3 b).2 ⟨i,(List.getElem?_eq_some_iff.1 hR).1,hb⟩)) k2 k3,h2,h3⟩⟩
section
variable {w:World} {S:aT} {fp:Nat→aT} {ps:List Per} {l:List Res}
theorem St.bun(h:St w S fp ps l):St w S (fun _=>tot fp l.length) ps [Bun l] where
 per:=h.per
 res i R hR:=by
   cases i with
   | zero=>simp only [List.getElem?_cons_zero,Option.some.injEq] at hR;subst hR;exact ⟨fp,h.res,h.dj,fun _=>Iff.rfl⟩
   | succ i=>simp at hR
 lt i hi b hb:=let ⟨j,hj,hjb⟩:=hb;h.lt j hj b hjb
 dj i j hi hj hne:=by simp only [List.length_singleton] at hi hj;omega
 slt:=h.slt
theorem St.unbun(h:St w S fp ps [Bun l]):∃ fp',St w S fp' ps l∧∀ b,tot fp' l.length b→tot fp [Bun l].length b:=by
 obtain ⟨fp',h1,h2,h3⟩:=h.res 0 _ rfl
 have hin:∀ b,tot fp' l.length b→fp 0 b:=fun b hb=>(h3 b).2 hb
 exact ⟨fp',⟨h.per,h1,fun i hi b hb=>h.lt 0 (by simp) b (hin b ⟨i,hi,hb⟩),h2,h.slt⟩,fun b hb=>⟨0,by simp,hin b hb⟩⟩
theorem mM(F:aT)(b:Nat)(R:Res):tot (fun _=>F) [R].length b↔F b:=⟨fun ⟨_,_,h⟩=>h,fun h=>⟨0,by simp,h⟩⟩
variable {P:Program} {R:Value→List Per→List Res→Prop}
theorem abe{f:FuncId}{args:List Value}(h:Con P f args ps [Bun l] fun v ps' hp'=>∃ l',hp'=[Bun l']∧R v ps' l'):Con P f args ps l R:=fun w S fp hst =>
 (h w S _ hst.bun).mono fun e w' ⟨v,ps',hp',S',fp',he,⟨l',hl,hR⟩,hst',hE,hg⟩=>by
   subst hl
   obtain ⟨fp2,k1,k2⟩:=hst'.unbun
   exact ⟨v,ps',l',S',fp2,he,hR,k1,hE.wider (fun b hb=>(mM _ b (Bun l)).1 hb),fun b hb=>(hg b (k2 b hb)).imp (fun h=>(mM _ b (Bun l)).1 h) id⟩
theorem sP{k:Nat}{args:List Value}(h:kY P k args ps l R):kY P k args ps [Bun l] fun v ps' hp'=>∃ l',hp'=[Bun l']∧R v ps' l':=fun w S fp hst=>by
 obtain ⟨fp2,k1,k2⟩:=hst.unbun
 refine bC (fun v w' ⟨ps',hp',S',fp',hR,hst',hE,hg⟩ => ?_) (h w S fp2 k1)
 exact ⟨ps',[Bun hp'],S',_,⟨hp',rfl,hR⟩,hst'.bun,hE.wider k2,fun b hb=>(hg b ((mM _ b (Bun hp')).1 hb)).imp (k2 b) id⟩
theorem kY.post{k:Nat}{args:List Value}{R':Value→List Per→List Res→Prop}(h:kY P k args ps l R)(hr:∀ v ps' hp',R v ps' hp'→R' v ps' hp'):kY P k args ps l R':=fun w S fp hst =>
 bC (fun v w' ⟨ps',hp',S',fp',hR,h⟩=>⟨ps',hp',S',fp',hr _ _ _ hR,h⟩) (h w S fp hst)
theorem Con.post{f:FuncId}{args:List Value}{R':Value→List Per→List Res→Prop}(h:Con P f args ps l R)(hr:∀ v ps' hp',R v ps' hp'→R' v ps' hp'):Con P f args ps l R':=fun w S fp hst =>
 (h w S fp hst).mono fun e w' ⟨v,ps',hp',S',fp',he,hR,h⟩=>⟨v,ps',hp',S',fp',he,hr _ _ _ hR,h⟩
theorem Con.pre{f:FuncId}{args:List Value}{ps0:List Per}(h:Con P f args ps l R)(hr:∀ p∈ps,Ent ps0 p):Con P f args ps0 l R:=fun w S fp hst =>
 h w S fp ⟨fun p hp=>hr p hp w S hst.per,hst.res,hst.lt,hst.dj,hst.slt⟩
end
section
variable {P:Program} {n:Fr} {ops:Array Oper} {Q:Exit→Sta→Prop} {s:Sta} {o:Oper}
end
end Go.Sy

namespace Go.Sy
open Go.RowKit Go.Lp Go.MapKept
section
variable {α β:Type} {κ:α→Value} {ν:β→Value} {m:α→Option β} {P:Program} {kt:TypeId} {n:Fr} {env:Env} {ps:List Per} {hp:List Res} {ty:TypeId} {pos:String} {af:Array Edge} {gd:Option (Nat × Bool)} {d:Option Tmp}
end
section
variable {α β:Type} {κ:α→Value} {ν:β→Value} {m:α→Option β} {P:Program} {kt:TypeId} {n:Fr} {env:Env} {ps:List Per} {hp:List Res} {ty:TypeId} {pos:String} {af:Array Edge} {gd:Option (Nat × Bool)} {K:Sta→Prop} {d:Option Tmp}
theorem Quiet.castV{s:Sta}{o:Oper}{v v':Value}(h:Quiet P n o s v)(e:v=v'):Quiet P n o s v':=e ▸ h
end
section
variable {P:Program}
def cU(k:ByteArray × ByteArray):Value:=.agg #[.string k.1,.string k.2]
theorem qg(a b:ByteArray × ByteArray)(h:cU a=cU b):a=b:=by
 unfold cU at h
 injection h with h
 simp at h
 exact Prod.ext h.1 h.2
theorem ma(d:Nat)(t:TypeId)(a b:ByteArray)(w:World)(h:P.underlying t=some .string):(Op.equalIn (d+1) t (.string a) (.string b)).run P w=.ok (decide (a=b)) w:=by
 have:(a == b)=decide (a=b):=by rw [Bool.eq_iff_iff,bytes_beq,decide_eq_true_eq]
 simp [Op.equalIn,run_underlying h,this]
theorem kM{e:TypeId}(he:P.underlying e=some .string){xs:Array Value}{off:Nat}{v:Value}(hx:xs[off]? = some v)(w:World):(part e xs off).run P w=.ok v w :=
 run_part_plain w (by unfold Program.plainKey;rw [he]) hx
theorem yt{kt:TypeId}(hwide:(match P.underlying kt with | some (.array _ _) | some (.struct _)=>true | _=>false)=true)(heq:∀ (w:World) (a b:ByteArray × ByteArray),(Op.equal kt (cU a) (cU b)).run P w=.ok (decide (a=b)) w)(w:World)(x:ByteArray × ByteArray)(es:List MapEntry)(hes:∀ e∈es,∃ a,e.key=cU a) :
   ((Instr.findKey kt (cU x) es).run P w=.ok none w∧∀ e∈es,e.key≠cU x)∨∃ j e,(Instr.findKey kt (cU x) es).run P w=.ok (some (j,e.val)) w∧es[j]? = some e∧e.key=cU x:=by
 have key:∀ (es:List MapEntry) (i:Nat),(∀ e∈es,∃ a,e.key=cU a) →
     ((Instr.findAsking kt (cU x) es i).run P w=.ok none w∧∀ e∈es,e.key≠cU x)∨∃ j e,(Instr.findAsking kt (cU x) es i).run P w=.ok (some (i+j,e.val)) w∧es[j]? = some e∧e.key=cU x:=by
   intro es
   induction es with
   | nil=>intro i _;exact .inl ⟨by simp [Instr.findAsking],fun e he=>by cases he⟩
   | cons e es ih =>
     intro i hall
     obtain ⟨a,ha⟩:=hall e List.mem_cons_self
     have hr:=heq w x a
     by_cases hxa:x=a
     · refine .inr ⟨0,e,?_,rfl,by rw [ha,hxa]⟩
       rw [decide_eq_true hxa] at hr
       simp [Instr.findAsking,ha,hr]
     · rw [decide_eq_false hxa] at hr
       rcases ih (i+1) (fun y hy=>hall y (List.mem_cons_of_mem _ hy)) with ⟨h1,h2⟩ | ⟨j,e',h1,h2,h3⟩
       · refine .inl ⟨by simp [Instr.findAsking,ha,hr,h1],fun y hy => ?_⟩
         rcases List.mem_cons.1 hy with rfl | hy
         · rw [ha];exact fun hh=>hxa (qg _ _ hh).symm
         · exact h2 y hy
       · exact .inr ⟨j+1,e',by simp [Instr.findAsking,ha,hr,h1,Nat.add_assoc,Nat.add_comm 1 j],by simpa using h2,h3⟩
 rw [run_findKey_eq w hwide]
 rcases key es 0 hes with h | ⟨j,e,h1,h2,h3⟩
 · exact .inl h
 · exact .inr ⟨j,e,by simpa using h1,h2,h3⟩
theorem vt(w:World)(a:ByteArray × ByteArray):(Instr.keyThatStays (cU a) (cU a)).run P w=.ok (cU a) w:=by
 have:Instr.sameBits 10000 (cU a) (cU a)=true:=by simp [cU,Instr.sameBits,bytes_beq]
 simp [Instr.keyThatStays,this]
theorem xk(em:Bool)(m:Nat){e:TypeId}(he:P.underlying e=some .string)(v:ByteArray)(w:World):(Instr.checkKey em (m+1) e (.string v)).run P w=.ok () w:=by simp [Instr.checkKey,run_underlying he]
theorem tp{kt e:TypeId}{i:TypeInfo}(hu:P.underlying kt=some (.array 2 e))(hi:P.info? e=some i)(hc:P.cellsOf e=1)(he:P.underlying e=some .string)(w:World)(em:Bool)(m:Nat)(a:ByteArray × ByteArray):(Instr.checkKey em (m+1+1) kt (cU a)).run P w=.ok () w:=by
 have h1:(part e #[Value.string a.1,Value.string a.2] 0).run P w=.ok (.string a.1) w:=kM he rfl w
 have h2:(part e #[Value.string a.1,Value.string a.2] 1).run P w=.ok (.string a.2) w:=kM he rfl w
 unfold cU Instr.checkKey
 simp only [Sem.run_bind,run_underlying hu,Result.andThen_ok]
 simp only [Std.Legacy.Range.forIn_eq_forIn_range',Std.Legacy.Range.size]
 simp [List.range',run_sizeOf w hi,hc,h1,h2,xk em m he]
theorem aaw{kt e:TypeId}{i:TypeInfo}(hu:P.underlying kt=some (.array 2 e))(hi:P.info? e=some i)(hc:P.cellsOf e=1)(he:P.underlying e=some .string)(w:World)(m:Nat)(a b:ByteArray × ByteArray):(Op.equalIn (m+1+1) kt (cU a) (cU b)).run P w=.ok (decide (a=b)) w:=by
 have h1:∀ x y:ByteArray,(part e #[Value.string x,Value.string y] 0).run P w=.ok (.string x) w:=fun x y=>kM he rfl w
 have h2:∀ x y:ByteArray,(part e #[Value.string x,Value.string y] 1).run P w=.ok (.string y) w:=fun x y=>kM he rfl w
 unfold cU
 rw [run_equalIn_array w (m+1) _ _ hu hi,hc]
 simp only [List.range_succ,List.range_zero,List.nil_append,List.cons_append,Op.eqItems,Sem.run_bind,Nat.zero_mul,Nat.one_mul,h1,h2,Result.andThen_ok,ma m e _ _ w he]
 by_cases e1:a.1=b.1<;>by_cases e2:a.2=b.2<;>simp [e1,e2,h2,ma m e _ _ w he,Prod.ext_iff]
theorem aaa{kt e:TypeId}{i:TypeInfo}(hu:P.underlying kt=some (.array 2 e))(hi:P.info? e=some i)(hc:P.cellsOf e=1)(he:P.underlying e=some .string):ef P kt cU where
 inj:=qg
 check w em a:=tp hu hi hc he w em 9998 a
 find:=yt (by rw [hu]) fun w a b=>aaw hu hi hc he w 9998 a b
 stays:=vt
theorem ye{kt e:TypeId}(hu:P.underlying kt=some (.array 2 e))(hi:(P.info? e).isSome=true)(hc:P.cellsOf e=1)(he:P.underlying e=some .string):ef P kt cU :=
 let ⟨_,h⟩:=Option.isSome_iff_exists.1 hi
 aaa hu h hc he
end
end Go.Sy

namespace Go.Sy
open Go.RowKit Go.Lp
abbrev eI(z:Int):Value:=.int .i64 z
def gH(s:ByteArray):Value:=.string s
def vBo(b:Bool):Value:=.bool b
def ee{α:Type}[DecidableEq α](l:List α):α→Option Bool:=fun a=>if a∈l then some true else none
theorem oI{α:Type}[DecidableEq α]:(fun _:α=>(none:Option Bool))=ee []:=by funext a;simp [ee]
theorem fL{α:Type}[DecidableEq α](l:List α)(a:α):ee (l++[a])=aZ (ee l) a true:=by
 funext b;unfold ee aZ
 by_cases h:b=a
 · subst h;simp
 · by_cases hb:b∈l<;>simp [h,hb]
theorem tO{α:Type}[DecidableEq α](l:List α)(a:α):(ee l a).getD false=decide (a∈l):=by
 unfold ee;by_cases h:a∈l<;>simp [h]
end Go.Sy

namespace Go.Lv
structure Ar where
 at_:Int
 size:Int
 kind:Int
 owner:Int
 mod:Int
deriving DecidableEq
instance:Inhabited Ar:=⟨⟨0,0,0,0,0⟩⟩
def dK(a:Ar):Bool:=decide (256≤a.at_) && decide (a.at_<1099511627776) && decide (a.at_ % 256=0) && decide (1≤a.size) && decide (a.size≤1048576) && decide (a.at_+a.size≤1099511627776) && decide (0≤a.kind) && decide (a.kind<5)
theorem b8{a:Ar} : dK a=true↔256≤a.at_∧a.at_<1099511627776∧a.at_ % 256=0∧1≤a.size∧a.size≤1048576∧a.at_+a.size≤1099511627776∧0≤a.kind∧a.kind<5:=by
 simp only [dK,Bool.and_eq_true,decide_eq_true_eq,and_assoc]
def holds(at_ size:Int)(a:Ar):Bool:=decide (a.at_≤at_) && decide (at_<a.at_+a.size) && decide (size≤a.at_+a.size-at_)
abbrev Cell:=Ar × List UInt8
abbrev Mem:=List Cell
structure dI (M:Mem):Prop where
 right:∀ x∈M,dK x.1=true
 asc:M.Pairwise fun x y=>x.1.at_+x.1.size≤y.1.at_
 len:∀ x∈M,(x.2.length:Int)=x.1.size
theorem dI.lt{M:Mem}(h:dI M){i j:Nat}{x y:Cell}(hi:M[i]? = some x)(hj:M[j]? = some y)(hij:i<j):x.1.at_+x.1.size≤y.1.at_:=by
 obtain ⟨h1,rfl⟩:=List.getElem?_eq_some_iff.1 hi
 obtain ⟨h2,rfl⟩:=List.getElem?_eq_some_iff.1 hj
 exact List.pairwise_iff_getElem.1 h.asc i j h1 h2 hij
theorem dI.ok{M:Mem}(h:dI M){i:Nat}{x:Cell}(hi:M[i]? = some x):256≤x.1.at_∧x.1.at_<1099511627776∧x.1.at_ % 256=0∧1≤x.1.size∧x.1.size≤1048576∧x.1.at_+x.1.size≤1099511627776∧0≤x.1.kind∧x.1.kind<5:=b8.1 (h.right x (List.mem_of_getElem? hi))
theorem dI.nil:dI []:=⟨fun _ h=>(by cases h),List.Pairwise.nil,fun _ h=>(by cases h)⟩
theorem dI.sub{M N:Mem}(h:dI M)(hs:N.Sublist M):dI N:=⟨fun q hq=>h.right q (hs.subset hq),h.asc.sublist hs,fun q hq=>h.len q (hs.subset hq)⟩
structure LoM (M:Mem) (t:Int) (k:Nat):Prop where
 le:k≤M.length
 lo:∀ (i:Nat) (x:Cell),i<k→M[i]? = some x→x.1.at_<t
 hi:∀ (i:Nat) (x:Cell),k≤i→M[i]? = some x→t≤x.1.at_
theorem dI.mono{M:Mem}(h:dI M){i j:Nat}{x y:Cell}(hi:M[i]? = some x)(hj:M[j]? = some y)(hij:i≤j):x.1.at_≤y.1.at_:=by
 rcases Nat.lt_or_ge i j with h1 | h1
 · have:=h.lt hi hj h1;have:=h.ok hi;omega
 · obtain rfl:i=j:=by omega
   rw [hi] at hj;obtain rfl:=Option.some.inj hj;exact Int.le_refl _
def j0(M:Mem)(t:Int)(k:Nat):Bool:=match M[k]? with
 | some x=>decide (x.1.at_=t)
 | none=>false
def dP(M:Mem)(at_ size:Int):Option Cell:=M.find? fun x=>holds at_ size x.1
theorem wy{M:Mem}(h:dI M){at_ size:Int}{j:Nat}{x:Cell}(hx:M[j]? = some x)(h1:x.1.at_≤at_)(h2:∀ (i:Nat) (y:Cell),j<i→M[i]? = some y→at_<y.1.at_) :
   dP M at_ size=if holds at_ size x.1=true then some x else none:=by
 have hno:∀ y∈M,holds at_ size y.1=true→y=x:=fun y hy hh=>by
   obtain ⟨i,hi,rfl⟩:=List.getElem_of_mem hy
   have hy':M[i]? = some M[i]:=List.getElem?_eq_getElem hi
   simp only [holds,Bool.and_eq_true,decide_eq_true_eq] at hh
   rcases Nat.lt_trichotomy i j with hlt | rfl | hlt
   · have:=h.lt hy' hx hlt;omega
   · rw [hy'] at hx;exact Option.some.inj hx
   · have:=h2 i _ hlt hy';omega
 unfold dP
 by_cases hh:holds at_ size x.1=true
 · rw [if_pos hh]
   cases hf:M.find? fun x=>holds at_ size x.1 with
   | none=>exact absurd hh (List.find?_eq_none.1 hf x (List.mem_of_getElem? hx))
   | some y=>rw [hno y (List.mem_of_find?_eq_some hf) (List.find?_some (p:=fun x:Cell=>holds at_ size x.1) hf)]
 · rw [if_neg hh,List.find?_eq_none]
   intro y hy hb
   exact hh (hno y hy hb ▸ hb)
theorem xY{M:Mem}{at_ size:Int}(h:∀ (i:Nat) (y:Cell),M[i]? = some y→at_<y.1.at_):dP M at_ size=none:=by
 unfold dP
 rw [List.find?_eq_none]
 intro y hy hb
 obtain ⟨i,hi⟩:=List.mem_iff_getElem?.1 hy
 have:=h i y hi
 simp only [holds,Bool.and_eq_true,decide_eq_true_eq] at hb
 omega
theorem dI.locate{M:Mem}(h:dI M){t size:Int}{k:Nat}(hk:LoM M t k) :
   (∀ x,M[k]? = some x→x.1.at_=t→dP M t size=if holds t size x.1=true then some x else none) ∧
   (j0 M t k=false→(k=0→dP M t size=none)∧(∀ j x,k=j+1→M[j]? = some x→x.1.at_<t∧dP M t size=if holds t size x.1=true then some x else none)):=by
 refine ⟨fun x hx he=>wy h hx (by omega) fun i y hi hy => ?_,fun hno => ?_⟩
 · have:=h.lt hx hy hi;have:=h.ok hx;omega
 · have hgt:∀ (i:Nat) (y:Cell),k≤i→M[i]? = some y→t<y.1.at_:=fun i y hi hy=>by
     have hkl:k<M.length:=Nat.lt_of_le_of_lt hi (List.getElem?_eq_some_iff.1 hy).1
     have hz:M[k]? = some M[k]:=List.getElem?_eq_getElem hkl
     have h1:=hk.hi k _ (Nat.le_refl _) hz
     have h2:=h.mono hz hy hi
     unfold j0 at hno
     rw [hz] at hno
     simp only [decide_eq_false_iff_not] at hno
     omega
   refine ⟨fun h0=>xY fun i y hy=>hgt i y (by omega) hy,fun j x hj hx => ?_⟩
   have h1:=hk.lo j x (by omega) hx
   exact ⟨h1,wy h hx (by omega) fun i y hi hy=>hgt i y (by omega) hy⟩
theorem zY{at_ size:Int}{a:Ar}(h:a.at_≤at_):holds at_ size a=(decide (at_-a.at_<a.size) && decide (size≤a.size-(at_-a.at_))):=by
 unfold holds
 rw [Bool.eq_iff_iff]
 simp only [Bool.and_eq_true,decide_eq_true_eq]
 omega
theorem dI.hit{M:Mem}(h:dI M){t:Int}{k:Nat}(hk:LoM M t k):j0 M t k=M.any fun x=>decide (x.1.at_=t):=by
 rw [Bool.eq_iff_iff,List.any_eq_true]
 unfold j0
 constructor
 · intro hh
   split at hh
   · rename_i x hx;exact ⟨x,List.mem_of_getElem? hx,hh⟩
   · cases hh
 · rintro ⟨x,hx,he⟩
   obtain ⟨i,hi⟩:=List.mem_iff_getElem?.1 hx
   simp only [decide_eq_true_eq] at he
   have hki:k≤i:=Nat.le_of_not_lt fun hlt=>by have:=hk.lo i x hlt hi;omega
   have hkl:k<M.length:=Nat.lt_of_le_of_lt hki (List.getElem?_eq_some_iff.1 hi).1
   have hz:M[k]? = some M[k]:=List.getElem?_eq_getElem hkl
   have h1:=hk.hi k _ (Nat.le_refl _) hz
   have h2:=h.mono hz hi hki
   rw [hz]
   simp only [decide_eq_true_eq]
   omega
def oW(M:Mem)(t:Int)(bs:List UInt8):Mem:=M.map fun x=>if x.1.at_=t then (x.1,bs) else x
def fo(l:List UInt8)(o:Nat)(b:List UInt8):List UInt8:=l.take o++b++l.drop (o+b.length)
theorem ji{l b:List UInt8}{o:Nat}(h:o+b.length≤l.length):(fo l o b).length=l.length:=by unfold fo;simp;omega
def rng(x:Cell)(at_ size:Int):List UInt8:=(x.2.drop (at_-x.1.at_).toNat).take size.toNat
def abu(n:Int)(k:Nat):UInt8:=UInt8.ofNat ((n / 256 ^ k) % 256).toNat
def ot(n:Int)(k:Nat):List UInt8:=(List.range k).map (abu n)
def acf(M:Mem)(at_ size:Int):Int:=if size≠1∧size≠8 then 1 else if size=8∧at_ % 8≠0 then 6 else if dP M at_ size=none then 6 else 0
def gL(M:Mem)(at_ size n:Int):Mem × Int :=
 if acf M at_ size≠0 then (M,acf M at_ size) else match dP M at_ size with
   | some x=>if x.1.kind=0 then (M,5) else (oW M x.1.at_ (fo x.2 (at_-x.1.at_).toNat (ot n size.toNat)),0)
   | none=>(M,6)
def jg(M:Mem)(at_ size:Int):List UInt8 × Int :=
 if size<0 then ([],1) else if size=0 then ([],0) else match dP M at_ size with
   | some x=>(rng x at_ size,0)
   | none=>([],6)
def df(M:Mem)(at_:Int)(b:List UInt8):Mem × Int :=
 if b=[] then (M,0) else match dP M at_ b.length with
   | some x=>(oW M x.1.at_ (fo x.2 (at_-x.1.at_).toNat b),0)
   | none=>(M,6)
def meets(a:Ar)(x:Cell):Bool:=decide (x.1.at_<a.at_+a.size) && decide (a.at_<x.1.at_+x.1.size)
def mapM(M:Mem)(a:Ar):Mem × Int :=
 if dK a=false then (M,1) else if M.any (meets a) then (M,4) else if 4096≤M.length then (M,7) else
   (M.filter (fun x=>decide (x.1.at_<a.at_))++[(a,List.replicate a.size.toNat 0)]++M.filter (fun x => !decide (x.1.at_<a.at_)),0)
def eS(M:Mem)(at_:Int):Mem × Int :=
 if M.any (fun x=>decide (x.1.at_=at_)) then (M.filter (fun x => !decide (x.1.at_=at_)),0) else (M,9)
theorem gn{M:Mem}{at_ size:Int}{x:Cell}(h:dP M at_ size=some x):x∈M∧x.1.at_≤at_∧at_<x.1.at_+x.1.size∧size≤x.1.at_+x.1.size-at_:=by
 have h1:=List.mem_of_find?_eq_some h
 have h2:=List.find?_some (p:=fun x:Cell=>holds at_ size x.1) h
 simp only [holds,Bool.and_eq_true,decide_eq_true_eq] at h2
 exact ⟨h1,h2.1.1,h2.1.2,h2.2⟩
theorem dI.cut{M:Mem}{t:Int}{k:Nat}(hk:LoM M t k):M.filter (fun x=>decide (x.1.at_<t))=M.take k∧M.filter (fun x => !decide (x.1.at_<t))=M.drop k:=by
 have e:M=M.take k++M.drop k:=(List.take_append_drop k M).symm
 have h1:∀ x∈M.take k,x.1.at_<t:=fun x hx=>by
   obtain ⟨i,hi⟩:=List.mem_iff_getElem?.1 hx
   rw [List.getElem?_take] at hi
   split at hi
   · exact hk.lo i x (by assumption) hi
   · cases hi
 have h2:∀ x∈M.drop k,¬ x.1.at_<t:=fun x hx=>by
   obtain ⟨i,hi⟩:=List.mem_iff_getElem?.1 hx
   rw [List.getElem?_drop] at hi
   have:=hk.hi (k+i) x (by omega) hi;omega
 constructor
 · conv=>lhs;rw [e]
   rw [List.filter_append,List.filter_eq_self.2 (fun x hx=>decide_eq_true (h1 x hx)),List.filter_eq_nil_iff.2 (fun x hx=>by simpa using h2 x hx),List.append_nil]
 · conv=>lhs;rw [e]
   rw [List.filter_append,List.filter_eq_nil_iff.2 (fun x hx=>by simpa using h1 x hx),List.filter_eq_self.2 (fun x hx=>by simpa using h2 x hx),List.nil_append]
theorem dI.meet{M:Mem}(h:dI M){a:Ar}(ha:1≤a.size){k:Nat}(hk:LoM M a.at_ k) :
   M.any (meets a)=true↔(j0 M a.at_ k=true∨(∃ x,M[k]? = some x∧x.1.at_<a.at_+a.size)∨∃ j x,k=j+1∧M[j]? = some x∧a.at_<x.1.at_+x.1.size):=by
 rw [List.any_eq_true]
 constructor
 · rintro ⟨x,hx,hm⟩
   simp only [meets,Bool.and_eq_true,decide_eq_true_eq] at hm
   obtain ⟨i,hi⟩:=List.mem_iff_getElem?.1 hx
   rcases Nat.lt_or_ge i k with hlt | hge
   · obtain ⟨j,rfl⟩:∃ j,k=j+1:=⟨k-1,by omega⟩
     have hjl:j<M.length:=by have:=hk.le;omega
     have hz:M[j]? = some M[j]:=List.getElem?_eq_getElem hjl
     refine .inr (.inr ⟨j,_,rfl,hz,?_⟩)
     rcases Nat.lt_or_ge i j with h1 | h1
     · have:=h.lt hi hz h1;have:=hk.lo j _ (by omega) hz;omega
     · obtain rfl:i=j:=by omega
       rw [hz] at hi;rw [Option.some.inj hi];exact hm.2
   · have hkl:k<M.length:=Nat.lt_of_le_of_lt hge (List.getElem?_eq_some_iff.1 hi).1
     have hz:M[k]? = some M[k]:=List.getElem?_eq_getElem hkl
     have:=h.mono hz hi hge
     exact .inr (.inl ⟨_,hz,by omega⟩)
 · intro hh
   have hok:∀ (i:Nat) (x:Cell),M[i]? = some x→x.1.at_<a.at_+a.size→a.at_<x.1.at_+x.1.size→∃ x,x∈M∧meets a x=true:=fun i x hi h1 h2 =>
     ⟨x,List.mem_of_getElem? hi,by simp only [meets,Bool.and_eq_true,decide_eq_true_eq];exact ⟨h1,h2⟩⟩
   rcases hh with hh | ⟨x,hx,h1⟩ | ⟨j,x,rfl,hx,h1⟩
   · unfold j0 at hh
     split at hh
     · rename_i x hx
       simp only [decide_eq_true_eq] at hh
       have:=h.ok hx
       exact hok k x hx (by omega) (by omega)
     · cases hh
   · have:=hk.hi k x (Nat.le_refl _) hx;have:=h.ok hx
     exact hok k x hx h1 (by omega)
   · have:=hk.lo j x (by omega) hx
     exact hok j x hx (by omega) h1
theorem dI.put{M:Mem}(h:dI M){a:Ar}(hr:dK a=true){k:Nat}(hk:LoM M a.at_ k)(hm:¬ M.any (meets a)=true):dI (M.take k++[(a,List.replicate a.size.toNat 0)]++M.drop k):=by
 have hA:=b8.1 hr
 have hm2:∀ x∈M,¬ (x.1.at_<a.at_+a.size∧a.at_<x.1.at_+x.1.size):=fun x hx hh=>hm (List.any_eq_true.2 ⟨x,hx,by simp only [meets,Bool.and_eq_true,decide_eq_true_eq];exact hh⟩)
 have h1:∀ x∈M.take k,x.1.at_+x.1.size≤a.at_:=fun x hx=>by
   obtain ⟨i,hi⟩:=List.mem_iff_getElem?.1 hx
   rw [List.getElem?_take] at hi
   split at hi
   · have:=hk.lo i x (by assumption) hi
     have:=hm2 x (List.mem_of_mem_take hx);omega
   · cases hi
 have h2:∀ x∈M.drop k,a.at_+a.size≤x.1.at_:=fun x hx=>by
   have hxM:=List.mem_of_mem_drop hx
   have hx2:=b8.1 (h.right x hxM)
   obtain ⟨i,hi⟩:=List.mem_iff_getElem?.1 hx
   rw [List.getElem?_drop] at hi
   have:=hk.hi (k+i) x (by omega) hi
   have:=hm2 x hxM;omega
 have hsub:=h.asc
 refine ⟨fun x hx => ?_,?_,fun x hx => ?_⟩
 · rw [List.mem_append,List.mem_append,List.mem_singleton] at hx
   rcases hx with (hx | rfl) | hx
   · exact h.right x (List.mem_of_mem_take hx)
   · exact hr
   · exact h.right x (List.mem_of_mem_drop hx)
 · rw [List.append_assoc,List.pairwise_append,List.singleton_append,List.pairwise_cons]
   refine ⟨hsub.sublist (List.take_sublist _ _),⟨h2,hsub.sublist (List.drop_sublist _ _)⟩,fun x hx y hy => ?_⟩
   rcases List.mem_cons.1 hy with rfl | hy
   · exact h1 x hx
   · have:=h1 x hx;have:=h2 y hy;show x.1.at_+x.1.size≤y.1.at_;omega
 · rw [List.mem_append,List.mem_append,List.mem_singleton] at hx
   rcases hx with (hx | rfl) | hx
   · exact h.len x (List.mem_of_mem_take hx)
   · simp only [List.length_replicate];omega
   · exact h.len x (List.mem_of_mem_drop hx)
theorem aa0{M:Mem}(h:dI M){x:Cell}(hx:x∈M){bs:List UInt8}(hb:bs.length=x.2.length):dI (oW M x.1.at_ bs):=by
 have key:∀ y∈M,(if y.1.at_=x.1.at_ then (y.1,bs) else y).1=y.1:=fun y _=>by split<;>rfl
 refine ⟨fun z hz => ?_,?_,fun z hz => ?_⟩
 · obtain ⟨y,hy,rfl⟩:=List.mem_map.1 hz
   rw [key y hy];exact h.right y hy
 · unfold oW
   rw [List.pairwise_map]
   exact h.asc.imp_of_mem fun hx hy hh=>by rw [key _ hx,key _ hy];exact hh
 · obtain ⟨y,hy,rfl⟩:=List.mem_map.1 hz
   split
   · rename_i e
     obtain ⟨i,hi⟩:=List.mem_iff_getElem?.1 hx
     obtain ⟨j,hj⟩:=List.mem_iff_getElem?.1 hy
     have hxy:y=x:=by
       rcases Nat.lt_trichotomy i j with hlt | rfl | hlt
       · have:=h.lt hi hj hlt;have:=h.ok hi;omega
       · rw [hi] at hj;exact (Option.some.inj hj).symm
       · have:=h.lt hj hi hlt;have:=h.ok hj;omega
     rw [hxy];show (bs.length:Int)=_
     rw [hb];exact h.len x hx
   · exact h.len y hy
theorem abR{M:Mem}(h:dI M){k:Nat}{x:Cell}(hx:M[k]? = some x)(bs:List UInt8):oW M x.1.at_ bs=M.set k (x.1,bs):=by
 apply List.ext_getElem?
 intro i
 unfold oW
 rw [List.getElem?_map,List.getElem?_set]
 by_cases hik:k=i
 · subst hik
   rw [if_pos rfl,if_pos (List.getElem?_eq_some_iff.1 hx).1,hx];simp
 · rw [if_neg hik]
   cases hi:M[i]? with
   | none=>rfl
   | some y =>
     have hne:y.1.at_≠x.1.at_:=fun e=>by
       rcases Nat.lt_or_gt_of_ne hik with hlt | hlt
       · have:=h.lt hx hi hlt;have:=h.ok hx;omega
       · have:=h.lt hi hx hlt;have:=h.ok hi;omega
     simp [hne]
theorem aaY{M:Mem}(h:dI M){k:Nat}{x:Cell}(hx:M[k]? = some x):M.filter (fun y => !decide (y.1.at_=x.1.at_))=M.take k++M.drop (k+1):=by
 have hkl:=(List.getElem?_eq_some_iff.1 hx).1
 have e:M=M.take k++x::M.drop (k+1):=by
   conv=>lhs;rw [← List.take_append_drop k M]
   rw [List.drop_eq_getElem_cons hkl,(List.getElem?_eq_some_iff.1 hx).2]
 have h1:∀ y∈M.take k,y.1.at_≠x.1.at_:=fun y hy=>by
   obtain ⟨i,hi⟩:=List.mem_iff_getElem?.1 hy
   rw [List.getElem?_take] at hi
   split at hi
   · have:=h.lt hi hx (by assumption);have:=h.ok hi;omega
   · cases hi
 have h2:∀ y∈M.drop (k+1),y.1.at_≠x.1.at_:=fun y hy=>by
   obtain ⟨i,hi⟩:=List.mem_iff_getElem?.1 hy
   rw [List.getElem?_drop] at hi
   have:=h.lt hx hi (by omega);have:=h.ok hx;omega
 conv=>lhs;rw [e]
 rw [List.filter_append,List.filter_cons_of_neg (by simp),List.filter_eq_self.2 (fun y hy=>by simpa using h1 y hy),List.filter_eq_self.2 (fun y hy=>by simpa using h2 y hy)]
end Go.Lv

namespace Go.Sy
open Go.RowKit Go.Lp
section
variable {P:Program} {f:FuncId} {args:List Value} {ps:List Per} {X Y:Type} {I:X→Prop} {I':Y→Prop} {l:X→List Res} {l':Y→List Res}
end
def StE(ps:List Per)(hp:List Res)(ps':List Per)(hp':List Res):Prop:=∀ w S fp,St w S fp ps hp→∃ S' fp',St w S' fp' ps' hp'∧(∀ b,S b→S' b)∧(∀ b,S' b→S b∨tot fp hp.length b)∧∀ b,tot fp' hp'.length b→tot fp hp.length b
section
variable {ps ps1 ps2:List Per} {hp hp1 hp2:List Res}
theorem StE.trans(h:StE ps hp ps1 hp1)(k:StE ps1 hp1 ps2 hp2):StE ps hp ps2 hp2:=fun w S fp hst=>by
 obtain ⟨S1,f1,a1,a2,a3,a4⟩:=h w S fp hst
 obtain ⟨S2,f2,b1,b2,b3,b4⟩:=k w S1 f1 a1
 exact ⟨S2,f2,b1,fun b hb=>b2 b (a2 b hb),fun b hb=>(b3 b hb).elim (a3 b) fun h=>.inr (a4 b h),fun b hb=>a4 b (b4 b hb)⟩
theorem StE.of{hp':List Res}{ps':List Per}(h:∀ w S fp,St w S fp ps hp→∃ fp',St w S fp' ps' hp'∧∀ b,tot fp' hp'.length b→tot fp hp.length b):StE ps hp ps' hp':=fun w S fp hst=>by
 obtain ⟨f1,a1,a2⟩:=h w S fp hst
 exact ⟨S,f1,a1,fun _ h=>h,fun _ h=>.inl h,a2⟩
theorem StE.keep(lp lh:List Nat)(ok:okH hp lh=true):StE ps hp (dE ps lp) (bA hp lh):=.of fun _ _ _ hst=>by
 obtain ⟨h1,h2⟩:=hst.bA lp lh ok
 exact ⟨_,h1,h2⟩
theorem StE.conv(i:Nat){R:Res}(R':Res)(hi:hp[i]? = some R)(hc:∀ w S F,R.holds w S F→R'.holds w S F):StE ps hp ps (hp.set i R'):=.of fun w S fp hst=>by
 have hil:=(List.getElem?_eq_some_iff.1 hi).1
 exact ⟨fp,hst.change hil (Nat.le_refl _) (fun _ _ _=>rfl) R' (hc _ _ _ (hst.res i R hi)),fun b hb=>by rwa [List.length_set] at hb⟩
theorem StE.star(i j:Nat){R R':Res}(hi:hp[i]? = some R)(hj:hp[j]? = some R')(hne:(i == j)=false):StE ps hp ps ((hp.set i (dM R R')).set j emp):=.of fun w S fp hst=>by
 have hil:=(List.getElem?_eq_some_iff.1 hi).1
 have hjl:=(List.getElem?_eq_some_iff.1 hj).1
 refine ⟨_,hst.star hi hj (by simpa using hne),fun b ⟨k,hk,hb⟩ => ?_⟩
 have hk':k<hp.length:=by simpa using hk
 by_cases hki:k=i
 · subst hki
   simp only [if_pos] at hb
   rcases hb with hb | hb
   · exact ⟨k,hil,hb⟩
   · exact ⟨j,hjl,hb⟩
 · by_cases hkj:k=j
   · have hji:¬ j=i:=fun e=>by simp [e] at hne
     subst hkj
     simp only [if_neg hki,if_true] at hb
   · simp only [if_neg hki,if_neg hkj] at hb
     exact ⟨k,hk',hb⟩
variable {P:Program} {f:FuncId} {args:List Value} {R R':Value→List Per→List Res→Prop}
theorem Con.conv(h:Con P f args ps hp R)(hr:∀ v ps' hp',R v ps' hp'→∃ ps2 hp2,StE ps' hp' ps2 hp2∧R' v ps2 hp2):Con P f args ps hp R':=fun w S fp hst =>
 (h w S fp hst).mono fun e w' ⟨v,ps',hp',S',fp',he,hR,hst',hE,hg⟩=>by
   obtain ⟨ps2,hp2,hS,hR'⟩:=hr _ _ _ hR
   obtain ⟨S2,f2,a1,a2,a3,a4⟩:=hS w' S' fp' hst'
   refine ⟨v,ps2,hp2,S2,f2,he,hR',a1,⟨hE.os,hE.tape,hE.output,hE.size,hE.drawn,hE.block,fun b hb=>a2 b (hE.more b hb),fun b hb => ?_⟩,fun b hb=>hg b (a4 b hb)⟩
   rcases a3 b hb with h1 | h1
   · exact hE.new b h1
   · rcases hg b h1 with h2 | h2
     · exact .inr (.inl h2)
     · exact .inr (.inr h2)
end
end Go.Sy

namespace Go.Proofs.YtfkcmbonmpcbfaaGreat
open Go.RowKit Go.Lp Go.Sy Go.Lv
open Go.Proofs.Tryz
attribute [local irreducible] aL aB awp aC fwp Quiet
abbrev kI(z:Int):Value:=.int .i64 z
abbrev vI(z:Int):Value:=.int .i64 z
theorem keI:ef Tryz.prog 3 kI:=z8 Tryz.underlying3
theorem lG:ef Tryz.prog 133 cj:=aab (e:=3) Tryz.underlying133 (by kernel_rfl) (by kernel_rfl) Tryz.underlying3
structure dw {α β:Type} (m:α→Option β) (l:List α):Prop where
 nd:l.Nodup
 iff:∀ k,k∈l↔(m k).isSome=true
theorem lR{α β:Type}{κ:α→Value}{ν:β→Value}{m:α→Option β}{b r N:Nat}{seen:List α}{ps:List Per}{A:Res} : StE ps [A,ItR b r κ ν m N seen] ps [A,cN b κ ν m]:=by
 refine (StE.conv 1 (dM (cN b κ ν m) ⟨fun _ _ F=>∀ k,F k↔k=r,fun h _ _ _=>h⟩) rfl (fun w S F h=>acx h)).trans ?_
 refine StE.trans (ps1:=ps) (hp1:=[A,cN b κ ν m,⟨fun _ _ F=>∀ k,F k↔k=r,fun h _ _ _=>h⟩]) (.of fun w S fp hst => ?_) ?_
 · obtain ⟨f2,a1,a2⟩:=hst.split (i:=1) rfl
   exact ⟨f2,a1,a2⟩
 · have:=StE.keep (ps:=ps) (hp:=[A,cN b κ ν m,⟨fun _ _ F=>∀ k,F k↔k=r,fun h _ _ _=>h⟩]) (List.range ps.length).reverse [0,1] rfl
   have e1:dE ps (List.range ps.length).reverse=ps:=by
     have jF:∀ {α:Type} (l:List α),(List.range l.length).filterMap (fun i=>l[i]?)=l:=fun l=>by
       induction l with
       | nil=>rfl
       | cons a l ih =>
         rw [List.length_cons,List.range_succ_eq_map]
         simp only [List.filterMap_cons,List.getElem?_cons_zero,List.filterMap_map,Function.comp_def,List.getElem?_cons_succ]
         rw [ih]
     unfold dE
     rw [List.filterMap_reverse,show ps.length=ps.reverse.length by simp,jF,List.reverse_reverse]
   rw [e1] at this
   exact this
def ItC{α β:Type}(f:FuncId)(bx:Nat)(p:Per)(A:Res)(enc:α→Value)(m:α→Option β):Prop :=
 ∀ (yl:Nat) (X:Type) (J:X→Res) (Inv:List α→X→Prop) (x0:X),Inv [] x0 →
   (∀ (seen:List α) (k:α) (q:X),(m k).isSome=true→k ∉ seen→Inv seen q→kY Tryz.prog yl [enc k] [] [J q] fun v ps' hp'=>v=.bool true∧ps'=[]∧∃ q',Inv (k::seen) q'∧hp'=[J q']) →
   Con Tryz.prog f [.func (.yield yl) #[] #[],.pointer (some ⟨bx,0,none⟩)] [p] [J x0,A] fun _ ps hp=>ps=[]∧∃ (seen:List α) (q:X),dw m seen∧Inv seen q∧hp=[J q,A]
theorem uC(b bx yl:Nat)(m:Int→Option Bool){X:Type}(J:X→Res)(Inv:List (Int)→X→Prop)(x0:X)(h0:Inv [] x0)
   (hY:∀ (seen:List (Int)) (k:Int) (q:X),(m k).isSome=true→k ∉ seen→Inv seen q→kY Tryz.prog yl [kI k] [] [J q] fun v ps' hp'=>v=.bool true∧ps'=[]∧∃ q',Inv (k::seen) q'∧hp'=[J q']) :
   Con Tryz.prog 188 [.func (.yield yl) #[] #[],.pointer (some ⟨bx,0,none⟩)] [At bx 0 [.v (.map (some b))]] [J x0,cN b kI vBo m] fun _ ps hp=>ps=[]∧∃ (seen:List (Int)) (q:X) (r N:Nat),dw m seen∧Inv seen q∧hp=[J q,ItR b r kI vBo m N seen]:=by
 refine Con.enter Tryz.func188 rfl (by simp [Tryz.ntmps188]) ?_
 show awp _ _ _ _ ⟨[(0,true,_),(1,true,_)],_,_⟩
 refine aSR (aU rfl (aP (o:=0) tk119 rfl (.of (aF 0 rfl)) rfl) ?_)
 refine aI rfl (ri 1 Tryz.underlying119 rfl rfl rfl (fun r0_1 N0_1 => ?_))
 refine aHK ?_
 refine aNn (ao ?_)
 refine aR [0,1,5] [0] [0,1] (fun (p:List (Int) × X) s=>p.1.Nodup∧(∀ k∈p.1,(m k).isSome=true)∧Inv p.1 p.2∧s=⟨[(0,true,.func (.yield yl) #[] #[]),(1,true,.pointer (some ⟨bx,0,none⟩)),(5,true,.pointer (some ⟨r0_1,0,none⟩))],[At bx 0 [.v (.map (some b))]],[J p.2,ItR b r0_1 kI vBo m N0_1 p.1]⟩) (fun p=>N0_1-p.1.length) rfl (⟨([],x0),List.nodup_nil,fun k hk=>(by cases hk),h0,rfl⟩) ?_
 rintro ⟨seen,q⟩ s ⟨hnd,hin,hq,rfl⟩
 dsimp only at hnd hin hq
 refine aSR ?_
 refine aI rfl (u9 1 (keI) rfl rfl rfl (fun hend1 => ?_) (fun ka1 va1 hm1 hns1 hlt1 => ?_))
 ·skip
  refine aU rfl (aK rfl rfl) (aNs ?_)
  refine ah _ rfl (fun h=>absurd h (by decide)) (fun _ => ?_)
  refine aS (aV (aV (ba ?_)))
  refine xX [] [0,1] rfl Tryz.results188 ?_ (.inl rfl)
  exact ⟨rfl,seen,q,_,_,⟨hnd,fun k=>⟨hin k,fun h=>(by obtain ⟨v,hv⟩:=Option.isSome_iff_exists.1 h;exact hend1 k v hv)⟩⟩,hq,rfl⟩
 ·skip
  refine aHK ?_
  refine aU rfl (aK rfl rfl) (aNs ?_)
  refine ah _ rfl (fun _ => ?_) (fun h=>absurd h (by decide))
  refine ai (an (ao (aSR (aU rfl (rF 1 (keI) rfl rfl (hm1)) (aU rfl (aK rfl rfl) (aA rfl (aNn (aSR (aM rfl (aM rfl ?_))))))))))
  refine aI rfl (rj [] [0] rfl rfl rfl rfl (hY seen ka1 q (by rw [hm1];rfl) hns1 hq) ?_)
  rintro _ _ _ ⟨rfl,rfl,q',hq',rfl⟩
  refine aST ?_
  refine aU rfl (bY rfl) (aNn ?_)
  refine ah _ rfl (fun h1 => ?_) (fun h1 => ?_)
  ·skip
   exfalso;simp at h1
  ·skip
   refine ai (bo (an ?_))
   refine ⟨[0,1,5],[0],[0,1],rfl,?_⟩
   refine ⟨(ka1::seen,q'),⟨List.nodup_cons.2 ⟨hns1,hnd⟩,fun k hk=>(List.mem_cons.1 hk).elim (fun e=>by rw [e,hm1];rfl) (hin k),hq',rfl⟩,by dsimp only at hlt1 ⊢;rw [List.length_cons];omega⟩
theorem adF(b bx:Nat)(m:Int→Option Bool):ItC 188 bx (At bx 0 [.v (.map (some b))]) (cN b kI vBo m) kI m:=fun yl X J Inv x0 h0 hY=>(uC b bx yl m J Inv x0 h0 hY).conv fun v ps' hp' ⟨e1,seen,q,r,N,hk,hq,e2⟩=>⟨ps',[J q,cN b kI vBo m],by subst e2;exact lR,e1,seen,q,hk,hq,rfl⟩
theorem xF(b:Nat):Con Tryz.prog 77 [.map (some b)] [] [] fun r ps hp=>hp=[]∧∃ bx,r=.func (.func 188) #[] #[.pointer (some ⟨bx,0,none⟩)]∧ps=[At bx 0 [.v (.map (some b))]]:=by
 refine Con.enter Tryz.func77 rfl (by simp [Tryz.ntmps77]) ?_
 show awp _ _ _ _ ⟨[(0,true,_)],_,_⟩
 refine aSR ?_
 refine aI (q:=true) rfl (bz rfl rfl rfl (fun b0_0 => ?_))
 refine aHN ?_
 refine aA rfl (aNn (aSR (aU rfl (dB (l:=[.tmp 1]) rfl) (aA rfl (bK ?_)))))
 refine an (bd 0 rfl rfl (aj ?_))
 refine jZ [0] [] rfl Tryz.results77 rfl ?_ (.inr rfl)
 exact ⟨rfl,_,rfl,rfl⟩
theorem uD(b bx yl:Nat)(m:Int→Option ak){X:Type}(J:X→Res)(Inv:List (Int)→X→Prop)(x0:X)(h0:Inv [] x0)
   (hY:∀ (seen:List (Int)) (k:Int) (q:X),(m k).isSome=true→k ∉ seen→Inv seen q→kY Tryz.prog yl [kI k] [] [J q] fun v ps' hp'=>v=.bool true∧ps'=[]∧∃ q',Inv (k::seen) q'∧hp'=[J q']) :
   Con Tryz.prog 186 [.func (.yield yl) #[] #[],.pointer (some ⟨bx,0,none⟩)] [At bx 0 [.v (.map (some b))]] [J x0,cN b kI ak.val m] fun _ ps hp=>ps=[]∧∃ (seen:List (Int)) (q:X) (r N:Nat),dw m seen∧Inv seen q∧hp=[J q,ItR b r kI ak.val m N seen]:=by
 refine Con.enter Tryz.func186 rfl (by simp [Tryz.ntmps186]) ?_
 show awp _ _ _ _ ⟨[(0,true,_),(1,true,_)],_,_⟩
 refine aSR (aU rfl (aP (o:=0) tk118 rfl (.of (aF 0 rfl)) rfl) ?_)
 refine aI rfl (ri 1 Tryz.underlying118 rfl rfl rfl (fun r0_1 N0_1 => ?_))
 refine aHK ?_
 refine aNn (ao ?_)
 refine aR [0,1,5] [0] [0,1] (fun (p:List (Int) × X) s=>p.1.Nodup∧(∀ k∈p.1,(m k).isSome=true)∧Inv p.1 p.2∧s=⟨[(0,true,.func (.yield yl) #[] #[]),(1,true,.pointer (some ⟨bx,0,none⟩)),(5,true,.pointer (some ⟨r0_1,0,none⟩))],[At bx 0 [.v (.map (some b))]],[J p.2,ItR b r0_1 kI ak.val m N0_1 p.1]⟩) (fun p=>N0_1-p.1.length) rfl (⟨([],x0),List.nodup_nil,fun k hk=>(by cases hk),h0,rfl⟩) ?_
 rintro ⟨seen,q⟩ s ⟨hnd,hin,hq,rfl⟩
 dsimp only at hnd hin hq
 refine aSR ?_
 refine aI rfl (u9 1 (keI) rfl rfl rfl (fun hend1 => ?_) (fun ka1 va1 hm1 hns1 hlt1 => ?_))
 ·skip
  refine aU rfl (aK rfl rfl) (aNs ?_)
  refine ah _ rfl (fun h=>absurd h (by decide)) (fun _ => ?_)
  refine aS (aV (aV (ba ?_)))
  refine xX [] [0,1] rfl Tryz.results186 ?_ (.inl rfl)
  exact ⟨rfl,seen,q,_,_,⟨hnd,fun k=>⟨hin k,fun h=>(by obtain ⟨v,hv⟩:=Option.isSome_iff_exists.1 h;exact hend1 k v hv)⟩⟩,hq,rfl⟩
 ·skip
  refine aHK ?_
  refine aU rfl (aK rfl rfl) (aNs ?_)
  refine ah _ rfl (fun _ => ?_) (fun h=>absurd h (by decide))
  refine ai (an (ao (aSR (aU rfl (rF 1 (keI) rfl rfl (hm1)) (aU rfl (aK rfl rfl) (aA rfl (aNn (aSR (aM rfl (aM rfl ?_))))))))))
  refine aI rfl (rj [] [0] rfl rfl rfl rfl (hY seen ka1 q (by rw [hm1];rfl) hns1 hq) ?_)
  rintro _ _ _ ⟨rfl,rfl,q',hq',rfl⟩
  refine aST ?_
  refine aU rfl (bY rfl) (aNn ?_)
  refine ah _ rfl (fun h1 => ?_) (fun h1 => ?_)
  ·skip
   exfalso;simp at h1
  ·skip
   refine ai (bo (an ?_))
   refine ⟨[0,1,5],[0],[0,1],rfl,?_⟩
   refine ⟨(ka1::seen,q'),⟨List.nodup_cons.2 ⟨hns1,hnd⟩,fun k hk=>(List.mem_cons.1 hk).elim (fun e=>by rw [e,hm1];rfl) (hin k),hq',rfl⟩,by dsimp only at hlt1 ⊢;rw [List.length_cons];omega⟩
theorem adG(b bx:Nat)(m:Int→Option ak):ItC 186 bx (At bx 0 [.v (.map (some b))]) (cN b kI ak.val m) kI m:=fun yl X J Inv x0 h0 hY=>(uD b bx yl m J Inv x0 h0 hY).conv fun v ps' hp' ⟨e1,seen,q,r,N,hk,hq,e2⟩=>⟨ps',[J q,cN b kI ak.val m],by subst e2;exact lR,e1,seen,q,hk,hq,rfl⟩
theorem xG(b:Nat):Con Tryz.prog 75 [.map (some b)] [] [] fun r ps hp=>hp=[]∧∃ bx,r=.func (.func 186) #[] #[.pointer (some ⟨bx,0,none⟩)]∧ps=[At bx 0 [.v (.map (some b))]]:=by
 refine Con.enter Tryz.func75 rfl (by simp [Tryz.ntmps75]) ?_
 show awp _ _ _ _ ⟨[(0,true,_)],_,_⟩
 refine aSR ?_
 refine aI (q:=true) rfl (bz rfl rfl rfl (fun b0_0 => ?_))
 refine aHN ?_
 refine aA rfl (aNn (aSR (aU rfl (dB (l:=[.tmp 1]) rfl) (aA rfl (bK ?_)))))
 refine an (bd 0 rfl rfl (aj ?_))
 refine jZ [0] [] rfl Tryz.results75 rfl ?_ (.inr rfl)
 exact ⟨rfl,_,rfl,rfl⟩
theorem uE(b bx yl:Nat)(m:Int × Int→Option Int){X:Type}(J:X→Res)(Inv:List (Int × Int)→X→Prop)(x0:X)(h0:Inv [] x0)
   (hY:∀ (seen:List (Int × Int)) (k:Int × Int) (q:X),(m k).isSome=true→k ∉ seen→Inv seen q→kY Tryz.prog yl [cj k] [] [J q] fun v ps' hp'=>v=.bool true∧ps'=[]∧∃ q',Inv (k::seen) q'∧hp'=[J q']) :
   Con Tryz.prog 298 [.func (.yield yl) #[] #[],.pointer (some ⟨bx,0,none⟩)] [At bx 0 [.v (.map (some b))]] [J x0,cN b cj vI m] fun _ ps hp=>ps=[]∧∃ (seen:List (Int × Int)) (q:X) (r N:Nat),dw m seen∧Inv seen q∧hp=[J q,ItR b r cj vI m N seen]:=by
 refine Con.enter Tryz.func298 rfl (by simp [Tryz.ntmps298]) ?_
 show awp _ _ _ _ ⟨[(0,true,_),(1,true,_)],_,_⟩
 refine aSR (aU rfl (aP (o:=0) tk120 rfl (.of (aF 0 rfl)) rfl) ?_)
 refine aI rfl (ri 1 Tryz.underlying120 rfl rfl rfl (fun r0_1 N0_1 => ?_))
 refine aHK ?_
 refine aNn (ao ?_)
 refine aR [0,1,5] [0] [0,1] (fun (p:List (Int × Int) × X) s=>p.1.Nodup∧(∀ k∈p.1,(m k).isSome=true)∧Inv p.1 p.2∧s=⟨[(0,true,.func (.yield yl) #[] #[]),(1,true,.pointer (some ⟨bx,0,none⟩)),(5,true,.pointer (some ⟨r0_1,0,none⟩))],[At bx 0 [.v (.map (some b))]],[J p.2,ItR b r0_1 cj vI m N0_1 p.1]⟩) (fun p=>N0_1-p.1.length) rfl (⟨([],x0),List.nodup_nil,fun k hk=>(by cases hk),h0,rfl⟩) ?_
 rintro ⟨seen,q⟩ s ⟨hnd,hin,hq,rfl⟩
 dsimp only at hnd hin hq
 refine aSR ?_
 refine aI rfl (u9 1 (lG) rfl rfl rfl (fun hend1 => ?_) (fun ka1 va1 hm1 hns1 hlt1 => ?_))
 ·skip
  refine aU rfl (aK rfl rfl) (aNs ?_)
  refine ah _ rfl (fun h=>absurd h (by decide)) (fun _ => ?_)
  refine aS (aV (aV (ba ?_)))
  refine xX [] [0,1] rfl Tryz.results298 ?_ (.inl rfl)
  exact ⟨rfl,seen,q,_,_,⟨hnd,fun k=>⟨hin k,fun h=>(by obtain ⟨v,hv⟩:=Option.isSome_iff_exists.1 h;exact hend1 k v hv)⟩⟩,hq,rfl⟩
 ·skip
  refine aHK ?_
  refine aU rfl (aK rfl rfl) (aNs ?_)
  refine ah _ rfl (fun _ => ?_) (fun h=>absurd h (by decide))
  refine ai (an (ao (aSR (aU rfl (rF 1 (lG) rfl rfl (hm1)) (aU rfl (aK rfl rfl) ?_)))))
  refine aI (q:=true) rfl (bt (zs:=[.int .i64 0,.int .i64 0]) (by kernel_rfl) rfl (fun b2_2 => ?_))
  refine aHN ?_
  refine aI rfl (aW 2 tk133 rfl rfl rfl rfl ?_)
  refine aHK ?_
  refine aNn (aSR (aM rfl (aU rfl (bJ 2 tk133 rfl rfl rfl) ?_)))
  refine aI rfl (rj [] [0] rfl rfl rfl rfl (hY seen ka1 q (by rw [hm1];rfl) hns1 hq) ?_)
  rintro _ _ _ ⟨rfl,rfl,q',hq',rfl⟩
  refine aST ?_
  refine aU rfl (bY rfl) (aNn ?_)
  refine ah _ rfl (fun h1 => ?_) (fun h1 => ?_)
  ·skip
   exfalso;simp at h1
  ·skip
   refine ai (bo (an ?_))
   refine ⟨[0,1,5],[0],[0,1],rfl,?_⟩
   refine ⟨(ka1::seen,q'),⟨List.nodup_cons.2 ⟨hns1,hnd⟩,fun k hk=>(List.mem_cons.1 hk).elim (fun e=>by rw [e,hm1];rfl) (hin k),hq',rfl⟩,by dsimp only at hlt1 ⊢;rw [List.length_cons];omega⟩
theorem adH(b bx:Nat)(m:Int × Int→Option Int):ItC 298 bx (At bx 0 [.v (.map (some b))]) (cN b cj vI m) cj m:=fun yl X J Inv x0 h0 hY=>(uE b bx yl m J Inv x0 h0 hY).conv fun v ps' hp' ⟨e1,seen,q,r,N,hk,hq,e2⟩=>⟨ps',[J q,cN b cj vI m],by subst e2;exact lR,e1,seen,q,hk,hq,rfl⟩
theorem xH(b:Nat):Con Tryz.prog 240 [.map (some b)] [] [] fun r ps hp=>hp=[]∧∃ bx,r=.func (.func 298) #[] #[.pointer (some ⟨bx,0,none⟩)]∧ps=[At bx 0 [.v (.map (some b))]]:=by
 refine Con.enter Tryz.func240 rfl (by simp [Tryz.ntmps240]) ?_
 show awp _ _ _ _ ⟨[(0,true,_)],_,_⟩
 refine aSR ?_
 refine aI (q:=true) rfl (bz rfl rfl rfl (fun b0_0 => ?_))
 refine aHN ?_
 refine aA rfl (aNn (aSR (aU rfl (dB (l:=[.tmp 1]) rfl) (aA rfl (bK ?_)))))
 refine an (bd 0 rfl rfl (aj ?_))
 refine jZ [0] [] rfl Tryz.results240 rfl ?_ (.inr rfl)
 exact ⟨rfl,_,rfl,rfl⟩
end Go.Proofs.YtfkcmbonmpcbfaaGreat

namespace Go.Sy
open Go.RowKit Go.Lp
section
variable {w:World} {S:aT} {fp:Nat→aT} {ps:List Per} {l:List Res} {A:Res}
theorem St.bunA(h:St w S fp ps (l++[A])):∃ fp',St w S fp' ps [Bun l,A]∧(∀ b,tot fp' [Bun l,A].length b→tot fp (l++[A]).length b):=by
 have hl:(l++[A]).length=l.length+1:=by simp
 refine ⟨fun i=>if i=0 then tot fp l.length else fp l.length,⟨h.per,fun i R hR => ?_,fun i hi b hb => ?_,fun i j hi hj hne b hb hb2 => ?_,h.slt⟩,fun b hb => ?_⟩
 · match i with
   | 0 =>
     simp only [List.getElem?_cons_zero,Option.some.injEq] at hR;subst hR
     exact ⟨fp,fun i R hR=>h.res i R (by rw [List.getElem?_append_left (List.getElem?_eq_some_iff.1 hR).1];exact hR),fun i j hi hj hne=>h.dj i j (by omega) (by omega) hne,fun _=>Iff.rfl⟩
   | 1 =>
     simp only [List.getElem?_cons_succ,List.getElem?_cons_zero,Option.some.injEq] at hR;subst hR
     exact h.res l.length A (by rw [List.getElem?_append_right (Nat.le_refl _),Nat.sub_self];rfl)
   | n+2=>simp at hR
 · split at hb
   · obtain ⟨j,hj,hjb⟩:=hb;exact h.lt j (by omega) b hjb
   · exact h.lt l.length (by omega) b hb
 · simp only [List.length_cons,List.length_nil] at hi hj
   split at hb
   · rw [if_neg (by omega)] at hb2
     obtain ⟨q,hq,hqb⟩:=hb
     exact h.dj q l.length (by omega) (by omega) (by omega) b hqb hb2
   · rw [if_pos (by omega)] at hb2
     obtain ⟨q,hq,hqb⟩:=hb2
     exact h.dj l.length q (by omega) (by omega) (by omega) b hb hqb
 · obtain ⟨i,hi,hb⟩:=hb
   split at hb
   · obtain ⟨j,hj,hjb⟩:=hb;exact ⟨j,by omega,hjb⟩
   · exact ⟨l.length,by omega,hb⟩
theorem St.unbunA(h:St w S fp ps [Bun l,A]):∃ fp',St w S fp' ps (l++[A])∧∀ b,tot fp' (l++[A]).length b→tot fp [Bun l,A].length b:=by
 have hl:(l++[A]).length=l.length+1:=by simp
 obtain ⟨f0,h1,h2,h3⟩:=h.res 0 _ rfl
 have hA:=h.res 1 _ rfl
 have hin:∀ i b,i<l.length→f0 i b→fp 0 b:=fun i b hi hb=>(h3 b).2 ⟨i,hi,hb⟩
 refine ⟨fun i=>if i<l.length then f0 i else fp 1,⟨h.per,fun i R hR => ?_,fun i hi b hb => ?_,fun i j hi hj hne b hb hb2 => ?_,h.slt⟩,fun b hb => ?_⟩
 · split
   · rename_i hi
     rw [List.getElem?_append_left hi] at hR;exact h1 i R hR
   · rename_i hi
     rw [List.getElem?_append_right (by omega)] at hR
     have e:=(List.getElem?_eq_some_iff.1 hR).1
     simp only [List.length_singleton] at e
     rw [show i-l.length=0 by omega] at hR
     simp only [List.getElem?_cons_zero,Option.some.injEq] at hR;subst hR;exact hA
 · split at hb
   · rename_i hi';exact h.lt 0 (by simp) b (hin i b hi' hb)
   · exact h.lt 1 (by simp) b hb
 · split at hb<;>split at hb2
   · rename_i a1 a2;exact h2 i j a1 a2 hne b hb hb2
   · rename_i a1 a2;exact h.dj 0 1 (by simp) (by simp) (by omega) b (hin i b a1 hb) hb2
   · rename_i a1 a2;exact h.dj 0 1 (by simp) (by simp) (by omega) b (hin j b a2 hb2) hb
   · omega
 · obtain ⟨i,hi,hb⟩:=hb
   split at hb
   · rename_i hi';exact ⟨0,by simp,hin i b hi' hb⟩
   · exact ⟨1,by simp,hb⟩
variable {P:Program} {R:Value→List Per→List Res→Prop}
theorem sr{f:FuncId}{args:List Value}(h:Con P f args ps [Bun l,A] fun v ps' hp'=>∃ l' A',hp'=[Bun l',A']∧R v ps' (l'++[A'])):Con P f args ps (l++[A]) R:=fun w S fp hst=>by
 obtain ⟨fp1,j1,j2⟩:=hst.bunA
 refine (h w S _ j1).mono fun e w' ⟨v,ps',hp',S',fp',he,⟨l',A',hl,hR⟩,hst',hE,hg⟩ => ?_
 subst hl
 obtain ⟨fp2,k1,k2⟩:=hst'.unbunA
 exact ⟨v,ps',l'++[A'],S',fp2,he,hR,k1,hE.wider j2,fun b hb=>(hg b (k2 b hb)).imp (j2 b) id⟩
end
open Classical in
noncomputable def qh {α β:Type} (m:α→Option β):Nat:=if h:∃ ks:List α,ks.Nodup∧∀ a,(m a).isSome=true↔a∈ks then h.choose.length else 0
theorem dJ{γ:Type} : ∀ (D R:List γ),D.Nodup→(∀ x∈D,x∈R)→D.length≤R.length
 | [],_,_,_=>Nat.zero_le _
 | a :: D,R,hn,h=>by
   rw [List.nodup_cons] at hn
   obtain ⟨s,t,rfl⟩:=List.append_of_mem (h a (by simp))
   have:=dJ D (s++t) hn.2 fun x hx=>by
     have hx2:=h x (by simp [hx])
     rw [List.mem_append,List.mem_cons] at hx2
     rcases hx2 with h1 | rfl | h1
     · exact List.mem_append_left _ h1
     · exact absurd hx hn.1
     · exact List.mem_append_right _ h1
   rw [List.length_append] at this
   rw [List.length_cons,List.length_append,List.length_cons];omega
theorem tg{α β:Type}{m:α→Option β}{ks:List α}(hn:ks.Nodup)(h:∀ a,(m a).isSome=true↔a∈ks):qh m=ks.length:=by
 have hx:∃ ks:List α,ks.Nodup∧∀ a,(m a).isSome=true↔a∈ks:=⟨ks,hn,h⟩
 unfold qh
 rw [dif_pos hx]
 have h2:=hx.choose_spec
 exact Nat.le_antisymm (dJ _ _ h2.1 fun x hx'=>(h x).1 ((h2.2 x).2 hx')) (dJ _ _ hn fun x hx'=>(h2.2 x).1 ((h x).2 hx'))
theorem acG{P:Program}{n:Fr}{env:Env}{ps:List Per}{hp:List Res}{d:Option Tmp}{ty:TypeId}{pos:String}{af:Array Edge}{gd:Option (Nat × Bool)}{α β:Type}{κ:α→Value}{ν:β→Value}{m:α→Option β}{kt:TypeId}[Inhabited α]
   {x:Operand} {T E:TypeId} {b:Nat} (i:Nat) (hT:P.underlying T=some (.map kt E)) (KO:ef P kt κ) (hx:ev env x=some (true,.map (some b))) (hi:hp[i]? = some (cN b κ ν m)) :
   Quiet P n ⟨d,.call ⟨.builtin .len,#[x],#[T]⟩,ty,pos,af,gd⟩ ⟨env,ps,hp⟩ (.int .i64 (qh m)):=fun w S fp a hst he hn=>by
 have h1:=he.val hx rfl
 obtain ⟨⟨es,clock,hb,hes,_⟩,hF⟩:=hst.res i _ hi
 have hT':P.underlying T=some (.map (P.mapKeyOf T) (P.mapElemOf T)):=by rw [hT];unfold Program.mapKeyOf Program.mapElemOf;rw [hT]
 have hrun:=run_len_map (P:=P) (w:=w) T ty b es clock hT' hb
 obtain ⟨f,hf⟩:∃ f:MapEntry→α,∀ e∈es.toList,e.key=κ (f e)∧(m (f e)).isSome=true:=by
   have:∀ e:MapEntry,∃ a:α,e∈es.toList→e.key=κ a∧(m a).isSome=true:=fun e=>by
     by_cases he:e∈es.toList
     · obtain ⟨a,v,h1,_,h3⟩:=hes.of e he
       exact ⟨a,fun _=>⟨h1,by rw [h3];rfl⟩⟩
     · exact ⟨default,fun h=>absurd h he⟩
   exact ⟨fun e=>(this e).choose,fun e he=>(this e).choose_spec he⟩
 have hc:qh m=es.size:=by
   rw [tg (ks:=es.toList.map f)]
   · simp
   · show List.Pairwise _ _
     rw [List.pairwise_map]
     refine hes.apart.imp_of_mem fun ha hb h e=>h ?_
     rw [(hf _ ha).1,(hf _ hb).1,e]
   · intro a
     rw [List.mem_map]
     constructor
     · intro h
       obtain ⟨v,hv⟩:=Option.isSome_iff_exists.1 h
       obtain ⟨e,he,h2,_⟩:=hes.mem a v hv
       exact ⟨e,he,KO.inj _ _ ((hf e he).1.symm.trans h2)⟩
     · rintro ⟨e,he,rfl⟩;exact (hf e he).2
 have:(execOp a.eval ⟨d,.call ⟨.builtin .len,#[x],#[T]⟩,ty,pos,af,gd⟩).run P w=.ok (.value (.int .i64 (qh m))) w:=by
   have e:(execOp a.eval ⟨d,.call ⟨.builtin .len,#[x],#[T]⟩,ty,pos,af,gd⟩)=(Builtin.len_ #[T] ty (#[x].map a.eval)).bind fun r=>Sem.pure (Next.value r):=rfl
   rw [e,show #[x].map a.eval = #[.map (some b)] by simp [h1],Sem.run_bind',hrun,hc];rfl
 rw [this];exact bu _ _
end Go.Sy

namespace Go.Lv
open Go
theorem na(a b:List UInt8):bytesOf (a++b)=bytesOf a++bytesOf b:=by
 apply ByteArray.ext
 show (a++b).toArray=(bytesOf a++bytesOf b).data
 rw [ByteArray.data_append]
 show _=a.toArray++b.toArray
 simp
section
variable {r:List UInt8} {i acc:Nat} {u:UInt8}
end
end Go.Lv

namespace Go.Sy
theorem fl{P:Program}{n:Fr}{s:Sta}{d:Option Tmp}{ty:TypeId}{pos:String}{af:Array Edge}{gd:Option (Nat × Bool)}{v:Value}{f:FuncId}{g:Operand}{caps:List Value}(hf:cM P f=true){l:List Operand}{ts:Array TypeId}{vs:List Value}(hg:ev s.env g=some (true,.func (.func f) #[] caps.toArray))(hx:evs s.env l=some vs)
   (hc:∀ w S fp,St w S fp s.ps s.hp→Calls P f (vs++caps).toArray w fun e w'=>e=.returned v∧Go.Sy.Below w.heap.size w w') :
   Quiet P n ⟨d,.call ⟨.value g,l.toArray,ts⟩,ty,pos,af,gd⟩ s v:=fun w S fp a hst he hn=>by
 rw [lB hf (he.val hg rfl) (fF he l vs hx)]
 have:=hc w S fp hst
 rw [show (vs++caps).toArray=vs.toArray++caps.toArray by simp] at this
 exact this.mono fun e w' ⟨h1,h2⟩=>⟨v,h1,rfl,h2⟩
open RowKit in
theorem Con.quiet3{P:Program}{v:Value}{f:FuncId}{args:List Value}{p q t:Per}(h:Con P f args [p,q,t] [] fun u _ _=>u=v){w:World}{S:aT}{fp:Nat→aT}{ps':List Per}{hp:List Res}(hp1:p∈ps')(hq1:q∈ps')(ht1:t∈ps')(hst:St w S fp ps' hp) :
   Calls P f args.toArray w fun e w'=>e=.returned v∧Go.Sy.Below w.heap.size w w':=h.quiet (fun _ h=>by
     simp only [List.mem_cons,List.not_mem_nil,or_false] at h
     rcases h with rfl | rfl | rfl
     · exact hp1
     · exact hq1
     · exact ht1) hst
end Go.Sy
namespace Go.Proofs.YtfkcmbonmpcbfaaGreat
open Go.RowKit Go.Lp Go.Sy
def wG(n v:Int):Bool:=decide (v≥0) && decide (v<n)
def jW(n:Int)(a:ct):Bool := !wG n a.from_ || !wG n a.to_
def vO(n:Int)(l:List ct):Bool:=(decide (n≥0) && decide (n≤262144)) && !l.any (jW n)
end Go.Proofs.YtfkcmbonmpcbfaaGreat

namespace Go.Lp
open Go.RowKit Go.Proofs.YtfkcmbonmpcbfaaGreat
def ofBytes(l:List UInt8):ByteArray:=⟨l.toArray⟩
end Go.Lp

