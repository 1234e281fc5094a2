/- Parts of the proof, in build order. No condition. -/
import Derived.Test.YtfkcmbonmpcbfaaGreatTb17
import Derived.Test.YtfkcmbonmpcbfaaGreatTb13
import Derived.Lib.BufferWrite
import Derived.Test.YtfkcmbonmpcbfaaGreatTb09
import Derived.Test.YtfkcmbonmpcbfaaGreatTb04
import Derived.Test.YtfkcmbonmpcbfaaGreatTb16
import Derived.Test.YtfkcmbonmpcbfaaGreatTb05
import Derived.Test.YtfkcmbonmpcbfaaGreatTb10
import Derived.Test.YtfkcmbonmpcbfaaGreatTb11
set_option linter.unusedSimpArgs false
set_option linter.unusedVariables false
set_option maxHeartbeats 1000000
set_option maxRecDepth 20000
namespace Go.Sy
open Go.RowKit Go.Lp Go.Proofs.YtfkcmbonmpcbfaaGreat
section
variable {P:Program} {n:Fr} {env:Env} {ps:List Per} {hp:List Res} {d:Option Tmp} {ty:TypeId} {pos:String} {af:Array Edge} {gd:Option (Nat × Bool)} {v:Value}
theorem yx(bs:List UInt8):∀ (r:ByteArray),(bs.map fun b=>(b.toNat:Int)).foldl (fun r n=>r.push (UInt8.ofNat n.toNat)) r=⟨r.data++bs.toArray⟩:=by
 induction bs with
 | nil=>intro r;simp
 | cons b bs ih =>
   intro r
   rw [List.map_cons,List.foldl_cons,ih]
   simp [ByteArray.push]
theorem vG{x:Operand}{T E T2:TypeId}{m c:Nat}{ad:Option Addr}{rows:List (List D)}(i:Nat)(bs:List UInt8)(hT:P.underlying T=some (.slice E))(hE:P.underlying E=some (.int .u8))(hD:P.underlying T2=some .string)(hx:ev env x=some (true,.slice ad m c))
   (hi:hp[i]? = some (aD (.slice ad m c) E 1 rows)) (hr:rows=bs.map fun b=>[.v (.int .u8 b.toNat)]) (h0:bs≠[]) :
   Quiet P n ⟨d,.convert T T2 x,ty,pos,af,gd⟩ ⟨env,ps,hp⟩ (.string (ofBytes bs)):=fun w S fp a hst he hn=>by
 have h1:=he.val hx rfl
 subst hr
 rcases hst.res i _ hi with ⟨_,h,_⟩ | ⟨b,cap,hv,⟨cs,sp,hb,hrows,hcap,_,_⟩,_⟩
 · simp at h;exact absurd h h0
 · injection hv with hv1 hv2 hv3
   subst hv1;subst hv2;subst hv3
   have hl:cs.length=bs.length:=by have:=hrows.len;simpa using this
   have hcs:cs=bs.map fun b=>(.int .u8 b.toNat:Value):=by
     apply List.ext_getElem?
     intro k
     cases hk:bs[k]? with
     | none=>rw [List.getElem?_eq_none (by have:=List.getElem?_eq_none_iff.1 hk;omega)];simp [hk]
     | some u =>
       obtain ⟨y,hy,hrep⟩:=hrows.rep k 0 [.v (.int .u8 u.toNat)] (.v (.int .u8 u.toNat)) (by simp [hk]) rfl
       rw [Nat.mul_one,Nat.add_zero] at hy
       rw [hy,iG hrep];simp [hk]
   have hload:(loadCells ⟨b,0,none⟩ bs.length).run P w=.ok ((bs.map fun b=>(b.toNat:Int)).map (Value.int .u8)).toArray w:=by
     rw [run_loadCells w ⟨b,0,none⟩ bs.length (fun k=>cs.getD k undef) (fun k hk=>by
       have:(Addr.mk b 0 none).add k=⟨b,k,none⟩:=by
         unfold Addr.add;split
         · rename_i h;rw [h]
         · simp
       rw [this,c9 hb,List.getElem?_append_left (by omega)]
       simp [List.getD,show k<cs.length by omega])]
     congr 2
     rw [hcs,List.map_map]
     apply List.ext_getElem
     · simp
     · intro k h1 h2
       simp at h1 h2 ⊢
       simp [List.getD,h2]
   have:(convert T T2 (.slice (some ⟨b,0,none⟩) (bs.map fun b=>[D.v (.int .u8 b.toNat)]).length c)).run P w=.ok (.string (ofBytes bs)) w:=by
     rw [List.length_map,run_convert_bytes_string w T T2 E _ _ _ hT hE hD,run_bytesToString w ⟨b,0,none⟩ bs.length c (bs.map fun b=>(b.toNat:Int)) hload]
     congr 2
     rw [yx];simp [ofBytes]
   have hx2:(execOp a.eval ⟨d,.convert T T2 x,ty,pos,af,gd⟩).run P w=.ok (.value (.string (ofBytes bs))) w:=by
     unfold execOp;dsimp only;rw [h1]
     show ((convert T T2 _).bind fun r=>Sem.pure (Next.value r)).run P w=_
     rw [Sem.run_bind',this];rfl
   rw [hx2];exact bu _ _
theorem cZ.bytes{w:World}{S:aT}{cs:List Value}{l:List UInt8}(h:cZ w S 1 cs (l.map tK)):cs=Lib.byteCells l:=by
 have hl:cs.length=l.length:=by have:=h.len;simpa using this
 apply List.ext_getElem?
 intro k
 unfold Lib.byteCells
 cases hk:l[k]? with
 | none=>rw [List.getElem?_eq_none (by have:=List.getElem?_eq_none_iff.1 hk;omega)];simp [hk]
 | some u =>
   obtain ⟨y,hy,hrep⟩:=h.rep k 0 [.v (.int .u8 u.toNat)] (.v (.int .u8 u.toNat)) (by simp [hk]) rfl
   rw [Nat.mul_one,Nat.add_zero] at hy
   rw [hy,iG hrep];simp [hk]
theorem rK(w:World)(S:aT)(l:List UInt8):cZ w S 1 (Lib.byteCells l) (l.map tK) where
 len:=by simp [Lib.byteCells]
 row i r hr:=by
   rw [List.getElem?_map,Option.map_eq_some_iff] at hr
   obtain ⟨u,_,rfl⟩:=hr;rfl
 one:=Lib.byteCells_one l
 rep i j r d hr hd:=by
   rw [List.getElem?_map,Option.map_eq_some_iff] at hr
   obtain ⟨u,hu,rfl⟩:=hr
   cases j with
   | zero =>
     simp only [List.getElem?_cons_zero,Option.some.injEq] at hd
     subst hd
     exact ⟨.int .u8 u.toNat,by simp [Lib.byteCells,hu],.v _⟩
   | succ j=>simp at hd
end
end Go.Sy
namespace Go.Proofs.YtfkcmbonmpcbfaaGreat
open Go.RowKit Go.Lp Go.Sy
end Go.Proofs.YtfkcmbonmpcbfaaGreat

namespace Go.Sy
open Go.RowKit Go.Lp Go.Lv
section
variable {P:Program} {n:Fr} {env:Env} {ps:List Per} {hp:List Res} {d:Option Tmp} {ty:TypeId} {pos:String} {af:Array Edge} {gd:Option (Nat × Bool)}
theorem addr_add(B o j:Nat):(Addr.mk B o none).add j=⟨B,o+j,none⟩:=by
 unfold Addr.add
 split
 · rename_i h;rw [h];rfl
 · rfl
theorem vF(l:List UInt8):∀ r:ByteArray,l.foldl (fun r b=>r.push b) r=⟨r.data++l.toArray⟩:=by
 induction l with
 | nil=>intro r;simp
 | cons b l ih=>intro r;rw [List.foldl_cons,ih];simp [ByteArray.push]
theorem vL{s:Sta}{T E:TypeId}{x y z:Operand}{sz m c B o:Nat}{kk k2:IntKind}{zl zh:Int}(l h:Nat)(hel:elB P T E sz=true)(hx:ev s.env x=some (true,.slice (some ⟨B,o,none⟩) m c))
   (hy:ev s.env y=some (true,.int kk zl)) (hz:ev s.env z=some (true,.int k2 zh)) (hl:zl=(l:Int)) (hh:zh=(h:Int)) (hlh:l<h) (hm:h≤m) (hmc:m≤c) :
   Quiet P n ⟨d,.slice T x (some y) (some z) none,ty,pos,af,gd⟩ s (.slice (some ⟨B,o+l*sz,none⟩) (h-l) (c-l)):=fun w S fp a hst he hn=>by
 have h1:=he.val hx rfl
 subst hl hh
 have h2:=he.val hy rfl
 have h3:=he.val hz rfl
 obtain ⟨hT,it,hi,_,hsz,_⟩:=bP hel
 have hE:P.elem T=E:=by unfold Program.elem;rw [hT]
 have hrun:∀ w1,(execOp a.eval ⟨d,.slice T x (some y) (some z) none,ty,pos,af,gd⟩).run P w1=.ok (.value (sliced (some ⟨B,o,none⟩) l h c sz)) w1:=fun w1=>by
   unfold execOp;dsimp only;simp only [Option.map_some,Option.map_none];rw [h1,h2,h3]
   show ((Instr.sliceAt T (.slice (some ⟨B,o,none⟩) m c) (some (.int kk l)) (some (.int k2 h)) none).bind fun r=>Sem.pure (Next.value r)).run P w1=_
   have hT':P.underlying T=some (.slice (P.elem T)):=by rw [hT,hE]
   rw [Sem.run_bind',run_sliceAt_slice w1 T _ _ _ _ hT',run_slice_lh w1 T _ m c hT' kk k2 l h (by omega) (by omega) (by omega),hE,bQ hi,hsz]
   rfl
 have e:sliced (some ⟨B,o,none⟩) l h c sz=.slice (some ⟨B,o+l*sz,none⟩) (h-l) (c-l):=by
   unfold sliced
   rw [if_neg (by omega)]
   simp [mR]
 rw [hrun,e];exact bu _ _
theorem aaB{x:Operand}{T E T2:TypeId}{B o k c m cp:Nat}(i:Nat)(l:List UInt8)(hT:P.underlying T=some (.slice E))(hE:P.underlying E=some (.int .u8))(hD:P.underlying T2=some .string)(hx:ev env x=some (true,.slice (some ⟨B,o,none⟩) k c))
   (hi:hp[i]? = some (aD (.slice (some ⟨B,0,none⟩) m cp) E 1 (l.map tK))) (h:o+k≤l.length) :
   Quiet P n ⟨d,.convert T T2 x,ty,pos,af,gd⟩ ⟨env,ps,hp⟩ (.string (bytesOf ((l.drop o).take k))):=fun w S fp a hst he hn=>by
 have h1:=he.val hx rfl
 rcases hst.res i _ hi with ⟨h,_⟩ | ⟨b,cap,hv,⟨cs,sp,hb,hrows,hcap,_,_⟩,_⟩
 · cases h
 · simp only [Value.slice.injEq,Option.some.injEq,Addr.mk.injEq] at hv
   obtain ⟨⟨rfl,_⟩,hNN,rfl⟩:=hv
   have hcs:=hrows.bytes
   subst hcs
   have hl:((l.drop o).take k).length=k:=by simp;omega
   have hload:(loadCells ⟨B,o,none⟩ k).run P w=.ok ((((l.drop o).take k).map fun b=>(b.toNat:Int)).map (Value.int .u8)).toArray w:=by
     rw [run_loadCells w ⟨B,o,none⟩ k (fun j=>(Lib.byteCells l).getD (o+j) undef) (fun j hj=>by
       rw [addr_add,c9 hb,List.getElem?_append_left (by simp [Lib.byteCells];omega)]
       simp [List.getD,Lib.byteCells,show o+j<l.length by omega])]
     congr 2
     apply List.ext_getElem
     · simp;omega
     · intro j h1 h2
       simp at h1 h2 ⊢
       simp [List.getD,Lib.byteCells,show o+j<l.length by omega]
   have hcv:(convert T T2 (.slice (some ⟨B,o,none⟩) k c)).run P w=.ok (.string (bytesOf ((l.drop o).take k))) w:=by
     rw [run_convert_bytes_string w T T2 E _ _ _ hT hE hD,run_bytesToString w ⟨B,o,none⟩ k c (((l.drop o).take k).map fun b=>(b.toNat:Int)) hload]
     congr 2
     rw [List.foldl_map]
     simp only [Int.toNat_natCast,UInt8.ofNat_toNat]
     rw [vF];simp [bytesOf]
   have hx2:(execOp a.eval ⟨d,.convert T T2 x,ty,pos,af,gd⟩).run P w=.ok (.value (.string (bytesOf ((l.drop o).take k)))) w:=by
     unfold execOp;dsimp only;rw [h1]
     show ((convert T T2 _).bind fun r=>Sem.pure (Next.value r)).run P w=_
     rw [Sem.run_bind',hcv];rfl
   rw [hx2];exact bu _ _
theorem u7{t:Nat}{x y:Operand}{T T2 E:TypeId}{B o N c m cp:Nat}{l:List UInt8}{s:ByteArray}{K:Sta→Prop}(i:Nat)(hel:elB P T E 1=true)(hx:ev env x=some (true,.slice (some ⟨B,o,none⟩) N c))(hy:ev env y=some (true,.string s))(ht:fits n.size (some t)=true)
   (hi:hp[i]? = some (aD (.slice (some ⟨B,0,none⟩) m cp) E 1 (l.map tK))) (hoN:o+N≤l.length) (hs:s.size≤N) (hK:K ⟨(t,true,.int .i64 s.size)::env,ps,hp.set i (aD (.slice (some ⟨B,0,none⟩) m cp) E 1 ((fo l o s.data.toList).map tK))⟩) :
   Eff P n ⟨some t,.call ⟨.builtin .copy,#[x,y],#[T,T2]⟩,ty,pos,af,gd⟩ ⟨env,ps,hp⟩ false K:=.change i hi fun w S fp a hst he hn hR=>by
 have h1:=he.val hx rfl
 have h2:=he.val hy rfl
 obtain ⟨hT,it,hit,_,hsz,_⟩:=bP hel
 rcases hR with ⟨h,_⟩ | ⟨b,cap,hv,⟨cs,sp,hb,hrows,hcap,hrc,hcm⟩,hF⟩
 · cases h
 · simp only [Value.slice.injEq,Option.some.injEq,Addr.mk.injEq] at hv
   obtain ⟨⟨rfl,_⟩,hNN,rfl⟩:=hv
   have hcs:=hrows.bytes
   subst hcs
   have hlb:(Lib.byteCells l).length=l.length:=by simp [Lib.byteCells]
   have hss:s.data.toList.length=s.size:=by simp
   have hr:=Lib.run_copy_row_string (P:=P) w T T2 ty E B o N c s (Lib.byteCells l++sp).toArray E hT (by rw [hit];simp [hsz]) hb hs (by simp [hlb];omega)
   have hexec:execOp a.eval ⟨some t,.call ⟨.builtin .copy,#[x,y],#[T,T2]⟩,ty,pos,af,gd⟩=(Builtin.copy_ #[T,T2] ty (#[x,y].map a.eval)).bind fun r=>Sem.pure (Next.value r):=rfl
   rw [hexec,show #[x,y].map a.eval = #[a.eval x,a.eval y] by simp,h1,h2,Sem.run_bind',hr]
   have hl':(fo l o s.data.toList).length=l.length:=ji (by omega)
   refine ⟨_,_,hK,rfl,rfl,?_,?_,rfl,rfl,⟨rfl,rfl⟩,by simp [World.setRow],fun b' hb' hne=>setRow_other _ _ _ _ (fun h=>hne ((hF b').2 h))⟩
   · exact he.put (g:=true) (by rw [hn];simpa [fits] using ht) _
   · refine .inr ⟨B,cp,by rw [List.length_map,hl',hNN,List.length_map],⟨Lib.byteCells (fo l o s.data.toList),sp,?_,rK _ _ _,?_,?_,hcm⟩,hF⟩
     · rw [setRow_heap _ _ _ _ _ _ hb]
       congr 3
       unfold fo
       show (Lib.byteCells l++sp).take o++Lib.byteCells s.data.toList++(Lib.byteCells l++sp).drop (o+s.size)=_
       rw [List.take_append_of_le_length (by rw [hlb];omega),List.drop_append_of_le_length (by rw [hlb];omega),← List.append_assoc]
       congr 1
       simp [Lib.byteCells,List.map_drop,List.map_take]
     · rw [List.length_append]
       have:(Lib.byteCells (fo l o s.data.toList)).length=l.length:=by simp [Lib.byteCells,hl']
       rw [this]
       rw [List.length_append,hlb] at hcap;exact hcap
     · rw [List.length_map,hl'];rw [List.length_map] at hrc;exact hrc
end
section
variable {P:Program} {n:Fr} {env:Env} {ps ps':List Per} {hp hp':List Res} {c:Code} {Q:Exit→Sta→Prop}
theorem jr(hS:StE ps hp ps' hp')(h:awp P n c Q ⟨env,ps',hp'⟩):awp P n c Q ⟨env,ps,hp⟩:=fun w S fp a hst he hn hd=>by
 obtain ⟨S2,f2,a1,a2,a3,a4⟩:=hS w S fp hst
 have hE:Evo w S (tot fp hp.length) w S2:=⟨rfl,rfl,rfl,Nat.le_refl _,Nat.le_refl _,fun _ _ _=>rfl,a2,fun b hb=>(a3 b hb).imp id .inl⟩
 exact ck (fun e a2' w2 hp2=>hp2.trans hE (fun b hb=>.inl (a4 b hb))) (h w _ _ a a1 he hn hd)
theorem Con.ofSt{β:Type}{f:FuncId}{args:List Value}{R:Value→List Per→List Res→Prop}(hp2:β→List Res)(hS:∀ w S fp,St w S fp ps hp→∃ x fp',St w S fp' ps (hp2 x)∧∀ b,tot fp' (hp2 x).length b→tot fp hp.length b)(h:∀ x,Con P f args ps (hp2 x) R):Con P f args ps hp R:=fun w S fp hst=>by
 obtain ⟨x,f2,a1,a2⟩:=hS w S fp hst
 exact (h x w S f2 a1).mono fun e w' ⟨v,ps',hp',S',fp',he,hR,hst',hE,hg⟩=>⟨v,ps',hp',S',fp',he,hR,hst',hE.wider a2,fun b hb=>(hg b hb).imp (a2 b) id⟩
theorem StE.ofStars(m k:Nat){L:List Res}{R:Res}(hm:hp[m]? = some (bT L))(hk:L[k]? = some R):StE ps hp ps (hp.set m R++[bT (L.set k emp)]):=.of fun w S fp hst=>by
 have hml:=(List.getElem?_eq_some_iff.1 hm).1
 have h1:=hst.change hml (Nat.le_refl _) (fun _ _ _=>rfl) (dM R (bT (L.set k emp))) (iI L k _ hk (hst.res m _ hm))
 obtain ⟨f2,a1,a2⟩:=h1.split (i:=m) (R:=R) (R':=bT (L.set k emp)) (by rw [List.getElem?_set_self hml])
 rw [List.set_set] at a1 a2
 exact ⟨f2,a1,fun b hb=>by have:=a2 b hb;rwa [List.length_set] at this⟩
theorem StE.toStars(i m k:Nat){L:List Res}{R:Res}(hi:hp[i]? = some R)(hm:hp[m]? = some (bT (L.set k emp)))(hk:k<L.length)(hne:(i == m)=false):StE ps hp ps ((hp.set i (bT (L.set k R))).set m emp):=by
 have hne':i≠m:=by simpa using hne
 have hil:=(List.getElem?_eq_some_iff.1 hi).1
 refine (StE.star i m hi hm hne).trans ?_
 have:=StE.conv (ps:=ps) (hp:=(hp.set i (dM R (bT (L.set k emp)))).set m emp) i (R:=dM R (bT (L.set k emp))) (bT (L.set k R)) (by rw [List.getElem?_set_ne (Ne.symm hne'),List.getElem?_set_self hil]) (fun w S F hh=>lQ L k F hk hh)
 rwa [List.set_comm _ _ (Ne.symm hne'),List.set_set] at this
end
end Go.Sy
namespace Go.Proofs.YtfkcmbonmpcbfaaGreat
open Go.RowKit Go.Lp Go.Sy Go.Lv
open Go.Proofs.Tryz
abbrev rD(a:Ar)(v:Value):List Value:=[.int .i64 a.at_,.int .i64 a.size,.int .i64 a.kind,.int .i64 a.owner,.int .i64 a.mod,v]
abbrev aaA(a:Ar)(v:Value):List D:=[.v (.int .i64 a.at_),.v (.int .i64 a.size),.v (.int .i64 a.kind),.v (.int .i64 a.owner),.v (.int .i64 a.mod),.v v]
abbrev zd(a:Ar):Value:=.agg #[.int .i64 a.at_,.int .i64 a.size,.int .i64 a.kind,.int .i64 a.owner,.int .i64 a.mod]
def cT(M:Mem)(vs:List Value):List (List D):=List.zipWith (fun x v=>aaA x.1 v) M vs
def aaz(x:Cell)(v:Value):Res:=aD v 5 1 (x.2.map tK)
def eG(M:Mem)(vs:List Value):List Res:=List.zipWith aaz M vs
theorem eO{M:Mem}{vs:List Value}(h:vs.length=M.length):(cT M vs).length=M.length:=by simp [cT,h]
theorem eo{M:Mem}{vs:List Value}{k:Nat}{x:Cell}{v:Value}(hx:M[k]? = some x)(hv:vs[k]? = some v):(cT M vs)[k]? = some (aaA x.1 v):=by unfold cT;rw [List.getElem?_zipWith,hx,hv]
theorem iX{M:Mem}{vs:List Value}(h:vs.length=M.length):(eG M vs).length=M.length:=by simp [eG,h]
theorem iW{M:Mem}{vs:List Value}{k:Nat}{x:Cell}{v:Value}(hx:M[k]? = some x)(hv:vs[k]? = some v):(eG M vs)[k]? = some (aD v 5 1 (x.2.map tK)):=by unfold eG;rw [List.getElem?_zipWith,hx,hv];rfl
theorem se{x:Cell}{v:Value} : ∀ (M:Mem) (vs:List Value) (k:Nat),eG (M.set k x) (vs.set k v)=(eG M vs).set k (aaz x v)
 | [],_,_=>by simp [eG]
 | _::_,[],_=>by simp [eG]
 | a::M,b::vs,0=>rfl
 | a::M,b::vs,k+1=>by
   have:=se (x:=x) (v:=v) M vs k
   unfold eG at this ⊢
   simp only [List.set_cons_succ,List.zipWith_cons_cons,this]
theorem jF{α:Type} : ∀ l:List α,(List.range l.length).filterMap (fun i=>l[i]?)=l
 | []=>rfl
 | a::l=>by
   rw [List.length_cons,List.range_succ_eq_map]
   simp only [List.filterMap_cons,List.getElem?_cons_zero,List.filterMap_map,Function.comp_def,List.getElem?_cons_succ]
   rw [jF l]
theorem tP{α:Type}{l:List α}{k:Nat}{v:α}(h:l[k]? = some v):l.set k v=l:=by
 obtain ⟨h1,rfl⟩:=List.getElem?_eq_some_iff.1 h
 exact List.set_getElem_self h1
abbrev opn(p:Nat)(v:Value)(M:Mem)(vs:List Value):List Res:=[Box p 117 [v],aD v 135 6 (cT M vs),bT (eG M vs)]
def SpO(p:Nat)(v:Value)(M:Mem)(vs:List Value):Res:=dM (Box p 117 [v]) (dM (aD v 135 6 (cT M vs)) (bT (eG M vs)))
def SpR(p:Nat)(M:Mem):Res :=
 ⟨fun w S F=>∃ (v:Value) (vs:List Value),vs.length=M.length∧(SpO p v M vs).holds w S F,fun ⟨v,vs,h0,h⟩ h1 h2 h3=>⟨v,vs,h0,(SpO p v M vs).mono h h1 h2 h3⟩⟩
structure OkV (M:Mem) (vs:List Value):Prop where
 len:vs.length=M.length
 sl:∀ {k:Nat} {x:Cell} {u:Value},M[k]? = some x→vs[k]? = some u→∃ ad c,u=.slice ad x.2.length c
theorem acD{p:Nat}{v:Value}{M:Mem}{vs:List Value}{w:World}{S F:aT}(h0:vs.length=M.length)(h:(SpO p v M vs).holds w S F):OkV M vs:=⟨h0,fun hx hu=>by
 obtain ⟨_,H,_,⟨_,H2,_,h2,_,_⟩,_,_⟩:=h
 obtain ⟨G,_,ho⟩:=lP _ _ h2 _ _ (iW hx hu)
 obtain ⟨ad,c,e⟩:=yr ho
 exact ⟨ad,c,by rw [e,List.length_map]⟩⟩
section
variable {P:Program} {n:Fr} {env:Env} {ps:List Per} {hp:List Res} {c:Code} {Q:Exit→Sta→Prop} {p:Nat} {M:Mem}
theorem yS(i:Nat)(hi:hp[i]? = some (SpR p M)):∀ w S fp,St w S fp ps hp→∃ (x : {y:Value × List Value // OkV M y.2}) (fp':Nat→aT),St w S fp' ps ((hp.set i (Box p 117 [x.1.1])++[aD x.1.1 135 6 (cT M x.1.2)])++[bT (eG M x.1.2)])∧∀ b,tot fp' ((hp.set i (Box p 117 [x.1.1])++[aD x.1.1 135 6 (cT M x.1.2)])++[bT (eG M x.1.2)]).length b→tot fp hp.length b:=fun w S fp hst=>by
 have hil:=(List.getElem?_eq_some_iff.1 hi).1
 obtain ⟨v,vs,h0,hh⟩:=hst.res i _ hi
 have h1:=hst.change hil (Nat.le_refl _) (fun _ _ _=>rfl) (SpO p v M vs) hh
 obtain ⟨f2,a1,a2⟩:=h1.split (i:=i) (R:=Box p 117 [v]) (R':=dM (aD v 135 6 (cT M vs)) (bT (eG M vs))) (by rw [List.getElem?_set_self hil];rfl)
 rw [List.set_set] at a1 a2
 obtain ⟨f3,b1,b2⟩:=a1.split (i:=hp.length) (R:=aD v 135 6 (cT M vs)) (R':=bT (eG M vs)) (by rw [List.getElem?_append_right (by simp)];simp)
 have e:((hp.set i (Box p 117 [v])++[dM (aD v 135 6 (cT M vs)) (bT (eG M vs))]).set hp.length (aD v 135 6 (cT M vs)))=hp.set i (Box p 117 [v])++[aD v 135 6 (cT M vs)]:=by
   rw [List.set_append_right _ _ (by simp)];simp
 rw [e] at b1 b2
 exact ⟨⟨(v,vs),acD h0 hh⟩,f3,b1,fun b hb=>by have:=a2 b (b2 b hb);rwa [List.length_set] at this⟩
theorem uM{f:FuncId}{args:List Value}{R:Value→List Per→List Res→Prop}(h:∀ v vs,OkV M vs→Con P f args ps (opn p v M vs) R):Con P f args ps [SpR p M] R :=
 Con.ofSt (fun x : {y:Value × List Value // OkV M y.2} => opn p x.1.1 M x.1.2) (yS 0 rfl) fun x=>h _ _ x.2
theorem aaR(i j m:Nat){v:Value}{vs:List Value}(hi:hp[i]? = some (Box p 117 [v]))(hj:hp[j]? = some (aD v 135 6 (cT M vs)))(hm:hp[m]? = some (bT (eG M vs)))(hij:(i == j)=false)(him:(i == m)=false)(hjm:(j == m)=false)(hl:vs.length=M.length) :
   StE ps hp ps (((hp.set j emp).set m emp).set i (SpR p M)):=by
 have hij':i≠j:=by simpa using hij
 have him':i≠m:=by simpa using him
 have hjm':j≠m:=by simpa using hjm
 have hil:=(List.getElem?_eq_some_iff.1 hi).1
 have hjl:=(List.getElem?_eq_some_iff.1 hj).1
 refine (StE.star j m hj hm hjm).trans ((StE.star i j (R:=Box p 117 [v]) (R':=dM (aD v 135 6 (cT M vs)) (bT (eG M vs))) ?_ ?_ hij).trans ?_)
 · rw [List.getElem?_set_ne (Ne.symm him'),List.getElem?_set_ne (Ne.symm hij')];exact hi
 · rw [List.getElem?_set_ne (Ne.symm hjm'),List.getElem?_set_self hjl]
 · have:=StE.conv (ps:=ps) (hp:=((((hp.set j (dM (aD v 135 6 (cT M vs)) (bT (eG M vs)))).set m emp).set i (SpO p v M vs)).set j emp)) i (R:=SpO p v M vs) (SpR p M) (by rw [List.getElem?_set_ne (Ne.symm hij'),List.getElem?_set_self (by simpa using hil)]) (fun w S F hh=>⟨v,vs,hl,hh⟩)
   have e:((((hp.set j (dM (aD v 135 6 (cT M vs)) (bT (eG M vs)))).set m emp).set i (SpO p v M vs)).set j emp).set i (SpR p M)=((hp.set j emp).set m emp).set i (SpR p M):=by
     apply List.ext_getElem?
     intro q
     simp only [List.getElem?_set,List.length_set]
     by_cases h1:i=q
     · simp [h1]
     · by_cases h2:j=q
       · subst h2;simp [h1,Ne.symm hjm',hjm']
       · by_cases h3:m=q
         · simp [h1,h2,h3]
         · simp [h1,h2,h3]
   rw [e] at this;exact this
theorem zG{f:FuncId}{args:List Value}{R:Mem→Value→List Per→List Res→Prop}(h:∀ v vs,OkV M vs→Con P f args ps (opn p v M vs) fun r ps' hp'=>∃ M' v' vs' L,vs'.length=M'.length∧hp'=opn p v' M' vs'++L∧R M' r ps' L) :
   Con P f args ps [SpR p M] fun r ps' hp'=>∃ M' L,hp'=SpR p M'::L∧R M' r ps' L :=
 (uM h).conv fun r ps' hp' ⟨M',v',vs',L,h1,h2,h3⟩=>by
   subst h2
   refine ⟨ps',SpR p M'::L,(aaR 0 1 2 rfl rfl rfl rfl rfl rfl h1).trans ?_,M',L,rfl,h3⟩
   have:=StE.keep (ps:=ps') (hp:=SpR p M'::emp::emp::L) (List.range ps'.length).reverse (0::(List.range L.length).map (· + 3)) (by
     simp only [okH,Bool.and_eq_true,decide_eq_true_eq]
     refine ⟨List.all_eq_true.2 fun x hx => ?_,?_⟩
     · rcases List.mem_cons.1 hx with rfl | hx
       · simp
       · obtain ⟨y,hy,rfl⟩:=List.mem_map.1 hx
         have:=List.mem_range.1 hy
         simp;omega
     · rw [List.nodup_cons]
       refine ⟨fun hx=>by obtain ⟨y,_,hy⟩:=List.mem_map.1 hx;omega,?_⟩
       rw [List.nodup_iff_pairwise_ne,List.pairwise_map]
       exact (List.nodup_iff_pairwise_ne.1 List.nodup_range).imp fun h e=>h (by omega))
   have e1:dE ps' (List.range ps'.length).reverse=ps':=by
     unfold dE
     rw [List.filterMap_reverse,show ps'.length=ps'.reverse.length by simp,jF,List.reverse_reverse]
   have e2:bA (SpR p M'::emp::emp::L) (0::(List.range L.length).map (· + 3))=SpR p M'::L:=by
     unfold bA
     rw [List.map_cons,List.map_map]
     congr 1
     apply List.ext_getElem
     · simp
     · intro k h1 h2
       simp [h2]
   rwa [e1,e2] at this
end
attribute [local irreducible] aL aB awp aC fwp Quiet
theorem l6(a:Ar)(v:Value)(t:Int):Con Tryz.prog 263 [.agg (rD a v).toArray,.int .i64 t] [] [] fun r _ _=>r=.int .i64 (jX a.at_ t):=by
 refine EN2 Tryz.func263 rfl (aSR (LT rfl (bz rfl rfl rfl (fun b0_0=>(aHN ?_)))))
 refine aA rfl (aNn (aSR (UO 0 rfl rfl (UO 0 rfl rfl (UL 0 tk3 rfl rfl rfl rfl (aM rfl (aU rfl (Q0 rfl (ku a.at_ t)) (aA rfl (aNn (aj (FZ1 [] Tryz.results263 rfl ?_)))))))))))
 rfl
theorem xl{a b:Int} : jX a b=0↔a=b:=by unfold jX;constructor<;>intro h<;>(repeat' split at h)<;>(repeat' split)<;>omega
theorem tv{M:Mem}{vs:List Value}{k:Nat}(h:vs.length=M.length)(hk:k<M.length):(cT M vs)[k]? = some (aaA (M.getD k default).1 (vs.getD k undef)):=eo (by simp [List.getD,hk]) (by simp [List.getD,h,hk])
abbrev ab1:Value:=.func (.func 263) #[] #[]
theorem abd(M:Mem)(vs:List Value)(hvs:vs.length=M.length)(v:Value)(t:Int)(hM:dI M)(hl:M.length≤4096) :
   Con Tryz.prog 262 [v,.int .i64 t,ab1] [] [aD v 135 6 (cT M vs)] fun r ps hp=>ps=[]∧hp=[aD v 135 6 (cT M vs)]∧∃ k,LoM M t k∧r=.tuple #[.int .i64 k,.bool (j0 M t k)]:=by
 have hlr:=eO hvs
 refine EN3 Tryz.func262 rfl (aSR (aA rfl (aA rfl (aNn (aSR (aM rfl ?_))))))
 refine aU rfl ((dF 0 Tryz.underlying115 rfl rfl).castV (v':=.int .i64 M.length) (by rw [hlr])) ?_
 refine aA rfl (aNn (aSR (aM rfl (aA rfl (aA rfl (aNs (ao ?_)))))))
 refine aR [0,1,2,8,9,10] [] [0] (fun (q:Nat × Nat) s=>(q.1≤q.2∧q.2≤M.length∧(∀ (a:Nat) (x:Cell),a<q.1→M[a]? = some x→x.1.at_<t)∧∀ (a:Nat) (x:Cell),q.2≤a→M[a]? = some x→t≤x.1.at_)∧s=⟨[(0,true,v),(1,true,.int .i64 t),(2,true,ab1),(8,true,.int .i64 M.length),(9,true,.int .i64 q.1),(10,true,.int .i64 q.2)],[],[aD v 135 6 (cT M vs)]⟩) (fun q=>q.2-q.1) rfl (⟨(0,M.length),⟨Nat.zero_le _,Nat.le_refl _,fun a x h=>absurd h (Nat.not_lt_zero _),fun a x h hx=>absurd (List.getElem?_eq_some_iff.1 hx).1 (by omega)⟩,rfl⟩) ?_
 rintro ⟨i,j⟩ s ⟨⟨hij,hj,hlo,hhi⟩,rfl⟩
 dsimp only at hij hj hlo hhi
 refine aq (aSR (aM rfl (aM rfl (aU rfl (bg rfl rfl) (aNn ?_)))))
 refine ah _ rfl (fun h1 => ?_) (fun h1 => ?_)
 ·skip
  have hlt:i<j:=by simpa using h1
  obtain ⟨x,hx⟩:∃ x,M[(i+j) / 2]? = some x:=⟨_,List.getElem?_eq_getElem (by omega)⟩
  obtain ⟨u,hu⟩:∃ u,vs[(i+j) / 2]? = some u:=⟨_,List.getElem?_eq_getElem (by omega)⟩
  refine ai (an (ao (aSR (aM rfl (aM rfl (aU rfl (aO rfl rfl (by omega)) ?_))))))
  refine aU rfl ((gD (by kernel_rfl) Tryz.underlying305 rfl).castV (v':=.int .u64 ((i+j:Nat):Int)) (congrArg (Value.int .u64) (by rw [IntKind.wrap_u64];omega))) ?_
  refine aU rfl ((ads rfl rfl (by decide)).castV (v':=.int .u64 (((i+j) / 2:Nat):Int)) (congrArg (Value.int .u64) (by rw [show min (1:Int).toNat IntKind.u64.bits=1 from rfl,Int.fdiv_eq_ediv_of_nonneg _ (by decide)];omega))) ?_
  refine aU rfl ((gD (by kernel_rfl) Tryz.underlying3 rfl).castV (v':=.int .i64 (((i+j) / 2:Nat):Int)) (congrArg (Value.int .i64) (by rw [IntKind.wrap_i64];omega))) ?_
  refine aA rfl (aNn (aSR (aM rfl (aM rfl (aM rfl (aU rfl (bE 0 ((i+j) / 2) el115 rfl rfl rfl rfl (by omega)) (aU rfl (bb 0 ((i+j) / 2) 0 tk135 rfl rfl (eo hx hu) rfl rfl) (aM rfl (aU rfl (fl (by kernel_rfl) rfl rfl (fun w S fp hst=>(l6 x.1 u t).quiet0 hst)) (aU rfl (bg rfl rfl) (aNn ?_)))))))))))
  refine ah _ rfl (fun h2 => ?_) (fun h2 => ?_)
  ·skip
   have hxt:x.1.at_<t:=(kr _ _).1 (by simpa using h2)
   refine ae (aM rfl (aU rfl (aO rfl rfl (by omega)) (aA rfl (bK (bo (an ?_))))))
   refine ⟨[0,1,2,8,9,10],[],[0],rfl,?_⟩
   refine ⟨((i+j) / 2+1,j),⟨⟨by dsimp only;omega,hj,fun a y ha hy => ?_,hhi⟩,rfl⟩,by dsimp only;omega⟩
   have:=hM.mono hy hx (by omega);omega
  ·skip
   have hxt:t≤x.1.at_:=Int.not_lt.1 fun h=>absurd ((kr _ _).2 h) (by simpa using h2)
   refine ae (aM rfl (aA rfl (bK (bo (an ?_)))))
   refine ⟨[0,1,2,8,9,10],[],[0],rfl,?_⟩
   refine ⟨(i,(i+j) / 2),⟨⟨by dsimp only;omega,by dsimp only;omega,hlo,fun a y ha hy => ?_⟩,rfl⟩,by dsimp only;omega⟩
   have:=hM.mono hx hy ha;omega
 ·skip
  refine aS (aV (aV (ba (an (aSR (aM rfl (aM rfl (aM rfl (aU rfl (bg rfl rfl) (aM rfl (aG rfl rfl (fun hc=>az rfl) (aG rfl rfl (fun hc=>az rfl) (aG rfl rfl (fun hc=>az rfl) ?_)))))))))))))
  refine aG rfl rfl (fun hc=>bE 0 i el115 (aa rfl hc) rfl (aa rfl hc) rfl (by simp at hc;omega)) ?_
  refine aG rfl rfl (fun hc=>bb 0 i 0 tk135 (aa rfl hc) rfl (tv hvs (by simp at hc;omega)) rfl rfl) ?_
  refine aG rfl rfl (fun hc=>az rfl) (aG rfl rfl (fun hc=>fl (by kernel_rfl) (aa rfl hc) (ax (aa rfl hc) (ax (aa rfl hc) rfl)) (fun w S fp hst=>(l6 (M.getD i default).1 (vs.getD i undef) t).quiet0 hst)) (aG rfl rfl (fun hc=>bw (aa rfl hc) rfl) (aU rfl (aQ rfl rfl (fun h=>gt rfl h)) (aA rfl (aA rfl (aNn (aj (FZ2 [0] Tryz.results262 rfl rfl ?_))))))))
  obtain rfl:i=j:=by have:=(by simpa using h1:¬ i<j);omega
  refine ⟨rfl,rfl,i,⟨hj,hlo,hhi⟩,congrArg (fun b=>Value.tuple #[.int .i64 i,.bool b]) ?_⟩
  unfold j0
  by_cases hi:i<M.length
  · rw [List.getElem?_eq_getElem hi]
    simp [hi,List.getD,xl]
  · rw [List.getElem?_eq_none (by omega)]
    simp [hi]
abbrev op2(p:Nat)(v:Value)(M:Mem)(vs:List Value):List Res:=[Box p 117 [v],aD v 135 6 (cT M vs)]
theorem iz(p:Nat)(M:Mem)(vs:List Value)(hvs:OkV M vs)(v:Value)(t:Int)(hM:dI M)(hl:M.length≤4096) :
   Con Tryz.prog 191 [.pointer (some ⟨p,0,none⟩),.int .i64 t] [] (op2 p v M vs) fun r ps hp=>ps=[]∧hp=op2 p v M vs∧∃ k,LoM M t k∧r=.tuple #[.int .i64 k,.bool (j0 M t k)]:=by
 refine EN2 Tryz.func191 rfl (aSR (aA rfl (aA rfl (aNn (aSR (aM rfl (UN rfl rfl (UO 0 rfl rfl (UL 0 tk115 rfl rfl rfl rfl (aM rfl (LF rfl (EC [] [1] rfl (abd M vs hvs.len v t hM hl) ?_))))))))))))
 rintro _ _ _ ⟨rfl,rfl,k,hk,rfl⟩
 refine aST ?_
 refine aU rfl (aK rfl rfl) (aU rfl (aK rfl rfl) (aA rfl (aA rfl (aNn (aj (FZ2 [0,1] Tryz.results191 rfl rfl ?_))))))
 exact ⟨rfl,rfl,k,hk,rfl⟩
def JM(M:Mem)(t z:Int):Prop:=(z = -1∧∀ size,dP M t size=none)∨∃ (j:Nat) (x:Cell),z=j∧M[j]? = some x∧x.1.at_≤t∧∀ size,dP M t size=if holds t size x.1=true then some x else none
theorem JM.hit{M:Mem}(h:dI M){t:Int}{k:Nat}(hk:LoM M t k)(hh:j0 M t k=true):JM M t k:=by
 unfold j0 at hh
 split at hh
 · rename_i x hx
   simp only [decide_eq_true_eq] at hh
   exact .inr ⟨k,x,rfl,hx,by omega,fun size=>(h.locate (size:=size) hk).1 x hx hh⟩
 · cases hh
theorem JM.miss{M:Mem}(h:dI M){t:Int}{k:Nat}(hk:LoM M t k)(hh:j0 M t k=false):JM M t ((k:Int)-1):=by
 cases k with
 | zero=>exact .inl ⟨rfl,fun size=>((h.locate (size:=size) hk).2 hh).1 rfl⟩
 | succ j =>
   have hj:M[j]? = some (M[j]'(by have:=hk.le;omega)):=List.getElem?_eq_getElem _
   have:=fun size=>((h.locate (size:=size) hk).2 hh).2 j _ rfl hj
   exact .inr ⟨j,_,by omega,hj,by have:=(this 0).1;omega,fun size=>(this size).2⟩
def rQ(M:Mem)(vs:List Value)(t size:Int)(a:Ar)(u:Value)(b:Bool):Prop:=b=(dP M t size).isSome∧∀ x,dP M t size=some x→a=x.1∧∃ k:Nat,M[k]? = some x∧vs[k]? = some u
theorem nv(p:Nat)(M:Mem)(vs:List Value)(hvs:OkV M vs)(v:Value)(t size:Int)(ht:I64 t)(hM:dI M)(hl:M.length≤4096) :
   Con Tryz.prog 82 [.pointer (some ⟨p,0,none⟩),.int .i64 t,.int .i64 size] [] (op2 p v M vs) fun r ps hp=>ps=[]∧hp=op2 p v M vs∧∃ a ad nb cb b,rQ M vs t size a (.slice ad nb cb) b∧r=.tuple #[.agg (rD a (.slice ad nb cb)).toArray,.bool b]:=by
 have hlr:=eO hvs.len
 unfold I64 at ht
 refine EN3 Tryz.func82 rfl (aSR (LT rfl (bt (zs:=[.int .i64 0,.int .i64 0,.int .i64 0,.int .i64 0,.int .i64 0,.slice none 0 0]) (by kernel_rfl) rfl (fun b0_0=>(aHN ?_)))))
 refine aA rfl (aNn (aSR (aM rfl (aM rfl (LF rfl (EC [] [0,1] rfl (iz p M vs hvs v t hM hl) ?_))))))
 rintro _ _ _ ⟨rfl,rfl,k,hk,rfl⟩
 refine aST ?_
 have hkl:=hk.le
 refine aM rfl (aU rfl (aK rfl rfl) (aU rfl (aK rfl rfl) (aA rfl (aA rfl (aNs ?_)))))
 refine gQ (X := {z:Int // JM M t z}) (fun z=>⟨[(0,true,.pointer (some ⟨p,0,none⟩)),(1,true,.int .i64 t),(2,true,.int .i64 size),(6,true,.pointer (some ⟨b0_0,0,none⟩)),(8,true,.int .i64 z.1)],[],[Box p 117 [v],aD v 135 6 (cT M vs),Box b0_0 135 [.int .i64 0,.int .i64 0,.int .i64 0,.int .i64 0,.int .i64 0,.slice none 0 0]]⟩) ?_ ?_
 ·skip
  refine aSR (aM rfl (aU rfl (bY rfl) (aNn ?_)))
  refine ah _ rfl (fun h1 => ?_) (fun h1 => ?_)
  ·skip
   refine ae (aM rfl (aU rfl (bN rfl rfl (by omega)) (aA rfl (aNn ?_))))
   first
   | exact ⟨[0,1,2,6,8],[],[0,1,2],⟨(k:Int)-1,JM.miss hM hk (by simpa using h1)⟩,rfl,rfl⟩
   | exact ⟨[0,1,2,6,8],[],[0,1,2],⟨k,JM.hit hM hk (by simpa using h1)⟩,rfl,rfl⟩
  ·skip
   refine ai (an ?_)
   first
   | exact ⟨[0,1,2,6,8],[],[0,1,2],⟨(k:Int)-1,JM.miss hM hk (by simpa using h1)⟩,rfl,rfl⟩
   | exact ⟨[0,1,2,6,8],[],[0,1,2],⟨k,JM.hit hM hk (by simpa using h1)⟩,rfl,rfl⟩
 ·skip
  rintro ⟨z,hz⟩
  refine aq (aSR (aM rfl (aU rfl (bg rfl rfl) (aNn ?_))))
  refine ah _ rfl (fun h2 => ?_) (fun h2 => ?_)
  ·skip
   have hzn:z<0:=by simpa using h2
   refine aSR (aU rfl (gr (l:=[]) (zs:=[.int .i64 0,.int .i64 0,.int .i64 0,.int .i64 0,.int .i64 0,.slice none 0 0]) (pl:=[(0,5),(5,1)]) (by kernel_rfl) (by kernel_rfl) (by kernel_rfl) rfl rfl rfl) (aI rfl (aW 2 tk135 rfl rfl rfl rfl (aHK ?_))))
   refine aA rfl (aNn (aj (aN ?_)))
   refine ab5 [] [0,1] rfl Tryz.results82 (mL 2 tk135 rfl rfl rfl) (aaI rfl) ?_ (.inr rfl)
   refine ⟨rfl,rfl,default,none,0,0,false,⟨?_,?_⟩,rfl⟩
   · rcases hz with ⟨_,h⟩ | ⟨j,x,rfl,_⟩
     · exact (congrArg Option.isSome (h size)).symm
     · omega
   · intro x hx
     rcases hz with ⟨_,h⟩ | ⟨j,x,rfl,_⟩
     · rw [h] at hx;cases hx
     · omega
  ·skip
   have hzn:0≤z:=by have:=(by simpa using h2:¬ z<0);omega
   obtain ⟨j,x,rfl,hx,hxt,hfx⟩:∃ (j:Nat) (x:Cell),z=j∧M[j]? = some x∧x.1.at_≤t∧∀ size,dP M t size=if holds t size x.1=true then some x else none:=by rcases hz with ⟨h,_⟩ | h;omega;exact h
   obtain ⟨u,hu⟩:∃ u,vs[j]? = some u:=⟨_,List.getElem?_eq_getElem (by have:=(List.getElem?_eq_some_iff.1 hx).1;have:=hvs.len;omega)⟩
   obtain ⟨ad,cu,rfl⟩:=hvs.sl hx hu
   have hok:=hM.ok hx
   refine ai (an (aSR (aM rfl (UN rfl rfl (UO 0 rfl rfl (UL 0 tk115 rfl rfl rfl rfl (aM rfl ?_)))))))
   refine aU rfl (bE 1 j el115 rfl rfl rfl rfl (by have:=(List.getElem?_eq_some_iff.1 hx).1;omega)) ?_
   refine aU rfl (bb 1 j 0 tk135 rfl rfl (eo hx hu) rfl rfl) (LT rfl (bt (zs:=[.int .i64 0,.int .i64 0,.int .i64 0,.int .i64 0,.int .i64 0,.slice none 0 0]) (by kernel_rfl) rfl (fun b6_7=>(aHN ?_))))
   refine aI rfl (aW 3 tk135 rfl rfl rfl rfl (aHK ?_))
   refine aNn (aSR (aM rfl (UO 0 rfl rfl (UO 0 rfl rfl (UL 3 tk3 rfl rfl rfl rfl (aU rfl (bN rfl rfl (by omega)) (aA rfl (aNs (DC [15] [] [b6_7] 17 ?_)))))))))
   refine dt 0 3 rfl (by kernel_rfl) true rfl rfl (by simp) tk135 (fun _=>rfl) rfl rfl ?_
   refine CF 1 rfl rfl rfl (az rfl) (CF 2 rfl rfl rfl (qFA (off:=0) rfl) (CF 3 rfl rfl rfl (qFA (off:=1) rfl) ?_))
   refine dt 4 3 rfl (by kernel_rfl) true rfl rfl (by simp) tk3 (fun _=>rfl) rfl rfl ?_
   refine CF 5 rfl rfl rfl (bg rfl rfl) (CF 6 rfl rfl rfl (az rfl) (ui 7 rfl (by kernel_rfl) _ rfl rfl (fun hc=>az rfl) (ui 8 rfl (by kernel_rfl) _ rfl rfl (fun hc=>qFA (off:=0) rfl) (ui 9 rfl (by kernel_rfl) _ rfl rfl (fun hc=>qFA (off:=1) (aa rfl hc)) ?_))))
   refine dt 10 3 rfl (by kernel_rfl) _ rfl rfl (by simp) tk3 (fun hc=>(aa rfl hc)) rfl rfl ?_
   refine ui 11 rfl (by kernel_rfl) _ rfl rfl (fun hc=>az rfl) ?_
   refine ui 12 rfl (by kernel_rfl) _ rfl rfl (fun hc=>bN (aa rfl hc) (aa rfl hc) (by (first | omega | (simp at hc;omega)))) ?_
   refine ui 13 rfl (by kernel_rfl) _ rfl rfl (fun hc=>dq (aa rfl hc) (aa rfl hc)) (CF 14 rfl rfl rfl (aQ rfl rfl (fun h=>gt rfl h)) ?_)
   refine cr 15 [] (by kernel_rfl) (bD ?_ bX)
   refine c7 15 rfl rfl (Eff.framed (q:=false) [2] rfl rfl (gF 3 rfl rfl oX) (id (aW 0 tk135 rfl rfl rfl rfl (i7 (CST ?_)))))
   refine CF 16 rfl rfl rfl (bB rfl) (fg (by kernel_rfl) (an (aj ?_)))
   refine ab5 [] [0,1] rfl Tryz.results82 (mL 2 tk135 rfl rfl rfl) (aaI rfl) ?_ (.inr rfl)
   refine ⟨rfl,rfl,x.1,ad,x.2.length,cu,holds t size x.1,⟨?_,?_⟩,?_⟩
   · rw [hfx];split<;>simp [*]
   · intro y hy
     rw [hfx] at hy
     split at hy
     · obtain rfl:=Option.some.inj hy;exact ⟨rfl,j,hx,hu⟩
     · cases hy
   · rw [zY hxt]
theorem rQ.no{M:Mem}{vs:List Value}{t size:Int}{a:Ar}{u:Value}(h:rQ M vs t size a u false):dP M t size=none:=by
 cases hm:dP M t size with
 | none=>rfl
 | some x=>have:=h.1;rw [hm] at this;cases this
theorem rQ.yes{M:Mem}{vs:List Value}{t size:Int}{a:Ar}{u:Value}(h:rQ M vs t size a u true):∃ (k:Nat) (x:Cell),dP M t size=some x∧a=x.1∧M[k]? = some x∧vs[k]? = some u:=by
 cases hm:dP M t size with
 | none=>have:=h.1;rw [hm] at this;cases this
 | some x=>obtain ⟨e,k,h1,h2⟩:=h.2 x hm;exact ⟨k,x,rfl,e,h1,h2⟩
theorem tQ{ad:Option Addr}{n c:Nat}{B m cp:Nat}(h:(.slice ad n c:Value)=.slice (some ⟨B,0,none⟩) m cp):ad=some ⟨B,0,none⟩∧n=m∧c=cp:=by injection h with a b c;exact ⟨a,b,c⟩
theorem uO(p:Nat)(M:Mem)(vs:List Value)(hvs:OkV M vs)(v:Value)(t size:Int)(ht:I64 t)(hM:dI M)(hl:M.length≤4096) :
   Con Tryz.prog 63 [.pointer (some ⟨p,0,none⟩),.int .i64 t,.int .i64 size] [] (opn p v M vs) fun r ps hp=>ps=[]∧hp=opn p v M vs∧r=.tuple #[.string (bytesOf (jg M t size).1),.int .i64 (jg M t size).2]:=by
 refine EN3 Tryz.func63 rfl (aSR (aA rfl (aA rfl (aNs (ao (aSR (aM rfl (aU rfl (bg rfl rfl) (aA rfl (aNn ?_))))))))))
 refine ah _ rfl (fun h1 => ?_) (fun h1 => ?_)
 ·skip
  refine aSR (aA rfl (aA rfl (aNn (aj (bH (aN (FZ2 [0,1,2] Tryz.results63 rfl rfl ?_)))))))
  exact ⟨rfl,rfl,by unfold jg;rw [if_pos (by simpa using h1)];rfl⟩
 ·skip
  have hs0:0≤size:=by have:=(by simpa using h1:¬ size<0);omega
  refine aSR (aM rfl (aU rfl (bw rfl rfl) (aA rfl (aNn ?_))))
  refine ah _ rfl (fun h2 => ?_) (fun h2 => ?_)
  ·skip
   refine aSR (aA rfl (aA rfl (aNn (aj (bH (aN (FZ2 [0,1,2] Tryz.results63 rfl rfl ?_)))))))
   exact ⟨rfl,rfl,by unfold jg;rw [if_neg (by omega),if_pos (by simpa using h2)];rfl⟩
  ·skip
   have hs1:size≠0:=by simpa using h2
   refine ai (bo (an (aSR (aM rfl (aM rfl (aM rfl (LF rfl (EC [] [0,1] rfl (nv p M vs hvs v t size ht hM hl) ?_))))))))
   rintro _ _ _ ⟨rfl,rfl,a,ad,nb,cb,b,hF,rfl⟩
   refine aST ?_
   refine aM rfl (aU rfl (aK rfl rfl) (aU rfl (aK rfl rfl) (LT rfl (bt (zs:=[.int .i64 0,.int .i64 0,.int .i64 0,.int .i64 0,.int .i64 0,.slice none 0 0]) (by kernel_rfl) rfl (fun b5_7=>(aHN ?_))))))
   refine aI rfl (aW 3 tk135 rfl rfl rfl rfl (aHK ?_))
   refine aA rfl (aNs (aSR (aM rfl (aU rfl (bY rfl) (aNn ?_)))))
   refine ah _ rfl (fun h3 => ?_) (fun h3 => ?_)
   ·skip
    obtain rfl:b=false:=by simpa using h3
    refine aSR (aA rfl (aA rfl (aNn (aj (aN (FZ2 [0,1,2] Tryz.results63 rfl rfl ?_))))))
    exact ⟨rfl,rfl,by unfold jg;rw [if_neg (by omega),if_neg hs1,hF.no];rfl⟩
   ·skip
    obtain rfl:b=true:=by simpa using h3
    obtain ⟨k,x,hf,rfl,hx,hu⟩:=hF.yes
    obtain ⟨_,hb1,hb2,hb3⟩:=gn hf
    have hxo:=hM.ok hx
    have hxl:=hM.len x (List.mem_of_getElem? hx)
    unfold I64 at ht
    refine ai (an (aSR (aM rfl (UO 0 rfl rfl (UO 0 rfl rfl (UL 3 tk3 rfl rfl rfl rfl (aU rfl (bN rfl rfl (by omega)) (aA rfl (aNs (jr (StE.ofStars 2 k rfl (iW hx hu)) ?_))))))))))
    show awp _ _ _ _ ⟨_,_,[_,_,_,_,_]⟩
    refine eu 2 rfl (fun h0=>by have h1:=congrArg List.length h0;rw [List.length_map,List.length_nil] at h1;omega) (fun B cp hv hcp => ?_)
    obtain ⟨rfl,rfl,rfl⟩:=tQ hv
    rw [List.length_map] at hu hcp ⊢
    refine ae (UO 5 rfl rfl (UL 3 tk89 rfl rfl rfl rfl (aM rfl (aM rfl (aM rfl (aU rfl (aO rfl rfl (by omega)) (aU rfl (vL (t-x.1.at_).toNat ((t-x.1.at_).toNat+size.toNat) el89 rfl rfl rfl (by omega) (by omega) (by omega) (by omega) hcp) (aU rfl (aaB 2 x.2 Tryz.underlying89 Tryz.underlying5 Tryz.underlying9 rfl rfl (by omega)) (aA rfl (aA rfl (aNn ?_)))))))))))
    refine jr (StE.toStars 2 4 k rfl rfl (by rw [iX hvs.len];exact (List.getElem?_eq_some_iff.1 hx).1) rfl) ?_
    rw [tP (iW hx hu)]
    refine aj (FZ2 [0,1,2] Tryz.results63 rfl rfl ?_)
    exact ⟨rfl,rfl,by unfold jg;rw [if_neg (by omega),if_neg hs1,hf];show _=Value.tuple #[.string (bytesOf (rng x t size)),.int .i64 0];unfold rng;simp [Nat.add_sub_cancel_left]⟩
theorem vE{M:Mem}{vs:List Value}{k:Nat}{x:Cell}{bs:List UInt8}(hx:M[k]? = some x):cT (M.set k (x.1,bs)) vs=cT M vs:=by
 apply List.ext_getElem?
 intro i
 unfold cT
 rw [List.getElem?_zipWith,List.getElem?_zipWith,List.getElem?_set]
 by_cases e:k=i
 · subst e;rw [if_pos rfl,if_pos (List.getElem?_eq_some_iff.1 hx).1,hx];cases vs[k]? <;> rfl
 · rw [if_neg e]
theorem zp{M:Mem}{vs:List Value}{k:Nat}{u:Value}(hu:vs[k]? = some u)(y:Cell):eG (M.set k y) vs=(eG M vs).set k (aD u 5 1 (y.2.map tK)):=by
 have:=se (x:=y) (v:=u) M vs k
 rwa [tP hu] at this
theorem sL(p:Nat)(M:Mem)(vs:List Value)(hvs:OkV M vs)(v:Value)(t:Int)(s:ByteArray)(hs:s.size≤maxLen)(ht:I64 t)(hM:dI M)(hl:M.length≤4096) :
   Con Tryz.prog 187 [.pointer (some ⟨p,0,none⟩),.int .i64 t,.string s] [] (opn p v M vs) fun r ps hp=>ps=[]∧hp=opn p v (df M t (bS s)).1 vs∧(df M t (bS s)).1.length=M.length∧r=.int .i64 (df M t (bS s)).2:=by
 have hsl:(bS s).length=s.size:=j3 s
 refine EN3 Tryz.func187 rfl (aSR (aA rfl (aNs (aSR (aM rfl (aU rfl (rH rfl rfl) (aNn ?_)))))))
 refine ah _ rfl (fun h1 => ?_) (fun h1 => ?_)
 ·skip
  refine aSR (aA rfl (aNn (aj (aN (FZ1 [0,1,2] Tryz.results187 rfl ?_)))))
  have hse:s=⟨#[]⟩:=by simpa using h1
  have e:df M t (bS s)=(M,0):=by unfold df;rw [if_pos (by rw [hse];rfl)]
  rw [e];exact ⟨rfl,rfl,rfl,rfl⟩
 ·skip
  have hs0:bS s≠[]:=fun h=>by
    have h2:s.size=0:=by rw [← hsl,h];rfl
    have h3:¬ s=⟨#[]⟩:=by simpa using h1
    exact h3 (congrArg bytesOf h)
  have hs1:0<(bS s).length:=List.length_pos_iff.2 hs0
  refine ai (an (aSR (aM rfl (aM rfl (aM rfl (aU rfl (ep Tryz.underlying9 rfl) (LF rfl (EC [] [0,1] rfl (nv p M vs hvs v t s.size ht hM hl) ?_))))))))
  rintro _ _ _ ⟨rfl,rfl,a,ad,nb,cb,b,hF,rfl⟩
  refine aST ?_
  refine aM rfl (aU rfl (aK rfl rfl) (aU rfl (aK rfl rfl) (LT rfl (bt (zs:=[.int .i64 0,.int .i64 0,.int .i64 0,.int .i64 0,.int .i64 0,.slice none 0 0]) (by kernel_rfl) rfl (fun b3_8=>(aHN ?_))))))
  refine aI rfl (aW 3 tk135 rfl rfl rfl rfl (aHK ?_))
  refine aA rfl (aNs (aSR (aM rfl (aU rfl (bY rfl) (aNn ?_)))))
  refine ah _ rfl (fun h2 => ?_) (fun h2 => ?_)
  ·skip
   obtain rfl:b=false:=by simpa using h2
   refine aSR (aA rfl (aNn (aj (aN (FZ1 [0,1,2] Tryz.results187 rfl ?_)))))
   have e:df M t (bS s)=(M,6):=by unfold df;rw [if_neg hs0,hsl,hF.no]
   rw [e];exact ⟨rfl,rfl,rfl,rfl⟩
  ·skip
   obtain rfl:b=true:=by simpa using h2
   obtain ⟨k,x,hf,rfl,hx,hu⟩:=hF.yes
   obtain ⟨_,hb1,hb2,hb3⟩:=gn hf
   have hxo:=hM.ok hx
   have hxl:=hM.len x (List.mem_of_getElem? hx)
   have hkl:=(List.getElem?_eq_some_iff.1 hx).1
   unfold I64 at ht
   refine ai (an (aq (jr (StE.ofStars 2 k rfl (iW hx hu)) ?_)))
   show awp _ _ _ _ ⟨_,_,[_,_,_,_,_]⟩
   refine eu 2 rfl (fun h0=>by have h1:=congrArg List.length h0;rw [List.length_map,List.length_nil] at h1;omega) (fun B cp hv hcp => ?_)
   obtain ⟨rfl,rfl,rfl⟩:=tQ hv
   rw [List.length_map] at hu hcp ⊢
   refine ae (UO 5 rfl rfl (UL 3 tk89 rfl rfl rfl rfl (aM rfl (UO 0 rfl rfl (UO 0 rfl rfl (UL 3 tk3 rfl rfl rfl rfl (aU rfl (bN rfl rfl (by omega)) (aU rfl (jE (t-x.1.at_).toNat (x.2.length-(t-x.1.at_).toNat) (t-x.1.at_).toNat el89 rfl rfl (by omega) (by omega) hcp rfl (by omega)) (aM rfl (aI rfl (u7 2 el89 rfl rfl rfl rfl (by omega) (by omega) ?_)))))))))))
   show aL _ _ _ _ _ ⟨_,_,[_,_,_,_,_]⟩
   refine aNn (aSR (aA rfl (aNn ?_)))
   refine jr (StE.toStars 2 4 k rfl rfl (by rw [iX hvs.len];exact hkl) rfl) ?_
   refine aj (FZ1 [0,1,2] Tryz.results187 rfl ?_)
   have e:df M t (bS s)=(M.set k (x.1,fo x.2 (t-x.1.at_).toNat (bS s)),0):=by
     unfold df;rw [if_neg hs0,hsl,hf];dsimp only;rw [abR hM hx]
   rw [e]
   exact ⟨rfl,by unfold opn;rw [vE hx,zp hu];rfl,by simp,rfl⟩
theorem rz(n:Int)(k:Nat):(ot n k).length=k:=by simp [ot]
end Go.Proofs.YtfkcmbonmpcbfaaGreat

