/- Parts of the proof, in build order. No condition. -/
import Derived.Test.YtfkcmbonmpcbfaaGreatTa18
import Derived.Lib.Overlaps
import Derived.Test.YtfkcmbonmpcbfaaGreatTa05
import Derived.Test.YtfkcmbonmpcbfaaGreatTa10
import Derived.Test.YtfkcmbonmpcbfaaGreatTa08
import Derived.Test.YtfkcmbonmpcbfaaGreatTa11
import Derived.Test.YtfkcmbonmpcbfaaGreatTa15
import Derived.Test.YtfkcmbonmpcbfaaGreatTa16
set_option linter.unusedSimpArgs false
set_option linter.unusedVariables false
set_option maxHeartbeats 1000000
set_option maxRecDepth 20000
namespace Go.Sy
open Go.RowKit
section
variable {P:Program} {n:Fr} {env:Env} {ps:List Per} {hp:List Res} {d:Option Tmp} {ty:TypeId} {pos:String} {af:Array Edge} {gd:Option (Nat × Bool)} {K:Sta→Prop}
theorem y0{s:Sta}{T E:TypeId}{x y:Operand}{sz m c:Nat}{ad:Option Addr}{kk:IntKind}{z:Int}(k:Nat)(hel:elB P T E sz=true)(hx:ev s.env x=some (true,.slice ad m c))
   (hy:ev s.env y=some (true,.int kk z)) (hz:z=(k:Int)) (hk:k≤m) (hm:m≤c) :
   Quiet P n ⟨d,.slice T x (some y) none none,ty,pos,af,gd⟩ s (sliced ad k m c sz):=fun w S fp a hst he hn=>by
 have h1:=he.val hx rfl
 subst hz
 have h2:=he.val hy rfl
 obtain ⟨hT,it,hi,_,hsz,_⟩:=bY hel
 have hE:P.elem T=E:=by unfold Program.elem;rw [hT]
 have hrun:∀ w1,(execOp a.eval ⟨d,.slice T x (some y) none none,ty,pos,af,gd⟩).run P w1=.ok (.value (sliced ad k m c sz)) w1:=fun w1=>by
   unfold execOp;dsimp only;simp only [Option.map_some,Option.map_none];rw [h1,h2]
   show ((Instr.sliceAt T (.slice ad m c) (some (.int kk k)) none none).bind fun r=>Sem.pure (Next.value r)).run P w1=_
   have hT':P.underlying T=some (.slice (P.elem T)):=by rw [hT,hE]
   rw [Sem.run_bind',run_sliceAt_slice w1 T _ _ _ _ hT',run_slice_l w1 T _ m c hT' kk k (by omega) (by omega),hE,bZ hi,hsz]
   rfl
 rw [hrun];exact bB _ _
theorem xF{c:Code}{Q:Exit→Sta→Prop}{v:Value}{E:TypeId}{sz:Nat}{rows:List (List D)}(i:Nat)(hi:hp[i]? = some (az v E sz rows))(h:∀ ad cp,v=.slice ad rows.length cp→rows.length≤cp→awp P n c Q ⟨env,ps,hp⟩):awp P n c Q ⟨env,ps,hp⟩ :=
 gl (φ:=∃ ad cp,v=.slice ad rows.length cp∧rows.length≤cp) (fun w S fp hst=>by
   rcases hst.res i _ hi with ⟨h1,h2,_⟩ | ⟨B,cp,h1,⟨⟨_,_,_,_,_,hle,_⟩,_⟩⟩
   · exact ⟨none,0,by rw [h1,h2];rfl,by rw [h2];exact Nat.le_refl _⟩
   · exact ⟨_,cp,h1,hle⟩) fun ⟨ad,cp,h1,h2⟩=>h ad cp h1 h2
theorem vZ {f:FuncId} {fn:Func} {x y:Operand} {ts:Array TypeId} {T tR E E1 E2:TypeId} {sz V B o la ca lb cb:Nat} {cs1 cs2:List Value} (i j:Nat) (hf:P.funcs[f]? = some fn) (h1:(fn.name == "runtime.NumGoroutine")=false) (h2:fn.body.isNone=true) (h3:Extern.findNext fn=none) (h4:Extern.find fn=some (Extern.SlicesOverlaps.overlaps #[T,T] #[tR]))
   (hel:elB P T E sz=true) (hx:ev env x=some (true,.slice (some ⟨V,0,none⟩) la ca)) (hy:ev env y=some (true,.slice (some ⟨B,o,none⟩) lb cb)) (hi:hp[i]? = some (Box V E1 cs1)) (hj:hp[j]? = some (Box B E2 cs2)) (hij:i≠j) (h0:cs2≠[]) :
   Quiet P n ⟨d,.call ⟨.value (.func f),#[x,y],ts⟩,ty,pos,af,gd⟩ ⟨env,ps,hp⟩ (.bool false):=fun w S fp a hst he hn=>by
 have e1:=he.val hx rfl
 have e2:=he.val hy rfl
 obtain ⟨hT,it,hit,_,hsz,_⟩:=bY hel
 obtain ⟨hV,hFV⟩:=hst.res i _ hi
 obtain ⟨hB,hFB⟩:=hst.res j _ hj
 have hne:V≠B:=fun h=>by
   subst h
   exact hst.dj i j (List.getElem?_eq_some_iff.1 hi).1 (List.getElem?_eq_some_iff.1 hj).1 hij V ((hFV V).2 rfl) ((hFB V).2 rfl)
 have hsh:∀ b (T:TypeId) (l:List Value),w.heap[b]? = some (.cells l.toArray T (0,0))→w.shape? b=some (T,l.length):=fun b T l h=>by unfold World.shape?;rw [h];simp
 have hfro:∀ o,w.frozen? ⟨V,o,none⟩=false:=fun o=>by unfold World.frozen?;rw [hV];simp
 have hrun:=Lib.run_overlaps_apart (P:=P) w T tR E hT sz (fun w=>by rw [← hsz];exact bZ hit) ⟨V,0,none⟩ ⟨B,o,none⟩ la ca lb cb hne _ _ _ _ (hsh V _ _ hV) (hsh B _ _ hB) (fun h=>h0 (List.length_eq_zero_iff.1 h)) (hfro 0) (hfro _)
 have:(execOp a.eval ⟨d,.call ⟨.value (.func f),#[x,y],ts⟩,ty,pos,af,gd⟩).run P w=.ok (.value (.bool false)) w:=by
   unfold execOp
   show ((resolve a.eval ⟨.value (.func f),#[x,y],ts⟩ ty).bind fun x=>invoke x.target x.args).run P w=_
   have:resolve a.eval ⟨.value (.func f),#[x,y],ts⟩ ty=Sem.pure { target:=.fn (.func f) #[],args := #[.slice (some ⟨V,0,none⟩) la ca,.slice (some ⟨B,o,none⟩) lb cb] } := by
     have hg:a.eval (.func f)=.func (.func f) #[] #[]:=rfl
     unfold resolve
     dsimp only
     rw [hg]
     show Deferred.ofValue _ _=_
     unfold Deferred.ofValue
     dsimp only
     rw [show #[x,y].map a.eval = #[a.eval x,a.eval y] by simp,e1,e2,Array.empty_append]
     rfl
   rw [this]
   show (callFunc f (#[.slice (some ⟨V,0,none⟩) la ca,.slice (some ⟨B,o,none⟩) lb cb] ++ #[])).run P w=_
   rw [Array.append_empty,run_callFunc_extern hf h1 h2 h3 h4,hrun];rfl
 rw [this];exact bB _ _
end
end Go.Sy
namespace Go.Proofs.YtfkcmbonmpcbfaaGreat
open Go.RowKit Go.Lp Go.Sy Go.Lv
open Go.Proofs.Tryz
attribute [local irreducible] aL aB awp aC fwp Quiet
theorem qw{sz:Nat}{l:List (List Value)}(h:∀ r∈l,r.length=sz){row:List Value}(hrow:row.length=sz){cs:List Value}{i:Nat}(hi:i<l.length)(hc:(l.length+1)*sz≤cs.length)(ht:cs.take (i*sz)=(l.take i).flatten) :
   (splice (splice cs ((i+1)*sz) (l.drop i).flatten) (i*sz) row).take ((l.length+1)*sz)=(l.take i++row::l.drop i).flatten ∧
   (splice (splice cs (i*sz) row) ((i+1)*sz) (l.drop i).flatten).take ((l.length+1)*sz)=(l.take i++row::l.drop i).flatten:=by
 have hl2:(l.drop i).flatten.length=(l.length-i)*sz:=by rw [cZ _ fun r hr=>h r (List.mem_of_mem_drop hr),List.length_drop]
 have e1:(i+1)*sz=i*sz+sz:=Nat.succ_mul _ _
 have e2:(i+1)*sz+(l.length-i)*sz=(l.length+1)*sz:=by rw [← Nat.add_mul];congr 1;omega
 have e3:(i+1)*sz≤(l.length+1)*sz:=Nat.mul_le_mul_right _ (by omega)
 have hL:(l.take i).flatten.length=i*sz:=by rw [← ht,List.length_take];omega
 have hfin:(l.take i++row::l.drop i).flatten=(l.take i).flatten++row++(l.drop i).flatten:=by simp
 have hs1:=cF (cs:=cs) (seg:=(l.drop i).flatten) (o:=(i+1)*sz) (by omega)
 have hs2:=cF (cs:=cs) (seg:=row) (o:=i*sz) (by omega)
 refine ⟨?_,?_⟩
 · have e4:(splice (splice cs ((i+1)*sz) (l.drop i).flatten) (i*sz) row).take ((l.length+1)*sz)=(splice cs ((i+1)*sz) (l.drop i).flatten).take (i*sz)++(row++((splice cs ((i+1)*sz) (l.drop i).flatten).drop (i*sz+sz)).take ((l.length-i)*sz)):=by
     have:splice (splice cs ((i+1)*sz) (l.drop i).flatten) (i*sz) row=((splice cs ((i+1)*sz) (l.drop i).flatten).take (i*sz)++row)++(splice cs ((i+1)*sz) (l.drop i).flatten).drop (i*sz+sz):=by unfold splice;rw [hrow,List.append_assoc]
     rw [this,List.take_append,List.take_of_length_le (by simp;omega),List.append_assoc]
     congr 3
     simp;omega
   rw [e4,wo (by omega) (by omega),ht,← e1,uk (by omega),← hl2,List.take_left',hfin,List.append_assoc];rfl
 · rw [mB (by omega) (by omega),e1,mB (by omega) (by rw [hrow]),ht,hfin]
theorem rm(v:Value)(L:List (List Value))(lv:Option Addr)(i:Nat)(row:List Value)(hi:i≤L.length)(hm2:L.length≤4096)(hrow:row.length=6) :
   Con Tryz.prog 192 [v,.int .i64 i,.slice lv 1 1] [] [az v 135 6 (cN L),az (.slice lv 1 1) 135 6 (cN [row])] fun r ps hp=>ps=[]∧∃ ad c,r=.slice ad (L.length+1) c∧hp=[az r 135 6 (cN (L.take i++row::L.drop i))]:=by
 have hl:(cN L).length=L.length:=by unfold cN;rw [List.length_map]
 refine EN3 Tryz.func192 rfl (xF 0 rfl (fun ad cp hv hcp => ?_))
 subst hv
 refine aSR (aA rfl (aNn (aSR (aM rfl (aM rfl ?_)))))
 refine aU rfl (y0 i el115 rfl rfl rfl (by rw [hl];exact hi) hcp) ?_
 refine aNn (aSR (aM rfl (aU rfl (aY Tryz.underlying115 rfl) (aA rfl (aNs (aSR (aM rfl (aU rfl (bp rfl rfl) (aNn ?_)))))))))
 refine ah _ rfl (fun h1 => ?_) (fun h1 => ?_)
 ·skip
  exfalso;first | (simp at h1;done) | (simp at h4;done)
 ·skip
  refine ai (ak (aSR (aM rfl (aU rfl (aY Tryz.underlying115 rfl) (aA rfl (aNs (aSR (aM rfl (aM rfl (aU rfl (bp rfl rfl) (aNn ?_)))))))))))
  refine ah _ rfl (fun h2 => ?_) (fun h2 => ?_)
  ·skip
   refine aSR (aM rfl (aM rfl ?_))
   refine aJ rfl (cB 0 el115 rfl rfl (by kernel_rfl) rfl (dK 1 el115 rfl (by simp [cN])) (by simp [cN]) (by simp [cN];omega) _ rfl (fun ad2 c2 => ?_))
   refine aA rfl (aNn (aj (aK (FZ1 [0] Tryz.results192 rfl ?_))))
   have e:i=L.length:=by simp [hl] at h2;omega
   subst e
   refine ⟨rfl,ad2,c2,by congr 1;simp [cN],?_⟩
   show [az _ _ _ (cN L++cN [row])]=_
   rw [show L.take L.length++row::L.drop L.length=L++[row] by simp]
   simp [cN]
  ·skip
   have hil:i<L.length:=by simp at h2;omega
   refine dQ 0 rfl (fun h0=>by have h1:=congrArg List.length h0;rw [hl,List.length_nil] at h1;omega) (fun B cp' hv hcp2 => ?_)
   cases hv
   refine iU 0 rfl (fun sp hr hlen hmc hcm hon => ?_)
   refine dQ 1 rfl (by simp [cN]) (fun V cp2 hv hcp4 => ?_)
   cases hv
   refine iU 1 rfl (fun sp2 hr2 hlen2 hmc2 hcm2 hon2 => ?_)
   have hV:[row].flatten++sp2=row:=by
     have:sp2=[]:=List.length_eq_zero_iff.1 (by simp at hlen2;omega)
     rw [this];simp
   rw [hV]
   have hv2:(row.drop 0).take (1*6)=row:=by rw [List.drop_zero,List.take_of_length_le (by omega)]
   have hv1:∀ v∈(row.drop 0).take (1*6),v.oneCell'=true:=by rw [hv2];exact fun v hv=>hon2 v (by simpa using hv)
   have hLt:(L.take i).flatten.length=i*6:=by rw [cZ _ fun r h=>hr r (List.mem_of_mem_take h),List.length_take,Nat.min_eq_left hi]
   have hcut:=kD hr sp (k:=i) (by omega)
   have hseg:(L.drop i).flatten.length=(L.length-i)*6:=by rw [cZ _ fun r h=>hr r (List.mem_of_mem_drop h),List.length_drop]
   have hone:∀ v∈(L.drop i).flatten,v.oneCell'=true:=fun v hv=>hon v (by rw [← List.take_append_drop i L,List.flatten_append];exact List.mem_append_right _ hv)
   have hsrc:((L.flatten++sp).drop (i*6)).take ((L.length-i)*6)=(L.drop i).flatten:=by rw [hcut.2,← hseg,List.take_left'];rfl
   have hr1:∀ r∈L.take i++row::L.drop i,r.length=6:=fun r h=>by
     rcases List.mem_append.1 h with h | h
     · exact hr r (List.mem_of_mem_take h)
     · rcases List.mem_cons.1 h with rfl | h
       · exact hrow
       · exact hr r (List.mem_of_mem_drop h)
   have ho1:∀ v∈(L.take i++row::L.drop i).flatten,v.oneCell'=true:=fun v hv=>by
     obtain ⟨r,hrm,hvr⟩:=List.mem_flatten.1 hv
     rcases List.mem_append.1 hrm with h | h
     · exact hon v (List.mem_flatten.2 ⟨r,List.mem_of_mem_take h,hvr⟩)
     · rcases List.mem_cons.1 h with rfl | h
       · exact hon2 v (by simpa using hvr)
       · exact hone v (List.mem_flatten.2 ⟨r,h,hvr⟩)
   have hl1:(L.take i++row::L.drop i).length=L.length+1:=by simp;omega
   refine ai (ak (aq (aSR (aM rfl (aM rfl (aU rfl (aO rfl rfl (by omega)) (aM rfl (aU rfl (adb Tryz.underlying115 rfl) (aU rfl (db rfl rfl) (aNn ?_))))))))))
   refine ah _ rfl (fun h3 => ?_) (fun h3 => ?_)
   ·skip
    have hcp3:cp<L.length+1:=by simp [hl] at h3;omega
    refine aSR (aM rfl (aM rfl ?_))
    refine aU rfl (fJ i el115 rfl rfl rfl (by rw [hl];omega) (by rw [hl];exact hmc)) ?_
    refine aM rfl (aM rfl (aU rfl (aO rfl rfl (by omega)) (aM rfl (aU rfl (bQ rfl rfl (by omega)) ?_))))
    refine LF rfl (yB (q:=L.length+1-i) 0 el115 (zs:=[.int .i64 0,.int .i64 0,.int .i64 0,.int .i64 0,.int .i64 0,.slice none 0 0]) (by kernel_rfl) rfl rfl rfl (by kernel_rfl) rfl rfl (by simp [cN];omega) rfl rfl (by omega) (by omega) (by omega) (by omega) (by rw [hlen];omega) (fun G C zz hC hCm hzz hz1 => ?_))
    rw [show i+(L.length+1-i)=L.length+1 by omega]
    refine aA rfl (aNn (aSR (aM rfl (aM rfl ?_))))
    refine aU rfl (fj i (L.length+1-i) (i*6) el115 rfl rfl rfl (by omega) (by omega) (by omega) (by rw [if_neg (by omega),Nat.zero_add])) ?_
    refine aM rfl ?_
    refine LF rfl (jo 2 1 1 el115 rfl rfl rfl rfl rfl (Nat.min_eq_left (by omega)) (by rw [hzz];omega) (by omega) hv1 ?_)
    rw [hv2]
    refine aNs (DR [8] 9 (VM 0 rfl rfl (VM 1 rfl rfl (VM 2 rfl rfl (bV 3 rfl rfl (aO rfl rfl (by omega)) ?_)))))
    refine bV 4 rfl rfl (fj (i+1) (L.length-i) ((i+1)*6) el115 rfl rfl rfl (by omega) (by omega) (by omega) (by rw [if_neg (by omega),Nat.zero_add])) ?_
    refine VM 5 rfl rfl (VM 6 rfl rfl ?_)
    refine bV 7 rfl rfl (fj i (L.length-i) (i*6) el115 rfl rfl rfl (by rw [hl];omega) (by rw [hl];omega) (by rw [hl]) (by rw [if_neg (by omega),Nat.zero_add])) ?_
    refine VE 8 rfl rfl (jo 2 0 (L.length-i) el115 rfl rfl rfl rfl rfl (Nat.min_self _) (by rw [cF (by rw [hrow,hzz];omega),hzz];omega) (by rw [hlen];omega) (by rw [hsrc];exact hone) ?_)
    rw [hsrc]
    refine bST rfl ?_
    refine BN (ak (aq ?_))
    refine iT 2 (L.length+1) C (L.take i++row::L.drop i) rfl hl1 hr1 (qw hr hrow hil (by rw [hzz];omega) (by rw [List.take_left' (by rw [hcut.1,hLt]),hcut.1])).2 (by rw [cF (by rw [hseg,cF (by rw [hrow,hzz];omega),hzz];omega),cF (by rw [hrow,hzz];omega),hzz]) (by omega) hCm ho1 ?_
    refine ae (aM rfl (aA rfl (aNn (aj (aK (FZ1 [2] Tryz.results192 rfl ?_))))))
    exact ⟨rfl,_,_,rfl,rfl⟩
   ·skip
    have hcp3:L.length+1≤cp:=by simp [hl] at h3;omega
    refine ai (ak (aSR (aM rfl (aM rfl (aM rfl (aU rfl (aO rfl rfl (by omega)) ?_))))))
    refine aU rfl (yZ (L.length+1) el115 rfl rfl (by rw [hl];rfl) (by omega)) ?_
    refine aA rfl (aNs (aSR (aM rfl (aM rfl (aM rfl (aM rfl (aU rfl (aO rfl rfl (by omega)) ?_)))))))
    refine aU rfl (fj (i+1) (L.length-i) ((i+1)*6) el115 rfl rfl rfl (by omega) (by omega) (by omega) (by rw [if_neg (by omega),Nat.zero_add])) ?_
    refine aU rfl (vZ (tR:=4) 1 0 Tryz.func264 (by kernel_rfl) (by kernel_rfl) (by kernel_rfl) (by kernel_rfl) el115 rfl rfl rfl rfl (by decide) (fun h0=>by have h1:=congrArg List.length h0;rw [hlen,List.length_nil] at h1;omega)) ?_
    refine aU rfl (bX rfl) (aNn ?_)
    refine ah _ rfl (fun h4 => ?_) (fun h4 => ?_)
    ·skip
     refine aq (DR [8] 9 (VM 0 rfl rfl (VM 1 rfl rfl (VM 2 rfl rfl (bV 3 rfl rfl (aO rfl rfl (by omega)) ?_)))))
     refine bV 4 rfl rfl (fj (i+1) (L.length-i) ((i+1)*6) el115 rfl rfl rfl (by omega) (by omega) (by omega) (by rw [if_neg (by omega),Nat.zero_add])) ?_
     refine VM 5 rfl rfl (VM 6 rfl rfl ?_)
     refine bV 7 rfl rfl (fj i (L.length+1-i) (i*6) el115 rfl rfl rfl (by omega) (by omega) (by omega) (by rw [if_neg (by omega),Nat.zero_add])) ?_
     refine VE 8 rfl rfl (jo 0 0 (L.length-i) el115 rfl rfl rfl rfl rfl (Nat.min_eq_right (by omega)) (by rw [hlen];omega) (by rw [hlen];omega) (by rw [hsrc];exact hone) ?_)
     rw [hsrc]
     refine bST rfl ?_
     refine BN (ak (aSR (aM rfl (aM rfl ?_))))
     refine aU rfl (fj i (L.length+1-i) (i*6) el115 rfl rfl rfl (by omega) (by omega) (by omega) (by rw [if_neg (by omega),Nat.zero_add])) ?_
     refine aM rfl ?_
     refine LF rfl (jo 0 1 1 el115 rfl rfl rfl rfl rfl (Nat.min_eq_left (by omega)) (by rw [cF (by rw [hseg,hlen];omega),hlen];omega) (by omega) hv1 ?_)
     rw [hv2]
     refine aNs ?_
     refine iT 0 (L.length+1) cp (L.take i++row::L.drop i) rfl hl1 hr1 (qw hr hrow hil (by rw [hlen];omega) hcut.1).1 (by rw [cF (by rw [hrow,cF (by rw [hseg,hlen];omega),hlen];omega),cF (by rw [hseg,hlen];omega),hlen]) hcp3 hcm ho1 ?_
     refine ae (aM rfl (aA rfl (aNn (aj (aK (FZ1 [0] Tryz.results192 rfl ?_))))))
     exact ⟨rfl,_,_,rfl,rfl⟩
    ·skip
     exfalso;first | (simp at h1;done) | (simp at h4;done)
end Go.Proofs.YtfkcmbonmpcbfaaGreat

namespace Go.Proofs.YtfkcmbonmpcbfaaGreat
open Go.RowKit Go.Lp Go.Sy Go.Lv
def fZ(n:Int):Int:=if n < -1152921504606846976∨1152921504606846976<n then n else n-n % 256
def upF(n:Int):Int:=if fZ n≠n then fZ n+256 else n
def upB(n:Int):Bool:=decide (upF n=n)
def gg(n lo hi:Int):Bool:=decide (lo≤n) && decide (n≤hi)
theorem km{n lo hi:Int} : gg n lo hi=true↔lo≤n∧n≤hi:=by unfold gg;simp
def gz(k:Int):Bool:=(decide (k=0) || decide (k=1)) || decide (k=2)
def c9(k:Int):Int:=if (decide (k=1) || decide (k=2))=true then 4 else 8
def instrB(c n:Int):Bool:=gg n 0 (c-8) && decide (n.tmod 8=0)
def lT(s:ByteArray):Bool:=decide ((s.size:Int)≤64)
def kH(s:ByteArray):Bool:=decide (s=⟨#[]⟩) || ee s
def lU(im:an):Bool:=((((((((upB im.code && (upB im.data && upB im.zero)) && decide (0≤im.code)) && decide (im.code≤im.data)) && decide (im.data≤im.zero)) && decide (im.zero≤1048576)) && decide ((im.bytes.size:Int)=im.data)) && gg im.block im.tls.size 1048576) && ee im.name)
structure eZ (im:an):Prop where
 up:upB im.code=true∧upB im.data=true∧upB im.zero=true
 c0:0≤im.code
 cd:im.code≤im.data
 dz:im.data≤im.zero
 zm:im.zero≤1048576
 by_:(im.bytes.size:Int)=im.data
 bl:(im.tls.size:Int)≤im.block∧im.block≤1048576
 nm:ee im.name=true
theorem fc{im:an} : lU im=true↔eZ im:=by
 unfold lU
 simp only [Bool.and_eq_true,decide_eq_true_eq,km]
 constructor
 · rintro ⟨⟨⟨⟨⟨⟨⟨⟨h1,h2,h3⟩,h4⟩,h5⟩,h6⟩,h7⟩,h8⟩,h9⟩,h10⟩
   exact ⟨⟨h1,h2,h3⟩,h4,h5,h6,h7,h8,h9,h10⟩
 · rintro ⟨⟨h1,h2,h3⟩,h4,h5,h6,h7,h8,h9,h10⟩
   exact ⟨⟨⟨⟨⟨⟨⟨⟨h1,h2,h3⟩,h4⟩,h5⟩,h6⟩,h7⟩,h8⟩,h9⟩,h10⟩
open Go.Proofs.Tryz
attribute [local irreducible] aL aB awp aC fwp Quiet
theorem yu(n:Int)(hn:I64 n):Con Tryz.prog 244 [.int .i64 n,.int .i64 256] [] [] fun r _ _=>r=.int .i64 (fZ n):=by
 refine EN2 Tryz.func244 rfl (aSR (aA rfl (aNs (aSR (aM rfl (aU rfl (bd rfl rfl) (aM rfl (aG rfl rfl (fun hc=>ax rfl) (aG rfl rfl (fun hc=>db (aa rfl hc) rfl) (aU rfl (cC rfl rfl (fun h=>gf rfl h)) (aM rfl (aG rfl rfl (fun hc=>ax rfl) ?_))))))))))))
 refine aG rfl rfl (fun hc=>bd (aa rfl hc) rfl) (aU rfl (cC rfl rfl (fun h=>gf rfl h)) (aM rfl (aG rfl rfl (fun hc=>ax rfl) (aG rfl rfl (fun hc=>db (aa rfl hc) rfl) (aU rfl (cC rfl rfl (fun h=>gf rfl h)) (aNn ?_))))))
 refine ah _ rfl (fun h1 => ?_) (fun h1 => ?_)
 ·skip
  have hb:n < -1152921504606846976∨1152921504606846976<n:=by simp at h1;omega
  refine aSR (aM rfl (aA rfl (aNn (aj (aK (FZ1 [] Tryz.results244 rfl ?_))))))
  unfold fZ;rw [if_pos hb]
 ·skip
  have hb:¬ (n < -1152921504606846976∨1152921504606846976<n):=by simp at h1;omega
  have ht:n.tmod 256=if n % 256=0∨0≤n then n % 256 else n % 256-256:=by
    have e:(256:Int).natAbs=256:=rfl
    rw [Int.tmod_eq_emod,e];split<;>split<;>omega
  refine ai (ak (aSR (aM rfl (aM rfl (aU rfl (mz rfl rfl (by decide)) (aA rfl (aNs (aSR (aM rfl (aU rfl (bd rfl rfl) (aNn ?_)))))))))))
  refine ah _ rfl (fun h2 => ?_) (fun h2 => ?_)
  ·skip
   have hneg:n.tmod 256<0:=by simpa using h2
   have ht2:n.tmod 256+256=n % 256:=by rw [ht] at hneg ⊢;split at hneg<;>omega
   refine ae (aM rfl (aM rfl (aU rfl (aO rfl rfl (by omega)) (aA rfl (aNn (aSR (aM rfl (aM rfl (aU rfl (bQ rfl rfl (by omega)) (aA rfl (aNn (aj (FZ1 [] Tryz.results244 rfl ?_)))))))))))))
   unfold fZ;rw [if_neg hb,← ht2]
  ·skip
   have hneg:¬ n.tmod 256<0:=by simpa using h2
   have ht2:n.tmod 256=n % 256:=by rw [ht] at hneg ⊢;split at hneg<;>omega
   refine ai (ak (aSR (aM rfl (aM rfl (aU rfl (bQ rfl rfl (by omega)) (aA rfl (aNn (aj (FZ1 [] Tryz.results244 rfl ?_)))))))))
   unfold fZ;rw [if_neg hb,← ht2]
theorem wJ(n:Int)(hn:I64 n):Con Tryz.prog 141 [.int .i64 n,.int .i64 256] [] [] fun r _ _=>r=.int .i64 (upF n):=by
 have hd:fZ n=n∨fZ n≤1152921504606846976:=by unfold fZ;split<;>omega
 have hd2:fZ n≠n → -1152921504606846976-256≤fZ n:=by unfold fZ;split<;>omega
 refine EN2 Tryz.func141 rfl (aSR (aA rfl (aNs (aSR (aM rfl (aM rfl (aU rfl (Q0 rfl (yu n hn)) (aA rfl (aNn (aSR (aM rfl (aM rfl (aU rfl (dE rfl rfl) (aNn ?_))))))))))))))
 refine ah _ rfl (fun h1 => ?_) (fun h1 => ?_)
 ·skip
  have hb:fZ n≠n:=by simpa using h1
  have hd3:=hd2 hb
  refine aSR (aM rfl (aM rfl (aU rfl (aO rfl rfl (by omega)) (aA rfl (aNn (aj (aK (FZ1 [] Tryz.results141 rfl ?_))))))))
  unfold upF;rw [if_pos hb]
 ·skip
  have hb:¬ fZ n≠n:=by simpa using h1
  refine ai (ak (aSR (aM rfl (aA rfl (aNn (aj (FZ1 [] Tryz.results141 rfl ?_)))))))
  unfold upF;rw [if_neg hb]
theorem uX(i n:Int)(hn:I64 n):Con Tryz.prog 140 [.int .i64 i,.int .i64 n] [] [] fun r _ _=>r=.bool (upB n):=by
 refine EN2 Tryz.func140 rfl (aSR (aA rfl (aNn (aSR (aM rfl (aU rfl (Q0 rfl (wJ n hn)) (aM rfl (aU rfl (bp rfl rfl) (aA rfl (aNn (aj (FZ1 [] Tryz.results140 rfl ?_))))))))))))
 rfl
theorem fH(s:ByteArray)(hs:s.size≤maxLen):Con Tryz.prog 143 [.string s] [] [] fun r _ _=>r=.bool (ee s):=by
 have hok:∀ ps:List Per,Ent ps (aN.ok ⟨s,⟨none,0,[]⟩⟩):=fun ps w S hp=>⟨hs,er.e none 0 (Nat.zero_le _),fun x hx=>by cases hx⟩
 refine EN1 Tryz.func143 rfl (aSR (aA rfl (aNn (aSR (aM rfl (aU rfl (eH (l:=[(0,.tmp 3)]) (zs:=[.string .empty,.slice none 0 0]) (pl:=[(0,1),(1,1)]) (by kernel_rfl) (by kernel_rfl) (by kernel_rfl) rfl rfl rfl) (LT rfl (WL (zs:=[.string .empty,.slice none 0 0]) el29 rfl rfl rfl (.more rfl (.v rfl (.v rfl .nil)) .nil) rfl rfl (fun v1_2=>(aHN ?_))))))))))
 refine iQ 0 rfl ?_
 refine LT rfl (EC [0] [] rfl ((oc ⟨v1_2,1,[⟨s,⟨none,0,[]⟩⟩]⟩).pre (fun p hp=>by
   rcases List.mem_cons.1 hp with rfl | hp
   · exact .of (aF 0 rfl)
   · rw [List.mem_singleton.1 hp]
     exact fun w S hp x hx=>(by rw [List.mem_singleton.1 hx];exact hok _ w S hp))) ?_)
 rintro _ _ _ ⟨⟨rfl,rfl⟩,b,rfl,hb1,hb2⟩
 refine aST ?_
 refine aA rfl (aNn (aj (FZ1 [] Tryz.results143 rfl (congrArg Value.bool ?_))))
 cases hn:ee s with
 | true=>exact hb2 ⟨Nat.le_refl _,fun d hd=>by rw [List.mem_singleton.1 hd];exact hn,fun d hd=>by rw [List.mem_singleton.1 hd]⟩
 | false =>
   cases b with
   | false=>rfl
   | true=>have:=(hb1 rfl).nm _ (List.mem_singleton.2 rfl);rw [hn] at this;cases this
theorem iz(s:ByteArray)(hs:s.size≤maxLen):Con Tryz.prog 153 [.string s] [] [] fun r _ _=>r=.bool (kH s):=by
 refine EN1 Tryz.func153 rfl (aSR (aA rfl (aNn (aSR (aM rfl (aU rfl (rR rfl rfl) (aM rfl (aG rfl rfl (fun hc=>ax rfl) (aG rfl rfl (fun hc=>Q0 (aD (aa rfl hc) rfl) (fH s hs)) (aU rfl (cC rfl rfl (fun h=>gf rfl h)) (aA rfl (aNn (aj (FZ1 [] Tryz.results153 rfl ?_))))))))))))))
 rfl
theorem gY(s:ByteArray):Con Tryz.prog 163 [.string s] [] [] fun r _ _=>r=.bool (lT s):=by
 refine EN1 Tryz.func163 rfl (aSR (aA rfl (aNn (aSR (aM rfl (aU rfl (eY Tryz.underlying9 rfl) (aU rfl (di rfl rfl) (aA rfl (aNn (aj (FZ1 [] Tryz.results163 rfl ?_)))))))))))
 rfl
theorem cE(n lo hi:Int):Con Tryz.prog 142 [.int .i64 n,.int .i64 lo,.int .i64 hi] [] [] fun r _ _=>r=.bool (gg n lo hi):=by
 refine EN3 Tryz.func142 rfl (aSR (aA rfl (aNn (aSR (aM rfl (aM rfl (aU rfl (dY rfl rfl) (aM rfl (aG rfl rfl (fun hc=>ax rfl) (aG rfl rfl (fun hc=>ax rfl) (aG rfl rfl (fun hc=>di (aa rfl hc) (aa rfl hc)) (aU rfl (aT rfl rfl (fun h=>gt rfl h)) (aA rfl (aNn (aj ?_)))))))))))))))
 refine FZ1 [] Tryz.results142 rfl ?_
 rfl
theorem yb(k:Int):Con Tryz.prog 99 [.int .i64 k] [] [] fun r _ _=>r=.bool (gz k):=by
 refine EN1 Tryz.func99 rfl (aSR (aA rfl (aNn (aSR (aM rfl (aU rfl (bp rfl rfl) (aM rfl (aG rfl rfl (fun hc=>ax rfl) (aG rfl rfl (fun hc=>bp (aa rfl hc) rfl) (aU rfl (cC rfl rfl (fun h=>gf rfl h)) (aM rfl (aG rfl rfl (fun hc=>ax rfl) (aG rfl rfl (fun hc=>bp (aa rfl hc) rfl) ?_)))))))))))))
 refine aU rfl (cC rfl rfl (fun h=>gf rfl h)) (aA rfl (aNn (aj (FZ1 [] Tryz.results99 rfl ?_))))
 rfl
theorem n3(k:Int):Con Tryz.prog 156 [.int .i64 k] [] [] fun r _ _=>r=.int .i64 (c9 k):=by
 refine EN1 Tryz.func156 rfl (aSR (aA rfl (aNs (aSR (aM rfl (aU rfl (bp rfl rfl) (aM rfl (aG rfl rfl (fun hc=>ax rfl) (aG rfl rfl (fun hc=>bp (aa rfl hc) rfl) (aU rfl (cC rfl rfl (fun h=>gf rfl h)) (aNn ?_)))))))))))
 refine ah _ rfl (fun h1 => ?_) (fun h1 => ?_)
 ·skip
  refine aSR (aA rfl (aNn (aj (aK (FZ1 [] Tryz.results156 rfl ?_)))))
  unfold c9;rw [if_pos h1]
 ·skip
  refine ai (ak (aSR (aA rfl (aNn (aj (FZ1 [] Tryz.results156 rfl ?_))))))
  unfold c9;rw [if_neg (by rw [h1];decide)]
theorem con_instr(im:an)(hc:0≤im.code∧im.code≤9223372036854775807)(n:Int):Con Tryz.prog 147 [im.val,.int .i64 n] [] [] fun r _ _=>r=.bool (instrB im.code n):=by
 refine EN2 Tryz.func147 rfl (aSR (LT rfl (bC rfl rfl rfl (fun b0_0=>(aHN ?_)))))
 refine aA rfl (aNn (aSR (aM rfl (UO 2 rfl rfl (UL 0 tk3 rfl rfl rfl rfl (aU rfl (bQ rfl rfl (by omega)) (aU rfl (Q0 rfl (cE n 0 (im.code-8))) (aM rfl (aG rfl rfl (fun hc=>ax rfl) (aG rfl rfl (fun hc=>mz (aa rfl hc) rfl (by decide)) (aG rfl rfl (fun hc=>bp (aa rfl hc) rfl) (aU rfl (aT rfl rfl (fun h=>gt rfl h)) (aA rfl (aNn (aj ?_)))))))))))))))
 refine FZ1 [] Tryz.results147 rfl ?_
 rfl
theorem yj(im:an)(hn:im.name.size≤maxLen)(hi:I64 im.code∧I64 im.data∧I64 im.zero):Con Tryz.prog 65 [im.val] [] [] fun r _ _=>r=.bool (lU im):=by
 refine EN1 Tryz.func65 rfl (aSR (LT rfl (bC rfl rfl rfl (fun b0_0=>(aHN ?_)))))
 refine aA rfl (aNn (aSR (UO 2 rfl rfl (UL 0 tk3 rfl rfl rfl rfl (UO 3 rfl rfl (UL 0 tk3 rfl rfl rfl rfl (UO 4 rfl rfl (UL 0 tk3 rfl rfl rfl rfl (LT rfl (WL (zs:=[.int .i64 0]) el26 rfl rfl rfl (.more rfl (.v rfl .nil) (.more rfl (.v rfl .nil) (.more rfl (.v rfl .nil) .nil))) rfl rfl (fun v1_6=>(aHN ?_))))))))))))
 refine iQ 1 rfl ?_
 refine LT rfl (EC [0,0] [] rfl ((iy ⟨v1_6,3,[im.code,im.data,im.zero]⟩ 140 [] (ShF (fun z=>[.v (.int .i64 z)]) ⟨v1_6,3,[im.code,im.data,im.zero]⟩) (fun _ n=>upB n) (by kernel_rfl) (fun i a ha=>(uX i a (by
   have:=List.mem_of_getElem? ha
   simp at this
   rcases this with rfl | rfl | rfl
   · exact hi.1
   · exact hi.2.1
   · exact hi.2.2)).pre (fun _ h=>by cases h)))) ?_)
 rintro _ _ _ ⟨rfl,rfl,rfl⟩
 refine aST ?_
 refine aA rfl (aNn (aSR (aM rfl (aM rfl (GO 2 rfl rfl rfl (GL 0 tk3 rfl rfl rfl rfl rfl (aG rfl rfl (fun hc=>di rfl (aa rfl hc)) (aU rfl (aT rfl rfl (fun h=>gt rfl h)) (aM rfl (GO 2 rfl rfl rfl (GL 0 tk3 rfl rfl rfl rfl rfl (GO 3 rfl rfl rfl ?_))))))))))))
 refine GL 0 tk3 rfl rfl rfl rfl rfl (aG rfl rfl (fun hc=>di (aa rfl hc) (aa rfl hc)) (aU rfl (aT rfl rfl (fun h=>gt rfl h)) (aM rfl (GO 3 rfl rfl rfl (GL 0 tk3 rfl rfl rfl rfl rfl (GO 4 rfl rfl rfl (GL 0 tk3 rfl rfl rfl rfl rfl (aG rfl rfl (fun hc=>di (aa rfl hc) (aa rfl hc)) (aU rfl (aT rfl rfl (fun h=>gt rfl h)) (aM rfl (GO 4 rfl rfl rfl (GL 0 tk3 rfl rfl rfl rfl rfl (aG rfl rfl (fun hc=>di (aa rfl hc) rfl) (aU rfl (aT rfl rfl (fun h=>gt rfl h)) (aM rfl ?_)))))))))))))))
 refine GO 5 rfl rfl rfl (GL 0 tk9 rfl rfl rfl rfl rfl (aG rfl rfl (fun hc=>eY Tryz.underlying9 (aa rfl hc)) (GO 3 rfl rfl rfl (GL 0 tk3 rfl rfl rfl rfl rfl (aG rfl rfl (fun hc=>bp (aa rfl hc) (aa rfl hc)) (aU rfl (aT rfl rfl (fun h=>gt rfl h)) (aM rfl (GO 7 rfl rfl rfl (GL 0 tk3 rfl rfl rfl rfl rfl (GO 6 rfl rfl rfl (GL 0 tk9 rfl rfl rfl rfl rfl (aG rfl rfl (fun hc=>eY Tryz.underlying9 (aa rfl hc)) (aG rfl rfl (fun hc=>dX (by kernel_rfl) (aD (aa rfl hc) (aD (aa rfl hc) (aD (aa rfl rfl) rfl))) (fun w S fp hst=>(cE _ _ _).quiet0 hst)) (aU rfl (aT rfl rfl (fun h=>gt rfl h)) (aM rfl ?_)))))))))))))))
 refine GO 0 rfl rfl rfl (GL 0 tk9 rfl rfl rfl rfl rfl (aG rfl rfl (fun hc=>Q0 (aD (aa rfl hc) rfl) (fH _ hn)) (aU rfl (aT rfl rfl (fun h=>gt rfl h)) (aA rfl (aNn (aj (FZ1 [] Tryz.results65 rfl (congrArg Value.bool ?_))))))))
 unfold lU
 simp [allI]
theorem abp{n:Int}(h:0≤n)(h2:n≤1152921504606846976):upF n=n↔n % 256=0:=by
 have hd:fZ n=n-n % 256:=by unfold fZ;rw [if_neg (by omega)]
 unfold upF
 rw [hd]
 split<;>omega
theorem vf(a:Ar)(ha:I64 a.at_):Con Tryz.prog 190 [sg a] [] [] fun r _ _=>r=.bool (eJ a):=by
 refine EN1 Tryz.func190 rfl (aSR (LT rfl (bC rfl rfl rfl (fun b0_0=>(aHN ?_)))))
 refine aA rfl (aNs (DR [] 17 (VO 0 0 rfl rfl rfl (VL 1 0 tk3 rfl rfl rfl rfl rfl (bV 2 rfl rfl (dY rfl rfl) (VM 3 rfl rfl (bW 4 rfl rfl rfl (fun hc=>qFA (off:=0) rfl) (bW 5 rfl rfl rfl (fun hc=>bS 0 tk3 (aa rfl hc) rfl rfl) (bW 6 rfl rfl rfl (fun hc=>bd (aa rfl hc) rfl) (bV 7 rfl rfl (aT rfl rfl (fun h=>gt rfl h)) (VM 8 rfl rfl (bW 9 rfl rfl rfl (fun hc=>qFA (off:=0) rfl) (bW 10 rfl rfl rfl (fun hc=>bS 0 tk3 (aa rfl hc) rfl rfl) (bW 11 rfl rfl rfl (fun hc=>Q0 (aD (aa rfl hc) (aD (aa rfl rfl) rfl)) (wJ a.at_ ha)) (bW 12 rfl rfl rfl (fun hc=>qFA (off:=0) rfl) ?_)))))))))))))))
 refine bW 13 rfl rfl rfl (fun hc=>bS 0 tk3 (aa rfl hc) rfl rfl) (bW 14 rfl rfl rfl (fun hc=>bp (aa rfl hc) (aa rfl hc)) (bV 15 rfl rfl (aT rfl rfl (fun h=>gt rfl h)) (bV 16 rfl rfl (bz rfl) (BN (ak (aSR (aM rfl (aM rfl (GO 1 rfl rfl rfl (GL 0 tk3 rfl rfl rfl rfl rfl (aG rfl rfl (fun hc=>dY (aa rfl hc) rfl) (aU rfl (aT rfl rfl (fun h=>gt rfl h)) (aM rfl (GO 1 rfl rfl rfl ?_))))))))))))))
 refine GL 0 tk3 rfl rfl rfl rfl rfl (aG rfl rfl (fun hc=>di (aa rfl hc) rfl) (aU rfl (aT rfl rfl (fun h=>gt rfl h)) (aM rfl (GO 0 rfl rfl rfl (GL 0 tk3 rfl rfl rfl rfl rfl (GO 1 rfl rfl rfl (GL 0 tk3 rfl rfl rfl rfl rfl ?_)))))))
 refine aG rfl rfl (fun hc=>aO (aa rfl hc) (aa rfl hc) (by (first | omega | (simp at hc;omega)))) ?_
 refine aG rfl rfl (fun hc=>di (aa rfl hc) rfl) (aU rfl (aT rfl rfl (fun h=>gt rfl h)) (aM rfl (GO 2 rfl rfl rfl (GL 0 tk3 rfl rfl rfl rfl rfl (aG rfl rfl (fun hc=>dY (aa rfl hc) rfl) (aU rfl (aT rfl rfl (fun h=>gt rfl h)) (aM rfl (GO 2 rfl rfl rfl (GL 0 tk3 rfl rfl rfl rfl rfl (aG rfl rfl (fun hc=>bd (aa rfl hc) rfl) (aU rfl (aT rfl rfl (fun h=>gt rfl h)) (aA rfl (aNn (aj (FZ1 [] Tryz.results190 rfl ?_)))))))))))))))
 congr 1
 rw [Bool.eq_iff_iff,cU]
 simp only [Bool.and_eq_true,decide_eq_true_eq]
 constructor
 · rintro ⟨⟨⟨⟨⟨⟨⟨h1,h2⟩,h3⟩,h4⟩,h5⟩,h6⟩,h7⟩,h8⟩
   exact ⟨h1,h2,(abp (by omega) (by omega)).1 h3,h4,h5,h6,h7,h8⟩
 · rintro ⟨h1,h2,h3,h4,h5,h6,h7,h8⟩
   exact ⟨⟨⟨⟨⟨⟨⟨h1,h2⟩,(abp (by omega) (by omega)).2 h3⟩,h4⟩,h5⟩,h6⟩,h7⟩,h8⟩
theorem xy{α β γ:Type}(f:α→β→γ)(l:List α)(m:List β){x:α}{y:β}(h:m.length=l.length)(k:Nat):List.zipWith f (l.take k++x::l.drop k) (m.take k++y::m.drop k)=(List.zipWith f l m).take k++f x y::(List.zipWith f l m).drop k:=by
 rw [List.zipWith_append (by simp [h]),List.zipWith_cons_cons,List.take_zipWith,List.drop_zipWith]
theorem xf{α:Type}{l:List α}{k:Nat}(h:k≤l.length){x y:α} : (l.take k++x::l.drop k).set k y=l.take k++y::l.drop k:=by
 rw [List.set_append_right _ _ (by rw [List.length_take];omega),show k-(l.take k).length=0 by rw [List.length_take];omega];rfl
theorem qH{w:World}{S:aW} : ∀ (L:List Res) (k:Nat) (F:aW),(bR L).holds w S F→(bR (L.take k++emp::L.drop k)).holds w S F
 | [],k,F,h=>by rw [List.take_nil,List.drop_nil];exact pf h
 | A::L,0,F,h=>pf h
 | A::L,k+1,F,h=>en h fun F h=>qH L k F h
theorem yp(p:Nat)(M:Mem)(vs:List Value)(hvs:OkV M vs)(v:Value)(a:Ar)(ha:I64 a.at_)(hM:dC M)(hl:M.length≤4096) :
   Con Tryz.prog 79 [.pointer (some ⟨p,0,none⟩),sg a] [] (opn p v M vs) fun r ps hp=>∃ (M':Mem) (v':Value) (vs':List Value) (L:List Res),vs'.length=M'.length∧hp=opn p v' M' vs'++L∧(ps=[]∧L=[]∧M'=(mapM M a).1∧r=.int .i64 (mapM M a).2):=by
 have hlr:=eh hvs.len
 obtain ⟨y,hy⟩:∃ f:Nat→Cell,∀ j,j<M.length→M[j]? = some (f j):=⟨fun j=>M[j]?.getD ⟨default,[]⟩,fun j hj=>by simp [hj]⟩
 obtain ⟨u,hu⟩:∃ f:Nat→Value,∀ j,j<M.length→vs[j]? = some (f j):=⟨fun j=>vs[j]?.getD default,fun j hj=>by simp [show j<vs.length by have:=hvs.len;omega]⟩
 refine EN2 Tryz.func79 rfl (aSR (LT rfl (bC rfl rfl rfl (fun b0_0=>(aHN ?_)))))
 refine aA rfl (aNs (aSR (UL 3 tk68 rfl rfl rfl rfl (aU rfl (Q0 rfl (vf a ha)) (aU rfl (bX rfl) (aNn ?_))))))
 refine ah _ rfl (fun h1 => ?_) (fun h1 => ?_)
 ·skip
  have hr:eJ a=false:=by simpa using h1
  refine aSR (aA rfl (aNn (aj (aK (FZ1 [0,1,2] Tryz.results79 rfl ?_)))))
  refine ⟨M,v,vs,[],hvs.len,rfl,rfl,rfl,?_⟩
  unfold mapM;rw [if_pos hr];exact ⟨rfl,rfl⟩
 ·skip
  have hr:eJ a=true:=by simpa using h1
  have hA:=cU.1 hr
  refine ai (ak (aSR (aM rfl (UO 0 rfl rfl (UL 3 tk3 rfl rfl rfl rfl (LF rfl (EC [] [0,1] rfl (iC p M vs hvs v a.at_ hM hl) ?_)))))))
  rintro _ _ _ ⟨rfl,rfl,k,hk,rfl⟩
  refine aST ?_
  have hkl:=hk.le
  have hmt:M.any (meets a)=true↔(jT M a.at_ k=true∨(k<M.length∧(y k).1.at_<a.at_+a.size)∨(0<k∧a.at_<(y (k-1)).1.at_+(y (k-1)).1.size)):=by
    rw [hM.meet (by omega) hk]
    refine or_congr_right (or_congr ⟨fun ⟨x,hx,h⟩ => ?_,fun ⟨h1,h2⟩=>⟨_,hy k h1,h2⟩⟩ ⟨fun ⟨j,x,hj,hx,h⟩ => ?_,fun ⟨h1,h2⟩=>⟨k-1,_,by omega,hy (k-1) (by omega),h2⟩⟩)
    · have h1:=(List.getElem?_eq_some_iff.1 hx).1
      rw [hy k h1] at hx;cases hx;exact ⟨h1,h⟩
    · subst hj
      rw [show j+1-1=j by omega]
      rw [hy j (by omega)] at hx;cases hx;exact ⟨by omega,h⟩
  refine aM rfl (aU rfl (aI rfl rfl) (aU rfl (aI rfl rfl) (aA rfl (aA rfl (aNs (aq (DR [] 57 (VM 0 rfl rfl (VM 1 rfl rfl (bW 2 rfl rfl rfl (fun hc=>ax rfl) (bW 3 rfl rfl rfl (fun hc=>ax rfl) (bW 4 rfl rfl rfl (fun hc=>b8 (aa rfl hc)) (bW 5 rfl rfl rfl (fun hc=>qFA (off:=0) (aa rfl hc)) (bW 6 rfl rfl rfl (fun hc=>bS 0 tk115 (aa rfl hc) rfl rfl) (bW 7 rfl rfl rfl (fun hc=>dA 1 Tryz.underlying115 (aa rfl hc) rfl) ?_)))))))))))))))
  refine bW 8 rfl rfl rfl (fun hc=>bd (aa rfl hc) (aa rfl hc)) (bW 9 rfl rfl rfl (fun hc=>ax (aa rfl hc)) (bW 10 rfl rfl rfl (fun hc=>ax rfl) (bW 11 rfl rfl rfl (fun hc=>b8 (aa rfl hc)) (bW 12 rfl rfl rfl (fun hc=>qFA (off:=0) (aa rfl hc)) (bW 13 rfl rfl rfl (fun hc=>bS 0 tk115 (aa rfl hc) rfl rfl) (bW 14 rfl rfl rfl (fun hc=>ax rfl) ?_))))))
  refine bW 15 rfl rfl rfl (fun hc=>bA 1 k el115 (aa rfl hc) rfl (aa rfl hc) rfl (by rw [hlr];simp [hlr] at hc;omega)) ?_
  refine bW 16 rfl rfl rfl (fun hc=>qFA (off:=0) (aa rfl hc)) (bW 17 rfl rfl rfl (fun hc=>qFA (off:=0) (aa rfl hc)) ?_)
  refine bW 18 rfl rfl rfl (fun hc=>ba 1 k 0 tk3 (aa rfl hc) rfl (ef (hy k (by simp [hlr] at hc;omega)) (hu k (by simp [hlr] at hc;omega))) rfl rfl) ?_
  refine bW 19 rfl rfl rfl (fun hc=>qFA (off:=0) rfl) (bW 20 rfl rfl rfl (fun hc=>bS 3 tk3 (aa rfl hc) rfl rfl) (bW 21 rfl rfl rfl (fun hc=>qFA (off:=1) rfl) (bW 22 rfl rfl rfl (fun hc=>bS 3 tk3 (aa rfl hc) rfl rfl) ?_)))
  refine bW 23 rfl rfl rfl (fun hc=>aO (aa rfl hc) (aa rfl hc) (by (first | omega | (simp at hc;omega)))) ?_
  refine bW 24 rfl rfl rfl (fun hc=>bd (aa rfl hc) (aa rfl hc)) (bW 25 rfl rfl rfl (fun hc=>aT (aa rfl hc) rfl (fun h=>gt hc h)) (bV 26 rfl rfl (cC rfl rfl (fun h=>gf rfl h)) (VM 27 rfl rfl (bW 28 rfl rfl rfl (fun hc=>ax rfl) (bW 29 rfl rfl rfl (fun hc=>db (aa rfl hc) rfl) (bW 30 rfl rfl rfl (fun hc=>ax (aa rfl hc)) (bW 31 rfl rfl rfl (fun hc=>ax rfl) (bW 32 rfl rfl rfl (fun hc=>b8 (aa rfl hc)) (bW 33 rfl rfl rfl (fun hc=>qFA (off:=0) (aa rfl hc)) (bW 34 rfl rfl rfl (fun hc=>bS 0 tk115 (aa rfl hc) rfl rfl) (bW 35 rfl rfl rfl (fun hc=>ax rfl) ?_)))))))))))
  refine bW 36 rfl rfl rfl (fun hc=>bQ (aa rfl hc) rfl (by (first | omega | (simp at hc;omega)))) ?_
  refine bW 37 rfl rfl rfl (fun hc=>bA 1 (k-1) el115 (aa rfl hc) rfl (aa rfl hc) (by simp [hlr] at hc;omega) (by rw [hlr];simp [hlr] at hc;omega)) ?_
  refine bW 38 rfl rfl rfl (fun hc=>qFA (off:=0) (aa rfl hc)) (bW 39 rfl rfl rfl (fun hc=>qFA (off:=0) (aa rfl hc)) ?_)
  refine bW 40 rfl rfl rfl (fun hc=>ba 1 (k-1) 0 tk3 (aa rfl hc) rfl (ef (hy (k-1) (by simp [hlr] at hc;omega)) (hu (k-1) (by simp [hlr] at hc;omega))) rfl rfl) ?_
  refine bW 41 rfl rfl rfl (fun hc=>ax rfl) (bW 42 rfl rfl rfl (fun hc=>b8 (aa rfl hc)) (bW 43 rfl rfl rfl (fun hc=>qFA (off:=0) (aa rfl hc)) (bW 44 rfl rfl rfl (fun hc=>bS 0 tk115 (aa rfl hc) rfl rfl) (bW 45 rfl rfl rfl (fun hc=>ax rfl) ?_))))
  refine bW 46 rfl rfl rfl (fun hc=>bQ (aa rfl hc) rfl (by (first | omega | (simp at hc;omega)))) ?_
  refine bW 47 rfl rfl rfl (fun hc=>bA 1 (k-1) el115 (aa rfl hc) rfl (aa rfl hc) (by simp [hlr] at hc;omega) (by rw [hlr];simp [hlr] at hc;omega)) ?_
  refine bW 48 rfl rfl rfl (fun hc=>qFA (off:=0) (aa rfl hc)) (bW 49 rfl rfl rfl (fun hc=>qFA (off:=1) (aa rfl hc)) ?_)
  refine bW 50 rfl rfl rfl (fun hc=>ba 1 (k-1) 1 tk3 (aa rfl hc) rfl (ef (hy (k-1) (by simp [hlr] at hc;omega)) (hu (k-1) (by simp [hlr] at hc;omega))) rfl rfl) ?_
  refine bW 51 rfl rfl rfl (fun hc=>aO (aa rfl hc) (aa rfl hc) (by have:=hM.ok (hy (k-1) (by simp [hlr] at hc;omega));omega)) ?_
  refine bW 52 rfl rfl rfl (fun hc=>qFA (off:=0) rfl) (bW 53 rfl rfl rfl (fun hc=>bS 3 tk3 (aa rfl hc) rfl rfl) (bW 54 rfl rfl rfl (fun hc=>db (aa rfl hc) (aa rfl hc)) (bW 55 rfl rfl rfl (fun hc=>aT (aa rfl hc) rfl (fun h=>gt hc h)) (bV 56 rfl rfl (cC rfl rfl (fun h=>gf rfl h)) (BN (ak ?_))))))
  refine ah _ rfl (fun h2 => ?_) (fun h2 => ?_)
  ·skip
   have hany:M.any (meets a)=true:=hmt.2 (by simp [hlr,or_assoc] at h2;exact h2)
   refine aSR (aA rfl (aNn (aj (aK (FZ1 [0,1,2] Tryz.results79 rfl ?_)))))
   refine ⟨M,v,vs,[],hvs.len,rfl,rfl,rfl,?_⟩
   unfold mapM;rw [if_neg (by rw [hr];decide),if_pos hany];exact ⟨rfl,rfl⟩
  ·skip
   have hany:¬ M.any (meets a)=true:=fun hh=>by
     simp [hlr] at h2
     rcases hmt.1 hh with h | ⟨h3,h4⟩ | ⟨h3,h4⟩
     · rw [h] at h2;exact absurd h2.1.1 (by decide)
     · have:=h2.1.2 h3;omega
     · have:=h2.2 h3;omega
   refine ai (ak (aq (aSR (aM rfl (UN rfl rfl (UO 0 rfl rfl (UL 0 tk115 rfl rfl rfl rfl (aU rfl (dA 1 Tryz.underlying115 rfl rfl) (aU rfl (dY rfl rfl) (aNn ?_))))))))))
   refine ah _ rfl (fun h3 => ?_) (fun h3 => ?_)
   ·skip
    refine aSR (aA rfl (aNn (aj (aK (FZ1 [0,1,2] Tryz.results79 rfl ?_)))))
    refine ⟨M,v,vs,[],hvs.len,rfl,rfl,rfl,?_⟩
    unfold mapM;rw [if_neg (by rw [hr];decide),if_neg hany,if_pos (by simp [hlr] at h3;omega)];exact ⟨rfl,rfl⟩
   ·skip
    refine ai (ak (aq ?_))
    rw [kM]
    refine DC [12,15] [15] [p,b0_0] 16 (CF 0 rfl rfl rfl (ax rfl) (CF 1 rfl rfl rfl (ax rfl) (CF 2 rfl rfl rfl (b8 rfl) (CF 3 rfl rfl rfl (qFA (off:=0) rfl) ?_))))
    refine cq 4 0 rfl (by kernel_rfl) true rfl rfl (by simp) tk115 (fun _=>rfl) rfl rfl ?_
    refine CF 5 rfl rfl rfl (ax rfl) ?_
    refine cq 6 3 rfl (by kernel_rfl) true rfl rfl (by simp) tk68 (fun _=>rfl) rfl rfl ?_
    refine CF 7 rfl rfl rfl (qFA (off:=1) rfl) ?_
    refine cq 8 3 rfl (by kernel_rfl) true rfl rfl (by simp) tk3 (fun _=>rfl) rfl rfl ?_
    refine bP 9 [] (by kernel_rfl) (bo ?_ bD)
    refine cj 9 rfl rfl (Eff.x (id (fL (m:=a.size.toNat) (zs:=[.int .u8 0]) el89 (by kernel_rfl) rfl (by decide) (cY rfl (by omega)) (cY rfl (by omega)) (by omega) rfl (fun v8_9=>(CST ?_)))))
    refine CF 10 rfl rfl rfl (eH (l:=[(0,.tmp 86),(1,.tmp 89)]) (zs:=[.int .i64 0,.int .i64 0,.int .i64 0,.int .i64 0,.int .i64 0,.slice none 0 0]) (pl:=[(0,5),(5,1)]) (by kernel_rfl) (by kernel_rfl) (by kernel_rfl) rfl rfl rfl) ?_
    refine bP 11 [] (by kernel_rfl) (bo ?_ bD)
    refine cj 11 rfl rfl (Eff.x (id (WL (zs:=[.int .i64 0,.int .i64 0,.int .i64 0,.int .i64 0,.int .i64 0,.slice none 0 0]) el115 rfl rfl rfl (.more rfl (.v rfl (.v rfl (.v rfl (.v rfl (.v rfl (.v rfl .nil)))))) .nil) rfl rfl (fun v8_11=>(CST ?_)))))
    refine bP 12 [] (by kernel_rfl) (bo ?_ bD)
    refine cj 12 rfl rfl (Eff.framed (q:=false) [1,5] rfl rfl (eK 0 rfl rfl (eK 3 rfl rfl iK)) ?_)
    refine id (EC [] [0,1] rfl (rm v (rO M vs) v8_11 k (lQ a (.slice v8_9 a.size.toNat a.size.toNat)) (by rw [oR hvs.len];exact hkl) (by rw [oR hvs.len];omega) rfl) ?_)
    rintro _ _ _ ⟨rfl,ad8,c8,rfl,rfl⟩
    refine fA (CST ?_)
    refine CF 13 rfl rfl rfl (b8 rfl) (CF 14 rfl rfl rfl (qFA (off:=0) rfl) ?_)
    refine bP 15 [] (by kernel_rfl) (bo ?_ bD)
    refine cj 15 rfl rfl (Eff.wild (q:=false) (id (aV 0 tk115 rfl rfl rfl rfl (CST ?_))))
    refine ec (by kernel_rfl) (ak (aSR (aA rfl (aNn (eV 2 (bR ((ed M vs).take k++emp::(ed M vs).drop k)) rfl (fun w S F h=>qH _ _ _ h) ?_)))))
    refine fw (StE.toStars (R:=yX (a,List.replicate a.size.toNat 0) (.slice v8_9 a.size.toNat a.size.toNat)) 4 2 k (L:=(ed M vs).take k++yX (a,List.replicate a.size.toNat 0) (.slice v8_9 a.size.toNat a.size.toNat)::(ed M vs).drop k) (by unfold yX;rw [List.map_replicate];rfl) (by rw [xf (by rw [gn hvs.len];exact hkl)];rfl) (by rw [List.length_append,List.length_cons,List.length_take,gn hvs.len];omega) rfl) ?_
    rw [xf (by rw [gn hvs.len];exact hkl)]
    refine aj (FZ1 [0,1,4] Tryz.results79 rfl ?_)
    refine ⟨M.take k++(a,List.replicate a.size.toNat 0)::M.drop k,.slice ad8 ((rO M vs).length+1) c8,vs.take k++.slice v8_9 a.size.toNat a.size.toNat::vs.drop k,[],by have:=hvs.len;simp;omega,?_,rfl,rfl,?_⟩
    · unfold opn
      rw [kM,show ed (M.take k++(a,List.replicate a.size.toNat 0)::M.drop k) (vs.take k++.slice v8_9 a.size.toNat a.size.toNat::vs.drop k)=_ from xy _ _ _ hvs.len k,show rO (M.take k++(a,List.replicate a.size.toNat 0)::M.drop k) (vs.take k++.slice v8_9 a.size.toNat a.size.toNat::vs.drop k)=_ from xy _ _ _ hvs.len k]
      rfl
    · have hc:=dC.cut hk
      unfold mapM;rw [if_neg (by rw [hr];decide),if_neg hany,if_neg (by simp [hlr] at h3;omega),hc.1,hc.2,List.append_assoc];exact ⟨rfl,rfl⟩
def iR(a:Ar):List D:=[.v (.int .i64 a.at_),.v (.int .i64 a.size),.v (.int .i64 a.kind),.v (.int .i64 a.owner),.v (.int .i64 a.mod)]
def gk(M:Mem):List (List D):=M.map fun x=>iR x.1
theorem s4(p:Nat)(M:Mem)(vs:List Value)(hvs:OkV M vs)(v:Value)(hM:dC M)(hl:M.length≤4096) :
   Con Tryz.prog 27 [.pointer (some ⟨p,0,none⟩)] [] (op2 p v M vs) fun r ps hp=>ps=[]∧∃ ad c,r=.slice ad M.length c∧hp=op2 p v M vs++[az (.slice ad M.length c) 68 5 (gk M)]:=by
 have hlr:=eh hvs.len
 refine EN1 Tryz.func27 rfl (aSR (aA rfl (aNn (aSR (aA rfl (aNs (aSR (aM rfl (UN rfl rfl (UO 0 rfl rfl ?_))))))))))
 refine UL 0 tk115 rfl rfl rfl rfl (aU rfl (dA 1 Tryz.underlying115 rfl rfl) (aM rfl (aNn (ao (dO 68 5 ?_)))))
 refine aP [0,3,9,10,11] [] [0,1,2] (fun (k:Nat) s=>k≤M.length∧∃ ad c,s=⟨[(0,true,.pointer (some ⟨p,0,none⟩)),(3,true,.slice ad k c),(9,true,v),(10,true,.int .i64 M.length),(11,true,.int .i64 k)],[],op2 p v M vs++[az (.slice ad k c) 68 5 (gk (M.take k))]⟩) (fun k=>M.length-k) rfl (⟨0,Nat.zero_le _,none,0,by rw [hlr];rfl⟩) ?_
 rintro k s ⟨hk,ad,c,rfl⟩
 refine aSR (aU rfl (bd rfl rfl) (aNs ?_))
 refine ah _ rfl (fun h1 => ?_) (fun h1 => ?_)
 ·skip
  have hk':k<M.length:=by simpa using h1
  obtain ⟨q,hq⟩:∃ q,M[k]? = some q:=⟨M[k]'hk',by simp⟩
  obtain ⟨u,hu⟩:∃ u,vs[k]? = some u:=⟨_,List.getElem?_eq_getElem (by have:=hvs.len;omega)⟩
  obtain ⟨ad0,cu,rfl⟩:=hvs.sl hq hu
  have hsk:gk (M.take (k+1))=gk (M.take k)++[iR q.1]:=by unfold gk;rw [List.take_add_one,hq];simp
  have hlk:(gk (M.take k)).length=k:=by unfold gk;rw [List.length_map,List.length_take];omega
  refine ai (ak (aq (ao (aSR ?_))))
  refine aU rfl (bA 1 k el115 rfl rfl rfl rfl (by rw [hlr];exact hk')) ?_
  refine aU rfl (ba 1 k 0 tk135 rfl rfl (ef hq hu) rfl rfl) (LT rfl (bg (zs:=[.int .i64 0,.int .i64 0,.int .i64 0,.int .i64 0,.int .i64 0,.slice none 0 0]) (by kernel_rfl) rfl (fun b4_2=>(aHN ?_))))
  refine aJ rfl (aV 3 tk135 rfl rfl rfl rfl (aHK ?_))
  refine aNn (ae (aM rfl (UO 0 rfl rfl (UL 3 tk68 rfl rfl rfl rfl (LT rfl (WL (zs:=[.int .i64 0,.int .i64 0,.int .i64 0,.int .i64 0,.int .i64 0]) el71 rfl rfl rfl (.more rfl (.v rfl (.v rfl (.v rfl (.v rfl (.v rfl .nil))))) .nil) rfl rfl (fun v5_3=>(aHN ?_))))))))
  refine aJ rfl (cB 2 el71 rfl rfl rfl rfl (dK 4 el71 rfl (by simp)) (by first | assumption | simp) (by simp;omega) (k+1) (by simp [hlk]) (fun v5_4 c5_4 => ?_))
  refine aHK ?_
  refine aA rfl (bE (bb (ak (ae (aU rfl (aO rfl rfl (by omega)) (aM rfl (aNn ?_)))))))
  refine ⟨[0,3,9,10,11],[],[0,1,2],rfl,?_⟩
  refine ⟨k+1,⟨by omega,v5_4,c5_4,?_⟩,by omega⟩
  rw [hsk];rfl
 ·skip
  refine aQ (aR (aR (aX (ak (aSR (aM rfl (aA rfl (aNn (aj (FZ1 [0,1,2] Tryz.results27 rfl ?_))))))))))
  have e:k=M.length:=by simp at h1;omega
  subst e
  exact ⟨rfl,ad,c,rfl,by rw [List.take_length];rfl⟩
theorem adt{p:Nat}{w:World}{S F:aW}(h:(Box p 117 [.slice none 0 0]).holds w S F):(SpR p []).holds w S F :=
 ⟨.slice none 0 0,[],rfl,F,fun _=>False,h,⟨fun _=>False,fun _=>False,.inl ⟨rfl,rfl,fun _ h=>h⟩,fun _ h=>h,fun _ h=>h.elim,fun _=>⟨.inl,fun h=>h.elim id id⟩⟩,fun _ _ h=>h,fun _=>⟨.inl,fun h=>h.elim id False.elim⟩⟩
theorem lz:Con Tryz.prog 14 [] [] [] fun r ps' hp'=>ps'=[]∧∃ p,r=.pointer (some ⟨p,0,none⟩)∧hp'=[SpR p []]:=by
 refine Con.enter Tryz.func14 rfl (by simp [Tryz.ntmps14]) ?_
 show awp _ _ _ _ ⟨[],_,_⟩
 refine aSR (aA rfl (aNn (aSR (aU rfl (eH (l:=[]) (zs:=[.slice none 0 0]) (pl:=[(0,1)]) (by kernel_rfl) (by kernel_rfl) (by kernel_rfl) rfl rfl rfl) (LT rfl (bC rfl rfl rfl (fun b1_1=>(aHN ?_))))))))
 refine aA rfl (aNn (eV 0 (SpR b1_1 []) rfl (fun w S F h=>adt h) (aj (FZ1 [0] Tryz.results14 rfl ?_))))
 exact ⟨rfl,_,rfl,rfl⟩
end Go.Proofs.YtfkcmbonmpcbfaaGreat

namespace Go.Sy
open Go.RowKit
def r9(v:Value)(E:TypeId)(sz:Nat)(rows:List (List D))(r:Value)(ps:List Per)(hp:List Res):Prop:=ps=[]∧∃ ad c,r=.slice ad rows.length c∧hp=[az v E sz rows,az r E sz rows]
theorem qD{P:Program}{f:FuncId}{v:Value}{E:TypeId}{sz:Nat}{rows:List (List D)}{R:Value→List Per→List Res→Prop}
   (h1:v=.slice none 0 0→rows=[]→Con P f [v] [] [az v E sz rows] R) (h2:∀ B c,v=.slice (some ⟨B,0,none⟩) 0 c→rows=[]→Con P f [v] [] [az v E sz rows] R) (h3:∀ B c,v=.slice (some ⟨B,0,none⟩) rows.length c→rows≠[]→Con P f [v] [] [az v E sz rows] R):Con P f [v] [] [az v E sz rows] R:=fun w S fp hst=>by
 rcases hst.res 0 _ rfl with ⟨e1,e2,_⟩ | ⟨B,c,e1,_⟩
 · exact h1 e1 e2 w S fp hst
 · cases hr:rows with
   | nil=>subst hr;exact h2 B c e1 rfl w S fp hst
   | cons a l=>subst hr;exact h3 B c e1 (by simp) w S fp hst
end Go.Sy
namespace Go.Proofs.YtfkcmbonmpcbfaaGreat
open Go.RowKit Go.Lp Go.Sy Go.Lv
open Go.Proofs.Tryz
attribute [local irreducible] aL aB awp aC fwp Quiet
theorem sL:Con Tryz.prog 91 [.slice none 0 0] [] [az (.slice none 0 0) 135 6 []] (r9 (.slice none 0 0) 135 6 []):=by
 refine EN1 Tryz.func91 rfl (aSR (aA rfl (aNs (aSR (aM rfl (aU rfl (iH Tryz.underlying115 rfl) (aNn ?_)))))))
 refine ah _ rfl (fun h1 => ?_) (fun h1 => ?_)
 ·skip
  refine aSR (aA rfl (aNn (dO 135 6 (aj (aK (FZ1 [0,1] Tryz.results91 rfl ?_))))))
  exact ⟨rfl,none,0,rfl,rfl⟩
 ·skip
  exfalso;simp at h1
theorem sM(B c:Nat):Con Tryz.prog 91 [.slice (some ⟨B,0,none⟩) 0 c] [] [az (.slice (some ⟨B,0,none⟩) 0 c) 135 6 []] (r9 (.slice (some ⟨B,0,none⟩) 0 c) 135 6 []):=by
 refine EN1 Tryz.func91 rfl (aSR (aA rfl (aNs (aSR (aM rfl (aU rfl (iH Tryz.underlying115 rfl) (aNn ?_)))))))
 refine ah _ rfl (fun h1 => ?_) (fun h1 => ?_)
 ·skip
  exfalso;simp at h1
 ·skip
  refine ai (ak (aSR (LT rfl (j6 el115 rfl (fun v3_0=>(aHN ?_))))))
  refine aM rfl (aU rfl (lR el115 el115 rfl rfl (Nat.le_refl _)) (aA rfl (aNn (aj (FZ1 [0,1] Tryz.results91 rfl ?_)))))
  exact ⟨rfl,_,0,rfl,rfl⟩
theorem sN(rows:List (List D))(B c:Nat)(h0:rows≠[])(hle:rows.length≤1000000000):Con Tryz.prog 91 [.slice (some ⟨B,0,none⟩) rows.length c] [] [az (.slice (some ⟨B,0,none⟩) rows.length c) 135 6 rows] (r9 (.slice (some ⟨B,0,none⟩) rows.length c) 135 6 rows):=by
 refine EN1 Tryz.func91 rfl (aSR (aA rfl (aNs (aSR (aM rfl (aU rfl (iH Tryz.underlying115 rfl) (aNn ?_)))))))
 refine ah _ rfl (fun h1 => ?_) (fun h1 => ?_)
 ·skip
  exfalso;simp at h1
 ·skip
  refine ai (ak (aSR (LT rfl (j6 el115 rfl (fun v3_0=>(aHN ?_))))))
  refine aM rfl ?_
  refine aJ rfl (cB 1 el115 rfl rfl rfl rfl (dK 0 el115 rfl h0) (by first | assumption | simp) (by simp;omega) (rows.length) (by simp) (fun v3_2 c3_2 => ?_))
  refine aHK ?_
  refine aA rfl (aNn (aj (FZ1 [0,1] Tryz.results91 rfl ?_)))
  exact ⟨rfl,_,_,rfl,rfl⟩
theorem uN(v:Value)(rows:List (List D))(hle:rows.length≤1000000000):Con Tryz.prog 91 [v] [] [az v 135 6 rows] (r9 v 135 6 rows) :=
 qD (fun e1 e2=>by subst e1;subst e2;exact sL) (fun B c e1 e2=>by subst e1;subst e2;exact sM B c) (fun B c e1 h0=>by subst e1;exact sN rows B c h0 hle)
theorem sI:Con Tryz.prog 92 [.slice none 0 0] [] [az (.slice none 0 0) 5 1 []] (r9 (.slice none 0 0) 5 1 []):=by
 refine EN1 Tryz.func92 rfl (aSR (aA rfl (aNs (aSR (aM rfl (aU rfl (iH Tryz.underlying89 rfl) (aNn ?_)))))))
 refine ah _ rfl (fun h1 => ?_) (fun h1 => ?_)
 ·skip
  refine aSR (aA rfl (aNn (dO 5 1 (aj (aK (FZ1 [0,1] Tryz.results92 rfl ?_))))))
  exact ⟨rfl,none,0,rfl,rfl⟩
 ·skip
  exfalso;simp at h1
theorem sJ(B c:Nat):Con Tryz.prog 92 [.slice (some ⟨B,0,none⟩) 0 c] [] [az (.slice (some ⟨B,0,none⟩) 0 c) 5 1 []] (r9 (.slice (some ⟨B,0,none⟩) 0 c) 5 1 []):=by
 refine EN1 Tryz.func92 rfl (aSR (aA rfl (aNs (aSR (aM rfl (aU rfl (iH Tryz.underlying89 rfl) (aNn ?_)))))))
 refine ah _ rfl (fun h1 => ?_) (fun h1 => ?_)
 ·skip
  exfalso;simp at h1
 ·skip
  refine ai (ak (aSR (LT rfl (j6 el89 rfl (fun v3_0=>(aHN ?_))))))
  refine aM rfl (aU rfl (lR el89 el89 rfl rfl (Nat.le_refl _)) (aA rfl (aNn (aj (FZ1 [0,1] Tryz.results92 rfl ?_)))))
  exact ⟨rfl,_,0,rfl,rfl⟩
theorem sK(rows:List (List D))(B c:Nat)(h0:rows≠[])(hle:rows.length≤1000000000):Con Tryz.prog 92 [.slice (some ⟨B,0,none⟩) rows.length c] [] [az (.slice (some ⟨B,0,none⟩) rows.length c) 5 1 rows] (r9 (.slice (some ⟨B,0,none⟩) rows.length c) 5 1 rows):=by
 refine EN1 Tryz.func92 rfl (aSR (aA rfl (aNs (aSR (aM rfl (aU rfl (iH Tryz.underlying89 rfl) (aNn ?_)))))))
 refine ah _ rfl (fun h1 => ?_) (fun h1 => ?_)
 ·skip
  exfalso;simp at h1
 ·skip
  refine ai (ak (aSR (LT rfl (j6 el89 rfl (fun v3_0=>(aHN ?_))))))
  refine aM rfl ?_
  refine aJ rfl (cB 1 el89 rfl rfl rfl rfl (dK 0 el89 rfl h0) (by first | assumption | simp) (by simp;omega) (rows.length) (by simp) (fun v3_2 c3_2 => ?_))
  refine aHK ?_
  refine aA rfl (aNn (aj (FZ1 [0,1] Tryz.results92 rfl ?_)))
  exact ⟨rfl,_,_,rfl,rfl⟩
theorem uL(v:Value)(rows:List (List D))(hle:rows.length≤1000000000):Con Tryz.prog 92 [v] [] [az v 5 1 rows] (r9 v 5 1 rows) :=
 qD (fun e1 e2=>by subst e1;subst e2;exact sI) (fun B c e1 e2=>by subst e1;subst e2;exact sJ B c) (fun B c e1 h0=>by subst e1;exact sK rows B c h0 hle)
end Go.Proofs.YtfkcmbonmpcbfaaGreat

