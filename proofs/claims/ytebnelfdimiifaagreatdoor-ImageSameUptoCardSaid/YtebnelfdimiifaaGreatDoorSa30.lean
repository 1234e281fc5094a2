/- Parts of the proof, in build order. No condition. -/
import Derived.Test.YtebnelfdimiifaaGreatDoorSa29
import Derived.Test.YtebnelfdimiifaaGreatDoorSa24
import Derived.Test.YtebnelfdimiifaaGreatDoorSa20
import Derived.Test.YtebnelfdimiifaaGreatDoorSa25
import Derived.Test.YtebnelfdimiifaaGreatDoorSa05
import Derived.Test.YtebnelfdimiifaaGreatDoorSa07
import Derived.Test.YtebnelfdimiifaaGreatDoorSa08
import Derived.Test.YtebnelfdimiifaaGreatDoorSa28
import Derived.Test.YtebnelfdimiifaaGreatDoorSa13
import Derived.Lib.BufferWrite
import Derived.Test.YtebnelfdimiifaaGreatDoorSa09
import Derived.Test.YtebnelfdimiifaaGreatDoorSa06
set_option linter.unusedSimpArgs false
set_option linter.unusedVariables false
set_option maxHeartbeats 1000000
set_option maxRecDepth 20000
namespace Go.Proofs.YtebnelfdimiifaaGreatDoor
open Go.RowKit Go.Lp Go.Sy Go.Lv
open Go.Proofs.Tryz
attribute [local irreducible] aL aB awp aC fwp Quiet
section
variable (d:ByteArray) (a0 a1 a2 a3 a4:Option Addr)
theorem adN(hd:d.size=32):mA (cU d a0 a1 a2 a3 a4)=true:=by
 have b1:iF (xb d)=false:=by unfold iF xb;dsimp only;rw [hd];kernel_rfl
 have b2:iF (xc d)=false:=by unfold iF xc;dsimp only;rw [hd];kernel_rfl
 have i1:yP (cU d a0 a1 a2 a3 a4) (xb d)=true:=by kernel_rfl
 have i2:yP (cU d a0 a1 a2 a3 a4) (xc d)=true:=by kernel_rfl
 have hn:allI (fun _ x=>jh (cU d a0 a1 a2 a3 a4) x) 0 (cU d a0 a1 a2 a3 a4).nodes.l=true:=by
   show (jh (cU d a0 a1 a2 a3 a4) (xb d) && (jh (cU d a0 a1 a2 a3 a4) (xc d) && true))=true
   unfold jh;rw [b1,b2,i1,i2];rfl
 have h0:mF (cU d a0 a1 a2 a3 a4)=true:=by kernel_rfl
 have h1:kS (cU d a0 a1 a2 a3 a4)=true:=by
   unfold kS nj;rw [hn];kernel_rfl
 have h2:ri (cU d a0 a1 a2 a3 a4)=true:=by kernel_rfl
 have h3:iT (cU d a0 a1 a2 a3 a4)=true:=by kernel_rfl
 have h4:mY (cU d a0 a1 a2 a3 a4)=true:=by kernel_rfl
 have h5:uZ (cU d a0 a1 a2 a3 a4)=true:=by kernel_rfl
 have h6:rC (cU d a0 a1 a2 a3 a4) true=true:=by kernel_rfl
 have h7:ada (cU d a0 a1 a2 a3 a4)=true:=by kernel_rfl
 have h8:qi (cU d a0 a1 a2 a3 a4)=true:=by kernel_rfl
 unfold mA;rw [h0,h1,h2,h3,h4,h5,h6,h7,h8];rfl
def acw:aD := { cU d a0 a1 a2 a3 a4 with code:=8 }
theorem aaI:mA (acw d a0 a1 a2 a3 a4)=false:=by
 have h0:mF (acw d a0 a1 a2 a3 a4)=false:=by kernel_rfl
 unfold mA;rw [h0];rfl
theorem abS:lj (cU d a0 a1 a2 a3 a4).versions.l:=⟨Nat.zero_le _,fun _ h=>(by cases h),fun _ h=>(by cases h)⟩
theorem af9:zB (cU d a0 a1 a2 a3 a4).nodes.l:=fun x hx=>by
 rcases List.mem_cons.1 hx with rfl | hx
 · exact ⟨⟨by show (0:Int)≤16;decide,by show (16:Int)≤1048576;decide⟩,by show (0:Int)≤8;decide,by show (8:Int)≤1048576;decide⟩
 · rw [List.mem_singleton.1 hx]
   exact ⟨⟨by show (0:Int)≤272;decide,by show (272:Int)≤1048576;decide⟩,by show (0:Int)≤16;decide,by show (16:Int)≤1048576;decide⟩
theorem adM:cY (cU d a0 a1 a2 a3 a4):=by
 refine ⟨?_,?_,?_,?_,?_,?_,?_,?_,?_,?_,?_,?_,?_,⟨?_,?_,?_,?_,?_,?_⟩,?_⟩
 · show Go.Lv.I64 256;decide
 · show Go.Lv.I64 512;decide
 · show Go.Lv.I64 768;decide
 · show Go.Lv.I64 0;decide
 · show Go.Lv.I64 16;decide
 · intro y hy
   rcases List.mem_cons.1 hy with rfl | hy
   · exact ⟨by show Go.Lv.I64 0;decide,by show Go.Lv.I64 16;decide,by show Go.Lv.I64 8;decide⟩
   · rw [List.mem_singleton.1 hy];exact ⟨by show Go.Lv.I64 1;decide,by show Go.Lv.I64 272;decide,by show Go.Lv.I64 16;decide⟩
 · intro y hy;rw [List.mem_singleton.1 hy];exact ⟨by show Go.Lv.I64 0;decide,by show Go.Lv.I64 16;decide,by show Go.Lv.I64 8;decide⟩
 · intro y hy;rw [List.mem_singleton.1 hy];show Go.Lv.I64 0;decide
 · intro y hy;rw [List.mem_singleton.1 hy];show Go.Lv.I64 256;decide
 · intro y hy;cases hy
 · intro y hy
   rcases List.mem_cons.1 hy with rfl | hy
   · exact ⟨by show Go.Lv.I64 256;decide,by show Go.Lv.I64 3;decide,by show Go.Lv.I64 0;decide,by show Go.Lv.I64 0;decide⟩
   · rw [List.mem_singleton.1 hy];exact ⟨by show Go.Lv.I64 272;decide,by show Go.Lv.I64 0;decide,by show Go.Lv.I64 (-1);decide,by show Go.Lv.I64 16;decide⟩
 all_goals (intro y hy;cases hy)
theorem ag0(x:bp)(hx:iL x)(h1:x.obj.size≤100)(h2:x.sec.size≤100)(h3:x.digest.size≤100)(h4:x.form.size≤100):(cV x).length≤1000:=by
 have e:cV x=ak.enc x.obj++(ak.enc x.sec++(aj.enc x.kind++(aj.enc x.at_++(aj.enc x.size++(ak.enc x.digest++ak.enc x.form))))):=rfl
 have hi:∀ z:Int,(aj.enc z).length≤10:=fun z=>eJ 10 _
 have ht:∀ b:ByteArray,(ak.enc b).length≤10+b.size:=fun b=>by rw [gN];have:(aQ b.size).length≤10:=eJ 10 b.size;omega
 have t1:=ht x.obj
 have t2:=ht x.sec
 have t3:=ht x.digest
 have t4:=ht x.form
 have i1:=hi x.kind
 have i2:=hi x.at_
 have i3:=hi x.size
 rw [e]
 simp only [List.length_append]
 omega
theorem aga(hd:d.size=32):(bN.enc (bA (cU d a0 a1 a2 a3 a4))).length≤20000:=by
 have hw:=adM d a0 a1 a2 a3 a4
 have k1:=ag0 (xb d) (hw.2.2.2.2.2.1 _ List.mem_cons_self) (by show 1≤100;decide) (by show 4≤100;decide) (by show d.size≤100;omega) (by show 0≤100;decide)
 have k2:=ag0 (xc d) (hw.2.2.2.2.2.1 _ (List.mem_cons_of_mem _ List.mem_cons_self)) (by show 1≤100;decide) (by show 4≤100;decide) (by show d.size≤100;omega) (by show 0≤100;decide)
 have hn:(aQ (cU d a0 a1 a2 a3 a4).nodes.l.length++aO cV (cU d a0 a1 a2 a3 a4).nodes.l).length≤3000:=by
   show (aQ 2++(cV (xb d)++(cV (xc d)++[]))).length≤3000
   simp only [List.length_append,List.length_nil]
   have:(aQ 2).length≤10:=eJ 10 2
   omega
 have hbl:∀ {n m:Nat},Nat.ble n m=true→n≤m:=fun h=>Nat.le_of_ble_eq_true h
 rw [afz]
 have c1:(ak.enc (cU d a0 a1 a2 a3 a4).name).length≤100:=hbl (by kernel_rfl)
 have c2:(bO.enc (cU d a0 a1 a2 a3 a4).lib).length≤100:=hbl (by kernel_rfl)
 have c3:(aj.enc (cU d a0 a1 a2 a3 a4).code).length≤100:=hbl (by kernel_rfl)
 have c4:(aj.enc (cU d a0 a1 a2 a3 a4).data).length≤100:=hbl (by kernel_rfl)
 have c5:(aj.enc (cU d a0 a1 a2 a3 a4).zero).length≤100:=hbl (by kernel_rfl)
 have c6:(ak.enc (cU d a0 a1 a2 a3 a4).bytes).length≤1000:=hbl (by kernel_rfl)
 have c7:(ak.enc (cU d a0 a1 a2 a3 a4).tls).length≤100:=hbl (by kernel_rfl)
 have c8:(aj.enc (cU d a0 a1 a2 a3 a4).block).length≤100:=hbl (by kernel_rfl)
 have c9:(aQ (cU d a0 a1 a2 a3 a4).exports.l.length++aO cL (cU d a0 a1 a2 a3 a4).exports.l).length≤100:=hbl (by kernel_rfl)
 have c10:(aQ (cU d a0 a1 a2 a3 a4).imports.l.length++aO dL (cU d a0 a1 a2 a3 a4).imports.l).length≤100:=hbl (by kernel_rfl)
 have c11:(aQ (cU d a0 a1 a2 a3 a4).slots.l.length++aO aj.enc (cU d a0 a1 a2 a3 a4).slots.l).length≤100:=hbl (by kernel_rfl)
 have c12:(aQ (cU d a0 a1 a2 a3 a4).stubs.l.length++aO aj.enc (cU d a0 a1 a2 a3 a4).stubs.l).length≤100:=hbl (by kernel_rfl)
 have c13:(aQ (cU d a0 a1 a2 a3 a4).dyns.l.length++aO j9 (cU d a0 a1 a2 a3 a4).dyns.l).length≤100:=hbl (by kernel_rfl)
 have c14:(aQ (cU d a0 a1 a2 a3 a4).inits.l.length++aO aj.enc (cU d a0 a1 a2 a3 a4).inits.l).length≤100:=hbl (by kernel_rfl)
 have c15:(aQ (cU d a0 a1 a2 a3 a4).lasts.l.length++aO aj.enc (cU d a0 a1 a2 a3 a4).lasts.l).length≤100:=hbl (by kernel_rfl)
 have c16:(aj.enc (cU d a0 a1 a2 a3 a4).entry).length≤100:=hbl (by kernel_rfl)
 have c17:(aQ (cU d a0 a1 a2 a3 a4).needs.l.length++aO ak.enc (cU d a0 a1 a2 a3 a4).needs.l).length≤100:=hbl (by kernel_rfl)
 have c18:(aQ (cU d a0 a1 a2 a3 a4).versions.l.length++aO cm (cU d a0 a1 a2 a3 a4).versions.l).length≤100:=hbl (by kernel_rfl)
 have c19:(ft.enc (eV (cU d a0 a1 a2 a3 a4).info)).length≤100:=hbl (by kernel_rfl)
 have c20:(aQ (cU d a0 a1 a2 a3 a4).changes.l.length++aO gY (cU d a0 a1 a2 a3 a4).changes.l).length≤100:=hbl (by kernel_rfl)
 have ad:∀ {a b:List UInt8} {n m:Nat},a.length≤n→b.length≤m→(a++b).length≤n+m:=fun h1 h2=>by rw [List.length_append];omega
 exact Nat.le_trans (ad c1 (ad c2 (ad c3 (ad c4 (ad c5 (ad c6 (ad c7 (ad c8 (ad hn (ad c9 (ad c10 (ad c11 (ad c12 (ad c13 (ad c14 (ad c15 (ad c16 (ad c17 (ad c18 (ad c19 c20)))))))))))))))))))) (by decide)
end
theorem afT(x:aD):bytesOf (bN.enc (bA x))≠bytesOf []:=fun h=>by
 have h2:=bN.pos (bA x)
 have:bN.enc (bA x)=[]:=congrArg il h
 rw [this] at h2;cases h2
theorem wB:Con Tryz.prog 4 [] [] [] fun r _ _=>r=.bool true:=by
 refine Con.enter Tryz.func4 rfl (by simp [Tryz.ntmps4]) ?_
 show awp _ _ _ _ ⟨[],_,_⟩
 refine aSR (aA rfl (aNn (aSR (LT rfl (EC [] [] rfl (wk) ?_)))))
 rintro _ _ _ ⟨rfl,d,a0,a1,a2,a3,a4,hd,rfl,rfl⟩
 refine aST ?_
 refine LT rfl (bJ (zs:=ZI) (by kernel_rfl) rfl (fun b1_1=>(aHN ?_)))
 refine aW rfl (ba 0 tk39 rfl rfl rfl rfl (aHK ?_))
 refine aNn (aSR (UL 0 tk39 rfl rfl rfl rfl (LT rfl (bJ (zs:=ZI) (by kernel_rfl) rfl (fun b2_1=>(aHN ?_))))))
 refine aW rfl (ba 1 tk39 rfl rfl rfl rfl (aHK ?_))
 refine aNn (aSR (UO 2 rfl rfl (aW rfl (ba 1 tk3 rfl rfl rfl rfl (aHK ?_)))))
 refine aNs ?_
 have hW:=adM d a0 a1 a2 a3 a4
 have hL:=aga d a0 a1 a2 a3 a4 hd
 have hf:=af9 d a0 a1 a2 a3 a4
 refine aa (UL 0 tk39 rfl rfl rfl rfl (aU rfl (Q1 rfl (show Con Tryz.prog 11 [(cU d a0 a1 a2 a3 a4).val,.int .i64 23] [(cU d a0 a1 a2 a3 a4).ok] [] fun r _ _=>r=.tuple #[.int .i64 0,.bool true] from mj (cU d a0 a1 a2 a3 a4) hf 23) 0 rfl) (aM rfl (aU rfl (ck rfl rfl) (aU rfl (ck rfl rfl) (aA rfl (aA rfl (aNn (aSR (UL 0 tk39 rfl rfl rfl rfl (aU rfl (Q1 rfl (show Con Tryz.prog 11 [(cU d a0 a1 a2 a3 a4).val,.int .i64 24] [(cU d a0 a1 a2 a3 a4).ok] [] fun r _ _=>r=.tuple #[.int .i64 0,.bool false] from mj (cU d a0 a1 a2 a3 a4) hf 24) 0 rfl) ?_)))))))))))
 refine aM rfl (aU rfl (ck rfl rfl) (aU rfl (ck rfl rfl) (aA rfl (aA rfl (aNn (aSR (UL 0 tk39 rfl rfl rfl rfl (aU rfl (Q1 rfl (show Con Tryz.prog 11 [(cU d a0 a1 a2 a3 a4).val,.int .i64 272] [(cU d a0 a1 a2 a3 a4).ok] [] fun r _ _=>r=.tuple #[.int .i64 1,.bool true] from mj (cU d a0 a1 a2 a3 a4) hf 272) 0 rfl) ?_))))))))
 refine aM rfl (aU rfl (ck rfl rfl) (aU rfl (ck rfl rfl) (aA rfl (aA rfl (aNn (aSR (UL 0 tk39 rfl rfl rfl rfl (aU rfl (Q1 rfl ((fE (cU d a0 a1 a2 a3 a4) hW (by omega)).post (fun _ _ _ h=>h.2.2)) 0 rfl) (LT rfl (EC [] [] rfl (qM (bN.enc (bA (cU d a0 a1 a2 a3 a4))) (by omega)) ?_))))))))))
 rintro _ _ _ ⟨rfl,x2,r2,b2,hone,rfl,rfl⟩
 refine aST ?_
 obtain ⟨rfl,rfl,hpu⟩:=abV (t:=[]) hW (by omega) (by rw [List.append_nil];exact hone)
 have hW2:=(rf (by omega) hone)
 rw [if_neg (by rw [hpu];simp)]
 refine aM rfl (aU rfl (ck rfl rfl) (aU rfl (ck rfl rfl) (LT rfl (bJ (zs:=ZI) (by kernel_rfl) rfl (fun b7_6=>(aHN ?_))))))
 refine aW rfl (ba 2 tk39 rfl rfl rfl rfl (aHK ?_))
 refine aA rfl (aNn (aSR (LT rfl (EC [] [] rfl (qM [] (Nat.zero_le _)) ?_))))
 rintro _ _ _ ⟨rfl,x3,r3,b3,hone3,rfl,rfl⟩
 refine aST ?_
 rw [if_pos (by rw [decide_eq_false (afT x3)];simp)]
 refine aM rfl (aU rfl (ck rfl rfl) (aU rfl (ck rfl rfl) (LT rfl (bJ (zs:=ZI) (by kernel_rfl) rfl (fun b8_4=>(aHN ?_))))))
 refine aW rfl (ba 3 tk39 rfl rfl rfl rfl (aHK ?_))
 refine aA rfl (aNn (aSR (UL 0 tk39 rfl rfl rfl rfl ?_)))
 refine fB (caps:=[]) [0] (false) (by kernel_rfl) true rfl rfl (fun _=>rfl) (fun hc=>rfl) (fun hc=>by rw [List.append_nil];exact pb (cU d a0 a1 a2 a3 a4) ⟨hW.1,hW.2.1,hW.2.2.1⟩) (fun br hbr => ?_)
 refine aM rfl (aG rfl rfl (fun hc=>bj 1 tk39 rfl rfl rfl) ?_)
 refine fB (caps:=[]) [0] (false) (by kernel_rfl) _ rfl rfl (fun _=>rfl) (fun hc=>(aK (ae rfl hc) rfl)) (fun hc=>by rw [List.append_nil];exact pb (acw d a0 a1 a2 a3 a4) ⟨by show Go.Lv.I64 8;decide,hW.2.1,hW.2.2.1⟩) (fun bb hbb => ?_)
 refine aG rfl rfl (fun hc=>dO (ae rfl hc)) (aU rfl (bB rfl rfl (fun h=>gt rfl h)) (aM rfl (aG rfl rfl (fun hc=>aT rfl) (aG rfl rfl (fun hc=>cA (ae rfl hc) rfl) (aU rfl (bB rfl rfl (fun h=>gt rfl h)) (aM rfl (aG rfl rfl (fun hc=>aT rfl) (aU rfl (bB rfl rfl (fun h=>gt rfl h)) (aM rfl (aG rfl rfl (fun hc=>aT rfl) (aG rfl rfl (fun hc=>dO (ae rfl hc)) (aU rfl (bB rfl rfl (fun h=>gt rfl h)) (aM rfl (aG rfl rfl (fun hc=>aT rfl) (aG rfl rfl (fun hc=>cA (ae rfl hc) rfl) ?_)))))))))))))))
 refine aU rfl (bB rfl rfl (fun h=>gt rfl h)) (aM rfl (aG rfl rfl (fun hc=>aT rfl) (aU rfl (bB rfl rfl (fun h=>gt rfl h)) (aM rfl (aG rfl rfl (fun hc=>aT rfl) (aU rfl (bB rfl rfl (fun h=>gt rfl h)) (aM rfl (aG rfl rfl (fun hc=>aT rfl) (aG rfl rfl (fun hc=>dO (ae rfl hc)) (aU rfl (bB rfl rfl (fun h=>gt rfl h)) (aM rfl (aG rfl rfl (fun hc=>bj 2 tk39 rfl rfl rfl) (aG rfl rfl (fun hc=>bj 0 tk39 rfl rfl rfl) (aG rfl rfl (fun hc=>QC (aK (ae rfl hc) (aK (ae rfl hc) rfl)) (fun w S fp hst=>((mm x2 (cU d a0 a1 a2 a3 a4) hW2.1 hW hW2.2 (by omega)).post (fun _ _ _ h=>h.2.2)).quiet2 (aH 1 rfl) (aH 2 rfl) hst)) ?_))))))))))))))
 refine aU rfl (bB rfl rfl (fun h=>gt rfl h)) (aM rfl (aG rfl rfl (fun hc=>bj 0 tk39 rfl rfl rfl) (aG rfl rfl (fun hc=>Q0 (aK (ae rfl hc) rfl) ((uB (cU d a0 a1 a2 a3 a4)).post (fun _ _ _ h=>h.2.2))) (aG rfl rfl (fun hc=>cB Tryz.underlying9 (ae rfl hc)) (aG rfl rfl (fun hc=>cA (ae rfl hc) rfl) (aU rfl (bB rfl rfl (fun h=>gt rfl h)) (aM rfl (aG rfl rfl (fun hc=>bj 0 tk39 rfl rfl rfl) (aG rfl rfl (fun hc=>Q1 (aK (ae rfl hc) rfl) ((wc (cU d a0 a1 a2 a3 a4)).post (fun _ _ _ h=>h.2.2)) 2 rfl) (aG rfl rfl (fun hc=>adS (off:=0) (by kernel_rfl) (ae rfl hc) rfl) (aG rfl rfl (fun hc=>jm (ae rfl hc) rfl) (aU rfl (bB rfl rfl (fun h=>gt rfl h)) (aA rfl (aNn (az ?_)))))))))))))))
 refine FZ1 [] Tryz.results4 rfl ?_
 have hbr:br=true:=(hbr rfl).2 ⟨(abS d a0 a1 a2 a3 a4).all,adN d a0 a1 a2 a3 a4 hd⟩
 subst hbr
 have hbb:bb=false:=by
   cases bb with
   | false=>rfl
   | true=>have:=((hbb rfl).1 rfl).2;rw [aaI] at this;cases this
 subst hbb
 have e2:decide (((aab (cU d a0 a1 a2 a3 a4)).size:Int)=768)=true:=by kernel_rfl
 rw [hpu,decide_eq_true (p:=bytesOf (bN.enc (bA (cU d a0 a1 a2 a3 a4)))=bytesOf (bN.enc (bA (cU d a0 a1 a2 a3 a4)))) rfl,e2]
 rfl
end Go.Proofs.YtebnelfdimiifaaGreatDoor

namespace Go.Proofs.YtebnelfdimiifaaGreatDoor
open Go.RowKit Go.Lp Go.Sy
open Go.Proofs.Tryz
attribute [local irreducible] aL aB awp aC fwp Quiet
theorem tg(x k:Int):Con Tryz.prog 172 [.int .u64 x,.int .i64 k] [] [] fun r _ _=>r=.int .u64 (uW x k):=by
 refine EN2 Tryz.func172 rfl (aSR (aA rfl (aNn (aSR (aM rfl (aU rfl (cW (by kernel_rfl) Tryz.underlying206 rfl) (aU rfl (uQ rfl rfl) (aA rfl (aNn (aSR (aM rfl (aM rfl ?_))))))))))))
 refine aU rfl (tH rfl rfl (by exact zq _)) ?_
 refine aM rfl (aM rfl (aU rfl (xl rfl rfl) ?_))
 refine aU rfl (xk rfl rfl (by exact aep _)) ?_
 refine aU rfl (tG rfl rfl) (aA rfl (aNn (az (FZ1 [] Tryz.results172 rfl ?_))))
 rfl
theorem aba(b:Nat)(z0:List Int)(h0:z0.length=25):Con Tryz.prog 144 [.pointer (some ⟨b,0,none⟩)] [ff,fh] [Box b 137 (fi z0)] fun _ ps hp=>ps=[]∧(l6 z0 24).length=25∧hp=[Box b 137 (fi (l6 z0 24))]:=by
 refine EN1 Tryz.func144 rfl (aSR (aU rfl (aao (v:=.agg (fi eu).toArray) 0 tk264 rfl (aH 0 rfl) rfl (by kernel_rfl)) (aM rfl (aNn (aq (aP [0,15,16] [1,0] [0] (fun (q:Nat × List Int) s=>(q.1≤24∧q.2.length=25∧q.2=l6 z0 q.1)∧s=⟨[(0,true,.pointer (some ⟨b,0,none⟩)),(15,true,.agg (fi eu).toArray),(16,true,.int .i64 q.1)],[ff,fh],[Box b 137 (fi q.2)]⟩) (fun q=>24-q.1) rfl (⟨(0,z0),⟨Nat.zero_le _,h0,rfl⟩,rfl⟩) ?_))))))
 rintro ⟨i,zs⟩ s ⟨⟨hi,hz,hzP⟩,rfl⟩
 dsimp only at hi hz hzP
 refine aSR (aU rfl (bC rfl rfl) (aNs ?_))
 refine ao _ rfl (fun h1 => ?_) (fun h1 => ?_)
 ·skip
  have hi':i<24:=by simp at h1;omega
  have hcl:eu.length=24:=rfl
  refine ax (an (ai (aq (aSR (aU rfl (adT (i) Tryz.underlying264 (by kernel_rfl) rfl rfl (rfl) (by omega) ((aeo (zs:=eu) (k:=i) (by omega)))) (aA rfl (aNn (aSR (LT rfl (bJ (zs:=[.int .u64 0,.int .u64 0,.int .u64 0,.int .u64 0,.int .u64 0]) (by kernel_rfl) rfl (fun b3_0=>(aHN ?_))))))))))))
  refine aNs (aSR (aM rfl (aM rfl (bP (an (aq (aP [0,3,4,15,16,19,20] [1,0] [0,1] (fun (q:Nat × List Int) s=>(q.1≤25∧q.2.length=5∧q.2=pF zs q.1)∧s=⟨[(0,true,.pointer (some ⟨b,0,none⟩)),(3,true,.int .u64 (eu.getD i 0)),(4,true,.pointer (some ⟨b3_0,0,none⟩)),(15,true,.agg (fi eu).toArray),(16,true,.int .i64 i),(19,true,.pointer (some ⟨b,0,none⟩)),(20,true,.int .i64 q.1)],[ff,fh],[Box b 137 (fi zs),Box b3_0 265 (fi q.2)]⟩) (fun q=>25-q.1) rfl (⟨(0,[0,0,0,0,0]),⟨Nat.zero_le _,rfl,rfl⟩,rfl⟩) ?_)))))))
  rintro ⟨j,qs⟩ s ⟨⟨hj,hq,hqP⟩,rfl⟩
  dsimp only at hj hq hqP
  refine aSR (aU rfl (bC rfl rfl) (aNs ?_))
  refine ao _ rfl (fun h2 => ?_) (fun h2 => ?_)
  ·skip
   have hj':j<25:=by simp at h2;omega
   have hm5:j % 5<5:=Nat.mod_lt _ (by decide)
   refine ax (an (ai (aq (ai (DR [] 6 (VM 0 rfl rfl (VN 1 rfl rfl rfl (bV 2 rfl rfl (dN (j) Tryz.underlying137 tk135 rfl rfl (rfl) (hj')) (bV 3 rfl rfl (bj (v:=.int .u64 (zs.getD j 0)) 0 tk135 rfl rfl (i6 (zs:=zs) (k:=j) (by omega) (by omega))) (bV 4 rfl rfl (bo rfl) (bV 5 rfl rfl (bo rfl) (BN (an (aa (aM rfl ?_)))))))))))))))
   refine aU rfl (fl rfl rfl (by decide)) (aU rfl (dN (j % 5) Tryz.underlying265 tk135 rfl rfl (rfl) (hm5)) (aU rfl (bj (v:=.int .u64 (qs.getD (j % 5) 0)) 1 tk135 rfl rfl (i6 (zs:=qs) (k:=(j % 5)) (by omega) (by omega))) (aM rfl (aU rfl (ic rfl rfl) (aU rfl (dN (j % 5) Tryz.underlying265 tk135 rfl rfl (rfl) (hm5)) ?_)))))
   refine aW rfl (fj 1 ([.int .u64 (bits .xor .u64 (qs.getD (j % 5) 0) (zs.getD j 0))]) (fi (qs.set (j % 5) (bits .xor .u64 (qs.getD (j % 5) 0) (zs.getD j 0)))) tk135 rfl rfl rfl rfl rfl (fun v hv=>by rw [List.mem_singleton.1 hv];rfl) (by simp [hq];omega) (nX (zs:=qs) (k:=(j % 5)) (by omega) (by omega)) ?_)
   refine aHK ?_
   refine bP (bu (an (aa ?_)))
   refine aU rfl (aV rfl rfl (by (try simp only [tm5,td5]);omega)) ?_
   refine aM rfl (aNn ?_)
   refine ⟨[0,3,4,15,16,19,20],[1,0],[0,1],rfl,?_⟩
   exact ⟨(j+1,_),⟨⟨by dsimp only;omega,by dsimp only;rw [List.length_set];exact hq,by dsimp only;rw [ae2,← hqP];rfl⟩,rfl⟩,by dsimp only;omega⟩
  ·skip
   have hje:j=25:=by simp at h2;omega
   subst hje
   refine aR (aS (aS (aY (an (aSR (LT rfl (bJ (zs:=[.int .u64 0,.int .u64 0,.int .u64 0,.int .u64 0,.int .u64 0,.int .u64 0,.int .u64 0,.int .u64 0,.int .u64 0,.int .u64 0,.int .u64 0,.int .u64 0,.int .u64 0,.int .u64 0,.int .u64 0,.int .u64 0,.int .u64 0,.int .u64 0,.int .u64 0,.int .u64 0,.int .u64 0,.int .u64 0,.int .u64 0,.int .u64 0,.int .u64 0]) (by kernel_rfl) rfl (fun b9_0=>(aHN ?_)))))))))
   refine aNs (aSR (aM rfl (aM rfl (bP (an (aq (aP [0,3,4,7,15,16,34,35] [1,0] [0,1,2] (fun (q:Nat × List Int) s=>(q.1≤25∧q.2.length=25∧q.2=yF zs qs q.1)∧s=⟨[(0,true,.pointer (some ⟨b,0,none⟩)),(3,true,.int .u64 (eu.getD i 0)),(4,true,.pointer (some ⟨b3_0,0,none⟩)),(7,true,.pointer (some ⟨b9_0,0,none⟩)),(15,true,.agg (fi eu).toArray),(16,true,.int .i64 i),(34,true,.pointer (some ⟨b,0,none⟩)),(35,true,.int .i64 q.1)],[ff,fh],[Box b 137 (fi zs),Box b3_0 265 (fi qs),Box b9_0 137 (fi q.2)]⟩) (fun q=>25-q.1) rfl (⟨(0,List.replicate 25 0),⟨Nat.zero_le _,rfl,rfl⟩,rfl⟩) ?_)))))))
   clear hj
   rintro ⟨j2,ys⟩ s ⟨⟨hj2,hy,hyP⟩,rfl⟩
   dsimp only at hj2 hy hyP
   refine aSR (aU rfl (bC rfl rfl) (aNs ?_))
   refine ao _ rfl (fun h3 => ?_) (fun h3 => ?_)
   ·skip
    have hj2':j2<25:=by simp at h3;omega
    refine ax (an (ai (aq (ai (DR [] 6 (VM 0 rfl rfl (VN 1 rfl rfl rfl (bV 2 rfl rfl (dN (j2) Tryz.underlying137 tk135 rfl rfl (rfl) (hj2')) (bV 3 rfl rfl (bj (v:=.int .u64 (zs.getD j2 0)) 0 tk135 rfl rfl (i6 (zs:=zs) (k:=j2) (by omega) (by omega))) (bV 4 rfl rfl (bo rfl) (bV 5 rfl rfl (bo rfl) (BN (an (aSR (aM rfl ?_)))))))))))))))
    refine aU rfl (fl rfl rfl (by decide)) (aM rfl (aU rfl (rL rfl rfl (by decide)) (aA rfl (aA rfl (aNs ?_)))))
    rw [show IntKind.i64.wrap ((((j2,ys):Nat × List Int).fst:Int).tdiv 5)=((j2 / 5:Nat):Int) from wq hj2']
    refine DR [] 15 (VM 0 rfl rfl (VM 1 rfl rfl ?_))
    refine bV 2 rfl rfl (aV rfl rfl (by (try simp only [tm5,td5]);omega)) ?_
    refine bV 3 rfl rfl (fl rfl rfl (by decide)) (bV 4 rfl rfl (dN ((j2 % 5+4) % 5) Tryz.underlying265 tk135 rfl rfl (rfl) (Nat.mod_lt _ (by decide))) (bV 5 rfl rfl (bj (v:=.int .u64 (qs.getD ((j2 % 5+4) % 5) 0)) 1 tk135 rfl rfl (i6 (zs:=qs) (k:=((j2 % 5+4) % 5)) (by omega) (by omega))) (VM 6 rfl rfl ?_)))
    refine bV 7 rfl rfl (aV rfl rfl (by (try simp only [tm5,td5]);omega)) ?_
    refine bV 8 rfl rfl (fl rfl rfl (by decide)) (bV 9 rfl rfl (dN ((j2 % 5+1) % 5) Tryz.underlying265 tk135 rfl rfl (rfl) (Nat.mod_lt _ (by decide))) (bV 10 rfl rfl (bj (v:=.int .u64 (qs.getD ((j2 % 5+1) % 5) 0)) 1 tk135 rfl rfl (i6 (zs:=qs) (k:=((j2 % 5+1) % 5)) (by omega) (by omega))) (bV 11 rfl rfl (Q0 rfl (tg _ _)) (bV 12 rfl rfl (ic rfl rfl) (bV 13 rfl rfl (ic rfl rfl) (bV 14 rfl rfl (bo rfl) (BN (an (aa (aM rfl (aM rfl ?_)))))))))))
    refine aU rfl (fq rfl rfl (by (try simp only [tm5,td5]);omega)) ?_
    refine aM rfl ?_
    refine aU rfl (fq rfl rfl (by (try simp only [tm5,td5]);omega)) ?_
    refine aU rfl (aV rfl rfl (by (try simp only [tm5,td5]);omega)) ?_
    refine aU rfl (fl rfl rfl (by decide)) ?_
    refine aU rfl (fq rfl rfl (by have e:5*(2*(j2:Int).tmod 5+3*((j2 / 5:Nat):Int)).tmod 5=((5*((2*(j2 % 5)+3*(j2 / 5)) % 5):Nat):Int):=rfl;rw [e];omega)) ?_
    refine aU rfl (aV rfl rfl (by have e:((j2 / 5:Nat):Int)+5*(2*(j2:Int).tmod 5+3*((j2 / 5:Nat):Int)).tmod 5=((j2 / 5+5*((2*(j2 % 5)+3*(j2 / 5)) % 5):Nat):Int):=rfl;rw [e];omega)) ?_
    refine aM rfl (aM rfl (aU rfl (dN (j2) Tryz.underlying267 tk3 rfl rfl (rfl) (hj2')) ?_))
    refine aU rfl (aao (v:=.int .i64 (fX.getD j2 0)) j2 tk3 rfl (aH 1 rfl) (by omega) (adY (by rw [List.getElem?_map,List.getElem?_eq_getElem (show j2<fX.length from hj2')];simp [List.getD,List.getElem?_eq_getElem (show j2<fX.length from hj2')]))) ?_
    refine aU rfl (Q0 rfl (tg _ _)) (aU rfl (dN (j2 / 5+5*((2*(j2 % 5)+3*(j2 / 5)) % 5)) Tryz.underlying137 tk135 rfl rfl (rfl) (by omega)) ?_)
    refine aW rfl (fj 2 ([.int .u64 (yV zs qs j2)]) (fi (ys.set (j2 / 5+5*((2*(j2 % 5)+3*(j2 / 5)) % 5)) (yV zs qs j2))) tk135 rfl rfl rfl rfl rfl (fun v hv=>by rw [List.mem_singleton.1 hv];rfl) (by simp [hy];omega) (nX (zs:=ys) (k:=(j2 / 5+5*((2*(j2 % 5)+3*(j2 / 5)) % 5))) (by omega) (by omega)) ?_)
    refine aHK ?_
    refine bP (bu (an (aa ?_)))
    refine aU rfl (aV rfl rfl (by (try simp only [tm5,td5]);omega)) ?_
    refine aM rfl (aNn ?_)
    refine ⟨[0,3,4,7,15,16,34,35],[1,0],[0,1,2],rfl,?_⟩
    exact ⟨(j2+1,_),⟨⟨by dsimp only;omega,by dsimp only;rw [List.length_set];exact hy,by dsimp only;rw [afq,← hyP]⟩,rfl⟩,by dsimp only;omega⟩
   ·skip
    have hje2:j2=25:=by simp at h3;omega
    subst hje2
    refine aR (aS (aS (aY (an (ai (aSR (aM rfl (aNn (aq (aP [0,3,7,15,16,75] [1,0] [0,2] (fun (q:Nat × List Int) s=>(q.1≤25∧q.2.length=25∧q.2=wF zs ys q.1)∧s=⟨[(0,true,.pointer (some ⟨b,0,none⟩)),(3,true,.int .u64 (eu.getD i 0)),(7,true,.pointer (some ⟨b9_0,0,none⟩)),(15,true,.agg (fi eu).toArray),(16,true,.int .i64 i),(75,true,.int .i64 q.1)],[ff,fh],[Box b 137 (fi q.2),Box b9_0 137 (fi ys)]⟩) (fun q=>25-q.1) rfl (⟨(0,zs),⟨Nat.zero_le _,hz,rfl⟩,rfl⟩) ?_))))))))))
    rintro ⟨j,ws⟩ s ⟨⟨hj,hw,hwP⟩,rfl⟩
    dsimp only at hj hw hwP
    refine aSR (aU rfl (bC rfl rfl) (aNs ?_))
    refine ao _ rfl (fun h4 => ?_) (fun h4 => ?_)
    ·skip
     have hj':j<25:=by simp at h4;omega
     refine ax (an (ai (aq (aSR (aM rfl (aA rfl (aNn (aSR (aM rfl (aU rfl (fl rfl rfl (by decide)) (aM rfl (aM rfl (aU rfl (fl rfl rfl (by decide)) ?_)))))))))))))
     refine aU rfl (cZ rfl rfl (by (try simp only [tm5,td5]);omega)) ?_
     refine aA rfl (aA rfl (aNn (DR [24] 25 (VM 0 rfl rfl (VM 1 rfl rfl (VM 2 rfl rfl (bV 3 rfl rfl (dN (j) Tryz.underlying137 tk135 rfl rfl (rfl) (hj')) (bV 4 rfl rfl (bj (v:=.int .u64 (ys.getD j 0)) 1 tk135 rfl rfl (i6 (zs:=ys) (k:=j) (by omega) (by omega))) (VM 5 rfl rfl (VM 6 rfl rfl ?_))))))))))
     refine bV 7 rfl rfl (aV rfl rfl (by (try simp only [tm5,td5]);omega)) ?_
     refine bV 8 rfl rfl (fl rfl rfl (by decide)) ?_
     refine bV 9 rfl rfl (aV rfl rfl (by have e:((j:Int)-(j:Int).tmod 5)+((j:Int).tmod 5+1).tmod 5=_:=aeO j 1;rw [e];omega)) ?_
     refine bV 10 rfl rfl (dN (j-j % 5+(j % 5+1) % 5) Tryz.underlying137 tk135 rfl rfl (aeO j 1) (by omega)) (bV 11 rfl rfl (bj (v:=.int .u64 (ys.getD (j-j % 5+(j % 5+1) % 5) 0)) 1 tk135 rfl rfl (i6 (zs:=ys) (k:=(j-j % 5+(j % 5+1) % 5)) (by omega) (by omega))) (bV 12 rfl rfl (ae6 rfl) (VM 13 rfl rfl (VM 14 rfl rfl ?_))))
     refine bV 15 rfl rfl (aV rfl rfl (by (try simp only [tm5,td5]);omega)) ?_
     refine bV 16 rfl rfl (fl rfl rfl (by decide)) ?_
     refine bV 17 rfl rfl (aV rfl rfl (by have e:((j:Int)-(j:Int).tmod 5)+((j:Int).tmod 5+2).tmod 5=_:=aeO j 2;rw [e];omega)) ?_
     refine bV 18 rfl rfl (dN (j-j % 5+(j % 5+2) % 5) Tryz.underlying137 tk135 rfl rfl (aeO j 2) (by omega)) (bV 19 rfl rfl (bj (v:=.int .u64 (ys.getD (j-j % 5+(j % 5+2) % 5) 0)) 1 tk135 rfl rfl (i6 (zs:=ys) (k:=(j-j % 5+(j % 5+2) % 5)) (by omega) (by omega))) (bV 20 rfl rfl (uQ rfl rfl) (bV 21 rfl rfl (ic rfl rfl) (VN 22 rfl rfl rfl (bV 23 rfl rfl (dN (j) Tryz.underlying137 tk135 rfl rfl (rfl) (hj')) ?_)))))
     refine eQ 24 rfl (by kernel_rfl) rfl rfl (fj 0 ([.int .u64 (wV ys j)]) (fi (ws.set j (wV ys j))) tk135 rfl rfl rfl rfl rfl (fun v hv=>by rw [List.mem_singleton.1 hv];rfl) (by simp [hw];omega) (nX (zs:=ws) (k:=j) (by omega) (by omega)) ?_)
     refine bST rfl ?_
     refine BN (bu (an (aa ?_)))
     refine aU rfl (aV rfl rfl (by (try simp only [tm5,td5]);omega)) ?_
     refine aM rfl (aNn ?_)
     refine ⟨[0,3,7,15,16,75],[1,0],[0,1],rfl,?_⟩
     exact ⟨(j+1,_),⟨⟨by dsimp only;omega,by dsimp only;rw [List.length_set];exact hw,by dsimp only;rw [afl,← hwP]⟩,rfl⟩,by dsimp only;omega⟩
    ·skip
     refine aR (aS (aS (aY (an (DR [8] 9 (VM 0 rfl rfl (VN 1 rfl rfl rfl (bV 2 rfl rfl (dN (0) Tryz.underlying137 tk135 rfl rfl (rfl) (by decide)) (bV 3 rfl rfl (bj (v:=.int .u64 (ws.getD 0 0)) 0 tk135 rfl rfl (i6 (zs:=ws) (k:=0) (by omega) (by omega))) (VM 4 rfl rfl (bV 5 rfl rfl (ic rfl rfl) (VN 6 rfl rfl rfl (bV 7 rfl rfl (dN (0) Tryz.underlying137 tk135 rfl rfl (rfl) (by decide)) ?_)))))))))))))
     refine eQ 8 rfl (by kernel_rfl) rfl rfl (fj 0 ([.int .u64 (xU (ws.getD 0 0) (eu.getD i 0))]) (fi (ws.set 0 (xU (ws.getD 0 0) (eu.getD i 0)))) tk135 rfl rfl rfl rfl rfl (fun v hv=>by rw [List.mem_singleton.1 hv];rfl) (by simp [hw]) (nX (zs:=ws) (k:=0) (by omega) (by omega)) ?_)
     refine bST rfl ?_
     refine BN (bu (an (aa ?_)))
     refine aU rfl (aV rfl rfl (by (try simp only [tm5,td5]);omega)) ?_
     refine aM rfl (aNn ?_)
     refine ⟨[0,15,16],[1,0],[0],rfl,?_⟩
     have hj25:j=25:=by simp at h4;omega
     exact ⟨(i+1,_),⟨⟨by dsimp only;omega,by dsimp only;rw [List.length_set];exact hw,by dsimp only;rw [rH,← hzP];unfold rN;rw [hwP,hyP,hqP,hj25]⟩,rfl⟩,by dsimp only;omega⟩
 ·skip
  refine aR (aS (aS (aY (FZ0 [0] Tryz.results144 ?_))))
  have hi24:i=24:=by simp at h1;omega
  subst hi24
  rw [← hzP]
  exact ⟨rfl,hz,rfl⟩
theorem vJ(b:Nat)(z0:List Int)(h0:z0.length=25)(s:ByteArray)(hs:s.size≤200):Con Tryz.prog 67 [.pointer (some ⟨b,0,none⟩),.string s] [ff,fh] [Box b 137 (fi z0)] fun _ ps hp=>ps=[]∧(gQ z0 s.data.toList).length=25∧hp=[Box b 137 (fi (gQ z0 s.data.toList))]:=by
 refine EN2 Tryz.func67 rfl (ai (aSR (aM rfl (aU rfl (cB Tryz.underlying9 rfl) (aM rfl (aNn (aq (aP [0,1,5,6,7] [1,0] [0] (fun (q:Nat × List Int) st=>(q.1≤s.size∧q.2.length=25∧q.2=abF z0 s.data.toList q.1)∧st=⟨[(0,true,.pointer (some ⟨b,0,none⟩)),(1,true,.string s),(5,true,.string s),(6,true,.int .i64 s.size),(7,true,.int .i64 q.1)],[ff,fh],[Box b 137 (fi q.2)]⟩) (fun q=>s.size-q.1) rfl (⟨(0,z0),⟨Nat.zero_le _,h0,rfl⟩,rfl⟩) ?_))))))))
 rintro ⟨i,zs⟩ st ⟨⟨hi,hz,hzP⟩,rfl⟩
 dsimp only at hi hz hzP
 refine aSR (aU rfl (bC rfl rfl) (aNs ?_))
 refine ao _ rfl (fun h1 => ?_) (fun h1 => ?_)
 ·skip
  have hi':i<s.size:=by simp at h1;omega
  obtain ⟨u,hu⟩:∃ u,s.data.toList[i]? = some u:=⟨_,List.getElem?_eq_getElem (by show i<s.data.toList.length;simp;show i<s.size;omega)⟩
  have hi8:i / 8<25:=by omega
  have e1:IntKind.u64.wrap (u.toNat:Int)=u.toNat:=by rw [IntKind.wrap_u64];have:=u.toNat_lt;omega
  have e2:(8*(i:Int).tmod 8).toNat=8*(i % 8):=by show (8*((i % 8:Nat):Int)).toNat=_;omega
  have hbv:byV s.data.toList i=IntKind.u64.wrap (IntKind.u64.wrap (u.toNat:Int)*2 ^ min (8*(i:Int).tmod 8).toNat IntKind.u64.bits):=by rw [e1,e2];unfold byV;rw [List.getD_eq_getElem?_getD,hu];rfl
  refine ax (an (ai (aq (aSR (aM rfl (aA rfl (aNn (DR [17] 18 (VM 0 rfl rfl (VM 1 rfl rfl (bV 2 rfl rfl (rL rfl rfl (by decide)) (VN 3 rfl rfl rfl (bV 4 rfl rfl (dN (i / 8) Tryz.underlying137 tk135 rfl rfl (wq8 (by omega)) (hi8)) (bV 5 rfl rfl (bj (v:=.int .u64 (zs.getD (i / 8) 0)) 0 tk135 rfl rfl (i6 (zs:=zs) (k:=i / 8) (by omega) (by omega))) (VM 6 rfl rfl ?_)))))))))))))))
  refine VM 7 rfl rfl (bV 8 rfl rfl (rK (i) Tryz.underlying9 rfl rfl (rfl) (hu)) (bV 9 rfl rfl (cW (by kernel_rfl) Tryz.underlying135 rfl) (VM 10 rfl rfl (bV 11 rfl rfl (fl rfl rfl (by decide)) ?_))))
  refine bV 12 rfl rfl (fq rfl rfl (by show -9223372036854775808≤8*((i % 8:Nat):Int)∧8*((i % 8:Nat):Int)≤9223372036854775807;omega)) ?_
  refine bV 13 rfl rfl (tH rfl rfl (by show (0:Int)≤8*((i % 8:Nat):Int);omega)) ?_
  refine bV 14 rfl rfl (ic rfl rfl) (VN 15 rfl rfl rfl (bV 16 rfl rfl (dN (i / 8) Tryz.underlying137 tk135 rfl rfl (wq8 (by omega)) (hi8)) ?_))
  refine eQ 17 rfl (by kernel_rfl) rfl rfl (fj 0 ([_]) (fi (zs.set (i / 8) _)) tk135 rfl rfl rfl rfl rfl (fun v hv=>by rw [List.mem_singleton.1 hv];rfl) (by simp [hz];omega) (nX (zs:=zs) (k:=i / 8) (by omega) (by omega)) ?_)
  refine bST rfl ?_
  refine BN (bu (an (aa (aU rfl (aV rfl rfl (by omega)) (aM rfl (aNn ?_))))))
  refine ⟨[0,1,5,6,7],[1,0],[0],rfl,?_⟩
  exact ⟨(i+1,_),⟨⟨by dsimp only;omega,by dsimp only;rw [List.length_set];exact hz,by dsimp only;rw [vm,← hzP,hbv];rfl⟩,rfl⟩,by dsimp only;omega⟩
 ·skip
  refine aR (aS (aS (aY (an (aa (aM rfl (LF rfl (EC [1,0] [0] rfl (aba b zs hz) ?_))))))))
  rintro _ _ _ ⟨rfl,hy,rfl⟩
  refine aST ?_
  refine bP (FZ0 [0] Tryz.results67 ?_)
  have hie:i=s.size:=by simp at h1;omega
  have e:gQ z0 s.data.toList=l6 zs 24:=by unfold gQ;rw [hzP,hie];congr 2<;>simp
  exact ⟨rfl,by rw [e];exact hy,by rw [e];rfl⟩
end Go.Proofs.YtebnelfdimiifaaGreatDoor

namespace Go.Lv
structure Ar where
 at_:Int
 size:Int
 kind:Int
 owner:Int
 mod:Int
deriving DecidableEq
instance:Inhabited Ar:=⟨⟨0,0,0,0,0⟩⟩
def agp(a:Ar):Bool:=decide (256≤a.at_) && decide (a.at_<1099511627776) && decide (a.at_ % 256=0) && decide (1≤a.size) && decide (a.size≤1048576) && decide (a.at_+a.size≤1099511627776) && decide (0≤a.kind) && decide (a.kind<5)
def holds(at_ size:Int)(a:Ar):Bool:=decide (a.at_≤at_) && decide (at_<a.at_+a.size) && decide (size≤a.at_+a.size-at_)
abbrev Cell:=Ar × List UInt8
abbrev Mem:=List Cell
def iG(l:List UInt8)(o:Nat)(b:List UInt8):List UInt8:=l.take o++b++l.drop (o+b.length)
theorem xA{l b:List UInt8}{o:Nat}(h:o+b.length≤l.length):(iG l o b).length=l.length:=by unfold iG;simp;omega
def meets(a:Ar)(x:Cell):Bool:=decide (x.1.at_<a.at_+a.size) && decide (a.at_<x.1.at_+x.1.size)
def mapM(M:Mem)(a:Ar):Mem × Int :=
 if agp a=false then (M,1) else if M.any (meets a) then (M,4) else if 4096≤M.length then (M,7) else
   (M.filter (fun x=>decide (x.1.at_<a.at_))++[(a,List.replicate a.size.toNat 0)]++M.filter (fun x => !decide (x.1.at_<a.at_)),0)
end Go.Lv

namespace Go.Sy
open Go.RowKit Go.Lp Go.Lv
section
variable {P:Program} {n:Fr} {env:Env} {ps:List Per} {hp:List Res} {d:Option Tmp} {ty:TypeId} {pos:String} {af:Array Edge} {gd:Option (Nat × Bool)}
theorem yH{t:Nat}{x y:Operand}{T T2 E:TypeId}{B o N c m cp:Nat}{l:List UInt8}{s:ByteArray}{K:Sta→Prop}(i:Nat)(hel:elB P T E 1=true)(hx:ev env x=some (true,.slice (some ⟨B,o,none⟩) N c))(hy:ev env y=some (true,.string s))(ht:fits n.size (some t)=true)
   (hi:hp[i]? = some (aN (.slice (some ⟨B,0,none⟩) m cp) E 1 (l.map cE))) (hoN:o+N≤l.length) (hs:s.size≤N) (hK:K ⟨(t,true,.int .i64 s.size)::env,ps,hp.set i (aN (.slice (some ⟨B,0,none⟩) m cp) E 1 ((iG l o s.data.toList).map cE))⟩) :
   Eff P n ⟨some t,.call ⟨.builtin .copy,#[x,y],#[T,T2]⟩,ty,pos,af,gd⟩ ⟨env,ps,hp⟩ false K:=.change i hi fun w S fp a hst he hn hR=>by
 have h1:=he.val hx rfl
 have h2:=he.val hy rfl
 obtain ⟨hT,it,hit,_,hsz,_⟩:=dF hel
 rcases hR with ⟨h,_⟩ | ⟨b,cap,hv,⟨cs,sp,hb,hrows,hcap,hrc,hcm⟩,hF⟩
 · cases h
 · simp only [Value.slice.injEq,Option.some.injEq,Addr.mk.injEq] at hv
   obtain ⟨⟨rfl,_⟩,hNN,rfl⟩:=hv
   have hcs:=hrows.bytes
   subst hcs
   have hlb:(Lib.byteCells l).length=l.length:=by simp [Lib.byteCells]
   have hss:s.data.toList.length=s.size:=by simp
   have hr:=Lib.run_copy_row_string (P:=P) w T T2 ty E B o N c s (Lib.byteCells l++sp).toArray E hT (by rw [hit];simp [hsz]) hb hs (by simp [hlb];omega)
   have hexec:execOp a.eval ⟨some t,.call ⟨.builtin .copy,#[x,y],#[T,T2]⟩,ty,pos,af,gd⟩=(Builtin.copy_ #[T,T2] ty (#[x,y].map a.eval)).bind fun r=>Sem.pure (Next.value r):=rfl
   rw [hexec,show #[x,y].map a.eval = #[a.eval x,a.eval y] by simp,h1,h2,Sem.run_bind',hr]
   have hl':(iG l o s.data.toList).length=l.length:=xA (by omega)
   refine ⟨_,_,hK,rfl,rfl,?_,?_,rfl,rfl,⟨rfl,rfl⟩,by simp [World.setRow],fun b' hb' hne=>setRow_other _ _ _ _ (fun h=>hne ((hF b').2 h))⟩
   · exact he.put (g:=true) (by rw [hn];simpa [fits] using ht) _
   · refine .inr ⟨B,cp,by rw [List.length_map,hl',hNN,List.length_map],⟨Lib.byteCells (iG l o s.data.toList),sp,?_,uX _ _ _,?_,?_,hcm⟩,hF⟩
     · rw [setRow_heap _ _ _ _ _ _ hb]
       congr 3
       unfold iG
       show (Lib.byteCells l++sp).take o++Lib.byteCells s.data.toList++(Lib.byteCells l++sp).drop (o+s.size)=_
       rw [List.take_append_of_le_length (by rw [hlb];omega),List.drop_append_of_le_length (by rw [hlb];omega),← List.append_assoc]
       congr 1
       simp [Lib.byteCells,List.map_drop,List.map_take]
     · rw [List.length_append]
       have:(Lib.byteCells (iG l o s.data.toList)).length=l.length:=by simp [Lib.byteCells,hl']
       rw [this]
       rw [List.length_append,hlb] at hcap;exact hcap
     · rw [List.length_map,hl'];rw [List.length_map] at hrc;exact hrc
end
end Go.Sy

namespace Go.Proofs.YtebnelfdimiifaaGreatDoor
open Go.RowKit Go.Lp Go.Sy Go.Lv
open Go.Proofs.Tryz
attribute [local irreducible] aL aB awp aC fwp Quiet
theorem rD(l:List UInt8):(ofBytes l).size=l.length:=rfl
theorem mu(l:List UInt8):(ofBytes l).data.toList=l:=rfl
theorem pq(l:List UInt8)(a b:Nat):(ofBytes l).extract a b=ofBytes ((l.drop a).take (b-a)):=by
 apply ByteArray.ext
 rw [ByteArray.data_extract]
 show l.toArray.extract a b=((l.drop a).take (b-a)).toArray
 rw [List.extract_toArray]
theorem vO(b:Nat)(p:Value)(hp:p=.pointer none∨p=.pointer (some ⟨b,0,none⟩))(v:Value)(l:List UInt8)(hl:l.length≤1000000)(z:Int):Con Tryz.prog 68 [.pointer (some ⟨b,0,none⟩),.int .u8 (IntKind.u8.wrap z)] [] [og b p v,aN v 5 1 (l.map cE)]
   fun _ ps hp=>ps=[]∧∃ (ad:Option Addr) (c:Nat),hp=[og b (.pointer (some ⟨b,0,none⟩)) (.slice ad (l++[gW z]).length c),aN (.slice ad (l++[gW z]).length c) 5 1 ((l++[gW z]).map cE)]:=by
 rw [mg]
 exact ya b p hp v l hl (gW z)
theorem acN(s:ByteArray)(hs:s.size≤maxLen):Con Tryz.prog 19 [.string s] [ff,fh] [] fun r ps hp=>ps=[]∧hp=[]∧r=.string (ofBytes (xB s.data.toList)):=by
 have hs':s.size≤9223372036854775807:=hs
 obtain ⟨sl,hsl⟩:∃ sl,s.data.toList=sl:=⟨_,rfl⟩
 have hsz:s.size=sl.length:=by rw [← hsl];simp
 have hse:s=ofBytes sl:=by rw [← hsl];rfl
 rw [hsl]
 refine EN1 Tryz.func19 rfl (aSR (aA rfl (aNn (aSR (LT rfl (bJ (zs:=[.int .u64 0,.int .u64 0,.int .u64 0,.int .u64 0,.int .u64 0,.int .u64 0,.int .u64 0,.int .u64 0,.int .u64 0,.int .u64 0,.int .u64 0,.int .u64 0,.int .u64 0,.int .u64 0,.int .u64 0,.int .u64 0,.int .u64 0,.int .u64 0,.int .u64 0,.int .u64 0,.int .u64 0,.int .u64 0,.int .u64 0,.int .u64 0,.int .u64 0]) (by kernel_rfl) rfl (fun b1_0=>(aHN ?_))))))))
 refine aNs (aq ?_)
 refine aP [0,3] [1,0] [0] (fun (k:Nat) st=>(136*k≤sl.length∧(iP sl k).length=25)∧st=⟨[(0,true,.string (ofBytes (sl.drop (136*k)))),(3,true,.pointer (some ⟨b1_0,0,none⟩))],[ff,fh],[Box b1_0 137 (fi (iP sl k))]⟩) (fun k=>sl.length-136*k) rfl (⟨0,⟨Nat.zero_le _,rfl⟩,by rw [hse];rfl⟩) ?_
 rintro k st ⟨⟨hk,hz⟩,rfl⟩
 have hxl:(ofBytes (sl.drop (136*k))).size=sl.length-136*k:=by rw [rD,List.length_drop]
 refine ai (aSR (aM rfl (aU rfl (cB Tryz.underlying9 rfl) (aU rfl (fH rfl rfl) (aNn ?_)))))
 refine ao _ rfl (fun h1 => ?_) (fun h1 => ?_)
 ·skip
  have h136:136≤sl.length-136*k:=by rw [hxl] at h1;simp at h1;omega
  refine ax (an (ai (aq (aa (aM rfl (aU rfl (uS Tryz.underlying9 rfl rfl (by omega) (by omega)) ?_))))))
  refine LF rfl (EC [1,0] [0] rfl (vJ b1_0 (iP sl k) hz _ (by simp;omega)) ?_)
  rintro _ _ _ ⟨rfl,hy,rfl⟩
  refine aST ?_
  refine bP (bu (an (aa (aM rfl (aU rfl (uT Tryz.underlying9 rfl rfl (by omega) (by omega)) (aA rfl (aNn ?_)))))))
  refine ⟨[0,3],[1,0],[0],rfl,?_⟩
  have e1:((ofBytes (sl.drop (136*k))).extract 0 (136:Int).toNat).data.toList=(sl.drop (136*k)).take 136:=by rw [pq];rfl
  have e2:(ofBytes (sl.drop (136*k))).extract (136:Int).toNat (ofBytes (sl.drop (136*k))).size=ofBytes (sl.drop (136*(k+1))):=by
    rw [pq,List.drop_drop,List.take_of_length_le (by rw [List.length_drop,hxl];show sl.length-(136*k+136)≤sl.length-136*k-136;omega)]
    rfl
  rw [e1] at hy
  rw [e1,e2]
  exact ⟨k+1,⟨⟨by omega,by rw [kI];exact hy⟩,by rw [kI];rfl⟩,by omega⟩
 ·skip
  have h136:sl.length-136*k<136:=by rw [hxl] at h1;simp at h1;omega
  have hkd:k=sl.length / 136:=by omega
  obtain ⟨r,hr⟩:∃ r,sl.drop (136*k)=r:=⟨_,rfl⟩
  have hrl:r.length<136:=by rw [← hr,List.length_drop];exact h136
  rw [hr]
  refine aR (aS (aS (aY (an (aSR (LT rfl (gP (m:=136) (zs:=[.int .u8 0]) el60 (by kernel_rfl) rfl (by decide) (dS rfl (rfl)) (dS rfl (rfl)) (by omega) rfl (fun v5_0=>(aHN ?_)))))))))
  refine aA rfl (aNs ?_)
  refine eZ 1 (aN _ _ 1 ((List.replicate 136 (0:UInt8)).map cE)) rfl (fun _ _ _ h=>by rw [List.map_replicate];exact h) ?_
  refine gD 1 rfl (by simp) (fun B cp hv hcp => ?_)
  obtain ⟨rfl,_,rfl⟩:v5_0=some ⟨B,0,none⟩∧True∧136=cp:=by simp at hv;exact ⟨hv.1,trivial,hv.2⟩
  refine aa (aM rfl (aM rfl ?_))
  refine LF rfl (yH (o:=0) (N:=136) (l:=List.replicate 136 0) 1 el60 rfl rfl rfl rfl (by simp) (by rw [rD];omega) ?_)
  refine aNs ?_
  have hsp:iG (List.replicate 136 (0:UInt8)) 0 (ofBytes r).data.toList=r++List.replicate (136-r.length) 0:=by
    rw [mu];unfold iG;rw [List.take_zero,List.nil_append,Nat.zero_add,List.drop_replicate]
  refine eZ 1 (aN (.slice (some ⟨B,0,none⟩) 136 136) 5 1 ((r++List.replicate (136-r.length) 0).map cE)) rfl (fun _ _ _ h=>by rw [hsp] at h;exact h) ?_
  obtain ⟨l,hl0⟩:∃ l,r++List.replicate (136-r.length) (0:UInt8)=l:=⟨_,rfl⟩
  have hl:l.length=136:=by rw [← hl0];simp;omega
  rw [hl0]
  obtain ⟨u0,hu0⟩:∃ u,l[r.length]? = some u:=⟨_,List.getElem?_eq_getElem (by omega)⟩
  refine aa (aM rfl (aM rfl (aU rfl (cB Tryz.underlying9 rfl) ?_)))
  refine aU rfl (bZ 1 r.length el60 rfl rfl rfl (by rw [rD]) (by rw [List.length_map,hl];exact hrl)) ?_
  refine LF rfl (du 1 r.length 0 tk5 rfl rfl rfl (aI hu0) (by simp) (.v rfl .nil) rfl (by decide) ?_)
  refine aNs ?_
  refine eZ 1 (aN _ _ 1 ((l.set r.length 6).map cE)) rfl (fun _ _ _ h=>by rw [List.map_set];exact h) ?_
  obtain ⟨l2,hl2⟩:∃ l2,l.set r.length 6=l2:=⟨_,rfl⟩
  have hl2n:l2.length=136:=by rw [← hl2,List.length_set];exact hl
  rw [hl2]
  obtain ⟨u1,hu1⟩:∃ u,l2[135]? = some u:=⟨_,List.getElem?_eq_getElem (by omega)⟩
  refine aa (aM rfl ?_)
  refine aU rfl (bZ 1 135 el60 rfl rfl rfl rfl (by rw [List.length_map,hl2n];decide)) ?_
  refine aU rfl (bE 1 135 0 tk5 rfl rfl (aI hu1) rfl rfl) (aU rfl (tG rfl rfl) ?_)
  refine aU rfl (bZ 1 135 el60 rfl rfl rfl rfl (by rw [List.length_map,hl2n];decide)) ?_
  refine LF rfl (du 1 135 0 tk5 rfl rfl rfl (aI hu1) rfl (.v rfl .nil) rfl (by decide) (aNs ?_))
  have hu2:=agX u1
  refine eZ 1 (aN _ _ 1 ((l2.set 135 (u1 ||| 128)).map cE)) rfl (fun _ _ _ h=>by rw [List.map_set];show (aN _ _ 1 ((l2.map cE).set 135 [.v (.int .u8 (u1 ||| 128:UInt8).toNat)])).holds _ _ _;rw [← hu2];exact h) ?_
  obtain ⟨l3,hl3⟩:∃ l3,l2.set 135 (u1 ||| 128)=l3:=⟨_,rfl⟩
  have hl3n:l3.length=136:=by rw [← hl3,List.length_set];exact hl2n
  have hlast:l3=wP r:=by
    unfold wP
    rw [hl0,hl2,List.getD_eq_getElem?_getD,hu1]
    exact hl3.symm
  rw [hl3]
  refine aa (aM rfl ?_)
  refine aU rfl (iY 1 l3 Tryz.underlying60 Tryz.underlying5 Tryz.underlying9 rfl rfl rfl (by intro h;rw [h] at hl3n;cases hl3n)) ?_
  refine LF rfl (EC [1,0] [0] rfl (vJ b1_0 (iP sl k) hz (ofBytes l3) (by show l3.toArray.size≤200;simp [hl3n])) ?_)
  rintro _ _ _ ⟨rfl,hy,rfl⟩
  refine aST ?_
  refine aNs ?_
  rw [mu] at hy
  rw [mu]
  obtain ⟨ys,hys⟩:∃ ys,gQ (iP sl k) l3=ys:=⟨_,rfl⟩
  rw [hys] at hy
  rw [hys]
  refine aa (LT rfl (bJ (zs:=[.pointer none,.slice none 0 0]) (by kernel_rfl) rfl (fun b10_0=>(aHN ?_))))
  refine aNs (ai (ef 5 1 ?_))
  show awp _ _ _ _ ⟨_,_,[_,_,_,_]⟩
  refine aa (aU rfl (zb (m:=25) (sz:=1) Tryz.underlying137 (by kernel_rfl) rfl rfl rfl (by decide) (by decide)) (aU rfl (aX Tryz.underlying139 rfl) (aM rfl (aNn (aq (aP [3,5,33,34,35] [1,0] [0,2,3] (fun (q:Nat × (Value × Value)) st=>(q.1≤4∧(q.2.1=.pointer none∨q.2.1=.pointer (some ⟨b10_0,0,none⟩)))∧st=⟨[(3,true,.pointer (some ⟨b1_0,0,none⟩)),(5,true,.pointer (some ⟨b10_0,0,none⟩)),(33,true,.slice (some ⟨b1_0,0,none⟩) 4 25),(34,true,.int .i64 (4:Nat)),(35,true,.int .i64 q.1)],[ff,fh],[Box b1_0 137 (fi ys),og b10_0 q.2.1 q.2.2,aN q.2.2 5 1 ((kv ys (8*q.1)).map cE)]⟩) (fun q=>4-q.1) rfl (⟨(0,(.pointer none,.slice none 0 0)),⟨Nat.zero_le _,.inl rfl⟩,rfl⟩) ?_))))))
  rintro ⟨i,p,v⟩ st ⟨⟨hi,hp⟩,rfl⟩
  dsimp only at hi hp ⊢
  refine aSR (aU rfl (bC rfl rfl) (aNs ?_))
  refine ao _ rfl (fun h2 => ?_) (fun h2 => ?_)
  ·skip
   have hi':i<4:=by simp at h2;omega
   refine ax (an (ai (aq (aSR (aU rfl (ae4 i el139 rfl rfl rfl hi') (aU rfl (bj (v:=.int .u64 (ys.getD i 0)) 0 tk135 rfl rfl (i6 (zs:=ys) (k:=i) (by omega) (by omega))) (aA rfl (aNn (aSR (aM rfl (aNn (aq (aP [3,5,7,33,34,35,39] [1,0] [0,1,2] (fun (q:Nat × (Value × Value)) st=>(q.1≤8∧(q.2.1=.pointer none∨q.2.1=.pointer (some ⟨b10_0,0,none⟩)))∧st=⟨[(3,true,.pointer (some ⟨b1_0,0,none⟩)),(5,true,.pointer (some ⟨b10_0,0,none⟩)),(7,true,.int .u64 (ys.getD i 0)),(33,true,.slice (some ⟨b1_0,0,none⟩) 4 25),(34,true,.int .i64 (4:Nat)),(35,true,.int .i64 i),(39,true,.int .i64 q.1)],[ff,fh],[Box b1_0 137 (fi ys),og b10_0 q.2.1 q.2.2,aN q.2.2 5 1 ((kv ys (8*i+q.1)).map cE)]⟩) (fun q=>8-q.1) rfl (⟨(0,(p,v)),⟨Nat.zero_le _,hp⟩,rfl⟩) ?_)))))))))))))
   rintro ⟨j,p2,v2⟩ st ⟨⟨hj,hp2⟩,rfl⟩
   dsimp only at hj hp2 ⊢
   refine aSR (aU rfl (bC rfl rfl) (aNs ?_))
   refine ao _ rfl (fun h3 => ?_) (fun h3 => ?_)
   ·skip
    have hj':j<8:=by simp at h3;omega
    refine ax (an (ai (aq (aSR (aM rfl (aA rfl (aNn (aa (aM rfl (aM rfl (aU rfl (fq rfl rfl (by omega)) (aU rfl (xk rfl rfl (by omega)) (aU rfl (cW (by kernel_rfl) Tryz.underlying5 rfl) ?_)))))))))))))
    refine LF rfl (EC [] [1,2] rfl (vO b10_0 p2 hp2 v2 (kv ys (8*i+j)) (by rw [jN];omega) _) ?_)
    rintro _ _ _ ⟨rfl,ad,cc,rfl⟩
    refine aST ?_
    refine bP (bu (an (aa (aU rfl (aV rfl rfl (by omega)) (aM rfl (aNn ?_))))))
    refine ⟨[3,5,7,33,34,35,39],[1,0],[0,1,2],rfl,?_⟩
    have eo:kv ys (8*i+(j+1))=kv ys (8*i+j)++[gW ((ys.getD i 0).fdiv (2 ^ min (8*j) 64))]:=by
      rw [show 8*i+(j+1)=8*i+j+1 by omega,tB,ab7 _ _ hj',show (8*i+j) / 8=i by omega,show (8*i+j) % 8=j by omega]
    exact ⟨(j+1,(_,_)),⟨⟨by dsimp only;omega,.inr rfl⟩,by dsimp only;rw [eo];rfl⟩,by dsimp only;omega⟩
   ·skip
    refine aR (aS (aS (aY (bu (an (aa (aU rfl (aV rfl rfl (by omega)) (aM rfl (aNn ?_)))))))))
    refine ⟨[3,5,33,34,35],[1,0],[0,1,2],rfl,?_⟩
    have hj8:j=8:=by simp at h3;omega
    subst hj8
    exact ⟨(i+1,(p2,v2)),⟨⟨by dsimp only;omega,hp2⟩,by dsimp only;rw [show 8*(i+1)=8*i+8 by omega];rfl⟩,by dsimp only;omega⟩
  ·skip
   refine aR (aS (aS (aY (an (ai ?_)))))
   have hi4:i=4:=by simp at h2;omega
   subst hi4
   have hne:kv ys (8*4)≠[]:=by intro h;have:=congrArg List.length h;rw [jN] at this;cases this
   refine gD 2 rfl (by simpa using hne) (fun B cp hv hcp => ?_)
   rw [List.length_map] at hv hcp
   subst hv
   refine aa ?_
   refine LF rfl (EC [] [1,2] rfl (vN b10_0 p B cp (by rw [jN] at hcp;omega) (kv ys (8*4)) hne) ?_)
   rintro _ _ _ ⟨rfl,rfl,rfl⟩
   refine aST ?_
   refine aA rfl (aNn (az (FZ1 [] Tryz.results19 rfl ?_)))
   exact ⟨rfl,rfl,by unfold xB;rw [← hkd,hr,← hlast,hys];rfl⟩
end Go.Proofs.YtebnelfdimiifaaGreatDoor

namespace Go.Sy
open Go.RowKit Go.Lp
section
variable {P:Program} {n:Fr} {ops:Array Oper} {Q:Exit→Sta→Prop} {env:Env} {ps:List Per} {hp:List Res} {ty:TypeId} {pos:String} {af:Array Edge} {gd:Option (Nat × Bool)}
theorem aex{V:List Nat}{k:Nat}{L:Array Bool}{t:Nat}{T E:TypeId}{len:Nat}{l:List (Nat × Operand)}{xs:List Operand}{vs zs cs:List Value}{rows:List (List D)}(i:Nat)(hi:ops[i]? = some ⟨some t,.buildSlice T len l.toArray,ty,pos,af,gd⟩)(hr:Region.ready .any ops L=[i])(hel:elB P T E zs.length=true)(hz:fc P E=some zs)(h0:0<zs.length)
   (hlen:0<len) (hsm:len*zs.length≤16777216) (hxs:l.map (·.2)=xs) (c:Bool) (hc:guardOf ops env ⟨some t,.buildSlice T len l.toArray,ty,pos,af,gd⟩=some c) (hx:c=true→evs env xs=some vs) (hb:bld (fun i=>some (i*zs.length,zs.length)) (k7 len zs) ((l.map (·.1)).zip vs)=some cs) (hrc:RCs ps zs.length cs rows) (hrl:rows.length=len) (ht:fits n.size (some t)=true)
   (h:∀ ad,aB P n ops V Q k (L.setIfInBounds i true) ⟨(t,c,.slice ad len len)::env,cnd c (Sh (.slice ad len len) (.sl rows))::ps,hp⟩):aB P n ops V Q (k+1) L ⟨env,ps,hp⟩:=by
 cases c with
 | true =>
   refine zG i hi hr hel hz h0 hlen hsm hxs hc (hx rfl) hb hrc hrl ht (fun ad=>acn (fun p hp => ?_) (h ad))
   rcases List.mem_cons.1 hp with rfl | hp
   · exact fun w S hq _=>hq _ List.mem_cons_self
   · exact .of (List.mem_cons_of_mem _ hp)
 | false =>
   intro w S fp a hst he hn hdf w1 hb
   refine ⟨fun h0=>(by rw [hr] at h0;cases h0),fun j hj => ?_⟩
   rw [hr] at hj
   obtain rfl:=List.mem_singleton.1 hj
   refine ⟨_,hi,?_⟩
   rw [if_neg (by rw [ej (ops:=ops) hc he];exact Bool.false_ne_true)]
   refine ⟨fun _=>Below.refl _ _,?_⟩
   have hen:=he.set (dst:=some t) (by rw [hn];exact ht) false (.slice none len len)
   have h2:aB P n ops V Q k (L.setIfInBounds j true) ⟨(t,false,.slice none len len)::env,ps,hp⟩:=acn (fun p hp=>by
     rcases List.mem_cons.1 hp with rfl | hp
     · exact fun w S hq h=>by cases h
     · exact .of hp) (h none)
   exact jQ (fun a2 w2 hp=>hp.trans (Evo.of_below _ _ hb) (fun _ h=>.inl h)) _ _ _ _ (h2 w1 S fp _ (hst.below hb) hen (by rw [fk];exact hn) (by rw [put_defers];exact hdf))
theorem Con.uncnd{f:FuncId}{args:List Value}{p:Per}{ps:List Per}{l:List Res}{R:Value→List Per→List Res→Prop}{c:Bool}(hc:c=true)(h:Con P f args (p::ps) l R):Con P f args (cnd c p::ps) l R :=
 h.pre fun q hq=>by
   rcases List.mem_cons.1 hq with rfl | hq
   · exact fun w S hp=>hp _ List.mem_cons_self hc
   · exact .of (List.mem_cons_of_mem _ hq)
end
end Go.Sy

