/- Parts of the proof, in build order. No condition. -/
import Derived.Test.YtfkcmbonmpcbfaaGreatRa28
import Derived.Test.YtfkcmbonmpcbfaaGreatRa30
import Derived.Test.YtfkcmbonmpcbfaaGreatRa18
import Derived.Test.YtfkcmbonmpcbfaaGreatRa24
import Derived.Test.YtfkcmbonmpcbfaaGreatRa05
import Derived.Test.YtfkcmbonmpcbfaaGreatRa09
import Derived.Test.YtfkcmbonmpcbfaaGreatRa08
import Derived.Deep.Slices
set_option linter.unusedSimpArgs false
set_option linter.unusedVariables false
set_option maxHeartbeats 1000000
set_option maxRecDepth 20000
namespace Go.Proofs.YtfkcmbonmpcbfaaGreat
open Go.RowKit Go.Lp Go.Sy Go.Lv
open Go.Proofs.Tryz
attribute [local irreducible] aL aB awp aC fwp Quiet
section
variable (d:ByteArray) (a0 a1 a2 a3 a4:Option Addr)
theorem abB(hd:d.size=32):kF (dh d a0 a1 a2 a3 a4)=true:=by
 have b1:iC (vu d)=false:=by unfold iC vu;dsimp only;rw [hd];kernel_rfl
 have b2:iC (vv d)=false:=by unfold iC vv;dsimp only;rw [hd];kernel_rfl
 have i1:xa (dh d a0 a1 a2 a3 a4) (vu d)=true:=by kernel_rfl
 have i2:xa (dh d a0 a1 a2 a3 a4) (vv d)=true:=by kernel_rfl
 have hn:allI (fun _ x=>jf (dh d a0 a1 a2 a3 a4) x) 0 (dh d a0 a1 a2 a3 a4).nodes.l=true:=by
   show (jf (dh d a0 a1 a2 a3 a4) (vu d) && (jf (dh d a0 a1 a2 a3 a4) (vv d) && true))=true
   unfold jf;rw [b1,b2,i1,i2];rfl
 have h0:l6 (dh d a0 a1 a2 a3 a4)=true:=by kernel_rfl
 have h1:kA (dh d a0 a1 a2 a3 a4)=true:=by
   unfold kA mC;rw [hn];kernel_rfl
 have h2:qo (dh d a0 a1 a2 a3 a4)=true:=by kernel_rfl
 have h3:iR (dh d a0 a1 a2 a3 a4)=true:=by kernel_rfl
 have h4:mr (dh d a0 a1 a2 a3 a4)=true:=by kernel_rfl
 have h5:tF (dh d a0 a1 a2 a3 a4)=true:=by kernel_rfl
 have h6:nu (dh d a0 a1 a2 a3 a4) true=true:=by kernel_rfl
 have h7:aa9 (dh d a0 a1 a2 a3 a4)=true:=by kernel_rfl
 have h8:pd (dh d a0 a1 a2 a3 a4)=true:=by kernel_rfl
 unfold kF;rw [h0,h1,h2,h3,h4,h5,h6,h7,h8];rfl
def aax:az := { dh d a0 a1 a2 a3 a4 with code:=8 }
theorem yH:kF (aax d a0 a1 a2 a3 a4)=false:=by
 have h0:l6 (aax d a0 a1 a2 a3 a4)=false:=by kernel_rfl
 unfold kF;rw [h0];rfl
theorem zV:iY (dh d a0 a1 a2 a3 a4).versions.l:=⟨Nat.zero_le _,fun _ h=>(by cases h),fun _ h=>(by cases h)⟩
theorem adz:xC (dh d a0 a1 a2 a3 a4).nodes.l:=fun x hx=>by
 rcases List.mem_cons.1 hx with rfl | hx
 · exact ⟨⟨by show (0:Int)≤16;decide,by show (16:Int)≤1048576;decide⟩,by show (0:Int)≤8;decide,by show (8:Int)≤1048576;decide⟩
 · rw [List.mem_singleton.1 hx]
   exact ⟨⟨by show (0:Int)≤272;decide,by show (272:Int)≤1048576;decide⟩,by show (0:Int)≤16;decide,by show (16:Int)≤1048576;decide⟩
theorem abA:eE (dh d a0 a1 a2 a3 a4):=by
 refine ⟨?_,?_,?_,?_,?_,?_,?_,?_,?_,?_,?_,?_,?_,⟨?_,?_,?_,?_,?_,?_⟩,?_⟩
 · show Go.Lv.I64 256;decide
 · show Go.Lv.I64 512;decide
 · show Go.Lv.I64 768;decide
 · show Go.Lv.I64 0;decide
 · show Go.Lv.I64 16;decide
 · intro y hy
   rcases List.mem_cons.1 hy with rfl | hy
   · exact ⟨by show Go.Lv.I64 0;decide,by show Go.Lv.I64 16;decide,by show Go.Lv.I64 8;decide⟩
   · rw [List.mem_singleton.1 hy];exact ⟨by show Go.Lv.I64 1;decide,by show Go.Lv.I64 272;decide,by show Go.Lv.I64 16;decide⟩
 · intro y hy;rw [List.mem_singleton.1 hy];exact ⟨by show Go.Lv.I64 0;decide,by show Go.Lv.I64 16;decide,by show Go.Lv.I64 8;decide⟩
 · intro y hy;rw [List.mem_singleton.1 hy];show Go.Lv.I64 0;decide
 · intro y hy;rw [List.mem_singleton.1 hy];show Go.Lv.I64 256;decide
 · intro y hy;cases hy
 · intro y hy
   rcases List.mem_cons.1 hy with rfl | hy
   · exact ⟨by show Go.Lv.I64 256;decide,by show Go.Lv.I64 3;decide,by show Go.Lv.I64 0;decide,by show Go.Lv.I64 0;decide⟩
   · rw [List.mem_singleton.1 hy];exact ⟨by show Go.Lv.I64 272;decide,by show Go.Lv.I64 0;decide,by show Go.Lv.I64 (-1);decide,by show Go.Lv.I64 16;decide⟩
 all_goals (intro y hy;cases hy)
theorem aef(x:ba)(hx:jI x)(h1:x.obj.size≤100)(h2:x.sec.size≤100)(h3:x.digest.size≤100)(h4:x.form.size≤100):(dq x).length≤1000:=by
 have e:dq x=an.enc x.obj++(an.enc x.sec++(ak.enc x.kind++(ak.enc x.at_++(ak.enc x.size++(an.enc x.digest++an.enc x.form))))):=rfl
 have hi:∀ z:Int,(ak.enc z).length≤10:=fun z=>fU 10 _
 have ht:∀ b:ByteArray,(an.enc b).length≤10+b.size:=fun b=>by rw [gP];have:(aV b.size).length≤10:=fU 10 b.size;omega
 have t1:=ht x.obj
 have t2:=ht x.sec
 have t3:=ht x.digest
 have t4:=ht x.form
 have i1:=hi x.kind
 have i2:=hi x.at_
 have i3:=hi x.size
 rw [e]
 simp only [List.length_append]
 omega
theorem adA(hd:d.size=32):(cg.enc (bQ (dh d a0 a1 a2 a3 a4))).length≤20000:=by
 have hw:=abA d a0 a1 a2 a3 a4
 have k1:=aef (vu d) (hw.2.2.2.2.2.1 _ List.mem_cons_self) (by show 1≤100;decide) (by show 4≤100;decide) (by show d.size≤100;omega) (by show 0≤100;decide)
 have k2:=aef (vv d) (hw.2.2.2.2.2.1 _ (List.mem_cons_of_mem _ List.mem_cons_self)) (by show 1≤100;decide) (by show 4≤100;decide) (by show d.size≤100;omega) (by show 0≤100;decide)
 have hn:(aV (dh d a0 a1 a2 a3 a4).nodes.l.length++aP dq (dh d a0 a1 a2 a3 a4).nodes.l).length≤3000:=by
   show (aV 2++(dq (vu d)++(dq (vv d)++[]))).length≤3000
   simp only [List.length_append,List.length_nil]
   have:(aV 2).length≤10:=fU 10 2
   omega
 have hbl:∀ {n m:Nat},Nat.ble n m=true→n≤m:=fun h=>Nat.le_of_ble_eq_true h
 rw [ac1]
 have c1:(an.enc (dh d a0 a1 a2 a3 a4).name).length≤100:=hbl (by kernel_rfl)
 have c2:(bP.enc (dh d a0 a1 a2 a3 a4).lib).length≤100:=hbl (by kernel_rfl)
 have c3:(ak.enc (dh d a0 a1 a2 a3 a4).code).length≤100:=hbl (by kernel_rfl)
 have c4:(ak.enc (dh d a0 a1 a2 a3 a4).data).length≤100:=hbl (by kernel_rfl)
 have c5:(ak.enc (dh d a0 a1 a2 a3 a4).zero).length≤100:=hbl (by kernel_rfl)
 have c6:(an.enc (dh d a0 a1 a2 a3 a4).bytes).length≤1000:=hbl (by kernel_rfl)
 have c7:(an.enc (dh d a0 a1 a2 a3 a4).tls).length≤100:=hbl (by kernel_rfl)
 have c8:(ak.enc (dh d a0 a1 a2 a3 a4).block).length≤100:=hbl (by kernel_rfl)
 have c9:(aV (dh d a0 a1 a2 a3 a4).exports.l.length++aP cT (dh d a0 a1 a2 a3 a4).exports.l).length≤100:=hbl (by kernel_rfl)
 have c10:(aV (dh d a0 a1 a2 a3 a4).imports.l.length++aP dR (dh d a0 a1 a2 a3 a4).imports.l).length≤100:=hbl (by kernel_rfl)
 have c11:(aV (dh d a0 a1 a2 a3 a4).slots.l.length++aP ak.enc (dh d a0 a1 a2 a3 a4).slots.l).length≤100:=hbl (by kernel_rfl)
 have c12:(aV (dh d a0 a1 a2 a3 a4).stubs.l.length++aP ak.enc (dh d a0 a1 a2 a3 a4).stubs.l).length≤100:=hbl (by kernel_rfl)
 have c13:(aV (dh d a0 a1 a2 a3 a4).dyns.l.length++aP j0 (dh d a0 a1 a2 a3 a4).dyns.l).length≤100:=hbl (by kernel_rfl)
 have c14:(aV (dh d a0 a1 a2 a3 a4).inits.l.length++aP ak.enc (dh d a0 a1 a2 a3 a4).inits.l).length≤100:=hbl (by kernel_rfl)
 have c15:(aV (dh d a0 a1 a2 a3 a4).lasts.l.length++aP ak.enc (dh d a0 a1 a2 a3 a4).lasts.l).length≤100:=hbl (by kernel_rfl)
 have c16:(ak.enc (dh d a0 a1 a2 a3 a4).entry).length≤100:=hbl (by kernel_rfl)
 have c17:(aV (dh d a0 a1 a2 a3 a4).needs.l.length++aP an.enc (dh d a0 a1 a2 a3 a4).needs.l).length≤100:=hbl (by kernel_rfl)
 have c18:(aV (dh d a0 a1 a2 a3 a4).versions.l.length++aP cE (dh d a0 a1 a2 a3 a4).versions.l).length≤100:=hbl (by kernel_rfl)
 have c19:(fq.enc (eZ (dh d a0 a1 a2 a3 a4).info)).length≤100:=hbl (by kernel_rfl)
 have c20:(aV (dh d a0 a1 a2 a3 a4).changes.l.length++aP gX (dh d a0 a1 a2 a3 a4).changes.l).length≤100:=hbl (by kernel_rfl)
 have ad:∀ {a b:List UInt8} {n m:Nat},a.length≤n→b.length≤m→(a++b).length≤n+m:=fun h1 h2=>by rw [List.length_append];omega
 exact Nat.le_trans (ad c1 (ad c2 (ad c3 (ad c4 (ad c5 (ad c6 (ad c7 (ad c8 (ad hn (ad c9 (ad c10 (ad c11 (ad c12 (ad c13 (ad c14 (ad c15 (ad c16 (ad c17 (ad c18 (ad c19 c20)))))))))))))))))))) (by decide)
end
theorem adm(x:az):bytesOf (cg.enc (bQ x))≠bytesOf []:=fun h=>by
 have h2:=cg.pos (bQ x)
 have:cg.enc (bQ x)=[]:=congrArg gH h
 rw [this] at h2;cases h2
theorem uT:Con Tryz.prog 8 [] [] [] fun r _ _=>r=.bool true:=by
 refine Con.enter Tryz.func8 rfl (by simp [Tryz.ntmps8]) ?_
 show awp _ _ _ _ ⟨[],_,_⟩
 refine aSR (aA rfl (aNn (aSR (LT rfl (EC [] [] rfl (uJ) ?_)))))
 rintro _ _ _ ⟨rfl,d,a0,a1,a2,a3,a4,hd,rfl,rfl⟩
 refine aST ?_
 refine LT rfl (bk (zs:=ZI) (by kernel_rfl) rfl (fun b1_1=>(aHN ?_)))
 refine aD rfl (aF 0 tk40 rfl rfl rfl rfl (aHK ?_))
 refine aNn (aSR (UL 0 tk40 rfl rfl rfl rfl (LT rfl (bk (zs:=ZI) (by kernel_rfl) rfl (fun b2_1=>(aHN ?_))))))
 refine aD rfl (aF 1 tk40 rfl rfl rfl rfl (aHK ?_))
 refine aNn (aSR (UO 2 rfl rfl (aD rfl (aF 1 tk3 rfl rfl rfl rfl (aHK ?_)))))
 refine aNs ?_
 have hW:=abA d a0 a1 a2 a3 a4
 have hL:=adA d a0 a1 a2 a3 a4 hd
 have hf:=adz d a0 a1 a2 a3 a4
 refine aa (UL 0 tk40 rfl rfl rfl rfl (aU rfl (Q1 rfl (show Con Tryz.prog 39 [(dh d a0 a1 a2 a3 a4).val,.int .i64 23] [(dh d a0 a1 a2 a3 a4).ok] [] fun r _ _=>r=.tuple #[.int .i64 0,.bool true] from lQ (dh d a0 a1 a2 a3 a4) hf 23) 0 rfl) (aM rfl (aU rfl (ck rfl rfl) (aU rfl (ck rfl rfl) (aA rfl (aA rfl (aNn (aSR (UL 0 tk40 rfl rfl rfl rfl (aU rfl (Q1 rfl (show Con Tryz.prog 39 [(dh d a0 a1 a2 a3 a4).val,.int .i64 24] [(dh d a0 a1 a2 a3 a4).ok] [] fun r _ _=>r=.tuple #[.int .i64 0,.bool false] from lQ (dh d a0 a1 a2 a3 a4) hf 24) 0 rfl) ?_)))))))))))
 refine aM rfl (aU rfl (ck rfl rfl) (aU rfl (ck rfl rfl) (aA rfl (aA rfl (aNn (aSR (UL 0 tk40 rfl rfl rfl rfl (aU rfl (Q1 rfl (show Con Tryz.prog 39 [(dh d a0 a1 a2 a3 a4).val,.int .i64 272] [(dh d a0 a1 a2 a3 a4).ok] [] fun r _ _=>r=.tuple #[.int .i64 1,.bool true] from lQ (dh d a0 a1 a2 a3 a4) hf 272) 0 rfl) ?_))))))))
 refine aM rfl (aU rfl (ck rfl rfl) (aU rfl (ck rfl rfl) (aA rfl (aA rfl (aNn (aSR (UL 0 tk40 rfl rfl rfl rfl (aU rfl (Q1 rfl ((gW (dh d a0 a1 a2 a3 a4) hW (by omega)).post (fun _ _ _ h=>h.2.2)) 0 rfl) (LT rfl (EC [] [] rfl (lR (cg.enc (bQ (dh d a0 a1 a2 a3 a4))) (by omega)) ?_))))))))))
 rintro _ _ _ ⟨rfl,x2,r2,b2,hone,rfl,rfl⟩
 refine aST ?_
 obtain ⟨rfl,rfl,hpu⟩:=zY (t:=[]) hW (by omega) (by rw [List.append_nil];exact hone)
 have hW2:=(jF (by omega) hone)
 rw [if_neg (by rw [hpu];simp)]
 refine aM rfl (aU rfl (ck rfl rfl) (aU rfl (ck rfl rfl) (LT rfl (bk (zs:=ZI) (by kernel_rfl) rfl (fun b7_6=>(aHN ?_))))))
 refine aD rfl (aF 2 tk40 rfl rfl rfl rfl (aHK ?_))
 refine aA rfl (aNn (aSR (LT rfl (EC [] [] rfl (lR [] (Nat.zero_le _)) ?_))))
 rintro _ _ _ ⟨rfl,x3,r3,b3,hone3,rfl,rfl⟩
 refine aST ?_
 rw [if_pos (by rw [decide_eq_false (adm x3)];simp)]
 refine aM rfl (aU rfl (ck rfl rfl) (aU rfl (ck rfl rfl) (LT rfl (bk (zs:=ZI) (by kernel_rfl) rfl (fun b8_4=>(aHN ?_))))))
 refine aD rfl (aF 3 tk40 rfl rfl rfl rfl (aHK ?_))
 refine aA rfl (aNn (aSR (UL 0 tk40 rfl rfl rfl rfl ?_)))
 refine gm (caps:=[]) [0] (false) (by kernel_rfl) true rfl rfl (fun _=>rfl) (fun hc=>rfl) (fun hc=>by rw [List.append_nil];exact n5 (dh d a0 a1 a2 a3 a4) ⟨hW.1,hW.2.1,hW.2.2.1⟩) (fun br hbr => ?_)
 refine aM rfl (aG rfl rfl (fun hc=>bJ 1 tk40 rfl rfl rfl) ?_)
 refine gm (caps:=[]) [0] (false) (by kernel_rfl) _ rfl rfl (fun _=>rfl) (fun hc=>(aN (ae rfl hc) rfl)) (fun hc=>by rw [List.append_nil];exact n5 (aax d a0 a1 a2 a3 a4) ⟨by show Go.Lv.I64 8;decide,hW.2.1,hW.2.2.1⟩) (fun bb hbb => ?_)
 refine aG rfl rfl (fun hc=>cV (ae rfl hc)) (aU rfl (bo rfl rfl (fun h=>gt rfl h)) (aM rfl (aG rfl rfl (fun hc=>aS rfl) (aG rfl rfl (fun hc=>cJ (ae rfl hc) rfl) (aU rfl (bo rfl rfl (fun h=>gt rfl h)) (aM rfl (aG rfl rfl (fun hc=>aS rfl) (aU rfl (bo rfl rfl (fun h=>gt rfl h)) (aM rfl (aG rfl rfl (fun hc=>aS rfl) (aG rfl rfl (fun hc=>cV (ae rfl hc)) (aU rfl (bo rfl rfl (fun h=>gt rfl h)) (aM rfl (aG rfl rfl (fun hc=>aS rfl) (aG rfl rfl (fun hc=>cJ (ae rfl hc) rfl) ?_)))))))))))))))
 refine aU rfl (bo rfl rfl (fun h=>gt rfl h)) (aM rfl (aG rfl rfl (fun hc=>aS rfl) (aU rfl (bo rfl rfl (fun h=>gt rfl h)) (aM rfl (aG rfl rfl (fun hc=>aS rfl) (aU rfl (bo rfl rfl (fun h=>gt rfl h)) (aM rfl (aG rfl rfl (fun hc=>aS rfl) (aG rfl rfl (fun hc=>cV (ae rfl hc)) (aU rfl (bo rfl rfl (fun h=>gt rfl h)) (aM rfl (aG rfl rfl (fun hc=>bJ 2 tk40 rfl rfl rfl) (aG rfl rfl (fun hc=>bJ 0 tk40 rfl rfl rfl) (aG rfl rfl (fun hc=>QC (aN (ae rfl hc) (aN (ae rfl hc) rfl)) (fun w S fp hst=>((wB x2 (dh d a0 a1 a2 a3 a4) hW2.1 hW hW2.2 (by omega)).post (fun _ _ _ h=>h.2.2)).quiet2 (aI 1 rfl) (aI 2 rfl) hst)) ?_))))))))))))))
 refine aU rfl (bo rfl rfl (fun h=>gt rfl h)) (aM rfl (aG rfl rfl (fun hc=>bJ 0 tk40 rfl rfl rfl) (aG rfl rfl (fun hc=>Q0 (aN (ae rfl hc) rfl) ((sY (dh d a0 a1 a2 a3 a4)).post (fun _ _ _ h=>h.2.2))) (aG rfl rfl (fun hc=>cP Tryz.underlying9 (ae rfl hc)) (aG rfl rfl (fun hc=>cJ (ae rfl hc) rfl) (aU rfl (bo rfl rfl (fun h=>gt rfl h)) (aM rfl (aG rfl rfl (fun hc=>bJ 0 tk40 rfl rfl rfl) (aG rfl rfl (fun hc=>Q1 (aN (ae rfl hc) rfl) ((uC (dh d a0 a1 a2 a3 a4)).post (fun _ _ _ h=>h.2.2)) 2 rfl) (aG rfl rfl (fun hc=>abE (off:=0) (by kernel_rfl) (ae rfl hc) rfl) (aG rfl rfl (fun hc=>jh (ae rfl hc) rfl) (aU rfl (bo rfl rfl (fun h=>gt rfl h)) (aA rfl (aNn (ax ?_)))))))))))))))
 refine FZ1 [] Tryz.results8 rfl ?_
 have hbr:br=true:=(hbr rfl).2 (zV d a0 a1 a2 a3 a4) (abB d a0 a1 a2 a3 a4 hd)
 subst hbr
 have hbb:bb=false:=by
   cases bb with
   | false=>rfl
   | true=>have:=((hbb rfl).1 rfl).2;rw [yH] at this;cases this
 subst hbb
 have e2:decide (((xV (dh d a0 a1 a2 a3 a4)).size:Int)=768)=true:=by kernel_rfl
 rw [hpu,decide_eq_true (p:=bytesOf (cg.enc (bQ (dh d a0 a1 a2 a3 a4)))=bytesOf (cg.enc (bQ (dh d a0 a1 a2 a3 a4)))) rfl,e2]
 rfl
set_option maxHeartbeats 4000000 in
theorem wJ(s:List UInt8)(hs:s.length≤1000000):Con Tryz.prog 10 [.string (bytesOf s)] [] [] fun v ps hp=>hp=[]∧∃ (x:az) (r:List UInt8) (bad:Bool),RU cg s false (bQ x) r bad∧ps=[x.ok]∧v=if ((!(!bad && r.isEmpty)) || !decide (bytesOf (cg.enc (bQ x))=bytesOf s))=true then .tuple #[(default:az).val,.bool false] else .tuple #[x.val,.bool true]:=by
 refine EN1 Tryz.func10 rfl (aSR (LT rfl (bk (zs:=ZI) (by kernel_rfl) rfl (fun b0_0=>(aHN ?_)))))
 refine aA rfl (aNn (aSR (aM rfl (LT rfl (EC [] [] rfl (wG s) ?_)))))
 rintro _ _ _ ⟨rfl,rb,rfl,rfl⟩
 refine aST ?_
 refine aA rfl (aNn (aSR (aM rfl ?_)))
 refine LF rfl (EC [] [1] rfl (dZ rb s false (by omega) (fun h=>by cases h)) ?_)
 rintro _ _ _ ⟨rfl,x0,r1,b1,rfl,s0,e0,rfl⟩
 refine aST ?_
 have g0:=e0.le
 refine aU rfl (eb (l:=[(0,.tmp 9)]) (zs:=ZI) (pl:=[(0,1),(1,1),(2,1),(3,1),(4,1),(5,1),(6,1),(7,1),(8,1),(9,1),(10,1),(11,1),(12,1),(13,1),(14,1),(15,1),(16,1),(17,1),(18,1),(19,6),(25,1)]) (by kernel_rfl) (by kernel_rfl) (by kernel_rfl) rfl rfl rfl) (LT rfl (bk (zs:=ZI) (by kernel_rfl) rfl (fun b2_3=>(aHN ?_))))
 refine aD rfl (aF 2 tk40 rfl rfl rfl rfl (dS (hp':=[_,_,_]) rfl (aNn (aSR (aM rfl (LF rfl (EC [] [1] rfl (oN rb r1 b1 (by omega) e0.bad) ?_)))))))
 rintro _ _ _ ⟨rfl,x1,r2,b2,rfl,e1,rfl⟩
 refine aST ?_
 have g1:=e1.le
 refine UO 1 rfl rfl (aD rfl (aF 2 tk4 rfl rfl rfl rfl (dS (hp':=[_,_,_]) rfl (aNn (aSR (aM rfl (LF rfl (EC [] [1] rfl (ct rb r2 b2 (by omega) e1.bad) ?_))))))))
 rintro _ _ _ ⟨rfl,x2,r3,b3,rfl,e2,rfl⟩
 refine aST ?_
 have g2:=e2.le
 refine UO 2 rfl rfl (aD rfl (aF 2 tk3 rfl rfl rfl rfl (dS (hp':=[_,_,_]) rfl (aNn (aSR (aM rfl (LF rfl (EC [] [1] rfl (ct rb r3 b3 (by omega) e2.bad) ?_))))))))
 rintro _ _ _ ⟨rfl,x3,r4,b4,rfl,e3,rfl⟩
 refine aST ?_
 have g3:=e3.le
 refine UO 3 rfl rfl (aD rfl (aF 2 tk3 rfl rfl rfl rfl (dS (hp':=[_,_,_]) rfl (aNn (aSR (aM rfl (LF rfl (EC [] [1] rfl (ct rb r4 b4 (by omega) e3.bad) ?_))))))))
 rintro _ _ _ ⟨rfl,x4,r5,b5,rfl,e4,rfl⟩
 refine aST ?_
 have g4:=e4.le
 refine UO 4 rfl rfl (aD rfl (aF 2 tk3 rfl rfl rfl rfl (dS (hp':=[_,_,_]) rfl (aNn (aSR (aM rfl (LF rfl (EC [] [1] rfl (dZ rb r5 b5 (by omega) e4.bad) ?_))))))))
 rintro _ _ _ ⟨rfl,x5,r6,b6,rfl,s5,e5,rfl⟩
 refine aST ?_
 have g5:=e5.le
 refine UO 5 rfl rfl (aD rfl (aF 2 tk9 rfl rfl rfl rfl (dS (hp':=[_,_,_]) rfl (aNn (aSR (aM rfl (LF rfl (EC [] [1] rfl (dZ rb r6 b6 (by omega) e5.bad) ?_))))))))
 rintro _ _ _ ⟨rfl,x6,r7,b7,rfl,s6,e6,rfl⟩
 refine aST ?_
 have g6:=e6.le
 refine UO 6 rfl rfl (aD rfl (aF 2 tk9 rfl rfl rfl rfl (dS (hp':=[_,_,_]) rfl (aNn (aSR (aM rfl (LF rfl (EC [] [1] rfl (ct rb r7 b7 (by omega) e6.bad) ?_))))))))
 rintro _ _ _ ⟨rfl,x7,r8,b8,rfl,e7,rfl⟩
 refine aST ?_
 have g7:=e7.le
 refine UO 7 rfl rfl (aD rfl (aF 2 tk3 rfl rfl rfl rfl (dS (hp':=[_,_,_]) rfl (aNn (aSR (aM rfl (LF rfl (EC [] [1] rfl (p8 rb r8 b8 (by omega) e7.bad) ?_))))))))
 rintro _ _ _ ⟨x8,r9,b9,rfl,rfl,e8,rfl⟩
 refine aST ?_
 have g8:=e8.le
 refine UO 8 rfl rfl (aD rfl (aF 2 tk23 rfl rfl rfl rfl (dS (hp':=[_,_,_]) rfl (aNn (aSR (aM rfl (LF rfl (EC [] [1] rfl (p6 rb r9 b9 (by omega) e8.bad) ?_))))))))
 rintro _ _ _ ⟨x9,r10,b10,rfl,rfl,e9,rfl⟩
 refine aST ?_
 have g9:=e9.le
 refine UO 9 rfl rfl (aD rfl (aF 2 tk24 rfl rfl rfl rfl (dS (hp':=[_,_,_]) rfl (aNn (aSR (aM rfl (LF rfl (EC [] [1] rfl (p7 rb r10 b10 (by omega) e9.bad) ?_))))))))
 rintro _ _ _ ⟨x10,r11,b11,rfl,rfl,e10,rfl⟩
 refine aST ?_
 have g10:=e10.le
 refine UO 10 rfl rfl (aD rfl (aF 2 tk25 rfl rfl rfl rfl (dS (hp':=[_,_,_]) rfl (aNn (aSR (aM rfl (LF rfl (EC [] [1] rfl (jV rb r11 b11 (by omega) e10.bad) ?_))))))))
 rintro _ _ _ ⟨x11,r12,b12,rfl,rfl,e11,rfl⟩
 refine aST ?_
 have g11:=e11.le
 refine UO 11 rfl rfl (aD rfl (aF 2 tk26 rfl rfl rfl rfl (dS (hp':=[_,_,_]) rfl (aNn (aSR (aM rfl (LF rfl (EC [] [1] rfl (jV rb r12 b12 (by omega) e11.bad) ?_))))))))
 rintro _ _ _ ⟨x12,r13,b13,rfl,rfl,e12,rfl⟩
 refine aST ?_
 have g12:=e12.le
 refine UO 12 rfl rfl (aD rfl (aF 2 tk26 rfl rfl rfl rfl (dS (hp':=[_,_,_]) rfl (aNn (aSR (aM rfl (LF rfl (EC [] [1] rfl (uO rb r13 b13 (by omega) e12.bad) ?_))))))))
 rintro _ _ _ ⟨x13,r14,b14,rfl,rfl,e13,rfl⟩
 refine aST ?_
 have g13:=e13.le
 refine UO 13 rfl rfl (aD rfl (aF 2 tk27 rfl rfl rfl rfl (dS (hp':=[_,_,_]) rfl (aNn (aSR (aM rfl (LF rfl (EC [] [1] rfl (jV rb r14 b14 (by omega) e13.bad) ?_))))))))
 rintro _ _ _ ⟨x14,r15,b15,rfl,rfl,e14,rfl⟩
 refine aST ?_
 have g14:=e14.le
 refine UO 14 rfl rfl (aD rfl (aF 2 tk26 rfl rfl rfl rfl (dS (hp':=[_,_,_]) rfl (aNn (aSR (aM rfl (LF rfl (EC [] [1] rfl (jV rb r15 b15 (by omega) e14.bad) ?_))))))))
 rintro _ _ _ ⟨x15,r16,b16,rfl,rfl,e15,rfl⟩
 refine aST ?_
 have g15:=e15.le
 refine UO 15 rfl rfl (aD rfl (aF 2 tk26 rfl rfl rfl rfl (dS (hp':=[_,_,_]) rfl (aNn (aSR (aM rfl (LF rfl (EC [] [1] rfl (ct rb r16 b16 (by omega) e15.bad) ?_))))))))
 rintro _ _ _ ⟨rfl,x16,r17,b17,rfl,e16,rfl⟩
 refine aST ?_
 have g16:=e16.le
 refine UO 16 rfl rfl (aD rfl (aF 2 tk3 rfl rfl rfl rfl (dS (hp':=[_,_,_]) rfl (aNn (aSR (aM rfl (LF rfl (EC [] [1] rfl (oc rb r17 b17 (by omega) e16.bad) ?_))))))))
 rintro _ _ _ ⟨x17,r18,b18,rfl,rfl,e17,rfl⟩
 refine aST ?_
 have g17:=e17.le
 refine UO 17 rfl rfl (aD rfl (aF 2 tk28 rfl rfl rfl rfl (dS (hp':=[_,_,_]) rfl (aNn (aSR (aM rfl (LF rfl (EC [] [1] rfl (lT rb r18 b18 (by omega) e17.bad) ?_))))))))
 rintro _ _ _ ⟨x18,r19,b19,rfl,rfl,e18,rfl⟩
 refine aST ?_
 have g18:=e18.le
 refine UO 18 rfl rfl (aD rfl (aF 2 tk29 rfl rfl rfl rfl (dS (hp':=[_,_,_]) rfl (aNn (aSR (aM rfl (LF rfl (EC [] [1] rfl (wC rb r19 b19 (by omega) e18.bad) ?_))))))))
 rintro _ _ _ ⟨x19,r20,b20,rfl,rfl,e19,rfl⟩
 refine aST ?_
 have g19:=e19.le
 refine UO 19 rfl rfl (aD rfl (aF 2 tk37 rfl rfl rfl rfl (dS (hp':=[_,_,_]) rfl (aNn (aSR (aM rfl (LF rfl (EC [] [1] rfl (q5 rb r20 b20 (by omega) e19.bad) ?_))))))))
 rintro _ _ _ ⟨x20,r21,b21,rfl,rfl,e20,rfl⟩
 refine aST ?_
 have g20:=e20.le
 refine UO 25 rfl rfl (aD rfl (aF 2 tk38 rfl rfl rfl rfl (dS (hp':=[_,_,_]) rfl (aNs (ah ?_)))))
 obtain ⟨x,hx⟩:∃ x:az,x=(⟨x0,x1,x2,x3,x4,x5,x6,x7,x8,x9,x10,x11,x12,x13,x14,x15,x16,x17,x18,x19,x20⟩:az):=⟨_,rfl⟩
 have hU:RU cg s false (bQ x) r21 b21:=by rw [hx];exact e0.prod (e1.prod (e2.prod (e3.prod (e4.prod (e5.prod (e6.prod (e7.prod (e8.prod (e9.prod (e10.prod (e11.prod (e12.prod (e13.prod (e14.prod (e15.prod (e16.prod (e17.prod (e18.prod (e19.prod (e20))))))))))))))))))))
 have hok:b21=false→eE x∧(cg.enc (bQ x)).length≤1000000000:=fun h=>by rcases hU.eq rfl with ⟨_,h2⟩ | ⟨h1,_⟩;exact jF hs h2;rw [h] at h1;cases h1
 refine aR (az.ok (⟨x0,x1,x2,x3,x4,x5,x6,x7,x8,x9,x10,x11,x12,x13,x14,x15,x16,x17,x18,x19,x20⟩:az)) (Ent.mk2 (Ent.str s0) (Ent.mk2 (Ent.str s5) (Ent.mk2 (Ent.str s6) (Ent.mk2 (.of (aI 25 rfl)) (Ent.mk2 (.of (aI 26 rfl)) (Ent.mk2 (.of (aI 23 rfl)) (Ent.mk2 (.of (aI 24 rfl)) (Ent.mk2 (.of (aI 21 rfl)) (Ent.mk2 (.of (aI 22 rfl)) (Ent.mk2 (.of (aI 20 rfl)) (Ent.mk2 (.of (aI 19 rfl)) (Ent.mk2 (.of (aI 18 rfl)) (Ent.mk2 (.of (aI 17 rfl)) (Ent.mk2 (.of (aI 16 rfl)) (Ent.mk2 (.of (aI 14 rfl)) (Ent.mk2 (.of (aI 15 rfl)) (Ent.mk2 (.of (aI 12 rfl)) (Ent.mk2 (.of (aI 13 rfl)) (Ent.mk2 (Ent.mk2 (.of (aI 10 rfl)) (Ent.mk2 (.of (aI 11 rfl)) (Ent.mk2 (.of (aI 8 rfl)) (Ent.mk2 (.of (aI 9 rfl)) (Ent.mk2 (.of (aI 7 rfl)) (Ent.mk2 (.of (aI 5 rfl)) (Ent.mk2 (.of (aI 6 rfl)) (Ent.mk2 (.of (aI 3 rfl)) (Ent.mk2 (.of (aI 4 rfl)) (.of (aI 2 rfl))))))))))) (Ent.mk2 (.of (aI 0 rfl)) (.of (aI 1 rfl)))))))))))))))))))))) ?_
 rw [← hx]
 refine aa (aM rfl (LF rfl (EC [] [1] rfl (wF rb r21 b21) ?_)))
 rintro _ _ _ ⟨rfl,rfl,rfl⟩
 refine aST ?_
 refine aU rfl (cV rfl) (aM rfl ?_)
 refine aG rfl rfl (fun hc=>bJ 2 tk40 (v:=x.val) rfl rfl (by rw [hx];rfl)) ?_
 refine aG rfl rfl (fun hc=>Q1 (aN (ae rfl hc) rfl) ((jX x (hok (by have:=gF hc;revert this;cases b21<;>simp)).1 (hok (by have:=gF hc;revert this;cases b21<;>simp)).2).post (fun _ _ _ h=>h.2.2)) 0 rfl) ?_
 refine aG rfl rfl (fun hc=>aS rfl) (aG rfl rfl (fun hc=>oY (ae rfl hc) (ae rfl hc)) (aU rfl (eu rfl rfl (fun h=>gf rfl h)) (aNn ?_)))
 refine ao _ rfl (fun h1 => ?_) (fun h1 => ?_)
 ·skip
  refine aSR (aU rfl (eb (l:=[]) (zs:=ZI) (pl:=[(0,1),(1,1),(2,1),(3,1),(4,1),(5,1),(6,1),(7,1),(8,1),(9,1),(10,1),(11,1),(12,1),(13,1),(14,1),(15,1),(16,1),(17,1),(18,1),(19,6),(25,1)]) (by kernel_rfl) (by kernel_rfl) (by kernel_rfl) rfl rfl rfl) (aD rfl (aF 0 tk40 rfl rfl rfl rfl (dS (hp':=[_,_,_]) rfl (aA rfl (aNn (ax (bB ?_))))))))
  refine xO [27] [] rfl Tryz.results10 (iD 0 tk40 rfl rfl rfl) (tC rfl) ?_ (.inr rfl)
  exact ⟨rfl,x,r21,b21,hU,rfl,by rw [if_pos h1];rfl⟩
 ·skip
  refine ar (aj (aSR (UL 2 tk40 rfl rfl rfl rfl (aD rfl (aF 0 tk40 rfl rfl rfl rfl (dS (hp':=[_,_,_]) rfl (aA rfl (aNn (ax ?_)))))))))
  refine xO [27] [] rfl Tryz.results10 (iD 0 tk40 rfl rfl rfl) (tC rfl) ?_ (.inr rfl)
  exact ⟨rfl,x,r21,b21,hU,rfl,by rw [if_neg (by rw [h1];decide),hx]⟩
theorem uL(x y:az)(hx:eE x)(hy:eE y)(hlx:(cg.enc (bQ x)).length≤1000000000)(hly:(cg.enc (bQ y)).length≤1000000000):Con Tryz.prog 11 [x.val,y.val] [x.ok,y.ok] [] fun r ps hp=>ps=[]∧hp=[]∧r=.bool (decide (bytesOf (cg.enc (bQ x))=bytesOf (cg.enc (bQ y)))):=by
 refine EN2 Tryz.func11 rfl (aSR (LT rfl (cK rfl rfl rfl (fun b0_0=>(aHN ?_)))))
 refine LT rfl (cK rfl rfl rfl (fun b0_1=>(aHN ?_)))
 refine aA rfl (aNs (DR [] 6 (VL 0 0 tk40 rfl rfl rfl rfl rfl (bV 1 rfl rfl (Q1 rfl ((jX x hx hlx).post (fun _ _ _ h=>h.2.2)) 0 rfl) (VL 2 1 tk40 rfl rfl rfl rfl rfl (bV 3 rfl rfl (Q1 rfl ((jX y hy hly).post (fun _ _ _ h=>h.2.2)) 1 rfl) (bV 4 rfl rfl (jh rfl rfl) (bV 5 rfl rfl (bE rfl) (BN (aj (ax (FZ1 [] Tryz.results11 rfl ?_))))))))))))
 exact ⟨rfl,rfl,rfl⟩
theorem aaS{ps:List Per} : Ent ps (default:az).ok :=
 Ent.mk2 (Ent.str (Nat.le_of_ble_eq_true rfl)) (Ent.mk2 (Ent.str (Nat.le_of_ble_eq_true rfl)) (Ent.mk2 (Ent.str (Nat.le_of_ble_eq_true rfl)) (Ent.mk2 .nl (Ent.mk2 .a0 (Ent.mk2 .nl (Ent.mk2 .a0 (Ent.mk2 .nl (Ent.mk2 .a0 (Ent.mk2 .nl (Ent.mk2 .nl (Ent.mk2 .nl (Ent.mk2 .nl (Ent.mk2 .nl (Ent.mk2 .nl (Ent.mk2 .a0 (Ent.mk2 .nl (Ent.mk2 .a0 (Ent.mk2 (Ent.mk2 .nl (Ent.mk2 .a0 (Ent.mk2 .nl (Ent.mk2 .a0 (Ent.mk2 .nl (Ent.mk2 .nl (Ent.mk2 .a0 (Ent.mk2 .nl (Ent.mk2 .a0 .nl))))))))) (Ent.mk2 .nl .a0)))))))))))))))))))
theorem oQ:eE (default:az):=by
 refine ⟨?_,?_,?_,?_,?_,?_,?_,?_,?_,?_,?_,?_,?_,⟨?_,?_,?_,?_,?_,?_⟩,?_⟩
 iterate 5 (first | (show Go.Lv.I64 0;decide))
 all_goals (intro y hy;cases hy)
theorem oP:(cg.enc (bQ (default:az))).length≤1000000000:=Nat.le_of_ble_eq_true (by kernel_rfl)
abbrev aaw(x:az)(r:List UInt8)(b:Bool)(s:List UInt8):Bool:=(!(!b && r.isEmpty)) || !decide (bytesOf (cg.enc (bQ x))=bytesOf s)
def rdI(x:az)(r:List UInt8)(b:Bool)(s:List UInt8):az × Bool:=if aaw x r b s=true then (default,false) else (x,true)
theorem yo{x:az}{r:List UInt8}{b:Bool}{s:List UInt8}{z:az}{k:Bool}(h:rdI x r b s=(z,k)):(if aaw x r b s=true then Value.tuple #[(default:az).val,.bool false] else .tuple #[x.val,.bool true])=.tuple #[z.val,.bool k]:=by
 unfold rdI at h
 split at h<;>rename_i hc
 · obtain ⟨rfl,rfl⟩:=Prod.mk.inj h;rw [if_pos hc]
 · obtain ⟨rfl,rfl⟩:=Prod.mk.inj h;rw [if_neg hc]
theorem abK{x:az}{r:List UInt8}{b:Bool}{s:List UInt8}{z:az}{k:Bool}(h:rdI x r b s=(z,k)):z=x∨z=default:=by
 unfold rdI at h
 split at h
 · exact .inr (Prod.mk.inj h).1.symm
 · exact .inl (Prod.mk.inj h).1.symm
abbrev okI(x:az):Prop:=eE x∧(cg.enc (bQ x)).length≤1000000000
theorem zZ{s:List UInt8}(hs:s.length≤1000000){x y z1 z2:az}{r r2:List UInt8}{b b2 k1 k2:Bool}(h1:cg.one (.R s false) cg.zero=(.R r b,bQ x))(h2:RU cg s false (bQ y) r2 b2)
   (hz1:rdI x r b s=(z1,k1)) (hz2:rdI y r2 b2 s=(z2,k2)):k1=k2∧bQ z1=bQ z2∧okI z1∧okI z2∧(k1=true→bytesOf (cg.enc (bQ z1))=bytesOf s):=by
 unfold rdI at hz1 hz2
 rcases h2.eq rfl with ⟨rfl,e⟩ | ⟨rfl,e⟩
 · rw [h1] at e
   obtain ⟨e1,e2⟩:=Prod.mk.inj e
   obtain ⟨rfl,rfl⟩:=CS.R.inj e1
   have hx:=jF hs h1
   have hy:okI y:=jF hs (h1.trans (by rw [e2]))
   have hbe:aaw y r false s=aaw x r false s:=by unfold aaw;rw [e2]
   rw [hbe] at hz2
   split at hz1<;>rename_i hc
   · rw [if_pos hc] at hz2
     obtain ⟨rfl,rfl⟩:=Prod.mk.inj hz1
     obtain ⟨rfl,rfl⟩:=Prod.mk.inj hz2
     exact ⟨rfl,rfl,⟨oQ,oP⟩,⟨oQ,oP⟩,fun h=>by cases h⟩
   · rw [if_neg hc] at hz2
     obtain ⟨rfl,rfl⟩:=Prod.mk.inj hz1
     obtain ⟨rfl,rfl⟩:=Prod.mk.inj hz2
     refine ⟨rfl,e2,hx,hy,fun _ => ?_⟩
     rw [Bool.not_eq_true,Bool.or_eq_false_iff,Bool.not_eq_false',Bool.not_eq_false',decide_eq_true_eq] at hc
     exact hc.2
 · rw [h1] at e
   obtain ⟨rfl,rfl⟩:=CS.R.inj e
   rw [if_pos (by simp)] at hz1 hz2
   obtain ⟨rfl,rfl⟩:=Prod.mk.inj hz1
   obtain ⟨rfl,rfl⟩:=Prod.mk.inj hz2
   exact ⟨rfl,rfl,⟨oQ,oP⟩,⟨oQ,oP⟩,fun h=>by cases h⟩
theorem uE(s:List UInt8):Con Tryz.prog 3 [.string (bytesOf s)] [] [] fun r _ _=>r=.bool true:=by
 have esz:(bytesOf s).size=s.length:=rfl
 refine EN1 Tryz.func3 rfl (aSR (aA rfl (aNn (aSR (aU rfl (Q0 rfl uT) (aA rfl (aNs (aSR (aM rfl (aU rfl (cP Tryz.underlying9 rfl) (aU rfl (eA rfl rfl) (aNn ?_))))))))))))
 refine ao _ rfl (fun h1 => ?_) (fun h1 => ?_)
 ·skip
  refine aSR (aM rfl (aA rfl (aNn (ax (bB (FZ1 [] Tryz.results3 rfl ?_))))))
  rfl
 ·skip
  have hL:s.length≤3000:=by simp at h1;omega
  refine ar (aj (aSR (aM rfl (LT rfl (EC [] [] rfl (lR s (by omega)) ?_)))))
  rintro _ _ _ ⟨rfl,x,r1,b1,hone,rfl,rfl⟩
  refine aST ?_
  obtain ⟨z1,k1,hz1⟩:∃ z1 k1,rdI x r1 b1 s=(z1,k1):=⟨_,_,rfl⟩
  rw [yo hz1]
  refine aM rfl (aU rfl (ck rfl rfl) (aU rfl (ck rfl rfl) (LT rfl (bk (zs:=ZI) (by kernel_rfl) rfl (fun b4_5=>(aHN ?_))))))
  refine aD rfl (aF 0 tk40 rfl rfl rfl rfl (aHK ?_))
  refine aA rfl (aNn (aSR (aM rfl (LT rfl (EC [] [] rfl (wJ s (by omega)) ?_)))))
  rintro _ _ _ ⟨rfl,y,r2,b2,hU,rfl,rfl⟩
  refine aST ?_
  obtain ⟨z2,k2,hz2⟩:∃ z2 k2,rdI y r2 b2 s=(z2,k2):=⟨_,_,rfl⟩
  rw [yo hz2]
  refine aM rfl (aU rfl (ck rfl rfl) (aU rfl (ck rfl rfl) (LT rfl (bk (zs:=ZI) (by kernel_rfl) rfl (fun b5_5=>(aHN ?_))))))
  refine aD rfl (aF 1 tk40 rfl rfl rfl rfl (aHK ?_))
  refine aA rfl (aNs (ah ?_))
  obtain ⟨rfl,hpu,ho1,ho2,hk⟩:=zZ (by omega) hone hU hz1 hz2
  refine aR z1.ok (by rcases abK hz1 with rfl | rfl;exact .of (aI 1 rfl);exact aaS) (aR z2.ok (by rcases abK hz2 with rfl | rfl;exact .of (aI 1 rfl);exact aaS) ?_)
  refine aa (aM rfl (aM rfl (aU rfl (adG (by kernel_rfl) rfl rfl) (aM rfl (aG rfl rfl (fun hc=>bJ 0 tk40 rfl rfl rfl) (aG rfl rfl (fun hc=>bJ 1 tk40 rfl rfl rfl) (aG rfl rfl (fun hc=>QC (aN (ae rfl hc) (aN (ae rfl hc) rfl)) (fun w S fp hst=>((uL z1 z2 ho1.1 ho2.1 ho1.2 ho2.2).post (fun _ _ _ h=>h.2.2)).quiet2 (aI 1 rfl) (aI 0 rfl) hst)) (aG rfl rfl (fun hc=>cV (ae rfl hc)) (aU rfl (eu rfl rfl (fun h=>gf rfl h)) (aNn ?_))))))))))
  refine ao _ rfl (fun h2 => ?_) (fun h2 => ?_)
  ·skip
   exfalso
   rw [hpu] at h2
   simp at h2
  ·skip
   refine ar (aj (aSR (aM rfl (aM rfl (aG rfl rfl (fun hc=>aS rfl) (aG rfl rfl (fun hc=>cV (ae rfl hc)) (aG rfl rfl (fun hc=>aS (ae rfl hc)) (aG rfl rfl (fun hc=>bJ 0 tk40 rfl rfl rfl) (aG rfl rfl (fun hc=>Q1 (aN (ae rfl hc) rfl) ((gW z1 ho1.1 ho1.2).post (fun _ _ _ h=>h.2.2)) 1 rfl) ?_)))))))))
   refine aG rfl rfl (fun hc=>aS rfl) (aG rfl rfl (fun hc=>jh (ae rfl hc) (ae rfl hc)) (aG rfl rfl (fun hc=>eu (ae rfl hc) rfl (fun h=>gf hc h)) (aU rfl (bo rfl rfl (fun h=>gt rfl h)) (aA rfl (aNn (ax (FZ1 [] Tryz.results3 rfl ?_)))))))
   cases k1 with
   | false=>rfl
   | true=>rw [hk rfl];simp
end Go.Proofs.YtfkcmbonmpcbfaaGreat

namespace Go.Sy
open Go.RowKit Go.Deep
section
variable (P:Program)
def okF(ok:TypeId→List D→Prop):List Field→List D→Prop
 | [],ds=>ds=[]
 | f::fs,ds=>∃ d1 d2,ds=d1++d2∧ok f.type d1∧okF ok fs d2
end
variable {P:Program} {H:Type} {enc:TypeId × Value→H} {w:World} {base:Nat} {spare:Nat→Bool} {held:Bool}
section
theorem aeh{ps:List Per}(h:∀ p∈ps,p.holds w fun b=>b<w.heap.size):St w (fun b=>b<w.heap.size) (fun _ _=>False) ps [] :=
 ⟨h,fun i R hR=>by simp at hR,fun i hi=>by simp at hi,fun i j hi=>by simp at hi,fun _ h=>h⟩
end
end Go.Sy

