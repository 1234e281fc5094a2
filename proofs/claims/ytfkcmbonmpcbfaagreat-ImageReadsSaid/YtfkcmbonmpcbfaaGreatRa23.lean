/- Parts of the proof, in build order. No condition. -/
import Derived.Test.YtfkcmbonmpcbfaaGreatRa22
import Derived.Test.YtfkcmbonmpcbfaaGreatRa05
import Derived.Test.YtfkcmbonmpcbfaaGreatRa09
set_option linter.unusedSimpArgs false
set_option linter.unusedVariables false
set_option maxHeartbeats 1000000
set_option maxRecDepth 20000
namespace Go.Proofs.YtfkcmbonmpcbfaaGreat
open Go.RowKit Go.Lp Go.Sy Go.Lv
abbrev abW:Type:=List abY × List abX × List abZ × List tI × List adP × List xv
def fq:Cod abW:=Cod.prod (cA fB) (Cod.prod (cA fA) (Cod.prod (cA fT) (Cod.prod (cA dH) (Cod.prod (cA ir) ((cA eH))))))
abbrev eZ(x:cG):abW:=(x.marks.l.map gb,x.lines.l.map ga,x.ends.l.map gy,x.inlines.l.map er,x.vars.l.map ik,x.depths.l.map fk)
def mF(x:cG):Prop:=(∀ y∈x.marks.l,oU y)∧(∀ y∈x.lines.l,oT y)∧(∀ y∈x.ends.l,oV y)∧(∀ y∈x.inlines.l,lq y)∧(∀ y∈x.vars.l,tp y)∧(∀ y∈x.depths.l,mE y)
abbrev dq(x:ba):List UInt8:=dN.enc (et x)
abbrev cT(x:bA):List UInt8:=dL.enc (eo x)
abbrev dR(x:bK):List UInt8:=dM.enc (ep x)
abbrev j0(x:fb):List UInt8:=jl.enc (iT x)
abbrev adj(x:dw):List UInt8:=eJ.enc (fl x)
abbrev iN(x:cN):List UInt8:=fB.enc (gb x)
abbrev iM(x:cS):List UInt8:=fA.enc (ga x)
abbrev jB(x:bC):List UInt8:=fT.enc (gy x)
abbrev fJ(x:bF):List UInt8:=dH.enc (er x)
abbrev oF(x:dJ):List UInt8:=ir.enc (ik x)
abbrev jm(x:cC):List UInt8:=eH.enc (fk x)
abbrev gX(x:cq):List UInt8:=fS.enc (fZ x)
abbrev cE(x:aH):List UInt8:=cI.enc (di x)
abbrev abV:Type:=ByteArray × Bool × Int × Int × Int × ByteArray × ByteArray × Int × List tJ × List tG × List tH × List Int × List Int × List adO × List Int × List Int × Int × List ByteArray × List kG × abW × List abU
def cg:Cod abV:=Cod.prod an (Cod.prod bP (Cod.prod ak (Cod.prod ak (Cod.prod ak (Cod.prod an (Cod.prod an (Cod.prod ak (Cod.prod (cA dN) (Cod.prod (cA dL) (Cod.prod (cA dM) (Cod.prod (cA ak) (Cod.prod (cA ak) (Cod.prod (cA jl) (Cod.prod (cA ak) (Cod.prod (cA ak) (Cod.prod ak (Cod.prod (cA an) (Cod.prod (cA cI) (Cod.prod fq ((cA fS)))))))))))))))))))))
abbrev bQ(x:az):abV:=(x.name,x.lib,x.code,x.data,x.zero,x.bytes,x.tls,x.block,x.nodes.l.map et,x.exports.l.map eo,x.imports.l.map ep,x.slots.l,x.stubs.l,x.dyns.l.map iT,x.inits.l,x.lasts.l,x.entry,x.needs.l,x.versions.l.map di,eZ x.info,x.changes.l.map fZ)
def eE(x:az):Prop:=Go.Lv.I64 x.code∧Go.Lv.I64 x.data∧Go.Lv.I64 x.zero∧Go.Lv.I64 x.block∧Go.Lv.I64 x.entry∧(∀ y∈x.nodes.l,jI y)∧(∀ y∈x.exports.l,jH y)∧(∀ y∈x.imports.l,lk y)∧(∀ y∈x.slots.l,Go.Lv.I64 y)∧(∀ y∈x.stubs.l,Go.Lv.I64 y)∧(∀ y∈x.dyns.l,tn y)∧(∀ y∈x.inits.l,Go.Lv.I64 y)∧(∀ y∈x.lasts.l,Go.Lv.I64 y)∧mF x.info∧(∀ y∈x.changes.l,mD y)
open Go.Proofs.Tryz
attribute [local irreducible] aL aB awp aC fwp Quiet
theorem y5(im:az)(hx:mF im.info)(b bt:Nat)(p v:Value)(hp:p=.pointer none∨p=.pointer (some ⟨b,0,none⟩))(out:List UInt8)(hl:(out++fq.enc (eZ im.info)).length≤1000000000) :
   Con Tryz.prog 118 [.pointer (some ⟨b,0,none⟩),.pointer (some ⟨bt,19,none⟩)] [im.ok] [bR b p v (.pointer none),aO v 5 1 (out.map du),Box bt 40 im.vs]
     fun _ ps hp'=>ps=[]∧∃ p' v',(p'=.pointer none∨p'=.pointer (some ⟨b,0,none⟩))∧hp'=[bR b p' v' (.pointer none),aO v' 5 1 ((out++fq.enc (eZ im.info)).map du),Box bt 40 im.vs]:=by
 have he:fq.enc (eZ im.info)=(aV im.info.marks.l.length++aP iN im.info.marks.l)++((aV im.info.lines.l.length++aP iM im.info.lines.l)++((aV im.info.ends.l.length++aP jB im.info.ends.l)++((aV im.info.inlines.l.length++aP fJ im.info.inlines.l)++((aV im.info.vars.l.length++aP oF im.info.vars.l)++((aV im.info.depths.l.length++aP jm im.info.depths.l)))))):=by
   rw [← cH fB gb im.info.marks.l,← cH fA ga im.info.lines.l,← cH fT gy im.info.ends.l,← cH dH er im.info.inlines.l,← cH ir ik im.info.vars.l,← cH eH fk im.info.depths.l];rfl
 rw [he] at hl ⊢
 obtain ⟨h_marks,h_lines,h_ends,h_inlines,h_vars,h_depths⟩:=hx
 have hall:((((((out++(aV im.info.marks.l.length++aP iN im.info.marks.l))++(aV im.info.lines.l.length++aP iM im.info.lines.l))++(aV im.info.ends.l.length++aP jB im.info.ends.l))++(aV im.info.inlines.l.length++aP fJ im.info.inlines.l))++(aV im.info.vars.l.length++aP oF im.info.vars.l))++(aV im.info.depths.l.length++aP jm im.info.depths.l))=out++((aV im.info.marks.l.length++aP iN im.info.marks.l)++((aV im.info.lines.l.length++aP iM im.info.lines.l)++((aV im.info.ends.l.length++aP jB im.info.ends.l)++((aV im.info.inlines.l.length++aP fJ im.info.inlines.l)++((aV im.info.vars.l.length++aP oF im.info.vars.l)++((aV im.info.depths.l.length++aP jm im.info.depths.l))))))):=by simp only [List.append_assoc]
 simp only [List.length_append] at hl
 refine EN2 Tryz.func118 rfl (aR _ (cG.f_marks (az.f_info (.of (aI 0 rfl)))) (aR _ (cG.f_lines (az.f_info (.of (aI 1 rfl)))) (aR _ (cG.f_ends (az.f_info (.of (aI 2 rfl)))) (aR _ (cG.f_inlines (az.f_info (.of (aI 3 rfl)))) (aR _ (cG.f_vars (az.f_info (.of (aI 4 rfl)))) (aR _ (cG.f_depths (az.f_info (.of (aI 5 rfl)))) (aSR (LT rfl (cK rfl rfl rfl (fun b0_0=>(aHN ?_)))))))))))
 refine aNs (bS 3 rfl rfl ?_)
 show awp _ _ _ _ ⟨_,At _ 0 _::_,_⟩
 refine DR [5] 6 (VD 0 0 tk164 0 rfl rfl rfl rfl rfl (VM 1 rfl rfl (VN 2 rfl rfl rfl (VO 3 0 rfl rfl rfl (bV 4 rfl rfl (cF (l:=[.tmp 2]) rfl) ?_)))))
 refine VE 5 rfl rfl (EC [1,7] [0,1,2] rfl (pW b bt 40 im.vs 19 im.info.marks rfl p v hp (out) iN (by simp only [List.length_append];omega) 223 [.pointer (some ⟨b0_0,0,none⟩)] (atC b0_0 b) (by kernel_rfl) (fun y p v out bx hy hp hl=>sS b b0_0 bx y (h_marks y hy) p v hp out hl)) ?_)
 rintro _ _ _ ⟨rfl,p_0,v_0,hp_0,rfl⟩
 refine bST rfl ?_
 refine BN (aj (ah (DR [5] 6 (VD 0 0 tk164 0 rfl rfl rfl rfl rfl (VM 1 rfl rfl (VN 2 rfl rfl rfl (VO 3 1 rfl rfl rfl (bV 4 rfl rfl (cF (l:=[.tmp 2]) rfl) ?_))))))))
 refine VE 5 rfl rfl (EC [2,7] [0,1,2] rfl (pU b bt 40 im.vs 20 im.info.lines rfl p_0 v_0 hp_0 (out++(aV im.info.marks.l.length++aP iN im.info.marks.l)) iM (by simp only [List.length_append];omega) 225 [.pointer (some ⟨b0_0,0,none⟩)] (atC b0_0 b) (by kernel_rfl) (fun y p v out bx hy hp hl=>sR b b0_0 bx y (h_lines y hy) p v hp out hl)) ?_)
 rintro _ _ _ ⟨rfl,p_1,v_1,hp_1,rfl⟩
 refine bST rfl ?_
 refine BN (aj (ah (DR [5] 6 (VD 0 0 tk164 0 rfl rfl rfl rfl rfl (VM 1 rfl rfl (VN 2 rfl rfl rfl (VO 3 2 rfl rfl rfl (bV 4 rfl rfl (cF (l:=[.tmp 2]) rfl) ?_))))))))
 refine VE 5 rfl rfl (EC [3,7] [0,1,2] rfl (pX b bt 40 im.vs 21 im.info.ends rfl p_1 v_1 hp_1 ((out++(aV im.info.marks.l.length++aP iN im.info.marks.l))++(aV im.info.lines.l.length++aP iM im.info.lines.l)) jB (by simp only [List.length_append];omega) 227 [.pointer (some ⟨b0_0,0,none⟩)] (atC b0_0 b) (by kernel_rfl) (fun y p v out bx hy hp hl=>sT b b0_0 bx y (h_ends y hy) p v hp out hl)) ?_)
 rintro _ _ _ ⟨rfl,p_2,v_2,hp_2,rfl⟩
 refine bST rfl ?_
 refine BN (aj (ah (DR [5] 6 (VD 0 0 tk164 0 rfl rfl rfl rfl rfl (VM 1 rfl rfl (VN 2 rfl rfl rfl (VO 3 3 rfl rfl rfl (bV 4 rfl rfl (cF (l:=[.tmp 2]) rfl) ?_))))))))
 refine VE 5 rfl rfl (EC [4,7] [0,1,2] rfl (nf b bt 40 im.vs 22 im.info.inlines rfl p_2 v_2 hp_2 (((out++(aV im.info.marks.l.length++aP iN im.info.marks.l))++(aV im.info.lines.l.length++aP iM im.info.lines.l))++(aV im.info.ends.l.length++aP jB im.info.ends.l)) fJ (by simp only [List.length_append];omega) 229 [.pointer (some ⟨b0_0,0,none⟩)] (atC b0_0 b) (by kernel_rfl) (fun y p v out bx hy hp hl=>pI b b0_0 bx y (h_inlines y hy) p v hp out hl)) ?_)
 rintro _ _ _ ⟨rfl,p_3,v_3,hp_3,rfl⟩
 refine bST rfl ?_
 refine BN (aj (ah (DR [5] 6 (VD 0 0 tk164 0 rfl rfl rfl rfl rfl (VM 1 rfl rfl (VN 2 rfl rfl rfl (VO 3 4 rfl rfl rfl (bV 4 rfl rfl (cF (l:=[.tmp 2]) rfl) ?_))))))))
 refine VE 5 rfl rfl (EC [5,7] [0,1,2] rfl (rk b bt 40 im.vs 23 im.info.vars rfl p_3 v_3 hp_3 ((((out++(aV im.info.marks.l.length++aP iN im.info.marks.l))++(aV im.info.lines.l.length++aP iM im.info.lines.l))++(aV im.info.ends.l.length++aP jB im.info.ends.l))++(aV im.info.inlines.l.length++aP fJ im.info.inlines.l)) oF (by simp only [List.length_append];omega) 231 [.pointer (some ⟨b0_0,0,none⟩)] (atC b0_0 b) (by kernel_rfl) (fun y p v out bx hy hp hl=>uu b b0_0 bx y (h_vars y hy) p v hp out hl)) ?_)
 rintro _ _ _ ⟨rfl,p_4,v_4,hp_4,rfl⟩
 refine bST rfl ?_
 refine BN (aj (DR [5] 6 (VD 0 0 tk164 0 rfl rfl rfl rfl rfl (VM 1 rfl rfl (VN 2 rfl rfl rfl (VO 3 5 rfl rfl rfl (bV 4 rfl rfl (cF (l:=[.tmp 2]) rfl) ?_)))))))
 refine VE 5 rfl rfl (EC [6,7] [0,1,2] rfl (oA b bt 40 im.vs 24 im.info.depths rfl p_4 v_4 hp_4 (((((out++(aV im.info.marks.l.length++aP iN im.info.marks.l))++(aV im.info.lines.l.length++aP iM im.info.lines.l))++(aV im.info.ends.l.length++aP jB im.info.ends.l))++(aV im.info.inlines.l.length++aP fJ im.info.inlines.l))++(aV im.info.vars.l.length++aP oF im.info.vars.l)) jm (by simp only [List.length_append];omega) 233 [.pointer (some ⟨b0_0,0,none⟩)] (atC b0_0 b) (by kernel_rfl) (fun y p v out bx hy hp hl=>ra b b0_0 bx y (h_depths y hy) p v hp out hl)) ?_)
 rintro _ _ _ ⟨rfl,p_5,v_5,hp_5,rfl⟩
 refine bST rfl ?_
 refine BN (FZ0 [0,1,2] Tryz.results118 ?_)
 rw [← hall];exact ⟨rfl,p_5,v_5,hp_5,rfl⟩
theorem y4(b rb bt:Nat)(T:TypeId)(cs:List Value)(h0:cs[19]? = some (.slice none 0 0))(h1:cs[20]? = some (.slice none 0 0))(h2:cs[21]? = some (.slice none 0 0))(h3:cs[22]? = some (.slice none 0 0))(h4:cs[23]? = some (.slice none 0 0))(h5:cs[24]? = some (.slice none 0 0))(p v:Value)(r:List UInt8)(bad:Bool)(hr:r.length≤1000000) :
   Con Tryz.prog 118 [.pointer (some ⟨b,0,none⟩),.pointer (some ⟨bt,19,none⟩)] [] [bR b p v (.pointer (some ⟨rb,0,none⟩)),rdB rb r bad,Box bt T cs]
     fun _ ps hp'=>∃ (x:cG) (r':List UInt8) (bad':Bool),fq.one (.R r bad) fq.zero=(.R r' bad',eZ x)∧ps=[x.ok]∧hp'=[bR b p v (.pointer (some ⟨rb,0,none⟩)),rdB rb r' bad',Box bt T ((((((cs.set 19 x.marks.val).set 20 x.lines.val).set 21 x.ends.val).set 22 x.inlines.val).set 23 x.vars.val).set 24 x.depths.val)]:=by
 refine Con.rdF (P1:=fun x=>[ShF cN.row x.marks,bz cN.ok x.marks.l,ShF cS.row x.lines,bz cS.ok x.lines.l,ShF bC.row x.ends,bz (fun _:bC=>Fa True) x.ends.l,ShF bF.row x.inlines,bz bF.ok x.inlines.l,ShF dJ.row x.vars,bz dJ.ok x.vars.l,ShF cC.row x.depths,bz (fun _:cC=>Fa True) x.depths.l]) ?_ (fun x r' b' h p hp=>by
   rw [List.mem_singleton.1 hp]
   exact Ent.mk2 (.of (aI 0 rfl)) (Ent.mk2 (.of (aI 1 rfl)) (Ent.mk2 (.of (aI 2 rfl)) (Ent.mk2 (.of (aI 3 rfl)) (Ent.mk2 (.of (aI 4 rfl)) (Ent.mk2 (.of (aI 6 rfl)) (Ent.mk2 (.of (aI 7 rfl)) (Ent.mk2 (.of (aI 8 rfl)) (Ent.mk2 (.of (aI 9 rfl)) ((.of (aI 10 rfl))))))))))))
 refine EN2 Tryz.func118 rfl (aSR (LT rfl (cK rfl rfl rfl (fun b0_0=>(aHN ?_)))))
 refine aNs (bS 3 rfl rfl ?_)
 show awp _ _ _ _ ⟨_,At _ 0 _::_,_⟩
 refine DR [5] 6 (VD 0 0 tk164 0 rfl rfl rfl rfl rfl (VM 1 rfl rfl (VN 2 rfl rfl rfl (VO 3 0 rfl rfl rfl (bV 4 rfl rfl (cF (l:=[.tmp 2]) rfl) ?_)))))
 refine VE 5 rfl rfl (EC [0] [0,1,2] rfl (pR b rb bt T cs 19 (by exact h0) p v r bad (by omega) fB gb cN.ok 223 [.pointer (some ⟨b0_0,0,none⟩)] (atC b0_0 b) (by kernel_rfl) (fun r bad bx hr=>sL b rb b0_0 bx p v r bad hr)) ?_)
 rintro _ _ _ ⟨l_marks,r_0,b_0,hq_0,rfl,rfl⟩;have hl_0:=dy (by omega) hq_0
 refine bST rfl ?_
 refine BN (aj (ah (DR [5] 6 (VD 0 0 tk164 2 rfl rfl rfl rfl rfl (VM 1 rfl rfl (VN 2 rfl rfl rfl (VO 3 1 rfl rfl rfl (bV 4 rfl rfl (cF (l:=[.tmp 2]) rfl) ?_))))))))
 refine VE 5 rfl rfl (EC [0] [0,1,2] rfl (pQ b rb bt T (cs.set 19 l_marks.val) 20 (by rw [List.getElem?_set_ne (by decide)];exact h1) p v r_0 b_0 (by omega) fA ga cS.ok 225 [.pointer (some ⟨b0_0,0,none⟩)] (atC b0_0 b) (by kernel_rfl) (fun r bad bx hr=>sK b rb b0_0 bx p v r bad hr)) ?_)
 rintro _ _ _ ⟨l_lines,r_1,b_1,hq_1,rfl,rfl⟩;have hl_1:=dy (by omega) hq_1
 refine bST rfl ?_
 refine BN (aj (ah (DR [5] 6 (VD 0 0 tk164 4 rfl rfl rfl rfl rfl (VM 1 rfl rfl (VN 2 rfl rfl rfl (VO 3 2 rfl rfl rfl (bV 4 rfl rfl (cF (l:=[.tmp 2]) rfl) ?_))))))))
 refine VE 5 rfl rfl (EC [0] [0,1,2] rfl (pS b rb bt T ((cs.set 19 l_marks.val).set 20 l_lines.val) 21 (by rw [List.getElem?_set_ne (by decide),List.getElem?_set_ne (by decide)];exact h2) p v r_1 b_1 (by omega) fT gy (fun _:bC=>Fa True) 227 [.pointer (some ⟨b0_0,0,none⟩)] (atC b0_0 b) (by kernel_rfl) (fun r bad bx hr=>sM b rb b0_0 bx p v r bad hr)) ?_)
 rintro _ _ _ ⟨l_ends,r_2,b_2,hq_2,rfl,rfl⟩;have hl_2:=dy (by omega) hq_2
 refine bST rfl ?_
 refine BN (aj (ah (DR [5] 6 (VD 0 0 tk164 6 rfl rfl rfl rfl rfl (VM 1 rfl rfl (VN 2 rfl rfl rfl (VO 3 3 rfl rfl rfl (bV 4 rfl rfl (cF (l:=[.tmp 2]) rfl) ?_))))))))
 refine VE 5 rfl rfl (EC [0] [0,1,2] rfl (mZ b rb bt T (((cs.set 19 l_marks.val).set 20 l_lines.val).set 21 l_ends.val) 22 (by rw [List.getElem?_set_ne (by decide),List.getElem?_set_ne (by decide),List.getElem?_set_ne (by decide)];exact h3) p v r_2 b_2 (by omega) dH er bF.ok 229 [.pointer (some ⟨b0_0,0,none⟩)] (atC b0_0 b) (by kernel_rfl) (fun r bad bx hr=>pz b rb b0_0 bx p v r bad hr)) ?_)
 rintro _ _ _ ⟨l_inlines,r_3,b_3,hq_3,rfl,rfl⟩;have hl_3:=dy (by omega) hq_3
 refine bST rfl ?_
 refine BN (aj (ah (DR [5] 6 (VD 0 0 tk164 8 rfl rfl rfl rfl rfl (VM 1 rfl rfl (VN 2 rfl rfl rfl (VO 3 4 rfl rfl rfl (bV 4 rfl rfl (cF (l:=[.tmp 2]) rfl) ?_))))))))
 refine VE 5 rfl rfl (EC [0] [0,1,2] rfl (ri b rb bt T ((((cs.set 19 l_marks.val).set 20 l_lines.val).set 21 l_ends.val).set 22 l_inlines.val) 23 (by rw [List.getElem?_set_ne (by decide),List.getElem?_set_ne (by decide),List.getElem?_set_ne (by decide),List.getElem?_set_ne (by decide)];exact h4) p v r_3 b_3 (by omega) ir ik dJ.ok 231 [.pointer (some ⟨b0_0,0,none⟩)] (atC b0_0 b) (by kernel_rfl) (fun r bad bx hr=>uk b rb b0_0 bx p v r bad hr)) ?_)
 rintro _ _ _ ⟨l_vars,r_4,b_4,hq_4,rfl,rfl⟩;have hl_4:=dy (by omega) hq_4
 refine bST rfl ?_
 refine BN (aj (DR [5] 6 (VD 0 0 tk164 10 rfl rfl rfl rfl rfl (VM 1 rfl rfl (VN 2 rfl rfl rfl (VO 3 5 rfl rfl rfl (bV 4 rfl rfl (cF (l:=[.tmp 2]) rfl) ?_)))))))
 refine VE 5 rfl rfl (EC [0] [0,1,2] rfl (oy b rb bt T (((((cs.set 19 l_marks.val).set 20 l_lines.val).set 21 l_ends.val).set 22 l_inlines.val).set 23 l_vars.val) 24 (by rw [List.getElem?_set_ne (by decide),List.getElem?_set_ne (by decide),List.getElem?_set_ne (by decide),List.getElem?_set_ne (by decide),List.getElem?_set_ne (by decide)];exact h5) p v r_4 b_4 (by omega) eH fk (fun _:cC=>Fa True) 233 [.pointer (some ⟨b0_0,0,none⟩)] (atC b0_0 b) (by kernel_rfl) (fun r bad bx hr=>q6 b rb b0_0 bx p v r bad hr)) ?_)
 rintro _ _ _ ⟨l_depths,r_5,b_5,hq_5,rfl,rfl⟩;have hl_5:=dy (by omega) hq_5
 refine bST rfl ?_
 refine BN ?_
 refine th [2,1,4,3,6,5,8,7,10,9,12,11] [0,1,2] rfl Tryz.results118 ?_ (.inl rfl)
 refine ⟨⟨l_marks,l_lines,l_ends,l_inlines,l_vars,l_depths⟩,r_5,b_5,?_,rfl,rfl⟩
 unfold fq
 simp only [eF,dY]
 rw [show (cA fB).zero=[] from rfl,hq_0]
 dsimp only
 rw [show (cA fA).zero=[] from rfl,hq_1]
 dsimp only
 rw [show (cA fT).zero=[] from rfl,hq_2]
 dsimp only
 rw [show (cA dH).zero=[] from rfl,hq_3]
 dsimp only
 rw [show (cA ir).zero=[] from rfl,hq_4]
 dsimp only
 rw [show (cA eH).zero=[] from rfl,hq_5]
theorem ai{a b:List UInt8}{N:Nat}(h:(a++b).length≤N):a.length≤N∧b.length≤N:=by rw [List.length_append] at h;omega
theorem dv{s:ByteArray}(h:(an.enc s).length≤1000000000):s.size≤4611686018427387904:=by rw [gP] at h;omega
set_option maxHeartbeats 4000000 in
theorem wA(x:az)(hx:eE x)(b bt:Nat)(p v:Value)(hp:p=.pointer none∨p=.pointer (some ⟨b,0,none⟩))(out:List UInt8)(hl:(out++cg.enc (bQ x)).length≤1000000000) :
   Con Tryz.prog 44 [.pointer (some ⟨b,0,none⟩),.pointer (some ⟨bt,0,none⟩)] [x.ok] [bR b p v (.pointer none),aO v 5 1 (out.map du),Box bt 40 x.vs]
     fun _ ps hp'=>ps=[]∧∃ p' v',(p'=.pointer none∨p'=.pointer (some ⟨b,0,none⟩))∧hp'=[bR b p' v' (.pointer none),aO v' 5 1 ((out++cg.enc (bQ x)).map du),Box bt 40 x.vs]:=by
 have he:cg.enc (bQ x)=an.enc x.name++(bP.enc x.lib++(ak.enc x.code++(ak.enc x.data++(ak.enc x.zero++(an.enc x.bytes++(an.enc x.tls++(ak.enc x.block++((aV x.nodes.l.length++aP dq x.nodes.l)++((aV x.exports.l.length++aP cT x.exports.l)++((aV x.imports.l.length++aP dR x.imports.l)++((aV x.slots.l.length++aP ak.enc x.slots.l)++((aV x.stubs.l.length++aP ak.enc x.stubs.l)++((aV x.dyns.l.length++aP j0 x.dyns.l)++((aV x.inits.l.length++aP ak.enc x.inits.l)++((aV x.lasts.l.length++aP ak.enc x.lasts.l)++(ak.enc x.entry++((aV x.needs.l.length++aP an.enc x.needs.l)++((aV x.versions.l.length++aP cE x.versions.l)++(fq.enc (eZ x.info)++((aV x.changes.l.length++aP gX x.changes.l))))))))))))))))))))):=by
   rw [← cH dN et x.nodes.l,← cH dL eo x.exports.l,← cH dM ep x.imports.l,← cH jl iT x.dyns.l,← cH cI di x.versions.l,← cH fS fZ x.changes.l];rfl
 rw [he] at hl ⊢
 obtain ⟨hi_code,hi_data,hi_zero,hi_block,hi_entry,hl_nodes,hl_exports,hl_imports,hl_slots,hl_stubs,hl_dyns,hl_inits,hl_lasts,hinf,hl_changes⟩:=hx
 have e0:bw an unT x.vs [0]=an.enc x.name++([]):=rfl
 have e2:bw ak unI x.vs [2,3,4]=ak.enc x.code++(ak.enc x.data++(ak.enc x.zero++([]))):=rfl
 have e3:bw an unT x.vs [5,6]=an.enc x.bytes++(an.enc x.tls++([])):=rfl
 have e4:bw ak unI x.vs [7]=ak.enc x.block++([]):=rfl
 have e13:bw ak unI x.vs [16]=ak.enc x.entry++([]):=rfl
 have hall:((((((((((((((((((out++bw an unT x.vs [0])++bP.enc x.lib)++bw ak unI x.vs [2,3,4])++bw an unT x.vs [5,6])++bw ak unI x.vs [7])++(aV x.nodes.l.length++aP dq x.nodes.l))++(aV x.exports.l.length++aP cT x.exports.l))++(aV x.imports.l.length++aP dR x.imports.l))++(aV x.slots.l.length++aP ak.enc x.slots.l))++(aV x.stubs.l.length++aP ak.enc x.stubs.l))++(aV x.dyns.l.length++aP j0 x.dyns.l))++(aV x.inits.l.length++aP ak.enc x.inits.l))++(aV x.lasts.l.length++aP ak.enc x.lasts.l))++bw ak unI x.vs [16])++(aV x.needs.l.length++aP an.enc x.needs.l))++(aV x.versions.l.length++aP cE x.versions.l))++fq.enc (eZ x.info))++(aV x.changes.l.length++aP gX x.changes.l))=out++(an.enc x.name++(bP.enc x.lib++(ak.enc x.code++(ak.enc x.data++(ak.enc x.zero++(an.enc x.bytes++(an.enc x.tls++(ak.enc x.block++((aV x.nodes.l.length++aP dq x.nodes.l)++((aV x.exports.l.length++aP cT x.exports.l)++((aV x.imports.l.length++aP dR x.imports.l)++((aV x.slots.l.length++aP ak.enc x.slots.l)++((aV x.stubs.l.length++aP ak.enc x.stubs.l)++((aV x.dyns.l.length++aP j0 x.dyns.l)++((aV x.inits.l.length++aP ak.enc x.inits.l)++((aV x.lasts.l.length++aP ak.enc x.lasts.l)++(ak.enc x.entry++((aV x.needs.l.length++aP an.enc x.needs.l)++((aV x.versions.l.length++aP cE x.versions.l)++(fq.enc (eZ x.info)++((aV x.changes.l.length++aP gX x.changes.l)))))))))))))))))))))):=by simp only [e0,e2,e3,e4,e13,List.append_assoc,List.append_nil,List.nil_append,List.cons_append]
 have b_17:((((((((((((((((((out++bw an unT x.vs [0])++bP.enc x.lib)++bw ak unI x.vs [2,3,4])++bw an unT x.vs [5,6])++bw ak unI x.vs [7])++(aV x.nodes.l.length++aP dq x.nodes.l))++(aV x.exports.l.length++aP cT x.exports.l))++(aV x.imports.l.length++aP dR x.imports.l))++(aV x.slots.l.length++aP ak.enc x.slots.l))++(aV x.stubs.l.length++aP ak.enc x.stubs.l))++(aV x.dyns.l.length++aP j0 x.dyns.l))++(aV x.inits.l.length++aP ak.enc x.inits.l))++(aV x.lasts.l.length++aP ak.enc x.lasts.l))++bw ak unI x.vs [16])++(aV x.needs.l.length++aP an.enc x.needs.l))++(aV x.versions.l.length++aP cE x.versions.l))++fq.enc (eZ x.info))++(aV x.changes.l.length++aP gX x.changes.l)).length≤1000000000:=by rw [hall];exact hl
 have b_16:=(ai b_17).1
 have b_15:=(ai b_16).1
 have b_14:=(ai b_15).1
 have b_13:=(ai b_14).1
 have b_12:=(ai b_13).1
 have b_11:=(ai b_12).1
 have b_10:=(ai b_11).1
 have b_9:=(ai b_10).1
 have b_8:=(ai b_9).1
 have b_7:=(ai b_8).1
 have b_6:=(ai b_7).1
 have b_5:=(ai b_6).1
 have b_4:=(ai b_5).1
 have b_3:=(ai b_4).1
 have b_2:=(ai b_3).1
 have b_1:=(ai b_2).1
 have b_0:=(ai b_1).1
 have q_0:=ai (ai hl).2
 have q_1:=ai q_0.2
 have q_2:=ai q_1.2
 have q_3:=ai q_2.2
 have q_4:=ai q_3.2
 have q_5:=ai q_4.2
 have q_6:=ai q_5.2
 have q_7:=ai q_6.2
 have q_8:=ai q_7.2
 have q_9:=ai q_8.2
 have q_10:=ai q_9.2
 have q_11:=ai q_10.2
 have q_12:=ai q_11.2
 have q_13:=ai q_12.2
 have q_14:=ai q_13.2
 have q_15:=ai q_14.2
 have q_16:=ai q_15.2
 have q_17:=ai q_16.2
 have q_18:=ai q_17.2
 have q_19:=ai q_18.2
 refine EN2 Tryz.func44 rfl (aR _ (az.f_nodes (.of (aI 0 rfl))) (aR _ (az.f_exports (.of (aI 1 rfl))) (aR _ (az.f_imports (.of (aI 2 rfl))) (aR _ (az.f_slots (.of (aI 3 rfl))) (aR _ (az.f_stubs (.of (aI 4 rfl))) (aR _ (az.f_dyns (.of (aI 5 rfl))) (aR _ (az.f_inits (.of (aI 6 rfl))) (aR _ (az.f_lasts (.of (aI 7 rfl))) (aR _ (az.f_needs (.of (aI 8 rfl))) (aR _ (az.f_versions (.of (aI 9 rfl))) (aR _ (az.f_changes (.of (aI 10 rfl))) (aSR (LT rfl (cK rfl rfl rfl (fun b0_0 => ?_)))))))))))))))
 refine aHN ?_
 refine aNs (bS 3 rfl rfl ?_)
 show awp _ _ _ _ ⟨_,At _ 0 _::_,_⟩
 refine aa (aU rfl (cF (l:=[.tmp 2]) rfl) (aA rfl (aNn (aSR (aU rfl (cF (l:=[.tmp 2]) rfl) (LT rfl (bk (zs:=[.nilFunc]) (by kernel_rfl) rfl (fun b2_1=>(aHN ?_)))))))))
 refine aD rfl (aF 4 tk170 rfl rfl rfl rfl (aHK ?_))
 refine aNs (bS 4 rfl rfl ?_)
 show awp _ _ _ _ ⟨_,atT b2_1 b0_0::_,_⟩
 refine DR [5] 6 (VD 0 0 tk164 1 rfl rfl rfl rfl rfl (VM 1 rfl rfl (VN 2 rfl rfl rfl (VO 3 0 rfl rfl rfl (VB (zs:=[.pointer none]) 4 rfl el314 rfl rfl rfl rfl (.more rfl (.v rfl .nil) .nil) rfl rfl (fun v3_4=>(VE 5 rfl rfl (EC [14] [0,1,2] rfl (dX b bt 40 x.vs p v hp (out) ⟨v3_4,1,[0]⟩ (aJ x.name (dv q_0.1) rfl bD) b_0) ?_))))))))
 rintro _ _ _ ⟨rfl,p_0,v_0,hp_0,rfl⟩
 refine bST rfl ?_
 refine BN (aj (ah (DR [4] 5 (VD 0 0 tk164 2 rfl rfl rfl rfl rfl (VM 1 rfl rfl (VN 2 rfl rfl rfl (VO 3 1 rfl rfl rfl (VE 4 rfl rfl (EC [] [0,1,2] rfl (kT x.lib b bt 40 x.vs 1 rfl p_0 v_0 hp_0 (out++bw an unT x.vs [0]) b_1) ?_)))))))))
 rintro _ _ _ ⟨rfl,p_1,v_1,hp_1,rfl⟩
 refine bST rfl ?_
 refine BN (aj (ah (DR [11] 12 (VD 0 0 tk164 2 rfl rfl rfl rfl rfl (VM 1 rfl rfl (VN 2 rfl rfl rfl (VO 3 2 rfl rfl rfl (VM 4 rfl rfl (VN 5 rfl rfl rfl (VO 6 3 rfl rfl rfl (VM 7 rfl rfl (VN 8 rfl rfl rfl (VO 9 4 rfl rfl rfl (VB (zs:=[.pointer none]) 10 rfl el313 rfl rfl rfl rfl (.more rfl (.v rfl .nil) (.more rfl (.v rfl .nil) (.more rfl (.v rfl .nil) .nil))) rfl rfl (fun v5_10 => ?_)))))))))))))))
 refine VE 11 rfl rfl (EC [15] [0,1,2] rfl (df b bt 40 x.vs p_1 v_1 hp_1 ((out++bw an unT x.vs [0])++bP.enc x.lib) ⟨v5_10,3,[2,3,4]⟩ (aJ x.code hi_code rfl (aJ x.data hi_data rfl (aJ x.zero hi_zero rfl bD))) b_2) ?_)
 rintro _ _ _ ⟨rfl,p_2,v_2,hp_2,rfl⟩
 refine bST rfl ?_
 refine BN (aj (ah (DR [8] 9 (VD 0 0 tk164 3 rfl rfl rfl rfl rfl (VM 1 rfl rfl (VN 2 rfl rfl rfl (VO 3 5 rfl rfl rfl (VM 4 rfl rfl (VN 5 rfl rfl rfl (VO 6 6 rfl rfl rfl (VB (zs:=[.pointer none]) 7 rfl el314 rfl rfl rfl rfl (.more rfl (.v rfl .nil) (.more rfl (.v rfl .nil) .nil)) rfl rfl (fun v6_7=>(VE 8 rfl rfl (EC [16] [0,1,2] rfl (dX b bt 40 x.vs p_2 v_2 hp_2 (((out++bw an unT x.vs [0])++bP.enc x.lib)++bw ak unI x.vs [2,3,4]) ⟨v6_7,2,[5,6]⟩ (aJ x.bytes (dv q_5.1) rfl (aJ x.tls (dv q_6.1) rfl bD)) b_3) ?_))))))))))))))
 rintro _ _ _ ⟨rfl,p_3,v_3,hp_3,rfl⟩
 refine bST rfl ?_
 refine BN (aj (ah (DR [5] 6 (VD 0 0 tk164 4 rfl rfl rfl rfl rfl (VM 1 rfl rfl (VN 2 rfl rfl rfl (VO 3 7 rfl rfl rfl (VB (zs:=[.pointer none]) 4 rfl el313 rfl rfl rfl rfl (.more rfl (.v rfl .nil) .nil) rfl rfl (fun v7_4=>(VE 5 rfl rfl (EC [17] [0,1,2] rfl (df b bt 40 x.vs p_3 v_3 hp_3 ((((out++bw an unT x.vs [0])++bP.enc x.lib)++bw ak unI x.vs [2,3,4])++bw an unT x.vs [5,6]) ⟨v7_4,1,[7]⟩ (aJ x.block hi_block rfl bD) b_4) ?_)))))))))))
 rintro _ _ _ ⟨rfl,p_4,v_4,hp_4,rfl⟩
 refine bST rfl ?_
 refine BN (aj (ah (DR [5] 6 (VD 0 0 tk164 5 rfl rfl rfl rfl rfl (VM 1 rfl rfl (VN 2 rfl rfl rfl (VO 3 8 rfl rfl rfl (bV 4 rfl rfl (cF (l:=[.tmp 2]) rfl) (VE 5 rfl rfl (EC [1,12] [0,1,2] rfl (ng b bt 40 x.vs 8 x.nodes rfl p_4 v_4 hp_4 (((((out++bw an unT x.vs [0])++bP.enc x.lib)++bw ak unI x.vs [2,3,4])++bw an unT x.vs [5,6])++bw ak unI x.vs [7]) dq b_5 107 [.pointer (some ⟨b0_0,0,none⟩)] (atC b0_0 b) (by kernel_rfl) (fun y p v out bx hy hp hl=>pJ b b0_0 bx y (hl_nodes y hy) p v hp out hl)) ?_))))))))))
 rintro _ _ _ ⟨rfl,p_5,v_5,hp_5,rfl⟩
 refine bST rfl ?_
 refine BN (aj (ah (DR [5] 6 (VD 0 0 tk164 5 rfl rfl rfl rfl rfl (VM 1 rfl rfl (VN 2 rfl rfl rfl (VO 3 9 rfl rfl rfl (bV 4 rfl rfl (cF (l:=[.tmp 2]) rfl) (VE 5 rfl rfl (EC [2,12] [0,1,2] rfl (nb b bt 40 x.vs 9 x.exports rfl p_5 v_5 hp_5 ((((((out++bw an unT x.vs [0])++bP.enc x.lib)++bw ak unI x.vs [2,3,4])++bw an unT x.vs [5,6])++bw ak unI x.vs [7])++(aV x.nodes.l.length++aP dq x.nodes.l)) cT b_6 109 [.pointer (some ⟨b0_0,0,none⟩)] (atC b0_0 b) (by kernel_rfl) (fun y p v out bx hy hp hl=>pG b b0_0 bx y (hl_exports y hy) p v hp out hl)) ?_))))))))))
 rintro _ _ _ ⟨rfl,p_6,v_6,hp_6,rfl⟩
 refine bST rfl ?_
 refine BN (aj (ah (DR [5] 6 (VD 0 0 tk164 5 rfl rfl rfl rfl rfl (VM 1 rfl rfl (VN 2 rfl rfl rfl (VO 3 10 rfl rfl rfl (bV 4 rfl rfl (cF (l:=[.tmp 2]) rfl) (VE 5 rfl rfl (EC [3,12] [0,1,2] rfl (nc b bt 40 x.vs 10 x.imports rfl p_6 v_6 hp_6 (((((((out++bw an unT x.vs [0])++bP.enc x.lib)++bw ak unI x.vs [2,3,4])++bw an unT x.vs [5,6])++bw ak unI x.vs [7])++(aV x.nodes.l.length++aP dq x.nodes.l))++(aV x.exports.l.length++aP cT x.exports.l)) dR b_7 111 [.pointer (some ⟨b0_0,0,none⟩)] (atC b0_0 b) (by kernel_rfl) (fun y p v out bx hy hp hl=>pH b b0_0 bx y (hl_imports y hy) p v hp out hl)) ?_))))))))))
 rintro _ _ _ ⟨rfl,p_7,v_7,hp_7,rfl⟩
 refine bST rfl ?_
 refine BN (aj (ah (DR [5] 6 (VD 0 0 tk164 5 rfl rfl rfl rfl rfl (VM 1 rfl rfl (VN 2 rfl rfl rfl (VO 3 11 rfl rfl rfl (VM 4 rfl rfl (VE 5 rfl rfl (EC [4,12] [0,1,2] rfl (gS b bt 40 x.vs 11 x.slots rfl p_7 v_7 hp_7 ((((((((out++bw an unT x.vs [0])++bP.enc x.lib)++bw ak unI x.vs [2,3,4])++bw an unT x.vs [5,6])++bw ak unI x.vs [7])++(aV x.nodes.l.length++aP dq x.nodes.l))++(aV x.exports.l.length++aP cT x.exports.l))++(aV x.imports.l.length++aP dR x.imports.l)) ak.enc b_8 101 [.pointer (some ⟨b0_0,0,none⟩)] (atC b0_0 b) (by kernel_rfl) (fun y p v out bx hy hp hl=>i7 b b0_0 bx y (hl_slots y hy) p v hp out hl)) ?_))))))))))
 rintro _ _ _ ⟨rfl,p_8,v_8,hp_8,rfl⟩
 refine bST rfl ?_
 refine BN (aj (ah (DR [5] 6 (VD 0 0 tk164 5 rfl rfl rfl rfl rfl (VM 1 rfl rfl (VN 2 rfl rfl rfl (VO 3 12 rfl rfl rfl (VM 4 rfl rfl (VE 5 rfl rfl (EC [5,12] [0,1,2] rfl (gS b bt 40 x.vs 12 x.stubs rfl p_8 v_8 hp_8 (((((((((out++bw an unT x.vs [0])++bP.enc x.lib)++bw ak unI x.vs [2,3,4])++bw an unT x.vs [5,6])++bw ak unI x.vs [7])++(aV x.nodes.l.length++aP dq x.nodes.l))++(aV x.exports.l.length++aP cT x.exports.l))++(aV x.imports.l.length++aP dR x.imports.l))++(aV x.slots.l.length++aP ak.enc x.slots.l)) ak.enc b_9 101 [.pointer (some ⟨b0_0,0,none⟩)] (atC b0_0 b) (by kernel_rfl) (fun y p v out bx hy hp hl=>i7 b b0_0 bx y (hl_stubs y hy) p v hp out hl)) ?_))))))))))
 rintro _ _ _ ⟨rfl,p_9,v_9,hp_9,rfl⟩
 refine bST rfl ?_
 refine BN (aj (ah (DR [5] 6 (VD 0 0 tk164 5 rfl rfl rfl rfl rfl (VM 1 rfl rfl (VN 2 rfl rfl rfl (VO 3 13 rfl rfl rfl (bV 4 rfl rfl (cF (l:=[.tmp 2]) rfl) (VE 5 rfl rfl (EC [6,12] [0,1,2] rfl (rj b bt 40 x.vs 13 x.dyns rfl p_9 v_9 hp_9 ((((((((((out++bw an unT x.vs [0])++bP.enc x.lib)++bw ak unI x.vs [2,3,4])++bw an unT x.vs [5,6])++bw ak unI x.vs [7])++(aV x.nodes.l.length++aP dq x.nodes.l))++(aV x.exports.l.length++aP cT x.exports.l))++(aV x.imports.l.length++aP dR x.imports.l))++(aV x.slots.l.length++aP ak.enc x.slots.l))++(aV x.stubs.l.length++aP ak.enc x.stubs.l)) j0 b_10 114 [.pointer (some ⟨b0_0,0,none⟩)] (atC b0_0 b) (by kernel_rfl) (fun y p v out bx hy hp hl=>uq b b0_0 bx y (hl_dyns y hy) p v hp out hl)) ?_))))))))))
 rintro _ _ _ ⟨rfl,p_10,v_10,hp_10,rfl⟩
 refine bST rfl ?_
 refine BN (aj (ah (DR [5] 6 (VD 0 0 tk164 5 rfl rfl rfl rfl rfl (VM 1 rfl rfl (VN 2 rfl rfl rfl (VO 3 14 rfl rfl rfl (VM 4 rfl rfl (VE 5 rfl rfl (EC [7,12] [0,1,2] rfl (gS b bt 40 x.vs 14 x.inits rfl p_10 v_10 hp_10 (((((((((((out++bw an unT x.vs [0])++bP.enc x.lib)++bw ak unI x.vs [2,3,4])++bw an unT x.vs [5,6])++bw ak unI x.vs [7])++(aV x.nodes.l.length++aP dq x.nodes.l))++(aV x.exports.l.length++aP cT x.exports.l))++(aV x.imports.l.length++aP dR x.imports.l))++(aV x.slots.l.length++aP ak.enc x.slots.l))++(aV x.stubs.l.length++aP ak.enc x.stubs.l))++(aV x.dyns.l.length++aP j0 x.dyns.l)) ak.enc b_11 101 [.pointer (some ⟨b0_0,0,none⟩)] (atC b0_0 b) (by kernel_rfl) (fun y p v out bx hy hp hl=>i7 b b0_0 bx y (hl_inits y hy) p v hp out hl)) ?_))))))))))
 rintro _ _ _ ⟨rfl,p_11,v_11,hp_11,rfl⟩
 refine bST rfl ?_
 refine BN (aj (ah (DR [5] 6 (VD 0 0 tk164 5 rfl rfl rfl rfl rfl (VM 1 rfl rfl (VN 2 rfl rfl rfl (VO 3 15 rfl rfl rfl (VM 4 rfl rfl (VE 5 rfl rfl (EC [8,12] [0,1,2] rfl (gS b bt 40 x.vs 15 x.lasts rfl p_11 v_11 hp_11 ((((((((((((out++bw an unT x.vs [0])++bP.enc x.lib)++bw ak unI x.vs [2,3,4])++bw an unT x.vs [5,6])++bw ak unI x.vs [7])++(aV x.nodes.l.length++aP dq x.nodes.l))++(aV x.exports.l.length++aP cT x.exports.l))++(aV x.imports.l.length++aP dR x.imports.l))++(aV x.slots.l.length++aP ak.enc x.slots.l))++(aV x.stubs.l.length++aP ak.enc x.stubs.l))++(aV x.dyns.l.length++aP j0 x.dyns.l))++(aV x.inits.l.length++aP ak.enc x.inits.l)) ak.enc b_12 101 [.pointer (some ⟨b0_0,0,none⟩)] (atC b0_0 b) (by kernel_rfl) (fun y p v out bx hy hp hl=>i7 b b0_0 bx y (hl_lasts y hy) p v hp out hl)) ?_))))))))))
 rintro _ _ _ ⟨rfl,p_12,v_12,hp_12,rfl⟩
 refine bST rfl ?_
 refine BN (aj (ah (DR [5] 6 (VD 0 0 tk164 5 rfl rfl rfl rfl rfl (VM 1 rfl rfl (VN 2 rfl rfl rfl (VO 3 16 rfl rfl rfl (VB (zs:=[.pointer none]) 4 rfl el313 rfl rfl rfl rfl (.more rfl (.v rfl .nil) .nil) rfl rfl (fun v16_4=>(VE 5 rfl rfl (EC [18] [0,1,2] rfl (df b bt 40 x.vs p_12 v_12 hp_12 (((((((((((((out++bw an unT x.vs [0])++bP.enc x.lib)++bw ak unI x.vs [2,3,4])++bw an unT x.vs [5,6])++bw ak unI x.vs [7])++(aV x.nodes.l.length++aP dq x.nodes.l))++(aV x.exports.l.length++aP cT x.exports.l))++(aV x.imports.l.length++aP dR x.imports.l))++(aV x.slots.l.length++aP ak.enc x.slots.l))++(aV x.stubs.l.length++aP ak.enc x.stubs.l))++(aV x.dyns.l.length++aP j0 x.dyns.l))++(aV x.inits.l.length++aP ak.enc x.inits.l))++(aV x.lasts.l.length++aP ak.enc x.lasts.l)) ⟨v16_4,1,[16]⟩ (aJ x.entry hi_entry rfl bD) b_13) ?_)))))))))))
 rintro _ _ _ ⟨rfl,p_13,v_13,hp_13,rfl⟩
 refine bST rfl ?_
 refine BN (aj (ah (DR [5] 6 (VD 0 0 tk164 6 rfl rfl rfl rfl rfl (VM 1 rfl rfl (VN 2 rfl rfl rfl (VO 3 17 rfl rfl rfl (VD 4 0 tk170 5 rfl rfl rfl rfl rfl (VE 5 rfl rfl (EC [9,12] [0,1,2] rfl (jw b bt 40 x.vs 17 x.needs rfl p_13 v_13 hp_13 ((((((((((((((out++bw an unT x.vs [0])++bP.enc x.lib)++bw ak unI x.vs [2,3,4])++bw an unT x.vs [5,6])++bw ak unI x.vs [7])++(aV x.nodes.l.length++aP dq x.nodes.l))++(aV x.exports.l.length++aP cT x.exports.l))++(aV x.imports.l.length++aP dR x.imports.l))++(aV x.slots.l.length++aP ak.enc x.slots.l))++(aV x.stubs.l.length++aP ak.enc x.stubs.l))++(aV x.dyns.l.length++aP j0 x.dyns.l))++(aV x.inits.l.length++aP ak.enc x.inits.l))++(aV x.lasts.l.length++aP ak.enc x.lasts.l))++bw ak unI x.vs [16]) an.enc b_14 103 [.pointer (some ⟨b0_0,0,none⟩)] (atC b0_0 b) (by kernel_rfl) (fun y p v out bx _ hp hl=>mn b b0_0 bx y p v hp out hl)) ?_))))))))))
 rintro _ _ _ ⟨rfl,p_14,v_14,hp_14,rfl⟩
 refine bST rfl ?_
 refine BN (aj (ah (aR (cM (atC b0_0 b) (cM (atT b2_1 b0_0) (bz aH.ok x.versions.l))) (Ent.mk2 (.of (aI 6 rfl)) (Ent.mk2 (.of (aI 5 rfl)) (az.f_versionsA (.of (aI 18 rfl))))) (DR [5] 6 (VD 0 0 tk164 7 rfl rfl rfl rfl rfl (VM 1 rfl rfl (VN 2 rfl rfl rfl (VO 3 18 rfl rfl rfl (bV 4 rfl rfl (cF (l:=[.tmp 2,.tmp 5]) rfl) (VE 5 rfl rfl (EC [10,19] [0,1,2] rfl (ko b bt 40 x.vs 18 x.versions rfl p_14 v_14 hp_14 (((((((((((((((out++bw an unT x.vs [0])++bP.enc x.lib)++bw ak unI x.vs [2,3,4])++bw an unT x.vs [5,6])++bw ak unI x.vs [7])++(aV x.nodes.l.length++aP dq x.nodes.l))++(aV x.exports.l.length++aP cT x.exports.l))++(aV x.imports.l.length++aP dR x.imports.l))++(aV x.slots.l.length++aP ak.enc x.slots.l))++(aV x.stubs.l.length++aP ak.enc x.stubs.l))++(aV x.dyns.l.length++aP j0 x.dyns.l))++(aV x.inits.l.length++aP ak.enc x.inits.l))++(aV x.lasts.l.length++aP ak.enc x.lasts.l))++bw ak unI x.vs [16])++(aV x.needs.l.length++aP an.enc x.needs.l)) cE b_15 117 [.pointer (some ⟨b0_0,0,none⟩),.pointer (some ⟨b2_1,0,none⟩)] (cM (atC b0_0 b) (cM (atT b2_1 b0_0) (bz aH.ok x.versions.l))) (by kernel_rfl) (fun y p v out bx hy hp hl=>(lP b b0_0 b2_1 bx y p v hp out hl).pre1 (Ent.mk2 (Ent.left (.of (aI 0 rfl))) (Ent.mk2 (Ent.left (Ent.right (.of (aI 0 rfl)))) ((Ent.right (Ent.right (.of (aI 0 rfl)))).allm hy))))) ?_)))))))))))
 rintro _ _ _ ⟨rfl,p_15,v_15,hp_15,rfl⟩
 refine bST rfl ?_
 refine BN (aj (ah (DR [4] 5 (VD 0 0 tk164 7 rfl rfl rfl rfl rfl (VM 1 rfl rfl (VN 2 rfl rfl rfl (VO 3 19 rfl rfl rfl (VE 4 rfl rfl (EC [0] [0,1,2] rfl (y5 x hinf b bt p_15 v_15 hp_15 ((((((((((((((((out++bw an unT x.vs [0])++bP.enc x.lib)++bw ak unI x.vs [2,3,4])++bw an unT x.vs [5,6])++bw ak unI x.vs [7])++(aV x.nodes.l.length++aP dq x.nodes.l))++(aV x.exports.l.length++aP cT x.exports.l))++(aV x.imports.l.length++aP dR x.imports.l))++(aV x.slots.l.length++aP ak.enc x.slots.l))++(aV x.stubs.l.length++aP ak.enc x.stubs.l))++(aV x.dyns.l.length++aP j0 x.dyns.l))++(aV x.inits.l.length++aP ak.enc x.inits.l))++(aV x.lasts.l.length++aP ak.enc x.lasts.l))++bw ak unI x.vs [16])++(aV x.needs.l.length++aP an.enc x.needs.l))++(aV x.versions.l.length++aP cE x.versions.l)) b_16) ?_)))))))))
 rintro _ _ _ ⟨rfl,p_16,v_16,hp_16,rfl⟩
 refine bST rfl ?_
 refine BN (aj (aR (cM (atC b0_0 b) (bz cq.ok x.changes.l)) (Ent.mk2 (.of (aI 7 rfl)) (az.f_changesA (.of (aI 19 rfl)))) (DR [5] 6 (VD 0 0 tk164 8 rfl rfl rfl rfl rfl (VM 1 rfl rfl (VN 2 rfl rfl rfl (VO 3 25 rfl rfl rfl (bV 4 rfl rfl (cF (l:=[.tmp 2]) rfl) (VE 5 rfl rfl (EC [11,20] [0,1,2] rfl (pT b bt 40 x.vs 25 x.changes rfl p_16 v_16 hp_16 (((((((((((((((((out++bw an unT x.vs [0])++bP.enc x.lib)++bw ak unI x.vs [2,3,4])++bw an unT x.vs [5,6])++bw ak unI x.vs [7])++(aV x.nodes.l.length++aP dq x.nodes.l))++(aV x.exports.l.length++aP cT x.exports.l))++(aV x.imports.l.length++aP dR x.imports.l))++(aV x.slots.l.length++aP ak.enc x.slots.l))++(aV x.stubs.l.length++aP ak.enc x.stubs.l))++(aV x.dyns.l.length++aP j0 x.dyns.l))++(aV x.inits.l.length++aP ak.enc x.inits.l))++(aV x.lasts.l.length++aP ak.enc x.lasts.l))++bw ak unI x.vs [16])++(aV x.needs.l.length++aP an.enc x.needs.l))++(aV x.versions.l.length++aP cE x.versions.l))++fq.enc (eZ x.info)) gX b_17 120 [.pointer (some ⟨b0_0,0,none⟩)] (cM (atC b0_0 b) (bz cq.ok x.changes.l)) (by kernel_rfl) (fun y p v out bx hy hp hl=>(sQ b b0_0 bx y (hl_changes y hy) p v hp out hl).pre1 (Ent.mk2 (Ent.left (.of (aI 0 rfl))) ((Ent.right (.of (aI 0 rfl))).allm hy)))) ?_))))))))))
 rintro _ _ _ ⟨rfl,p_17,v_17,hp_17,rfl⟩
 refine bST rfl ?_
 refine BN (FZ0 [0,1,2] Tryz.results44 ?_)
 rw [← hall];exact ⟨rfl,p_17,v_17,hp_17,rfl⟩
end Go.Proofs.YtfkcmbonmpcbfaaGreat

