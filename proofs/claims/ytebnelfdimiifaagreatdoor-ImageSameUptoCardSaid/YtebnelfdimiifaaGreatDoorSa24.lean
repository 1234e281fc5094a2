/- Parts of the proof, in build order. No condition. -/
import Derived.Test.YtebnelfdimiifaaGreatDoorSa23
import Derived.Test.YtebnelfdimiifaaGreatDoorSa05
import Derived.Test.YtebnelfdimiifaaGreatDoorSa07
import Derived.Test.YtebnelfdimiifaaGreatDoorSa09
set_option linter.unusedSimpArgs false
set_option linter.unusedVariables false
set_option maxHeartbeats 1000000
set_option maxRecDepth 20000
namespace Go.Proofs.YtebnelfdimiifaaGreatDoor
open Go.RowKit Go.Lp Go.Sy Go.Lv
abbrev aei:Type:=List aek × List aej × List ael × List u6 × List agy × List zn
def ft:Cod aei:=Cod.prod (dE gq) (Cod.prod (dE gp) (Cod.prod (dE gX) (Cod.prod (dE eh) (Cod.prod (dE jZ) ((dE fD))))))
abbrev eV(x:cC):aei:=(x.marks.l.map gy,x.lines.l.map gw,x.ends.l.map gJ,x.inlines.l.map eN,x.vars.l.map ji,x.depths.l.map fP)
def lP(x:cC):Prop:=(∀ y∈x.marks.l,nq y)∧(∀ y∈x.lines.l,nk y)∧(∀ y∈x.ends.l,nr y)∧(∀ y∈x.inlines.l,jM y)∧(∀ y∈x.vars.l,rF y)∧(∀ y∈x.depths.l,kT y)
abbrev cV(x:bp):List UInt8:=eD.enc (eO x)
abbrev cL(x:bQ):List UInt8:=eA.enc (eK x)
abbrev dL(x:b7):List UInt8:=eC.enc (eM x)
abbrev j9(x:fx):List UInt8:=lY.enc (jP x)
abbrev afQ(x:dJ):List UInt8:=fo.enc (fu x)
abbrev iR(x:dI):List UInt8:=gq.enc (gy x)
abbrev iQ(x:dH):List UInt8:=gp.enc (gw x)
abbrev jE(x:bK):List UInt8:=gX.enc (gJ x)
abbrev fM(x:ca):List UInt8:=eh.enc (eN x)
abbrev pQ(x:eE):List UInt8:=jZ.enc (ji x)
abbrev jq(x:cG):List UInt8:=fD.enc (fP x)
abbrev gY(x:cr):List UInt8:=ix.enc (gI x)
abbrev cm(x:aF):List UInt8:=cX.enc (dw x)
abbrev aeh:Type:=ByteArray × Bool × Int × Int × Int × ByteArray × ByteArray × Int × List u7 × List u4 × List u5 × List Int × List Int × List agw × List Int × List Int × Int × List ByteArray × List la × aei × List aeg
def bN:Cod aeh:=Cod.prod ak (Cod.prod bO (Cod.prod aj (Cod.prod aj (Cod.prod aj (Cod.prod ak (Cod.prod ak (Cod.prod aj (Cod.prod (dE eD) (Cod.prod (dE eA) (Cod.prod (dE eC) (Cod.prod (dE aj) (Cod.prod (dE aj) (Cod.prod (dE lY) (Cod.prod (dE aj) (Cod.prod (dE aj) (Cod.prod aj (Cod.prod (dE ak) (Cod.prod (dE cX) (Cod.prod ft ((dE ix)))))))))))))))))))))
abbrev bA(x:aD):aeh:=(x.name,x.lib,x.code,x.data,x.zero,x.bytes,x.tls,x.block,x.nodes.l.map eO,x.exports.l.map eK,x.imports.l.map eM,x.slots.l,x.stubs.l,x.dyns.l.map jP,x.inits.l,x.lasts.l,x.entry,x.needs.l,x.versions.l.map dw,eV x.info,x.changes.l.map gI)
def cY(x:aD):Prop:=Go.Lv.I64 x.code∧Go.Lv.I64 x.data∧Go.Lv.I64 x.zero∧Go.Lv.I64 x.block∧Go.Lv.I64 x.entry∧(∀ y∈x.nodes.l,iL y)∧(∀ y∈x.exports.l,iK y)∧(∀ y∈x.imports.l,jL y)∧(∀ y∈x.slots.l,Go.Lv.I64 y)∧(∀ y∈x.stubs.l,Go.Lv.I64 y)∧(∀ y∈x.dyns.l,rE y)∧(∀ y∈x.inits.l,Go.Lv.I64 y)∧(∀ y∈x.lasts.l,Go.Lv.I64 y)∧lP x.info∧(∀ y∈x.changes.l,lO y)
theorem yX{x:bp}(h:eD.ok (eO x)):iL x:=⟨h.2.2.1,h.2.2.2.1,h.2.2.2.2.1⟩
theorem yT{x:bQ}(h:eA.ok (eK x)):iK x:=⟨h.2.2.2.1,h.2.2.2.2.1,h.2.2.2.2.2⟩
theorem yU{x:b7}(h:eC.ok (eM x)):jL x:=h.2.2.1
theorem aeV{x:fx}(h:lY.ok (jP x)):rE x:=⟨h.1,h.2.1,h.2.2.1,h.2.2.2⟩
theorem abK{x:dJ}(h:fo.ok (fu x)):kU x:=⟨h.1,h.2.1,h.2.2⟩
theorem ady{x:dI}(h:gq.ok (gy x)):nq x:=⟨h.2.1,h.2.2.1,h.2.2.2⟩
theorem adx{x:dH}(h:gp.ok (gw x)):nk x:=⟨h.1,h.2.1,h.2.2.2⟩
theorem adz{x:bK}(h:gX.ok (gJ x)):nr x:=⟨h.1,h.2⟩
theorem yW{x:ca}(h:eh.ok (eN x)):jM x:=⟨h.1,h.2.1,h.2.2.1,h.2.2.2.2.2⟩
theorem aeW{x:eE}(h:jZ.ok (ji x)):rF x:=⟨h.1,h.2.1,h.2.2.1,h.2.2.2.2.1,h.2.2.2.2.2⟩
theorem abI{x:cG}(h:fD.ok (fP x)):kT x:=⟨h.1,h.2.1,h.2.2.1,h.2.2.2⟩
theorem adu{x:cr}(h:ix.ok (gI x)):lO x:=⟨fun y hy=>abK (h.2.2.2.1.2 _ (List.mem_map_of_mem hy)),h.2.2.2.2⟩
theorem adw{x:cC}(h:ft.ok (eV x)):lP x:=⟨fun y hy=>ady ((h.1).2 _ (List.mem_map_of_mem hy)),fun y hy=>adx ((h.2.1).2 _ (List.mem_map_of_mem hy)),fun y hy=>adz ((h.2.2.1).2 _ (List.mem_map_of_mem hy)),fun y hy=>yW ((h.2.2.2.1).2 _ (List.mem_map_of_mem hy)),fun y hy=>aeW ((h.2.2.2.2.1).2 _ (List.mem_map_of_mem hy)),fun y hy=>abI ((h.2.2.2.2.2).2 _ (List.mem_map_of_mem hy))⟩
theorem abJ{x:aD}(h:bN.ok (bA x)):cY x:=⟨h.2.2.1,h.2.2.2.1,h.2.2.2.2.1,h.2.2.2.2.2.2.2.1,h.2.2.2.2.2.2.2.2.2.2.2.2.2.2.2.2.1,fun y hy=>yX ((h.2.2.2.2.2.2.2.2.1).2 _ (List.mem_map_of_mem hy)),fun y hy=>yT ((h.2.2.2.2.2.2.2.2.2.1).2 _ (List.mem_map_of_mem hy)),fun y hy=>yU ((h.2.2.2.2.2.2.2.2.2.2.1).2 _ (List.mem_map_of_mem hy)),fun y hy=>(h.2.2.2.2.2.2.2.2.2.2.2.1).2 y hy,fun y hy=>(h.2.2.2.2.2.2.2.2.2.2.2.2.1).2 y hy,fun y hy=>aeV ((h.2.2.2.2.2.2.2.2.2.2.2.2.2.1).2 _ (List.mem_map_of_mem hy)),fun y hy=>(h.2.2.2.2.2.2.2.2.2.2.2.2.2.2.1).2 y hy,fun y hy=>(h.2.2.2.2.2.2.2.2.2.2.2.2.2.2.2.1).2 y hy,adw (h.2.2.2.2.2.2.2.2.2.2.2.2.2.2.2.2.2.2.2.1),fun y hy=>adu ((h.2.2.2.2.2.2.2.2.2.2.2.2.2.2.2.2.2.2.2.2).2 _ (List.mem_map_of_mem hy))⟩
theorem acC:bN.K≤1000:=by decide
theorem rf{x:aD}{r r':List UInt8}{b b':Bool}(hr:r.length≤1000000)(h:bN.one (.R r b) bN.zero=(.R r' b',bA x)):cY x∧(bN.enc (bA x)).length≤1000000000:=by
 obtain ⟨r1,b1,h1,h2,h3,h4⟩:=bN.rd r b (by omega)
 rw [h] at h1 h3 h4
 have hK:=acC
 refine ⟨abJ h3,Nat.le_trans h4 ?_⟩
 split<;>omega
open Go.Proofs.Tryz
attribute [local irreducible] aL aB awp aC fwp Quiet
theorem aa4(im:aD)(hx:lP im.info)(b bt:Nat)(p v:Value)(hp:p=.pointer none∨p=.pointer (some ⟨b,0,none⟩))(out:List UInt8)(hl:(out++ft.enc (eV im.info)).length≤1000000000) :
   Con Tryz.prog 62 [.pointer (some ⟨b,0,none⟩),.pointer (some ⟨bt,19,none⟩)] [im.ok] [bR b p v (.pointer none),aN v 5 1 (out.map cE),Box bt 39 im.vs]
     fun _ ps hp'=>ps=[]∧∃ p' v',(p'=.pointer none∨p'=.pointer (some ⟨b,0,none⟩))∧hp'=[bR b p' v' (.pointer none),aN v' 5 1 ((out++ft.enc (eV im.info)).map cE),Box bt 39 im.vs]:=by
 have he:ft.enc (eV im.info)=(aQ im.info.marks.l.length++aO iR im.info.marks.l)++((aQ im.info.lines.l.length++aO iQ im.info.lines.l)++((aQ im.info.ends.l.length++aO jE im.info.ends.l)++((aQ im.info.inlines.l.length++aO fM im.info.inlines.l)++((aQ im.info.vars.l.length++aO pQ im.info.vars.l)++((aQ im.info.depths.l.length++aO jq im.info.depths.l)))))):=by
   rw [← ct gq gy im.info.marks.l,← ct gp gw im.info.lines.l,← ct gX gJ im.info.ends.l,← ct eh eN im.info.inlines.l,← ct jZ ji im.info.vars.l,← ct fD fP im.info.depths.l];rfl
 rw [he] at hl ⊢
 obtain ⟨h_marks,h_lines,h_ends,h_inlines,h_vars,h_depths⟩:=hx
 have hall:((((((out++(aQ im.info.marks.l.length++aO iR im.info.marks.l))++(aQ im.info.lines.l.length++aO iQ im.info.lines.l))++(aQ im.info.ends.l.length++aO jE im.info.ends.l))++(aQ im.info.inlines.l.length++aO fM im.info.inlines.l))++(aQ im.info.vars.l.length++aO pQ im.info.vars.l))++(aQ im.info.depths.l.length++aO jq im.info.depths.l))=out++((aQ im.info.marks.l.length++aO iR im.info.marks.l)++((aQ im.info.lines.l.length++aO iQ im.info.lines.l)++((aQ im.info.ends.l.length++aO jE im.info.ends.l)++((aQ im.info.inlines.l.length++aO fM im.info.inlines.l)++((aQ im.info.vars.l.length++aO pQ im.info.vars.l)++((aQ im.info.depths.l.length++aO jq im.info.depths.l))))))):=by simp only [List.append_assoc]
 simp only [List.length_append] at hl
 refine EN2 Tryz.func62 rfl (aZ _ (cC.f_marks (aD.f_info (.of (aH 0 rfl)))) (aZ _ (cC.f_lines (aD.f_info (.of (aH 1 rfl)))) (aZ _ (cC.f_ends (aD.f_info (.of (aH 2 rfl)))) (aZ _ (cC.f_inlines (aD.f_info (.of (aH 3 rfl)))) (aZ _ (cC.f_vars (aD.f_info (.of (aH 4 rfl)))) (aZ _ (cC.f_depths (aD.f_info (.of (aH 5 rfl)))) (aSR (LT rfl (cx rfl rfl rfl (fun b0_0=>(aHN ?_)))))))))))
 refine aNs (bT 3 rfl rfl ?_)
 show awp _ _ _ _ ⟨_,At _ 0 _::_,_⟩
 refine DR [5] 6 (VD 0 0 tk89 0 rfl rfl rfl rfl rfl (VM 1 rfl rfl (VN 2 rfl rfl rfl (VO 3 0 rfl rfl rfl (bV 4 rfl rfl (cq (l:=[.tmp 2]) rfl) ?_)))))
 refine VE 5 rfl rfl (EC [1,7] [0,1,2] rfl (qU b bt 39 im.vs 19 im.info.marks rfl p v hp (out) iR (by simp only [List.length_append];omega) 133 [.pointer (some ⟨b0_0,0,none⟩)] (atC b0_0 b) (by kernel_rfl) (fun y p v out bx hy hp hl=>uu b b0_0 bx y (h_marks y hy) p v hp out hl)) ?_)
 rintro _ _ _ ⟨rfl,p_0,v_0,hp_0,rfl⟩
 refine bST rfl ?_
 refine BN (an (ai (DR [5] 6 (VD 0 0 tk89 0 rfl rfl rfl rfl rfl (VM 1 rfl rfl (VN 2 rfl rfl rfl (VO 3 1 rfl rfl rfl (bV 4 rfl rfl (cq (l:=[.tmp 2]) rfl) ?_))))))))
 refine VE 5 rfl rfl (EC [2,7] [0,1,2] rfl (qT b bt 39 im.vs 20 im.info.lines rfl p_0 v_0 hp_0 (out++(aQ im.info.marks.l.length++aO iR im.info.marks.l)) iQ (by simp only [List.length_append];omega) 135 [.pointer (some ⟨b0_0,0,none⟩)] (atC b0_0 b) (by kernel_rfl) (fun y p v out bx hy hp hl=>uq b b0_0 bx y (h_lines y hy) p v hp out hl)) ?_)
 rintro _ _ _ ⟨rfl,p_1,v_1,hp_1,rfl⟩
 refine bST rfl ?_
 refine BN (an (ai (DR [5] 6 (VD 0 0 tk89 0 rfl rfl rfl rfl rfl (VM 1 rfl rfl (VN 2 rfl rfl rfl (VO 3 2 rfl rfl rfl (bV 4 rfl rfl (cq (l:=[.tmp 2]) rfl) ?_))))))))
 refine VE 5 rfl rfl (EC [3,7] [0,1,2] rfl (qV b bt 39 im.vs 21 im.info.ends rfl p_1 v_1 hp_1 ((out++(aQ im.info.marks.l.length++aO iR im.info.marks.l))++(aQ im.info.lines.l.length++aO iQ im.info.lines.l)) jE (by simp only [List.length_append];omega) 137 [.pointer (some ⟨b0_0,0,none⟩)] (atC b0_0 b) (by kernel_rfl) (fun y p v out bx hy hp hl=>uw b b0_0 bx y (h_ends y hy) p v hp out hl)) ?_)
 rintro _ _ _ ⟨rfl,p_2,v_2,hp_2,rfl⟩
 refine bST rfl ?_
 refine BN (an (ai (DR [5] 6 (VD 0 0 tk89 0 rfl rfl rfl rfl rfl (VM 1 rfl rfl (VN 2 rfl rfl rfl (VO 3 3 rfl rfl rfl (bV 4 rfl rfl (cq (l:=[.tmp 2]) rfl) ?_))))))))
 refine VE 5 rfl rfl (EC [4,7] [0,1,2] rfl (oA b bt 39 im.vs 22 im.info.inlines rfl p_2 v_2 hp_2 (((out++(aQ im.info.marks.l.length++aO iR im.info.marks.l))++(aQ im.info.lines.l.length++aO iQ im.info.lines.l))++(aQ im.info.ends.l.length++aO jE im.info.ends.l)) fM (by simp only [List.length_append];omega) 139 [.pointer (some ⟨b0_0,0,none⟩)] (atC b0_0 b) (by kernel_rfl) (fun y p v out bx hy hp hl=>qH b b0_0 bx y (h_inlines y hy) p v hp out hl)) ?_)
 rintro _ _ _ ⟨rfl,p_3,v_3,hp_3,rfl⟩
 refine bST rfl ?_
 refine BN (an (ai (DR [5] 6 (VD 0 0 tk89 0 rfl rfl rfl rfl rfl (VM 1 rfl rfl (VN 2 rfl rfl rfl (VO 3 4 rfl rfl rfl (bV 4 rfl rfl (cq (l:=[.tmp 2]) rfl) ?_))))))))
 refine VE 5 rfl rfl (EC [5,7] [0,1,2] rfl (sF b bt 39 im.vs 23 im.info.vars rfl p_3 v_3 hp_3 ((((out++(aQ im.info.marks.l.length++aO iR im.info.marks.l))++(aQ im.info.lines.l.length++aO iQ im.info.lines.l))++(aQ im.info.ends.l.length++aO jE im.info.ends.l))++(aQ im.info.inlines.l.length++aO fM im.info.inlines.l)) pQ (by simp only [List.length_append];omega) 141 [.pointer (some ⟨b0_0,0,none⟩)] (atC b0_0 b) (by kernel_rfl) (fun y p v out bx hy hp hl=>vV b b0_0 bx y (h_vars y hy) p v hp out hl)) ?_)
 rintro _ _ _ ⟨rfl,p_4,v_4,hp_4,rfl⟩
 refine bST rfl ?_
 refine BN (an (DR [5] 6 (VD 0 0 tk89 0 rfl rfl rfl rfl rfl (VM 1 rfl rfl (VN 2 rfl rfl rfl (VO 3 5 rfl rfl rfl (bV 4 rfl rfl (cq (l:=[.tmp 2]) rfl) ?_)))))))
 refine VE 5 rfl rfl (EC [6,7] [0,1,2] rfl (pK b bt 39 im.vs 24 im.info.depths rfl p_4 v_4 hp_4 (((((out++(aQ im.info.marks.l.length++aO iR im.info.marks.l))++(aQ im.info.lines.l.length++aO iQ im.info.lines.l))++(aQ im.info.ends.l.length++aO jE im.info.ends.l))++(aQ im.info.inlines.l.length++aO fM im.info.inlines.l))++(aQ im.info.vars.l.length++aO pQ im.info.vars.l)) jq (by simp only [List.length_append];omega) 143 [.pointer (some ⟨b0_0,0,none⟩)] (atC b0_0 b) (by kernel_rfl) (fun y p v out bx hy hp hl=>sy b b0_0 bx y (h_depths y hy) p v hp out hl)) ?_)
 rintro _ _ _ ⟨rfl,p_5,v_5,hp_5,rfl⟩
 refine bST rfl ?_
 refine BN (FZ0 [0,1,2] Tryz.results62 ?_)
 rw [← hall];exact ⟨rfl,p_5,v_5,hp_5,rfl⟩
theorem aa3(b rb bt:Nat)(T:TypeId)(cs:List Value)(h0:cs[19]? = some (.slice none 0 0))(h1:cs[20]? = some (.slice none 0 0))(h2:cs[21]? = some (.slice none 0 0))(h3:cs[22]? = some (.slice none 0 0))(h4:cs[23]? = some (.slice none 0 0))(h5:cs[24]? = some (.slice none 0 0))(p v:Value)(r:List UInt8)(bad:Bool)(hr:r.length≤1000000) :
   Con Tryz.prog 62 [.pointer (some ⟨b,0,none⟩),.pointer (some ⟨bt,19,none⟩)] [] [bR b p v (.pointer (some ⟨rb,0,none⟩)),rdB rb r bad,Box bt T cs]
     fun _ ps hp'=>∃ (x:cC) (r':List UInt8) (bad':Bool),ft.one (.R r bad) ft.zero=(.R r' bad',eV x)∧ps=[x.ok]∧hp'=[bR b p v (.pointer (some ⟨rb,0,none⟩)),rdB rb r' bad',Box bt T ((((((cs.set 19 x.marks.val).set 20 x.lines.val).set 21 x.ends.val).set 22 x.inlines.val).set 23 x.vars.val).set 24 x.depths.val)]:=by
 refine Con.rdF (P1:=fun x=>[ShF dI.row x.marks,b6 dI.ok x.marks.l,ShF dH.row x.lines,b6 dH.ok x.lines.l,ShF bK.row x.ends,b6 (fun _:bK=>Fa True) x.ends.l,ShF ca.row x.inlines,b6 ca.ok x.inlines.l,ShF eE.row x.vars,b6 eE.ok x.vars.l,ShF cG.row x.depths,b6 (fun _:cG=>Fa True) x.depths.l]) ?_ (fun x r' b' h p hp=>by
   rw [List.mem_singleton.1 hp]
   exact Ent.mk2 (.of (aH 0 rfl)) (Ent.mk2 (.of (aH 1 rfl)) (Ent.mk2 (.of (aH 2 rfl)) (Ent.mk2 (.of (aH 3 rfl)) (Ent.mk2 (.of (aH 4 rfl)) (Ent.mk2 (.of (aH 6 rfl)) (Ent.mk2 (.of (aH 7 rfl)) (Ent.mk2 (.of (aH 8 rfl)) (Ent.mk2 (.of (aH 9 rfl)) ((.of (aH 10 rfl))))))))))))
 refine EN2 Tryz.func62 rfl (aSR (LT rfl (cx rfl rfl rfl (fun b0_0=>(aHN ?_)))))
 refine aNs (bT 3 rfl rfl ?_)
 show awp _ _ _ _ ⟨_,At _ 0 _::_,_⟩
 refine DR [5] 6 (VD 0 0 tk89 0 rfl rfl rfl rfl rfl (VM 1 rfl rfl (VN 2 rfl rfl rfl (VO 3 0 rfl rfl rfl (bV 4 rfl rfl (cq (l:=[.tmp 2]) rfl) ?_)))))
 refine VE 5 rfl rfl (EC [0] [0,1,2] rfl (qQ b rb bt T cs 19 (by exact h0) p v r bad (by omega) gq gy dI.ok 133 [.pointer (some ⟨b0_0,0,none⟩)] (atC b0_0 b) (by kernel_rfl) (fun r bad bx hr=>uh b rb b0_0 bx p v r bad hr)) ?_)
 rintro _ _ _ ⟨l_marks,r_0,b_0,hq_0,rfl,rfl⟩;have hl_0:=dr (by omega) hq_0
 refine bST rfl ?_
 refine BN (an (ai (DR [5] 6 (VD 0 0 tk89 2 rfl rfl rfl rfl rfl (VM 1 rfl rfl (VN 2 rfl rfl rfl (VO 3 1 rfl rfl rfl (bV 4 rfl rfl (cq (l:=[.tmp 2]) rfl) ?_))))))))
 refine VE 5 rfl rfl (EC [0] [0,1,2] rfl (qP b rb bt T (cs.set 19 l_marks.val) 20 (by rw [List.getElem?_set_ne (by decide)];exact h1) p v r_0 b_0 (by omega) gp gw dH.ok 135 [.pointer (some ⟨b0_0,0,none⟩)] (atC b0_0 b) (by kernel_rfl) (fun r bad bx hr=>ug b rb b0_0 bx p v r bad hr)) ?_)
 rintro _ _ _ ⟨l_lines,r_1,b_1,hq_1,rfl,rfl⟩;have hl_1:=dr (by omega) hq_1
 refine bST rfl ?_
 refine BN (an (ai (DR [5] 6 (VD 0 0 tk89 4 rfl rfl rfl rfl rfl (VM 1 rfl rfl (VN 2 rfl rfl rfl (VO 3 2 rfl rfl rfl (bV 4 rfl rfl (cq (l:=[.tmp 2]) rfl) ?_))))))))
 refine VE 5 rfl rfl (EC [0] [0,1,2] rfl (qR b rb bt T ((cs.set 19 l_marks.val).set 20 l_lines.val) 21 (by rw [List.getElem?_set_ne (by decide),List.getElem?_set_ne (by decide)];exact h2) p v r_1 b_1 (by omega) gX gJ (fun _:bK=>Fa True) 137 [.pointer (some ⟨b0_0,0,none⟩)] (atC b0_0 b) (by kernel_rfl) (fun r bad bx hr=>ui b rb b0_0 bx p v r bad hr)) ?_)
 rintro _ _ _ ⟨l_ends,r_2,b_2,hq_2,rfl,rfl⟩;have hl_2:=dr (by omega) hq_2
 refine bST rfl ?_
 refine BN (an (ai (DR [5] 6 (VD 0 0 tk89 6 rfl rfl rfl rfl rfl (VM 1 rfl rfl (VN 2 rfl rfl rfl (VO 3 3 rfl rfl rfl (bV 4 rfl rfl (cq (l:=[.tmp 2]) rfl) ?_))))))))
 refine VE 5 rfl rfl (EC [0] [0,1,2] rfl (ow b rb bt T (((cs.set 19 l_marks.val).set 20 l_lines.val).set 21 l_ends.val) 22 (by rw [List.getElem?_set_ne (by decide),List.getElem?_set_ne (by decide),List.getElem?_set_ne (by decide)];exact h3) p v r_2 b_2 (by omega) eh eN ca.ok 139 [.pointer (some ⟨b0_0,0,none⟩)] (atC b0_0 b) (by kernel_rfl) (fun r bad bx hr=>qz b rb b0_0 bx p v r bad hr)) ?_)
 rintro _ _ _ ⟨l_inlines,r_3,b_3,hq_3,rfl,rfl⟩;have hl_3:=dr (by omega) hq_3
 refine bST rfl ?_
 refine BN (an (ai (DR [5] 6 (VD 0 0 tk89 8 rfl rfl rfl rfl rfl (VM 1 rfl rfl (VN 2 rfl rfl rfl (VO 3 4 rfl rfl rfl (bV 4 rfl rfl (cq (l:=[.tmp 2]) rfl) ?_))))))))
 refine VE 5 rfl rfl (EC [0] [0,1,2] rfl (sD b rb bt T ((((cs.set 19 l_marks.val).set 20 l_lines.val).set 21 l_ends.val).set 22 l_inlines.val) 23 (by rw [List.getElem?_set_ne (by decide),List.getElem?_set_ne (by decide),List.getElem?_set_ne (by decide),List.getElem?_set_ne (by decide)];exact h4) p v r_3 b_3 (by omega) jZ ji eE.ok 141 [.pointer (some ⟨b0_0,0,none⟩)] (atC b0_0 b) (by kernel_rfl) (fun r bad bx hr=>vR b rb b0_0 bx p v r bad hr)) ?_)
 rintro _ _ _ ⟨l_vars,r_4,b_4,hq_4,rfl,rfl⟩;have hl_4:=dr (by omega) hq_4
 refine bST rfl ?_
 refine BN (an (DR [5] 6 (VD 0 0 tk89 10 rfl rfl rfl rfl rfl (VM 1 rfl rfl (VN 2 rfl rfl rfl (VO 3 5 rfl rfl rfl (bV 4 rfl rfl (cq (l:=[.tmp 2]) rfl) ?_)))))))
 refine VE 5 rfl rfl (EC [0] [0,1,2] rfl (pI b rb bt T (((((cs.set 19 l_marks.val).set 20 l_lines.val).set 21 l_ends.val).set 22 l_inlines.val).set 23 l_vars.val) 24 (by rw [List.getElem?_set_ne (by decide),List.getElem?_set_ne (by decide),List.getElem?_set_ne (by decide),List.getElem?_set_ne (by decide),List.getElem?_set_ne (by decide)];exact h5) p v r_4 b_4 (by omega) fD fP (fun _:cG=>Fa True) 143 [.pointer (some ⟨b0_0,0,none⟩)] (atC b0_0 b) (by kernel_rfl) (fun r bad bx hr=>ss b rb b0_0 bx p v r bad hr)) ?_)
 rintro _ _ _ ⟨l_depths,r_5,b_5,hq_5,rfl,rfl⟩;have hl_5:=dr (by omega) hq_5
 refine bST rfl ?_
 refine BN ?_
 refine rk [2,1,4,3,6,5,8,7,10,9,12,11] [0,1,2] rfl Tryz.results62 ?_ (.inl rfl)
 refine ⟨⟨l_marks,l_lines,l_ends,l_inlines,l_vars,l_depths⟩,r_5,b_5,?_,rfl,rfl⟩
 unfold ft
 simp only [ey,dT]
 rw [show (dE gq).zero=[] from rfl,hq_0]
 dsimp only
 rw [show (dE gp).zero=[] from rfl,hq_1]
 dsimp only
 rw [show (dE gX).zero=[] from rfl,hq_2]
 dsimp only
 rw [show (dE eh).zero=[] from rfl,hq_3]
 dsimp only
 rw [show (dE jZ).zero=[] from rfl,hq_4]
 dsimp only
 rw [show (dE fD).zero=[] from rfl,hq_5]
theorem ah{a b:List UInt8}{N:Nat}(h:(a++b).length≤N):a.length≤N∧b.length≤N:=by rw [List.length_append] at h;omega
theorem dh{s:ByteArray}(h:(ak.enc s).length≤1000000000):s.size≤4611686018427387904:=by rw [gN] at h;omega
set_option maxHeartbeats 4000000 in
theorem yl(x:aD)(hx:cY x)(b bt:Nat)(p v:Value)(hp:p=.pointer none∨p=.pointer (some ⟨b,0,none⟩))(out:List UInt8)(hl:(out++bN.enc (bA x)).length≤1000000000) :
   Con Tryz.prog 17 [.pointer (some ⟨b,0,none⟩),.pointer (some ⟨bt,0,none⟩)] [x.ok] [bR b p v (.pointer none),aN v 5 1 (out.map cE),Box bt 39 x.vs]
     fun _ ps hp'=>ps=[]∧∃ p' v',(p'=.pointer none∨p'=.pointer (some ⟨b,0,none⟩))∧hp'=[bR b p' v' (.pointer none),aN v' 5 1 ((out++bN.enc (bA x)).map cE),Box bt 39 x.vs]:=by
 have he:bN.enc (bA x)=ak.enc x.name++(bO.enc x.lib++(aj.enc x.code++(aj.enc x.data++(aj.enc x.zero++(ak.enc x.bytes++(ak.enc x.tls++(aj.enc x.block++((aQ x.nodes.l.length++aO cV x.nodes.l)++((aQ x.exports.l.length++aO cL x.exports.l)++((aQ x.imports.l.length++aO dL x.imports.l)++((aQ x.slots.l.length++aO aj.enc x.slots.l)++((aQ x.stubs.l.length++aO aj.enc x.stubs.l)++((aQ x.dyns.l.length++aO j9 x.dyns.l)++((aQ x.inits.l.length++aO aj.enc x.inits.l)++((aQ x.lasts.l.length++aO aj.enc x.lasts.l)++(aj.enc x.entry++((aQ x.needs.l.length++aO ak.enc x.needs.l)++((aQ x.versions.l.length++aO cm x.versions.l)++(ft.enc (eV x.info)++((aQ x.changes.l.length++aO gY x.changes.l))))))))))))))))))))):=by
   rw [← ct eD eO x.nodes.l,← ct eA eK x.exports.l,← ct eC eM x.imports.l,← ct lY jP x.dyns.l,← ct cX dw x.versions.l,← ct ix gI x.changes.l];rfl
 rw [he] at hl ⊢
 obtain ⟨hi_code,hi_data,hi_zero,hi_block,hi_entry,hl_nodes,hl_exports,hl_imports,hl_slots,hl_stubs,hl_dyns,hl_inits,hl_lasts,hinf,hl_changes⟩:=hx
 have e0:bz ak unT x.vs [0]=ak.enc x.name++([]):=rfl
 have e2:bz aj unI x.vs [2,3,4]=aj.enc x.code++(aj.enc x.data++(aj.enc x.zero++([]))):=rfl
 have e3:bz ak unT x.vs [5,6]=ak.enc x.bytes++(ak.enc x.tls++([])):=rfl
 have e4:bz aj unI x.vs [7]=aj.enc x.block++([]):=rfl
 have e13:bz aj unI x.vs [16]=aj.enc x.entry++([]):=rfl
 have hall:((((((((((((((((((out++bz ak unT x.vs [0])++bO.enc x.lib)++bz aj unI x.vs [2,3,4])++bz ak unT x.vs [5,6])++bz aj unI x.vs [7])++(aQ x.nodes.l.length++aO cV x.nodes.l))++(aQ x.exports.l.length++aO cL x.exports.l))++(aQ x.imports.l.length++aO dL x.imports.l))++(aQ x.slots.l.length++aO aj.enc x.slots.l))++(aQ x.stubs.l.length++aO aj.enc x.stubs.l))++(aQ x.dyns.l.length++aO j9 x.dyns.l))++(aQ x.inits.l.length++aO aj.enc x.inits.l))++(aQ x.lasts.l.length++aO aj.enc x.lasts.l))++bz aj unI x.vs [16])++(aQ x.needs.l.length++aO ak.enc x.needs.l))++(aQ x.versions.l.length++aO cm x.versions.l))++ft.enc (eV x.info))++(aQ x.changes.l.length++aO gY x.changes.l))=out++(ak.enc x.name++(bO.enc x.lib++(aj.enc x.code++(aj.enc x.data++(aj.enc x.zero++(ak.enc x.bytes++(ak.enc x.tls++(aj.enc x.block++((aQ x.nodes.l.length++aO cV x.nodes.l)++((aQ x.exports.l.length++aO cL x.exports.l)++((aQ x.imports.l.length++aO dL x.imports.l)++((aQ x.slots.l.length++aO aj.enc x.slots.l)++((aQ x.stubs.l.length++aO aj.enc x.stubs.l)++((aQ x.dyns.l.length++aO j9 x.dyns.l)++((aQ x.inits.l.length++aO aj.enc x.inits.l)++((aQ x.lasts.l.length++aO aj.enc x.lasts.l)++(aj.enc x.entry++((aQ x.needs.l.length++aO ak.enc x.needs.l)++((aQ x.versions.l.length++aO cm x.versions.l)++(ft.enc (eV x.info)++((aQ x.changes.l.length++aO gY x.changes.l)))))))))))))))))))))):=by simp only [e0,e2,e3,e4,e13,List.append_assoc,List.append_nil,List.nil_append,List.cons_append]
 have b_17:((((((((((((((((((out++bz ak unT x.vs [0])++bO.enc x.lib)++bz aj unI x.vs [2,3,4])++bz ak unT x.vs [5,6])++bz aj unI x.vs [7])++(aQ x.nodes.l.length++aO cV x.nodes.l))++(aQ x.exports.l.length++aO cL x.exports.l))++(aQ x.imports.l.length++aO dL x.imports.l))++(aQ x.slots.l.length++aO aj.enc x.slots.l))++(aQ x.stubs.l.length++aO aj.enc x.stubs.l))++(aQ x.dyns.l.length++aO j9 x.dyns.l))++(aQ x.inits.l.length++aO aj.enc x.inits.l))++(aQ x.lasts.l.length++aO aj.enc x.lasts.l))++bz aj unI x.vs [16])++(aQ x.needs.l.length++aO ak.enc x.needs.l))++(aQ x.versions.l.length++aO cm x.versions.l))++ft.enc (eV x.info))++(aQ x.changes.l.length++aO gY x.changes.l)).length≤1000000000:=by rw [hall];exact hl
 have b_16:=(ah b_17).1
 have b_15:=(ah b_16).1
 have b_14:=(ah b_15).1
 have b_13:=(ah b_14).1
 have b_12:=(ah b_13).1
 have b_11:=(ah b_12).1
 have b_10:=(ah b_11).1
 have b_9:=(ah b_10).1
 have b_8:=(ah b_9).1
 have b_7:=(ah b_8).1
 have b_6:=(ah b_7).1
 have b_5:=(ah b_6).1
 have b_4:=(ah b_5).1
 have b_3:=(ah b_4).1
 have b_2:=(ah b_3).1
 have b_1:=(ah b_2).1
 have b_0:=(ah b_1).1
 have q_0:=ah (ah hl).2
 have q_1:=ah q_0.2
 have q_2:=ah q_1.2
 have q_3:=ah q_2.2
 have q_4:=ah q_3.2
 have q_5:=ah q_4.2
 have q_6:=ah q_5.2
 have q_7:=ah q_6.2
 have q_8:=ah q_7.2
 have q_9:=ah q_8.2
 have q_10:=ah q_9.2
 have q_11:=ah q_10.2
 have q_12:=ah q_11.2
 have q_13:=ah q_12.2
 have q_14:=ah q_13.2
 have q_15:=ah q_14.2
 have q_16:=ah q_15.2
 have q_17:=ah q_16.2
 have q_18:=ah q_17.2
 have q_19:=ah q_18.2
 refine EN2 Tryz.func17 rfl (aZ _ (aD.f_nodes (.of (aH 0 rfl))) (aZ _ (aD.f_exports (.of (aH 1 rfl))) (aZ _ (aD.f_imports (.of (aH 2 rfl))) (aZ _ (aD.f_slots (.of (aH 3 rfl))) (aZ _ (aD.f_stubs (.of (aH 4 rfl))) (aZ _ (aD.f_dyns (.of (aH 5 rfl))) (aZ _ (aD.f_inits (.of (aH 6 rfl))) (aZ _ (aD.f_lasts (.of (aH 7 rfl))) (aZ _ (aD.f_needs (.of (aH 8 rfl))) (aZ _ (aD.f_versions (.of (aH 9 rfl))) (aZ _ (aD.f_changes (.of (aH 10 rfl))) (aSR (LT rfl (cx rfl rfl rfl (fun b0_0 => ?_)))))))))))))))
 refine aHN ?_
 refine aNs (bT 3 rfl rfl ?_)
 show awp _ _ _ _ ⟨_,At _ 0 _::_,_⟩
 refine aa (aU rfl (cq (l:=[.tmp 2]) rfl) (aA rfl (aNn (aSR (aU rfl (cq (l:=[.tmp 2]) rfl) (LT rfl (bJ (zs:=[.nilFunc]) (by kernel_rfl) rfl (fun b2_1=>(aHN ?_)))))))))
 refine aW rfl (ba 4 tk95 rfl rfl rfl rfl (aHK ?_))
 refine aNs (bT 4 rfl rfl ?_)
 show awp _ _ _ _ ⟨_,atT b2_1 b0_0::_,_⟩
 refine DR [5] 6 (VD 0 0 tk89 1 rfl rfl rfl rfl rfl (VM 1 rfl rfl (VN 2 rfl rfl rfl (VO 3 0 rfl rfl rfl (VB (zs:=[.pointer none]) 4 rfl el215 rfl rfl rfl rfl (.more rfl (.v rfl .nil) .nil) rfl rfl (fun v3_4=>(VE 5 rfl rfl (EC [14] [0,1,2] rfl (dR b bt 39 x.vs p v hp (out) ⟨v3_4,1,[0]⟩ (aJ x.name (dh q_0.1) rfl bD) b_0) ?_))))))))
 rintro _ _ _ ⟨rfl,p_0,v_0,hp_0,rfl⟩
 refine bST rfl ?_
 refine BN (an (ai (DR [4] 5 (VD 0 0 tk89 2 rfl rfl rfl rfl rfl (VM 1 rfl rfl (VN 2 rfl rfl rfl (VO 3 1 rfl rfl rfl (VE 4 rfl rfl (EC [] [0,1,2] rfl (lB x.lib b bt 39 x.vs 1 rfl p_0 v_0 hp_0 (out++bz ak unT x.vs [0]) b_1) ?_)))))))))
 rintro _ _ _ ⟨rfl,p_1,v_1,hp_1,rfl⟩
 refine bST rfl ?_
 refine BN (an (ai (DR [11] 12 (VD 0 0 tk89 2 rfl rfl rfl rfl rfl (VM 1 rfl rfl (VN 2 rfl rfl rfl (VO 3 2 rfl rfl rfl (VM 4 rfl rfl (VN 5 rfl rfl rfl (VO 6 3 rfl rfl rfl (VM 7 rfl rfl (VN 8 rfl rfl rfl (VO 9 4 rfl rfl rfl (VB (zs:=[.pointer none]) 10 rfl el214 rfl rfl rfl rfl (.more rfl (.v rfl .nil) (.more rfl (.v rfl .nil) (.more rfl (.v rfl .nil) .nil))) rfl rfl (fun v5_10 => ?_)))))))))))))))
 refine VE 11 rfl rfl (EC [15] [0,1,2] rfl (cS b bt 39 x.vs p_1 v_1 hp_1 ((out++bz ak unT x.vs [0])++bO.enc x.lib) ⟨v5_10,3,[2,3,4]⟩ (aJ x.code hi_code rfl (aJ x.data hi_data rfl (aJ x.zero hi_zero rfl bD))) b_2) ?_)
 rintro _ _ _ ⟨rfl,p_2,v_2,hp_2,rfl⟩
 refine bST rfl ?_
 refine BN (an (ai (DR [8] 9 (VD 0 0 tk89 3 rfl rfl rfl rfl rfl (VM 1 rfl rfl (VN 2 rfl rfl rfl (VO 3 5 rfl rfl rfl (VM 4 rfl rfl (VN 5 rfl rfl rfl (VO 6 6 rfl rfl rfl (VB (zs:=[.pointer none]) 7 rfl el215 rfl rfl rfl rfl (.more rfl (.v rfl .nil) (.more rfl (.v rfl .nil) .nil)) rfl rfl (fun v6_7=>(VE 8 rfl rfl (EC [16] [0,1,2] rfl (dR b bt 39 x.vs p_2 v_2 hp_2 (((out++bz ak unT x.vs [0])++bO.enc x.lib)++bz aj unI x.vs [2,3,4]) ⟨v6_7,2,[5,6]⟩ (aJ x.bytes (dh q_5.1) rfl (aJ x.tls (dh q_6.1) rfl bD)) b_3) ?_))))))))))))))
 rintro _ _ _ ⟨rfl,p_3,v_3,hp_3,rfl⟩
 refine bST rfl ?_
 refine BN (an (ai (DR [5] 6 (VD 0 0 tk89 4 rfl rfl rfl rfl rfl (VM 1 rfl rfl (VN 2 rfl rfl rfl (VO 3 7 rfl rfl rfl (VB (zs:=[.pointer none]) 4 rfl el214 rfl rfl rfl rfl (.more rfl (.v rfl .nil) .nil) rfl rfl (fun v7_4=>(VE 5 rfl rfl (EC [17] [0,1,2] rfl (cS b bt 39 x.vs p_3 v_3 hp_3 ((((out++bz ak unT x.vs [0])++bO.enc x.lib)++bz aj unI x.vs [2,3,4])++bz ak unT x.vs [5,6]) ⟨v7_4,1,[7]⟩ (aJ x.block hi_block rfl bD) b_4) ?_)))))))))))
 rintro _ _ _ ⟨rfl,p_4,v_4,hp_4,rfl⟩
 refine bST rfl ?_
 refine BN (an (ai (DR [5] 6 (VD 0 0 tk89 5 rfl rfl rfl rfl rfl (VM 1 rfl rfl (VN 2 rfl rfl rfl (VO 3 8 rfl rfl rfl (bV 4 rfl rfl (cq (l:=[.tmp 2]) rfl) (VE 5 rfl rfl (EC [1,12] [0,1,2] rfl (oB b bt 39 x.vs 8 x.nodes rfl p_4 v_4 hp_4 (((((out++bz ak unT x.vs [0])++bO.enc x.lib)++bz aj unI x.vs [2,3,4])++bz ak unT x.vs [5,6])++bz aj unI x.vs [7]) cV b_5 51 [.pointer (some ⟨b0_0,0,none⟩)] (atC b0_0 b) (by kernel_rfl) (fun y p v out bx hy hp hl=>qI b b0_0 bx y (hl_nodes y hy) p v hp out hl)) ?_))))))))))
 rintro _ _ _ ⟨rfl,p_5,v_5,hp_5,rfl⟩
 refine bST rfl ?_
 refine BN (an (ai (DR [5] 6 (VD 0 0 tk89 5 rfl rfl rfl rfl rfl (VM 1 rfl rfl (VN 2 rfl rfl rfl (VO 3 9 rfl rfl rfl (bV 4 rfl rfl (cq (l:=[.tmp 2]) rfl) (VE 5 rfl rfl (EC [2,12] [0,1,2] rfl (oy b bt 39 x.vs 9 x.exports rfl p_5 v_5 hp_5 ((((((out++bz ak unT x.vs [0])++bO.enc x.lib)++bz aj unI x.vs [2,3,4])++bz ak unT x.vs [5,6])++bz aj unI x.vs [7])++(aQ x.nodes.l.length++aO cV x.nodes.l)) cL b_6 53 [.pointer (some ⟨b0_0,0,none⟩)] (atC b0_0 b) (by kernel_rfl) (fun y p v out bx hy hp hl=>qF b b0_0 bx y (hl_exports y hy) p v hp out hl)) ?_))))))))))
 rintro _ _ _ ⟨rfl,p_6,v_6,hp_6,rfl⟩
 refine bST rfl ?_
 refine BN (an (ai (DR [5] 6 (VD 0 0 tk89 5 rfl rfl rfl rfl rfl (VM 1 rfl rfl (VN 2 rfl rfl rfl (VO 3 10 rfl rfl rfl (bV 4 rfl rfl (cq (l:=[.tmp 2]) rfl) (VE 5 rfl rfl (EC [3,12] [0,1,2] rfl (oz b bt 39 x.vs 10 x.imports rfl p_6 v_6 hp_6 (((((((out++bz ak unT x.vs [0])++bO.enc x.lib)++bz aj unI x.vs [2,3,4])++bz ak unT x.vs [5,6])++bz aj unI x.vs [7])++(aQ x.nodes.l.length++aO cV x.nodes.l))++(aQ x.exports.l.length++aO cL x.exports.l)) dL b_7 55 [.pointer (some ⟨b0_0,0,none⟩)] (atC b0_0 b) (by kernel_rfl) (fun y p v out bx hy hp hl=>qG b b0_0 bx y (hl_imports y hy) p v hp out hl)) ?_))))))))))
 rintro _ _ _ ⟨rfl,p_7,v_7,hp_7,rfl⟩
 refine bST rfl ?_
 refine BN (an (ai (DR [5] 6 (VD 0 0 tk89 5 rfl rfl rfl rfl rfl (VM 1 rfl rfl (VN 2 rfl rfl rfl (VO 3 11 rfl rfl rfl (VM 4 rfl rfl (VE 5 rfl rfl (EC [4,12] [0,1,2] rfl (gT b bt 39 x.vs 11 x.slots rfl p_7 v_7 hp_7 ((((((((out++bz ak unT x.vs [0])++bO.enc x.lib)++bz aj unI x.vs [2,3,4])++bz ak unT x.vs [5,6])++bz aj unI x.vs [7])++(aQ x.nodes.l.length++aO cV x.nodes.l))++(aQ x.exports.l.length++aO cL x.exports.l))++(aQ x.imports.l.length++aO dL x.imports.l)) aj.enc b_8 45 [.pointer (some ⟨b0_0,0,none⟩)] (atC b0_0 b) (by kernel_rfl) (fun y p v out bx hy hp hl=>jc b b0_0 bx y (hl_slots y hy) p v hp out hl)) ?_))))))))))
 rintro _ _ _ ⟨rfl,p_8,v_8,hp_8,rfl⟩
 refine bST rfl ?_
 refine BN (an (ai (DR [5] 6 (VD 0 0 tk89 5 rfl rfl rfl rfl rfl (VM 1 rfl rfl (VN 2 rfl rfl rfl (VO 3 12 rfl rfl rfl (VM 4 rfl rfl (VE 5 rfl rfl (EC [5,12] [0,1,2] rfl (gT b bt 39 x.vs 12 x.stubs rfl p_8 v_8 hp_8 (((((((((out++bz ak unT x.vs [0])++bO.enc x.lib)++bz aj unI x.vs [2,3,4])++bz ak unT x.vs [5,6])++bz aj unI x.vs [7])++(aQ x.nodes.l.length++aO cV x.nodes.l))++(aQ x.exports.l.length++aO cL x.exports.l))++(aQ x.imports.l.length++aO dL x.imports.l))++(aQ x.slots.l.length++aO aj.enc x.slots.l)) aj.enc b_9 45 [.pointer (some ⟨b0_0,0,none⟩)] (atC b0_0 b) (by kernel_rfl) (fun y p v out bx hy hp hl=>jc b b0_0 bx y (hl_stubs y hy) p v hp out hl)) ?_))))))))))
 rintro _ _ _ ⟨rfl,p_9,v_9,hp_9,rfl⟩
 refine bST rfl ?_
 refine BN (an (ai (DR [5] 6 (VD 0 0 tk89 5 rfl rfl rfl rfl rfl (VM 1 rfl rfl (VN 2 rfl rfl rfl (VO 3 13 rfl rfl rfl (bV 4 rfl rfl (cq (l:=[.tmp 2]) rfl) (VE 5 rfl rfl (EC [6,12] [0,1,2] rfl (sE b bt 39 x.vs 13 x.dyns rfl p_9 v_9 hp_9 ((((((((((out++bz ak unT x.vs [0])++bO.enc x.lib)++bz aj unI x.vs [2,3,4])++bz ak unT x.vs [5,6])++bz aj unI x.vs [7])++(aQ x.nodes.l.length++aO cV x.nodes.l))++(aQ x.exports.l.length++aO cL x.exports.l))++(aQ x.imports.l.length++aO dL x.imports.l))++(aQ x.slots.l.length++aO aj.enc x.slots.l))++(aQ x.stubs.l.length++aO aj.enc x.stubs.l)) j9 b_10 58 [.pointer (some ⟨b0_0,0,none⟩)] (atC b0_0 b) (by kernel_rfl) (fun y p v out bx hy hp hl=>vU b b0_0 bx y (hl_dyns y hy) p v hp out hl)) ?_))))))))))
 rintro _ _ _ ⟨rfl,p_10,v_10,hp_10,rfl⟩
 refine bST rfl ?_
 refine BN (an (ai (DR [5] 6 (VD 0 0 tk89 5 rfl rfl rfl rfl rfl (VM 1 rfl rfl (VN 2 rfl rfl rfl (VO 3 14 rfl rfl rfl (VM 4 rfl rfl (VE 5 rfl rfl (EC [7,12] [0,1,2] rfl (gT b bt 39 x.vs 14 x.inits rfl p_10 v_10 hp_10 (((((((((((out++bz ak unT x.vs [0])++bO.enc x.lib)++bz aj unI x.vs [2,3,4])++bz ak unT x.vs [5,6])++bz aj unI x.vs [7])++(aQ x.nodes.l.length++aO cV x.nodes.l))++(aQ x.exports.l.length++aO cL x.exports.l))++(aQ x.imports.l.length++aO dL x.imports.l))++(aQ x.slots.l.length++aO aj.enc x.slots.l))++(aQ x.stubs.l.length++aO aj.enc x.stubs.l))++(aQ x.dyns.l.length++aO j9 x.dyns.l)) aj.enc b_11 45 [.pointer (some ⟨b0_0,0,none⟩)] (atC b0_0 b) (by kernel_rfl) (fun y p v out bx hy hp hl=>jc b b0_0 bx y (hl_inits y hy) p v hp out hl)) ?_))))))))))
 rintro _ _ _ ⟨rfl,p_11,v_11,hp_11,rfl⟩
 refine bST rfl ?_
 refine BN (an (ai (DR [5] 6 (VD 0 0 tk89 5 rfl rfl rfl rfl rfl (VM 1 rfl rfl (VN 2 rfl rfl rfl (VO 3 15 rfl rfl rfl (VM 4 rfl rfl (VE 5 rfl rfl (EC [8,12] [0,1,2] rfl (gT b bt 39 x.vs 15 x.lasts rfl p_11 v_11 hp_11 ((((((((((((out++bz ak unT x.vs [0])++bO.enc x.lib)++bz aj unI x.vs [2,3,4])++bz ak unT x.vs [5,6])++bz aj unI x.vs [7])++(aQ x.nodes.l.length++aO cV x.nodes.l))++(aQ x.exports.l.length++aO cL x.exports.l))++(aQ x.imports.l.length++aO dL x.imports.l))++(aQ x.slots.l.length++aO aj.enc x.slots.l))++(aQ x.stubs.l.length++aO aj.enc x.stubs.l))++(aQ x.dyns.l.length++aO j9 x.dyns.l))++(aQ x.inits.l.length++aO aj.enc x.inits.l)) aj.enc b_12 45 [.pointer (some ⟨b0_0,0,none⟩)] (atC b0_0 b) (by kernel_rfl) (fun y p v out bx hy hp hl=>jc b b0_0 bx y (hl_lasts y hy) p v hp out hl)) ?_))))))))))
 rintro _ _ _ ⟨rfl,p_12,v_12,hp_12,rfl⟩
 refine bST rfl ?_
 refine BN (an (ai (DR [5] 6 (VD 0 0 tk89 5 rfl rfl rfl rfl rfl (VM 1 rfl rfl (VN 2 rfl rfl rfl (VO 3 16 rfl rfl rfl (VB (zs:=[.pointer none]) 4 rfl el214 rfl rfl rfl rfl (.more rfl (.v rfl .nil) .nil) rfl rfl (fun v16_4=>(VE 5 rfl rfl (EC [18] [0,1,2] rfl (cS b bt 39 x.vs p_12 v_12 hp_12 (((((((((((((out++bz ak unT x.vs [0])++bO.enc x.lib)++bz aj unI x.vs [2,3,4])++bz ak unT x.vs [5,6])++bz aj unI x.vs [7])++(aQ x.nodes.l.length++aO cV x.nodes.l))++(aQ x.exports.l.length++aO cL x.exports.l))++(aQ x.imports.l.length++aO dL x.imports.l))++(aQ x.slots.l.length++aO aj.enc x.slots.l))++(aQ x.stubs.l.length++aO aj.enc x.stubs.l))++(aQ x.dyns.l.length++aO j9 x.dyns.l))++(aQ x.inits.l.length++aO aj.enc x.inits.l))++(aQ x.lasts.l.length++aO aj.enc x.lasts.l)) ⟨v16_4,1,[16]⟩ (aJ x.entry hi_entry rfl bD) b_13) ?_)))))))))))
 rintro _ _ _ ⟨rfl,p_13,v_13,hp_13,rfl⟩
 refine bST rfl ?_
 refine BN (an (ai (DR [5] 6 (VD 0 0 tk89 6 rfl rfl rfl rfl rfl (VM 1 rfl rfl (VN 2 rfl rfl rfl (VO 3 17 rfl rfl rfl (VD 4 0 tk95 5 rfl rfl rfl rfl rfl (VE 5 rfl rfl (EC [9,12] [0,1,2] rfl (jA b bt 39 x.vs 17 x.needs rfl p_13 v_13 hp_13 ((((((((((((((out++bz ak unT x.vs [0])++bO.enc x.lib)++bz aj unI x.vs [2,3,4])++bz ak unT x.vs [5,6])++bz aj unI x.vs [7])++(aQ x.nodes.l.length++aO cV x.nodes.l))++(aQ x.exports.l.length++aO cL x.exports.l))++(aQ x.imports.l.length++aO dL x.imports.l))++(aQ x.slots.l.length++aO aj.enc x.slots.l))++(aQ x.stubs.l.length++aO aj.enc x.stubs.l))++(aQ x.dyns.l.length++aO j9 x.dyns.l))++(aQ x.inits.l.length++aO aj.enc x.inits.l))++(aQ x.lasts.l.length++aO aj.enc x.lasts.l))++bz aj unI x.vs [16]) ak.enc b_14 47 [.pointer (some ⟨b0_0,0,none⟩)] (atC b0_0 b) (by kernel_rfl) (fun y p v out bx _ hp hl=>mU b b0_0 bx y p v hp out hl)) ?_))))))))))
 rintro _ _ _ ⟨rfl,p_14,v_14,hp_14,rfl⟩
 refine bST rfl ?_
 refine BN (an (ai (aZ (cF (atC b0_0 b) (cF (atT b2_1 b0_0) (b6 aF.ok x.versions.l))) (Ent.mk2 (.of (aH 6 rfl)) (Ent.mk2 (.of (aH 5 rfl)) (aD.f_versionsA (.of (aH 18 rfl))))) (DR [5] 6 (VD 0 0 tk89 7 rfl rfl rfl rfl rfl (VM 1 rfl rfl (VN 2 rfl rfl rfl (VO 3 18 rfl rfl rfl (bV 4 rfl rfl (cq (l:=[.tmp 2,.tmp 5]) rfl) (VE 5 rfl rfl (EC [10,19] [0,1,2] rfl (kK b bt 39 x.vs 18 x.versions rfl p_14 v_14 hp_14 (((((((((((((((out++bz ak unT x.vs [0])++bO.enc x.lib)++bz aj unI x.vs [2,3,4])++bz ak unT x.vs [5,6])++bz aj unI x.vs [7])++(aQ x.nodes.l.length++aO cV x.nodes.l))++(aQ x.exports.l.length++aO cL x.exports.l))++(aQ x.imports.l.length++aO dL x.imports.l))++(aQ x.slots.l.length++aO aj.enc x.slots.l))++(aQ x.stubs.l.length++aO aj.enc x.stubs.l))++(aQ x.dyns.l.length++aO j9 x.dyns.l))++(aQ x.inits.l.length++aO aj.enc x.inits.l))++(aQ x.lasts.l.length++aO aj.enc x.lasts.l))++bz aj unI x.vs [16])++(aQ x.needs.l.length++aO ak.enc x.needs.l)) cm b_15 61 [.pointer (some ⟨b0_0,0,none⟩),.pointer (some ⟨b2_1,0,none⟩)] (cF (atC b0_0 b) (cF (atT b2_1 b0_0) (b6 aF.ok x.versions.l))) (by kernel_rfl) (fun y p v out bx hy hp hl=>(mi b b0_0 b2_1 bx y p v hp out hl).pre1 (Ent.mk2 (Ent.left (.of (aH 0 rfl))) (Ent.mk2 (Ent.left (Ent.right (.of (aH 0 rfl)))) ((Ent.right (Ent.right (.of (aH 0 rfl)))).allm hy))))) ?_)))))))))))
 rintro _ _ _ ⟨rfl,p_15,v_15,hp_15,rfl⟩
 refine bST rfl ?_
 refine BN (an (ai (DR [4] 5 (VD 0 0 tk89 7 rfl rfl rfl rfl rfl (VM 1 rfl rfl (VN 2 rfl rfl rfl (VO 3 19 rfl rfl rfl (VE 4 rfl rfl (EC [0] [0,1,2] rfl (aa4 x hinf b bt p_15 v_15 hp_15 ((((((((((((((((out++bz ak unT x.vs [0])++bO.enc x.lib)++bz aj unI x.vs [2,3,4])++bz ak unT x.vs [5,6])++bz aj unI x.vs [7])++(aQ x.nodes.l.length++aO cV x.nodes.l))++(aQ x.exports.l.length++aO cL x.exports.l))++(aQ x.imports.l.length++aO dL x.imports.l))++(aQ x.slots.l.length++aO aj.enc x.slots.l))++(aQ x.stubs.l.length++aO aj.enc x.stubs.l))++(aQ x.dyns.l.length++aO j9 x.dyns.l))++(aQ x.inits.l.length++aO aj.enc x.inits.l))++(aQ x.lasts.l.length++aO aj.enc x.lasts.l))++bz aj unI x.vs [16])++(aQ x.needs.l.length++aO ak.enc x.needs.l))++(aQ x.versions.l.length++aO cm x.versions.l)) b_16) ?_)))))))))
 rintro _ _ _ ⟨rfl,p_16,v_16,hp_16,rfl⟩
 refine bST rfl ?_
 refine BN (an (aZ (cF (atC b0_0 b) (b6 cr.ok x.changes.l)) (Ent.mk2 (.of (aH 7 rfl)) (aD.f_changesA (.of (aH 19 rfl)))) (DR [5] 6 (VD 0 0 tk89 8 rfl rfl rfl rfl rfl (VM 1 rfl rfl (VN 2 rfl rfl rfl (VO 3 25 rfl rfl rfl (bV 4 rfl rfl (cq (l:=[.tmp 2]) rfl) (VE 5 rfl rfl (EC [11,20] [0,1,2] rfl (qS b bt 39 x.vs 25 x.changes rfl p_16 v_16 hp_16 (((((((((((((((((out++bz ak unT x.vs [0])++bO.enc x.lib)++bz aj unI x.vs [2,3,4])++bz ak unT x.vs [5,6])++bz aj unI x.vs [7])++(aQ x.nodes.l.length++aO cV x.nodes.l))++(aQ x.exports.l.length++aO cL x.exports.l))++(aQ x.imports.l.length++aO dL x.imports.l))++(aQ x.slots.l.length++aO aj.enc x.slots.l))++(aQ x.stubs.l.length++aO aj.enc x.stubs.l))++(aQ x.dyns.l.length++aO j9 x.dyns.l))++(aQ x.inits.l.length++aO aj.enc x.inits.l))++(aQ x.lasts.l.length++aO aj.enc x.lasts.l))++bz aj unI x.vs [16])++(aQ x.needs.l.length++aO ak.enc x.needs.l))++(aQ x.versions.l.length++aO cm x.versions.l))++ft.enc (eV x.info)) gY b_17 64 [.pointer (some ⟨b0_0,0,none⟩)] (cF (atC b0_0 b) (b6 cr.ok x.changes.l)) (by kernel_rfl) (fun y p v out bx hy hp hl=>(uo b b0_0 bx y (hl_changes y hy) p v hp out hl).pre1 (Ent.mk2 (Ent.left (.of (aH 0 rfl))) ((Ent.right (.of (aH 0 rfl))).allm hy)))) ?_))))))))))
 rintro _ _ _ ⟨rfl,p_17,v_17,hp_17,rfl⟩
 refine bST rfl ?_
 refine BN (FZ0 [0,1,2] Tryz.results17 ?_)
 rw [← hall];exact ⟨rfl,p_17,v_17,hp_17,rfl⟩
end Go.Proofs.YtebnelfdimiifaaGreatDoor

namespace Go.Proofs.YtebnelfdimiifaaGreatDoor
open Go.RowKit Go.Lp Go.Sy Go.Lv
theorem okL{α τ:Type}{A:Cod τ}{pu:α→τ}{l:List α}(hA:∀ y∈l,(A.enc (pu y)).length≤1000000000→A.ok (pu y))(hb:((dE A).enc (l.map pu)).length≤1000000000):(dE A).ok (l.map pu):=by
 have hb2:(ia A (l.map pu)).length≤1000000000:=(ah hb).2
 refine ⟨Nat.le_trans (Nat.le_trans (ac1 A _) hb2) (by decide),fun x hx => ?_⟩
 obtain ⟨y,hy,rfl⟩:=List.mem_map.1 hx
 refine hA y hy (Nat.le_trans ?_ hb2)
 obtain ⟨a,b,hab⟩:=List.append_of_mem hy
 rw [hab,List.map_append,List.map_cons,kP,oF,List.length_append,List.length_append];omega
theorem abH{α:Type}{A:Cod α}{l:List α}(hA:∀ y∈l,(A.enc y).length≤1000000000→A.ok y)(hb:((dE A).enc l).length≤1000000000):(dE A).ok l:=by
 have:=okL (A:=A) (pu:=fun y=>y) (l:=l) hA (by rw [List.map_id'] ; exact hb)
 rwa [List.map_id'] at this
theorem abO{x:bp}(h:iL x)(hl:(cV x).length≤1000000000):eD.ok (eO x):=⟨dh ((ah hl).1),dh ((ah (ah hl).2).1),h.1,h.2.1,h.2.2,dh ((ah (ah (ah (ah (ah (ah hl).2).2).2).2).2).1),dh ((ah (ah (ah (ah (ah (ah hl).2).2).2).2).2).2)⟩
theorem abL{x:bQ}(h:iK x)(hl:(cL x).length≤1000000000):eA.ok (eK x):=⟨dh ((ah hl).1),dh ((ah (ah hl).2).1),trivial,h.1,h.2.1,h.2.2⟩
theorem abM{x:b7}(h:jL x)(hl:(dL x).length≤1000000000):eC.ok (eM x):=⟨dh ((ah hl).1),dh ((ah (ah hl).2).1),h,trivial,trivial⟩
theorem af5{x:fx}(h:rE x)(hl:(j9 x).length≤1000000000):lY.ok (jP x):=⟨h.1,h.2.1,h.2.2.1,h.2.2.2⟩
theorem adC{x:dJ}(h:kU x)(hl:(afQ x).length≤1000000000):fo.ok (fu x):=⟨h.1,h.2.1,h.2.2⟩
theorem ae0{x:dI}(h:nq x)(hl:(iR x).length≤1000000000):gq.ok (gy x):=⟨dh ((ah hl).1),h.1,h.2.1,h.2.2⟩
theorem aeZ{x:dH}(h:nk x)(hl:(iQ x).length≤1000000000):gp.ok (gw x):=⟨h.1,h.2.1,dh ((ah (ah (ah hl).2).2).1),h.2.2⟩
theorem ae1{x:bK}(h:nr x)(hl:(jE x).length≤1000000000):gX.ok (gJ x):=⟨h.1,h.2⟩
theorem abN{x:ca}(h:jM x)(hl:(fM x).length≤1000000000):eh.ok (eN x):=⟨h.1,h.2.1,h.2.2.1,dh ((ah (ah (ah (ah hl).2).2).2).1),dh ((ah (ah (ah (ah (ah hl).2).2).2).2).1),h.2.2.2⟩
theorem af6{x:eE}(h:rF x)(hl:(pQ x).length≤1000000000):jZ.ok (ji x):=⟨h.1,h.2.1,h.2.2.1,dh ((ah (ah (ah (ah hl).2).2).2).1),h.2.2.2.1,h.2.2.2.2⟩
theorem adA{x:cG}(h:kT x)(hl:(jq x).length≤1000000000):fD.ok (fP x):=⟨h.1,h.2.1,h.2.2.1,h.2.2.2⟩
theorem sJ{x:aF}(hl:(cm x).length≤1000000000):cX.ok (dw x):=⟨dh ((ah hl).1),abH (fun _ _ h=>dh h) ((ah hl).2)⟩
theorem aeX{x:cr}(h:lO x)(hl:(gY x).length≤1000000000):ix.ok (gI x):=⟨dh ((ah hl).1),dh ((ah (ah hl).2).1),dh ((ah (ah (ah hl).2).2).1),okL (fun y hy hly=>adC (h.1 y hy) hly) ((ah (ah (ah (ah hl).2).2).2).1),h.2⟩
theorem aeY{x:cC}(h:lP x)(hl:(ft.enc (eV x)).length≤1000000000):ft.ok (eV x):=⟨okL (fun y hy hly=>ae0 (h.1 y hy) hly) ((ah hl).1),okL (fun y hy hly=>aeZ (h.2.1 y hy) hly) ((ah (ah hl).2).1),okL (fun y hy hly=>ae1 (h.2.2.1 y hy) hly) ((ah (ah (ah hl).2).2).1),okL (fun y hy hly=>abN (h.2.2.2.1 y hy) hly) ((ah (ah (ah (ah hl).2).2).2).1),okL (fun y hy hly=>af6 (h.2.2.2.2.1 y hy) hly) ((ah (ah (ah (ah (ah hl).2).2).2).2).1),okL (fun y hy hly=>adA (h.2.2.2.2.2 y hy) hly) ((ah (ah (ah (ah (ah hl).2).2).2).2).2)⟩
theorem adB{x:aD}(h:cY x)(hl:(bN.enc (bA x)).length≤1000000000):bN.ok (bA x):=⟨dh ((ah hl).1),trivial,h.1,h.2.1,h.2.2.1,dh ((ah (ah (ah (ah (ah (ah hl).2).2).2).2).2).1),dh ((ah (ah (ah (ah (ah (ah (ah hl).2).2).2).2).2).2).1),h.2.2.2.1,okL (fun y hy hly=>abO (h.2.2.2.2.2.1 y hy) hly) ((ah (ah (ah (ah (ah (ah (ah (ah (ah hl).2).2).2).2).2).2).2).2).1),okL (fun y hy hly=>abL (h.2.2.2.2.2.2.1 y hy) hly) ((ah (ah (ah (ah (ah (ah (ah (ah (ah (ah hl).2).2).2).2).2).2).2).2).2).1),okL (fun y hy hly=>abM (h.2.2.2.2.2.2.2.1 y hy) hly) ((ah (ah (ah (ah (ah (ah (ah (ah (ah (ah (ah hl).2).2).2).2).2).2).2).2).2).2).1),abH (fun y hy _=>h.2.2.2.2.2.2.2.2.1 y hy) ((ah (ah (ah (ah (ah (ah (ah (ah (ah (ah (ah (ah hl).2).2).2).2).2).2).2).2).2).2).2).1),abH (fun y hy _=>h.2.2.2.2.2.2.2.2.2.1 y hy) ((ah (ah (ah (ah (ah (ah (ah (ah (ah (ah (ah (ah (ah hl).2).2).2).2).2).2).2).2).2).2).2).2).1),okL (fun y hy hly=>af5 (h.2.2.2.2.2.2.2.2.2.2.1 y hy) hly) ((ah (ah (ah (ah (ah (ah (ah (ah (ah (ah (ah (ah (ah (ah hl).2).2).2).2).2).2).2).2).2).2).2).2).2).1),abH (fun y hy _=>h.2.2.2.2.2.2.2.2.2.2.2.1 y hy) ((ah (ah (ah (ah (ah (ah (ah (ah (ah (ah (ah (ah (ah (ah (ah hl).2).2).2).2).2).2).2).2).2).2).2).2).2).2).1),abH (fun y hy _=>h.2.2.2.2.2.2.2.2.2.2.2.2.1 y hy) ((ah (ah (ah (ah (ah (ah (ah (ah (ah (ah (ah (ah (ah (ah (ah (ah hl).2).2).2).2).2).2).2).2).2).2).2).2).2).2).2).1),h.2.2.2.2.1,abH (fun _ _ h=>dh h) ((ah (ah (ah (ah (ah (ah (ah (ah (ah (ah (ah (ah (ah (ah (ah (ah (ah (ah hl).2).2).2).2).2).2).2).2).2).2).2).2).2).2).2).2).2).1),okL (fun _ _ hly=>sJ hly) ((ah (ah (ah (ah (ah (ah (ah (ah (ah (ah (ah (ah (ah (ah (ah (ah (ah (ah (ah hl).2).2).2).2).2).2).2).2).2).2).2).2).2).2).2).2).2).2).1),aeY (h.2.2.2.2.2.2.2.2.2.2.2.2.2.1) ((ah (ah (ah (ah (ah (ah (ah (ah (ah (ah (ah (ah (ah (ah (ah (ah (ah (ah (ah (ah hl).2).2).2).2).2).2).2).2).2).2).2).2).2).2).2).2).2).2).2).1),okL (fun y hy hly=>aeX (h.2.2.2.2.2.2.2.2.2.2.2.2.2.2 y hy) hly) ((ah (ah (ah (ah (ah (ah (ah (ah (ah (ah (ah (ah (ah (ah (ah (ah (ah (ah (ah (ah hl).2).2).2).2).2).2).2).2).2).2).2).2).2).2).2).2).2).2).2).2)⟩
theorem abV{x y:aD}{r:List UInt8}{b:Bool}(h:cY x)(hl:(bN.enc (bA x)).length≤1000000000){t:List UInt8}(hr:bN.one (.R (bN.enc (bA x)++t) false) bN.zero=(.R r b,bA y)):r=t∧b=false∧bA y=bA x:=by
 rw [bN.r (bA x) t (adB h hl)] at hr
 obtain ⟨h1,h2⟩:=CS.R.inj (congrArg Prod.fst hr)
 exact ⟨h1.symm,h2.symm,(congrArg Prod.snd hr).symm⟩
theorem ab4{k:Nat} : Rd Tryz.prog (k+2) 71 fun w S R=>∀ (y:bp) n,(y.ok).holds w S→iL y→(eD.enc (eO y)).length≤n→R y.vs n :=
 rds Tryz.underlying71 (rdc (rdt Tryz.underlying9) (rdc (rdt Tryz.underlying9) (rdc (rdi Tryz.underlying3) (rdc (rdi Tryz.underlying3) (rdc (rdi Tryz.underlying3) (rdc (rdt Tryz.underlying9) (rdc (rdt Tryz.underlying9) (rdn)))))))) fun w S R h x0 n0 o0 e0 x1 n1 o1 e1 x2 n2 w2 e2 x3 n3 w3 e3 x4 n4 w4 e4 x5 n5 o5 e5 x6 n6 o6 e6=>h ⟨x0,x1,x2,x3,x4,x5,x6⟩ _ ⟨o0,o1,o5,o6⟩ ⟨w2,w3,w4⟩ (pl e0 (pl e1 (pl e2 (pl e3 (pl e4 (pl e5 (e6)))))))
theorem ab1{k:Nat} : Rd Tryz.prog (k+2) 77 fun w S R=>∀ (y:bQ) n,(y.ok).holds w S→iK y→(eA.enc (eK y)).length≤n→R y.vs n :=
 rds Tryz.underlying77 (rdc (rdt Tryz.underlying9) (rdc (rdt Tryz.underlying9) (rdc (rdb Tryz.underlying4) (rdc (rdi Tryz.underlying3) (rdc (rdi Tryz.underlying3) (rdc (rdi Tryz.underlying3) (rdn))))))) fun w S R h x0 n0 o0 e0 x1 n1 o1 e1 x2 n2 e2 x3 n3 w3 e3 x4 n4 w4 e4 x5 n5 w5 e5=>h ⟨x0,x1,x2,x3,x4,x5⟩ _ ⟨o0,o1⟩ ⟨w3,w4,w5⟩ (pl e0 (pl e1 (pl e2 (pl e3 (pl e4 (e5))))))
theorem ab2{k:Nat} : Rd Tryz.prog (k+2) 73 fun w S R=>∀ (y:b7) n,(y.ok).holds w S→jL y→(eC.enc (eM y)).length≤n→R y.vs n :=
 rds Tryz.underlying73 (rdc (rdt Tryz.underlying9) (rdc (rdt Tryz.underlying9) (rdc (rdi Tryz.underlying3) (rdc (rdb Tryz.underlying4) (rdc (rdb Tryz.underlying4) (rdn)))))) fun w S R h x0 n0 o0 e0 x1 n1 o1 e1 x2 n2 w2 e2 x3 n3 e3 x4 n4 e4=>h ⟨x0,x1,x2,x3,x4⟩ _ ⟨o0,o1⟩ w2 (pl e0 (pl e1 (pl e2 (pl e3 (e4)))))
theorem agq{k:Nat} : Rd Tryz.prog (k+2) 75 fun w S R=>∀ (y:fx) n,(Fa True).holds w S→rE y→(lY.enc (jP y)).length≤n→R y.vs n :=
 rds Tryz.underlying75 (rdc (rdi Tryz.underlying3) (rdc (rdi Tryz.underlying3) (rdc (rdi Tryz.underlying3) (rdc (rdi Tryz.underlying3) (rdn))))) fun w S R h x0 n0 w0 e0 x1 n1 w1 e1 x2 n2 w2 e2 x3 n3 w3 e3=>h ⟨x0,x1,x2,x3⟩ _ trivial ⟨w0,w1,w2,w3⟩ (pl e0 (pl e1 (pl e2 (e3))))
theorem sK{k:Nat} : Rd Tryz.prog (k+3) 55 fun w S R=>∀ (y:aF) n,(y.ok).holds w S→True→(cX.enc (dw y)).length≤n→R y.vs n :=
 rds Tryz.underlying55 (rdc (rdt Tryz.underlying9) (rdc (rlt Tryz.underlying27 Tryz.underlying9) (rdn))) fun w S R h x0 n0 o0 e0 x1 n1 o1 a1 e1=>h ⟨x0,x1⟩ _ ⟨o0,o1,a1⟩ trivial (pl e0 (e1))
theorem afc{k:Nat} : Rd Tryz.prog (k+2) 176 fun w S R=>∀ (y:dI) n,(y.ok).holds w S→nq y→(gq.enc (gy y)).length≤n→R y.vs n :=
 rds Tryz.underlying176 (rdc (rdt Tryz.underlying9) (rdc (rdi Tryz.underlying3) (rdc (rdi Tryz.underlying3) (rdc (rdi Tryz.underlying3) (rdn))))) fun w S R h x0 n0 o0 e0 x1 n1 w1 e1 x2 n2 w2 e2 x3 n3 w3 e3=>h ⟨x0,x1,x2,x3⟩ _ o0 ⟨w1,w2,w3⟩ (pl e0 (pl e1 (pl e2 (e3))))
theorem afb{k:Nat} : Rd Tryz.prog (k+2) 180 fun w S R=>∀ (y:dH) n,(y.ok).holds w S→nk y→(gp.enc (gw y)).length≤n→R y.vs n :=
 rds Tryz.underlying180 (rdc (rdi Tryz.underlying3) (rdc (rdi Tryz.underlying3) (rdc (rdt Tryz.underlying9) (rdc (rdi Tryz.underlying3) (rdn))))) fun w S R h x0 n0 w0 e0 x1 n1 w1 e1 x2 n2 o2 e2 x3 n3 w3 e3=>h ⟨x0,x1,x2,x3⟩ _ o2 ⟨w0,w1,w3⟩ (pl e0 (pl e1 (pl e2 (e3))))
theorem afd{k:Nat} : Rd Tryz.prog (k+2) 159 fun w S R=>∀ (y:bK) n,(Fa True).holds w S→nr y→(gX.enc (gJ y)).length≤n→R y.vs n :=
 rds Tryz.underlying159 (rdc (rdi Tryz.underlying3) (rdc (rdi Tryz.underlying3) (rdn))) fun w S R h x0 n0 w0 e0 x1 n1 w1 e1=>h ⟨x0,x1⟩ _ trivial ⟨w0,w1⟩ (pl e0 (e1))
theorem ab3{k:Nat} : Rd Tryz.prog (k+2) 186 fun w S R=>∀ (y:ca) n,(y.ok).holds w S→jM y→(eh.enc (eN y)).length≤n→R y.vs n :=
 rds Tryz.underlying186 (rdc (rdi Tryz.underlying3) (rdc (rdi Tryz.underlying3) (rdc (rdi Tryz.underlying3) (rdc (rdt Tryz.underlying9) (rdc (rdt Tryz.underlying9) (rdc (rdi Tryz.underlying3) (rdn))))))) fun w S R h x0 n0 w0 e0 x1 n1 w1 e1 x2 n2 w2 e2 x3 n3 o3 e3 x4 n4 o4 e4 x5 n5 w5 e5=>h ⟨x0,x1,x2,x3,x4,x5⟩ _ ⟨o3,o4⟩ ⟨w0,w1,w2,w5⟩ (pl e0 (pl e1 (pl e2 (pl e3 (pl e4 (e5))))))
theorem agr{k:Nat} : Rd Tryz.prog (k+2) 192 fun w S R=>∀ (y:eE) n,(y.ok).holds w S→rF y→(jZ.enc (ji y)).length≤n→R y.vs n :=
 rds Tryz.underlying192 (rdc (rdi Tryz.underlying3) (rdc (rdi Tryz.underlying3) (rdc (rdi Tryz.underlying3) (rdc (rdt Tryz.underlying9) (rdc (rdi Tryz.underlying3) (rdc (rdi Tryz.underlying3) (rdn))))))) fun w S R h x0 n0 w0 e0 x1 n1 w1 e1 x2 n2 w2 e2 x3 n3 o3 e3 x4 n4 w4 e4 x5 n5 w5 e5=>h ⟨x0,x1,x2,x3,x4,x5⟩ _ o3 ⟨w0,w1,w2,w4,w5⟩ (pl e0 (pl e1 (pl e2 (pl e3 (pl e4 (e5))))))
theorem ad3{k:Nat} : Rd Tryz.prog (k+2) 198 fun w S R=>∀ (y:cG) n,(Fa True).holds w S→kT y→(fD.enc (fP y)).length≤n→R y.vs n :=
 rds Tryz.underlying198 (rdc (rdi Tryz.underlying3) (rdc (rdi Tryz.underlying3) (rdc (rdi Tryz.underlying3) (rdc (rdi Tryz.underlying3) (rdn))))) fun w S R h x0 n0 w0 e0 x1 n1 w1 e1 x2 n2 w2 e2 x3 n3 w3 e3=>h ⟨x0,x1,x2,x3⟩ _ trivial ⟨w0,w1,w2,w3⟩ (pl e0 (pl e1 (pl e2 (e3))))
theorem afa{k:Nat} : Rd Tryz.prog (k+4) 36 fun w S R=>∀ (y:cC) n,(y.ok).holds w S→lP y→(ft.enc (eV y)).length≤n→R y.vs n :=
 rds Tryz.underlying36 (rdc (rdl Tryz.underlying29 (fun _=>rfl) afc) (rdc (rdl Tryz.underlying30 (fun _=>rfl) afb) (rdc (rdl Tryz.underlying31 (fun _=>rfl) afd) (rdc (rdl Tryz.underlying32 (fun _=>rfl) ab3) (rdc (rdl Tryz.underlying33 (fun _=>rfl) agr) (rdc (rdl Tryz.underlying34 (fun _=>rfl) ad3) (rdn))))))) fun w S R h x0 n0 o0 a0 w0 e0 x1 n1 o1 a1 w1 e1 x2 n2 o2 a2 w2 e2 x3 n3 o3 a3 w3 e3 x4 n4 o4 a4 w4 e4 x5 n5 o5 a5 w5 e5=>h ⟨x0,x1,x2,x3,x4,x5⟩ _ ⟨o0,a0,o1,a1,o2,o3,a3,o4,a4,o5⟩ ⟨w0,w1,w2,w3,w4,w5⟩ (pl e0 (pl e1 (pl e2 (pl e3 (pl e4 (e5))))))
theorem ad7{k:Nat} : Rd Tryz.prog (k+2) 129 fun w S R=>∀ (y:dJ) n,(Fa True).holds w S→kU y→(fo.enc (fu y)).length≤n→R y.vs n :=
 rds Tryz.underlying129 (rdc (rdi Tryz.underlying3) (rdc (rdi Tryz.underlying3) (rdc (rdi Tryz.underlying3) (rdn)))) fun w S R h x0 n0 w0 e0 x1 n1 w1 e1 x2 n2 w2 e2=>h ⟨x0,x1,x2⟩ _ trivial ⟨w0,w1,w2⟩ (pl e0 (pl e1 (e2)))
theorem ae9{k:Nat} : Rd Tryz.prog (k+4) 58 fun w S R=>∀ (y:cr) n,(y.ok).holds w S→lO y→(ix.enc (gI y)).length≤n→R y.vs n :=
 rds Tryz.underlying58 (rdc (rdt Tryz.underlying9) (rdc (rdt Tryz.underlying9) (rdc (rdt Tryz.underlying9) (rdc (rdl Tryz.underlying56 (fun _=>rfl) ad7) (rdc (rdi Tryz.underlying3) (rdn)))))) fun w S R h x0 n0 o0 e0 x1 n1 o1 e1 x2 n2 o2 e2 x3 n3 o3 a3 w3 e3 x4 n4 w4 e4=>h ⟨x0,x1,x2,x3,x4⟩ _ ⟨o0,o1,o2,o3⟩ ⟨w3,w4⟩ (pl e0 (pl e1 (pl e2 (pl e3 (e4)))))
theorem ad5{k:Nat} : Rd Tryz.prog (k+6) 39 fun w S R=>∀ (y:aD) n,(y.ok).holds w S→cY y→(bN.enc (bA y)).length≤n→R y.vs n :=
 rds Tryz.underlying39 (rdc (rdt Tryz.underlying9) (rdc (rdb Tryz.underlying4) (rdc (rdi Tryz.underlying3) (rdc (rdi Tryz.underlying3) (rdc (rdi Tryz.underlying3) (rdc (rdt Tryz.underlying9) (rdc (rdt Tryz.underlying9) (rdc (rdi Tryz.underlying3) (rdc (rdl Tryz.underlying22 (fun _=>rfl) ab4) (rdc (rdl Tryz.underlying23 (fun _=>rfl) ab1) (rdc (rdl Tryz.underlying24 (fun _=>rfl) ab2) (rdc (rli Tryz.underlying25 Tryz.underlying3) (rdc (rli Tryz.underlying25 Tryz.underlying3) (rdc (rdl Tryz.underlying26 (fun _=>rfl) agq) (rdc (rli Tryz.underlying25 Tryz.underlying3) (rdc (rli Tryz.underlying25 Tryz.underlying3) (rdc (rdi Tryz.underlying3) (rdc (rlt Tryz.underlying27 Tryz.underlying9) (rdc (rdl Tryz.underlying28 (fun _=>rfl) sK) (rdc (afa) (rdc (rdl Tryz.underlying37 (fun _=>rfl) ae9) (rdn)))))))))))))))))))))) fun w S R h x0 n0 o0 e0 x1 n1 e1 x2 n2 w2 e2 x3 n3 w3 e3 x4 n4 w4 e4 x5 n5 o5 e5 x6 n6 o6 e6 x7 n7 w7 e7 x8 n8 o8 a8 w8 e8 x9 n9 o9 a9 w9 e9 x10 n10 o10 a10 w10 e10 x11 n11 o11 w11 e11 x12 n12 o12 w12 e12 x13 n13 o13 a13 w13 e13 x14 n14 o14 w14 e14 x15 n15 o15 w15 e15 x16 n16 w16 e16 x17 n17 o17 a17 e17 x18 n18 o18 a18 w18 e18 x19 n19 o19 w19 e19 x20 n20 o20 a20 w20 e20=>h ⟨x0,x1,x2,x3,x4,x5,x6,x7,x8,x9,x10,x11,x12,x13,x14,x15,x16,x17,x18,x19,x20⟩ _ ⟨o0,o5,o6,o8,a8,o9,a9,o10,a10,o11,o12,o13,o14,o15,o17,a17,o18,a18,o19,o20,a20⟩ ⟨w2,w3,w4,w7,w16,w8,w9,w10,w11,w12,w13,w14,w15,w19,w20⟩ (pl e0 (pl e1 (pl e2 (pl e3 (pl e4 (pl e5 (pl e6 (pl e7 (pl e8 (pl e9 (pl e10 (pl e11 (pl e12 (pl e13 (pl e14 (pl e15 (pl e16 (pl e17 (pl e18 (pl e19 (e20)))))))))))))))))))))
end Go.Proofs.YtebnelfdimiifaaGreatDoor

