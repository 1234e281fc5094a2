/- Parts of the proof, in build order. No condition. -/
import Derived.Test.YtfkcmbonmpcbfaaGreatRa20
import Derived.Test.YtfkcmbonmpcbfaaGreatRa05
import Derived.Test.YtfkcmbonmpcbfaaGreatRa09
set_option linter.unusedSimpArgs false
set_option linter.unusedVariables false
set_option maxHeartbeats 1000000
set_option maxRecDepth 20000
namespace Go.Proofs.YtfkcmbonmpcbfaaGreat
open Go.RowKit Go.Lp Go.Sy Go.Lv
open Go.Proofs.Tryz
attribute [local irreducible] aL aB awp aC fwp Quiet
theorem bD{α:Type}{vl:α→Value}{ok:α→Prop}{cs:List Value} : okC vl ok cs []:=fun _ h=>by cases h
theorem aJ{α:Type}{vl:α→Value}{ok:α→Prop}{cs:List Value}{o:Nat}{os:List Nat}(x:α)(hx:ok x)(h:cs[o]? = some (vl x))(t:okC vl ok cs os):okC vl ok cs (o::os):=fun p hp=>by
 rcases List.mem_cons.1 hp with rfl | hp
 · exact ⟨x,hx,h⟩
 · exact t p hp
abbrev atC(bc b:Nat):Per:=At bc 0 [.v (.pointer (some ⟨b,0,none⟩))]
theorem gP(s:ByteArray):(an.enc s).length=(aV s.size).length+s.size:=qk s
theorem pJ(b bc bx:Nat)(x:ba)(hx:jI x)(p v:Value)(hp:p=.pointer none∨p=.pointer (some ⟨b,0,none⟩))(out:List UInt8)(hl:(out++dN.enc (et x)).length≤1000000000) :
   Con Tryz.prog 107 [.pointer (some ⟨bx,0,none⟩),.pointer (some ⟨bc,0,none⟩)] [atC bc b] [bR b p v (.pointer none),aO v 5 1 (out.map du),Box bx 153 x.vs]
     fun _ ps hp'=>ps=[]∧∃ p' v',(p'=.pointer none∨p'=.pointer (some ⟨b,0,none⟩))∧hp'=[bR b p' v' (.pointer none),aO v' 5 1 ((out++dN.enc (et x)).map du),Box bx 153 x.vs]:=by
 have he:dN.enc (et x)=an.enc x.obj++(an.enc x.sec++(ak.enc x.kind++(ak.enc x.at_++(ak.enc x.size++(an.enc x.digest++(an.enc x.form)))))):=rfl
 rw [he] at hl ⊢
 obtain ⟨hi_kind,hi_at_,hi_size⟩:=hx
 have e0:bw an unT x.vs [0,1]=an.enc x.obj++(an.enc x.sec++([])):=rfl
 have e1:bw ak unI x.vs [2,3,4]=ak.enc x.kind++(ak.enc x.at_++(ak.enc x.size++([]))):=rfl
 have e2:bw an unT x.vs [5,6]=an.enc x.digest++(an.enc x.form++([])):=rfl
 have hall:(((out++bw an unT x.vs [0,1])++bw ak unI x.vs [2,3,4])++bw an unT x.vs [5,6])=out++(an.enc x.obj++(an.enc x.sec++(ak.enc x.kind++(ak.enc x.at_++(ak.enc x.size++(an.enc x.digest++(an.enc x.form))))))):=by simp only [e0,e1,e2,List.append_assoc,List.append_nil,List.nil_append,List.cons_append]
 have hs_obj:=gP x.obj
 have hs_sec:=gP x.sec
 have hs_digest:=gP x.digest
 have hs_form:=gP x.form
 simp only [List.length_append] at hl
 refine EN2 Tryz.func107 rfl (ah (DR [8] 9 (VD 0 0 tk164 0 rfl rfl rfl rfl rfl (VM 1 rfl rfl (VN 2 rfl rfl rfl (VO 3 0 rfl rfl rfl (VM 4 rfl rfl (VN 5 rfl rfl rfl (VO 6 1 rfl rfl rfl (VB (zs:=[.pointer none]) 7 rfl el314 rfl rfl rfl rfl (.more rfl (.v rfl .nil) (.more rfl (.v rfl .nil) .nil)) rfl rfl (fun v0_7 => ?_)))))))))))
 refine VE 8 rfl rfl (EC [1] [0,1,2] rfl (dX b bx 153 x.vs p v hp (out) ⟨v0_7,2,[0,1]⟩ (aJ x.obj (by omega) rfl (aJ x.sec (by omega) rfl bD)) (by simp only [e0,e1,e2,List.length_append,List.length_nil];omega)) ?_)
 rintro _ _ _ ⟨rfl,p_0,v_0,hp_0,rfl⟩
 refine bST rfl ?_
 refine BN (aj (ah (DR [11] 12 (VD 0 0 tk164 1 rfl rfl rfl rfl rfl (VM 1 rfl rfl (VN 2 rfl rfl rfl (VO 3 2 rfl rfl rfl (VM 4 rfl rfl (VN 5 rfl rfl rfl (VO 6 3 rfl rfl rfl (VM 7 rfl rfl (VN 8 rfl rfl rfl (VO 9 4 rfl rfl rfl (VB (zs:=[.pointer none]) 10 rfl el313 rfl rfl rfl rfl (.more rfl (.v rfl .nil) (.more rfl (.v rfl .nil) (.more rfl (.v rfl .nil) .nil))) rfl rfl (fun v1_10 => ?_)))))))))))))))
 refine VE 11 rfl rfl (EC [2] [0,1,2] rfl (df b bx 153 x.vs p_0 v_0 hp_0 (out++bw an unT x.vs [0,1]) ⟨v1_10,3,[2,3,4]⟩ (aJ x.kind hi_kind rfl (aJ x.at_ hi_at_ rfl (aJ x.size hi_size rfl bD))) (by simp only [e0,e1,e2,List.length_append,List.length_nil];omega)) ?_)
 rintro _ _ _ ⟨rfl,p_1,v_1,hp_1,rfl⟩
 refine bST rfl ?_
 refine BN (aj (DR [8] 9 (VD 0 0 tk164 2 rfl rfl rfl rfl rfl (VM 1 rfl rfl (VN 2 rfl rfl rfl (VO 3 5 rfl rfl rfl (VM 4 rfl rfl (VN 5 rfl rfl rfl (VO 6 6 rfl rfl rfl (VB (zs:=[.pointer none]) 7 rfl el314 rfl rfl rfl rfl (.more rfl (.v rfl .nil) (.more rfl (.v rfl .nil) .nil)) rfl rfl (fun v2_7 => ?_)))))))))))
 refine VE 8 rfl rfl (EC [3] [0,1,2] rfl (dX b bx 153 x.vs p_1 v_1 hp_1 ((out++bw an unT x.vs [0,1])++bw ak unI x.vs [2,3,4]) ⟨v2_7,2,[5,6]⟩ (aJ x.digest (by omega) rfl (aJ x.form (by omega) rfl bD)) (by simp only [e0,e1,e2,List.length_append,List.length_nil];omega)) ?_)
 rintro _ _ _ ⟨rfl,p_2,v_2,hp_2,rfl⟩
 refine bST rfl ?_
 refine BN (FZ0 [0,1,2] Tryz.results107 ?_)
 rw [← hall];exact ⟨rfl,p_2,v_2,hp_2,rfl⟩
theorem pG(b bc bx:Nat)(x:bA)(hx:jH x)(p v:Value)(hp:p=.pointer none∨p=.pointer (some ⟨b,0,none⟩))(out:List UInt8)(hl:(out++dL.enc (eo x)).length≤1000000000) :
   Con Tryz.prog 109 [.pointer (some ⟨bx,0,none⟩),.pointer (some ⟨bc,0,none⟩)] [atC bc b] [bR b p v (.pointer none),aO v 5 1 (out.map du),Box bx 159 x.vs]
     fun _ ps hp'=>ps=[]∧∃ p' v',(p'=.pointer none∨p'=.pointer (some ⟨b,0,none⟩))∧hp'=[bR b p' v' (.pointer none),aO v' 5 1 ((out++dL.enc (eo x)).map du),Box bx 159 x.vs]:=by
 have he:dL.enc (eo x)=an.enc x.name++(an.enc x.version++(bP.enc x.main++(ak.enc x.kind++(ak.enc x.at_++(ak.enc x.size))))):=rfl
 rw [he] at hl ⊢
 obtain ⟨hi_kind,hi_at_,hi_size⟩:=hx
 have e0:bw an unT x.vs [0,1]=an.enc x.name++(an.enc x.version++([])):=rfl
 have e2:bw ak unI x.vs [3,4,5]=ak.enc x.kind++(ak.enc x.at_++(ak.enc x.size++([]))):=rfl
 have hall:(((out++bw an unT x.vs [0,1])++bP.enc x.main)++bw ak unI x.vs [3,4,5])=out++(an.enc x.name++(an.enc x.version++(bP.enc x.main++(ak.enc x.kind++(ak.enc x.at_++(ak.enc x.size)))))):=by simp only [e0,e2,List.append_assoc,List.append_nil,List.nil_append,List.cons_append]
 have hs_name:=gP x.name
 have hs_version:=gP x.version
 simp only [List.length_append] at hl
 refine EN2 Tryz.func109 rfl (ah (DR [8] 9 (VD 0 0 tk164 0 rfl rfl rfl rfl rfl (VM 1 rfl rfl (VN 2 rfl rfl rfl (VO 3 0 rfl rfl rfl (VM 4 rfl rfl (VN 5 rfl rfl rfl (VO 6 1 rfl rfl rfl (VB (zs:=[.pointer none]) 7 rfl el314 rfl rfl rfl rfl (.more rfl (.v rfl .nil) (.more rfl (.v rfl .nil) .nil)) rfl rfl (fun v0_7 => ?_)))))))))))
 refine VE 8 rfl rfl (EC [1] [0,1,2] rfl (dX b bx 159 x.vs p v hp (out) ⟨v0_7,2,[0,1]⟩ (aJ x.name (by omega) rfl (aJ x.version (by omega) rfl bD)) (by simp only [e0,e2,List.length_append,List.length_nil];omega)) ?_)
 rintro _ _ _ ⟨rfl,p_0,v_0,hp_0,rfl⟩
 refine bST rfl ?_
 refine BN (aj (ah (DR [4] 5 (VD 0 0 tk164 1 rfl rfl rfl rfl rfl (VM 1 rfl rfl (VN 2 rfl rfl rfl (VO 3 2 rfl rfl rfl ?_)))))))
 refine VE 4 rfl rfl (EC [] [0,1,2] rfl (kT x.main b bx 159 x.vs 2 rfl p_0 v_0 hp_0 (out++bw an unT x.vs [0,1]) (by simp only [e0,e2,List.length_append,List.length_nil];omega)) ?_)
 rintro _ _ _ ⟨rfl,p_1,v_1,hp_1,rfl⟩
 refine bST rfl ?_
 refine BN (aj (DR [11] 12 (VD 0 0 tk164 1 rfl rfl rfl rfl rfl (VM 1 rfl rfl (VN 2 rfl rfl rfl (VO 3 3 rfl rfl rfl (VM 4 rfl rfl (VN 5 rfl rfl rfl (VO 6 4 rfl rfl rfl (VM 7 rfl rfl (VN 8 rfl rfl rfl (VO 9 5 rfl rfl rfl (VB (zs:=[.pointer none]) 10 rfl el313 rfl rfl rfl rfl (.more rfl (.v rfl .nil) (.more rfl (.v rfl .nil) (.more rfl (.v rfl .nil) .nil))) rfl rfl (fun v2_10 => ?_))))))))))))))
 refine VE 11 rfl rfl (EC [2] [0,1,2] rfl (df b bx 159 x.vs p_1 v_1 hp_1 ((out++bw an unT x.vs [0,1])++bP.enc x.main) ⟨v2_10,3,[3,4,5]⟩ (aJ x.kind hi_kind rfl (aJ x.at_ hi_at_ rfl (aJ x.size hi_size rfl bD))) (by simp only [e0,e2,List.length_append,List.length_nil];omega)) ?_)
 rintro _ _ _ ⟨rfl,p_2,v_2,hp_2,rfl⟩
 refine bST rfl ?_
 refine BN (FZ0 [0,1,2] Tryz.results109 ?_)
 rw [← hall];exact ⟨rfl,p_2,v_2,hp_2,rfl⟩
theorem pH(b bc bx:Nat)(x:bK)(hx:lk x)(p v:Value)(hp:p=.pointer none∨p=.pointer (some ⟨b,0,none⟩))(out:List UInt8)(hl:(out++dM.enc (ep x)).length≤1000000000) :
   Con Tryz.prog 111 [.pointer (some ⟨bx,0,none⟩),.pointer (some ⟨bc,0,none⟩)] [atC bc b] [bR b p v (.pointer none),aO v 5 1 (out.map du),Box bx 155 x.vs]
     fun _ ps hp'=>ps=[]∧∃ p' v',(p'=.pointer none∨p'=.pointer (some ⟨b,0,none⟩))∧hp'=[bR b p' v' (.pointer none),aO v' 5 1 ((out++dM.enc (ep x)).map du),Box bx 155 x.vs]:=by
 have he:dM.enc (ep x)=an.enc x.name++(an.enc x.version++(ak.enc x.kind++(bP.enc x.weak++(bP.enc x.own)))):=rfl
 rw [he] at hl ⊢
 have hi_kind:=hx
 have e0:bw an unT x.vs [0,1]=an.enc x.name++(an.enc x.version++([])):=rfl
 have e1:bw ak unI x.vs [2]=ak.enc x.kind++([]):=rfl
 have hall:((((out++bw an unT x.vs [0,1])++bw ak unI x.vs [2])++bP.enc x.weak)++bP.enc x.own)=out++(an.enc x.name++(an.enc x.version++(ak.enc x.kind++(bP.enc x.weak++(bP.enc x.own))))):=by simp only [e0,e1,List.append_assoc,List.append_nil,List.nil_append,List.cons_append]
 have hs_name:=gP x.name
 have hs_version:=gP x.version
 simp only [List.length_append] at hl
 refine EN2 Tryz.func111 rfl (ah (DR [8] 9 (VD 0 0 tk164 0 rfl rfl rfl rfl rfl (VM 1 rfl rfl (VN 2 rfl rfl rfl (VO 3 0 rfl rfl rfl (VM 4 rfl rfl (VN 5 rfl rfl rfl (VO 6 1 rfl rfl rfl (VB (zs:=[.pointer none]) 7 rfl el314 rfl rfl rfl rfl (.more rfl (.v rfl .nil) (.more rfl (.v rfl .nil) .nil)) rfl rfl (fun v0_7 => ?_)))))))))))
 refine VE 8 rfl rfl (EC [1] [0,1,2] rfl (dX b bx 155 x.vs p v hp (out) ⟨v0_7,2,[0,1]⟩ (aJ x.name (by omega) rfl (aJ x.version (by omega) rfl bD)) (by simp only [e0,e1,List.length_append,List.length_nil];omega)) ?_)
 rintro _ _ _ ⟨rfl,p_0,v_0,hp_0,rfl⟩
 refine bST rfl ?_
 refine BN (aj (ah (DR [5] 6 (VD 0 0 tk164 1 rfl rfl rfl rfl rfl (VM 1 rfl rfl (VN 2 rfl rfl rfl (VO 3 2 rfl rfl rfl (VB (zs:=[.pointer none]) 4 rfl el313 rfl rfl rfl rfl (.more rfl (.v rfl .nil) .nil) rfl rfl (fun v1_4 => ?_)))))))))
 refine VE 5 rfl rfl (EC [2] [0,1,2] rfl (df b bx 155 x.vs p_0 v_0 hp_0 (out++bw an unT x.vs [0,1]) ⟨v1_4,1,[2]⟩ (aJ x.kind hi_kind rfl bD) (by simp only [e0,e1,List.length_append,List.length_nil];omega)) ?_)
 rintro _ _ _ ⟨rfl,p_1,v_1,hp_1,rfl⟩
 refine bST rfl ?_
 refine BN (aj (ah (DR [4] 5 (VD 0 0 tk164 2 rfl rfl rfl rfl rfl (VM 1 rfl rfl (VN 2 rfl rfl rfl (VO 3 3 rfl rfl rfl ?_)))))))
 refine VE 4 rfl rfl (EC [] [0,1,2] rfl (kT x.weak b bx 155 x.vs 3 rfl p_1 v_1 hp_1 ((out++bw an unT x.vs [0,1])++bw ak unI x.vs [2]) (by simp only [e0,e1,List.length_append,List.length_nil];omega)) ?_)
 rintro _ _ _ ⟨rfl,p_2,v_2,hp_2,rfl⟩
 refine bST rfl ?_
 refine BN (aj (DR [4] 5 (VD 0 0 tk164 2 rfl rfl rfl rfl rfl (VM 1 rfl rfl (VN 2 rfl rfl rfl (VO 3 4 rfl rfl rfl ?_))))))
 refine VE 4 rfl rfl (EC [] [0,1,2] rfl (kT x.own b bx 155 x.vs 4 rfl p_2 v_2 hp_2 (((out++bw an unT x.vs [0,1])++bw ak unI x.vs [2])++bP.enc x.weak) (by simp only [e0,e1,List.length_append,List.length_nil];omega)) ?_)
 rintro _ _ _ ⟨rfl,p_3,v_3,hp_3,rfl⟩
 refine bST rfl ?_
 refine BN (FZ0 [0,1,2] Tryz.results111 ?_)
 rw [← hall];exact ⟨rfl,p_3,v_3,hp_3,rfl⟩
theorem uq(b bc bx:Nat)(x:fb)(hx:tn x)(p v:Value)(hp:p=.pointer none∨p=.pointer (some ⟨b,0,none⟩))(out:List UInt8)(hl:(out++jl.enc (iT x)).length≤1000000000) :
   Con Tryz.prog 114 [.pointer (some ⟨bx,0,none⟩),.pointer (some ⟨bc,0,none⟩)] [atC bc b] [bR b p v (.pointer none),aO v 5 1 (out.map du),Box bx 157 x.vs]
     fun _ ps hp'=>ps=[]∧∃ p' v',(p'=.pointer none∨p'=.pointer (some ⟨b,0,none⟩))∧hp'=[bR b p' v' (.pointer none),aO v' 5 1 ((out++jl.enc (iT x)).map du),Box bx 157 x.vs]:=by
 have he:jl.enc (iT x)=ak.enc x.at_++(ak.enc x.kind++(ak.enc x.import_++(ak.enc x.add))):=rfl
 rw [he] at hl ⊢
 obtain ⟨hi_at_,hi_kind,hi_import_,hi_add⟩:=hx
 have e0:bw ak unI x.vs [0,1,2,3]=ak.enc x.at_++(ak.enc x.kind++(ak.enc x.import_++(ak.enc x.add++([])))):=rfl
 have hall:(out++bw ak unI x.vs [0,1,2,3])=out++(ak.enc x.at_++(ak.enc x.kind++(ak.enc x.import_++(ak.enc x.add)))):=by simp only [e0,List.append_assoc,List.append_nil,List.nil_append,List.cons_append]
 simp only [List.length_append] at hl
 refine EN2 Tryz.func114 rfl (DR [14] 15 (VD 0 0 tk164 0 rfl rfl rfl rfl rfl (VM 1 rfl rfl (VN 2 rfl rfl rfl (VO 3 0 rfl rfl rfl (VM 4 rfl rfl (VN 5 rfl rfl rfl (VO 6 1 rfl rfl rfl (VM 7 rfl rfl (VN 8 rfl rfl rfl (VO 9 2 rfl rfl rfl (VM 10 rfl rfl (VN 11 rfl rfl rfl (VO 12 3 rfl rfl rfl ?_))))))))))))))
 refine VB (zs:=[.pointer none]) 13 rfl el313 rfl rfl rfl rfl (.more rfl (.v rfl .nil) (.more rfl (.v rfl .nil) (.more rfl (.v rfl .nil) (.more rfl (.v rfl .nil) .nil)))) rfl rfl (fun v0_13 => ?_)
 refine VE 14 rfl rfl (EC [1] [0,1,2] rfl (df b bx 157 x.vs p v hp (out) ⟨v0_13,4,[0,1,2,3]⟩ (aJ x.at_ hi_at_ rfl (aJ x.kind hi_kind rfl (aJ x.import_ hi_import_ rfl (aJ x.add hi_add rfl bD)))) (by simp only [e0,List.length_append,List.length_nil];omega)) ?_)
 rintro _ _ _ ⟨rfl,p_0,v_0,hp_0,rfl⟩
 refine bST rfl ?_
 refine BN (FZ0 [0,1,2] Tryz.results114 ?_)
 rw [← hall];exact ⟨rfl,p_0,v_0,hp_0,rfl⟩
theorem re(b bc bx:Nat)(x:dw)(hx:mG x)(p v:Value)(hp:p=.pointer none∨p=.pointer (some ⟨b,0,none⟩))(out:List UInt8)(hl:(out++eJ.enc (fl x)).length≤1000000000) :
   Con Tryz.prog 122 [.pointer (some ⟨bx,0,none⟩),.pointer (some ⟨bc,0,none⟩)] [atC bc b] [bR b p v (.pointer none),aO v 5 1 (out.map du),Box bx 209 x.vs]
     fun _ ps hp'=>ps=[]∧∃ p' v',(p'=.pointer none∨p'=.pointer (some ⟨b,0,none⟩))∧hp'=[bR b p' v' (.pointer none),aO v' 5 1 ((out++eJ.enc (fl x)).map du),Box bx 209 x.vs]:=by
 have he:eJ.enc (fl x)=ak.enc x.from_++(ak.enc x.size++(ak.enc x.to_)):=rfl
 rw [he] at hl ⊢
 obtain ⟨hi_from_,hi_size,hi_to_⟩:=hx
 have e0:bw ak unI x.vs [0,1,2]=ak.enc x.from_++(ak.enc x.size++(ak.enc x.to_++([]))):=rfl
 have hall:(out++bw ak unI x.vs [0,1,2])=out++(ak.enc x.from_++(ak.enc x.size++(ak.enc x.to_))):=by simp only [e0,List.append_assoc,List.append_nil,List.nil_append,List.cons_append]
 simp only [List.length_append] at hl
 refine EN2 Tryz.func122 rfl (DR [11] 12 (VD 0 0 tk164 0 rfl rfl rfl rfl rfl (VM 1 rfl rfl (VN 2 rfl rfl rfl (VO 3 0 rfl rfl rfl (VM 4 rfl rfl (VN 5 rfl rfl rfl (VO 6 1 rfl rfl rfl (VM 7 rfl rfl (VN 8 rfl rfl rfl (VO 9 2 rfl rfl rfl (VB (zs:=[.pointer none]) 10 rfl el313 rfl rfl rfl rfl (.more rfl (.v rfl .nil) (.more rfl (.v rfl .nil) (.more rfl (.v rfl .nil) .nil))) rfl rfl (fun v0_10 => ?_)))))))))))))
 refine VE 11 rfl rfl (EC [1] [0,1,2] rfl (df b bx 209 x.vs p v hp (out) ⟨v0_10,3,[0,1,2]⟩ (aJ x.from_ hi_from_ rfl (aJ x.size hi_size rfl (aJ x.to_ hi_to_ rfl bD))) (by simp only [e0,List.length_append,List.length_nil];omega)) ?_)
 rintro _ _ _ ⟨rfl,p_0,v_0,hp_0,rfl⟩
 refine bST rfl ?_
 refine BN (FZ0 [0,1,2] Tryz.results122 ?_)
 rw [← hall];exact ⟨rfl,p_0,v_0,hp_0,rfl⟩
theorem sS(b bc bx:Nat)(x:cN)(hx:oU x)(p v:Value)(hp:p=.pointer none∨p=.pointer (some ⟨b,0,none⟩))(out:List UInt8)(hl:(out++fB.enc (gb x)).length≤1000000000) :
   Con Tryz.prog 223 [.pointer (some ⟨bx,0,none⟩),.pointer (some ⟨bc,0,none⟩)] [atC bc b] [bR b p v (.pointer none),aO v 5 1 (out.map du),Box bx 218 x.vs]
     fun _ ps hp'=>ps=[]∧∃ p' v',(p'=.pointer none∨p'=.pointer (some ⟨b,0,none⟩))∧hp'=[bR b p' v' (.pointer none),aO v' 5 1 ((out++fB.enc (gb x)).map du),Box bx 218 x.vs]:=by
 have he:fB.enc (gb x)=an.enc x.name++(ak.enc x.kind++(ak.enc x.at_++(ak.enc x.size))):=rfl
 rw [he] at hl ⊢
 obtain ⟨hi_kind,hi_at_,hi_size⟩:=hx
 have e0:bw an unT x.vs [0]=an.enc x.name++([]):=rfl
 have e1:bw ak unI x.vs [1,2,3]=ak.enc x.kind++(ak.enc x.at_++(ak.enc x.size++([]))):=rfl
 have hall:((out++bw an unT x.vs [0])++bw ak unI x.vs [1,2,3])=out++(an.enc x.name++(ak.enc x.kind++(ak.enc x.at_++(ak.enc x.size)))):=by simp only [e0,e1,List.append_assoc,List.append_nil,List.nil_append,List.cons_append]
 have hs_name:=gP x.name
 simp only [List.length_append] at hl
 refine EN2 Tryz.func223 rfl (ah (DR [5] 6 (VD 0 0 tk164 0 rfl rfl rfl rfl rfl (VM 1 rfl rfl (VN 2 rfl rfl rfl (VO 3 0 rfl rfl rfl (VB (zs:=[.pointer none]) 4 rfl el314 rfl rfl rfl rfl (.more rfl (.v rfl .nil) .nil) rfl rfl (fun v0_4 => ?_))))))))
 refine VE 5 rfl rfl (EC [1] [0,1,2] rfl (dX b bx 218 x.vs p v hp (out) ⟨v0_4,1,[0]⟩ (aJ x.name (by omega) rfl bD) (by simp only [e0,e1,List.length_append,List.length_nil];omega)) ?_)
 rintro _ _ _ ⟨rfl,p_0,v_0,hp_0,rfl⟩
 refine bST rfl ?_
 refine BN (aj (DR [11] 12 (VD 0 0 tk164 1 rfl rfl rfl rfl rfl (VM 1 rfl rfl (VN 2 rfl rfl rfl (VO 3 1 rfl rfl rfl (VM 4 rfl rfl (VN 5 rfl rfl rfl (VO 6 2 rfl rfl rfl (VM 7 rfl rfl (VN 8 rfl rfl rfl (VO 9 3 rfl rfl rfl (VB (zs:=[.pointer none]) 10 rfl el313 rfl rfl rfl rfl (.more rfl (.v rfl .nil) (.more rfl (.v rfl .nil) (.more rfl (.v rfl .nil) .nil))) rfl rfl (fun v1_10 => ?_))))))))))))))
 refine VE 11 rfl rfl (EC [2] [0,1,2] rfl (df b bx 218 x.vs p_0 v_0 hp_0 (out++bw an unT x.vs [0]) ⟨v1_10,3,[1,2,3]⟩ (aJ x.kind hi_kind rfl (aJ x.at_ hi_at_ rfl (aJ x.size hi_size rfl bD))) (by simp only [e0,e1,List.length_append,List.length_nil];omega)) ?_)
 rintro _ _ _ ⟨rfl,p_1,v_1,hp_1,rfl⟩
 refine bST rfl ?_
 refine BN (FZ0 [0,1,2] Tryz.results223 ?_)
 rw [← hall];exact ⟨rfl,p_1,v_1,hp_1,rfl⟩
theorem sR(b bc bx:Nat)(x:cS)(hx:oT x)(p v:Value)(hp:p=.pointer none∨p=.pointer (some ⟨b,0,none⟩))(out:List UInt8)(hl:(out++fA.enc (ga x)).length≤1000000000) :
   Con Tryz.prog 225 [.pointer (some ⟨bx,0,none⟩),.pointer (some ⟨bc,0,none⟩)] [atC bc b] [bR b p v (.pointer none),aO v 5 1 (out.map du),Box bx 220 x.vs]
     fun _ ps hp'=>ps=[]∧∃ p' v',(p'=.pointer none∨p'=.pointer (some ⟨b,0,none⟩))∧hp'=[bR b p' v' (.pointer none),aO v' 5 1 ((out++fA.enc (ga x)).map du),Box bx 220 x.vs]:=by
 have he:fA.enc (ga x)=ak.enc x.sec++(ak.enc x.at_++(an.enc x.file++(ak.enc x.line))):=rfl
 rw [he] at hl ⊢
 obtain ⟨hi_sec,hi_at_,hi_line⟩:=hx
 have e0:bw ak unI x.vs [0,1]=ak.enc x.sec++(ak.enc x.at_++([])):=rfl
 have e1:bw an unT x.vs [2]=an.enc x.file++([]):=rfl
 have e2:bw ak unI x.vs [3]=ak.enc x.line++([]):=rfl
 have hall:(((out++bw ak unI x.vs [0,1])++bw an unT x.vs [2])++bw ak unI x.vs [3])=out++(ak.enc x.sec++(ak.enc x.at_++(an.enc x.file++(ak.enc x.line)))):=by simp only [e0,e1,e2,List.append_assoc,List.append_nil,List.nil_append,List.cons_append]
 have hs_file:=gP x.file
 simp only [List.length_append] at hl
 refine EN2 Tryz.func225 rfl (ah (DR [8] 9 (VD 0 0 tk164 0 rfl rfl rfl rfl rfl (VM 1 rfl rfl (VN 2 rfl rfl rfl (VO 3 0 rfl rfl rfl (VM 4 rfl rfl (VN 5 rfl rfl rfl (VO 6 1 rfl rfl rfl (VB (zs:=[.pointer none]) 7 rfl el313 rfl rfl rfl rfl (.more rfl (.v rfl .nil) (.more rfl (.v rfl .nil) .nil)) rfl rfl (fun v0_7 => ?_)))))))))))
 refine VE 8 rfl rfl (EC [1] [0,1,2] rfl (df b bx 220 x.vs p v hp (out) ⟨v0_7,2,[0,1]⟩ (aJ x.sec hi_sec rfl (aJ x.at_ hi_at_ rfl bD)) (by simp only [e0,e1,e2,List.length_append,List.length_nil];omega)) ?_)
 rintro _ _ _ ⟨rfl,p_0,v_0,hp_0,rfl⟩
 refine bST rfl ?_
 refine BN (aj (ah (DR [5] 6 (VD 0 0 tk164 1 rfl rfl rfl rfl rfl (VM 1 rfl rfl (VN 2 rfl rfl rfl (VO 3 2 rfl rfl rfl (VB (zs:=[.pointer none]) 4 rfl el314 rfl rfl rfl rfl (.more rfl (.v rfl .nil) .nil) rfl rfl (fun v1_4 => ?_)))))))))
 refine VE 5 rfl rfl (EC [2] [0,1,2] rfl (dX b bx 220 x.vs p_0 v_0 hp_0 (out++bw ak unI x.vs [0,1]) ⟨v1_4,1,[2]⟩ (aJ x.file (by omega) rfl bD) (by simp only [e0,e1,e2,List.length_append,List.length_nil];omega)) ?_)
 rintro _ _ _ ⟨rfl,p_1,v_1,hp_1,rfl⟩
 refine bST rfl ?_
 refine BN (aj (DR [5] 6 (VD 0 0 tk164 2 rfl rfl rfl rfl rfl (VM 1 rfl rfl (VN 2 rfl rfl rfl (VO 3 3 rfl rfl rfl (VB (zs:=[.pointer none]) 4 rfl el313 rfl rfl rfl rfl (.more rfl (.v rfl .nil) .nil) rfl rfl (fun v2_4 => ?_))))))))
 refine VE 5 rfl rfl (EC [3] [0,1,2] rfl (df b bx 220 x.vs p_1 v_1 hp_1 ((out++bw ak unI x.vs [0,1])++bw an unT x.vs [2]) ⟨v2_4,1,[3]⟩ (aJ x.line hi_line rfl bD) (by simp only [e0,e1,e2,List.length_append,List.length_nil];omega)) ?_)
 rintro _ _ _ ⟨rfl,p_2,v_2,hp_2,rfl⟩
 refine bST rfl ?_
 refine BN (FZ0 [0,1,2] Tryz.results225 ?_)
 rw [← hall];exact ⟨rfl,p_2,v_2,hp_2,rfl⟩
theorem sT(b bc bx:Nat)(x:bC)(hx:oV x)(p v:Value)(hp:p=.pointer none∨p=.pointer (some ⟨b,0,none⟩))(out:List UInt8)(hl:(out++fT.enc (gy x)).length≤1000000000) :
   Con Tryz.prog 227 [.pointer (some ⟨bx,0,none⟩),.pointer (some ⟨bc,0,none⟩)] [atC bc b] [bR b p v (.pointer none),aO v 5 1 (out.map du),Box bx 222 x.vs]
     fun _ ps hp'=>ps=[]∧∃ p' v',(p'=.pointer none∨p'=.pointer (some ⟨b,0,none⟩))∧hp'=[bR b p' v' (.pointer none),aO v' 5 1 ((out++fT.enc (gy x)).map du),Box bx 222 x.vs]:=by
 have he:fT.enc (gy x)=ak.enc x.at_++(ak.enc x.size):=rfl
 rw [he] at hl ⊢
 obtain ⟨hi_at_,hi_size⟩:=hx
 have e0:bw ak unI x.vs [0,1]=ak.enc x.at_++(ak.enc x.size++([])):=rfl
 have hall:(out++bw ak unI x.vs [0,1])=out++(ak.enc x.at_++(ak.enc x.size)):=by simp only [e0,List.append_assoc,List.append_nil,List.nil_append,List.cons_append]
 simp only [List.length_append] at hl
 refine EN2 Tryz.func227 rfl (DR [8] 9 (VD 0 0 tk164 0 rfl rfl rfl rfl rfl (VM 1 rfl rfl (VN 2 rfl rfl rfl (VO 3 0 rfl rfl rfl (VM 4 rfl rfl (VN 5 rfl rfl rfl (VO 6 1 rfl rfl rfl (VB (zs:=[.pointer none]) 7 rfl el313 rfl rfl rfl rfl (.more rfl (.v rfl .nil) (.more rfl (.v rfl .nil) .nil)) rfl rfl (fun v0_7 => ?_))))))))))
 refine VE 8 rfl rfl (EC [1] [0,1,2] rfl (df b bx 222 x.vs p v hp (out) ⟨v0_7,2,[0,1]⟩ (aJ x.at_ hi_at_ rfl (aJ x.size hi_size rfl bD)) (by simp only [e0,List.length_append,List.length_nil];omega)) ?_)
 rintro _ _ _ ⟨rfl,p_0,v_0,hp_0,rfl⟩
 refine bST rfl ?_
 refine BN (FZ0 [0,1,2] Tryz.results227 ?_)
 rw [← hall];exact ⟨rfl,p_0,v_0,hp_0,rfl⟩
theorem pI(b bc bx:Nat)(x:bF)(hx:lq x)(p v:Value)(hp:p=.pointer none∨p=.pointer (some ⟨b,0,none⟩))(out:List UInt8)(hl:(out++dH.enc (er x)).length≤1000000000) :
   Con Tryz.prog 229 [.pointer (some ⟨bx,0,none⟩),.pointer (some ⟨bc,0,none⟩)] [atC bc b] [bR b p v (.pointer none),aO v 5 1 (out.map du),Box bx 262 x.vs]
     fun _ ps hp'=>ps=[]∧∃ p' v',(p'=.pointer none∨p'=.pointer (some ⟨b,0,none⟩))∧hp'=[bR b p' v' (.pointer none),aO v' 5 1 ((out++dH.enc (er x)).map du),Box bx 262 x.vs]:=by
 have he:dH.enc (er x)=ak.enc x.sec++(ak.enc x.from_++(ak.enc x.to_++(an.enc x.name++(an.enc x.file++(ak.enc x.line))))):=rfl
 rw [he] at hl ⊢
 obtain ⟨hi_sec,hi_from_,hi_to_,hi_line⟩:=hx
 have e0:bw ak unI x.vs [0,1,2]=ak.enc x.sec++(ak.enc x.from_++(ak.enc x.to_++([]))):=rfl
 have e1:bw an unT x.vs [3,4]=an.enc x.name++(an.enc x.file++([])):=rfl
 have e2:bw ak unI x.vs [5]=ak.enc x.line++([]):=rfl
 have hall:(((out++bw ak unI x.vs [0,1,2])++bw an unT x.vs [3,4])++bw ak unI x.vs [5])=out++(ak.enc x.sec++(ak.enc x.from_++(ak.enc x.to_++(an.enc x.name++(an.enc x.file++(ak.enc x.line)))))):=by simp only [e0,e1,e2,List.append_assoc,List.append_nil,List.nil_append,List.cons_append]
 have hs_name:=gP x.name
 have hs_file:=gP x.file
 simp only [List.length_append] at hl
 refine EN2 Tryz.func229 rfl (ah (DR [11] 12 (VD 0 0 tk164 0 rfl rfl rfl rfl rfl (VM 1 rfl rfl (VN 2 rfl rfl rfl (VO 3 0 rfl rfl rfl (VM 4 rfl rfl (VN 5 rfl rfl rfl (VO 6 1 rfl rfl rfl (VM 7 rfl rfl (VN 8 rfl rfl rfl (VO 9 2 rfl rfl rfl (VB (zs:=[.pointer none]) 10 rfl el313 rfl rfl rfl rfl (.more rfl (.v rfl .nil) (.more rfl (.v rfl .nil) (.more rfl (.v rfl .nil) .nil))) rfl rfl (fun v0_10 => ?_))))))))))))))
 refine VE 11 rfl rfl (EC [1] [0,1,2] rfl (df b bx 262 x.vs p v hp (out) ⟨v0_10,3,[0,1,2]⟩ (aJ x.sec hi_sec rfl (aJ x.from_ hi_from_ rfl (aJ x.to_ hi_to_ rfl bD))) (by simp only [e0,e1,e2,List.length_append,List.length_nil];omega)) ?_)
 rintro _ _ _ ⟨rfl,p_0,v_0,hp_0,rfl⟩
 refine bST rfl ?_
 refine BN (aj (ah (DR [8] 9 (VD 0 0 tk164 1 rfl rfl rfl rfl rfl (VM 1 rfl rfl (VN 2 rfl rfl rfl (VO 3 3 rfl rfl rfl (VM 4 rfl rfl (VN 5 rfl rfl rfl (VO 6 4 rfl rfl rfl (VB (zs:=[.pointer none]) 7 rfl el314 rfl rfl rfl rfl (.more rfl (.v rfl .nil) (.more rfl (.v rfl .nil) .nil)) rfl rfl (fun v1_7 => ?_))))))))))))
 refine VE 8 rfl rfl (EC [2] [0,1,2] rfl (dX b bx 262 x.vs p_0 v_0 hp_0 (out++bw ak unI x.vs [0,1,2]) ⟨v1_7,2,[3,4]⟩ (aJ x.name (by omega) rfl (aJ x.file (by omega) rfl bD)) (by simp only [e0,e1,e2,List.length_append,List.length_nil];omega)) ?_)
 rintro _ _ _ ⟨rfl,p_1,v_1,hp_1,rfl⟩
 refine bST rfl ?_
 refine BN (aj (DR [5] 6 (VD 0 0 tk164 2 rfl rfl rfl rfl rfl (VM 1 rfl rfl (VN 2 rfl rfl rfl (VO 3 5 rfl rfl rfl (VB (zs:=[.pointer none]) 4 rfl el313 rfl rfl rfl rfl (.more rfl (.v rfl .nil) .nil) rfl rfl (fun v2_4 => ?_))))))))
 refine VE 5 rfl rfl (EC [3] [0,1,2] rfl (df b bx 262 x.vs p_1 v_1 hp_1 ((out++bw ak unI x.vs [0,1,2])++bw an unT x.vs [3,4]) ⟨v2_4,1,[5]⟩ (aJ x.line hi_line rfl bD) (by simp only [e0,e1,e2,List.length_append,List.length_nil];omega)) ?_)
 rintro _ _ _ ⟨rfl,p_2,v_2,hp_2,rfl⟩
 refine bST rfl ?_
 refine BN (FZ0 [0,1,2] Tryz.results229 ?_)
 rw [← hall];exact ⟨rfl,p_2,v_2,hp_2,rfl⟩
theorem uu(b bc bx:Nat)(x:dJ)(hx:tp x)(p v:Value)(hp:p=.pointer none∨p=.pointer (some ⟨b,0,none⟩))(out:List UInt8)(hl:(out++ir.enc (ik x)).length≤1000000000) :
   Con Tryz.prog 231 [.pointer (some ⟨bx,0,none⟩),.pointer (some ⟨bc,0,none⟩)] [atC bc b] [bR b p v (.pointer none),aO v 5 1 (out.map du),Box bx 268 x.vs]
     fun _ ps hp'=>ps=[]∧∃ p' v',(p'=.pointer none∨p'=.pointer (some ⟨b,0,none⟩))∧hp'=[bR b p' v' (.pointer none),aO v' 5 1 ((out++ir.enc (ik x)).map du),Box bx 268 x.vs]:=by
 have he:ir.enc (ik x)=ak.enc x.sec++(ak.enc x.from_++(ak.enc x.to_++(an.enc x.name++(ak.enc x.where_++(ak.enc x.n))))):=rfl
 rw [he] at hl ⊢
 obtain ⟨hi_sec,hi_from_,hi_to_,hi_where_,hi_n⟩:=hx
 have e0:bw ak unI x.vs [0,1,2]=ak.enc x.sec++(ak.enc x.from_++(ak.enc x.to_++([]))):=rfl
 have e1:bw an unT x.vs [3]=an.enc x.name++([]):=rfl
 have e2:bw ak unI x.vs [4,5]=ak.enc x.where_++(ak.enc x.n++([])):=rfl
 have hall:(((out++bw ak unI x.vs [0,1,2])++bw an unT x.vs [3])++bw ak unI x.vs [4,5])=out++(ak.enc x.sec++(ak.enc x.from_++(ak.enc x.to_++(an.enc x.name++(ak.enc x.where_++(ak.enc x.n)))))):=by simp only [e0,e1,e2,List.append_assoc,List.append_nil,List.nil_append,List.cons_append]
 have hs_name:=gP x.name
 simp only [List.length_append] at hl
 refine EN2 Tryz.func231 rfl (ah (DR [11] 12 (VD 0 0 tk164 0 rfl rfl rfl rfl rfl (VM 1 rfl rfl (VN 2 rfl rfl rfl (VO 3 0 rfl rfl rfl (VM 4 rfl rfl (VN 5 rfl rfl rfl (VO 6 1 rfl rfl rfl (VM 7 rfl rfl (VN 8 rfl rfl rfl (VO 9 2 rfl rfl rfl (VB (zs:=[.pointer none]) 10 rfl el313 rfl rfl rfl rfl (.more rfl (.v rfl .nil) (.more rfl (.v rfl .nil) (.more rfl (.v rfl .nil) .nil))) rfl rfl (fun v0_10 => ?_))))))))))))))
 refine VE 11 rfl rfl (EC [1] [0,1,2] rfl (df b bx 268 x.vs p v hp (out) ⟨v0_10,3,[0,1,2]⟩ (aJ x.sec hi_sec rfl (aJ x.from_ hi_from_ rfl (aJ x.to_ hi_to_ rfl bD))) (by simp only [e0,e1,e2,List.length_append,List.length_nil];omega)) ?_)
 rintro _ _ _ ⟨rfl,p_0,v_0,hp_0,rfl⟩
 refine bST rfl ?_
 refine BN (aj (ah (DR [5] 6 (VD 0 0 tk164 1 rfl rfl rfl rfl rfl (VM 1 rfl rfl (VN 2 rfl rfl rfl (VO 3 3 rfl rfl rfl (VB (zs:=[.pointer none]) 4 rfl el314 rfl rfl rfl rfl (.more rfl (.v rfl .nil) .nil) rfl rfl (fun v1_4 => ?_)))))))))
 refine VE 5 rfl rfl (EC [2] [0,1,2] rfl (dX b bx 268 x.vs p_0 v_0 hp_0 (out++bw ak unI x.vs [0,1,2]) ⟨v1_4,1,[3]⟩ (aJ x.name (by omega) rfl bD) (by simp only [e0,e1,e2,List.length_append,List.length_nil];omega)) ?_)
 rintro _ _ _ ⟨rfl,p_1,v_1,hp_1,rfl⟩
 refine bST rfl ?_
 refine BN (aj (DR [8] 9 (VD 0 0 tk164 2 rfl rfl rfl rfl rfl (VM 1 rfl rfl (VN 2 rfl rfl rfl (VO 3 4 rfl rfl rfl (VM 4 rfl rfl (VN 5 rfl rfl rfl (VO 6 5 rfl rfl rfl (VB (zs:=[.pointer none]) 7 rfl el313 rfl rfl rfl rfl (.more rfl (.v rfl .nil) (.more rfl (.v rfl .nil) .nil)) rfl rfl (fun v2_7 => ?_)))))))))))
 refine VE 8 rfl rfl (EC [3] [0,1,2] rfl (df b bx 268 x.vs p_1 v_1 hp_1 ((out++bw ak unI x.vs [0,1,2])++bw an unT x.vs [3]) ⟨v2_7,2,[4,5]⟩ (aJ x.where_ hi_where_ rfl (aJ x.n hi_n rfl bD)) (by simp only [e0,e1,e2,List.length_append,List.length_nil];omega)) ?_)
 rintro _ _ _ ⟨rfl,p_2,v_2,hp_2,rfl⟩
 refine bST rfl ?_
 refine BN (FZ0 [0,1,2] Tryz.results231 ?_)
 rw [← hall];exact ⟨rfl,p_2,v_2,hp_2,rfl⟩
theorem ra(b bc bx:Nat)(x:cC)(hx:mE x)(p v:Value)(hp:p=.pointer none∨p=.pointer (some ⟨b,0,none⟩))(out:List UInt8)(hl:(out++eH.enc (fk x)).length≤1000000000) :
   Con Tryz.prog 233 [.pointer (some ⟨bx,0,none⟩),.pointer (some ⟨bc,0,none⟩)] [atC bc b] [bR b p v (.pointer none),aO v 5 1 (out.map du),Box bx 274 x.vs]
     fun _ ps hp'=>ps=[]∧∃ p' v',(p'=.pointer none∨p'=.pointer (some ⟨b,0,none⟩))∧hp'=[bR b p' v' (.pointer none),aO v' 5 1 ((out++eH.enc (fk x)).map du),Box bx 274 x.vs]:=by
 have he:eH.enc (fk x)=ak.enc x.sec++(ak.enc x.from_++(ak.enc x.to_++(ak.enc x.bytes))):=rfl
 rw [he] at hl ⊢
 obtain ⟨hi_sec,hi_from_,hi_to_,hi_bytes⟩:=hx
 have e0:bw ak unI x.vs [0,1,2,3]=ak.enc x.sec++(ak.enc x.from_++(ak.enc x.to_++(ak.enc x.bytes++([])))):=rfl
 have hall:(out++bw ak unI x.vs [0,1,2,3])=out++(ak.enc x.sec++(ak.enc x.from_++(ak.enc x.to_++(ak.enc x.bytes)))):=by simp only [e0,List.append_assoc,List.append_nil,List.nil_append,List.cons_append]
 simp only [List.length_append] at hl
 refine EN2 Tryz.func233 rfl (DR [14] 15 (VD 0 0 tk164 0 rfl rfl rfl rfl rfl (VM 1 rfl rfl (VN 2 rfl rfl rfl (VO 3 0 rfl rfl rfl (VM 4 rfl rfl (VN 5 rfl rfl rfl (VO 6 1 rfl rfl rfl (VM 7 rfl rfl (VN 8 rfl rfl rfl (VO 9 2 rfl rfl rfl (VM 10 rfl rfl (VN 11 rfl rfl rfl (VO 12 3 rfl rfl rfl ?_))))))))))))))
 refine VB (zs:=[.pointer none]) 13 rfl el313 rfl rfl rfl rfl (.more rfl (.v rfl .nil) (.more rfl (.v rfl .nil) (.more rfl (.v rfl .nil) (.more rfl (.v rfl .nil) .nil)))) rfl rfl (fun v0_13 => ?_)
 refine VE 14 rfl rfl (EC [1] [0,1,2] rfl (df b bx 274 x.vs p v hp (out) ⟨v0_13,4,[0,1,2,3]⟩ (aJ x.sec hi_sec rfl (aJ x.from_ hi_from_ rfl (aJ x.to_ hi_to_ rfl (aJ x.bytes hi_bytes rfl bD)))) (by simp only [e0,List.length_append,List.length_nil];omega)) ?_)
 rintro _ _ _ ⟨rfl,p_0,v_0,hp_0,rfl⟩
 refine bST rfl ?_
 refine BN (FZ0 [0,1,2] Tryz.results233 ?_)
 rw [← hall];exact ⟨rfl,p_0,v_0,hp_0,rfl⟩
end Go.Proofs.YtfkcmbonmpcbfaaGreat

