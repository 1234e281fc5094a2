/- Parts of the proof, in build order. No condition. -/
import Derived.Test.YtfkcmbonmpcbfaaGreatRa23
import Derived.Test.YtfkcmbonmpcbfaaGreatRa05
import Derived.Test.YtfkcmbonmpcbfaaGreatRa09
import Derived.Test.YtfkcmbonmpcbfaaGreatRa08
set_option linter.unusedSimpArgs false
set_option linter.unusedVariables false
set_option maxHeartbeats 1000000
set_option maxRecDepth 20000
namespace Go.Proofs.YtfkcmbonmpcbfaaGreat
open Go.RowKit Go.Lp Go.Sy Go.Lv
open Go.Proofs.Tryz
attribute [local irreducible] aL aB awp aC fwp Quiet
theorem acj{τ:Type}(A:Cod τ){r r':List UInt8}{b b':Bool}{l:τ}(hr:r.length≤4611686018427387904)(h:A.one (.R r b) A.zero=(.R r' b',l)):r'.length≤r.length:=by
 obtain ⟨r1,b1,h1,h2,_⟩:=A.rd r b hr
 rw [h] at h1
 obtain ⟨rfl,rfl⟩:=CS.R.inj h1
 exact h2
theorem wc{α:Type}(A:Cod α):(cA A).zero=[]:=rfl
set_option maxHeartbeats 4000000 in
theorem wz(b rb bt:Nat)(p v:Value)(r:List UInt8)(bad:Bool)(hr:r.length≤1000000) :
   Con Tryz.prog 44 [.pointer (some ⟨b,0,none⟩),.pointer (some ⟨bt,0,none⟩)] [] [bR b p v (.pointer (some ⟨rb,0,none⟩)),rdB rb r bad,Box bt 40 ZI]
     fun _ ps hp'=>∃ (x:az) (r':List UInt8) (bad':Bool),cg.one (.R r bad) cg.zero=(.R r' bad',bQ x)∧ps=[x.ok]∧hp'=[bR b p v (.pointer (some ⟨rb,0,none⟩)),rdB rb r' bad',Box bt 40 x.vs]:=by
 refine Con.rdF (P1:=fun x=>[ShF ba.row x.nodes,bz ba.ok x.nodes.l,ShF bA.row x.exports,bz bA.ok x.exports.l,ShF bK.row x.imports,bz bK.ok x.imports.l,ShF (fun z=>[.v (.int .i64 z)]) x.slots,bz (fun _:Int=>Fa True) x.slots.l,ShF (fun z=>[.v (.int .i64 z)]) x.stubs,bz (fun _:Int=>Fa True) x.stubs.l,ShF fb.row x.dyns,bz (fun _:fb=>Fa True) x.dyns.l,ShF (fun z=>[.v (.int .i64 z)]) x.inits,bz (fun _:Int=>Fa True) x.inits.l,ShF (fun z=>[.v (.int .i64 z)]) x.lasts,bz (fun _:Int=>Fa True) x.lasts.l,ShF (fun s=>[.v (.string s)]) x.needs,bz ef x.needs.l,ShF aH.row x.versions,bz aH.ok x.versions.l,cG.ok x.info,ShF cq.row x.changes,bz cq.ok x.changes.l]) ?_ (fun x r' b' h p hp=>by
   rw [List.mem_singleton.1 hp]
   have hk:cg.ok (bQ x):=cg.okR hr h
   exact Ent.mk2 (Ent.str hk.1) (Ent.mk2 (Ent.str hk.2.2.2.2.2.1) (Ent.mk2 (Ent.str hk.2.2.2.2.2.2.1) (Ent.mk2 (.of (aI 0 rfl)) (Ent.mk2 (.of (aI 1 rfl)) (Ent.mk2 (.of (aI 2 rfl)) (Ent.mk2 (.of (aI 3 rfl)) (Ent.mk2 (.of (aI 4 rfl)) (Ent.mk2 (.of (aI 5 rfl)) (Ent.mk2 (.of (aI 6 rfl)) (Ent.mk2 (.of (aI 8 rfl)) (Ent.mk2 (.of (aI 10 rfl)) (Ent.mk2 (.of (aI 12 rfl)) (Ent.mk2 (.of (aI 14 rfl)) (Ent.mk2 (.of (aI 16 rfl)) (Ent.mk2 (.of (aI 17 rfl)) (Ent.mk2 (.of (aI 18 rfl)) (Ent.mk2 (.of (aI 19 rfl)) (Ent.mk2 (.of (aI 20 rfl)) (Ent.mk2 (.of (aI 21 rfl)) ((.of (aI 22 rfl)))))))))))))))))))))))
 refine EN2 Tryz.func44 rfl (aSR (LT rfl (cK rfl rfl rfl (fun b0_0=>(aHN ?_)))))
 refine aNs (bS 3 rfl rfl ?_)
 show awp _ _ _ _ ⟨_,At _ 0 _::_,_⟩
 refine aa (aU rfl (cF (l:=[.tmp 2]) rfl) (aA rfl (aNn (aSR (aU rfl (cF (l:=[.tmp 2]) rfl) (LT rfl (bk (zs:=[.nilFunc]) (by kernel_rfl) rfl (fun b2_1=>(aHN ?_)))))))))
 refine aD rfl (aF 4 tk170 rfl rfl rfl rfl (aHK ?_))
 refine aNs (bS 4 rfl rfl ?_)
 show awp _ _ _ _ ⟨_,atT b2_1 b0_0::_,_⟩
 refine DR [5] 6 (VD 0 0 tk164 1 rfl rfl rfl rfl rfl (VM 1 rfl rfl (VN 2 rfl rfl rfl (VO 3 0 rfl rfl rfl (VB (zs:=[.pointer none]) 4 rfl el314 rfl rfl rfl rfl (.more rfl (.v rfl .nil) .nil) rfl rfl (fun v3_4=>(VE 5 rfl rfl (EC [2] [0,1,2] rfl (dW b rb bt 40 ZI p v r bad (by omega) ⟨v3_4,1,[0]⟩ (aJ .empty (by decide) rfl bD)) ?_))))))))
 rintro _ _ _ ⟨rfl,r_0,b_0,hq_0,rfl⟩;have hl_0:=cZ (fun _ _ _=>rfl) _ _ _ _ (by omega) hq_0
 refine bST rfl ?_
 refine BN (aj (ah (DR [4] 5 (VD 0 0 tk164 2 rfl rfl rfl rfl rfl (VM 1 rfl rfl (VN 2 rfl rfl rfl (VO 3 1 rfl rfl rfl (VE 4 rfl rfl (EC [] [0,1,2] rfl (kS false b rb bt 40 [.string (an.one (.R r bad) an.zero).2,.bool false,.int .i64 0,.int .i64 0,.int .i64 0,.string .empty,.string .empty,.int .i64 0,.slice none 0 0,.slice none 0 0,.slice none 0 0,.slice none 0 0,.slice none 0 0,.slice none 0 0,.slice none 0 0,.slice none 0 0,.int .i64 0,.slice none 0 0,.slice none 0 0,.slice none 0 0,.slice none 0 0,.slice none 0 0,.slice none 0 0,.slice none 0 0,.slice none 0 0,.slice none 0 0] 1 rfl p v r_0 b_0 (by omega)) ?_)))))))))
 rintro _ _ _ ⟨rfl,r_1,b_1,hq_1,rfl⟩;have hl_1:=kQ (by omega) hq_1
 refine bST rfl ?_
 refine BN (aj (ah (DR [11] 12 (VD 0 0 tk164 2 rfl rfl rfl rfl rfl (VM 1 rfl rfl (VN 2 rfl rfl rfl (VO 3 2 rfl rfl rfl (VM 4 rfl rfl (VN 5 rfl rfl rfl (VO 6 3 rfl rfl rfl (VM 7 rfl rfl (VN 8 rfl rfl rfl (VO 9 4 rfl rfl rfl (VB (zs:=[.pointer none]) 10 rfl el313 rfl rfl rfl rfl (.more rfl (.v rfl .nil) (.more rfl (.v rfl .nil) (.more rfl (.v rfl .nil) .nil))) rfl rfl (fun v5_10 => ?_)))))))))))))))
 refine VE 11 rfl rfl (EC [3] [0,1,2] rfl (db b rb bt 40 [.string (an.one (.R r bad) an.zero).2,.bool (bP.one (.R r_0 b_0) false).2,.int .i64 0,.int .i64 0,.int .i64 0,.string .empty,.string .empty,.int .i64 0,.slice none 0 0,.slice none 0 0,.slice none 0 0,.slice none 0 0,.slice none 0 0,.slice none 0 0,.slice none 0 0,.slice none 0 0,.int .i64 0,.slice none 0 0,.slice none 0 0,.slice none 0 0,.slice none 0 0,.slice none 0 0,.slice none 0 0,.slice none 0 0,.slice none 0 0,.slice none 0 0] p v r_1 b_1 (by omega) ⟨v5_10,3,[2,3,4]⟩ (aJ 0 (by decide) rfl (aJ 0 (by decide) rfl (aJ 0 (by decide) rfl bD)))) ?_)
 rintro _ _ _ ⟨rfl,r_2,b_2,hq_2,rfl⟩;have hl_2:=cZ (fun _ _ _=>rfl) _ _ _ _ (by omega) hq_2
 refine bST rfl ?_
 refine BN (aj (ah (DR [8] 9 (VD 0 0 tk164 3 rfl rfl rfl rfl rfl (VM 1 rfl rfl (VN 2 rfl rfl rfl (VO 3 5 rfl rfl rfl (VM 4 rfl rfl (VN 5 rfl rfl rfl (VO 6 6 rfl rfl rfl (VB (zs:=[.pointer none]) 7 rfl el314 rfl rfl rfl rfl (.more rfl (.v rfl .nil) (.more rfl (.v rfl .nil) .nil)) rfl rfl (fun v6_7=>(VE 8 rfl rfl (EC [4] [0,1,2] rfl (dW b rb bt 40 [.string (an.one (.R r bad) an.zero).2,.bool (bP.one (.R r_0 b_0) false).2,.int .i64 (ak.one (.R r_1 b_1) ak.zero).2,.int .i64 (ak.one (ak.one (.R r_1 b_1) ak.zero).1 ak.zero).2,.int .i64 (ak.one (ak.one (ak.one (.R r_1 b_1) ak.zero).1 ak.zero).1 ak.zero).2,.string .empty,.string .empty,.int .i64 0,.slice none 0 0,.slice none 0 0,.slice none 0 0,.slice none 0 0,.slice none 0 0,.slice none 0 0,.slice none 0 0,.slice none 0 0,.int .i64 0,.slice none 0 0,.slice none 0 0,.slice none 0 0,.slice none 0 0,.slice none 0 0,.slice none 0 0,.slice none 0 0,.slice none 0 0,.slice none 0 0] p v r_2 b_2 (by omega) ⟨v6_7,2,[5,6]⟩ (aJ .empty (by decide) rfl (aJ .empty (by decide) rfl bD))) ?_))))))))))))))
 rintro _ _ _ ⟨rfl,r_3,b_3,hq_3,rfl⟩;have hl_3:=cZ (fun _ _ _=>rfl) _ _ _ _ (by omega) hq_3
 refine bST rfl ?_
 refine BN (aj (ah (DR [5] 6 (VD 0 0 tk164 4 rfl rfl rfl rfl rfl (VM 1 rfl rfl (VN 2 rfl rfl rfl (VO 3 7 rfl rfl rfl (VB (zs:=[.pointer none]) 4 rfl el313 rfl rfl rfl rfl (.more rfl (.v rfl .nil) .nil) rfl rfl (fun v7_4=>(VE 5 rfl rfl (EC [5] [0,1,2] rfl (db b rb bt 40 [.string (an.one (.R r bad) an.zero).2,.bool (bP.one (.R r_0 b_0) false).2,.int .i64 (ak.one (.R r_1 b_1) ak.zero).2,.int .i64 (ak.one (ak.one (.R r_1 b_1) ak.zero).1 ak.zero).2,.int .i64 (ak.one (ak.one (ak.one (.R r_1 b_1) ak.zero).1 ak.zero).1 ak.zero).2,.string (an.one (.R r_2 b_2) an.zero).2,.string (an.one (an.one (.R r_2 b_2) an.zero).1 an.zero).2,.int .i64 0,.slice none 0 0,.slice none 0 0,.slice none 0 0,.slice none 0 0,.slice none 0 0,.slice none 0 0,.slice none 0 0,.slice none 0 0,.int .i64 0,.slice none 0 0,.slice none 0 0,.slice none 0 0,.slice none 0 0,.slice none 0 0,.slice none 0 0,.slice none 0 0,.slice none 0 0,.slice none 0 0] p v r_3 b_3 (by omega) ⟨v7_4,1,[7]⟩ (aJ 0 (by decide) rfl bD)) ?_)))))))))))
 rintro _ _ _ ⟨rfl,r_4,b_4,hq_4,rfl⟩;have hl_4:=cZ (fun _ _ _=>rfl) _ _ _ _ (by omega) hq_4
 refine bST rfl ?_
 refine BN (aj (ah (DR [5] 6 (VD 0 0 tk164 5 rfl rfl rfl rfl rfl (VM 1 rfl rfl (VN 2 rfl rfl rfl (VO 3 8 rfl rfl rfl (bV 4 rfl rfl (cF (l:=[.tmp 2]) rfl) (VE 5 rfl rfl (EC [0] [0,1,2] rfl (na b rb bt 40 [.string (an.one (.R r bad) an.zero).2,.bool (bP.one (.R r_0 b_0) false).2,.int .i64 (ak.one (.R r_1 b_1) ak.zero).2,.int .i64 (ak.one (ak.one (.R r_1 b_1) ak.zero).1 ak.zero).2,.int .i64 (ak.one (ak.one (ak.one (.R r_1 b_1) ak.zero).1 ak.zero).1 ak.zero).2,.string (an.one (.R r_2 b_2) an.zero).2,.string (an.one (an.one (.R r_2 b_2) an.zero).1 an.zero).2,.int .i64 (ak.one (.R r_3 b_3) ak.zero).2,.slice none 0 0,.slice none 0 0,.slice none 0 0,.slice none 0 0,.slice none 0 0,.slice none 0 0,.slice none 0 0,.slice none 0 0,.int .i64 0,.slice none 0 0,.slice none 0 0,.slice none 0 0,.slice none 0 0,.slice none 0 0,.slice none 0 0,.slice none 0 0,.slice none 0 0,.slice none 0 0] 8 rfl p v r_4 b_4 (by omega) dN et ba.ok 107 [.pointer (some ⟨b0_0,0,none⟩)] (atC b0_0 b) (by kernel_rfl) (fun r bad bx hr=>pA b rb b0_0 bx p v r bad hr)) ?_))))))))))
 rintro _ _ _ ⟨l_nodes,r_5,b_5,hq_5,rfl,rfl⟩;have hl_5:=dy (by omega) hq_5
 refine bST rfl ?_
 refine BN (aj (ah (DR [5] 6 (VD 0 0 tk164 7 rfl rfl rfl rfl rfl (VM 1 rfl rfl (VN 2 rfl rfl rfl (VO 3 9 rfl rfl rfl (bV 4 rfl rfl (cF (l:=[.tmp 2]) rfl) (VE 5 rfl rfl (EC [0] [0,1,2] rfl (mX b rb bt 40 [.string (an.one (.R r bad) an.zero).2,.bool (bP.one (.R r_0 b_0) false).2,.int .i64 (ak.one (.R r_1 b_1) ak.zero).2,.int .i64 (ak.one (ak.one (.R r_1 b_1) ak.zero).1 ak.zero).2,.int .i64 (ak.one (ak.one (ak.one (.R r_1 b_1) ak.zero).1 ak.zero).1 ak.zero).2,.string (an.one (.R r_2 b_2) an.zero).2,.string (an.one (an.one (.R r_2 b_2) an.zero).1 an.zero).2,.int .i64 (ak.one (.R r_3 b_3) ak.zero).2,l_nodes.val,.slice none 0 0,.slice none 0 0,.slice none 0 0,.slice none 0 0,.slice none 0 0,.slice none 0 0,.slice none 0 0,.int .i64 0,.slice none 0 0,.slice none 0 0,.slice none 0 0,.slice none 0 0,.slice none 0 0,.slice none 0 0,.slice none 0 0,.slice none 0 0,.slice none 0 0] 9 rfl p v r_5 b_5 (by omega) dL eo bA.ok 109 [.pointer (some ⟨b0_0,0,none⟩)] (atC b0_0 b) (by kernel_rfl) (fun r bad bx hr=>px b rb b0_0 bx p v r bad hr)) ?_))))))))))
 rintro _ _ _ ⟨l_exports,r_6,b_6,hq_6,rfl,rfl⟩;have hl_6:=dy (by omega) hq_6
 refine bST rfl ?_
 refine BN (aj (ah (DR [5] 6 (VD 0 0 tk164 9 rfl rfl rfl rfl rfl (VM 1 rfl rfl (VN 2 rfl rfl rfl (VO 3 10 rfl rfl rfl (bV 4 rfl rfl (cF (l:=[.tmp 2]) rfl) (VE 5 rfl rfl (EC [0] [0,1,2] rfl (mY b rb bt 40 [.string (an.one (.R r bad) an.zero).2,.bool (bP.one (.R r_0 b_0) false).2,.int .i64 (ak.one (.R r_1 b_1) ak.zero).2,.int .i64 (ak.one (ak.one (.R r_1 b_1) ak.zero).1 ak.zero).2,.int .i64 (ak.one (ak.one (ak.one (.R r_1 b_1) ak.zero).1 ak.zero).1 ak.zero).2,.string (an.one (.R r_2 b_2) an.zero).2,.string (an.one (an.one (.R r_2 b_2) an.zero).1 an.zero).2,.int .i64 (ak.one (.R r_3 b_3) ak.zero).2,l_nodes.val,l_exports.val,.slice none 0 0,.slice none 0 0,.slice none 0 0,.slice none 0 0,.slice none 0 0,.slice none 0 0,.int .i64 0,.slice none 0 0,.slice none 0 0,.slice none 0 0,.slice none 0 0,.slice none 0 0,.slice none 0 0,.slice none 0 0,.slice none 0 0,.slice none 0 0] 10 rfl p v r_6 b_6 (by omega) dM ep bK.ok 111 [.pointer (some ⟨b0_0,0,none⟩)] (atC b0_0 b) (by kernel_rfl) (fun r bad bx hr=>py b rb b0_0 bx p v r bad hr)) ?_))))))))))
 rintro _ _ _ ⟨l_imports,r_7,b_7,hq_7,rfl,rfl⟩;have hl_7:=dy (by omega) hq_7
 refine bST rfl ?_
 refine BN (aj (ah (DR [5] 6 (VD 0 0 tk164 11 rfl rfl rfl rfl rfl (VM 1 rfl rfl (VN 2 rfl rfl rfl (VO 3 11 rfl rfl rfl (VM 4 rfl rfl (VE 5 rfl rfl (EC [0] [0,1,2] rfl (gR b rb bt 40 [.string (an.one (.R r bad) an.zero).2,.bool (bP.one (.R r_0 b_0) false).2,.int .i64 (ak.one (.R r_1 b_1) ak.zero).2,.int .i64 (ak.one (ak.one (.R r_1 b_1) ak.zero).1 ak.zero).2,.int .i64 (ak.one (ak.one (ak.one (.R r_1 b_1) ak.zero).1 ak.zero).1 ak.zero).2,.string (an.one (.R r_2 b_2) an.zero).2,.string (an.one (an.one (.R r_2 b_2) an.zero).1 an.zero).2,.int .i64 (ak.one (.R r_3 b_3) ak.zero).2,l_nodes.val,l_exports.val,l_imports.val,.slice none 0 0,.slice none 0 0,.slice none 0 0,.slice none 0 0,.slice none 0 0,.int .i64 0,.slice none 0 0,.slice none 0 0,.slice none 0 0,.slice none 0 0,.slice none 0 0,.slice none 0 0,.slice none 0 0,.slice none 0 0,.slice none 0 0] 11 rfl p v r_7 b_7 (by omega) ak (fun y=>y) (fun _:Int=>Fa True) 101 [.pointer (some ⟨b0_0,0,none⟩)] (atC b0_0 b) (by kernel_rfl) (fun r bad bx hr=>i6 b rb b0_0 bx p v r bad hr)) ?_))))))))))
 rintro _ _ _ ⟨l_slots,r_8,b_8,hq_8,rfl,rfl⟩;have hl_8:=dy (by omega) hq_8;rw [List.map_id'] at hq_8
 refine bST rfl ?_
 refine BN (aj (ah (DR [5] 6 (VD 0 0 tk164 13 rfl rfl rfl rfl rfl (VM 1 rfl rfl (VN 2 rfl rfl rfl (VO 3 12 rfl rfl rfl (VM 4 rfl rfl (VE 5 rfl rfl (EC [0] [0,1,2] rfl (gR b rb bt 40 [.string (an.one (.R r bad) an.zero).2,.bool (bP.one (.R r_0 b_0) false).2,.int .i64 (ak.one (.R r_1 b_1) ak.zero).2,.int .i64 (ak.one (ak.one (.R r_1 b_1) ak.zero).1 ak.zero).2,.int .i64 (ak.one (ak.one (ak.one (.R r_1 b_1) ak.zero).1 ak.zero).1 ak.zero).2,.string (an.one (.R r_2 b_2) an.zero).2,.string (an.one (an.one (.R r_2 b_2) an.zero).1 an.zero).2,.int .i64 (ak.one (.R r_3 b_3) ak.zero).2,l_nodes.val,l_exports.val,l_imports.val,l_slots.val,.slice none 0 0,.slice none 0 0,.slice none 0 0,.slice none 0 0,.int .i64 0,.slice none 0 0,.slice none 0 0,.slice none 0 0,.slice none 0 0,.slice none 0 0,.slice none 0 0,.slice none 0 0,.slice none 0 0,.slice none 0 0] 12 rfl p v r_8 b_8 (by omega) ak (fun y=>y) (fun _:Int=>Fa True) 101 [.pointer (some ⟨b0_0,0,none⟩)] (atC b0_0 b) (by kernel_rfl) (fun r bad bx hr=>i6 b rb b0_0 bx p v r bad hr)) ?_))))))))))
 rintro _ _ _ ⟨l_stubs,r_9,b_9,hq_9,rfl,rfl⟩;have hl_9:=dy (by omega) hq_9;rw [List.map_id'] at hq_9
 refine bST rfl ?_
 refine BN (aj (ah (DR [5] 6 (VD 0 0 tk164 15 rfl rfl rfl rfl rfl (VM 1 rfl rfl (VN 2 rfl rfl rfl (VO 3 13 rfl rfl rfl (bV 4 rfl rfl (cF (l:=[.tmp 2]) rfl) (VE 5 rfl rfl (EC [0] [0,1,2] rfl (rh b rb bt 40 [.string (an.one (.R r bad) an.zero).2,.bool (bP.one (.R r_0 b_0) false).2,.int .i64 (ak.one (.R r_1 b_1) ak.zero).2,.int .i64 (ak.one (ak.one (.R r_1 b_1) ak.zero).1 ak.zero).2,.int .i64 (ak.one (ak.one (ak.one (.R r_1 b_1) ak.zero).1 ak.zero).1 ak.zero).2,.string (an.one (.R r_2 b_2) an.zero).2,.string (an.one (an.one (.R r_2 b_2) an.zero).1 an.zero).2,.int .i64 (ak.one (.R r_3 b_3) ak.zero).2,l_nodes.val,l_exports.val,l_imports.val,l_slots.val,l_stubs.val,.slice none 0 0,.slice none 0 0,.slice none 0 0,.int .i64 0,.slice none 0 0,.slice none 0 0,.slice none 0 0,.slice none 0 0,.slice none 0 0,.slice none 0 0,.slice none 0 0,.slice none 0 0,.slice none 0 0] 13 rfl p v r_9 b_9 (by omega) jl iT (fun _:fb=>Fa True) 114 [.pointer (some ⟨b0_0,0,none⟩)] (atC b0_0 b) (by kernel_rfl) (fun r bad bx hr=>uj b rb b0_0 bx p v r bad hr)) ?_))))))))))
 rintro _ _ _ ⟨l_dyns,r_10,b_10,hq_10,rfl,rfl⟩;have hl_10:=dy (by omega) hq_10
 refine bST rfl ?_
 refine BN (aj (ah (DR [5] 6 (VD 0 0 tk164 17 rfl rfl rfl rfl rfl (VM 1 rfl rfl (VN 2 rfl rfl rfl (VO 3 14 rfl rfl rfl (VM 4 rfl rfl (VE 5 rfl rfl (EC [0] [0,1,2] rfl (gR b rb bt 40 [.string (an.one (.R r bad) an.zero).2,.bool (bP.one (.R r_0 b_0) false).2,.int .i64 (ak.one (.R r_1 b_1) ak.zero).2,.int .i64 (ak.one (ak.one (.R r_1 b_1) ak.zero).1 ak.zero).2,.int .i64 (ak.one (ak.one (ak.one (.R r_1 b_1) ak.zero).1 ak.zero).1 ak.zero).2,.string (an.one (.R r_2 b_2) an.zero).2,.string (an.one (an.one (.R r_2 b_2) an.zero).1 an.zero).2,.int .i64 (ak.one (.R r_3 b_3) ak.zero).2,l_nodes.val,l_exports.val,l_imports.val,l_slots.val,l_stubs.val,l_dyns.val,.slice none 0 0,.slice none 0 0,.int .i64 0,.slice none 0 0,.slice none 0 0,.slice none 0 0,.slice none 0 0,.slice none 0 0,.slice none 0 0,.slice none 0 0,.slice none 0 0,.slice none 0 0] 14 rfl p v r_10 b_10 (by omega) ak (fun y=>y) (fun _:Int=>Fa True) 101 [.pointer (some ⟨b0_0,0,none⟩)] (atC b0_0 b) (by kernel_rfl) (fun r bad bx hr=>i6 b rb b0_0 bx p v r bad hr)) ?_))))))))))
 rintro _ _ _ ⟨l_inits,r_11,b_11,hq_11,rfl,rfl⟩;have hl_11:=dy (by omega) hq_11;rw [List.map_id'] at hq_11
 refine bST rfl ?_
 refine BN (aj (ah (DR [5] 6 (VD 0 0 tk164 19 rfl rfl rfl rfl rfl (VM 1 rfl rfl (VN 2 rfl rfl rfl (VO 3 15 rfl rfl rfl (VM 4 rfl rfl (VE 5 rfl rfl (EC [0] [0,1,2] rfl (gR b rb bt 40 [.string (an.one (.R r bad) an.zero).2,.bool (bP.one (.R r_0 b_0) false).2,.int .i64 (ak.one (.R r_1 b_1) ak.zero).2,.int .i64 (ak.one (ak.one (.R r_1 b_1) ak.zero).1 ak.zero).2,.int .i64 (ak.one (ak.one (ak.one (.R r_1 b_1) ak.zero).1 ak.zero).1 ak.zero).2,.string (an.one (.R r_2 b_2) an.zero).2,.string (an.one (an.one (.R r_2 b_2) an.zero).1 an.zero).2,.int .i64 (ak.one (.R r_3 b_3) ak.zero).2,l_nodes.val,l_exports.val,l_imports.val,l_slots.val,l_stubs.val,l_dyns.val,l_inits.val,.slice none 0 0,.int .i64 0,.slice none 0 0,.slice none 0 0,.slice none 0 0,.slice none 0 0,.slice none 0 0,.slice none 0 0,.slice none 0 0,.slice none 0 0,.slice none 0 0] 15 rfl p v r_11 b_11 (by omega) ak (fun y=>y) (fun _:Int=>Fa True) 101 [.pointer (some ⟨b0_0,0,none⟩)] (atC b0_0 b) (by kernel_rfl) (fun r bad bx hr=>i6 b rb b0_0 bx p v r bad hr)) ?_))))))))))
 rintro _ _ _ ⟨l_lasts,r_12,b_12,hq_12,rfl,rfl⟩;have hl_12:=dy (by omega) hq_12;rw [List.map_id'] at hq_12
 refine bST rfl ?_
 refine BN (aj (ah (DR [5] 6 (VD 0 0 tk164 21 rfl rfl rfl rfl rfl (VM 1 rfl rfl (VN 2 rfl rfl rfl (VO 3 16 rfl rfl rfl (VB (zs:=[.pointer none]) 4 rfl el313 rfl rfl rfl rfl (.more rfl (.v rfl .nil) .nil) rfl rfl (fun v16_4=>(VE 5 rfl rfl (EC [22] [0,1,2] rfl (db b rb bt 40 [.string (an.one (.R r bad) an.zero).2,.bool (bP.one (.R r_0 b_0) false).2,.int .i64 (ak.one (.R r_1 b_1) ak.zero).2,.int .i64 (ak.one (ak.one (.R r_1 b_1) ak.zero).1 ak.zero).2,.int .i64 (ak.one (ak.one (ak.one (.R r_1 b_1) ak.zero).1 ak.zero).1 ak.zero).2,.string (an.one (.R r_2 b_2) an.zero).2,.string (an.one (an.one (.R r_2 b_2) an.zero).1 an.zero).2,.int .i64 (ak.one (.R r_3 b_3) ak.zero).2,l_nodes.val,l_exports.val,l_imports.val,l_slots.val,l_stubs.val,l_dyns.val,l_inits.val,l_lasts.val,.int .i64 0,.slice none 0 0,.slice none 0 0,.slice none 0 0,.slice none 0 0,.slice none 0 0,.slice none 0 0,.slice none 0 0,.slice none 0 0,.slice none 0 0] p v r_12 b_12 (by omega) ⟨v16_4,1,[16]⟩ (aJ 0 (by decide) rfl bD)) ?_)))))))))))
 rintro _ _ _ ⟨rfl,r_13,b_13,hq_13,rfl⟩;have hl_13:=cZ (fun _ _ _=>rfl) _ _ _ _ (by omega) hq_13
 refine bST rfl ?_
 refine BN (aj (ah (DR [5] 6 (VD 0 0 tk164 22 rfl rfl rfl rfl rfl (VM 1 rfl rfl (VN 2 rfl rfl rfl (VO 3 17 rfl rfl rfl (VD 4 0 tk170 21 rfl rfl rfl rfl rfl (VE 5 rfl rfl (EC [0] [0,1,2] rfl (jv b rb bt 40 [.string (an.one (.R r bad) an.zero).2,.bool (bP.one (.R r_0 b_0) false).2,.int .i64 (ak.one (.R r_1 b_1) ak.zero).2,.int .i64 (ak.one (ak.one (.R r_1 b_1) ak.zero).1 ak.zero).2,.int .i64 (ak.one (ak.one (ak.one (.R r_1 b_1) ak.zero).1 ak.zero).1 ak.zero).2,.string (an.one (.R r_2 b_2) an.zero).2,.string (an.one (an.one (.R r_2 b_2) an.zero).1 an.zero).2,.int .i64 (ak.one (.R r_3 b_3) ak.zero).2,l_nodes.val,l_exports.val,l_imports.val,l_slots.val,l_stubs.val,l_dyns.val,l_inits.val,l_lasts.val,.int .i64 (ak.one (.R r_12 b_12) ak.zero).2,.slice none 0 0,.slice none 0 0,.slice none 0 0,.slice none 0 0,.slice none 0 0,.slice none 0 0,.slice none 0 0,.slice none 0 0,.slice none 0 0] 17 rfl p v r_13 b_13 (by omega) an (fun y=>y) ef 103 [.pointer (some ⟨b0_0,0,none⟩)] (atC b0_0 b) (by kernel_rfl) (fun r bad bx hr=>mm b rb b0_0 bx p v r bad hr)) ?_))))))))))
 rintro _ _ _ ⟨l_needs,r_14,b_14,hq_14,rfl,rfl⟩;have hl_14:=dy (by omega) hq_14;rw [List.map_id'] at hq_14
 refine bST rfl ?_
 refine BN (aj (ah (aR (cM (atC b0_0 b) (atT b2_1 b0_0)) (Ent.mk2 (.of (aI 24 rfl)) (.of (aI 23 rfl))) (DR [5] 6 (VD 0 0 tk164 25 rfl rfl rfl rfl rfl (VM 1 rfl rfl (VN 2 rfl rfl rfl (VO 3 18 rfl rfl rfl (bV 4 rfl rfl (cF (l:=[.tmp 2,.tmp 5]) rfl) (VE 5 rfl rfl (EC [25] [0,1,2] rfl (km b rb bt 40 [.string (an.one (.R r bad) an.zero).2,.bool (bP.one (.R r_0 b_0) false).2,.int .i64 (ak.one (.R r_1 b_1) ak.zero).2,.int .i64 (ak.one (ak.one (.R r_1 b_1) ak.zero).1 ak.zero).2,.int .i64 (ak.one (ak.one (ak.one (.R r_1 b_1) ak.zero).1 ak.zero).1 ak.zero).2,.string (an.one (.R r_2 b_2) an.zero).2,.string (an.one (an.one (.R r_2 b_2) an.zero).1 an.zero).2,.int .i64 (ak.one (.R r_3 b_3) ak.zero).2,l_nodes.val,l_exports.val,l_imports.val,l_slots.val,l_stubs.val,l_dyns.val,l_inits.val,l_lasts.val,.int .i64 (ak.one (.R r_12 b_12) ak.zero).2,l_needs.val,.slice none 0 0,.slice none 0 0,.slice none 0 0,.slice none 0 0,.slice none 0 0,.slice none 0 0,.slice none 0 0,.slice none 0 0] 18 rfl p v r_14 b_14 (by omega) cI di aH.ok 117 [.pointer (some ⟨b0_0,0,none⟩),.pointer (some ⟨b2_1,0,none⟩)] (cM (atC b0_0 b) (atT b2_1 b0_0)) (by kernel_rfl) (fun r bad bx hr=>lO b rb b0_0 b2_1 bx p v r bad hr)) ?_)))))))))))
 rintro _ _ _ ⟨l_versions,r_15,b_15,hq_15,rfl,rfl⟩;have hl_15:=dy (by omega) hq_15
 refine bST rfl ?_
 refine BN (aj (ah (DR [4] 5 (VD 0 0 tk164 27 rfl rfl rfl rfl rfl (VM 1 rfl rfl (VN 2 rfl rfl rfl (VO 3 19 rfl rfl rfl (VE 4 rfl rfl (EC [] [0,1,2] rfl (y4 b rb bt 40 [.string (an.one (.R r bad) an.zero).2,.bool (bP.one (.R r_0 b_0) false).2,.int .i64 (ak.one (.R r_1 b_1) ak.zero).2,.int .i64 (ak.one (ak.one (.R r_1 b_1) ak.zero).1 ak.zero).2,.int .i64 (ak.one (ak.one (ak.one (.R r_1 b_1) ak.zero).1 ak.zero).1 ak.zero).2,.string (an.one (.R r_2 b_2) an.zero).2,.string (an.one (an.one (.R r_2 b_2) an.zero).1 an.zero).2,.int .i64 (ak.one (.R r_3 b_3) ak.zero).2,l_nodes.val,l_exports.val,l_imports.val,l_slots.val,l_stubs.val,l_dyns.val,l_inits.val,l_lasts.val,.int .i64 (ak.one (.R r_12 b_12) ak.zero).2,l_needs.val,l_versions.val,.slice none 0 0,.slice none 0 0,.slice none 0 0,.slice none 0 0,.slice none 0 0,.slice none 0 0,.slice none 0 0] rfl rfl rfl rfl rfl rfl p v r_15 b_15 (by omega)) ?_)))))))))
 rintro _ _ _ ⟨l_info,r_16,b_16,hq_16,rfl,rfl⟩;have hl_16:=acj fq (by omega) hq_16
 refine bST rfl ?_
 refine BN (aj (DR [5] 6 (VD 0 0 tk164 28 rfl rfl rfl rfl rfl (VM 1 rfl rfl (VN 2 rfl rfl rfl (VO 3 25 rfl rfl rfl (bV 4 rfl rfl (cF (l:=[.tmp 2]) rfl) (VE 5 rfl rfl (EC [0] [0,1,2] rfl (pO b rb bt 40 [.string (an.one (.R r bad) an.zero).2,.bool (bP.one (.R r_0 b_0) false).2,.int .i64 (ak.one (.R r_1 b_1) ak.zero).2,.int .i64 (ak.one (ak.one (.R r_1 b_1) ak.zero).1 ak.zero).2,.int .i64 (ak.one (ak.one (ak.one (.R r_1 b_1) ak.zero).1 ak.zero).1 ak.zero).2,.string (an.one (.R r_2 b_2) an.zero).2,.string (an.one (an.one (.R r_2 b_2) an.zero).1 an.zero).2,.int .i64 (ak.one (.R r_3 b_3) ak.zero).2,l_nodes.val,l_exports.val,l_imports.val,l_slots.val,l_stubs.val,l_dyns.val,l_inits.val,l_lasts.val,.int .i64 (ak.one (.R r_12 b_12) ak.zero).2,l_needs.val,l_versions.val,l_info.marks.val,l_info.lines.val,l_info.ends.val,l_info.inlines.val,l_info.vars.val,l_info.depths.val,.slice none 0 0] 25 rfl p v r_16 b_16 (by omega) fS fZ cq.ok 120 [.pointer (some ⟨b0_0,0,none⟩)] (atC b0_0 b) (by kernel_rfl) (fun r bad bx hr=>sJ b rb b0_0 bx p v r bad hr)) ?_)))))))))
 rintro _ _ _ ⟨l_changes,r_17,b_17,hq_17,rfl,rfl⟩;have hl_17:=dy (by omega) hq_17
 refine bST rfl ?_
 refine BN ?_
 refine th [7,6,9,8,11,10,13,12,15,14,17,16,19,18,21,20,24,23,27,26,28,30,29] [0,1,2] rfl Tryz.results44 ?_ (.inl rfl)
 have k_0:(an.one (.R r bad) an.zero).1=.R r_0 b_0:=hq_0
 have k_1:(bP.one (.R r_0 b_0) bP.zero).1=.R r_1 b_1:=hq_1
 have k_2:(ak.one (ak.one (ak.one (.R r_1 b_1) ak.zero).1 ak.zero).1 ak.zero).1=.R r_2 b_2:=hq_2
 have k_3:(an.one (an.one (.R r_2 b_2) an.zero).1 an.zero).1=.R r_3 b_3:=hq_3
 have k_4:(ak.one (.R r_3 b_3) ak.zero).1=.R r_4 b_4:=hq_4
 have k_13:(ak.one (.R r_12 b_12) ak.zero).1=.R r_13 b_13:=hq_13
 refine ⟨⟨(an.one (.R r bad) an.zero).2,(bP.one (.R r_0 b_0) false).2,(ak.one (.R r_1 b_1) ak.zero).2,(ak.one (ak.one (.R r_1 b_1) ak.zero).1 ak.zero).2,(ak.one (ak.one (ak.one (.R r_1 b_1) ak.zero).1 ak.zero).1 ak.zero).2,(an.one (.R r_2 b_2) an.zero).2,(an.one (an.one (.R r_2 b_2) an.zero).1 an.zero).2,(ak.one (.R r_3 b_3) ak.zero).2,l_nodes,l_exports,l_imports,l_slots,l_stubs,l_dyns,l_inits,l_lasts,(ak.one (.R r_12 b_12) ak.zero).2,l_needs,l_versions,l_info,l_changes⟩,r_17,b_17,?_,rfl,rfl⟩
 unfold cg
 simp only [eF,dY,wc]
 rw [k_0]
 rw [k_1]
 rw [k_2]
 rw [k_3]
 rw [k_4]
 rw [hq_5]
 try dsimp only
 rw [hq_6]
 try dsimp only
 rw [hq_7]
 try dsimp only
 rw [hq_8]
 try dsimp only
 rw [hq_9]
 try dsimp only
 rw [hq_10]
 try dsimp only
 rw [hq_11]
 try dsimp only
 rw [hq_12]
 try dsimp only
 rw [k_13]
 rw [hq_14]
 try dsimp only
 rw [hq_15]
 try dsimp only
 rw [hq_16]
 try dsimp only
 rw [hq_17]
 try dsimp only
 all_goals rfl
end Go.Proofs.YtfkcmbonmpcbfaaGreat

namespace Go.Sy
open Go.RowKit Go.Lp
theorem abx{w:World}{S F:bO}{v:Value}{E:TypeId}{sz:Nat}{rows:List (List D)}(h:(aO v E sz rows).holds w S F)(hne:rows≠[]):∃ g cap,v=.slice (some ⟨g,0,none⟩) rows.length cap∧cap≠0:=by
 rcases h with ⟨_,h2,_⟩ | ⟨b,cap,h1,⟨_,_,_,_,_,h3,_⟩,_⟩
 · exact absurd h2 hne
 · refine ⟨b,cap,h1,fun e=>hne ?_⟩
   subst e
   exact List.eq_nil_of_length_eq_zero (by omega)
end Go.Sy
namespace Go.Proofs.YtfkcmbonmpcbfaaGreat
open Go.RowKit Go.Lp Go.Sy Go.Lv
open Go.Proofs.Tryz
attribute [local irreducible] aL aB awp aC fwp Quiet
theorem gW(x:az)(hx:eE x)(hl:(cg.enc (bQ x)).length≤1000000000):Con Tryz.prog 12 [x.val] [x.ok] [] fun r ps hp=>ps=[]∧hp=[]∧r=.string (bytesOf (cg.enc (bQ x))):=by
 have hne:cg.enc (bQ x)≠[]:=fun h=>by have:=cg.pos (bQ x);rw [h] at this;cases this
 refine EN1 Tryz.func12 rfl (aSR (LT rfl (cK rfl rfl rfl (fun b0_0=>(aHN ?_)))))
 refine aA rfl (aNn (aSR (LT rfl (bk (zs:=[.pointer none,.slice none 0 0,.pointer none]) (by kernel_rfl) rfl (fun b1_0=>(aHN ?_))))))
 refine aNs (cW 5 1 ?_)
 show awp _ _ _ _ ⟨_,_,[_,_,_]⟩
 refine aa (LF rfl (EC [0] [1,2,0] rfl (wA x hx b1_0 b0_0 (.pointer none) (.slice none 0 0) (.inl rfl) [] hl) ?_))
 rintro _ _ _ ⟨rfl,p1,v1,hp1,rfl⟩
 refine aST ?_
 refine aNs ?_
 have hne2:=hne
 refine fH 2 rfl (fun _ _ _ h=>abx h (fun h=>hne (List.map_eq_nil_iff.1 h))) (fun ⟨g,cp,hv,hcp⟩ => ?_)
 rw [List.length_map] at hv
 subst hv
 refine aa (UO 0 rfl rfl (LF rfl (EC [] [1,2] rfl (aaF b1_0 p1 g cp hcp (.pointer none) (cg.enc (bQ x)) hne) ?_)))
 rintro _ _ _ ⟨rfl,rfl,rfl⟩
 refine aST ?_
 refine aA rfl (aNn (ax (FZ1 [] Tryz.results12 rfl ?_)))
 exact ⟨rfl,rfl,rfl⟩
end Go.Proofs.YtfkcmbonmpcbfaaGreat

namespace Go.Proofs.YtfkcmbonmpcbfaaGreat
open Go.RowKit Go.Lp Go.Sy Go.Lv
theorem xe{x:ba}(h:dN.ok (et x)):jI x:=⟨h.2.2.1,h.2.2.2.1,h.2.2.2.2.1⟩
theorem xb{x:bA}(h:dL.ok (eo x)):jH x:=⟨h.2.2.2.1,h.2.2.2.2.1,h.2.2.2.2.2⟩
theorem xc{x:bK}(h:dM.ok (ep x)):lk x:=h.2.2.1
theorem acD{x:fb}(h:jl.ok (iT x)):tn x:=⟨h.1,h.2.1,h.2.2.1,h.2.2.2⟩
theorem zO{x:dw}(h:eJ.ok (fl x)):mG x:=⟨h.1,h.2.1,h.2.2⟩
theorem abm{x:cN}(h:fB.ok (gb x)):oU x:=⟨h.2.1,h.2.2.1,h.2.2.2⟩
theorem abl{x:cS}(h:fA.ok (ga x)):oT x:=⟨h.1,h.2.1,h.2.2.2⟩
theorem abn{x:bC}(h:fT.ok (gy x)):oV x:=⟨h.1,h.2⟩
theorem xd{x:bF}(h:dH.ok (er x)):lq x:=⟨h.1,h.2.1,h.2.2.1,h.2.2.2.2.2⟩
theorem acE{x:dJ}(h:ir.ok (ik x)):tp x:=⟨h.1,h.2.1,h.2.2.1,h.2.2.2.2.1,h.2.2.2.2.2⟩
theorem zM{x:cC}(h:eH.ok (fk x)):mE x:=⟨h.1,h.2.1,h.2.2.1,h.2.2.2⟩
theorem abj{x:cq}(h:fS.ok (fZ x)):mD x:=⟨fun y hy=>zO (h.2.2.2.1.2 _ (List.mem_map_of_mem hy)),h.2.2.2.2⟩
theorem abk{x:cG}(h:fq.ok (eZ x)):mF x:=⟨fun y hy=>abm ((h.1).2 _ (List.mem_map_of_mem hy)),fun y hy=>abl ((h.2.1).2 _ (List.mem_map_of_mem hy)),fun y hy=>abn ((h.2.2.1).2 _ (List.mem_map_of_mem hy)),fun y hy=>xd ((h.2.2.2.1).2 _ (List.mem_map_of_mem hy)),fun y hy=>acE ((h.2.2.2.2.1).2 _ (List.mem_map_of_mem hy)),fun y hy=>zM ((h.2.2.2.2.2).2 _ (List.mem_map_of_mem hy))⟩
theorem zN{x:az}(h:cg.ok (bQ x)):eE x:=⟨h.2.2.1,h.2.2.2.1,h.2.2.2.2.1,h.2.2.2.2.2.2.2.1,h.2.2.2.2.2.2.2.2.2.2.2.2.2.2.2.2.1,fun y hy=>xe ((h.2.2.2.2.2.2.2.2.1).2 _ (List.mem_map_of_mem hy)),fun y hy=>xb ((h.2.2.2.2.2.2.2.2.2.1).2 _ (List.mem_map_of_mem hy)),fun y hy=>xc ((h.2.2.2.2.2.2.2.2.2.2.1).2 _ (List.mem_map_of_mem hy)),fun y hy=>(h.2.2.2.2.2.2.2.2.2.2.2.1).2 y hy,fun y hy=>(h.2.2.2.2.2.2.2.2.2.2.2.2.1).2 y hy,fun y hy=>acD ((h.2.2.2.2.2.2.2.2.2.2.2.2.2.1).2 _ (List.mem_map_of_mem hy)),fun y hy=>(h.2.2.2.2.2.2.2.2.2.2.2.2.2.2.1).2 y hy,fun y hy=>(h.2.2.2.2.2.2.2.2.2.2.2.2.2.2.2.1).2 y hy,abk (h.2.2.2.2.2.2.2.2.2.2.2.2.2.2.2.2.2.2.2.1),fun y hy=>abj ((h.2.2.2.2.2.2.2.2.2.2.2.2.2.2.2.2.2.2.2.2).2 _ (List.mem_map_of_mem hy))⟩
theorem aaB:cg.K≤1000:=by decide
theorem jF{x:az}{r r':List UInt8}{b b':Bool}(hr:r.length≤1000000)(h:cg.one (.R r b) cg.zero=(.R r' b',bQ x)):eE x∧(cg.enc (bQ x)).length≤1000000000:=by
 obtain ⟨r1,b1,h1,h2,h3,h4⟩:=cg.rd r b (by omega)
 rw [h] at h1 h3 h4
 have hK:=aaB
 refine ⟨zN h3,Nat.le_trans h4 ?_⟩
 split<;>omega
open Go.Proofs.Tryz
attribute [local irreducible] aL aB awp aC fwp Quiet
theorem lR(s:List UInt8)(hs:s.length≤1000000):Con Tryz.prog 9 [.string (bytesOf s)] [] [] fun r ps hp=>hp=[]∧∃ (x:az) (r':List UInt8) (b':Bool),cg.one (.R s false) cg.zero=(.R r' b',bQ x)∧ps=[x.ok] ∧
   r=if ((!(!b' && r'.isEmpty)) || !decide (bytesOf (cg.enc (bQ x))=bytesOf s))=true then .tuple #[(default:az).val,.bool false] else .tuple #[x.val,.bool true]:=by
 refine EN1 Tryz.func9 rfl (aSR (LT rfl (bk (zs:=ZI) (by kernel_rfl) rfl (fun b0_0=>(aHN ?_)))))
 refine aA rfl (aNn (aSR (LT rfl (bk (zs:=ZI) (by kernel_rfl) rfl (fun b1_0=>(aHN ?_))))))
 refine aNn (aSR (aM rfl (LT rfl (EC [] [] rfl (zf s) ?_))))
 rintro _ _ _ ⟨rfl,rb,rfl,rfl⟩
 refine aST ?_
 refine aU rfl (eb (l:=[(1,.tmp 7)]) (zs:=[.pointer none,.slice none 0 0,.pointer none]) (pl:=[(0,2),(2,1)]) (by kernel_rfl) (by kernel_rfl) (by kernel_rfl) rfl rfl rfl) (LT rfl (bk (zs:=[.pointer none,.slice none 0 0,.pointer none]) (by kernel_rfl) rfl (fun b2_3=>(aHN ?_))))
 refine aD rfl (aF 3 tk93 rfl rfl rfl rfl (aHK ?_))
 refine aNn (aSR (LF rfl (EC [] [3,2,1] rfl (wz b2_3 rb b1_0 (.pointer none) (.slice none 0 0) s false hs) ?_)))
 rintro _ _ _ ⟨x,r1,b1,hq,rfl,rfl⟩
 refine aST ?_
 refine aNs (aSR (UO 2 rfl rfl (UL 3 tk86 rfl rfl rfl rfl (LF rfl (EC [] [2] rfl (rM rb r1 b1) ?_)))))
 rintro _ _ _ ⟨rfl,rfl,rfl⟩
 refine aST ?_
 refine aU rfl (cV rfl) (aM rfl (aG rfl rfl (fun hc=>bJ 1 tk40 rfl rfl rfl) (aG rfl rfl (fun hc=>Q1 (aN (ae rfl hc) rfl) ((gW x (jF hs hq).1 (jF hs hq).2).post (fun _ _ _ h=>h.2.2)) 0 rfl) (aG rfl rfl (fun hc=>aS rfl) (aG rfl rfl (fun hc=>oY (ae rfl hc) (ae rfl hc)) (aU rfl (eu rfl rfl (fun h=>gf rfl h)) (aNn ?_)))))))
 refine ao _ rfl (fun h1 => ?_) (fun h1 => ?_)
 ·skip
  refine aSR (aU rfl (eb (l:=[]) (zs:=ZI) (pl:=[(0,1),(1,1),(2,1),(3,1),(4,1),(5,1),(6,1),(7,1),(8,1),(9,1),(10,1),(11,1),(12,1),(13,1),(14,1),(15,1),(16,1),(17,1),(18,1),(19,6),(25,1)]) (by kernel_rfl) (by kernel_rfl) (by kernel_rfl) rfl rfl rfl) (aD rfl (aF 0 tk40 rfl rfl rfl rfl (aHK ?_))))
  refine aA rfl (aNn (ax (bB ?_)))
  refine xO [0] [] rfl Tryz.results9 (iD 0 tk40 rfl rfl rfl) (tC rfl) ?_ (.inr rfl)
  exact ⟨rfl,x,r1,b1,hq,rfl,by rw [if_pos h1];rfl⟩
 ·skip
  refine ar (aj (aSR (UL 1 tk40 rfl rfl rfl rfl (aD rfl (aF 0 tk40 rfl rfl rfl rfl (aHK ?_))))))
  refine aA rfl (aNn (ax ?_))
  refine xO [0] [] rfl Tryz.results9 (iD 0 tk40 rfl rfl rfl) (tC rfl) ?_ (.inr rfl)
  exact ⟨rfl,x,r1,b1,hq,rfl,by rw [if_neg (by rw [h1];decide)]⟩
theorem wB(x y:az)(hx:eE x)(hy:eE y)(hlx:(cg.enc (bQ x)).length≤1000000000)(hly:(cg.enc (bQ y)).length≤1000000000):Con Tryz.prog 40 [x.val,y.val] [x.ok,y.ok] [] fun r ps hp=>ps=[]∧hp=[]∧r=.bool (decide (bytesOf (cg.enc (bQ x))=bytesOf (cg.enc (bQ y)))):=by
 refine EN2 Tryz.func40 rfl (aSR (LT rfl (cK rfl rfl rfl (fun b0_0=>(aHN ?_)))))
 refine LT rfl (cK rfl rfl rfl (fun b0_1=>(aHN ?_)))
 refine aA rfl (aNs (DR [] 6 (VL 0 0 tk40 rfl rfl rfl rfl rfl (bV 1 rfl rfl (Q1 rfl ((gW x hx hlx).post (fun _ _ _ h=>h.2.2)) 0 rfl) (VL 2 1 tk40 rfl rfl rfl rfl rfl (bV 3 rfl rfl (Q1 rfl ((gW y hy hly).post (fun _ _ _ h=>h.2.2)) 1 rfl) (bV 4 rfl rfl (jh rfl rfl) (bV 5 rfl rfl (bE rfl) (BN (aj (ax (FZ1 [] Tryz.results40 rfl ?_))))))))))))
 exact ⟨rfl,rfl,rfl⟩
abbrev acA(x:az):vX:=⟨x.name,x.exports,x.versions⟩
theorem uC(x:az):Con Tryz.prog 42 [x.val] [x.ok] [] fun r ps hp=>ps=[]∧hp=[]∧r=(acA x).val:=by
 refine EN1 Tryz.func42 rfl (aSR (LT rfl (cK rfl rfl rfl (fun b0_0=>(aHN ?_)))))
 refine LT rfl (bk (zs:=[.string .empty,.slice none 0 0,.slice none 0 0]) (by kernel_rfl) rfl (fun b0_1=>(aHN ?_)))
 refine aNn (aSR (UO 0 rfl rfl (UL 0 tk9 rfl rfl rfl rfl (UO 9 rfl rfl (UL 0 tk24 rfl rfl rfl rfl (UO 18 rfl rfl (UL 0 tk29 rfl rfl rfl rfl (aU rfl (eb (l:=[(0,.tmp 4),(1,.tmp 6),(2,.tmp 8)]) (zs:=[.string .empty,.slice none 0 0,.slice none 0 0]) (pl:=[(0,1),(1,1),(2,1)]) (by kernel_rfl) (by kernel_rfl) (by kernel_rfl) rfl rfl rfl) (aD rfl (aF 1 tk84 rfl rfl rfl rfl (aHK ?_)))))))))))
 refine aNn (ax ?_)
 refine u6 [] [] rfl Tryz.results42 (iD 1 tk84 rfl rfl rfl) ?_ (.inr rfl)
 exact ⟨rfl,rfl,rfl⟩
theorem acy(m:Nat):IntKind.u8.wrap (IntKind.u8.wrap ((m:Int).tmod 128)+128)=((m % 128+128:Nat):Int):=by
 have e:(m:Int).tmod 128=((m % 128:Nat):Int):=by rw [Int.tmod_eq_emod_of_nonneg (by omega)];omega
 rw [e,IntKind.wrap_u8,IntKind.wrap_u8];omega
theorem ja(m0:Nat)(h0:m0<18446744073709551616):Con Tryz.prog 295 [.int .u64 m0] [] [] fun r ps hp=>ps=[]∧hp=[]∧r=.string (bytesOf (aV m0)):=by
 refine EN1 Tryz.func295 rfl (cW 5 1 ?_)
 show awp _ _ _ _ ⟨_,_,[_]⟩
 refine aSR (aA rfl (aNn (aSR (aA rfl (aNs (aq (aQ [0,3] [] [0] (fun (q:Nat × (Value × List UInt8)) st=>WrI m0 q.2.2 q.1∧st=⟨[(0,true,.int .u64 q.1),(3,true,q.2.1)],[],[aO q.2.1 5 1 (q.2.2.map du)]⟩) (fun q=>q.1) rfl (⟨(m0,(.slice none 0 0,[])),.start h0,rfl⟩) ?_)))))))
 rintro ⟨m,v,l⟩ st ⟨hI,rfl⟩
 dsimp only at hI ⊢
 have hll:=hI.le
 refine ah (aSR (aM rfl (aU rfl (fi rfl rfl) (aNn ?_))))
 refine ao _ rfl (fun h1 => ?_) (fun h1 => ?_)
 ·skip
  have h128:128≤m:=by simp at h1;omega
  refine ar (aj (aq (aSR (aM rfl (aM rfl (aU rfl (gZ rfl rfl (by decide)) (aU rfl (dm (by kernel_rfl) Tryz.underlying5 rfl) (aU rfl (qD rfl rfl) (LT rfl (WL (zs:=[.int .u8 0]) el89 rfl rfl rfl (.more rfl (.v rfl .nil) .nil) rfl rfl (fun v3_5=>(aHN ?_))))))))))))
  refine aD rfl (cj 0 el89 rfl rfl rfl rfl (cY 1 el89 rfl (by simp)) (by first | assumption | simp) (by rw [List.length_map];exact Nat.le_trans (show l.length+1≤10 by omega) (by decide)) ((l.length+1)) (by rw [List.length_map];rfl) (fun v3_6 c3_6 => ?_))
  refine aHK ?_
  refine aA rfl (aNn ?_)
  rw [acy m]
  refine aa (aM rfl (aU rfl (qF rfl rfl (by decide)) (aA rfl (bj (bp (aj ?_))))))
  refine ⟨[0,3],[],[0],rfl,?_⟩
  have hlt:m<18446744073709551616:=Nat.lt_of_lt_of_le hI.lt (Nat.le_trans (Nat.mul_le_mul_left 2 (Nat.pow_le_pow_right (by decide) (show 9-l.length≤9 by omega))) (by decide))
  exact ⟨(m / 128,(_,l++[UInt8.ofNat (m % 128+128)])),⟨hI.step h128,by dsimp only;rw [← ac6 hlt,List.map_append,List.map_singleton,du,rq (show m % 128+128<256 by omega)];rfl⟩,by dsimp only;omega⟩
 ·skip
  have h128:m<128:=by simp at h1;omega
  refine aT (aW (aW (aY (aj (aSR (aM rfl (aM rfl (aU rfl (dm (by kernel_rfl) Tryz.underlying5 rfl) (LT rfl (WL (zs:=[.int .u8 0]) el89 rfl rfl rfl (.more rfl (.v rfl .nil) .nil) rfl rfl (fun v5_3=>(aHN ?_))))))))))))
  refine aD rfl (cj 0 el89 rfl rfl rfl rfl (cY 1 el89 rfl (by simp)) (by first | assumption | simp) (by rw [List.length_map];exact Nat.le_trans (show l.length+1≤10 by omega) (by decide)) ((aV m0).length) (by rw [← hI.last h128,List.length_map,List.length_append];rfl) (fun v5_4 c5_4 => ?_))
  refine aHK ?_
  refine aU rfl (j6 0 (aV m0) Tryz.underlying89 Tryz.underlying5 Tryz.underlying9 rfl rfl (by rw [← hI.last h128,List.map_append,List.map_singleton,rq (show m<256 by omega),xR h128]) (oR m0)) ?_
  refine aA rfl (aNn (ax (FZ1 [] Tryz.results295 rfl ?_)))
  exact ⟨rfl,rfl,rfl⟩
theorem kV(m:Nat)(hm:m≤9223372036854775807):Con Tryz.prog 238 [.int .i64 m] [] [] fun r ps hp=>ps=[]∧hp=[]∧r=.string (bytesOf (aV m)):=by
 refine EN1 Tryz.func238 rfl (aSR (aA rfl (aNs (aSR (aM rfl (aU rfl (bu rfl rfl) (aNn ?_)))))))
 refine ao _ rfl (fun h1 => ?_) (fun h1 => ?_)
 ·skip
  exact absurd h1 (by simp)
 ·skip
  refine ar (aj (aSR (aM rfl (aU rfl (dm (by kernel_rfl) Tryz.underlying301 rfl) ?_))))
  refine aU rfl (QC rfl (fun w S fp hst=>(show Calls Tryz.prog 295 #[.int .u64 (IntKind.u64.wrap (m:Int))] w _ from by rw [Go.wraps_u64 (m:Int) (by omega) (by omega)];exact ((ja m (by omega)).post (fun _ _ _ h=>h.2.2)).quiet0 hst))) ?_
  refine aA rfl (aNn (ax (FZ1 [] Tryz.results238 rfl ?_)))
  exact ⟨rfl,rfl,rfl⟩
theorem kU(z:Int)(hz:Go.Lv.I64 z):Con Tryz.prog 237 [.int .i64 z] [] [] fun r ps hp=>ps=[]∧hp=[]∧r=.string (bytesOf (aV (zz z))):=by
 have hzl:=yA hz
 refine EN1 Tryz.func237 rfl (aSR (aA rfl (aNs (aSR (aM rfl (aU rfl (bu rfl rfl) (aNn ?_)))))))
 refine ao _ rfl (fun h1 => ?_) (fun h1 => ?_)
 ·skip
  have hneg:z<0:=by simpa using h1
  have hw:IntKind.u64.wrap (IntKind.u64.wrap (2*IntKind.u64.wrap (IntKind.i64.wrap (-(IntKind.i64.wrap (z+1)))))+1)=((zz z:Nat):Int):=by
    unfold zz;rw [if_pos hneg];unfold Go.Lv.I64 at hz
    rw [IntKind.wrap_i64,IntKind.wrap_i64,IntKind.wrap_u64,IntKind.wrap_u64,IntKind.wrap_u64];omega
  refine aSR (aM rfl (aU rfl (qD rfl rfl) (aU rfl (abG rfl) (aU rfl (dm (by kernel_rfl) Tryz.underlying301 rfl) (aU rfl (yi rfl rfl) (aU rfl (qD rfl rfl) ?_))))))
  refine aU rfl (QC rfl (fun w S fp hst=>(show Calls Tryz.prog 295 #[.int .u64 (IntKind.u64.wrap (IntKind.u64.wrap (2*IntKind.u64.wrap (IntKind.i64.wrap (-(IntKind.i64.wrap (z+1)))))+1))] w _ from by rw [hw];exact ((ja (zz z) hzl).post (fun _ _ _ h=>h.2.2)).quiet0 hst))) ?_
  refine aA rfl (aNn (ax (bB (FZ1 [] Tryz.results237 rfl ?_))))
  exact ⟨rfl,rfl,rfl⟩
 ·skip
  have hneg:¬ z<0:=by simpa using h1
  have hw:IntKind.u64.wrap (2*IntKind.u64.wrap z)=((zz z:Nat):Int):=by
    unfold zz;rw [if_neg hneg];unfold Go.Lv.I64 at hz
    rw [IntKind.wrap_u64,IntKind.wrap_u64];omega
  refine ar (aj (aSR (aM rfl (aU rfl (dm (by kernel_rfl) Tryz.underlying301 rfl) (aU rfl (yi rfl rfl) ?_)))))
  refine aU rfl (QC rfl (fun w S fp hst=>(show Calls Tryz.prog 295 #[.int .u64 (IntKind.u64.wrap (2*IntKind.u64.wrap z))] w _ from by rw [hw];exact ((ja (zz z) hzl).post (fun _ _ _ h=>h.2.2)).quiet0 hst))) ?_
  refine aA rfl (aNn (ax (FZ1 [] Tryz.results237 rfl ?_)))
  exact ⟨rfl,rfl,rfl⟩
theorem p9(s:ByteArray)(hs:s.size≤4611686018427387904):Con Tryz.prog 236 [.string s] [] [] fun r ps hp=>ps=[]∧hp=[]∧r=.string (bytesOf (tg s)):=by
 refine EN1 Tryz.func236 rfl (aSR (aA rfl (aNn (aSR (aM rfl (aU rfl (cP Tryz.underlying9 rfl) (aU rfl (Q0 rfl ((kV s.size (by omega)).post (fun _ _ _ h=>h.2.2))) (aM rfl ?_))))))))
 refine aU rfl (kE rfl rfl (by have h:(aV s.size).length≤10:=fU 10 s.size;show (aV s.size).length+s.size≤_;omega)) ?_
 refine aA rfl (aNn (ax (FZ1 [] Tryz.results236 rfl ?_)))
 exact ⟨rfl,rfl,congrArg Value.string (eD (aV s.size) (gH s)).symm⟩
theorem jZ(l:Sl Int)(hI:∀ y∈l.l,Go.Lv.I64 y)(hl:(aV l.l.length++aP ak.enc l.l).length≤1000000000):Con Tryz.prog 132 [l.val] [ShF (fun z=>[.v (.int .i64 z)]) l] [] fun r ps hp=>ps=[]∧hp=[]∧r=.string (bytesOf (aV l.l.length++aP ak.enc l.l)):=by
 rw [List.length_append] at hl
 refine EN1 Tryz.func132 rfl (bY (.of (aI 0 rfl)) (fun hlen=>(aSR (aA rfl (aNn (aSR (aM rfl (aU rfl (aZ Tryz.underlying26 rfl) (aU rfl (Q0 rfl ((kV l.l.length hlen).post (fun _ _ _ h=>h.2.2))) (aA rfl (aNs (aSR (aA rfl (aNn (aq ?_)))))))))))))))
 refine aQ [0,3,4] [0] [] (fun (k:Nat) st=>k≤l.l.length∧st=⟨[(0,true,l.val),(3,true,.string (bytesOf (aV l.l.length++aP ak.enc (l.l.take k)))),(4,true,.int .i64 k)],[ShF (fun z=>[.v (.int .i64 z)]) l],[]⟩) (fun k=>l.l.length-k) rfl (⟨0,Nat.zero_le _,by rw [List.take_zero];show _=(⟨[_,(3,true,.string (bytesOf (aV l.l.length++[]))),_],_,_⟩:Sta);rw [List.append_nil];rfl⟩) ?_
 rintro k st ⟨hk,rfl⟩
 refine ah (aSR (aM rfl (aM rfl (aU rfl (aZ Tryz.underlying26 rfl) (aU rfl (bu rfl rfl) (aNn ?_))))))
 refine ao _ rfl (fun h1 => ?_) (fun h1 => ?_)
 ·skip
  have hk':k<l.l.length:=by simpa using h1
  obtain ⟨x,hx⟩:∃ x,l.l[k]? = some x:=⟨_,List.getElem?_eq_getElem hk'⟩
  have hen:=eQ (e:=ak.enc) hx
  have hle:=iu (e:=ak.enc) l.l (k+1)
  rw [hen,List.length_append] at hle
  refine ar (aj (ah (aq (aa (aM rfl (aM rfl (aM rfl (UI Tryz.underlying26 tk3 0 rfl rfl rfl rfl rfl (aK hx) rfl rfl (fun ⟨b5_3,o5_3⟩=>(US 0 tk3 0 rfl rfl rfl rfl rfl (aU rfl (Q0 rfl ((kU x (hI x (List.mem_of_getElem? hx))).post (fun _ _ _ h=>h.2.2))) ?_)))))))))))
  refine aU rfl (kE rfl rfl (by show (aV l.l.length++aP ak.enc (l.l.take k)).length+(ak.enc x).length≤_;rw [List.length_append];exact Nat.le_trans (show _≤1000000000 by omega) (by decide))) ?_
  refine aA rfl (bj (bp (aj (aa (aM rfl (aU rfl (aX rfl rfl (by omega)) (aA rfl (aNn ?_))))))))
  refine ⟨[0,3,4],[0],[],rfl,?_⟩
  refine ⟨k+1,⟨hk',?_⟩,by omega⟩
  rw [hen,← List.append_assoc,eD _ (ak.enc x)]
  rfl
 ·skip
  have hke:k=l.l.length:=by simp at h1;omega
  subst hke
  refine aT (aW (aW (aY (aj (aSR (aM rfl (aA rfl (aNn (ax (FZ1 [] Tryz.results132 rfl ?_))))))))))
  exact ⟨rfl,rfl,by rw [List.take_length]⟩
theorem n9(l:Sl ByteArray)(hl:(aV l.l.length++aP an.enc l.l).length≤1000000000):Con Tryz.prog 133 [l.val] [ShF (fun s=>[.v (.string s)]) l] [] fun r ps hp=>ps=[]∧hp=[]∧r=.string (bytesOf (aV l.l.length++aP an.enc l.l)):=by
 rw [List.length_append] at hl
 refine EN1 Tryz.func133 rfl (bY (.of (aI 0 rfl)) (fun hlen=>(aSR (aA rfl (aNn (aSR (aM rfl (aU rfl (aZ Tryz.underlying28 rfl) (aU rfl (Q0 rfl ((kV l.l.length hlen).post (fun _ _ _ h=>h.2.2))) (aA rfl (aNs (aSR (aA rfl (aNn (aq ?_)))))))))))))))
 refine aQ [0,3,4] [0] [] (fun (k:Nat) st=>k≤l.l.length∧st=⟨[(0,true,l.val),(3,true,.string (bytesOf (aV l.l.length++aP an.enc (l.l.take k)))),(4,true,.int .i64 k)],[ShF (fun s=>[.v (.string s)]) l],[]⟩) (fun k=>l.l.length-k) rfl (⟨0,Nat.zero_le _,by rw [List.take_zero];show _=(⟨[_,(3,true,.string (bytesOf (aV l.l.length++[]))),_],_,_⟩:Sta);rw [List.append_nil];rfl⟩) ?_
 rintro k st ⟨hk,rfl⟩
 refine ah (aSR (aM rfl (aM rfl (aU rfl (aZ Tryz.underlying28 rfl) (aU rfl (bu rfl rfl) (aNn ?_))))))
 refine ao _ rfl (fun h1 => ?_) (fun h1 => ?_)
 ·skip
  have hk':k<l.l.length:=by simpa using h1
  obtain ⟨x,hx⟩:∃ x,l.l[k]? = some x:=⟨_,List.getElem?_eq_getElem hk'⟩
  have hen:=eQ (e:=an.enc) hx
  have hle:=iu (e:=an.enc) l.l (k+1)
  rw [hen,List.length_append] at hle
  refine ar (aj (ah (aq (aa (aM rfl (aM rfl (aM rfl (UI Tryz.underlying28 tk9 0 rfl rfl rfl rfl rfl (aK hx) rfl rfl (fun ⟨b5_3,o5_3⟩=>(US 0 tk9 0 rfl rfl rfl rfl rfl ?_))))))))))
  refine aU rfl (Q0 rfl ((p9 x (by have:=gP x;omega)).post (fun _ _ _ h=>h.2.2))) ?_
  refine aU rfl (kE rfl rfl (by show (aV l.l.length++aP an.enc (l.l.take k)).length+(an.enc x).length≤_;rw [List.length_append];exact Nat.le_trans (show _≤1000000000 by omega) (by decide))) ?_
  refine aA rfl (bj (bp (aj (aa (aM rfl (aU rfl (aX rfl rfl (by omega)) (aA rfl (aNn ?_))))))))
  refine ⟨[0,3,4],[0],[],rfl,?_⟩
  refine ⟨k+1,⟨hk',?_⟩,by omega⟩
  rw [hen,← List.append_assoc,eD _ (an.enc x)]
  rfl
 ·skip
  have hke:k=l.l.length:=by simp at h1;omega
  subst hke
  refine aT (aW (aW (aY (aj (aSR (aM rfl (aA rfl (aNn (ax (FZ1 [] Tryz.results133 rfl ?_))))))))))
  exact ⟨rfl,rfl,by rw [List.take_length]⟩
end Go.Proofs.YtfkcmbonmpcbfaaGreat

namespace Go.Lv
open Go
theorem rO:∀ (k:Nat) (r:List UInt8) (m:Nat) (t:List UInt8),k≤9→eX (k+1) r=some (m,t)→r=iw (k+1) m++t∧(k<9→m≠0)
 | k,[],m,t,_,h=>by simp [eX] at h
 | k,c::l,m,t,hk,h=>by
   rw [jz] at h
   split at h
   · cases h
   · rename_i h1
     split at h
     · rename_i h2
       split at h
       · cases h
       · rename_i h3
         simp only [Option.some.injEq,Prod.mk.injEq] at h
         obtain ⟨rfl,rfl⟩:=h
         refine ⟨?_,fun h9 h0=>h3 ⟨h0,h9⟩⟩
         unfold iw
         rw [if_pos h2,UInt8.ofNat_toNat];rfl
     · rename_i h2
       cases k with
       | zero=>simp [eX] at h
       | succ k =>
         obtain ⟨⟨m1,t1⟩,h3,h4⟩:=Option.map_eq_some_iff.1 h
         simp only [Prod.mk.injEq] at h4
         obtain ⟨rfl,rfl⟩:=h4
         obtain ⟨e,hn⟩:=rO k l m1 t1 (by omega) h3
         have hm1:=hn (by omega)
         have hc:=c.toNat_lt
         refine ⟨?_,fun _=>by omega⟩
         rw [iw,if_neg (by omega),show (c.toNat % 128+128*m1) / 128=m1 by omega,show (c.toNat % 128+128*m1) % 128+128=c.toNat by omega,UInt8.ofNat_toNat,e];rfl
def tM:List UInt8→Nat
 | []=>0
 | c::l=>c.toNat % 128+128*tM l
theorem vT:∀ (k m:Nat),m<2*128 ^ k→tM (iw (k+1) m)=m
 | k, m, h=>by
   unfold iw
   split
   · rename_i hm
     show (UInt8.ofNat m).toNat % 128+128*0=m
     rw [rq (by omega)];omega
   · rename_i hm
     cases k with
     | zero=>omega
     | succ k =>
       have hd:m / 128<2*128 ^ k:=by
         rw [Nat.pow_succ] at h
         exact Nat.div_lt_of_lt_mul (by omega)
       show (UInt8.ofNat (m % 128+128)).toNat % 128+128*tM (iw (k+1) (m / 128))=m
       rw [rq (by omega),vT k (m / 128) hd];omega
theorem rS:∀ (k m:Nat),m<2*128 ^ k→∃ a c,iw (k+1) m=a++[c]∧c.toNat<128∧a.length≤k∧∀ x∈a,128≤x.toNat
 | k, m, h=>by
   unfold iw
   split
   · rename_i hm
     exact ⟨[],UInt8.ofNat m,rfl,by rw [rq (by omega)];exact hm,Nat.zero_le _,fun x hx=>by cases hx⟩
   · rename_i hm
     cases k with
     | zero=>omega
     | succ k =>
       have hd:m / 128<2*128 ^ k:=by
         rw [Nat.pow_succ] at h
         exact Nat.div_lt_of_lt_mul (by omega)
       obtain ⟨a,c,e,h1,h2,h3⟩:=rS k (m / 128) hd
       refine ⟨UInt8.ofNat (m % 128+128)::a,c,by rw [e];rfl,h1,by rw [List.length_cons];omega,fun x hx => ?_⟩
       rcases List.mem_cons.1 hx with rfl | hx
       · rw [rq (by omega)];omega
       · exact h3 x hx
def lG(r:List UInt8)(i:Nat):Prop:=i≤r.length∧∀ j u,j<i→r[j]? = some u→128≤u.toNat
theorem lG.step{r:List UInt8}{i:Nat}{u:UInt8}(h:lG r i)(hu:r[i]? = some u)(h1:128≤u.toNat):lG r (i+1):=⟨(List.getElem?_eq_some_iff.1 hu).1,fun j v hj hv=>by
 by_cases e:j=i
 · subst e;rw [hu] at hv;obtain rfl:=Option.some.inj hv;exact h1
 · exact h.2 j v (by omega) hv⟩
theorem lG.at{r t:List UInt8}{i m:Nat}(h:lG r i)(hd:eX 10 r=some (m,t)):∃ a c,r=(a++[c])++t∧aV m=a++[c]∧c.toNat<128∧a.length≤9∧i≤a.length∧∀ x∈a,128≤x.toNat:=by
 obtain ⟨e,_⟩:=rO 9 r m t (Nat.le_refl _) hd
 obtain ⟨a,c,e1,h1,h2,h3⟩:=rS 9 m (kW 9 r m t hd).1
 rw [e1] at e
 refine ⟨a,c,e,e1,h1,h2,?_,h3⟩
 refine Nat.le_of_not_lt fun hl => ?_
 have:r[a.length]? = some c:=by rw [e,List.append_assoc,List.getElem?_append_right (Nat.le_refl _),Nat.sub_self];rfl
 have:=h.2 a.length c hl this
 omega
theorem lG.none{r:List UInt8}{i:Nat}(h:lG r i)(h1:r.length≤i∨9<i):eX 10 r=none:=by
 cases hd:eX 10 r with
 | none=>rfl
 | some p =>
   obtain ⟨a,c,e,_,_,h2,h3,_⟩:=h.at (m:=p.1) (t:=p.2) hd
   have hl:=congrArg List.length e
   simp only [List.length_append,List.length_singleton] at hl
   omega
theorem aah{r:List UInt8}{i:Nat}{u:UInt8}(h:lG r i)(hu:r[i]? = some u)(h1:u.toNat<128){m:Nat}{t:List UInt8}(hd:eX 10 r=some (m,t)):r.take (i+1)=aV m∧r.drop (i+1)=t∧tM (r.take (i+1))=m:=by
 obtain ⟨a,c,e,e1,_,h2,h3,h4⟩:=h.at hd
 have hi:i=a.length:=Nat.le_antisymm h3 (Nat.le_of_not_lt fun hl=>by
   have hx:r[i]? = a[i]? := by rw [e,List.append_assoc,List.getElem?_append_left hl]
   rw [hu] at hx
   have:=h4 u (List.mem_of_getElem? hx.symm)
   omega)
 have hl:(a++[c]).length=i+1:=by rw [List.length_append,List.length_singleton,hi]
 have ht:r.take (i+1)=a++[c]:=by rw [e,← hl,List.take_left'];rfl
 refine ⟨ht.trans e1.symm,by rw [e,← hl,List.drop_left'];rfl,?_⟩
 rw [ht,← e1]
 exact vT 9 m (kW 9 r m t hd).1
theorem aaD{r:List UInt8}{i v:Nat}{u:UInt8}(h:lG r i)(hu:r[i]? = some u)(h1:u.toNat<128)(hv:v=tM (r.take (i+1)) % 18446744073709551616)(hne:bytesOf (aV v)≠bytesOf (r.take (i+1))):eX 10 r=none:=by
 cases hd:eX 10 r with
 | none=>rfl
 | some p =>
   obtain ⟨e1,_,e3⟩:=aah (m:=p.1) (t:=p.2) h hu h1 hd
   have hlt:=(kq (m:=p.1) (t:=p.2) hd).1
   exfalso;apply hne
   rw [hv,e3,Nat.mod_eq_of_lt hlt,e1]
theorem aaE{r:List UInt8}{i v:Nat}(hv:v<18446744073709551616)(he:bytesOf (aV v)=bytesOf (r.take (i+1))):eX 10 r=some (v,r.drop (i+1)):=by
 have e:aV v=r.take (i+1):=congrArg gH he
 have:=ta hv (r.drop (i+1))
 rwa [e,List.take_append_drop] at this
theorem aak{r:List UInt8}{q n:Nat}{u:UInt8}(hu:r[q]? = some u):tM ((r.drop q).take (n+1))=u.toNat % 128+128*tM ((r.drop (q+1)).take n):=by
 obtain ⟨h1,h2⟩:=List.getElem?_eq_some_iff.1 hu
 rw [List.drop_eq_getElem_cons h1,h2];rfl
structure RU {α:Type} (A:Cod α) (r:List UInt8) (b:Bool) (y:α) (r':List UInt8) (b':Bool):Prop where
 le:r'.length≤r.length
 bad:b'=true→r'=[]
 stay:b=true→b'=true
 eq:b=false→(b'=false∧A.one (.R r false) A.zero=(.R r' false,y))∨(b'=true∧(A.one (.R r false) A.zero).1=.R [] true)
theorem RU.of{α:Type}{A:Cod α}{r r':List UInt8}{b b':Bool}{y:α}(hb:b=true→r=[])(hr:r.length≤4611686018427387904)(h:A.one (.R r b) A.zero=(.R r' b',y))(hs:b=true→b'=true)(hbad:b'=true→r'=[]):RU A r b y r' b':=by
 obtain ⟨r1,b1,h1,h2,_⟩:=A.rd r b hr
 rw [h] at h1
 obtain ⟨e1,e2⟩:=CS.R.inj h1
 refine ⟨by rw [e1];exact h2,hbad,hs,fun hf => ?_⟩
 subst hf
 cases hb':b' with
 | false=>exact .inl ⟨rfl,by rw [h,hb']⟩
 | true=>exact .inr ⟨rfl,by rw [h,hb',hbad hb']⟩
theorem Cod.dead{α:Type}(A:Cod α):(A.one (.R [] true) A.zero).1=.R [] true:=by
 rcases A.less [] true (Nat.zero_le _) with h | h
 · exact absurd h (Nat.not_lt_zero _)
 · exact h
theorem RU.prod{α β:Type}{A:Cod α}{B:Cod β}{r r1 r2:List UInt8}{b b1 b2:Bool}{x:α}{y:β}(h1:RU A r b x r1 b1)(h2:RU B r1 b1 y r2 b2):RU (A.prod B) r b (x,y) r2 b2:=by
 refine ⟨Nat.le_trans h2.le h1.le,h2.bad,fun h=>h2.stay (h1.stay h),fun hb => ?_⟩
 rcases h1.eq hb with ⟨e1,e2⟩ | ⟨e1,e2⟩
 · rcases h2.eq e1 with ⟨e3,e4⟩ | ⟨e3,e4⟩
   · refine .inl ⟨e3,?_⟩
     show ((B.one (A.one (.R r false) A.zero).1 B.zero).1,((A.one (.R r false) A.zero).2,(B.one (A.one (.R r false) A.zero).1 B.zero).2))=_
     rw [e2];dsimp only;rw [e4]
   · refine .inr ⟨e3,?_⟩
     show (B.one (A.one (.R r false) A.zero).1 B.zero).1=_
     rw [e2];exact e4
 · refine .inr ⟨h2.stay e1,?_⟩
   show (B.one (A.one (.R r false) A.zero).1 B.zero).1=_
   rw [e2];exact B.dead
structure LU {α:Type} (A:Cod α) (w:CS × List α) (b0:Bool) (R n:Nat) (l:List α) (r:List UInt8) (b:Bool):Prop where
 le:r.length≤R
 bad:b=true→r=[]
 stay:b0=true→b=true
 len:l.length+r.length≤R+(if b=true then 1 else 0)
 eq:b0=false→b=false→eK A n (.R r false) l=w
 dead:b0=false→b=true→w.1=.R [] true
theorem LU.step{α:Type}{A:Cod α}{w:CS × List α}{b0:Bool}{R n:Nat}{l:List α}{r r':List UInt8}{b':Bool}{x:α}(hR:R≤4611686018427387904)(h:LU A w b0 R (n+1) l r false)(hx:RU A r false x r' b'):LU A w b0 R n (l++[x]) r' b':=by
 have hw:b0=false→eK A n (A.one (.R r false) A.zero).1 (l++[(A.one (.R r false) A.zero).2])=w:=fun h0=>by
   rw [← h.eq h0 rfl]
   show _=if (CS.R r false).fails=true then _ else _
   rw [if_neg (by simp [CS.fails])]
 have hb0:b0=false:=by cases h0:b0 with
   | false=>rfl
   | true=>have:=h.stay h0;cases this
 have hlen:=h.len
 rw [if_neg (by decide)] at hlen
 refine ⟨Nat.le_trans hx.le h.le,hx.bad,fun h0=>(by rw [hb0] at h0;cases h0),?_,fun h0 hb => ?_,fun h0 hb => ?_⟩
 · rw [List.length_append,List.length_singleton]
   cases hb:b' with
   | true=>rw [hx.bad hb,if_pos rfl];simp only [List.length_nil];omega
   | false =>
     rw [if_neg (by decide)]
     rcases hx.eq rfl with ⟨_,e2⟩ | ⟨e1,_⟩
     · have hl:=A.less r false (Nat.le_trans h.le hR)
       rw [e2] at hl
       rcases hl with hl | hl
       · have:r'.length<r.length:=hl
         omega
       · cases hl
     · rw [hb] at e1;cases e1
 · rcases hx.eq rfl with ⟨_,e2⟩ | ⟨e1,_⟩
   · have:=hw h0;rw [e2] at this;exact this
   · rw [hb] at e1;cases e1
 · rcases hx.eq rfl with ⟨e1,_⟩ | ⟨_,e2⟩
   · rw [hb] at e1;cases e1
   · have:=hw h0;rw [e2] at this
     rw [← this]
     cases n with
     | zero=>rfl
     | succ n=>unfold eK;rw [if_pos (show (CS.R [] true).fails=true from rfl)]
theorem LU.start{α:Type}{A:Cod α}{r t:List UInt8}{b b1:Bool}{n:Nat}(hb:b=true→r=[])(h:eS r b=(.R t b1,n)):LU A ((cA A).one (.R r false) []) b r.length n [] t b1:=by
 have hc:=gI r b
 have hw:b=false→(cA A).one (.R r false) []=eK A n (.R t b1) []:=fun h0=>by
   subst h0
   show eK A (eS r false).2 (eS r false).1 []=_
   rw [h]
 have hlt:t.length≤r.length∧(b1=true→t=[])∧(b=true→b1=true):=by
   rcases hc with ⟨t1,m,h1,_,_,h3⟩ | h1
   · rw [h] at h1
     obtain ⟨e1,_⟩:=Prod.mk.inj h1
     obtain ⟨rfl,rfl⟩:=CS.R.inj e1
     refine ⟨by omega,fun hb1 => ?_,fun h=>h⟩
     have:=hb hb1;rw [this] at h3;cases h3
   · rw [h] at h1
     obtain ⟨e1,_⟩:=Prod.mk.inj h1
     obtain ⟨rfl,rfl⟩:=CS.R.inj e1
     exact ⟨Nat.zero_le _,fun _=>rfl,fun _=>rfl⟩
 refine ⟨hlt.1,hlt.2.1,hlt.2.2,by show 0+t.length≤_;omega,fun h0 h1=>by rw [hw h0,h1],fun h0 h1 => ?_⟩
 rw [hw h0,h1,hlt.2.1 h1]
 cases n with
 | zero=>rfl
 | succ n=>unfold eK;rw [if_pos (show (CS.R [] true).fails=true from rfl)]
theorem LU.done{α:Type}{A:Cod α}{n:Nat}{r0 r:List UInt8}{l l':List α}{b0 b:Bool}(h:LU A ((cA A).one (.R r0 false) []) b0 r0.length n l r b)(hn:n=0∨b=true)(hl:b=false→l'=l):RU (cA A) r0 b0 l' r b:=by
 refine ⟨h.le,h.bad,h.stay,fun h0 => ?_⟩
 cases hb:b with
 | true=>exact .inr ⟨rfl,h.dead h0 hb⟩
 | false =>
   have e0:n=0:=hn.resolve_right (by rw [hb];decide)
   subst e0
   have:=h.eq h0 hb
   rw [hl hb]
   exact .inl ⟨rfl,this.symm⟩
end Go.Lv

