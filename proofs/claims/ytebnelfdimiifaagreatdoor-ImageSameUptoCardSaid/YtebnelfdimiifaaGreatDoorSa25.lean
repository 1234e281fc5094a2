/- Parts of the proof, in build order. No condition. -/
import Derived.Test.YtebnelfdimiifaaGreatDoorSa24
import Derived.Test.YtebnelfdimiifaaGreatDoorSa05
import Derived.Test.YtebnelfdimiifaaGreatDoorSa07
set_option linter.unusedSimpArgs false
set_option linter.unusedVariables false
set_option maxHeartbeats 1000000
set_option maxRecDepth 20000
namespace Go.Proofs.YtebnelfdimiifaaGreatDoor
open Go.RowKit Go.Lp Go.Sy Go.Lv
open Go.Proofs.Tryz
attribute [local irreducible] aL aB awp aC fwp Quiet
theorem aeB{τ:Type}(A:Cod τ){r r':List UInt8}{b b':Bool}{l:τ}(hr:r.length≤4611686018427387904)(h:A.one (.R r b) A.zero=(.R r' b',l)):r'.length≤r.length:=by
 obtain ⟨r1,b1,h1,h2,_⟩:=A.rd r b hr
 rw [h] at h1
 obtain ⟨rfl,rfl⟩:=CS.R.inj h1
 exact h2
theorem xR{α:Type}(A:Cod α):(dE A).zero=[]:=rfl
set_option maxHeartbeats 4000000 in
theorem yj(b rb bt:Nat)(p v:Value)(r:List UInt8)(bad:Bool)(hr:r.length≤1000000) :
   Con Tryz.prog 17 [.pointer (some ⟨b,0,none⟩),.pointer (some ⟨bt,0,none⟩)] [] [bR b p v (.pointer (some ⟨rb,0,none⟩)),rdB rb r bad,Box bt 39 ZI]
     fun _ ps hp'=>∃ (x:aD) (r':List UInt8) (bad':Bool),bN.one (.R r bad) bN.zero=(.R r' bad',bA x)∧ps=[x.ok]∧hp'=[bR b p v (.pointer (some ⟨rb,0,none⟩)),rdB rb r' bad',Box bt 39 x.vs]:=by
 refine Con.rdF (P1:=fun x=>[ShF bp.row x.nodes,b6 bp.ok x.nodes.l,ShF bQ.row x.exports,b6 bQ.ok x.exports.l,ShF b7.row x.imports,b6 b7.ok x.imports.l,ShF (fun z=>[.v (.int .i64 z)]) x.slots,b6 (fun _:Int=>Fa True) x.slots.l,ShF (fun z=>[.v (.int .i64 z)]) x.stubs,b6 (fun _:Int=>Fa True) x.stubs.l,ShF fx.row x.dyns,b6 (fun _:fx=>Fa True) x.dyns.l,ShF (fun z=>[.v (.int .i64 z)]) x.inits,b6 (fun _:Int=>Fa True) x.inits.l,ShF (fun z=>[.v (.int .i64 z)]) x.lasts,b6 (fun _:Int=>Fa True) x.lasts.l,ShF (fun s=>[.v (.string s)]) x.needs,b6 ek x.needs.l,ShF aF.row x.versions,b6 aF.ok x.versions.l,cC.ok x.info,ShF cr.row x.changes,b6 cr.ok x.changes.l]) ?_ (fun x r' b' h p hp=>by
   rw [List.mem_singleton.1 hp]
   have hk:bN.ok (bA x):=bN.okR hr h
   exact Ent.mk2 (Ent.str hk.1) (Ent.mk2 (Ent.str hk.2.2.2.2.2.1) (Ent.mk2 (Ent.str hk.2.2.2.2.2.2.1) (Ent.mk2 (.of (aH 0 rfl)) (Ent.mk2 (.of (aH 1 rfl)) (Ent.mk2 (.of (aH 2 rfl)) (Ent.mk2 (.of (aH 3 rfl)) (Ent.mk2 (.of (aH 4 rfl)) (Ent.mk2 (.of (aH 5 rfl)) (Ent.mk2 (.of (aH 6 rfl)) (Ent.mk2 (.of (aH 8 rfl)) (Ent.mk2 (.of (aH 10 rfl)) (Ent.mk2 (.of (aH 12 rfl)) (Ent.mk2 (.of (aH 14 rfl)) (Ent.mk2 (.of (aH 16 rfl)) (Ent.mk2 (.of (aH 17 rfl)) (Ent.mk2 (.of (aH 18 rfl)) (Ent.mk2 (.of (aH 19 rfl)) (Ent.mk2 (.of (aH 20 rfl)) (Ent.mk2 (.of (aH 21 rfl)) ((.of (aH 22 rfl)))))))))))))))))))))))
 refine EN2 Tryz.func17 rfl (aSR (LT rfl (cx rfl rfl rfl (fun b0_0=>(aHN ?_)))))
 refine aNs (bT 3 rfl rfl ?_)
 show awp _ _ _ _ ⟨_,At _ 0 _::_,_⟩
 refine aa (aU rfl (cq (l:=[.tmp 2]) rfl) (aA rfl (aNn (aSR (aU rfl (cq (l:=[.tmp 2]) rfl) (LT rfl (bJ (zs:=[.nilFunc]) (by kernel_rfl) rfl (fun b2_1=>(aHN ?_)))))))))
 refine aW rfl (ba 4 tk95 rfl rfl rfl rfl (aHK ?_))
 refine aNs (bT 4 rfl rfl ?_)
 show awp _ _ _ _ ⟨_,atT b2_1 b0_0::_,_⟩
 refine DR [5] 6 (VD 0 0 tk89 1 rfl rfl rfl rfl rfl (VM 1 rfl rfl (VN 2 rfl rfl rfl (VO 3 0 rfl rfl rfl (VB (zs:=[.pointer none]) 4 rfl el215 rfl rfl rfl rfl (.more rfl (.v rfl .nil) .nil) rfl rfl (fun v3_4=>(VE 5 rfl rfl (EC [2] [0,1,2] rfl (dQ b rb bt 39 ZI p v r bad (by omega) ⟨v3_4,1,[0]⟩ (aJ .empty (by decide) rfl bD)) ?_))))))))
 rintro _ _ _ ⟨rfl,r_0,b_0,hq_0,rfl⟩;have hl_0:=cP (fun _ _ _=>rfl) _ _ _ _ (by omega) hq_0
 refine bST rfl ?_
 refine BN (an (ai (DR [4] 5 (VD 0 0 tk89 2 rfl rfl rfl rfl rfl (VM 1 rfl rfl (VN 2 rfl rfl rfl (VO 3 1 rfl rfl rfl (VE 4 rfl rfl (EC [] [0,1,2] rfl (lA false b rb bt 39 [.string (ak.one (.R r bad) ak.zero).2,.bool false,.int .i64 0,.int .i64 0,.int .i64 0,.string .empty,.string .empty,.int .i64 0,.slice none 0 0,.slice none 0 0,.slice none 0 0,.slice none 0 0,.slice none 0 0,.slice none 0 0,.slice none 0 0,.slice none 0 0,.int .i64 0,.slice none 0 0,.slice none 0 0,.slice none 0 0,.slice none 0 0,.slice none 0 0,.slice none 0 0,.slice none 0 0,.slice none 0 0,.slice none 0 0] 1 rfl p v r_0 b_0 (by omega)) ?_)))))))))
 rintro _ _ _ ⟨rfl,r_1,b_1,hq_1,rfl⟩;have hl_1:=ly (by omega) hq_1
 refine bST rfl ?_
 refine BN (an (ai (DR [11] 12 (VD 0 0 tk89 2 rfl rfl rfl rfl rfl (VM 1 rfl rfl (VN 2 rfl rfl rfl (VO 3 2 rfl rfl rfl (VM 4 rfl rfl (VN 5 rfl rfl rfl (VO 6 3 rfl rfl rfl (VM 7 rfl rfl (VN 8 rfl rfl rfl (VO 9 4 rfl rfl rfl (VB (zs:=[.pointer none]) 10 rfl el214 rfl rfl rfl rfl (.more rfl (.v rfl .nil) (.more rfl (.v rfl .nil) (.more rfl (.v rfl .nil) .nil))) rfl rfl (fun v5_10 => ?_)))))))))))))))
 refine VE 11 rfl rfl (EC [3] [0,1,2] rfl (cQ b rb bt 39 [.string (ak.one (.R r bad) ak.zero).2,.bool (bO.one (.R r_0 b_0) false).2,.int .i64 0,.int .i64 0,.int .i64 0,.string .empty,.string .empty,.int .i64 0,.slice none 0 0,.slice none 0 0,.slice none 0 0,.slice none 0 0,.slice none 0 0,.slice none 0 0,.slice none 0 0,.slice none 0 0,.int .i64 0,.slice none 0 0,.slice none 0 0,.slice none 0 0,.slice none 0 0,.slice none 0 0,.slice none 0 0,.slice none 0 0,.slice none 0 0,.slice none 0 0] p v r_1 b_1 (by omega) ⟨v5_10,3,[2,3,4]⟩ (aJ 0 (by decide) rfl (aJ 0 (by decide) rfl (aJ 0 (by decide) rfl bD)))) ?_)
 rintro _ _ _ ⟨rfl,r_2,b_2,hq_2,rfl⟩;have hl_2:=cP (fun _ _ _=>rfl) _ _ _ _ (by omega) hq_2
 refine bST rfl ?_
 refine BN (an (ai (DR [8] 9 (VD 0 0 tk89 3 rfl rfl rfl rfl rfl (VM 1 rfl rfl (VN 2 rfl rfl rfl (VO 3 5 rfl rfl rfl (VM 4 rfl rfl (VN 5 rfl rfl rfl (VO 6 6 rfl rfl rfl (VB (zs:=[.pointer none]) 7 rfl el215 rfl rfl rfl rfl (.more rfl (.v rfl .nil) (.more rfl (.v rfl .nil) .nil)) rfl rfl (fun v6_7=>(VE 8 rfl rfl (EC [4] [0,1,2] rfl (dQ b rb bt 39 [.string (ak.one (.R r bad) ak.zero).2,.bool (bO.one (.R r_0 b_0) false).2,.int .i64 (aj.one (.R r_1 b_1) aj.zero).2,.int .i64 (aj.one (aj.one (.R r_1 b_1) aj.zero).1 aj.zero).2,.int .i64 (aj.one (aj.one (aj.one (.R r_1 b_1) aj.zero).1 aj.zero).1 aj.zero).2,.string .empty,.string .empty,.int .i64 0,.slice none 0 0,.slice none 0 0,.slice none 0 0,.slice none 0 0,.slice none 0 0,.slice none 0 0,.slice none 0 0,.slice none 0 0,.int .i64 0,.slice none 0 0,.slice none 0 0,.slice none 0 0,.slice none 0 0,.slice none 0 0,.slice none 0 0,.slice none 0 0,.slice none 0 0,.slice none 0 0] p v r_2 b_2 (by omega) ⟨v6_7,2,[5,6]⟩ (aJ .empty (by decide) rfl (aJ .empty (by decide) rfl bD))) ?_))))))))))))))
 rintro _ _ _ ⟨rfl,r_3,b_3,hq_3,rfl⟩;have hl_3:=cP (fun _ _ _=>rfl) _ _ _ _ (by omega) hq_3
 refine bST rfl ?_
 refine BN (an (ai (DR [5] 6 (VD 0 0 tk89 4 rfl rfl rfl rfl rfl (VM 1 rfl rfl (VN 2 rfl rfl rfl (VO 3 7 rfl rfl rfl (VB (zs:=[.pointer none]) 4 rfl el214 rfl rfl rfl rfl (.more rfl (.v rfl .nil) .nil) rfl rfl (fun v7_4=>(VE 5 rfl rfl (EC [5] [0,1,2] rfl (cQ b rb bt 39 [.string (ak.one (.R r bad) ak.zero).2,.bool (bO.one (.R r_0 b_0) false).2,.int .i64 (aj.one (.R r_1 b_1) aj.zero).2,.int .i64 (aj.one (aj.one (.R r_1 b_1) aj.zero).1 aj.zero).2,.int .i64 (aj.one (aj.one (aj.one (.R r_1 b_1) aj.zero).1 aj.zero).1 aj.zero).2,.string (ak.one (.R r_2 b_2) ak.zero).2,.string (ak.one (ak.one (.R r_2 b_2) ak.zero).1 ak.zero).2,.int .i64 0,.slice none 0 0,.slice none 0 0,.slice none 0 0,.slice none 0 0,.slice none 0 0,.slice none 0 0,.slice none 0 0,.slice none 0 0,.int .i64 0,.slice none 0 0,.slice none 0 0,.slice none 0 0,.slice none 0 0,.slice none 0 0,.slice none 0 0,.slice none 0 0,.slice none 0 0,.slice none 0 0] p v r_3 b_3 (by omega) ⟨v7_4,1,[7]⟩ (aJ 0 (by decide) rfl bD)) ?_)))))))))))
 rintro _ _ _ ⟨rfl,r_4,b_4,hq_4,rfl⟩;have hl_4:=cP (fun _ _ _=>rfl) _ _ _ _ (by omega) hq_4
 refine bST rfl ?_
 refine BN (an (ai (DR [5] 6 (VD 0 0 tk89 5 rfl rfl rfl rfl rfl (VM 1 rfl rfl (VN 2 rfl rfl rfl (VO 3 8 rfl rfl rfl (bV 4 rfl rfl (cq (l:=[.tmp 2]) rfl) (VE 5 rfl rfl (EC [0] [0,1,2] rfl (ox b rb bt 39 [.string (ak.one (.R r bad) ak.zero).2,.bool (bO.one (.R r_0 b_0) false).2,.int .i64 (aj.one (.R r_1 b_1) aj.zero).2,.int .i64 (aj.one (aj.one (.R r_1 b_1) aj.zero).1 aj.zero).2,.int .i64 (aj.one (aj.one (aj.one (.R r_1 b_1) aj.zero).1 aj.zero).1 aj.zero).2,.string (ak.one (.R r_2 b_2) ak.zero).2,.string (ak.one (ak.one (.R r_2 b_2) ak.zero).1 ak.zero).2,.int .i64 (aj.one (.R r_3 b_3) aj.zero).2,.slice none 0 0,.slice none 0 0,.slice none 0 0,.slice none 0 0,.slice none 0 0,.slice none 0 0,.slice none 0 0,.slice none 0 0,.int .i64 0,.slice none 0 0,.slice none 0 0,.slice none 0 0,.slice none 0 0,.slice none 0 0,.slice none 0 0,.slice none 0 0,.slice none 0 0,.slice none 0 0] 8 rfl p v r_4 b_4 (by omega) eD eO bp.ok 51 [.pointer (some ⟨b0_0,0,none⟩)] (atC b0_0 b) (by kernel_rfl) (fun r bad bx hr=>qA b rb b0_0 bx p v r bad hr)) ?_))))))))))
 rintro _ _ _ ⟨l_nodes,r_5,b_5,hq_5,rfl,rfl⟩;have hl_5:=dr (by omega) hq_5
 refine bST rfl ?_
 refine BN (an (ai (DR [5] 6 (VD 0 0 tk89 7 rfl rfl rfl rfl rfl (VM 1 rfl rfl (VN 2 rfl rfl rfl (VO 3 9 rfl rfl rfl (bV 4 rfl rfl (cq (l:=[.tmp 2]) rfl) (VE 5 rfl rfl (EC [0] [0,1,2] rfl (ot b rb bt 39 [.string (ak.one (.R r bad) ak.zero).2,.bool (bO.one (.R r_0 b_0) false).2,.int .i64 (aj.one (.R r_1 b_1) aj.zero).2,.int .i64 (aj.one (aj.one (.R r_1 b_1) aj.zero).1 aj.zero).2,.int .i64 (aj.one (aj.one (aj.one (.R r_1 b_1) aj.zero).1 aj.zero).1 aj.zero).2,.string (ak.one (.R r_2 b_2) ak.zero).2,.string (ak.one (ak.one (.R r_2 b_2) ak.zero).1 ak.zero).2,.int .i64 (aj.one (.R r_3 b_3) aj.zero).2,l_nodes.val,.slice none 0 0,.slice none 0 0,.slice none 0 0,.slice none 0 0,.slice none 0 0,.slice none 0 0,.slice none 0 0,.int .i64 0,.slice none 0 0,.slice none 0 0,.slice none 0 0,.slice none 0 0,.slice none 0 0,.slice none 0 0,.slice none 0 0,.slice none 0 0,.slice none 0 0] 9 rfl p v r_5 b_5 (by omega) eA eK bQ.ok 53 [.pointer (some ⟨b0_0,0,none⟩)] (atC b0_0 b) (by kernel_rfl) (fun r bad bx hr=>qx b rb b0_0 bx p v r bad hr)) ?_))))))))))
 rintro _ _ _ ⟨l_exports,r_6,b_6,hq_6,rfl,rfl⟩;have hl_6:=dr (by omega) hq_6
 refine bST rfl ?_
 refine BN (an (ai (DR [5] 6 (VD 0 0 tk89 9 rfl rfl rfl rfl rfl (VM 1 rfl rfl (VN 2 rfl rfl rfl (VO 3 10 rfl rfl rfl (bV 4 rfl rfl (cq (l:=[.tmp 2]) rfl) (VE 5 rfl rfl (EC [0] [0,1,2] rfl (ou b rb bt 39 [.string (ak.one (.R r bad) ak.zero).2,.bool (bO.one (.R r_0 b_0) false).2,.int .i64 (aj.one (.R r_1 b_1) aj.zero).2,.int .i64 (aj.one (aj.one (.R r_1 b_1) aj.zero).1 aj.zero).2,.int .i64 (aj.one (aj.one (aj.one (.R r_1 b_1) aj.zero).1 aj.zero).1 aj.zero).2,.string (ak.one (.R r_2 b_2) ak.zero).2,.string (ak.one (ak.one (.R r_2 b_2) ak.zero).1 ak.zero).2,.int .i64 (aj.one (.R r_3 b_3) aj.zero).2,l_nodes.val,l_exports.val,.slice none 0 0,.slice none 0 0,.slice none 0 0,.slice none 0 0,.slice none 0 0,.slice none 0 0,.int .i64 0,.slice none 0 0,.slice none 0 0,.slice none 0 0,.slice none 0 0,.slice none 0 0,.slice none 0 0,.slice none 0 0,.slice none 0 0,.slice none 0 0] 10 rfl p v r_6 b_6 (by omega) eC eM b7.ok 55 [.pointer (some ⟨b0_0,0,none⟩)] (atC b0_0 b) (by kernel_rfl) (fun r bad bx hr=>qy b rb b0_0 bx p v r bad hr)) ?_))))))))))
 rintro _ _ _ ⟨l_imports,r_7,b_7,hq_7,rfl,rfl⟩;have hl_7:=dr (by omega) hq_7
 refine bST rfl ?_
 refine BN (an (ai (DR [5] 6 (VD 0 0 tk89 11 rfl rfl rfl rfl rfl (VM 1 rfl rfl (VN 2 rfl rfl rfl (VO 3 11 rfl rfl rfl (VM 4 rfl rfl (VE 5 rfl rfl (EC [0] [0,1,2] rfl (gS b rb bt 39 [.string (ak.one (.R r bad) ak.zero).2,.bool (bO.one (.R r_0 b_0) false).2,.int .i64 (aj.one (.R r_1 b_1) aj.zero).2,.int .i64 (aj.one (aj.one (.R r_1 b_1) aj.zero).1 aj.zero).2,.int .i64 (aj.one (aj.one (aj.one (.R r_1 b_1) aj.zero).1 aj.zero).1 aj.zero).2,.string (ak.one (.R r_2 b_2) ak.zero).2,.string (ak.one (ak.one (.R r_2 b_2) ak.zero).1 ak.zero).2,.int .i64 (aj.one (.R r_3 b_3) aj.zero).2,l_nodes.val,l_exports.val,l_imports.val,.slice none 0 0,.slice none 0 0,.slice none 0 0,.slice none 0 0,.slice none 0 0,.int .i64 0,.slice none 0 0,.slice none 0 0,.slice none 0 0,.slice none 0 0,.slice none 0 0,.slice none 0 0,.slice none 0 0,.slice none 0 0,.slice none 0 0] 11 rfl p v r_7 b_7 (by omega) aj (fun y=>y) (fun _:Int=>Fa True) 45 [.pointer (some ⟨b0_0,0,none⟩)] (atC b0_0 b) (by kernel_rfl) (fun r bad bx hr=>jb b rb b0_0 bx p v r bad hr)) ?_))))))))))
 rintro _ _ _ ⟨l_slots,r_8,b_8,hq_8,rfl,rfl⟩;have hl_8:=dr (by omega) hq_8;rw [List.map_id'] at hq_8
 refine bST rfl ?_
 refine BN (an (ai (DR [5] 6 (VD 0 0 tk89 13 rfl rfl rfl rfl rfl (VM 1 rfl rfl (VN 2 rfl rfl rfl (VO 3 12 rfl rfl rfl (VM 4 rfl rfl (VE 5 rfl rfl (EC [0] [0,1,2] rfl (gS b rb bt 39 [.string (ak.one (.R r bad) ak.zero).2,.bool (bO.one (.R r_0 b_0) false).2,.int .i64 (aj.one (.R r_1 b_1) aj.zero).2,.int .i64 (aj.one (aj.one (.R r_1 b_1) aj.zero).1 aj.zero).2,.int .i64 (aj.one (aj.one (aj.one (.R r_1 b_1) aj.zero).1 aj.zero).1 aj.zero).2,.string (ak.one (.R r_2 b_2) ak.zero).2,.string (ak.one (ak.one (.R r_2 b_2) ak.zero).1 ak.zero).2,.int .i64 (aj.one (.R r_3 b_3) aj.zero).2,l_nodes.val,l_exports.val,l_imports.val,l_slots.val,.slice none 0 0,.slice none 0 0,.slice none 0 0,.slice none 0 0,.int .i64 0,.slice none 0 0,.slice none 0 0,.slice none 0 0,.slice none 0 0,.slice none 0 0,.slice none 0 0,.slice none 0 0,.slice none 0 0,.slice none 0 0] 12 rfl p v r_8 b_8 (by omega) aj (fun y=>y) (fun _:Int=>Fa True) 45 [.pointer (some ⟨b0_0,0,none⟩)] (atC b0_0 b) (by kernel_rfl) (fun r bad bx hr=>jb b rb b0_0 bx p v r bad hr)) ?_))))))))))
 rintro _ _ _ ⟨l_stubs,r_9,b_9,hq_9,rfl,rfl⟩;have hl_9:=dr (by omega) hq_9;rw [List.map_id'] at hq_9
 refine bST rfl ?_
 refine BN (an (ai (DR [5] 6 (VD 0 0 tk89 15 rfl rfl rfl rfl rfl (VM 1 rfl rfl (VN 2 rfl rfl rfl (VO 3 13 rfl rfl rfl (bV 4 rfl rfl (cq (l:=[.tmp 2]) rfl) (VE 5 rfl rfl (EC [0] [0,1,2] rfl (sC b rb bt 39 [.string (ak.one (.R r bad) ak.zero).2,.bool (bO.one (.R r_0 b_0) false).2,.int .i64 (aj.one (.R r_1 b_1) aj.zero).2,.int .i64 (aj.one (aj.one (.R r_1 b_1) aj.zero).1 aj.zero).2,.int .i64 (aj.one (aj.one (aj.one (.R r_1 b_1) aj.zero).1 aj.zero).1 aj.zero).2,.string (ak.one (.R r_2 b_2) ak.zero).2,.string (ak.one (ak.one (.R r_2 b_2) ak.zero).1 ak.zero).2,.int .i64 (aj.one (.R r_3 b_3) aj.zero).2,l_nodes.val,l_exports.val,l_imports.val,l_slots.val,l_stubs.val,.slice none 0 0,.slice none 0 0,.slice none 0 0,.int .i64 0,.slice none 0 0,.slice none 0 0,.slice none 0 0,.slice none 0 0,.slice none 0 0,.slice none 0 0,.slice none 0 0,.slice none 0 0,.slice none 0 0] 13 rfl p v r_9 b_9 (by omega) lY jP (fun _:fx=>Fa True) 58 [.pointer (some ⟨b0_0,0,none⟩)] (atC b0_0 b) (by kernel_rfl) (fun r bad bx hr=>vQ b rb b0_0 bx p v r bad hr)) ?_))))))))))
 rintro _ _ _ ⟨l_dyns,r_10,b_10,hq_10,rfl,rfl⟩;have hl_10:=dr (by omega) hq_10
 refine bST rfl ?_
 refine BN (an (ai (DR [5] 6 (VD 0 0 tk89 17 rfl rfl rfl rfl rfl (VM 1 rfl rfl (VN 2 rfl rfl rfl (VO 3 14 rfl rfl rfl (VM 4 rfl rfl (VE 5 rfl rfl (EC [0] [0,1,2] rfl (gS b rb bt 39 [.string (ak.one (.R r bad) ak.zero).2,.bool (bO.one (.R r_0 b_0) false).2,.int .i64 (aj.one (.R r_1 b_1) aj.zero).2,.int .i64 (aj.one (aj.one (.R r_1 b_1) aj.zero).1 aj.zero).2,.int .i64 (aj.one (aj.one (aj.one (.R r_1 b_1) aj.zero).1 aj.zero).1 aj.zero).2,.string (ak.one (.R r_2 b_2) ak.zero).2,.string (ak.one (ak.one (.R r_2 b_2) ak.zero).1 ak.zero).2,.int .i64 (aj.one (.R r_3 b_3) aj.zero).2,l_nodes.val,l_exports.val,l_imports.val,l_slots.val,l_stubs.val,l_dyns.val,.slice none 0 0,.slice none 0 0,.int .i64 0,.slice none 0 0,.slice none 0 0,.slice none 0 0,.slice none 0 0,.slice none 0 0,.slice none 0 0,.slice none 0 0,.slice none 0 0,.slice none 0 0] 14 rfl p v r_10 b_10 (by omega) aj (fun y=>y) (fun _:Int=>Fa True) 45 [.pointer (some ⟨b0_0,0,none⟩)] (atC b0_0 b) (by kernel_rfl) (fun r bad bx hr=>jb b rb b0_0 bx p v r bad hr)) ?_))))))))))
 rintro _ _ _ ⟨l_inits,r_11,b_11,hq_11,rfl,rfl⟩;have hl_11:=dr (by omega) hq_11;rw [List.map_id'] at hq_11
 refine bST rfl ?_
 refine BN (an (ai (DR [5] 6 (VD 0 0 tk89 19 rfl rfl rfl rfl rfl (VM 1 rfl rfl (VN 2 rfl rfl rfl (VO 3 15 rfl rfl rfl (VM 4 rfl rfl (VE 5 rfl rfl (EC [0] [0,1,2] rfl (gS b rb bt 39 [.string (ak.one (.R r bad) ak.zero).2,.bool (bO.one (.R r_0 b_0) false).2,.int .i64 (aj.one (.R r_1 b_1) aj.zero).2,.int .i64 (aj.one (aj.one (.R r_1 b_1) aj.zero).1 aj.zero).2,.int .i64 (aj.one (aj.one (aj.one (.R r_1 b_1) aj.zero).1 aj.zero).1 aj.zero).2,.string (ak.one (.R r_2 b_2) ak.zero).2,.string (ak.one (ak.one (.R r_2 b_2) ak.zero).1 ak.zero).2,.int .i64 (aj.one (.R r_3 b_3) aj.zero).2,l_nodes.val,l_exports.val,l_imports.val,l_slots.val,l_stubs.val,l_dyns.val,l_inits.val,.slice none 0 0,.int .i64 0,.slice none 0 0,.slice none 0 0,.slice none 0 0,.slice none 0 0,.slice none 0 0,.slice none 0 0,.slice none 0 0,.slice none 0 0,.slice none 0 0] 15 rfl p v r_11 b_11 (by omega) aj (fun y=>y) (fun _:Int=>Fa True) 45 [.pointer (some ⟨b0_0,0,none⟩)] (atC b0_0 b) (by kernel_rfl) (fun r bad bx hr=>jb b rb b0_0 bx p v r bad hr)) ?_))))))))))
 rintro _ _ _ ⟨l_lasts,r_12,b_12,hq_12,rfl,rfl⟩;have hl_12:=dr (by omega) hq_12;rw [List.map_id'] at hq_12
 refine bST rfl ?_
 refine BN (an (ai (DR [5] 6 (VD 0 0 tk89 21 rfl rfl rfl rfl rfl (VM 1 rfl rfl (VN 2 rfl rfl rfl (VO 3 16 rfl rfl rfl (VB (zs:=[.pointer none]) 4 rfl el214 rfl rfl rfl rfl (.more rfl (.v rfl .nil) .nil) rfl rfl (fun v16_4=>(VE 5 rfl rfl (EC [22] [0,1,2] rfl (cQ b rb bt 39 [.string (ak.one (.R r bad) ak.zero).2,.bool (bO.one (.R r_0 b_0) false).2,.int .i64 (aj.one (.R r_1 b_1) aj.zero).2,.int .i64 (aj.one (aj.one (.R r_1 b_1) aj.zero).1 aj.zero).2,.int .i64 (aj.one (aj.one (aj.one (.R r_1 b_1) aj.zero).1 aj.zero).1 aj.zero).2,.string (ak.one (.R r_2 b_2) ak.zero).2,.string (ak.one (ak.one (.R r_2 b_2) ak.zero).1 ak.zero).2,.int .i64 (aj.one (.R r_3 b_3) aj.zero).2,l_nodes.val,l_exports.val,l_imports.val,l_slots.val,l_stubs.val,l_dyns.val,l_inits.val,l_lasts.val,.int .i64 0,.slice none 0 0,.slice none 0 0,.slice none 0 0,.slice none 0 0,.slice none 0 0,.slice none 0 0,.slice none 0 0,.slice none 0 0,.slice none 0 0] p v r_12 b_12 (by omega) ⟨v16_4,1,[16]⟩ (aJ 0 (by decide) rfl bD)) ?_)))))))))))
 rintro _ _ _ ⟨rfl,r_13,b_13,hq_13,rfl⟩;have hl_13:=cP (fun _ _ _=>rfl) _ _ _ _ (by omega) hq_13
 refine bST rfl ?_
 refine BN (an (ai (DR [5] 6 (VD 0 0 tk89 22 rfl rfl rfl rfl rfl (VM 1 rfl rfl (VN 2 rfl rfl rfl (VO 3 17 rfl rfl rfl (VD 4 0 tk95 21 rfl rfl rfl rfl rfl (VE 5 rfl rfl (EC [0] [0,1,2] rfl (jz b rb bt 39 [.string (ak.one (.R r bad) ak.zero).2,.bool (bO.one (.R r_0 b_0) false).2,.int .i64 (aj.one (.R r_1 b_1) aj.zero).2,.int .i64 (aj.one (aj.one (.R r_1 b_1) aj.zero).1 aj.zero).2,.int .i64 (aj.one (aj.one (aj.one (.R r_1 b_1) aj.zero).1 aj.zero).1 aj.zero).2,.string (ak.one (.R r_2 b_2) ak.zero).2,.string (ak.one (ak.one (.R r_2 b_2) ak.zero).1 ak.zero).2,.int .i64 (aj.one (.R r_3 b_3) aj.zero).2,l_nodes.val,l_exports.val,l_imports.val,l_slots.val,l_stubs.val,l_dyns.val,l_inits.val,l_lasts.val,.int .i64 (aj.one (.R r_12 b_12) aj.zero).2,.slice none 0 0,.slice none 0 0,.slice none 0 0,.slice none 0 0,.slice none 0 0,.slice none 0 0,.slice none 0 0,.slice none 0 0,.slice none 0 0] 17 rfl p v r_13 b_13 (by omega) ak (fun y=>y) ek 47 [.pointer (some ⟨b0_0,0,none⟩)] (atC b0_0 b) (by kernel_rfl) (fun r bad bx hr=>mT b rb b0_0 bx p v r bad hr)) ?_))))))))))
 rintro _ _ _ ⟨l_needs,r_14,b_14,hq_14,rfl,rfl⟩;have hl_14:=dr (by omega) hq_14;rw [List.map_id'] at hq_14
 refine bST rfl ?_
 refine BN (an (ai (aZ (cF (atC b0_0 b) (atT b2_1 b0_0)) (Ent.mk2 (.of (aH 24 rfl)) (.of (aH 23 rfl))) (DR [5] 6 (VD 0 0 tk89 25 rfl rfl rfl rfl rfl (VM 1 rfl rfl (VN 2 rfl rfl rfl (VO 3 18 rfl rfl rfl (bV 4 rfl rfl (cq (l:=[.tmp 2,.tmp 5]) rfl) (VE 5 rfl rfl (EC [25] [0,1,2] rfl (kJ b rb bt 39 [.string (ak.one (.R r bad) ak.zero).2,.bool (bO.one (.R r_0 b_0) false).2,.int .i64 (aj.one (.R r_1 b_1) aj.zero).2,.int .i64 (aj.one (aj.one (.R r_1 b_1) aj.zero).1 aj.zero).2,.int .i64 (aj.one (aj.one (aj.one (.R r_1 b_1) aj.zero).1 aj.zero).1 aj.zero).2,.string (ak.one (.R r_2 b_2) ak.zero).2,.string (ak.one (ak.one (.R r_2 b_2) ak.zero).1 ak.zero).2,.int .i64 (aj.one (.R r_3 b_3) aj.zero).2,l_nodes.val,l_exports.val,l_imports.val,l_slots.val,l_stubs.val,l_dyns.val,l_inits.val,l_lasts.val,.int .i64 (aj.one (.R r_12 b_12) aj.zero).2,l_needs.val,.slice none 0 0,.slice none 0 0,.slice none 0 0,.slice none 0 0,.slice none 0 0,.slice none 0 0,.slice none 0 0,.slice none 0 0] 18 rfl p v r_14 b_14 (by omega) cX dw aF.ok 61 [.pointer (some ⟨b0_0,0,none⟩),.pointer (some ⟨b2_1,0,none⟩)] (cF (atC b0_0 b) (atT b2_1 b0_0)) (by kernel_rfl) (fun r bad bx hr=>mh b rb b0_0 b2_1 bx p v r bad hr)) ?_)))))))))))
 rintro _ _ _ ⟨l_versions,r_15,b_15,hq_15,rfl,rfl⟩;have hl_15:=dr (by omega) hq_15
 refine bST rfl ?_
 refine BN (an (ai (DR [4] 5 (VD 0 0 tk89 27 rfl rfl rfl rfl rfl (VM 1 rfl rfl (VN 2 rfl rfl rfl (VO 3 19 rfl rfl rfl (VE 4 rfl rfl (EC [] [0,1,2] rfl (aa3 b rb bt 39 [.string (ak.one (.R r bad) ak.zero).2,.bool (bO.one (.R r_0 b_0) false).2,.int .i64 (aj.one (.R r_1 b_1) aj.zero).2,.int .i64 (aj.one (aj.one (.R r_1 b_1) aj.zero).1 aj.zero).2,.int .i64 (aj.one (aj.one (aj.one (.R r_1 b_1) aj.zero).1 aj.zero).1 aj.zero).2,.string (ak.one (.R r_2 b_2) ak.zero).2,.string (ak.one (ak.one (.R r_2 b_2) ak.zero).1 ak.zero).2,.int .i64 (aj.one (.R r_3 b_3) aj.zero).2,l_nodes.val,l_exports.val,l_imports.val,l_slots.val,l_stubs.val,l_dyns.val,l_inits.val,l_lasts.val,.int .i64 (aj.one (.R r_12 b_12) aj.zero).2,l_needs.val,l_versions.val,.slice none 0 0,.slice none 0 0,.slice none 0 0,.slice none 0 0,.slice none 0 0,.slice none 0 0,.slice none 0 0] rfl rfl rfl rfl rfl rfl p v r_15 b_15 (by omega)) ?_)))))))))
 rintro _ _ _ ⟨l_info,r_16,b_16,hq_16,rfl,rfl⟩;have hl_16:=aeB ft (by omega) hq_16
 refine bST rfl ?_
 refine BN (an (DR [5] 6 (VD 0 0 tk89 28 rfl rfl rfl rfl rfl (VM 1 rfl rfl (VN 2 rfl rfl rfl (VO 3 25 rfl rfl rfl (bV 4 rfl rfl (cq (l:=[.tmp 2]) rfl) (VE 5 rfl rfl (EC [0] [0,1,2] rfl (qO b rb bt 39 [.string (ak.one (.R r bad) ak.zero).2,.bool (bO.one (.R r_0 b_0) false).2,.int .i64 (aj.one (.R r_1 b_1) aj.zero).2,.int .i64 (aj.one (aj.one (.R r_1 b_1) aj.zero).1 aj.zero).2,.int .i64 (aj.one (aj.one (aj.one (.R r_1 b_1) aj.zero).1 aj.zero).1 aj.zero).2,.string (ak.one (.R r_2 b_2) ak.zero).2,.string (ak.one (ak.one (.R r_2 b_2) ak.zero).1 ak.zero).2,.int .i64 (aj.one (.R r_3 b_3) aj.zero).2,l_nodes.val,l_exports.val,l_imports.val,l_slots.val,l_stubs.val,l_dyns.val,l_inits.val,l_lasts.val,.int .i64 (aj.one (.R r_12 b_12) aj.zero).2,l_needs.val,l_versions.val,l_info.marks.val,l_info.lines.val,l_info.ends.val,l_info.inlines.val,l_info.vars.val,l_info.depths.val,.slice none 0 0] 25 rfl p v r_16 b_16 (by omega) ix gI cr.ok 64 [.pointer (some ⟨b0_0,0,none⟩)] (atC b0_0 b) (by kernel_rfl) (fun r bad bx hr=>uf b rb b0_0 bx p v r bad hr)) ?_)))))))))
 rintro _ _ _ ⟨l_changes,r_17,b_17,hq_17,rfl,rfl⟩;have hl_17:=dr (by omega) hq_17
 refine bST rfl ?_
 refine BN ?_
 refine rk [7,6,9,8,11,10,13,12,15,14,17,16,19,18,21,20,24,23,27,26,28,30,29] [0,1,2] rfl Tryz.results17 ?_ (.inl rfl)
 have k_0:(ak.one (.R r bad) ak.zero).1=.R r_0 b_0:=hq_0
 have k_1:(bO.one (.R r_0 b_0) bO.zero).1=.R r_1 b_1:=hq_1
 have k_2:(aj.one (aj.one (aj.one (.R r_1 b_1) aj.zero).1 aj.zero).1 aj.zero).1=.R r_2 b_2:=hq_2
 have k_3:(ak.one (ak.one (.R r_2 b_2) ak.zero).1 ak.zero).1=.R r_3 b_3:=hq_3
 have k_4:(aj.one (.R r_3 b_3) aj.zero).1=.R r_4 b_4:=hq_4
 have k_13:(aj.one (.R r_12 b_12) aj.zero).1=.R r_13 b_13:=hq_13
 refine ⟨⟨(ak.one (.R r bad) ak.zero).2,(bO.one (.R r_0 b_0) false).2,(aj.one (.R r_1 b_1) aj.zero).2,(aj.one (aj.one (.R r_1 b_1) aj.zero).1 aj.zero).2,(aj.one (aj.one (aj.one (.R r_1 b_1) aj.zero).1 aj.zero).1 aj.zero).2,(ak.one (.R r_2 b_2) ak.zero).2,(ak.one (ak.one (.R r_2 b_2) ak.zero).1 ak.zero).2,(aj.one (.R r_3 b_3) aj.zero).2,l_nodes,l_exports,l_imports,l_slots,l_stubs,l_dyns,l_inits,l_lasts,(aj.one (.R r_12 b_12) aj.zero).2,l_needs,l_versions,l_info,l_changes⟩,r_17,b_17,?_,rfl,rfl⟩
 unfold bN
 simp only [ey,dT,xR]
 rw [k_0]
 rw [k_1]
 rw [k_2]
 rw [k_3]
 rw [k_4]
 rw [hq_5]
 try dsimp only
 rw [hq_6]
 try dsimp only
 rw [hq_7]
 try dsimp only
 rw [hq_8]
 try dsimp only
 rw [hq_9]
 try dsimp only
 rw [hq_10]
 try dsimp only
 rw [hq_11]
 try dsimp only
 rw [hq_12]
 try dsimp only
 rw [k_13]
 rw [hq_14]
 try dsimp only
 rw [hq_15]
 try dsimp only
 rw [hq_16]
 try dsimp only
 rw [hq_17]
 try dsimp only
 all_goals rfl
end Go.Proofs.YtebnelfdimiifaaGreatDoor

namespace Go.Sy
open Go.RowKit Go.Lp
theorem adI{w:World}{S F:bH}{v:Value}{E:TypeId}{sz:Nat}{rows:List (List D)}(h:(aN v E sz rows).holds w S F)(hne:rows≠[]):∃ g cap,v=.slice (some ⟨g,0,none⟩) rows.length cap∧cap≠0:=by
 rcases h with ⟨_,h2,_⟩ | ⟨b,cap,h1,⟨_,_,_,_,_,h3,_⟩,_⟩
 · exact absurd h2 hne
 · refine ⟨b,cap,h1,fun e=>hne ?_⟩
   subst e
   exact List.eq_nil_of_length_eq_zero (by omega)
end Go.Sy
namespace Go.Proofs.YtebnelfdimiifaaGreatDoor
open Go.RowKit Go.Lp Go.Sy Go.Lv
open Go.Proofs.Tryz
attribute [local irreducible] aL aB awp aC fwp Quiet
theorem fE(x:aD)(hx:cY x)(hl:(bN.enc (bA x)).length≤1000000000):Con Tryz.prog 7 [x.val] [x.ok] [] fun r ps hp=>ps=[]∧hp=[]∧r=.string (bytesOf (bN.enc (bA x))):=by
 have hne:bN.enc (bA x)≠[]:=fun h=>by have:=bN.pos (bA x);rw [h] at this;cases this
 refine EN1 Tryz.func7 rfl (aSR (LT rfl (cx rfl rfl rfl (fun b0_0=>(aHN ?_)))))
 refine aA rfl (aNn (aSR (LT rfl (bJ (zs:=[.pointer none,.slice none 0 0,.pointer none]) (by kernel_rfl) rfl (fun b1_0=>(aHN ?_))))))
 refine aNs (ef 5 1 ?_)
 show awp _ _ _ _ ⟨_,_,[_,_,_]⟩
 refine aa (LF rfl (EC [0] [1,2,0] rfl (yl x hx b1_0 b0_0 (.pointer none) (.slice none 0 0) (.inl rfl) [] hl) ?_))
 rintro _ _ _ ⟨rfl,p1,v1,hp1,rfl⟩
 refine aST ?_
 refine aNs ?_
 have hne2:=hne
 refine fK 2 rfl (fun _ _ _ h=>adI h (fun h=>hne (List.map_eq_nil_iff.1 h))) (fun ⟨g,cp,hv,hcp⟩ => ?_)
 rw [List.length_map] at hv
 subst hv
 refine aa (UO 0 rfl rfl (LF rfl (EC [] [1,2] rfl (acE b1_0 p1 g cp hcp (.pointer none) (bN.enc (bA x)) hne) ?_)))
 rintro _ _ _ ⟨rfl,rfl,rfl⟩
 refine aST ?_
 refine aA rfl (aNn (az (FZ1 [] Tryz.results7 rfl ?_)))
 exact ⟨rfl,rfl,rfl⟩
theorem qM(s:List UInt8)(hs:s.length≤1000000):Con Tryz.prog 12 [.string (bytesOf s)] [] [] fun r ps hp=>hp=[]∧∃ (x:aD) (r':List UInt8) (b':Bool),bN.one (.R s false) bN.zero=(.R r' b',bA x)∧ps=[x.ok] ∧
   r=if ((!(!b' && r'.isEmpty)) || !decide (bytesOf (bN.enc (bA x))=bytesOf s))=true then .tuple #[(default:aD).val,.bool false] else .tuple #[x.val,.bool true]:=by
 refine EN1 Tryz.func12 rfl (aSR (LT rfl (bJ (zs:=ZI) (by kernel_rfl) rfl (fun b0_0=>(aHN ?_)))))
 refine aA rfl (aNn (aSR (LT rfl (bJ (zs:=ZI) (by kernel_rfl) rfl (fun b1_0=>(aHN ?_))))))
 refine aNn (aSR (aM rfl (LT rfl (EC [] [] rfl (abe s) ?_))))
 rintro _ _ _ ⟨rfl,rb,rfl,rfl⟩
 refine aST ?_
 refine aU rfl (ib (l:=[(1,.tmp 7)]) (zs:=[.pointer none,.slice none 0 0,.pointer none]) (pl:=[(0,2),(2,1)]) (by kernel_rfl) (by kernel_rfl) (by kernel_rfl) rfl rfl rfl) (LT rfl (bJ (zs:=[.pointer none,.slice none 0 0,.pointer none]) (by kernel_rfl) rfl (fun b2_3=>(aHN ?_))))
 refine aW rfl (ba 3 tk65 rfl rfl rfl rfl (aHK ?_))
 refine aNn (aSR (LF rfl (EC [] [3,2,1] rfl (yj b2_3 rb b1_0 (.pointer none) (.slice none 0 0) s false hs) ?_)))
 rintro _ _ _ ⟨x,r1,b1,hq,rfl,rfl⟩
 refine aST ?_
 refine aNs (aSR (UO 2 rfl rfl (UL 3 tk63 rfl rfl rfl rfl (LF rfl (EC [] [2] rfl (td rb r1 b1) ?_)))))
 rintro _ _ _ ⟨rfl,rfl,rfl⟩
 refine aST ?_
 refine aU rfl (dO rfl) (aM rfl (aG rfl rfl (fun hc=>bj 1 tk39 rfl rfl rfl) (aG rfl rfl (fun hc=>Q1 (aK (ae rfl hc) rfl) ((fE x (rf hs hq).1 (rf hs hq).2).post (fun _ _ _ h=>h.2.2)) 0 rfl) (aG rfl rfl (fun hc=>aT rfl) (aG rfl rfl (fun hc=>uU (ae rfl hc) (ae rfl hc)) (aU rfl (dp rfl rfl (fun h=>gf rfl h)) (aNn ?_)))))))
 refine ao _ rfl (fun h1 => ?_) (fun h1 => ?_)
 ·skip
  refine aSR (aU rfl (ib (l:=[]) (zs:=ZI) (pl:=[(0,1),(1,1),(2,1),(3,1),(4,1),(5,1),(6,1),(7,1),(8,1),(9,1),(10,1),(11,1),(12,1),(13,1),(14,1),(15,1),(16,1),(17,1),(18,1),(19,6),(25,1)]) (by kernel_rfl) (by kernel_rfl) (by kernel_rfl) rfl rfl rfl) (aW rfl (ba 0 tk39 rfl rfl rfl rfl (aHK ?_))))
  refine aA rfl (aNn (az (bw ?_)))
  refine afA [0] [] rfl Tryz.results12 (nz 0 tk39 rfl rfl rfl) (ad0 rfl) ?_ (.inr rfl)
  exact ⟨rfl,x,r1,b1,hq,rfl,by rw [if_pos h1];rfl⟩
 ·skip
  refine ax (an (aSR (UL 1 tk39 rfl rfl rfl rfl (aW rfl (ba 0 tk39 rfl rfl rfl rfl (aHK ?_))))))
  refine aA rfl (aNn (az ?_))
  refine afA [0] [] rfl Tryz.results12 (nz 0 tk39 rfl rfl rfl) (ad0 rfl) ?_ (.inr rfl)
  exact ⟨rfl,x,r1,b1,hq,rfl,by rw [if_neg (by rw [h1];decide)]⟩
theorem mm(x y:aD)(hx:cY x)(hy:cY y)(hlx:(bN.enc (bA x)).length≤1000000000)(hly:(bN.enc (bA y)).length≤1000000000):Con Tryz.prog 6 [x.val,y.val] [x.ok,y.ok] [] fun r ps hp=>ps=[]∧hp=[]∧r=.bool (decide (bytesOf (bN.enc (bA x))=bytesOf (bN.enc (bA y)))):=by
 refine EN2 Tryz.func6 rfl (aSR (LT rfl (cx rfl rfl rfl (fun b0_0=>(aHN ?_)))))
 refine LT rfl (cx rfl rfl rfl (fun b0_1=>(aHN ?_)))
 refine aA rfl (aNs (DR [] 6 (VL 0 0 tk39 rfl rfl rfl rfl rfl (bV 1 rfl rfl (Q1 rfl ((fE x hx hlx).post (fun _ _ _ h=>h.2.2)) 0 rfl) (VL 2 1 tk39 rfl rfl rfl rfl rfl (bV 3 rfl rfl (Q1 rfl ((fE y hy hly).post (fun _ _ _ h=>h.2.2)) 1 rfl) (bV 4 rfl rfl (jm rfl rfl) (bV 5 rfl rfl (bo rfl) (BN (an (az (FZ1 [] Tryz.results6 rfl ?_))))))))))))
 exact ⟨rfl,rfl,rfl⟩
abbrev aeP(x:aD):xL:=⟨x.name,x.exports,x.versions⟩
theorem wc(x:aD):Con Tryz.prog 15 [x.val] [x.ok] [] fun r ps hp=>ps=[]∧hp=[]∧r=(aeP x).val:=by
 refine EN1 Tryz.func15 rfl (aSR (LT rfl (cx rfl rfl rfl (fun b0_0=>(aHN ?_)))))
 refine LT rfl (bJ (zs:=[.string .empty,.slice none 0 0,.slice none 0 0]) (by kernel_rfl) rfl (fun b0_1=>(aHN ?_)))
 refine aNn (aSR (UO 0 rfl rfl (UL 0 tk9 rfl rfl rfl rfl (UO 9 rfl rfl (UL 0 tk23 rfl rfl rfl rfl (UO 18 rfl rfl (UL 0 tk28 rfl rfl rfl rfl (aU rfl (ib (l:=[(0,.tmp 4),(1,.tmp 6),(2,.tmp 8)]) (zs:=[.string .empty,.slice none 0 0,.slice none 0 0]) (pl:=[(0,1),(1,1),(2,1)]) (by kernel_rfl) (by kernel_rfl) (by kernel_rfl) rfl rfl rfl) (aW rfl (ba 1 tk52 rfl rfl rfl rfl (aHK ?_)))))))))))
 refine aNn (az ?_)
 refine ac6 [] [] rfl Tryz.results15 (nz 1 tk52 rfl rfl rfl) ?_ (.inr rfl)
 exact ⟨rfl,rfl,rfl⟩
theorem aeM(m:Nat):IntKind.u8.wrap (IntKind.u8.wrap ((m:Int).tmod 128)+128)=((m % 128+128:Nat):Int):=by
 have e:(m:Int).tmod 128=((m % 128:Nat):Int):=by rw [Int.tmod_eq_emod_of_nonneg (by omega)];omega
 rw [e,IntKind.wrap_u8,IntKind.wrap_u8];omega
theorem kL(m0:Nat)(h0:m0<18446744073709551616):Con Tryz.prog 167 [.int .u64 m0] [] [] fun r ps hp=>ps=[]∧hp=[]∧r=.string (bytesOf (aQ m0)):=by
 refine EN1 Tryz.func167 rfl (ef 5 1 ?_)
 show awp _ _ _ _ ⟨_,_,[_]⟩
 refine aSR (aA rfl (aNn (aSR (aA rfl (aNs (aq (aP [0,3] [] [0] (fun (q:Nat × (Value × List UInt8)) st=>WrI m0 q.2.2 q.1∧st=⟨[(0,true,.int .u64 q.1),(3,true,q.2.1)],[],[aN q.2.1 5 1 (q.2.2.map cE)]⟩) (fun q=>q.1) rfl (⟨(m0,(.slice none 0 0,[])),.start h0,rfl⟩) ?_)))))))
 rintro ⟨m,v,l⟩ st ⟨hI,rfl⟩
 dsimp only at hI ⊢
 have hll:=hI.le
 refine ai (aSR (aM rfl (aU rfl (fH rfl rfl) (aNn ?_))))
 refine ao _ rfl (fun h1 => ?_) (fun h1 => ?_)
 ·skip
  have h128:128≤m:=by simp at h1;omega
  refine ax (an (aq (aSR (aM rfl (aM rfl (aU rfl (fl rfl rfl (by decide)) (aU rfl (cW (by kernel_rfl) Tryz.underlying5 rfl) (aU rfl (tF rfl rfl) (LT rfl (WL (zs:=[.int .u8 0]) el60 rfl rfl rfl (.more rfl (.v rfl .nil) .nil) rfl rfl (fun v3_5=>(aHN ?_))))))))))))
  refine aW rfl (cK 0 el60 rfl rfl rfl rfl (dW 1 el60 rfl (by simp)) (by first | assumption | simp) (by rw [List.length_map];exact Nat.le_trans (show l.length+1≤10 by omega) (by decide)) ((l.length+1)) (by rw [List.length_map];rfl) (fun v3_6 c3_6 => ?_))
  refine aHK ?_
  refine aA rfl (aNn ?_)
  rw [aeM m]
  refine aa (aM rfl (aU rfl (rL rfl rfl (by decide)) (aA rfl (bP (bu (an ?_))))))
  refine ⟨[0,3],[],[0],rfl,?_⟩
  have hlt:m<18446744073709551616:=Nat.lt_of_lt_of_le hI.lt (Nat.le_trans (Nat.mul_le_mul_left 2 (Nat.pow_le_pow_right (by decide) (show 9-l.length≤9 by omega))) (by decide))
  exact ⟨(m / 128,(_,l++[UInt8.ofNat (m % 128+128)])),⟨hI.step h128,by dsimp only;rw [← afG hlt,List.map_append,List.map_singleton,cE,ach (show m % 128+128<256 by omega)];rfl⟩,by dsimp only;omega⟩
 ·skip
  have h128:m<128:=by simp at h1;omega
  refine aR (aS (aS (aY (an (aSR (aM rfl (aM rfl (aU rfl (cW (by kernel_rfl) Tryz.underlying5 rfl) (LT rfl (WL (zs:=[.int .u8 0]) el60 rfl rfl rfl (.more rfl (.v rfl .nil) .nil) rfl rfl (fun v5_3=>(aHN ?_))))))))))))
  refine aW rfl (cK 0 el60 rfl rfl rfl rfl (dW 1 el60 rfl (by simp)) (by first | assumption | simp) (by rw [List.length_map];exact Nat.le_trans (show l.length+1≤10 by omega) (by decide)) ((aQ m0).length) (by rw [← hI.last h128,List.length_map,List.length_append];rfl) (fun v5_4 c5_4 => ?_))
  refine aHK ?_
  refine aU rfl (iY 0 (aQ m0) Tryz.underlying60 Tryz.underlying5 Tryz.underlying9 rfl rfl (by rw [← hI.last h128,List.map_append,List.map_singleton,ach (show m<256 by omega),zY h128]) (p4 m0)) ?_
  refine aA rfl (aNn (az (FZ1 [] Tryz.results167 rfl ?_)))
  exact ⟨rfl,rfl,rfl⟩
theorem lD(m:Nat)(hm:m≤9223372036854775807):Con Tryz.prog 124 [.int .i64 m] [] [] fun r ps hp=>ps=[]∧hp=[]∧r=.string (bytesOf (aQ m)):=by
 refine EN1 Tryz.func124 rfl (aSR (aA rfl (aNs (aSR (aM rfl (aU rfl (bC rfl rfl) (aNn ?_)))))))
 refine ao _ rfl (fun h1 => ?_) (fun h1 => ?_)
 ·skip
  exact absurd h1 (by simp)
 ·skip
  refine ax (an (aSR (aM rfl (aU rfl (cW (by kernel_rfl) Tryz.underlying135 rfl) ?_))))
  refine aU rfl (QC rfl (fun w S fp hst=>(show Calls Tryz.prog 167 #[.int .u64 (IntKind.u64.wrap (m:Int))] w _ from by rw [Go.wraps_u64 (m:Int) (by omega) (by omega)];exact ((kL m (by omega)).post (fun _ _ _ h=>h.2.2)).quiet0 hst))) ?_
  refine aA rfl (aNn (az (FZ1 [] Tryz.results124 rfl ?_)))
  exact ⟨rfl,rfl,rfl⟩
theorem lC(z:Int)(hz:Go.Lv.I64 z):Con Tryz.prog 123 [.int .i64 z] [] [] fun r ps hp=>ps=[]∧hp=[]∧r=.string (bytesOf (aQ (zz z))):=by
 have hzl:=aaC hz
 refine EN1 Tryz.func123 rfl (aSR (aA rfl (aNs (aSR (aM rfl (aU rfl (bC rfl rfl) (aNn ?_)))))))
 refine ao _ rfl (fun h1 => ?_) (fun h1 => ?_)
 ·skip
  have hneg:z<0:=by simpa using h1
  have hw:IntKind.u64.wrap (IntKind.u64.wrap (2*IntKind.u64.wrap (IntKind.i64.wrap (-(IntKind.i64.wrap (z+1)))))+1)=((zz z:Nat):Int):=by
    unfold zz;rw [if_pos hneg];unfold Go.Lv.I64 at hz
    rw [IntKind.wrap_i64,IntKind.wrap_i64,IntKind.wrap_u64,IntKind.wrap_u64,IntKind.wrap_u64];omega
  refine aSR (aM rfl (aU rfl (tF rfl rfl) (aU rfl (afD rfl) (aU rfl (cW (by kernel_rfl) Tryz.underlying135 rfl) (aU rfl (adW rfl rfl) (aU rfl (tF rfl rfl) ?_))))))
  refine aU rfl (QC rfl (fun w S fp hst=>(show Calls Tryz.prog 167 #[.int .u64 (IntKind.u64.wrap (IntKind.u64.wrap (2*IntKind.u64.wrap (IntKind.i64.wrap (-(IntKind.i64.wrap (z+1)))))+1))] w _ from by rw [hw];exact ((kL (zz z) hzl).post (fun _ _ _ h=>h.2.2)).quiet0 hst))) ?_
  refine aA rfl (aNn (az (bw (FZ1 [] Tryz.results123 rfl ?_))))
  exact ⟨rfl,rfl,rfl⟩
 ·skip
  have hneg:¬ z<0:=by simpa using h1
  have hw:IntKind.u64.wrap (2*IntKind.u64.wrap z)=((zz z:Nat):Int):=by
    unfold zz;rw [if_neg hneg];unfold Go.Lv.I64 at hz
    rw [IntKind.wrap_u64,IntKind.wrap_u64];omega
  refine ax (an (aSR (aM rfl (aU rfl (cW (by kernel_rfl) Tryz.underlying135 rfl) (aU rfl (adW rfl rfl) ?_)))))
  refine aU rfl (QC rfl (fun w S fp hst=>(show Calls Tryz.prog 167 #[.int .u64 (IntKind.u64.wrap (2*IntKind.u64.wrap z))] w _ from by rw [hw];exact ((kL (zz z) hzl).post (fun _ _ _ h=>h.2.2)).quiet0 hst))) ?_
  refine aA rfl (aNn (az (FZ1 [] Tryz.results123 rfl ?_)))
  exact ⟨rfl,rfl,rfl⟩
theorem q3(s:ByteArray)(hs:s.size≤4611686018427387904):Con Tryz.prog 122 [.string s] [] [] fun r ps hp=>ps=[]∧hp=[]∧r=.string (bytesOf (sH s)):=by
 refine EN1 Tryz.func122 rfl (aSR (aA rfl (aNn (aSR (aM rfl (aU rfl (cB Tryz.underlying9 rfl) (aU rfl (Q0 rfl ((lD s.size (by omega)).post (fun _ _ _ h=>h.2.2))) (aM rfl ?_))))))))
 refine aU rfl (kY rfl rfl (by have h:(aQ s.size).length≤10:=eJ 10 s.size;show (aQ s.size).length+s.size≤_;omega)) ?_
 refine aA rfl (aNn (az (FZ1 [] Tryz.results122 rfl ?_)))
 exact ⟨rfl,rfl,congrArg Value.string (et (aQ s.size) (il s)).symm⟩
theorem j8(l:Sl Int)(hI:∀ y∈l.l,Go.Lv.I64 y)(hl:(aQ l.l.length++aO aj.enc l.l).length≤1000000000):Con Tryz.prog 40 [l.val] [ShF (fun z=>[.v (.int .i64 z)]) l] [] fun r ps hp=>ps=[]∧hp=[]∧r=.string (bytesOf (aQ l.l.length++aO aj.enc l.l)):=by
 rw [List.length_append] at hl
 refine EN1 Tryz.func40 rfl (bS (.of (aH 0 rfl)) (fun hlen=>(aSR (aA rfl (aNn (aSR (aM rfl (aU rfl (aX Tryz.underlying25 rfl) (aU rfl (Q0 rfl ((lD l.l.length hlen).post (fun _ _ _ h=>h.2.2))) (aA rfl (aNs (aSR (aA rfl (aNn (aq ?_)))))))))))))))
 refine aP [0,3,4] [0] [] (fun (k:Nat) st=>k≤l.l.length∧st=⟨[(0,true,l.val),(3,true,.string (bytesOf (aQ l.l.length++aO aj.enc (l.l.take k)))),(4,true,.int .i64 k)],[ShF (fun z=>[.v (.int .i64 z)]) l],[]⟩) (fun k=>l.l.length-k) rfl (⟨0,Nat.zero_le _,by rw [List.take_zero];show _=(⟨[_,(3,true,.string (bytesOf (aQ l.l.length++[]))),_],_,_⟩:Sta);rw [List.append_nil];rfl⟩) ?_
 rintro k st ⟨hk,rfl⟩
 refine ai (aSR (aM rfl (aM rfl (aU rfl (aX Tryz.underlying25 rfl) (aU rfl (bC rfl rfl) (aNn ?_))))))
 refine ao _ rfl (fun h1 => ?_) (fun h1 => ?_)
 ·skip
  have hk':k<l.l.length:=by simpa using h1
  obtain ⟨x,hx⟩:∃ x,l.l[k]? = some x:=⟨_,List.getElem?_eq_getElem hk'⟩
  have hen:=eH (e:=aj.enc) hx
  have hle:=iz (e:=aj.enc) l.l (k+1)
  rw [hen,List.length_append] at hle
  refine ax (an (ai (aq (aa (aM rfl (aM rfl (aM rfl (UI Tryz.underlying25 tk3 0 rfl rfl rfl rfl rfl (aI hx) rfl rfl (fun ⟨b5_3,o5_3⟩=>(US 0 tk3 0 rfl rfl rfl rfl rfl (aU rfl (Q0 rfl ((lC x (hI x (List.mem_of_getElem? hx))).post (fun _ _ _ h=>h.2.2))) ?_)))))))))))
  refine aU rfl (kY rfl rfl (by show (aQ l.l.length++aO aj.enc (l.l.take k)).length+(aj.enc x).length≤_;rw [List.length_append];exact Nat.le_trans (show _≤1000000000 by omega) (by decide))) ?_
  refine aA rfl (bP (bu (an (aa (aM rfl (aU rfl (aV rfl rfl (by omega)) (aA rfl (aNn ?_))))))))
  refine ⟨[0,3,4],[0],[],rfl,?_⟩
  refine ⟨k+1,⟨hk',?_⟩,by omega⟩
  rw [hen,← List.append_assoc,et _ (aj.enc x)]
  rfl
 ·skip
  have hke:k=l.l.length:=by simp at h1;omega
  subst hke
  refine aR (aS (aS (aY (an (aSR (aM rfl (aA rfl (aNn (az (FZ1 [] Tryz.results40 rfl ?_))))))))))
  exact ⟨rfl,rfl,by rw [List.take_length]⟩
theorem pd(l:Sl ByteArray)(hl:(aQ l.l.length++aO ak.enc l.l).length≤1000000000):Con Tryz.prog 41 [l.val] [ShF (fun s=>[.v (.string s)]) l] [] fun r ps hp=>ps=[]∧hp=[]∧r=.string (bytesOf (aQ l.l.length++aO ak.enc l.l)):=by
 rw [List.length_append] at hl
 refine EN1 Tryz.func41 rfl (bS (.of (aH 0 rfl)) (fun hlen=>(aSR (aA rfl (aNn (aSR (aM rfl (aU rfl (aX Tryz.underlying27 rfl) (aU rfl (Q0 rfl ((lD l.l.length hlen).post (fun _ _ _ h=>h.2.2))) (aA rfl (aNs (aSR (aA rfl (aNn (aq ?_)))))))))))))))
 refine aP [0,3,4] [0] [] (fun (k:Nat) st=>k≤l.l.length∧st=⟨[(0,true,l.val),(3,true,.string (bytesOf (aQ l.l.length++aO ak.enc (l.l.take k)))),(4,true,.int .i64 k)],[ShF (fun s=>[.v (.string s)]) l],[]⟩) (fun k=>l.l.length-k) rfl (⟨0,Nat.zero_le _,by rw [List.take_zero];show _=(⟨[_,(3,true,.string (bytesOf (aQ l.l.length++[]))),_],_,_⟩:Sta);rw [List.append_nil];rfl⟩) ?_
 rintro k st ⟨hk,rfl⟩
 refine ai (aSR (aM rfl (aM rfl (aU rfl (aX Tryz.underlying27 rfl) (aU rfl (bC rfl rfl) (aNn ?_))))))
 refine ao _ rfl (fun h1 => ?_) (fun h1 => ?_)
 ·skip
  have hk':k<l.l.length:=by simpa using h1
  obtain ⟨x,hx⟩:∃ x,l.l[k]? = some x:=⟨_,List.getElem?_eq_getElem hk'⟩
  have hen:=eH (e:=ak.enc) hx
  have hle:=iz (e:=ak.enc) l.l (k+1)
  rw [hen,List.length_append] at hle
  refine ax (an (ai (aq (aa (aM rfl (aM rfl (aM rfl (UI Tryz.underlying27 tk9 0 rfl rfl rfl rfl rfl (aI hx) rfl rfl (fun ⟨b5_3,o5_3⟩=>(US 0 tk9 0 rfl rfl rfl rfl rfl ?_))))))))))
  refine aU rfl (Q0 rfl ((q3 x (by have:=gN x;omega)).post (fun _ _ _ h=>h.2.2))) ?_
  refine aU rfl (kY rfl rfl (by show (aQ l.l.length++aO ak.enc (l.l.take k)).length+(ak.enc x).length≤_;rw [List.length_append];exact Nat.le_trans (show _≤1000000000 by omega) (by decide))) ?_
  refine aA rfl (bP (bu (an (aa (aM rfl (aU rfl (aV rfl rfl (by omega)) (aA rfl (aNn ?_))))))))
  refine ⟨[0,3,4],[0],[],rfl,?_⟩
  refine ⟨k+1,⟨hk',?_⟩,by omega⟩
  rw [hen,← List.append_assoc,et _ (ak.enc x)]
  rfl
 ·skip
  have hke:k=l.l.length:=by simp at h1;omega
  subst hke
  refine aR (aS (aS (aY (an (aSR (aM rfl (aA rfl (aNn (az (FZ1 [] Tryz.results41 rfl ?_))))))))))
  exact ⟨rfl,rfl,by rw [List.take_length]⟩
theorem b9(s:ByteArray)(hs:s.size≤4611686018427387904):Con Tryz.prog 35 [.string s] [] [] fun r _ _=>r=.string (bytesOf (sH s)):=by
 refine EN1 Tryz.func35 rfl (aSR (aA rfl (aNn (aSR (aM rfl (aU rfl (Q0 rfl ((q3 s hs).post (fun _ _ _ h=>h.2.2))) (aA rfl (aNn (az (FZ1 [] Tryz.results35 rfl ?_))))))))))
 rfl
theorem cT(m:Nat)(hm:m≤9223372036854775807):Con Tryz.prog 38 [.int .i64 m] [] [] fun r _ _=>r=.string (bytesOf (aQ m)):=by
 refine EN1 Tryz.func38 rfl (aSR (aA rfl (aNn (aSR (aM rfl (aU rfl (Q0 rfl ((lD m hm).post (fun _ _ _ h=>h.2.2))) (aA rfl (aNn (az (FZ1 [] Tryz.results38 rfl ?_))))))))))
 rfl
theorem j6(x:Bool):Con Tryz.prog 36 [.bool x] [] [] fun r _ _=>r=.string (bytesOf (bO.enc x)):=by
 refine EN1 Tryz.func36 rfl (aSR (aA rfl (aNs (aSR (aM rfl (aNn ?_))))))
 refine ao _ rfl (fun h1 => ?_) (fun h1 => ?_)
 ·skip
  refine aSR (aU rfl (Q0 rfl ((lC 1 (by decide)).post (fun _ _ _ h=>h.2.2))) (aA rfl (aNn (az (bw (FZ1 [] Tryz.results36 rfl ?_))))))
  rw [h1];rfl
 ·skip
  refine ax (an (aSR (aU rfl (Q0 rfl ((lC 0 (by decide)).post (fun _ _ _ h=>h.2.2))) (aA rfl (aNn (az (FZ1 [] Tryz.results36 rfl ?_)))))))
  rw [h1];rfl
theorem b8(l:Sl Int)(hI:∀ y∈l.l,Go.Lv.I64 y)(hl:(aO aj.enc l.l).length≤1000000000):Con Tryz.prog 37 [l.val] [ShF (fun z=>[.v (.int .i64 z)]) l] [] fun r ps hp=>ps=[]∧hp=[]∧r=.string (bytesOf (aO aj.enc l.l)):=by
 refine EN1 Tryz.func37 rfl (bS (.of (aH 0 rfl)) (fun hlen=>(aSR (aA rfl (aNn (aSR (aA rfl (aNs (aSR (aA rfl (aNn (aq ?_))))))))))))
 refine aP [0,3,4] [0] [] (fun (k:Nat) st=>k≤l.l.length∧st=⟨[(0,true,l.val),(3,true,.string (bytesOf (aO aj.enc (l.l.take k)))),(4,true,.int .i64 k)],[ShF (fun z=>[.v (.int .i64 z)]) l],[]⟩) (fun k=>l.l.length-k) rfl (⟨0,Nat.zero_le _,by rw [List.take_zero];rfl⟩) ?_
 rintro k st ⟨hk,rfl⟩
 refine ai (aSR (aM rfl (aM rfl (aU rfl (aX Tryz.underlying25 rfl) (aU rfl (bC rfl rfl) (aNn ?_))))))
 refine ao _ rfl (fun h1 => ?_) (fun h1 => ?_)
 ·skip
  have hk':k<l.l.length:=by simpa using h1
  obtain ⟨x,hx⟩:∃ x,l.l[k]? = some x:=⟨_,List.getElem?_eq_getElem hk'⟩
  have hen:=eH (e:=aj.enc) hx
  have hle:=iz (e:=aj.enc) l.l (k+1)
  rw [hen,List.length_append] at hle
  refine ax (an (ai (aq (aa (aM rfl (aM rfl (aM rfl (UI Tryz.underlying25 tk3 0 rfl rfl rfl rfl rfl (aI hx) rfl rfl (fun ⟨b5_3,o5_3⟩=>(US 0 tk3 0 rfl rfl rfl rfl rfl (aU rfl (Q0 rfl ((lC x (hI x (List.mem_of_getElem? hx))).post (fun _ _ _ h=>h.2.2))) ?_)))))))))))
  refine aU rfl (kY rfl rfl (by show (aO aj.enc (l.l.take k)).length+(aj.enc x).length≤_;exact Nat.le_trans (show _≤1000000000 by omega) (by decide))) ?_
  refine aA rfl (bP (bu (an (aa (aM rfl (aU rfl (aV rfl rfl (by omega)) (aA rfl (aNn ?_))))))))
  refine ⟨[0,3,4],[0],[],rfl,?_⟩
  refine ⟨k+1,⟨hk',?_⟩,by omega⟩
  rw [hen,et _ (aj.enc x)]
  rfl
 ·skip
  have hke:k=l.l.length:=by simp at h1;omega
  subst hke
  refine aR (aS (aS (aY (an (aSR (aM rfl (aA rfl (aNn (az (FZ1 [] Tryz.results37 rfl ?_))))))))))
  exact ⟨rfl,rfl,by rw [List.take_length]⟩
end Go.Proofs.YtebnelfdimiifaaGreatDoor

namespace Go.Sy
open Go.RowKit Go.Lp Go.Lv
theorem fQ{P:Program}{n:Fr}{d:Option Tmp}{ty:TypeId}{pos:String}{af:Array Edge}{gd:Option (Nat × Bool)}{s:Sta}{x y:Operand}{t t':TypeId}{a b:List UInt8}(hx:ev s.env x=some (true,.string (bytesOf a)))(hy:ev s.env y=some (true,.string (bytesOf b)))(h:a.length+b.length≤1000000000):Quiet P n ⟨d,.binOp .add t x y t',ty,pos,af,gd⟩ s (.string (bytesOf (a++b))) :=
 (kY hx hy (Nat.le_trans (show a.length+b.length≤1000000000 from h) (by decide))).castV (congrArg Value.string (et a b).symm)
end Go.Sy
namespace Go.Proofs.YtebnelfdimiifaaGreatDoor
open Go.RowKit Go.Lp Go.Sy Go.Lv
open Go.Proofs.Tryz
attribute [local irreducible] aL aB awp aC fwp Quiet
theorem pM(l:Sl aF)(hl:(aQ l.l.length++aO cm l.l).length≤1000000000):Con Tryz.prog 42 [l.val] [ShF aF.row l,b6 aF.ok l.l] [] fun r ps hp=>ps=[]∧hp=[]∧r=.string (bytesOf (aQ l.l.length++aO cm l.l)):=by
 rw [List.length_append] at hl
 refine EN1 Tryz.func42 rfl (bS (.of (aH 0 rfl)) (fun hlen=>(aSR (aA rfl (aNn (aSR (aM rfl (aU rfl (aX Tryz.underlying28 rfl) (aU rfl (Q0 rfl (cT l.l.length hlen)) (aA rfl (aNs (aSR (aA rfl (aNn (aq ?_)))))))))))))))
 refine aP [0,3,4] [1,0] [] (fun (k:Nat) st=>k≤l.l.length∧st=⟨[(0,true,l.val),(3,true,.string (bytesOf (aQ l.l.length++aO cm (l.l.take k)))),(4,true,.int .i64 k)],[ShF aF.row l,b6 aF.ok l.l],[]⟩) (fun k=>l.l.length-k) rfl (⟨0,Nat.zero_le _,by rw [List.take_zero];show _=(⟨[_,(3,true,.string (bytesOf (aQ l.l.length++[]))),_],_,_⟩:Sta);rw [List.append_nil];rfl⟩) ?_
 rintro k st ⟨hk,rfl⟩
 refine ai (aSR (aM rfl (aM rfl (aU rfl (aX Tryz.underlying28 rfl) (aU rfl (bC rfl rfl) (aNn ?_))))))
 refine ao _ rfl (fun h1 => ?_) (fun h1 => ?_)
 ·skip
  have hk':k<l.l.length:=by simpa using h1
  obtain ⟨x,hx⟩:∃ x,l.l[k]? = some x:=⟨_,List.getElem?_eq_getElem hk'⟩
  have hen:=eH (e:=cm) hx
  have hle:=iz (e:=cm) l.l (k+1)
  have hxe:cm x=ak.enc x.name++(aQ x.parents.l.length++aO ak.enc x.parents.l):=rfl
  have htl:=gN x.name
  have hnx:=hen
  rw [hxe] at hnx
  have hst:aQ l.l.length++aO cm (l.l.take (k+1))=((aQ l.l.length++aO cm (l.l.take k))++ak.enc x.name)++(aQ x.parents.l.length++aO ak.enc x.parents.l):=by rw [hnx];simp only [List.append_assoc]
  rw [hnx,List.length_append,List.length_append,List.length_append] at hle
  refine aZ _ (aF.f_parents (Ent.all (f:=aF.ok) (.of (aH 1 rfl)) hx)) (ax (an (ai (aq (DR [] 16 (VM 0 rfl rfl (VM 1 rfl rfl (VM 2 rfl rfl (XI 3 Tryz.underlying28 tk55 1 rfl rfl rfl rfl rfl rfl (aI hx) rfl rfl (fun ⟨b5_3,o5_3⟩=>(VO 4 0 rfl rfl rfl (VT 5 0 tk9 0 rfl rfl rfl rfl rfl rfl (bV 6 rfl rfl (Q0 rfl (b9 x.name (by omega))) ?_)))))))))))))
  refine bV 7 rfl rfl (fQ rfl rfl (by show (aQ l.l.length++aO cm (l.l.take k)).length+(ak.enc x.name).length≤_;rw [List.length_append];omega)) ?_
  refine VM 8 rfl rfl (VM 9 rfl rfl (XI 10 Tryz.underlying28 tk55 2 rfl rfl rfl rfl rfl rfl (aI hx) rfl rfl (fun ⟨b5_10,o5_10⟩=>(VO 11 1 rfl rfl rfl (VT 12 1 tk27 0 rfl rfl rfl rfl rfl rfl ?_)))))
  refine bV 13 rfl rfl (Q1 rfl ((pd x.parents (by rw [List.length_append];omega)).post (fun _ _ _ h=>h.2.2)) 2 rfl) ?_
  refine bV 14 rfl rfl (fQ rfl rfl (by show ((aQ l.l.length++aO cm (l.l.take k))++ak.enc x.name).length+(aQ x.parents.l.length++aO ak.enc x.parents.l).length≤_;simp only [List.length_append];omega)) ?_
  refine bV 15 rfl rfl (bo rfl) (BN (bu (an (aa (aM rfl (aU rfl (aV rfl rfl (by omega)) (aA rfl (aNn ?_))))))))
  refine ⟨[0,3,4],[1,0],[],rfl,?_⟩
  refine ⟨k+1,⟨hk',?_⟩,by omega⟩
  rw [hst]
  rfl
 ·skip
  have hke:k=l.l.length:=by simp at h1;omega
  subst hke
  refine aR (aS (aS (aY (an (aSR (aM rfl (aA rfl (aNn (az (FZ1 [] Tryz.results42 rfl ?_))))))))))
  exact ⟨rfl,rfl,by rw [List.take_length]⟩
theorem qX(l:Sl bQ)(hI:∀ y∈l.l,iK y)(hl:(aQ l.l.length++aO cL l.l).length≤1000000000):Con Tryz.prog 39 [l.val] [ShF bQ.row l] [] fun r ps hp=>ps=[]∧hp=[]∧r=.string (bytesOf (aQ l.l.length++aO cL l.l)):=by
 rw [List.length_append] at hl
 refine EN1 Tryz.func39 rfl (bS (.of (aH 0 rfl)) (fun hlen=>(aSR (aA rfl (aNn (aSR (aM rfl (aU rfl (aX Tryz.underlying23 rfl) (aU rfl (Q0 rfl (cT l.l.length hlen)) (aA rfl (aNs (aSR (aA rfl (aNn (aq ?_)))))))))))))))
 refine aP [0,3,4] [0] [] (fun (k:Nat) st=>k≤l.l.length∧st=⟨[(0,true,l.val),(3,true,.string (bytesOf (aQ l.l.length++aO cL (l.l.take k)))),(4,true,.int .i64 k)],[ShF bQ.row l],[]⟩) (fun k=>l.l.length-k) rfl (⟨0,Nat.zero_le _,by rw [List.take_zero];show _=(⟨[_,(3,true,.string (bytesOf (aQ l.l.length++[]))),_],_,_⟩:Sta);rw [List.append_nil];rfl⟩) ?_
 rintro k st ⟨hk,rfl⟩
 refine ai (aSR (aM rfl (aM rfl (aU rfl (aX Tryz.underlying23 rfl) (aU rfl (bC rfl rfl) (aNn ?_))))))
 refine ao _ rfl (fun h1 => ?_) (fun h1 => ?_)
 ·skip
  have hk':k<l.l.length:=by simpa using h1
  obtain ⟨x,hx⟩:∃ x,l.l[k]? = some x:=⟨_,List.getElem?_eq_getElem hk'⟩
  have hw:=hI x (List.mem_of_getElem? hx)
  have hen:=eH (e:=cL) hx
  have hle:=iz (e:=cL) l.l (k+1)
  have hxe:cL x=ak.enc x.name++(ak.enc x.version++(bO.enc x.main++aO aj.enc [x.kind,x.at_,x.size])):=by
    show ak.enc x.name++(ak.enc x.version++(bO.enc x.main++(aj.enc x.kind++(aj.enc x.at_++aj.enc x.size))))=_
    simp only [aO,List.map_cons,List.map_nil,List.flatten_cons,List.flatten_nil,List.append_nil]
  have ht1:=gN x.name
  have ht2:=gN x.version
  have hi3:∀ y∈[x.kind,x.at_,x.size],Go.Lv.I64 y:=fun y hy=>by
    simp only [List.mem_cons,List.not_mem_nil,or_false] at hy
    rcases hy with rfl | rfl | rfl
    · exact hw.1
    · exact hw.2.1
    · exact hw.2.2
  have hnx:=hen
  rw [hxe] at hnx
  have hst:aQ l.l.length++aO cL (l.l.take (k+1))=((((aQ l.l.length++aO cL (l.l.take k))++ak.enc x.name)++ak.enc x.version)++bO.enc x.main)++aO aj.enc [x.kind,x.at_,x.size]:=by rw [hnx];simp only [List.append_assoc]
  rw [hnx] at hle
  simp only [List.length_append] at hle
  refine ax (an (ai (aq (aSR (aM rfl (aM rfl (UI Tryz.underlying23 tk77 0 rfl rfl rfl rfl rfl (aI hx) rfl rfl (fun ⟨b5_2,o5_2⟩=>(US 0 tk77 0 rfl rfl rfl rfl rfl (LT rfl (bJ (zs:=[.string .empty,.string .empty,.bool false,.int .i64 0,.int .i64 0,.int .i64 0]) (by kernel_rfl) rfl (fun b5_4=>(aHN ?_)))))))))))))
  refine aW rfl (ba 0 tk77 rfl rfl rfl rfl (aHK ?_))
  refine aNn (DR [] 23 (VM 0 rfl rfl (VO 1 0 rfl rfl rfl (VL 2 0 tk9 rfl rfl rfl rfl rfl (bV 3 rfl rfl (Q0 rfl (b9 x.name (by omega))) ?_)))))
  refine bV 4 rfl rfl (fQ rfl rfl (by show (aQ l.l.length++aO cL (l.l.take k)).length+(ak.enc x.name).length≤_;simp only [List.length_append];omega)) ?_
  refine VO 5 1 rfl rfl rfl (VL 6 0 tk9 rfl rfl rfl rfl rfl (bV 7 rfl rfl (Q0 rfl (b9 x.version (by omega))) ?_))
  refine bV 8 rfl rfl (fQ rfl rfl (by show ((aQ l.l.length++aO cL (l.l.take k))++ak.enc x.name).length+(ak.enc x.version).length≤_;simp only [List.length_append];omega)) ?_
  refine VO 9 2 rfl rfl rfl (VL 10 0 tk4 rfl rfl rfl rfl rfl (bV 11 rfl rfl (Q0 rfl (j6 x.main)) ?_))
  refine bV 12 rfl rfl (fQ rfl rfl (by show (((aQ l.l.length++aO cL (l.l.take k))++ak.enc x.name)++ak.enc x.version).length+(bO.enc x.main).length≤_;simp only [List.length_append];omega)) ?_
  refine VO 13 3 rfl rfl rfl (VL 14 0 tk3 rfl rfl rfl rfl rfl (VO 15 4 rfl rfl rfl (VL 16 0 tk3 rfl rfl rfl rfl rfl (VO 17 5 rfl rfl rfl (VL 18 0 tk3 rfl rfl rfl rfl rfl (VB (zs:=[.int .i64 0]) 19 rfl el25 rfl rfl rfl rfl (.more rfl (.v rfl .nil) (.more rfl (.v rfl .nil) (.more rfl (.v rfl .nil) .nil))) rfl rfl (fun v6_19 => ?_)))))))
  refine eQ (q:=true) 20 rfl (by kernel_rfl) rfl rfl (EC [2] [] rfl (b8 ⟨v6_19,3,[x.kind,x.at_,x.size]⟩ hi3 (by show (aO aj.enc [x.kind,x.at_,x.size]).length≤_;omega)) ?_)
  rintro _ _ _ ⟨rfl,rfl,rfl⟩
  refine bST rfl ?_
  refine bV 21 rfl rfl (fQ rfl rfl (by show ((((aQ l.l.length++aO cL (l.l.take k))++ak.enc x.name)++ak.enc x.version)++bO.enc x.main).length+(aO aj.enc [x.kind,x.at_,x.size]).length≤_;simp only [List.length_append];omega)) ?_
  refine bV 22 rfl rfl (bo rfl) (BN (bu (an (aa (aM rfl (aU rfl (aV rfl rfl (by omega)) (aA rfl (aNn ?_))))))))
  refine ⟨[0,3,4],[0],[],rfl,?_⟩
  refine ⟨k+1,⟨hk',?_⟩,by omega⟩
  rw [hst]
  rfl
 ·skip
  have hke:k=l.l.length:=by simp at h1;omega
  subst hke
  refine aR (aS (aS (aY (an (aSR (aM rfl (aA rfl (aNn (az (FZ1 [] Tryz.results39 rfl ?_))))))))))
  exact ⟨rfl,rfl,by rw [List.take_length]⟩
end Go.Proofs.YtebnelfdimiifaaGreatDoor

namespace Go.Proofs.YtebnelfdimiifaaGreatDoor
open Go.RowKit Go.Lp Go.Sy Go.Lv
open Go.Proofs.Tryz
end Go.Proofs.YtebnelfdimiifaaGreatDoor

