/- Parts of the proof, in build order. No condition. -/
import Derived.Test.YtebnelfdimiifaaGreatDoorSa26
import Derived.Test.YtebnelfdimiifaaGreatDoorSa05
import Derived.Test.YtebnelfdimiifaaGreatDoorSa07
import Derived.Test.YtebnelfdimiifaaGreatDoorSa20
import Derived.Lib.FrozenHead
import Derived.Lib.MakeNoZero
import Derived.Test.YtebnelfdimiifaaGreatDoorSa10
import Derived.Test.YtebnelfdimiifaaGreatDoorSa12
set_option linter.unusedSimpArgs false
set_option linter.unusedVariables false
set_option maxHeartbeats 1000000
set_option maxRecDepth 20000
namespace Go.Proofs.YtebnelfdimiifaaGreatDoor
open Go.RowKit Go.Lp Go.Sy Go.Lv
open Go.Proofs.Tryz
attribute [local irreducible] aL aB awp aC fwp Quiet
theorem afz(x:aD):bN.enc (bA x)=ak.enc x.name++(bO.enc x.lib++(aj.enc x.code++(aj.enc x.data++(aj.enc x.zero++(ak.enc x.bytes++(ak.enc x.tls++(aj.enc x.block++((aQ x.nodes.l.length++aO cV x.nodes.l)++((aQ x.exports.l.length++aO cL x.exports.l)++((aQ x.imports.l.length++aO dL x.imports.l)++((aQ x.slots.l.length++aO aj.enc x.slots.l)++((aQ x.stubs.l.length++aO aj.enc x.stubs.l)++((aQ x.dyns.l.length++aO j9 x.dyns.l)++((aQ x.inits.l.length++aO aj.enc x.inits.l)++((aQ x.lasts.l.length++aO aj.enc x.lasts.l)++(aj.enc x.entry++((aQ x.needs.l.length++aO ak.enc x.needs.l)++((aQ x.versions.l.length++aO cm x.versions.l)++(ft.enc (eV x.info)++((aQ x.changes.l.length++aO gY x.changes.l))))))))))))))))))))):=by
 rw [← ct eD eO x.nodes.l,← ct eA eK x.exports.l,← ct eC eM x.imports.l,← ct lY jP x.dyns.l,← ct cX dw x.versions.l,← ct ix gI x.changes.l];rfl
theorem j7(x:aD)(hW:cY x)(hl:(bN.enc (bA x)).length≤1000000000):Con Tryz.prog 16 [x.val] [x.ok] [] fun r ps hp=>ps=[]∧hp=[]∧r=.string (bytesOf (bN.enc (bA x))):=by
 obtain ⟨w_code,w_data,w_zero,w_block,w_entry,i_nodes,i_exports,i_imports,i_slots,i_stubs,i_dyns,i_inits,i_lasts,i_info,i_changes⟩:=hW
 have he:=afz x
 obtain ⟨A0,a0⟩:∃ S,S=((((((ak.enc x.name++bO.enc x.lib)++aO aj.enc [x.code,x.data,x.zero])++ak.enc x.bytes)++ak.enc x.tls)++aO aj.enc [x.block])++aQ x.nodes.l.length):=⟨_,rfl⟩
 obtain ⟨B0,b0⟩:∃ S,S=A0++aO cV x.nodes.l:=⟨_,rfl⟩
 obtain ⟨A1,a1⟩:∃ S,S=((B0++(aQ x.exports.l.length++aO cL x.exports.l))++aQ x.imports.l.length):=⟨_,rfl⟩
 obtain ⟨B1,b1⟩:∃ S,S=A1++aO dL x.imports.l:=⟨_,rfl⟩
 obtain ⟨A2,a2⟩:∃ S,S=(((B1++(aQ x.slots.l.length++aO aj.enc x.slots.l))++(aQ x.stubs.l.length++aO aj.enc x.stubs.l))++aQ x.dyns.l.length):=⟨_,rfl⟩
 obtain ⟨B2,b2⟩:∃ S,S=A2++aO j9 x.dyns.l:=⟨_,rfl⟩
 obtain ⟨A3,a3⟩:∃ S,S=((((B2++(aQ x.inits.l.length++aO aj.enc x.inits.l))++(aQ x.lasts.l.length++aO aj.enc x.lasts.l))++aO aj.enc [x.entry])++(aQ x.needs.l.length++aO ak.enc x.needs.l)):=⟨_,rfl⟩
 obtain ⟨A4,a4⟩:∃ S,S=(((A3++(aQ x.versions.l.length++aO cm x.versions.l))++ft.enc (eV x.info))++(aQ x.changes.l.length++aO gY x.changes.l)):=⟨_,rfl⟩
 have hT:bN.enc (bA x)=A4:=by rw [he,a4,a3,b2,a2,b1,a1,b0,a0];simp only [aO,List.map_cons,List.map_nil,List.flatten_cons,List.flatten_nil,List.append_nil,List.append_assoc]
 rw [hT] at hl ⊢
 have dA4_3:=hl
 rw [a4] at dA4_3
 have dA4_2:=(ah dA4_3).1
 have dA4_1:=(ah dA4_2).1
 have dA3_4:=(ah dA4_1).1
 rw [a3] at dA3_4
 have dA3_3:=(ah dA3_4).1
 have dA3_2:=(ah dA3_3).1
 have dA3_1:=(ah dA3_2).1
 have dB2_1:=(ah dA3_1).1
 rw [b2] at dB2_1
 have dA2_3:=(ah dB2_1).1
 rw [a2] at dA2_3
 have dA2_2:=(ah dA2_3).1
 have dA2_1:=(ah dA2_2).1
 have dB1_1:=(ah dA2_1).1
 rw [b1] at dB1_1
 have dA1_2:=(ah dB1_1).1
 rw [a1] at dA1_2
 have dA1_1:=(ah dA1_2).1
 have dB0_1:=(ah dA1_1).1
 rw [b0] at dB0_1
 have dA0_7:=(ah dB0_1).1
 rw [a0] at dA0_7
 have dA0_6:=(ah dA0_7).1
 have dA0_5:=(ah dA0_6).1
 have dA0_4:=(ah dA0_5).1
 have dA0_3:=(ah dA0_4).1
 have dA0_2:=(ah dA0_3).1
 have dA0_1:=(ah dA0_2).1
 refine EN1 Tryz.func16 rfl (aZ _ (aD.f_nodes (.of (aH 0 rfl))) (aZ _ (aD.f_exports (.of (aH 1 rfl))) (aZ _ (aD.f_imports (.of (aH 2 rfl))) (aZ _ (aD.f_slots (.of (aH 3 rfl))) (aZ _ (aD.f_stubs (.of (aH 4 rfl))) (aZ _ (aD.f_dyns (.of (aH 5 rfl))) (aZ _ (aD.f_inits (.of (aH 6 rfl))) (aZ _ (aD.f_lasts (.of (aH 7 rfl))) (aZ _ (aD.f_needs (.of (aH 8 rfl))) (aZ _ (aD.f_versions (.of (aH 9 rfl))) (aZ _ (aD.f_versionsA (.of (aH 10 rfl))) (aZ _ (aD.f_info (.of (aH 11 rfl))) (aZ _ (aD.f_changes (.of (aH 12 rfl))) (aZ _ (aD.f_changesA (.of (aH 13 rfl))) ?_))))))))))))))
 refine bS (.of (aH 13 rfl)) (fun hl_nodes=>(bS (.of (aH 11 rfl)) (fun hl_imports=>(bS (.of (aH 8 rfl)) (fun hl_dyns => ?_)))))
 show awp _ _ _ _ ⟨_,[_,_,_,_,_,_,_,_,_,_,_,_,_,_,x.ok],_⟩
 refine aSR (LT rfl (cx rfl rfl rfl (fun b0_0=>(aHN ?_))))
 refine aA rfl (aNs (DC [] [] [] 35 ?_))
 refine mL (X:=Unit) (fun _=>⟨[(1,true,.pointer (some ⟨b0_0,0,none⟩)),(3,true,.string (bytesOf ((((((ak.enc x.name++bO.enc x.lib)++aO aj.enc [x.code,x.data,x.zero])++ak.enc x.bytes)++ak.enc x.tls)++aO aj.enc [x.block])++aQ x.nodes.l.length)))],[b6 cr.ok x.changes.l,ShF cr.row x.changes,cC.ok x.info,b6 aF.ok x.versions.l,ShF aF.row x.versions,ShF (fun s=>[.v (.string s)]) x.needs,ShF (fun z=>[.v (.int .i64 z)]) x.lasts,ShF (fun z=>[.v (.int .i64 z)]) x.inits,ShF fx.row x.dyns,ShF (fun z=>[.v (.int .i64 z)]) x.stubs,ShF (fun z=>[.v (.int .i64 z)]) x.slots,ShF b7.row x.imports,ShF bQ.row x.exports,ShF bp.row x.nodes,x.ok],[Box b0_0 39 x.vs]⟩) ?_ ?_
 ·skip
  refine CF 0 rfl rfl rfl (qFA (off:=0) rfl) (CQ 1 rfl rfl rfl (bj 0 tk9 rfl rfl rfl) (CF 2 rfl rfl rfl (Q0 rfl (b9 x.name (dh dA0_1))) (CF 3 rfl rfl rfl (qFA (off:=1) rfl) (CQ 4 rfl rfl rfl (bj 0 tk4 rfl rfl rfl) (CF 5 rfl rfl rfl (Q0 rfl (j6 x.lib)) (CF 6 rfl rfl rfl (bF rfl rfl dA0_2) (CF 7 rfl rfl rfl (qFA (off:=2) rfl) (CQ 8 rfl rfl rfl (bj 0 tk3 rfl rfl rfl) (CF 9 rfl rfl rfl (qFA (off:=3) rfl) (CQ 10 rfl rfl rfl (bj 0 tk3 rfl rfl rfl) (CF 11 rfl rfl rfl (qFA (off:=4) rfl) (CQ 12 rfl rfl rfl (bj 0 tk3 rfl rfl rfl) (CF 16 rfl rfl rfl (qFA (off:=5) rfl) (CQ 17 rfl rfl rfl (bj 0 tk9 rfl rfl rfl) (CF 20 rfl rfl rfl (qFA (off:=6) rfl) ?_)))))))))))))))
  refine CQ 21 rfl rfl rfl (bj 0 tk9 rfl rfl rfl) (CF 24 rfl rfl rfl (qFA (off:=7) rfl) (CQ 25 rfl rfl rfl (bj 0 tk3 rfl rfl rfl) (CF 29 rfl rfl rfl (qFA (off:=8) rfl) (CQ 30 rfl rfl rfl (bj 0 tk22 rfl rfl rfl) (CF 31 rfl rfl rfl (aX Tryz.underlying22 rfl) ?_)))))
  refine dg 13 [26] (by kernel_rfl) (cj ?_ (cj ?_ cM))
  ·skip
   refine dA 13 rfl rfl (Eff.x (id (WL (zs:=[.int .i64 0]) el25 rfl rfl rfl (.more rfl (.v rfl .nil) (.more rfl (.v rfl .nil) (.more rfl (.v rfl .nil) .nil))) rfl rfl (fun v1_13=>(CST ?_)))))
   refine ea 1 rfl (CST ?_)
   refine CF 14 rfl rfl rfl (Q1 rfl ((b8 ⟨v1_13,3,[x.code,x.data,x.zero]⟩ (by intro y hy;simp only [List.mem_cons,List.not_mem_nil,or_false] at hy;rcases hy with rfl | rfl | rfl<;>assumption) ((ah dA0_3).2)).post (fun _ _ _ h=>h.2.2)) 0 rfl) ?_
   refine CF 15 rfl rfl rfl (bF rfl rfl dA0_3) (CF 18 rfl rfl rfl (Q0 rfl (b9 x.bytes (dh (ah dA0_4).2))) (CF 19 rfl rfl rfl (bF rfl rfl dA0_4) (CF 22 rfl rfl rfl (Q0 rfl (b9 x.tls (dh (ah dA0_5).2))) (CF 23 rfl rfl rfl (bF rfl rfl dA0_5) ?_))))
   refine dg 26 [] (by kernel_rfl) (cj ?_ cM)
   refine dA 26 rfl rfl (Eff.x (id (WL (zs:=[.int .i64 0]) el25 rfl rfl rfl (.more rfl (.v rfl .nil) .nil) rfl rfl (fun v1_26=>(CST ?_)))))
   refine ea 2 rfl (CST ?_)
   refine CF 27 rfl rfl rfl (Q1 rfl ((b8 ⟨v1_26,1,[x.block]⟩ (by intro y hy;simp only [List.mem_cons,List.not_mem_nil,or_false] at hy;rw [hy];assumption) ((ah dA0_6).2)).post (fun _ _ _ h=>h.2.2)) 0 rfl) ?_
   refine CF 28 rfl rfl rfl (bF rfl rfl dA0_6) (CF 32 rfl rfl rfl (Q0 rfl (cT x.nodes.l.length hl_nodes)) (CF 33 rfl rfl rfl (bF rfl rfl dA0_7) (CF 34 rfl rfl rfl (bo rfl) (gb (by kernel_rfl) ?_))))
   exact ⟨rfl,[1,3],[14,13,12,11,10,9,8,7,6,5,4,3,2,1,0],[0],(),rfl,rfl⟩
  ·skip
   refine dA 26 rfl rfl (Eff.x (id (WL (zs:=[.int .i64 0]) el25 rfl rfl rfl (.more rfl (.v rfl .nil) .nil) rfl rfl (fun v1_26=>(CST ?_)))))
   refine dg 13 [] (by kernel_rfl) (cj ?_ cM)
   refine dA 13 rfl rfl (Eff.x (id (WL (zs:=[.int .i64 0]) el25 rfl rfl rfl (.more rfl (.v rfl .nil) (.more rfl (.v rfl .nil) (.more rfl (.v rfl .nil) .nil))) rfl rfl (fun v1_13=>(CST ?_)))))
   refine ea 2 rfl (CST ?_)
   refine CF 14 rfl rfl rfl (Q1 rfl ((b8 ⟨v1_13,3,[x.code,x.data,x.zero]⟩ (by intro y hy;simp only [List.mem_cons,List.not_mem_nil,or_false] at hy;rcases hy with rfl | rfl | rfl<;>assumption) ((ah dA0_3).2)).post (fun _ _ _ h=>h.2.2)) 0 rfl) ?_
   refine CF 15 rfl rfl rfl (bF rfl rfl dA0_3) (CF 18 rfl rfl rfl (Q0 rfl (b9 x.bytes (dh (ah dA0_4).2))) (CF 19 rfl rfl rfl (bF rfl rfl dA0_4) (CF 22 rfl rfl rfl (Q0 rfl (b9 x.tls (dh (ah dA0_5).2))) (CF 23 rfl rfl rfl (bF rfl rfl dA0_5) (ea 1 rfl (CST ?_))))))
   refine CF 27 rfl rfl rfl (Q1 rfl ((b8 ⟨v1_26,1,[x.block]⟩ (by intro y hy;simp only [List.mem_cons,List.not_mem_nil,or_false] at hy;rw [hy];assumption) ((ah dA0_6).2)).post (fun _ _ _ h=>h.2.2)) 0 rfl) ?_
   refine CF 28 rfl rfl rfl (bF rfl rfl dA0_6) (CF 32 rfl rfl rfl (Q0 rfl (cT x.nodes.l.length hl_nodes)) (CF 33 rfl rfl rfl (bF rfl rfl dA0_7) (CF 34 rfl rfl rfl (bo rfl) (gb (by kernel_rfl) ?_))))
   exact ⟨rfl,[1,3],[14,13,12,11,10,9,8,7,6,5,4,3,2,1,0],[0],(),rfl,rfl⟩
 ·skip
  rintro ⟨⟩
  refine an (ai (aSR (aA rfl (aNn (aq ?_)))))
  rw [← a0]
  refine aP [1,3,4] [14,13,12,11,10,9,8,7,6,5,4,3,2,1,0] [0] (fun (k:Nat) st=>k≤x.nodes.l.length∧st=⟨[(1,true,.pointer (some ⟨b0_0,0,none⟩)),(3,true,.string (bytesOf (A0++aO cV (x.nodes.l.take k)))),(4,true,.int .i64 k)],[b6 cr.ok x.changes.l,ShF cr.row x.changes,cC.ok x.info,b6 aF.ok x.versions.l,ShF aF.row x.versions,ShF (fun s=>[.v (.string s)]) x.needs,ShF (fun z=>[.v (.int .i64 z)]) x.lasts,ShF (fun z=>[.v (.int .i64 z)]) x.inits,ShF fx.row x.dyns,ShF (fun z=>[.v (.int .i64 z)]) x.stubs,ShF (fun z=>[.v (.int .i64 z)]) x.slots,ShF b7.row x.imports,ShF bQ.row x.exports,ShF bp.row x.nodes,x.ok],[Box b0_0 39 x.vs]⟩) (fun k=>x.nodes.l.length-k) rfl (⟨0,Nat.zero_le _,by rw [List.take_zero];show _=(⟨[_,(3,true,.string (bytesOf (A0++[]))),_],_,_⟩:Sta);rw [List.append_nil];rfl⟩) ?_
  rintro k st ⟨hk,rfl⟩
  refine ai (aSR (aM rfl (UO 8 rfl rfl (UL 0 tk22 rfl rfl rfl rfl (aU rfl (aX Tryz.underlying22 rfl) (aU rfl (bC rfl rfl) (aNn ?_)))))))
  refine ao _ rfl (fun h1 => ?_) (fun h1 => ?_)
  ·skip
   have hk':k<x.nodes.l.length:=by simpa using h1
   obtain ⟨y,hx⟩:∃ y,x.nodes.l[k]? = some y:=⟨_,List.getElem?_eq_getElem hk'⟩
   obtain ⟨w0,w1,w2⟩:=i_nodes y (List.mem_of_getElem? hx)
   have hst:A0++aO cV (x.nodes.l.take (k+1))=((((((A0++aO cV (x.nodes.l.take k))++ak.enc y.obj)++ak.enc y.sec)++aO aj.enc [y.kind,y.at_,y.size])++ak.enc y.digest)++ak.enc y.form):=by rw [eH hx];simp only [aO,List.map_cons,List.map_nil,List.flatten_cons,List.flatten_nil,List.append_nil,List.append_assoc];rfl
   have e5:=kj (k+1) dB0_1
   rw [hst] at e5
   have e4:=(ah e5).1
   have e3:=(ah e4).1
   have e2:=(ah e3).1
   have e1:=(ah e2).1
   refine ax (an (ai (aq (aSR (UO 8 rfl rfl (UL 0 tk22 rfl rfl rfl rfl (aM rfl (UI Tryz.underlying22 tk71 13 rfl rfl rfl rfl rfl (aI hx) rfl rfl (fun ⟨b5_3,o5_3⟩=>(US 0 tk71 0 rfl rfl rfl rfl rfl (LT rfl (bJ (zs:=[.string .empty,.string .empty,.int .i64 0,.int .i64 0,.int .i64 0,.string .empty,.string .empty]) (by kernel_rfl) rfl (fun b5_5=>(aHN ?_))))))))))))))
   refine aW rfl (ba 1 tk71 rfl rfl rfl rfl (aHK ?_))
   refine aNn (DR [] 27 (VM 0 rfl rfl (VO 1 0 rfl rfl rfl (VL 2 1 tk9 rfl rfl rfl rfl rfl (bV 3 rfl rfl (Q0 rfl (b9 y.obj (dh (ah e1).2))) (bV 4 rfl rfl (bF rfl rfl e1) (VO 5 1 rfl rfl rfl (VL 6 1 tk9 rfl rfl rfl rfl rfl (bV 7 rfl rfl (Q0 rfl (b9 y.sec (dh (ah e2).2))) (bV 8 rfl rfl (bF rfl rfl e2) (VO 9 2 rfl rfl rfl (VL 10 1 tk3 rfl rfl rfl rfl rfl (VO 11 3 rfl rfl rfl (VL 12 1 tk3 rfl rfl rfl rfl rfl (VO 13 4 rfl rfl rfl ?_)))))))))))))))
   refine VL 14 1 tk3 rfl rfl rfl rfl rfl (VO 18 5 rfl rfl rfl (VL 19 1 tk9 rfl rfl rfl rfl rfl (VO 22 6 rfl rfl rfl (VL 23 1 tk9 rfl rfl rfl rfl rfl (VB (zs:=[.int .i64 0]) 15 rfl el25 rfl rfl rfl rfl (.more rfl (.v rfl .nil) (.more rfl (.v rfl .nil) (.more rfl (.v rfl .nil) .nil))) rfl rfl (fun v6_15 => ?_))))))
   refine bV 16 rfl rfl (Q1 rfl ((b8 ⟨v6_15,3,[y.kind,y.at_,y.size]⟩ (by intro y hy;simp only [List.mem_cons,List.not_mem_nil,or_false] at hy;rcases hy with rfl | rfl | rfl<;>assumption) ((ah e3).2)).post (fun _ _ _ h=>h.2.2)) 0 rfl) ?_
   refine bV 17 rfl rfl (bF rfl rfl e3) (bV 20 rfl rfl (Q0 rfl (b9 y.digest (dh (ah e4).2))) (bV 21 rfl rfl (bF rfl rfl e4) (bV 24 rfl rfl (Q0 rfl (b9 y.form (dh (ah e5).2))) (bV 25 rfl rfl (bF rfl rfl e5) (bV 26 rfl rfl (bo rfl) (BN (bu (an (aa (aM rfl (aU rfl (aV rfl rfl (by omega)) (aA rfl (aNn ?_)))))))))))))
   refine ⟨[1,3,4],[14,13,12,11,10,9,8,7,6,5,4,3,2,1,0],[0],rfl,?_⟩
   refine ⟨k+1,⟨hk',?_⟩,by omega⟩
   rw [hst]
   rfl
  ·skip
   have hke:k=x.nodes.l.length:=by simp at h1;omega
   subst hke
   rw [List.take_length,← b0]
   refine aR (aS (aS (aY (an (ai (DR [] 11 (VM 0 rfl rfl (VO 1 9 rfl rfl rfl (VL 2 0 tk23 rfl rfl rfl rfl rfl (bV 3 rfl rfl (Q1 rfl ((qX x.exports i_exports ((ah dA1_1).2)).post (fun _ _ _ h=>h.2.2)) 12 rfl) (bV 4 rfl rfl (bF rfl rfl dA1_1) (VO 5 10 rfl rfl rfl (VL 6 0 tk24 rfl rfl rfl rfl rfl (bV 7 rfl rfl (aX Tryz.underlying24 rfl) (bV 8 rfl rfl (Q0 rfl (cT x.imports.l.length hl_imports)) ?_)))))))))))))))
   refine bV 9 rfl rfl (bF rfl rfl dA1_2) (bV 10 rfl rfl (bo rfl) (BN (an (ai (aSR (aA rfl (aNn (aq ?_))))))))
   rw [← a1]
   refine aP [1,3,6] [14,13,12,11,10,9,8,7,6,5,4,3,2,1,0] [0] (fun (k:Nat) st=>k≤x.imports.l.length∧st=⟨[(1,true,.pointer (some ⟨b0_0,0,none⟩)),(3,true,.string (bytesOf (A1++aO dL (x.imports.l.take k)))),(6,true,.int .i64 k)],[b6 cr.ok x.changes.l,ShF cr.row x.changes,cC.ok x.info,b6 aF.ok x.versions.l,ShF aF.row x.versions,ShF (fun s=>[.v (.string s)]) x.needs,ShF (fun z=>[.v (.int .i64 z)]) x.lasts,ShF (fun z=>[.v (.int .i64 z)]) x.inits,ShF fx.row x.dyns,ShF (fun z=>[.v (.int .i64 z)]) x.stubs,ShF (fun z=>[.v (.int .i64 z)]) x.slots,ShF b7.row x.imports,ShF bQ.row x.exports,ShF bp.row x.nodes,x.ok],[Box b0_0 39 x.vs]⟩) (fun k=>x.imports.l.length-k) rfl (⟨0,Nat.zero_le _,by rw [List.take_zero];show _=(⟨[_,(3,true,.string (bytesOf (A1++[]))),_],_,_⟩:Sta);rw [List.append_nil];rfl⟩) ?_
   rintro k st ⟨hk,rfl⟩
   refine ai (aSR (aM rfl (UO 10 rfl rfl (UL 0 tk24 rfl rfl rfl rfl (aU rfl (aX Tryz.underlying24 rfl) (aU rfl (bC rfl rfl) (aNn ?_)))))))
   refine ao _ rfl (fun h2 => ?_) (fun h2 => ?_)
   ·skip
    have hk':k<x.imports.l.length:=by simpa using h2
    obtain ⟨y,hx⟩:∃ y,x.imports.l[k]? = some y:=⟨_,List.getElem?_eq_getElem hk'⟩
    have w0:=i_imports y (List.mem_of_getElem? hx)
    have hst:A1++aO dL (x.imports.l.take (k+1))=((((((A1++aO dL (x.imports.l.take k))++ak.enc y.name)++ak.enc y.version)++aO aj.enc [y.kind])++bO.enc y.weak)++bO.enc y.own):=by rw [eH hx];simp only [aO,List.map_cons,List.map_nil,List.flatten_cons,List.flatten_nil,List.append_nil,List.append_assoc];rfl
    have e5:=kj (k+1) dB1_1
    rw [hst] at e5
    have e4:=(ah e5).1
    have e3:=(ah e4).1
    have e2:=(ah e3).1
    have e1:=(ah e2).1
    refine ax (an (ai (aq (aSR (UO 10 rfl rfl (UL 0 tk24 rfl rfl rfl rfl (aM rfl (UI Tryz.underlying24 tk73 11 rfl rfl rfl rfl rfl (aI hx) rfl rfl (fun ⟨b11_3,o11_3⟩=>(US 0 tk73 0 rfl rfl rfl rfl rfl (LT rfl (bJ (zs:=[.string .empty,.string .empty,.int .i64 0,.bool false,.bool false]) (by kernel_rfl) rfl (fun b11_5=>(aHN ?_))))))))))))))
    refine aW rfl (ba 1 tk73 rfl rfl rfl rfl (aHK ?_))
    refine aNn (DR [] 23 (VM 0 rfl rfl (VO 1 0 rfl rfl rfl (VL 2 1 tk9 rfl rfl rfl rfl rfl (bV 3 rfl rfl (Q0 rfl (b9 y.name (dh (ah e1).2))) (bV 4 rfl rfl (bF rfl rfl e1) (VO 5 1 rfl rfl rfl (VL 6 1 tk9 rfl rfl rfl rfl rfl (bV 7 rfl rfl (Q0 rfl (b9 y.version (dh (ah e2).2))) (bV 8 rfl rfl (bF rfl rfl e2) (VO 9 2 rfl rfl rfl (VL 10 1 tk3 rfl rfl rfl rfl rfl (VO 14 3 rfl rfl rfl (VL 15 1 tk4 rfl rfl rfl rfl rfl (VO 18 4 rfl rfl rfl ?_)))))))))))))))
    refine VL 19 1 tk4 rfl rfl rfl rfl rfl (VB (zs:=[.int .i64 0]) 11 rfl el25 rfl rfl rfl rfl (.more rfl (.v rfl .nil) .nil) rfl rfl (fun v12_11 => ?_))
    refine bV 12 rfl rfl (Q1 rfl ((b8 ⟨v12_11,1,[y.kind]⟩ (by intro y hy;simp only [List.mem_cons,List.not_mem_nil,or_false] at hy;rw [hy];assumption) ((ah e3).2)).post (fun _ _ _ h=>h.2.2)) 0 rfl) ?_
    refine bV 13 rfl rfl (bF rfl rfl e3) (bV 16 rfl rfl (Q0 rfl (j6 y.weak)) (bV 17 rfl rfl (bF rfl rfl e4) (bV 20 rfl rfl (Q0 rfl (j6 y.own)) (bV 21 rfl rfl (bF rfl rfl e5) (bV 22 rfl rfl (bo rfl) (BN (bu (an (aa (aM rfl (aU rfl (aV rfl rfl (by omega)) (aA rfl (aNn ?_)))))))))))))
    refine ⟨[1,3,6],[14,13,12,11,10,9,8,7,6,5,4,3,2,1,0],[0],rfl,?_⟩
    refine ⟨k+1,⟨hk',?_⟩,by omega⟩
    rw [hst]
    rfl
   ·skip
    have hke:k=x.imports.l.length:=by simp at h2;omega
    subst hke
    rw [List.take_length,← b1]
    refine aR (aS (aS (aY (an (ai (DR [] 15 (VM 0 rfl rfl (VO 1 11 rfl rfl rfl (VL 2 0 tk25 rfl rfl rfl rfl rfl (bV 3 rfl rfl (Q1 rfl ((j8 x.slots i_slots ((ah dA2_1).2)).post (fun _ _ _ h=>h.2.2)) 10 rfl) (bV 4 rfl rfl (bF rfl rfl dA2_1) (VO 5 12 rfl rfl rfl (VL 6 0 tk25 rfl rfl rfl rfl rfl (bV 7 rfl rfl (Q1 rfl ((j8 x.stubs i_stubs ((ah dA2_2).2)).post (fun _ _ _ h=>h.2.2)) 9 rfl) (bV 8 rfl rfl (bF rfl rfl dA2_2) ?_)))))))))))))))
    refine VO 9 13 rfl rfl rfl (VL 10 0 tk26 rfl rfl rfl rfl rfl (bV 11 rfl rfl (aX Tryz.underlying26 rfl) (bV 12 rfl rfl (Q0 rfl (cT x.dyns.l.length hl_dyns)) (bV 13 rfl rfl (bF rfl rfl dA2_3) (bV 14 rfl rfl (bo rfl) (BN (an (ai (aSR (aA rfl (aNn (aq ?_))))))))))))
    rw [← a2]
    refine aP [1,3,8] [14,13,12,11,10,9,8,7,6,5,4,3,2,1,0] [0] (fun (k:Nat) st=>k≤x.dyns.l.length∧st=⟨[(1,true,.pointer (some ⟨b0_0,0,none⟩)),(3,true,.string (bytesOf (A2++aO j9 (x.dyns.l.take k)))),(8,true,.int .i64 k)],[b6 cr.ok x.changes.l,ShF cr.row x.changes,cC.ok x.info,b6 aF.ok x.versions.l,ShF aF.row x.versions,ShF (fun s=>[.v (.string s)]) x.needs,ShF (fun z=>[.v (.int .i64 z)]) x.lasts,ShF (fun z=>[.v (.int .i64 z)]) x.inits,ShF fx.row x.dyns,ShF (fun z=>[.v (.int .i64 z)]) x.stubs,ShF (fun z=>[.v (.int .i64 z)]) x.slots,ShF b7.row x.imports,ShF bQ.row x.exports,ShF bp.row x.nodes,x.ok],[Box b0_0 39 x.vs]⟩) (fun k=>x.dyns.l.length-k) rfl (⟨0,Nat.zero_le _,by rw [List.take_zero];show _=(⟨[_,(3,true,.string (bytesOf (A2++[]))),_],_,_⟩:Sta);rw [List.append_nil];rfl⟩) ?_
    rintro k st ⟨hk,rfl⟩
    refine ai (aSR (aM rfl (UO 13 rfl rfl (UL 0 tk26 rfl rfl rfl rfl (aU rfl (aX Tryz.underlying26 rfl) (aU rfl (bC rfl rfl) (aNn ?_)))))))
    refine ao _ rfl (fun h3 => ?_) (fun h3 => ?_)
    ·skip
     have hk':k<x.dyns.l.length:=by simpa using h3
     obtain ⟨y,hx⟩:∃ y,x.dyns.l[k]? = some y:=⟨_,List.getElem?_eq_getElem hk'⟩
     obtain ⟨w0,w1,w2,w3⟩:=i_dyns y (List.mem_of_getElem? hx)
     have hst:A2++aO j9 (x.dyns.l.take (k+1))=((A2++aO j9 (x.dyns.l.take k))++aO aj.enc [y.at_,y.kind,y.import_,y.add]):=by rw [eH hx];simp only [aO,List.map_cons,List.map_nil,List.flatten_cons,List.flatten_nil,List.append_nil,List.append_assoc];rfl
     have e1:=kj (k+1) dB2_1
     rw [hst] at e1
     refine ax (an (ai (aq (aSR (UO 13 rfl rfl (UL 0 tk26 rfl rfl rfl rfl (aM rfl (UI Tryz.underlying26 tk75 8 rfl rfl rfl rfl rfl (aI hx) rfl rfl (fun ⟨b17_3,o17_3⟩=>(US 0 tk75 0 rfl rfl rfl rfl rfl (LT rfl (bJ (zs:=[.int .i64 0,.int .i64 0,.int .i64 0,.int .i64 0]) (by kernel_rfl) rfl (fun b17_5=>(aHN ?_))))))))))))))
     refine aW rfl (ba 1 tk75 rfl rfl rfl rfl (aHK ?_))
     refine aNn (aa (aM rfl (UO 0 rfl rfl (UL 1 tk3 rfl rfl rfl rfl (UO 1 rfl rfl (UL 1 tk3 rfl rfl rfl rfl (UO 2 rfl rfl (UL 1 tk3 rfl rfl rfl rfl (UO 3 rfl rfl (UL 1 tk3 rfl rfl rfl rfl (LT rfl (WL (zs:=[.int .i64 0]) el25 rfl rfl rfl (.more rfl (.v rfl .nil) (.more rfl (.v rfl .nil) (.more rfl (.v rfl .nil) (.more rfl (.v rfl .nil) .nil)))) rfl rfl (fun v18_9=>(aHN ?_))))))))))))))
     refine eG 2 rfl ?_
     refine aU rfl (Q1 rfl ((b8 ⟨v18_9,4,[y.at_,y.kind,y.import_,y.add]⟩ (by intro y hy;simp only [List.mem_cons,List.not_mem_nil,or_false] at hy;rcases hy with rfl | rfl | rfl | rfl<;>assumption) ((ah e1).2)).post (fun _ _ _ h=>h.2.2)) 0 rfl) ?_
     refine aU rfl (bF rfl rfl e1) (aA rfl (bP (bu (an (aa (aM rfl (aU rfl (aV rfl rfl (by omega)) (aA rfl (aNn ?_)))))))))
     refine ⟨[1,3,8],[14,13,12,11,10,9,8,7,6,5,4,3,2,1,0],[0],rfl,?_⟩
     refine ⟨k+1,⟨hk',?_⟩,by omega⟩
     rw [hst]
     rfl
    ·skip
     have hke:k=x.dyns.l.length:=by simp at h3;omega
     subst hke
     rw [List.take_length,← b2]
     refine aR (aS (aS (aY (an (ai (DR [] 19 (VM 0 rfl rfl (VO 1 14 rfl rfl rfl (VL 2 0 tk25 rfl rfl rfl rfl rfl (bV 3 rfl rfl (Q1 rfl ((j8 x.inits i_inits ((ah dA3_1).2)).post (fun _ _ _ h=>h.2.2)) 7 rfl) (bV 4 rfl rfl (bF rfl rfl dA3_1) (VO 5 15 rfl rfl rfl (VL 6 0 tk25 rfl rfl rfl rfl rfl (bV 7 rfl rfl (Q1 rfl ((j8 x.lasts i_lasts ((ah dA3_2).2)).post (fun _ _ _ h=>h.2.2)) 6 rfl) (bV 8 rfl rfl (bF rfl rfl dA3_2) ?_)))))))))))))))
     refine VO 9 16 rfl rfl rfl (VL 10 0 tk3 rfl rfl rfl rfl rfl (VO 14 17 rfl rfl rfl (VL 15 0 tk27 rfl rfl rfl rfl rfl (VB (zs:=[.int .i64 0]) 11 rfl el25 rfl rfl rfl rfl (.more rfl (.v rfl .nil) .nil) rfl rfl (fun v19_11 => ?_)))))
     refine bV 12 rfl rfl (Q1 rfl ((b8 ⟨v19_11,1,[x.entry]⟩ (by intro y hy;simp only [List.mem_cons,List.not_mem_nil,or_false] at hy;rw [hy];assumption) ((ah dA3_3).2)).post (fun _ _ _ h=>h.2.2)) 0 rfl) ?_
     refine bV 13 rfl rfl (bF rfl rfl dA3_3) (bV 16 rfl rfl (Q1 rfl ((pd x.needs ((ah dA3_4).2)).post (fun _ _ _ h=>h.2.2)) 6 rfl) (bV 17 rfl rfl (bF rfl rfl dA3_4) (bV 18 rfl rfl (bo rfl) (BN (an (ai ?_))))))
     rw [← a3]
     refine DR [] 14 (VM 0 rfl rfl (VO 1 18 rfl rfl rfl (VL 2 0 tk28 rfl rfl rfl rfl rfl (bV 3 rfl rfl (QC rfl (fun w S fp hst=>((pM x.versions ((ah dA4_1).2)).post (fun _ _ _ h=>h.2.2)).quiet2 (aH 5 rfl) (aH 4 rfl) hst)) (bV 4 rfl rfl (bF rfl rfl dA4_1) (VO 5 19 rfl rfl rfl (VL 6 0 tk36 rfl rfl rfl rfl rfl (bV 7 rfl rfl (Q1 rfl ((wm x.info i_info ((ah dA4_2).2)).post (fun _ _ _ h=>h.2.2)) 3 rfl) (bV 8 rfl rfl (bF rfl rfl dA4_2) (VO 9 25 rfl rfl rfl (VL 10 0 tk37 rfl rfl rfl rfl rfl (bV 11 rfl rfl (QC rfl (fun w S fp hst=>((qW x.changes i_changes ((ah dA4_3).2)).post (fun _ _ _ h=>h.2.2)).quiet2 (aH 2 rfl) (aH 1 rfl) hst)) (bV 12 rfl rfl (bF rfl rfl dA4_3) (bV 13 rfl rfl (bo rfl) (BN ?_)))))))))))))))
     refine an (az (FZ1 [] Tryz.results16 rfl ?_))
     rw [a4]
     exact ⟨rfl,rfl,rfl⟩
end Go.Proofs.YtebnelfdimiifaaGreatDoor

namespace Go.Sy
open Go.RowKit Go.Lp Go.Lv
def lX(g cap:Nat)(E:TypeId)(l:List UInt8):Res :=
 ⟨fun w _ F=>(∃ (cur:Array Value) (fz:Nat × Nat),w.heap[g]? = some (.cells cur E fz)∧fz.2≤l.length∧l.length≤cap∧cap≤maxLen∧cur.size=cap∧cur.toList.take l.length=Lib.strCells (bytesOf l))∧∀ k,F k↔k=g,
  fun ⟨⟨cur,fz,h,hr⟩,hF⟩ h1 _ _=>⟨⟨cur,fz,(h1 g ((hF g).2 rfl)).trans h,hr⟩,hF⟩⟩
section
variable {P:Program} {n:Fr} {env:Env} {ps:List Per} {hp:List Res} {d:Option Tmp} {ty:TypeId} {pos:String} {af:Array Edge} {gd:Option (Nat × Bool)} {K:Sta→Prop}
theorem abr{t:Nat}{x y:Operand}{T tx E:TypeId}{g cap:Nat}{l s:List UInt8}(i:Nat)(hT:P.underlying T=some (.slice E))(hu:P.underlying tx=some .string)(hi1:(P.info? E).map (·.size)=some 1)
   (hx:ev env x=some (true,.slice (some ⟨g,0,none⟩) l.length cap)) (hy:ev env y=some (true,.string (bytesOf s))) (ht:fits n.size (some t)=true) (hi:hp[i]? = some (lX g cap E l)) (hr:l.length+s.length≤cap)
   (hK:K ⟨(t,true,.slice (some ⟨g,0,none⟩) (l++s).length cap)::env,ps,hp.set i (lX g cap E (l++s))⟩) :
   Eff P n ⟨some t,.call ⟨.builtin .append,#[x,y],#[T,tx]⟩,ty,pos,af,gd⟩ ⟨env,ps,hp⟩ false K:=.change i hi fun w S fp a hst he hn hR=>by
 have h1:=he.val hx rfl
 have h2:=he.val hy rfl
 obtain ⟨⟨cur,fz,hg,hfz,hlc,hcm,hcs,htk⟩,hF⟩:=hR
 obtain ⟨j,hj,hjs⟩:=Option.map_eq_some_iff.1 hi1
 have hss:(bytesOf s).size=s.length:=rfl
 have hr2:=Lib.run_append_room_stringF (P:=P) w T tx ty E j hT hu hj hjs g l.length cap cur fz hg hfz (bytesOf s) (by rw [hss];exact hr) (by rw [hss,hcs];exact hr)
 have hexec:execOp a.eval ⟨some t,.call ⟨.builtin .append,#[x,y],#[T,tx]⟩,ty,pos,af,gd⟩=(Builtin.append_ #[T,tx] ty (#[x,y].map a.eval)).bind fun r=>Sem.pure (Next.value r):=rfl
 rw [hexec,show #[x,y].map a.eval = #[a.eval x,a.eval y] by simp,h1,h2,Sem.run_bind',hr2]
 rw [hss]
 refine ⟨lX g cap E (l++s),_,hK,rfl,rfl,by rw [List.length_append];exact he.put (g:=true) (by rw [hn];simpa [fits] using ht) _,⟨⟨_,fz,setRow_heap w g cur _ E _ hg,by rw [List.length_append];omega,by rw [List.length_append];omega,hcm,?_,?_⟩,hF⟩,rfl,rfl,⟨rfl,rfl⟩,by simp [World.setRow],fun b hb hne=>setRow_other _ _ _ _ (fun h=>hne ((hF b).2 h))⟩
 · simp only [List.size_toArray,List.length_append,List.length_take,List.length_drop,Array.length_toList,Lib.strCells_length,hss];omega
 · rw [htk]
   have e:Lib.strCells (bytesOf (l++s))=Lib.strCells (bytesOf l)++Lib.strCells (bytesOf s):=by unfold Lib.strCells bytesOf;simp
   have el:(l++s).length=(Lib.strCells (bytesOf l)++Lib.strCells (bytesOf s)).length:=by rw [← e,Lib.strCells_length];rfl
   rw [el,e]
   exact List.take_left
theorem pS{t:Nat}{x y:Operand}{pt it E:TypeId}{g cp:Nat}{l:List UInt8}(i:Nat)(hp1:P.underlying pt=some (.pointer E))(hc:P.cellsOf E=1)(h0:l≠[])(hx:ev env x=some (true,.pointer (some ⟨g,0,none⟩)))(hy:ev env y=some (true,.int .i64 l.length))
   (hi:hp[i]? = some (lX g cp E l)) (ht:fits n.size (some t)=true) (hK:K ⟨(t,true,.string (bytesOf l))::env,ps,hp.set i (lX g cp E l)⟩) :
   Eff P n ⟨some t,.call ⟨.builtin .unsafeString,#[x,y],#[pt,it]⟩,ty,pos,af,gd⟩ ⟨env,ps,hp⟩ false K:=.change i hi fun w S fp a hst he hn hR=>by
 have h1:=he.val hx rfl
 have h2:=he.val hy rfl
 obtain ⟨⟨cur,fz,hg,hfz,hlc,hcm,hcs,htk⟩,hF⟩:=hR
 have hsh:w.shape? g=some (E,cur.size):=by unfold World.shape?;rw [hg]
 have hcell:∀ j u,l[j]? = some u→w.cell? ((⟨g,0,none⟩:Addr).add j)=some (.int .u8 u.toNat):=fun j u hj=>by
   have hjl:=(List.getElem?_eq_some_iff.1 hj).1
   have:(⟨g,0,none⟩:Addr).add j=⟨g,j,none⟩:=by
     unfold Addr.add
     by_cases h:j=0
     · subst h;simp
     · simp [h]
   rw [this]
   have e:(Lib.strCells (bytesOf l))[j]? = some (.int .u8 u.toNat):=by
     unfold Lib.strCells bytesOf
     simp [hj]
   rw [← htk,List.getElem?_take,if_pos hjl] at e
   unfold World.cell?
   rw [hg]
   simpa using e
 have hr:=Lib.run_unsafeString_row (P:=P) w pt it ty E hp1 hc g cur.size hsh l h0 (by omega) (by unfold maxLen at hcm;omega) hcell
 have hexec:execOp a.eval ⟨some t,.call ⟨.builtin .unsafeString,#[x,y],#[pt,it]⟩,ty,pos,af,gd⟩=(Builtin.unsafeString_ #[pt,it] ty (#[x,y].map a.eval)).bind fun r=>Sem.pure (Next.value r):=rfl
 rw [hexec,show #[x,y].map a.eval = #[a.eval x,a.eval y] by simp,h1,h2,Sem.run_bind',hr]
 have hl0:l.length≠0:=fun h=>h0 (List.eq_nil_of_length_eq_zero h)
 have hfr:∃ fz',fz'.2≤l.length∧(w.freeze ⟨g,0,none⟩ l.length).heap[g]? = some (.cells cur E fz'):=by
   unfold World.freeze
   rw [if_neg hl0]
   obtain ⟨lo,hi'⟩:=fz
   refine ⟨_,?_,by dsimp only;rw [Array.getElem?_modify,if_pos rfl,hg];rfl⟩
   dsimp only at hfz ⊢
   split
   · dsimp only;omega
   · dsimp only;omega
 obtain ⟨fz',hz1,hz2⟩:=hfr
 obtain ⟨f,hfz2⟩:∃ f:Obj→Obj,w.freeze ⟨g,0,none⟩ l.length = { w with heap:=w.heap.modify g f } := ⟨_,by unfold World.freeze;rw [if_neg hl0]⟩
 refine ⟨lX g cp E l,⟨(t,true,.string (bytesOf l))::env,ps,hp.set i (lX g cp E l)⟩,hK,rfl,rfl,?_,⟨⟨cur,fz',hz2,hz1,hlc,hcm,hcs,htk⟩,hF⟩,?_,?_,?_,?_,?_⟩
 · exact he.put (g:=true) (by rw [hn];simpa [fits] using ht) _
 · rw [hfz2]
 · rw [hfz2]
 · rw [hfz2];exact ⟨rfl,rfl⟩
 · rw [hfz2];simp
 · intro b' hb' hne
   rw [hfz2]
   simp only [Array.getElem?_modify]
   rw [if_neg (fun h=>hne ((hF b').2 h.symm))]
theorem acX {f:FuncId} {fn:Func} {t:Nat} {x:Operand} {ts pts:Array TypeId} {T E:TypeId} {m:Nat} {q:Bool} (hf:P.funcs[f]? = some fn) (h1:(fn.name == "runtime.NumGoroutine")=false) (h2:fn.body.isNone=true) (h3:Extern.findNext fn=none) (h4:Extern.find fn=some (Extern.BytealgMakeNoZero.makeNoZero pts #[T]))
   (hT:P.underlying T=some (.slice E)) (hm:m≤1000000000000) (hx:ev env x=some (true,.int .i64 m)) (ht:fits n.size (some t)=true)
   (hK:∀ g c,m≤c→K ⟨(t,true,.slice (some ⟨g,0,none⟩) m c)::env,ps,hp++[lX g c E []]⟩):Eff P n ⟨some t,.call ⟨.value (.func f),#[x],ts⟩,ty,pos,af,gd⟩ ⟨env,ps,hp⟩ q K:=.push fun w S' fp a hst he hn=>by
 have e1:=he.val hx rfl
 obtain ⟨cs,hrun,hle,hmx⟩:=Lib.run_makeNoZero (P:=P) w pts T E hT m (by omega)
 have:(execOp a.eval ⟨some t,.call ⟨.value (.func f),#[x],ts⟩,ty,pos,af,gd⟩).run P w=.ok (.value (.slice (some ⟨w.heap.size,0,none⟩) m cs.size)) (w.drew.drew.alloc (.cells cs E)):=by
   unfold execOp
   show ((resolve a.eval ⟨.value (.func f),#[x],ts⟩ ty).bind fun x=>invoke x.target x.args).run P w=_
   have:resolve a.eval ⟨.value (.func f),#[x],ts⟩ ty=Sem.pure { target:=.fn (.func f) #[],args := #[.int .i64 m] } := by
     have hg:a.eval (.func f)=.func (.func f) #[] #[]:=rfl
     unfold resolve
     dsimp only
     rw [hg]
     show Deferred.ofValue _ _=_
     unfold Deferred.ofValue
     dsimp only
     rw [show #[x].map a.eval = #[a.eval x] by simp,e1,Array.empty_append]
     rfl
   rw [this]
   show (callFunc f (#[.int .i64 m] ++ #[])).run P w=_
   rw [Array.append_empty,run_callFunc_extern hf h1 h2 h3 h4,hrun];rfl
 rw [this]
 refine ⟨lX w.heap.size cs.size E [],(fun k=>k=w.heap.size),_,hK _ _ hle,rfl,rfl,he.put (g:=true) (by rw [hn];simpa [fits] using ht) _,?_,⟨⟨cs,(0,0),heap_alloc_new w.drew.drew _,Nat.zero_le _,Nat.zero_le _,hmx (by unfold maxLen;omega),rfl,rfl⟩,fun _=>Iff.rfl⟩,fun k hk=>by subst hk;exact ⟨Nat.le_refl _,by show w.heap.size<(w.heap.push _).size;rw [Array.size_push];exact Nat.lt_succ_self _⟩⟩
 exact ((Below.refl _ w).drew.drew).alloc (Nat.le_refl _) _
end
section
variable {P:Program} {n:Fr} {s:Sta} {d:Option Tmp} {ty:TypeId} {pos:String} {af:Array Edge} {gd:Option (Nat × Bool)}
theorem adP{x:Operand}{T E:TypeId}{ad:Option Addr}{k c:Nat}(hT:P.underlying T=some (.slice E))(hx:ev s.env x=some (true,.slice ad k c)) :
   Quiet P n ⟨d,.call ⟨.builtin .cap,#[x],#[T]⟩,ty,pos,af,gd⟩ s (.int .i64 c):=.run1 hx fun ρ w h1=>by
 have hT':P.underlying T=some (.slice (P.elem T)):=by rw [hT];unfold Program.elem;rw [hT]
 have:(Builtin.cap_ #[T] ty #[.slice ad k c]).run P w=.ok (.int .i64 c) w:=run_cap_slice _ _ _ _ _ _ hT'
 have e:(execOp ρ ⟨d,.call ⟨.builtin .cap,#[x],#[T]⟩,ty,pos,af,gd⟩)=(Builtin.cap_ #[T] ty (#[x].map ρ)).bind fun r=>Sem.pure (Next.value r):=rfl
 rw [e,show #[x].map ρ = #[.slice ad k c] by simp [h1],Sem.run_bind',this];rfl
theorem agf{x y z:Operand}{ts:Array TypeId}{k:IntKind}{a b c:Int}(hx:ev s.env x=some (true,.int k a))(hy:ev s.env y=some (true,.int k b))(hz:ev s.env z=some (true,.int k c)) :
   Quiet P n ⟨d,.call ⟨.builtin .min,#[x,y,z],ts⟩,ty,pos,af,gd⟩ s (.int k (min (min a b) c)):=fun w S fp a' hst he hn=>by
 have h1:=he.val hx rfl
 have h2:=he.val hy rfl
 have h3:=he.val hz rfl
 have hr:(Builtin.min_ ts ty #[.int k a,.int k b,.int k c]).run P w=.ok (.int k (min (min a b) c)) w:=by
   have:(Builtin.min_ ts ty #[.int k a,.int k b,.int k c]).run P w=.ok (.int k (if c<(if b<a then b else a) then c else (if b<a then b else a))) w:=by simp [Builtin.min_,Builtin.min2]
   rw [this]
   congr 2
   split<;>split<;>omega
 have e:(execOp a'.eval ⟨d,.call ⟨.builtin .min,#[x,y,z],ts⟩,ty,pos,af,gd⟩)=(Builtin.min_ ts ty (#[x,y,z].map a'.eval)).bind fun r=>Sem.pure (Next.value r):=rfl
 have:(execOp a'.eval ⟨d,.call ⟨.builtin .min,#[x,y,z],ts⟩,ty,pos,af,gd⟩).run P w=.ok (.value (.int k (min (min a b) c))) w:=by
   rw [e,show #[x,y,z].map a'.eval = #[.int k a,.int k b,.int k c] by simp [h1,h2,h3],Sem.run_bind',hr];rfl
 rw [this];exact cg _ _
end
end Go.Sy

namespace Go.Proofs.YtebnelfdimiifaaGreatDoor
open Go.RowKit Go.Lp Go.Sy Go.Lv
open Go.Proofs.Tryz
attribute [local irreducible] aL aB awp aC fwp Quiet
abbrev mf(b:Nat)(p v:Value):Res:=Box b 62 [p,v]
abbrev slF(g n c:Nat):Value:=.slice (some ⟨g,0,none⟩) n c
theorem yb(b:Nat)(v:Value):Con Tryz.prog 145 [.pointer (some ⟨b,0,none⟩)] [] [mf b (.pointer none) v] fun _ ps hp=>ps=[]∧hp=[mf b (.pointer (some ⟨b,0,none⟩)) v]:=by
 refine EN1 Tryz.func145 rfl (aSR (aM rfl (UN rfl rfl (UO 0 rfl rfl (UL 0 tk59 rfl rfl rfl rfl (aU rfl (jl (by kernel_rfl) rfl) (aNn ?_)))))))
 refine ao _ rfl (fun h1 => ?_) (fun h1 => ?_)
 ·skip
  refine aa (aM rfl (aM rfl ?_))
  refine aU rfl (zd (t:=62) 0 (by kernel_rfl) (by kernel_rfl) (by kernel_rfl) rfl rfl (by simp)) ?_
  refine aU rfl (adQ (vs:=_) Tryz.func173 rfl rfl (by kernel_rfl) (by kernel_rfl) rfl (fun w=>wT _ w)) (aU rfl (rJ (u:=62) 0 2 (by kernel_rfl) (by kernel_rfl) (by kernel_rfl) rfl rfl rfl (by kernel_rfl)) (UN rfl rfl (UO 0 rfl rfl (aW rfl (ba 0 tk59 rfl rfl rfl rfl (aHK ?_))))))
  refine bP (FZ0 [0] Tryz.results145 ?_)
  exact ⟨rfl,rfl⟩
 ·skip
  exact absurd h1 (by decide)
theorem yc(b:Nat)(v:Value):Con Tryz.prog 145 [.pointer (some ⟨b,0,none⟩)] [] [mf b (.pointer (some ⟨b,0,none⟩)) v] fun _ ps hp=>ps=[]∧hp=[mf b (.pointer (some ⟨b,0,none⟩)) v]:=by
 refine EN1 Tryz.func145 rfl (aSR (aM rfl (UN rfl rfl (UO 0 rfl rfl (UL 0 tk59 rfl rfl rfl rfl (aU rfl (ny (by kernel_rfl) rfl) (aNn ?_)))))))
 refine ao _ rfl (fun h1 => ?_) (fun h1 => ?_)
 ·skip
  exact absurd h1 (by decide)
 ·skip
  refine aSR (aM rfl (UN rfl rfl (UO 0 rfl rfl (UL 0 tk59 rfl rfl rfl rfl (aM rfl (aU rfl (oM (te:=62) (by kernel_rfl) (by kernel_rfl) rfl rfl) (aNn ?_)))))))
  refine ao _ rfl (fun h2 => ?_) (fun h2 => ?_)
  ·skip
   exact absurd h2 (by decide)
  ·skip
   refine ax (FZ0 [0] Tryz.results145 ?_)
   exact ⟨rfl,rfl⟩
theorem qJ(b:Nat)(p:Value)(ad:Option Addr)(m c:Nat):Con Tryz.prog 121 [.pointer (some ⟨b,0,none⟩)] [] [mf b p (.slice ad m c)] fun r ps hp=>ps=[]∧hp=[mf b p (.slice ad m c)]∧r=.int .i64 m:=by
 refine EN1 Tryz.func121 rfl (aSR (aA rfl (aNn (aSR (aM rfl (UN rfl rfl (UO 1 rfl rfl (UL 0 tk60 rfl rfl rfl rfl (aU rfl (aX Tryz.underlying60 rfl) (aA rfl (aNn (az (FZ1 [0] Tryz.results121 rfl ?_)))))))))))))
 exact ⟨rfl,rfl,rfl⟩
theorem aaP(b:Nat)(p:Value)(m:Nat)(hm:m≤1000000000):Con Tryz.prog 166 [.pointer (some ⟨b,0,none⟩),.int .i64 m] [] [mf b p (.slice none 0 0)]
   fun _ ps hp=>ps=[]∧∃ g c,m≤c∧hp=[mf b p (slF g 0 c),lX g c 5 []]:=by
 refine EN2 Tryz.func166 rfl (ai (DR [] 16 (VM 0 rfl rfl (VN 1 rfl rfl rfl (VO 2 1 rfl rfl rfl (VL 3 0 tk60 rfl rfl rfl rfl rfl (bV 4 rfl rfl (adP Tryz.underlying60 rfl) (bV 5 rfl rfl (fq rfl rfl (by omega)) (VM 6 rfl rfl (bV 7 rfl rfl (aV rfl rfl (by omega)) (VM 9 rfl rfl (VN 10 rfl rfl rfl (VO 11 1 rfl rfl rfl (VL 12 0 tk60 rfl rfl rfl rfl rfl (bV 13 rfl rfl (aX Tryz.underlying60 rfl) ?_)))))))))))))))
 refine eQ (q:=true) 8 rfl (by kernel_rfl) rfl rfl (acX (m:=m) Tryz.func183 rfl rfl rfl rfl Tryz.underlying60 (by omega) (dS rfl (by omega)) rfl (fun g0 c0 hgc=>(bST rfl ?_)))
 refine bV 14 rfl rfl (iM 0 el60 rfl rfl rfl (Nat.zero_le _) hgc) (bV 15 rfl rfl (bo rfl) (BN (an (aSR (aM rfl (aM rfl (UN rfl rfl (UO 1 rfl rfl (UL 0 tk60 rfl rfl rfl rfl (aU rfl (aan el60 rfl rfl) (aNn (aa (aM rfl (aM rfl (UN rfl rfl ?_)))))))))))))))
 refine UO 1 rfl rfl (aW rfl (ba 0 tk60 rfl rfl rfl rfl (aHK ?_)))
 refine bP (FZ0 [0,1] Tryz.results166 ?_)
 exact ⟨rfl,g0,c0,hgc,rfl⟩
theorem aaO(b:Nat)(m:Nat)(hm:m≤1000000000)(h0:0<m):Con Tryz.prog 119 [.pointer (some ⟨b,0,none⟩),.int .i64 m] [] [mf b (.pointer none) (.slice none 0 0)]
   fun _ ps hp=>ps=[]∧∃ g c,m≤c∧hp=[mf b (.pointer (some ⟨b,0,none⟩)) (slF g 0 c),lX g c 5 []]:=by
 refine EN2 Tryz.func119 rfl (aSR (aM rfl (LF rfl (EC [] [0] rfl (yb b (.slice none 0 0)) ?_))))
 rintro _ _ _ ⟨rfl,rfl⟩
 refine aST ?_
 refine aNs (aSR (aM rfl (aU rfl (bC rfl rfl) (aNn ?_))))
 refine ao _ rfl (fun h1 => ?_) (fun h1 => ?_)
 ·skip
  exact absurd h1 (by simp<;>omega)
 ·skip
  refine ax (an (ai (DR [] 13 (VM 0 rfl rfl (VN 1 rfl rfl rfl (VO 2 1 rfl rfl rfl (VL 3 0 tk60 rfl rfl rfl rfl rfl (bV 4 rfl rfl (adP Tryz.underlying60 rfl) (VM 5 rfl rfl (VN 6 rfl rfl rfl (VO 7 1 rfl rfl rfl (VL 8 0 tk60 rfl rfl rfl rfl rfl (bV 9 rfl rfl (aX Tryz.underlying60 rfl) (bV 10 rfl rfl (cZ rfl rfl (by omega)) (VM 11 rfl rfl ?_)))))))))))))))
  refine bV 12 rfl rfl (bC rfl rfl) (BN (an ?_))
  refine ao _ rfl (fun h2 => ?_) (fun h2 => ?_)
  ·skip
   refine aa (aM rfl (aM rfl (LF rfl (EC [] [0] rfl (aaP b (.pointer (some ⟨b,0,none⟩)) m hm) ?_))))
   rintro _ _ _ ⟨rfl,g,c,hgc,rfl⟩
   refine aST ?_
   refine bP (FZ0 [0,1] Tryz.results119 ?_)
   exact ⟨rfl,g,c,hgc,rfl⟩
  ·skip
   exact absurd h2 (by simp<;>omega)
theorem s8(b g c:Nat)(l t:List UInt8)(hl:l.length+t.length≤c):Con Tryz.prog 120 [.pointer (some ⟨b,0,none⟩),.string (bytesOf t)] [] [mf b (.pointer (some ⟨b,0,none⟩)) (slF g l.length c),lX g c 5 l]
   fun _ ps hp=>ps=[]∧hp=[mf b (.pointer (some ⟨b,0,none⟩)) (slF g (l++t).length c),lX g c 5 (l++t)]:=by
 refine EN2 Tryz.func120 rfl (aSR (aA rfl (aA rfl (aNn (aSR (aM rfl (LF rfl (EC [] [0] rfl (yc b (slF g l.length c)) ?_))))))))
 rintro _ _ _ ⟨rfl,rfl⟩
 refine aST ?_
 refine aNn (aSR (aM rfl (aM rfl (UN rfl rfl (UO 1 rfl rfl (UL 0 tk60 rfl rfl rfl rfl (aM rfl (LF rfl (abr 1 Tryz.underlying60 Tryz.underlying9 (by kernel_rfl) rfl rfl rfl rfl hl (aHK ?_))))))))))
 refine UN rfl rfl (UO 1 rfl rfl (aW rfl (ba 0 tk60 rfl rfl rfl rfl (aHK ?_))))
 refine aNn (aSR (aM rfl (aU rfl (cB Tryz.underlying9 rfl) (aA rfl (aA rfl (aNn (az (FZ2 [0,1] Tryz.results120 rfl rfl ?_))))))))
 exact ⟨rfl,rfl⟩
theorem vY(b g c:Nat)(l:List UInt8)(hl:l≠[])(hc:c≠0):Con Tryz.prog 18 [.pointer (some ⟨b,0,none⟩)] [] [mf b (.pointer (some ⟨b,0,none⟩)) (slF g l.length c),lX g c 5 l]
   fun r ps hp=>ps=[]∧hp=[mf b (.pointer (some ⟨b,0,none⟩)) (slF g l.length c),lX g c 5 l]∧r=.string (bytesOf l):=by
 refine EN1 Tryz.func18 rfl (aSR (aA rfl (aNs (DR [10] 12 (VM 0 rfl rfl (VN 1 rfl rfl rfl (VO 2 1 rfl rfl rfl (VL 3 0 tk60 rfl rfl rfl rfl rfl (bV 4 rfl rfl (kX hc rfl) (VM 5 rfl rfl (VN 6 rfl rfl rfl (VO 7 1 rfl rfl rfl (VL 8 0 tk60 rfl rfl rfl rfl rfl (bV 9 rfl rfl (aX Tryz.underlying60 rfl) ?_))))))))))))))
 refine VE 10 rfl rfl (pS 1 (by kernel_rfl) (by kernel_rfl) hl rfl rfl rfl rfl (bST rfl ?_))
 refine bV 11 rfl rfl (bo rfl) (BN (an (az (FZ1 [0,1] Tryz.results18 rfl ?_))))
 exact ⟨rfl,rfl,rfl⟩
theorem ahf(N:Nat)(hN:N≤1000000000)(w:World):Calls Tryz.prog 117 #[.int .u64 (IntKind.u64.wrap ((1:Nat):Int)),.int .u64 (IntKind.u64.wrap (N:Int))] w fun e w'=>e=.returned (.tuple #[.int .u64 0,.int .u64 N])∧Go.Sy.Below w.heap.size w w':=by
 have h:=Any.bits_Mul Tryz.lays212 1 N (by omega) (by omega) w
 have e1:IntKind.u64.wrap ((1:Nat):Int)=((1:Nat):Int):=by decide
 have e2:IntKind.u64.wrap (N:Int)=N:=by rw [IntKind.wrap_u64];omega
 rw [e1,e2]
 refine h.mono fun e w' ⟨h1,h2⟩=>⟨?_,by rw [h2];exact Go.Sy.Below.refl _ _⟩
 rw [h1]
 have e3:1*N / 18446744073709551616=0:=by omega
 have e4:1*N % 18446744073709551616=N:=by omega
 rw [e3,e4];rfl
abbrev zsB(n:Nat):List UInt8:=List.replicate n 0
theorem aev{a b:Nat}{z:Int}(hz:z=(a:Int))(h:a≤b):(bytesOf (zsB b)).extract 0 z.toNat=bytesOf (zsB a):=by
 rw [mS _ hz,List.take_replicate,Nat.min_eq_left h]
theorem abn:Con Tryz.prog 34 [.string ⟨#[0]⟩,.int .i64 ((1:Nat):Int)] [] [] fun r ps hp=>ps=[]∧hp=[]∧r=.string (bytesOf (zsB 1)):=by
 refine EN2 Tryz.func34 rfl (aSR (aA rfl (aNs (aSR (aM rfl (aNn (aq (aSR (aU rfl (cA rfl rfl) (aA rfl (aNn ?_)))))))))))
 refine ao _ rfl (fun h1 => ?_) (fun h1 => ?_)
 ·skip
  exact absurd h1 (by decide)
 ·skip
  refine aSR (aU rfl (cA rfl rfl) (aA rfl (aNn ?_)))
  refine ao _ rfl (fun h2 => ?_) (fun h2 => ?_)
  ·skip
   refine aSR (aM rfl (aA rfl (aNn (az (cH (bw (FZ1 [] Tryz.results34 rfl ?_)))))))
   exact ⟨rfl,rfl,rfl⟩
  ·skip
   exact absurd h2 (by decide)
theorem acP (m:Nat) (h2m:2≤m) (hm:m≤1048576):Con Tryz.prog 34 [.string ⟨#[0]⟩,.int .i64 m] [] [] fun r ps hp=>ps=[]∧hp=[]∧r=.string (bytesOf (zsB m)):=by
 refine EN2 Tryz.func34 rfl (aSR (aA rfl (aNs (aSR (aM rfl (aNn (aq (aSR (aU rfl (cA rfl rfl) (aA rfl (aNn ?_)))))))))))
 refine ao _ rfl (fun h1 => ?_) (fun h1 => ?_)
 ·skip
  exact absurd h1 (by simp<;>omega)
 ·skip
  refine aSR (aU rfl (cA rfl rfl) (aA rfl (aNn ?_)))
  refine ao _ rfl (fun h2 => ?_) (fun h2 => ?_)
  ·skip
   exact absurd h2 (by simp<;>omega)
  ·skip
   refine ax (bu (an (ai (aSR (aM rfl (aU rfl (bC rfl rfl) (aNn ?_)))))))
   refine ao _ rfl (fun h3 => ?_) (fun h3 => ?_)
   ·skip
    exact absurd h3 (by simp<;>omega)
   ·skip
    refine ax (an (aSR (aM rfl (aU rfl (cB Tryz.underlying9 rfl) (aU rfl (cW (by kernel_rfl) Tryz.underlying206 rfl) (aM rfl (aU rfl (cW (by kernel_rfl) Tryz.underlying206 rfl) (aU rfl (QC rfl (fun w S fp hst=>ahf m (by omega) w)) ?_))))))))
    refine aM rfl (aU rfl (ck rfl rfl) (aU rfl (ck rfl rfl) (aA rfl (aA rfl (aNs (aSR (aM rfl (aU rfl (cN rfl rfl) (aM rfl (aG rfl rfl (fun hc=>aT rfl) (aG rfl rfl (fun hc=>cN (ae rfl hc) rfl) (aU rfl (dp rfl rfl (fun h=>gf rfl h)) (aNn ?_)))))))))))))
    refine ao _ rfl (fun h4 => ?_) (fun h4 => ?_)
    ·skip
     exact absurd h4 (by simp<;>omega)
    ·skip
     refine ax (an (aSR (aM rfl ?_)))
     refine aU rfl ((cW (by kernel_rfl) Tryz.underlying3 rfl).castV (v':=.int .i64 m) (congrArg (Value.int .i64) (by rw [IntKind.wrap_i64];omega))) ?_
     refine aA rfl (aNs (aSR (aM rfl (aU rfl (cB Tryz.underlying9 rfl) (aU rfl (cA rfl rfl) (aNn ?_))))))
     refine ao _ rfl (fun h5 => ?_) (fun h5 => ?_)
     ·skip
      exact absurd h5 (by decide)
     ·skip
      refine ax (an (ai (aSR (aM rfl (aU rfl (rK (0) Tryz.underlying9 rfl rfl (rfl) (rfl)) (aNn (aq (ai (aSR (aU rfl (cA rfl rfl) (aA rfl (aNn ?_))))))))))))
      refine ao _ rfl (fun h6 => ?_) (fun h6 => ?_)
      ·skip
       exact absurd h6 (by decide)
      ·skip
       refine aSR (aU rfl (cA rfl rfl) (aA rfl (aNn ?_)))
       refine ao _ rfl (fun h7 => ?_) (fun h7 => ?_)
       ·skip
        exact absurd h7 (by decide)
       ·skip
        refine aSR (aU rfl (cA rfl rfl) (aA rfl (aNn ?_)))
        refine ao _ rfl (fun h8 => ?_) (fun h8 => ?_)
        ·skip
         exact absurd h8 (by decide)
        ·skip
         refine aSR (aU rfl (cA rfl rfl) (aA rfl (aNn ?_)))
         refine ao _ rfl (fun h9 => ?_) (fun h9 => ?_)
         ·skip
          exact absurd h9 (by decide)
         ·skip
          refine aa (aU rfl (cA rfl rfl) (aA rfl (aNn ?_)))
          refine ao _ rfl (fun h10 => ?_) (fun h10 => ?_)
          ·skip
           exact absurd h10 (by decide)
          ·skip
           refine ax (bu (an (aSR (aM rfl (aA rfl (aNs ?_))))))
           refine jw (X := {K:Nat // 1≤K}) (fun q=>⟨[(0,true,.string ⟨#[0]⟩),(7,true,.int .i64 m),(8,true,.int .i64 q.1)],[],[]⟩) ?_ ?_
           ·skip
            refine aSR (aM rfl (aU rfl (cN rfl rfl) (aNn ?_)))
            refine ao _ rfl (fun h11 => ?_) (fun h11 => ?_)
            ·skip
             refine aSR (aM rfl (aU rfl (cB Tryz.underlying9 rfl) (aU rfl (rL rfl rfl (by decide)) (aM rfl (aU rfl (cB Tryz.underlying9 rfl) (aU rfl (fq rfl rfl (by decide)) (aA rfl (aNn (aSR (aM rfl (aU rfl (cA rfl rfl) (aNn ?_))))))))))))
             refine ao _ rfl (fun h12 => ?_) (fun h12 => ?_)
             ·skip
              exact absurd h12 (by decide)
             ·skip
              refine ax (an ?_)
              first
              | exact ⟨[0,7,8],[],[],⟨8192,by decide⟩,rfl,rfl⟩
              | exact ⟨[0,7,8],[],[],⟨m,by omega⟩,rfl,rfl⟩
            ·skip
             refine ax (an ?_)
             first
             | exact ⟨[0,7,8],[],[],⟨8192,by decide⟩,rfl,rfl⟩
             | exact ⟨[0,7,8],[],[],⟨m,by omega⟩,rfl,rfl⟩
           ·skip
            rintro ⟨K,hK1⟩
            refine aSR (LT rfl (bJ (zs:=[.pointer none,.slice none 0 0]) (by kernel_rfl) rfl (fun b35_0=>(aHN ?_))))
            refine aNn (aSR (aM rfl (LF rfl (EC [] [0] rfl (aaO b35_0 m (by omega) (by omega)) ?_))))
            rintro _ _ _ ⟨rfl,g,c,hgc,rfl⟩
            refine aST ?_
            refine aNn (aSR (aM rfl (LF rfl (EC [] [0,1] rfl (s8 b35_0 g c [] [0] (show 1≤c by omega)) ?_))))
            rintro _ _ _ ⟨rfl,rfl⟩
            refine aST ?_
            refine aNs (aq (aP [7,8,9] [] [0,1] (fun (q:Nat) st=>(1≤q∧q≤m)∧st=⟨[(7,true,.int .i64 m),(8,true,.int .i64 K),(9,true,.pointer (some ⟨b35_0,0,none⟩))],[],[mf b35_0 (.pointer (some ⟨b35_0,0,none⟩)) (slF g (zsB q).length c),lX g c 5 (zsB q)]⟩) (fun q=>m-q) rfl (⟨1,⟨Nat.le_refl _,by omega⟩,rfl⟩) ?_))
            rintro q st ⟨⟨hq1,hqm⟩,rfl⟩
            have hlq:(zsB q).length=q:=List.length_replicate
            have hne:zsB q≠[]:=fun h=>by rw [h] at hlq;simp at hlq;omega
            refine ai (aSR (LF rfl (EC [] [0] rfl (qJ b35_0 (.pointer (some ⟨b35_0,0,none⟩)) (some ⟨g,0,none⟩) (zsB q).length c) ?_)))
            rintro _ _ _ ⟨rfl,rfl,rfl⟩
            refine aST ?_
            refine aM rfl (aU rfl (bC rfl rfl) (aNn ?_))
            refine ao _ rfl (fun h13 => ?_) (fun h13 => ?_)
            ·skip
             have hlt:q<m:=by simp at h13;omega
             obtain ⟨k,hk⟩:∃ k:Nat,min (min ((m:Int)-((zsB q).length:Int)) ((zsB q).length:Int)) (K:Int)=(k:Int):=⟨min (min (m-q) q) K,by rw [hlq];omega⟩
             have hkq:k≤q∧1≤k∧q+k≤m:=by rw [hlq] at hk;omega
             have hlk:(zsB k).length=k:=List.length_replicate
             refine ax (an (aq (aSR (aM rfl (LF rfl (EC [] [0] rfl (qJ b35_0 (.pointer (some ⟨b35_0,0,none⟩)) (some ⟨g,0,none⟩) (zsB q).length c) ?_))))))
             rintro _ _ _ ⟨rfl,rfl,rfl⟩
             refine aST ?_
             refine aU rfl (cZ rfl rfl (by omega)) (LF rfl (EC [] [0] rfl (qJ b35_0 (.pointer (some ⟨b35_0,0,none⟩)) (some ⟨g,0,none⟩) (zsB q).length c) ?_))
             rintro _ _ _ ⟨rfl,rfl,rfl⟩
             refine aST ?_
             refine aM rfl (aU rfl (agf rfl rfl rfl) (aA rfl (aNn (aa (LF rfl (EC [] [0,1] rfl (vY b35_0 g c (zsB q) hne (by omega)) ?_))))))
             rintro _ _ _ ⟨rfl,rfl,rfl⟩
             refine aST ?_
             refine aM rfl ?_
             refine aU rfl ((uS Tryz.underlying9 rfl rfl (by rw [hk];omega) (by rw [hk];show (k:Int)≤((zsB q).length:Int);omega)).castV (v':=.string (bytesOf (zsB k))) (congrArg Value.string (aev hk hkq.1))) ?_
             refine LF rfl (EC [] [0,1] rfl (s8 b35_0 g c (zsB q) (zsB k) (by omega)) ?_)
             rintro _ _ _ ⟨rfl,rfl⟩
             refine aST ?_
             refine bP (bu (an ?_))
             refine ⟨[7,8,9],[],[0,1],rfl,?_⟩
             refine ⟨q+k,⟨⟨by omega,hkq.2.2⟩,?_⟩,by omega⟩
             rw [show zsB (q+k)=zsB q++zsB k from List.replicate_append_replicate.symm]
             rfl
            ·skip
             have hqe:q=m:=by simp at h13;omega
             subst hqe
             refine aR (aS (aS (aY (an (aSR (LF rfl (EC [] [0,1] rfl (vY b35_0 g c (zsB q) hne (by omega)) ?_)))))))
             rintro _ _ _ ⟨rfl,rfl,rfl⟩
             refine aST ?_
             refine aA rfl (aNn (az (FZ1 [] Tryz.results34 rfl ?_)))
             exact ⟨rfl,rfl,rfl⟩
theorem wE(m:Nat)(h1:1≤m)(hm:m≤1048576):Con Tryz.prog 34 [.string ⟨#[0]⟩,.int .i64 m] [] [] fun r ps hp=>ps=[]∧hp=[]∧r=.string (bytesOf (zsB m)):=by
 by_cases h:m=1
 · subst h;exact abn
 · exact acP m (by omega) hm
def aab(x:aD):ByteArray:=if x.zero>1048576∨x.zero≤x.bytes.size then x.bytes else x.bytes++bytesOf (zsB (x.zero-x.bytes.size).toNat)
theorem uB(x:aD):Con Tryz.prog 14 [x.val] [] [] fun r ps hp=>ps=[]∧hp=[]∧r=.string (aab x):=by
 refine EN1 Tryz.func14 rfl (aSR (LT rfl (cx rfl rfl rfl (fun b0_0=>(aHN ?_)))))
 refine aA rfl (aNs (aSR (UO 4 rfl rfl (UL 0 tk3 rfl rfl rfl rfl (aU rfl (cN rfl rfl) (aM rfl (GO 4 rfl rfl rfl (GL 0 tk3 rfl rfl rfl rfl rfl (GO 5 rfl rfl rfl (GL 0 tk9 rfl rfl rfl rfl rfl (aG rfl rfl (fun hc=>cB Tryz.underlying9 (ae rfl hc)) (aG rfl rfl (fun hc=>eY (ae rfl hc) (ae rfl hc)) (aU rfl (dp rfl rfl (fun h=>gf rfl h)) (aNn ?_))))))))))))))
 refine ao _ rfl (fun h1 => ?_) (fun h1 => ?_)
 ·skip
  have hc:x.zero>1048576∨x.zero≤x.bytes.size:=by rw [Bool.or_eq_true,decide_eq_true_eq,decide_eq_true_eq] at h1;exact h1
  refine aSR (UO 5 rfl rfl (UL 0 tk9 rfl rfl rfl rfl (aA rfl (aNn (az (bw (FZ1 [] Tryz.results14 rfl ?_)))))))
  exact ⟨rfl,rfl,by unfold aab;rw [if_pos hc]⟩
 ·skip
  have hc:¬ (x.zero>1048576∨x.zero≤x.bytes.size):=by rw [Bool.or_eq_false_iff,decide_eq_false_iff_not,decide_eq_false_iff_not] at h1;rintro (h | h);exact h1.1 h;exact h1.2 h
  obtain ⟨k,hk⟩:∃ k:Nat,x.zero-(x.bytes.size:Int)=(k:Int):=⟨(x.zero-(x.bytes.size:Int)).toNat,by omega⟩
  refine ax (an (ai (DR [] 11 (VO 0 5 rfl rfl rfl (VL 1 0 tk9 rfl rfl rfl rfl rfl (VO 2 4 rfl rfl rfl (VL 3 0 tk3 rfl rfl rfl rfl rfl (VO 4 5 rfl rfl rfl (VL 5 0 tk9 rfl rfl rfl rfl rfl (bV 6 rfl rfl (cB Tryz.underlying9 rfl) (bV 7 rfl rfl (cZ rfl rfl (by omega)) ?_)))))))))))
  refine bV 8 rfl rfl (QC rfl (fun w S fp hst=>(show Calls Tryz.prog 34 #[.string ⟨#[0]⟩,.int .i64 (x.zero-(x.bytes.size:Int))] w _ from by rw [hk];exact ((wE k (by omega) (by omega)).post (fun _ _ _ h=>h.2.2)).quiet0 hst))) ?_
  refine bV 9 rfl rfl (kY rfl rfl (by have:(bytesOf (zsB k)).size=k:=List.length_replicate;omega)) ?_
  refine bV 10 rfl rfl (bo rfl) (BN (an (az (FZ1 [] Tryz.results14 rfl ?_))))
  exact ⟨rfl,rfl,by unfold aab;rw [if_neg hc,hk];rfl⟩
end Go.Proofs.YtebnelfdimiifaaGreatDoor

