/- Proved: for all units and layouts of bulk at most 1048576 the law StubChecks of the given program answers true and leaves what it was handed as it was; the second form's card, tied to the program's text. Conditions: none but those in the given statement itself. -/
import Derived.Test.YtgkbbdgklpabpaaGreatDoorCards
import Derived.Test.YtgkbbdgklpabpaaGreatDoorTie
import Derived.Test.YtgkbbdgklpabpaaGreatDoorSc20
import Derived.Test.YtgkbbdgklpabpaaGreatDoorSc27
import Derived.Deep.DeepHandedRow
import Derived.SevenTiedAt
set_option linter.unusedSimpArgs false
set_option linter.unusedVariables false
set_option maxHeartbeats 20000000
set_option maxRecDepth 20000
namespace Go.Proofs.YtgkbbdgklpabpaaGreatDoor.stubChecks
open Go.ChangeShapes Go.WideShapes Go.ChangeAt Go.RowKit
open Go.Lp Go.Sy Go.Lv
open Go.ChangeMaps (open_string shut_string)
theorem door_met(os:Os)(args:Array Value):laidMetH Tryz.prog Rows.stubChecksUptoRow.laid ((World.doorLaid Tryz.prog 400 os).forCall (fun _ _=>0) ⟨#[],args,[]⟩).memory :=
 laidMetH_of_parts3 (fuel:=8) (laidMet_of_run' 8 (by kernel_rfl) (by kernel_rfl)) (by kernel_rfl) (by kernel_rfl)
theorem wt_sums:∀ l:List aQ,l.length≤(l.map fW).sum∧dV l≤(l.map fW).sum∧∀ x∈l,fW x≤(l.map fW).sum
 | []=>⟨Nat.le_refl _,Nat.le_refl _,fun _ h=>by cases h⟩
 | y::l=>by
   obtain ⟨h1,h2,h3⟩:=wt_sums l
   have e:fW y=1+y.refs.l.length+y.vars.l.length+y.inlines.l.length:=rfl
   have f:dV (y::l)=y.refs.l.length+dV l:=rfl
   simp only [List.length_cons,List.map_cons,List.sum_cons]
   refine ⟨by omega,by omega,fun x hx => ?_⟩
   rcases List.mem_cons.1 hx with rfl | hx
   · omega
   · have:=h3 x hx;omega
theorem sz_of{u:aJ}(h:rv u≤10*1048576):SzU u∧dV u.nodes.l≤100000000:=by
 obtain ⟨h1,h2,h3⟩:=wt_sums u.nodes.l
 have e:rv u=(u.nodes.l.map fW).sum+u.imports.l.length:=rfl
 refine ⟨⟨by omega,by omega,fun x hx => ?_⟩,by omega⟩
 have h4:=h3 x hx
 have e:fW x=1+x.refs.l.length+x.vars.l.length+x.inlines.l.length:=rfl
 omega
theorem unit_in{H:Type}{enc:TypeId × Value→H}{w:World}{base:Nat}{spare:Nat→Bool}{held:Bool}{fuel:Nat}{cs:Array Value}{y:DataW H × List MemPlace}(h:DataW.trod enc Tryz.prog w base spare held fuel 32 cs.toList=some y)(hb:Rows.uptoBulk y.1≤1048576) :
   ∃ u:aJ,Value.agg cs=u.val∧u.ok.holds w (fun b=>b<w.heap.size)∧SzU u∧dV u.nodes.l≤100000000:=by
 obtain ⟨ds,hlen,ho,hR,hz⟩:=jf 12 fuel 32 _ _ (by kernel_rfl) h
 exact aa1 (k:=5) w _ ds cs.toList (fun us n=>n≤10*1048576→∃ u:aJ,Value.agg us.toArray=u.val∧u.ok.holds w (fun b=>b<w.heap.size)∧SzU u∧dV u.nodes.l≤100000000) ho (zP hlen hR)
   (fun u n a b hn=>⟨u,rfl,a,sz_of (Nat.le_trans b hn)⟩) (by omega)
theorem layout_in{H:Type}{enc:TypeId × Value→H}{w:World}{base:Nat}{spare:Nat→Bool}{held:Bool}{fuel:Nat}{cs:Array Value}{y:DataW H × List MemPlace}(h:DataW.trod enc Tryz.prog w base spare held fuel 36 cs.toList=some y) :
   ∃ l:aN,Value.agg cs=l.val∧l.ok.holds w (fun b=>b<w.heap.size)∧LyZ l:=by
 obtain ⟨ds,hlen,ho,hR,hz⟩:=jf 12 fuel 36 _ _ (by kernel_rfl) h
 exact xH (k:=8) w _ ds cs.toList (fun us _=>∃ l:aN,Value.agg us.toArray=l.val∧l.ok.holds w (fun b=>b<w.heap.size)∧LyZ l) ho (zP hlen hR)
   (fun l n a b _=>⟨l,rfl,a,b⟩)
theorem contract(H:Type)(enc:TypeId × Value→H)(W:World)(base:Nat)(args:Array Value)(ds gs:List (DataW H))(before:List MemPlace)
   (hval0:∀ (j:Nat) t v,Tryz.f3.params[j]? = some t→args[j]? = some v→Value.okWide Tryz.prog W .any base t v)
   (hW:DataW.Whole enc Tryz.prog Tryz.f3.params.toList Rows.stubChecksSpec.vars false W args.toList ds gs before) (hb:Rows.uptoBulkAll (ds++gs)≤1048576) (hL:laidMetH Tryz.prog Rows.stubChecksUptoRow.laid W) :
   Calls Tryz.prog 3 args W fun e W'=>∃ v,e=.returned v∧Rows.stubChecksSpec.post enc Tryz.prog Tryz.f3 false true false false W args v W':=by
 have hval:∀ (j:Nat) t v,Tryz.f3.params[j]? = some t→args[j]? = some v→Value.okWide Tryz.prog W .any base t v:=hval0
 have hW':=hW
 obtain ⟨p,q,hA0,hV,rfl,hfz,hnd⟩:=hW
 have hA:DataW.TrodAll enc Tryz.prog W 0 (fun _=>true) true Tryz.f3.params.toList args.toList ds p:=hA0
 rw [Tryz.params3] at hA hval
 obtain ⟨v0,vs0,d0,ds0,p0,q0,hargs,rfl,rfl,h0,r0⟩:=trodAll_cons hA
 obtain ⟨v1,vs1,d1,ds1,p1,q1,rfl,rfl,rfl,h1,r1⟩:=trodAll_cons r0
 obtain ⟨rfl,rfl,rfl⟩:=trodAll_nil r1
 obtain rfl:args = #[v0,v1]:=by cases args;simp_all
 obtain ⟨rfl,rfl⟩:=trodVars_none hV
 have hlaid:=xp hL
 obtain ⟨cs0,rfl,hsz0⟩:=okWide_struct Tryz.underlying32 (hval 0 32 v0 rfl rfl)
 have k0:=h0
 have lt0:∀ x∈p0,x.block<W.heap.size:=by obtain ⟨m,hm⟩:=k0;exact DataW.trod_lt m _ _ _ hm
 obtain ⟨x,e0,hok,hs,hr⟩:∃ u:aJ,Value.agg cs0=u.val∧u.ok.holds W (fun b=>b<W.heap.size)∧SzU u∧dV u.nodes.l≤100000000:=by
   obtain ⟨f0,g0⟩:=h0
   have hb0:Rows.uptoBulk d0≤1048576:=Nat.le_trans (lK (by simp)) hb
   exact unit_in (by simpa [Value.cells] using g0) hb0
 obtain ⟨cs1,rfl,hsz1⟩:=okWide_struct Tryz.underlying36 (hval 1 36 v1 rfl rfl)
 have k1:=h1
 have lt1:∀ x∈p1,x.block<W.heap.size:=by obtain ⟨m,hm⟩:=k1;exact DataW.trod_lt m _ _ _ hm
 obtain ⟨y,e1,hok2,hz2⟩:∃ l:aN,Value.agg cs1=l.val∧l.ok.holds W (fun b=>b<W.heap.size)∧LyZ l:=by
   obtain ⟨f1,g1⟩:=h1
   exact layout_in (by simpa [Value.cells] using g1)
 clear hA0 hval0
 have hc:=(oZ x y hs hr hz2).quiet (fun _ h=>h) (acR (w:=W) (ps:=[x.ok,y.ok,bC,dR]) fun p hp=>by
   rcases List.mem_cons.1 hp with rfl | hp
   · exact hok
   · rcases List.mem_cons.1 hp with rfl | hp
     · exact hok2
     · rcases List.mem_cons.1 hp with rfl | hp
       · exact hlaid.1
       · rw [List.mem_singleton.1 hp];exact hlaid.2)
 rw [← e0,← e1] at hc
 refine hc.mono fun e W' ⟨he,bel⟩ => ?_
 subst he
 exact ⟨_,rfl,_,_,_,[],_,[],hW',trodAll_mk1 (shut_bool Tryz.underlying4 _),(trodAll_cons_mk (Below.trod laidOut (by kernel_rfl) (of_decide_eq_true (by kernel_rfl)) k0 bel.kit lt0) (trodAll_cons_mk (Below.trod laidOut (by kernel_rfl) (of_decide_eq_true (by kernel_rfl)) k1 bel.kit lt1) trodAll_mk0)),rfl,bel.kit.frame _,fun h=>by cases h⟩
abbrev wArgs:Array Value := #[.agg #[.string .empty,.bool false,.slice none 0 0,.slice none 0 0,.slice none 0 0,.slice none 0 0,.slice none 0 0,.slice none 0 0,.int .i64 0,.int .i64 0,.int .i64 0,.int .i64 0,.slice none 0 0,.slice none 0 0],.agg #[.slice none 0 0,.slice none 0 0,.slice none 0 0,.int .i64 0,.int .i64 0,.int .i64 0,.int .i64 0]]
theorem reads(os:Os){H:Type}(enc:TypeId × Value→H):DataW.whole enc Tryz.prog ((World.doorLaid Tryz.prog 400 os).forCall (fun _ _=>0) ⟨#[],wArgs,[]⟩).memory Tryz.f3.params.toList Rows.stubChecksSpec.vars false wArgs.toList 12=some ([.agg [.lit (.string []),.lit (.bool false),.nil,.nil,.nil,.nil,.nil,.nil,.agg [.lit (.int .i64 0),.lit (.int .i64 0),.lit (.int .i64 0),.lit (.int .i64 0)],.nil,.nil],.agg [.nil,.nil,.nil,.lit (.int .i64 0),.lit (.int .i64 0),.lit (.int .i64 0),.lit (.int .i64 0)]],[],[]):=by kernel_rfl
set_option maxRecDepth 100000 in
theorem lifted(os:Os)(started:os.Started)(H:Type)(enc:TypeId × Value→H)(F:Stop.Interp) :
   ReturnsInHanded {} Tryz.checked os 3 .any ((Rows.OpenSpec.upto Rows.stubChecksSpec).preRow enc Tryz.prog Tryz.f3 Rows.stubChecksUptoRow.domain false Rows.stubChecksUptoRow.laid) (((Rows.OpenSpec.upto Rows.stubChecksSpec).at F).post enc Tryz.prog Tryz.f3 false true false false):=by
 refine returnsInHanded_of_row (C:=Tryz.checked) (s:=Rows.OpenSpec.upto Rows.stubChecksSpec) own started (by kernel_rfl) Tryz.func3
   ⟨World.doorLaid Tryz.prog 400 os,fun _ _=>0,⟨#[],wArgs,[]⟩,rfl,World.shaped_of_RefB (by kernel_rfl) (by kernel_rfl),rfl,(Input.okWide_of_okWideB (by kernel_rfl)).2,
     OpenSpec.preRow_of_cond 12 (reads os enc) (by kernel_rfl) (fun k hk=>by cases hk;kernel_rfl) (by kernel_rfl) (door_met os _),by
       simp only [Assume.holds]
       exact ⟨by simp,by simp,fun h=>(by cases h),by simp,by simp⟩⟩ ?_
 intro W base args ds gs before hval hW _ hcond _ hL _ _
 exact contract H enc W base args ds gs before hval hW (of_decide_eq_true (hcond _ rfl)) hL
theorem named:Tryz.prog.funcNamed "linchpin/linchpinlaw19.StubChecks" = some 3:=by kernel_rfl
set_option maxHeartbeats 4000000 in
theorem closed:joinedFacts Tryz.prog 3 Tryz.f3 (Rows.OpenSpec.upto Rows.stubChecksSpec).bare Rows.stubChecksUptoRow=true:=by
 unfold joinedFacts
 repeat' with_reducible refine Bool.and_eq_true_iff.2 ⟨?_,?_⟩
 all_goals (as_aux_lemma=>kernel_rfl)
theorem over:Rows.StubChecksUptoSaid :=
 OpenClaim.holds_of_cond 3 Tryz.f3 rfl rfl rfl rfl rfl rfl rfl ⟨rfl,rfl,rfl,rfl,rfl⟩ rfl rfl rfl rfl rfl named Tryz.func3 closed
   (of_decide_eq_true (by as_aux_lemma=>kernel_rfl)) (by unfold Func.isWrapper;first | (rw [if_pos (by decide +kernel)];kernel_rfl) | (rw [if_neg (by decide +kernel)];exact ⟨rfl,rfl⟩))
   (fun os started H enc _ F=>by rw [OpenClaim.pre_eq_preRow];exact lifted os started H enc F)
set_option maxHeartbeats 4000000 in
theorem proved:Rows.StubChecksUptoCardSaid :=
 Claim7.holds_tied_plain_at .later [] [.widerDeep,.widerDeep] true _ true
   over (fun _ h=>by cases h) (by as_aux_lemma=>kernel_rfl) (fun _ h=>by cases h) stubChecksUpto_row_tie rfl ⟨rfl,rfl⟩ (by as_aux_lemma=>kernel_rfl) rfl
   (fun f fn hf hfn=>by
     obtain rfl:f=3:=Option.some.inj (named.symm.trans hf) |>.symm
     obtain rfl:fn=Tryz.f3:=(Option.some.inj (Tryz.func3.symm.trans hfn)).symm
     exact ⟨by as_aux_lemma=>kernel_rfl,fun j t ht=>by
       rw [Tryz.params3] at ht
       have hm:t∈[32,36]:=by simpa using Array.mem_of_getElem? ht
       have hall:([32,36].all fun u => !Tryz.prog.wantsStandIn u)=true:=by as_aux_lemma=>kernel_rfl
       exact (show Tryz.prog.wantsStandIn t=false by simpa using List.all_eq_true.1 hall t (by simpa using hm))⟩)
   (by as_aux_lemma=>kernel_rfl)
end Go.Proofs.YtgkbbdgklpabpaaGreatDoor.stubChecks

