/- Proved: for all objects, interfaces and versions of bulk at most 1048576 the law ResolveLibraries of the given program answers true and leaves what it was handed as it was; the second form's card, tied to the program's text. Conditions: none but those in the given statement itself. -/
import Derived.Test.YtgmiihmahaahiaaGreatDoorCards
import Derived.Test.YtgmiihmahaahiaaGreatDoorTie
import Derived.Test.YtgmiihmahaahiaaGreatDoorQb14
import Derived.Test.YtgmiihmahaahiaaGreatDoorQb16
import Derived.Deep.DeepHandedRow
import Derived.SevenTiedAt
set_option linter.unusedSimpArgs false
set_option linter.unusedVariables false
set_option maxHeartbeats 1000000
set_option maxRecDepth 20000
namespace Go.Proofs.YtgmiihmahaahiaaGreatDoor.resolveLibraries
open Go.ChangeShapes Go.WideShapes Go.ChangeAt Go.RowKit
open Go.Lp Go.Sy
open Go.ChangeMaps (open_string shut_string)
theorem door_met (os : Os) (args : Array Value) : laidMetH Tryz.prog Rows.resolveLibrariesUptoRow.laid ((World.doorLaid Tryz.prog 400 os).forCall (fun _ _ => 0) ⟨#[], args, []⟩).memory :=
 laidMetH_of_parts3 (fuel := 8) (laidMet_of_run' 8 (by kernel_rfl) (by kernel_rfl)) (by kernel_rfl) (by kernel_rfl)
theorem iface_in {H : Type} {enc : TypeId × Value → H} {w : World} {base : Nat} {spare : Nat → Bool} {held : Bool} {fuel : Nat} {cs : Array Value} {y : DataW H × List MemPlace} (h : DataW.trod enc Tryz.prog w base spare held fuel 73 cs.toList = some y) : ∃ m : bw, Value.agg cs = m.val ∧ m.ok.holds w (fun b => b < w.heap.size) := by
 obtain ⟨ds, hlen, ho, hR⟩ := gW 12 fuel 73 _ _ (by kernel_rfl) h
 obtain ⟨m, h1, h2⟩ := sV ho (oG hlen hR)
 refine ⟨m, ?_, h2⟩
 have e : m.vs = cs.toList := rA h1
 have : cs = m.vs.toArray := by rw [e]
 rw [this]
theorem par_len (f : bw) : (f.versions.l.flatMap fun d => d.parents.l).length = zI f := by
 unfold zI
 rw [List.length_flatMap]; rfl
theorem contract (H : Type) (enc : TypeId × Value → H) (W : World) (base : Nat) (args : Array Value) (ds gs : List (DataW H)) (before : List MemPlace)
   (hval0 : ∀ (j : Nat) t v, Tryz.f6.params[j]? = some t → args[j]? = some v → Value.okWide Tryz.prog W .any base t v)
   (hW : DataW.Whole enc Tryz.prog Tryz.f6.params.toList Rows.resolveLibrariesSpec.vars false W args.toList ds gs before) (hb : Rows.uptoBulkAll (ds ++ gs) ≤ 1048576) (hL : laidMetH Tryz.prog Rows.resolveLibrariesUptoRow.laid W) :
   Calls Tryz.prog 6 args W fun e W' => ∃ v, e = .returned v ∧ Rows.resolveLibrariesSpec.post enc Tryz.prog Tryz.f6 false true false false W args v W' := by
 have hval : ∀ (j : Nat) t v, Tryz.f6.params[j]? = some t → args[j]? = some v → Value.okWide Tryz.prog W .any base t v := hval0
 have hW' := hW
 obtain ⟨p, q, hA0, hV, rfl, hfz, hnd⟩ := hW
 have hA : DataW.TrodAll enc Tryz.prog W 0 (fun _ => true) true Tryz.f6.params.toList args.toList ds p := hA0
 rw [Tryz.params6] at hA hval
 obtain ⟨v0, vs0, d0, ds0, p0, q0, hargs, rfl, rfl, h0, r0⟩ := trodAll_cons hA
 obtain ⟨v1, vs1, d1, ds1, p1, q1, rfl, rfl, rfl, h1, r1⟩ := trodAll_cons r0
 obtain ⟨v2, vs2, d2, ds2, p2, q2, rfl, rfl, rfl, h2, r2⟩ := trodAll_cons r1
 obtain ⟨v3, vs3, d3, ds3, p3, q3, rfl, rfl, rfl, h3, r3⟩ := trodAll_cons r2
 obtain ⟨v4, vs4, d4, ds4, p4, q4, rfl, rfl, rfl, h4, r4⟩ := trodAll_cons r3
 obtain ⟨rfl, rfl, rfl⟩ := trodAll_nil r4
 obtain rfl : args = #[v0, v1, v2, v3, v4] := by cases args; simp_all
 obtain ⟨rfl, rfl⟩ := trodVars_none hV
 have hlaid := wK hL
 obtain ⟨ad0, len0, cap0, rfl⟩ := okWide_slice Tryz.underlying22 (hval 0 22 v0 rfl rfl)
 have k0 := h0
 have lt0 : ∀ x ∈ p0, x.block < W.heap.size := by obtain ⟨m, hm⟩ := k0; exact DataW.trod_lt m _ _ _ hm
 obtain ⟨a1, rfl, rfl, rfl⟩ := open_bool Tryz.underlying4 (hval 1 4 v1 rfl rfl) h1
 obtain ⟨ad2, len2, cap2, rfl⟩ := okWide_slice Tryz.underlying23 (hval 2 23 v2 rfl rfl)
 have k2 := h2
 have lt2 : ∀ x ∈ p2, x.block < W.heap.size := by obtain ⟨m, hm⟩ := k2; exact DataW.trod_lt m _ _ _ hm
 obtain ⟨cs3, rfl, hsz3⟩ := okWide_struct Tryz.underlying73 (hval 3 73 v3 rfl rfl)
 have k3 := h3
 have lt3 : ∀ x ∈ p3, x.block < W.heap.size := by obtain ⟨m, hm⟩ := k3; exact DataW.trod_lt m _ _ _ hm
 obtain ⟨ad4, len4, cap4, rfl⟩ := okWide_slice Tryz.underlying24 (hval 4 24 v4 rfl rfl)
 have k4 := h4
 have lt4 : ∀ x ∈ p4, x.block < W.heap.size := by obtain ⟨m, hm⟩ := k4; exact DataW.trod_lt m _ _ _ hm
 obtain ⟨x, mo, e0, e1, e2, e3, e4, hok, hmo, hZ⟩ : ∃ (x : G13) (mo : bw), Value.slice ad0 len0 cap0 = x.os.val ∧ a1 = x.lib ∧ Value.slice ad2 len2 cap2 = x.ifs.val ∧ Value.agg cs3 = mo.val ∧ Value.slice ad4 len4 cap4 = x.vs.val ∧ x.ok.holds W (fun b => b < W.heap.size) ∧ mo.ok.holds W (fun b => b < W.heap.size) ∧ vi x := by
   obtain ⟨f0, g0⟩ := h0
   obtain ⟨f2, g2⟩ := h2
   obtain ⟨f3, g3⟩ := h3
   obtain ⟨f4, g4⟩ := h4
   obtain ⟨o, c1, c2, c3⟩ := wy (by simpa [Value.cells] using g0)
   obtain ⟨i, c4, c5, c6, z1, z2⟩ := w6 (by simpa [Value.cells] using g2)
   obtain ⟨m, c7, c8⟩ := iface_in (by simpa [Value.cells] using g3)
   obtain ⟨v, c9, c10, c11⟩ := wX (by simpa [Value.cells] using g4)
   have hb2 : Rows.uptoBulk d2 ≤ 1048576 := Nat.le_trans (kf (by simp)) hb
   exact ⟨⟨o, a1, i, v⟩, m, c1, rfl, c4, c7, c9, ⟨hlaid.1, hlaid.2.1, hlaid.2.2, c2, c3, c5, c6, c10, c11⟩, c8, ⟨by dsimp only at z1; dsimp only; omega, fun f hf => by rw [par_len]; have := z2 f hf; dsimp only at this; omega⟩⟩
 clear hA0 hval0
 have hc := (uu x mo hZ).quiet2 (List.mem_cons_self) (List.mem_cons_of_mem _ List.mem_cons_self) (yB (w := W) (ps := [mo.ok, x.ok]) fun p hp => by
   rcases List.mem_cons.1 hp with rfl | hp
   · exact hmo
   · rw [List.mem_singleton.1 hp]; exact hok)
 rw [← e0, ← e1, ← e2, ← e3, ← e4] at hc
 refine hc.mono fun e W' ⟨he, bel⟩ => ?_
 subst he
 exact ⟨_, rfl, _, _, _, [], _, [], hW', trodAll_mk1 (shut_bool Tryz.underlying4 _), (trodAll_cons_mk (Below.trod laidOut (by kernel_rfl) (of_decide_eq_true (by kernel_rfl)) k0 bel.kit lt0) (trodAll_cons_mk (shut_bool Tryz.underlying4 _) (trodAll_cons_mk (Below.trod laidOut (by kernel_rfl) (of_decide_eq_true (by kernel_rfl)) k2 bel.kit lt2) (trodAll_cons_mk (Below.trod laidOut (by kernel_rfl) (of_decide_eq_true (by kernel_rfl)) k3 bel.kit lt3) (trodAll_cons_mk (Below.trod laidOut (by kernel_rfl) (of_decide_eq_true (by kernel_rfl)) k4 bel.kit lt4) trodAll_mk0))))), rfl, bel.kit.frame _, fun h => by cases h⟩
abbrev wArgs : Array Value := #[.slice none 0 0, .bool false, .slice none 0 0, .agg #[.string .empty, .slice none 0 0, .slice none 0 0], .slice none 0 0]
theorem reads (os : Os) {H : Type} (enc : TypeId × Value → H) : DataW.whole enc Tryz.prog ((World.doorLaid Tryz.prog 400 os).forCall (fun _ _ => 0) ⟨#[], wArgs, []⟩).memory Tryz.f6.params.toList Rows.resolveLibrariesSpec.vars false wArgs.toList 12 = some ([.nil, .lit (.bool false), .nil, .agg [.lit (.string []), .nil, .nil], .nil], [], []) := by kernel_rfl
set_option maxRecDepth 100000 in
theorem lifted (os : Os) (started : os.Started) (H : Type) (enc : TypeId × Value → H) (F : Stop.Interp) :
   ReturnsInHanded {} Tryz.checked os 6 .any ((Rows.OpenSpec.upto Rows.resolveLibrariesSpec).preRow enc Tryz.prog Tryz.f6 Rows.resolveLibrariesUptoRow.domain false Rows.resolveLibrariesUptoRow.laid) (((Rows.OpenSpec.upto Rows.resolveLibrariesSpec).at F).post enc Tryz.prog Tryz.f6 false true false false) := by
 refine returnsInHanded_of_row (C := Tryz.checked) (s := Rows.OpenSpec.upto Rows.resolveLibrariesSpec) own started (by kernel_rfl) Tryz.func6
   ⟨World.doorLaid Tryz.prog 400 os, fun _ _ => 0, ⟨#[], wArgs, []⟩, rfl, World.shaped_of_RefB (by kernel_rfl) (by kernel_rfl), rfl, (Input.okWide_of_okWideB (by kernel_rfl)).2,
     OpenSpec.preRow_of_cond 12 (reads os enc) (by kernel_rfl) (fun k hk => by cases hk; kernel_rfl) (by kernel_rfl) (door_met os _), by
       simp only [Assume.holds]
       exact ⟨by simp, by simp, fun h => (by cases h), by simp, by simp⟩⟩ ?_
 intro W base args ds gs before hval hW _ hcond _ hL _ _
 exact contract H enc W base args ds gs before hval hW (of_decide_eq_true (hcond _ rfl)) hL
theorem named : Tryz.prog.funcNamed "linchpin/linchpinlaw13.ResolveLibraries" = some 6 := by kernel_rfl
set_option maxHeartbeats 4000000 in
theorem closed : joinedFacts Tryz.prog 6 Tryz.f6 (Rows.OpenSpec.upto Rows.resolveLibrariesSpec).bare Rows.resolveLibrariesUptoRow = true := by
 unfold joinedFacts
 repeat' with_reducible refine Bool.and_eq_true_iff.2 ⟨?_, ?_⟩
 all_goals (as_aux_lemma => kernel_rfl)
theorem over : Rows.ResolveLibrariesUptoSaid :=
 OpenClaim.holds_of_cond 6 Tryz.f6 rfl rfl rfl rfl rfl rfl rfl ⟨rfl, rfl, rfl, rfl, rfl⟩ rfl rfl rfl rfl rfl named Tryz.func6 closed
   (of_decide_eq_true (by as_aux_lemma => kernel_rfl)) (by unfold Func.isWrapper; first | (rw [if_pos (by decide +kernel)]; kernel_rfl) | (rw [if_neg (by decide +kernel)]; exact ⟨rfl, rfl⟩))
   (fun os started H enc _ F => by rw [OpenClaim.pre_eq_preRow]; exact lifted os started H enc F)
set_option maxHeartbeats 4000000 in
theorem proved : Rows.ResolveLibrariesUptoCardSaid :=
 Claim7.holds_tied_plain_at .later [] [.data, .data, .widerDeep] true _ false
   over (fun _ h => by cases h) (by as_aux_lemma => kernel_rfl) (fun _ h => by cases h) resolveLibrariesUpto_row_tie rfl ⟨rfl, rfl⟩ (by as_aux_lemma => kernel_rfl) rfl
   (fun f fn hf hfn => by
     obtain rfl : f = 6 := Option.some.inj (named.symm.trans hf) |>.symm
     obtain rfl : fn = Tryz.f6 := (Option.some.inj (Tryz.func6.symm.trans hfn)).symm
     exact ⟨by as_aux_lemma => kernel_rfl, fun j t ht => by
       rw [Tryz.params6] at ht
       have hm : t ∈ [22, 4, 23, 73, 24] := by simpa using Array.mem_of_getElem? ht
       have hall : ([22, 4, 23, 73, 24].all fun u => !Tryz.prog.wantsStandIn u) = true := by as_aux_lemma => kernel_rfl
       exact (show Tryz.prog.wantsStandIn t = false by simpa using List.all_eq_true.1 hall t (by simpa using hm))⟩)
   (by as_aux_lemma => kernel_rfl)
end Go.Proofs.YtgmiihmahaahiaaGreatDoor.resolveLibraries

