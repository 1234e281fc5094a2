/- Proved: for all objects, interfaces and versions of bulk at most 1048576 the law ResolveTells of the given program answers true and leaves what it was handed as it was; the second form's card, tied to the program's text. Conditions: none but those in the given statement itself. -/
import Derived.Test.YtgmiihmahaahiaaGreatDoorCards
import Derived.Test.YtgmiihmahaahiaaGreatDoorTie
import Derived.Test.YtgmiihmahaahiaaGreatDoorQc13
import Derived.Test.YtgmiihmahaahiaaGreatDoorQc16
import Derived.Deep.DeepHandedRow
import Derived.SevenTiedAt
set_option linter.unusedSimpArgs false
set_option linter.unusedVariables false
set_option maxHeartbeats 1000000
set_option maxRecDepth 20000
namespace Go.Proofs.YtgmiihmahaahiaaGreatDoor.resolveTells
open Go.ChangeShapes Go.WideShapes Go.ChangeAt Go.RowKit
open Go.Lp Go.Sy
open Go.ChangeMaps (open_string shut_string)
theorem door_met (os : Os) (args : Array Value) : laidMetH Tryz.prog Rows.resolveTellsUptoRow.laid ((World.doorLaid Tryz.prog 400 os).forCall (fun _ _ => 0) ⟨#[], args, []⟩).memory :=
 laidMetH_of_parts3 (fuel := 8) (laidMet_of_run' 8 (by kernel_rfl) (by kernel_rfl)) (by kernel_rfl) (by kernel_rfl)
theorem versZ_in {H : Type} {enc : TypeId × Value → H} {w : World} {base : Nat} {spare : Nat → Bool} {held : Bool} {fuel len cap : Nat} {a : Option Addr} {y : DataW H × List MemPlace} (h : DataW.trod enc Tryz.prog w base spare held fuel 24 [.slice a len cap] = some y) :
   ∃ s : Sl aH, Value.slice a len cap = s.val ∧ (ShF aH.row s).holds w (fun b => b < w.heap.size) ∧ (bP aH.ok s.l).holds w (fun b => b < w.heap.size) ∧ (s.l.map zV).sum ≤ Rows.uptoBulk y.1 := by
 obtain ⟨ds, hlen, ho, hR, hz⟩ := iX 12 fuel 24 _ _ (by kernel_rfl) h
 obtain ⟨rows, rfl, _, hrows⟩ := cQ (k := 11) Tryz.underlying24 ho
 obtain ⟨u, _, hu, r, hr⟩ := (rK hlen hR).cons
 obtain rfl := hr.nil
 obtain ⟨rfl, _⟩ := List.cons.inj hu
 obtain ⟨s, h1, h2, h3, h4⟩ := jA (row := aH.row) (ok := fun y : aH => aH.ok y) zV r fun r hr us hu => iu (k := 8) (hrows r hr) hu
 have h5 : szR rows ≤ Rows.uptoBulk y.1 := by simp only [szL, szD] at hz; omega
 exact ⟨s, h1, h2, h3, by omega⟩
theorem par_len (f : bC) : (f.versions.l.flatMap fun d => d.parents.l).length = zI f := by
 unfold zI
 rw [List.length_flatMap]; rfl
theorem contract (H : Type) (enc : TypeId × Value → H) (W : World) (base : Nat) (args : Array Value) (ds gs : List (DataW H)) (before : List MemPlace)
   (hval0 : ∀ (j : Nat) t v, Tryz.f3.params[j]? = some t → args[j]? = some v → Value.okWide Tryz.prog W .any base t v)
   (hW : DataW.Whole enc Tryz.prog Tryz.f3.params.toList Rows.resolveTellsSpec.vars false W args.toList ds gs before) (hb : Rows.uptoBulkAll (ds ++ gs) ≤ 1048576) (hL : laidMetH Tryz.prog Rows.resolveTellsUptoRow.laid W) :
   Calls Tryz.prog 3 args W fun e W' => ∃ v, e = .returned v ∧ Rows.resolveTellsSpec.post enc Tryz.prog Tryz.f3 false true false false W args v W' := by
 have hval : ∀ (j : Nat) t v, Tryz.f3.params[j]? = some t → args[j]? = some v → Value.okWide Tryz.prog W .any base t v := hval0
 have hW' := hW
 obtain ⟨p, q, hA0, hV, rfl, hfz, hnd⟩ := hW
 have hA : DataW.TrodAll enc Tryz.prog W 0 (fun _ => true) true Tryz.f3.params.toList args.toList ds p := hA0
 rw [Tryz.params3] at hA hval
 obtain ⟨v0, vs0, d0, ds0, p0, q0, hargs, rfl, rfl, h0, r0⟩ := trodAll_cons hA
 obtain ⟨v1, vs1, d1, ds1, p1, q1, rfl, rfl, rfl, h1, r1⟩ := trodAll_cons r0
 obtain ⟨v2, vs2, d2, ds2, p2, q2, rfl, rfl, rfl, h2, r2⟩ := trodAll_cons r1
 obtain ⟨v3, vs3, d3, ds3, p3, q3, rfl, rfl, rfl, h3, r3⟩ := trodAll_cons r2
 obtain ⟨v4, vs4, d4, ds4, p4, q4, rfl, rfl, rfl, h4, r4⟩ := trodAll_cons r3
 obtain ⟨rfl, rfl, rfl⟩ := trodAll_nil r4
 obtain rfl : args = #[v0, v1, v2, v3, v4] := by cases args; simp_all
 obtain ⟨rfl, rfl⟩ := trodVars_none hV
 have hlaid := yB hL
 obtain ⟨ad0, len0, cap0, rfl⟩ := okWide_slice Tryz.underlying22 (hval 0 22 v0 rfl rfl)
 have k0 := h0
 have lt0 : ∀ x ∈ p0, x.block < W.heap.size := by obtain ⟨m, hm⟩ := k0; exact DataW.trod_lt m _ _ _ hm
 obtain ⟨a1, rfl, rfl, rfl⟩ := open_bool Tryz.underlying4 (hval 1 4 v1 rfl rfl) h1
 obtain ⟨ad2, len2, cap2, rfl⟩ := okWide_slice Tryz.underlying23 (hval 2 23 v2 rfl rfl)
 have k2 := h2
 have lt2 : ∀ x ∈ p2, x.block < W.heap.size := by obtain ⟨m, hm⟩ := k2; exact DataW.trod_lt m _ _ _ hm
 obtain ⟨ad3, len3, cap3, rfl⟩ := okWide_slice Tryz.underlying24 (hval 3 24 v3 rfl rfl)
 have k3 := h3
 have lt3 : ∀ x ∈ p3, x.block < W.heap.size := by obtain ⟨m, hm⟩ := k3; exact DataW.trod_lt m _ _ _ hm
 obtain ⟨a4, rfl, rfl, rfl, hs4⟩ := open_string Tryz.underlying9 (hval 4 9 v4 rfl rfl) h4
 obtain ⟨x, e0, e1, e2, e3, hok, hZ⟩ : ∃ x : G13, Value.slice ad0 len0 cap0 = x.os.val ∧ a1 = x.lib ∧ Value.slice ad2 len2 cap2 = x.ifs.val ∧ Value.slice ad3 len3 cap3 = x.vs.val ∧ x.ok.holds W (fun b => b < W.heap.size) ∧ yL x := by
   obtain ⟨f0, g0⟩ := h0
   obtain ⟨f2, g2⟩ := h2
   obtain ⟨f3, g3⟩ := h3
   obtain ⟨o, c1, c2, c3⟩ := yC (by simpa [Value.cells] using g0)
   obtain ⟨i, c4, c5, c6, z1, z2⟩ := xP (by simpa [Value.cells] using g2)
   obtain ⟨v, c9, c10, c11, z3⟩ := versZ_in (by simpa [Value.cells] using g3)
   have hb2 : Rows.uptoBulk d2 ≤ 1048576 := Nat.le_trans (iD (by simp)) hb
   have hb3 : Rows.uptoBulk d3 ≤ 1048576 := Nat.le_trans (iD (by simp)) hb
   exact ⟨⟨o, a1, i, v⟩, c1, rfl, c4, c9, ⟨hlaid.1, hlaid.2.1, hlaid.2.2, c2, c3, c5, c6, c10, c11⟩, ⟨by rw [List.length_flatMap]; dsimp only at z3; exact Nat.le_trans z3 (by omega), fun f hf => by rw [par_len]; have := z2 f hf; dsimp only at this; omega⟩⟩
 clear hA0 hval0
 have hc := (uQ x a4 hZ).quiet1 (List.mem_cons_self) (aaa (w := W) (ps := [x.ok]) fun p hp => by
   rw [List.mem_singleton.1 hp]; exact hok)
 rw [← e0, ← e1, ← e2, ← e3] at hc
 refine hc.mono fun e W' ⟨he, bel⟩ => ?_
 subst he
 exact ⟨_, rfl, _, _, _, [], _, [], hW', trodAll_mk1 (shut_bool Tryz.underlying4 _), (trodAll_cons_mk (Below.trod laidOut (by kernel_rfl) (of_decide_eq_true (by kernel_rfl)) k0 bel.kit lt0) (trodAll_cons_mk (shut_bool Tryz.underlying4 _) (trodAll_cons_mk (Below.trod laidOut (by kernel_rfl) (of_decide_eq_true (by kernel_rfl)) k2 bel.kit lt2) (trodAll_cons_mk (Below.trod laidOut (by kernel_rfl) (of_decide_eq_true (by kernel_rfl)) k3 bel.kit lt3) (trodAll_cons_mk (shut_string Tryz.underlying9 hs4) trodAll_mk0))))), rfl, bel.kit.frame _, fun h => by cases h⟩
abbrev wArgs : Array Value := #[.slice none 0 0, .bool false, .slice none 0 0, .slice none 0 0, .string .empty]
theorem reads (os : Os) {H : Type} (enc : TypeId × Value → H) : DataW.whole enc Tryz.prog ((World.doorLaid Tryz.prog 400 os).forCall (fun _ _ => 0) ⟨#[], wArgs, []⟩).memory Tryz.f3.params.toList Rows.resolveTellsSpec.vars false wArgs.toList 12 = some ([.nil, .lit (.bool false), .nil, .nil, .lit (.string [])], [], []) := by kernel_rfl
set_option maxRecDepth 100000 in
theorem lifted (os : Os) (started : os.Started) (H : Type) (enc : TypeId × Value → H) (F : Stop.Interp) :
   ReturnsInHanded {} Tryz.checked os 3 .any ((Rows.OpenSpec.upto Rows.resolveTellsSpec).preRow enc Tryz.prog Tryz.f3 Rows.resolveTellsUptoRow.domain false Rows.resolveTellsUptoRow.laid) (((Rows.OpenSpec.upto Rows.resolveTellsSpec).at F).post enc Tryz.prog Tryz.f3 false true false false) := by
 refine returnsInHanded_of_row (C := Tryz.checked) (s := Rows.OpenSpec.upto Rows.resolveTellsSpec) own started (by kernel_rfl) Tryz.func3
   ⟨World.doorLaid Tryz.prog 400 os, fun _ _ => 0, ⟨#[], wArgs, []⟩, rfl, World.shaped_of_RefB (by kernel_rfl) (by kernel_rfl), rfl, (Input.okWide_of_okWideB (by kernel_rfl)).2,
     OpenSpec.preRow_of_cond 12 (reads os enc) (by kernel_rfl) (fun k hk => by cases hk; kernel_rfl) (by kernel_rfl) (door_met os _), by
       simp only [Assume.holds]
       exact ⟨by simp, by simp, fun h => (by cases h), by simp, by simp⟩⟩ ?_
 intro W base args ds gs before hval hW _ hcond _ hL _ _
 exact contract H enc W base args ds gs before hval hW (of_decide_eq_true (hcond _ rfl)) hL
theorem named : Tryz.prog.funcNamed "linchpin/linchpinlaw13.ResolveTells" = some 3 := by kernel_rfl
set_option maxHeartbeats 4000000 in
theorem closed : joinedFacts Tryz.prog 3 Tryz.f3 (Rows.OpenSpec.upto Rows.resolveTellsSpec).bare Rows.resolveTellsUptoRow = true := by
 unfold joinedFacts
 repeat' with_reducible refine Bool.and_eq_true_iff.2 ⟨?_, ?_⟩
 all_goals (as_aux_lemma => kernel_rfl)
theorem over : Rows.ResolveTellsUptoSaid :=
 OpenClaim.holds_of_cond 3 Tryz.f3 rfl rfl rfl rfl rfl rfl rfl ⟨rfl, rfl, rfl, rfl, rfl⟩ rfl rfl rfl rfl rfl named Tryz.func3 closed
   (of_decide_eq_true (by as_aux_lemma => kernel_rfl)) (by unfold Func.isWrapper; first | (rw [if_pos (by decide +kernel)]; kernel_rfl) | (rw [if_neg (by decide +kernel)]; exact ⟨rfl, rfl⟩))
   (fun os started H enc _ F => by rw [OpenClaim.pre_eq_preRow]; exact lifted os started H enc F)
set_option maxHeartbeats 4000000 in
theorem proved : Rows.ResolveTellsUptoCardSaid :=
 Claim7.holds_tied_plain_at .later [] [.data, .data, .widerDeep] true _ false
   over (fun _ h => by cases h) (by as_aux_lemma => kernel_rfl) (fun _ h => by cases h) resolveTellsUpto_row_tie rfl ⟨rfl, rfl⟩ (by as_aux_lemma => kernel_rfl) rfl
   (fun f fn hf hfn => by
     obtain rfl : f = 3 := Option.some.inj (named.symm.trans hf) |>.symm
     obtain rfl : fn = Tryz.f3 := (Option.some.inj (Tryz.func3.symm.trans hfn)).symm
     exact ⟨by as_aux_lemma => kernel_rfl, fun j t ht => by
       rw [Tryz.params3] at ht
       have hm : t ∈ [22, 4, 23, 24, 9] := by simpa using Array.mem_of_getElem? ht
       have hall : ([22, 4, 23, 24, 9].all fun u => !Tryz.prog.wantsStandIn u) = true := by as_aux_lemma => kernel_rfl
       exact (show Tryz.prog.wantsStandIn t = false by simpa using List.all_eq_true.1 hall t (by simpa using hm))⟩)
   (by as_aux_lemma => kernel_rfl)
end Go.Proofs.YtgmiihmahaahiaaGreatDoor.resolveTells

