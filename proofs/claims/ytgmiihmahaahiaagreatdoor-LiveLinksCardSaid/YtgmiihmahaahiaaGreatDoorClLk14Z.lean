/- Proved: for all recipes and objects the law LiveLinks of the given program answers true and leaves what it was handed as it was; the card, tied to the program's text. Conditions: none but those in the given statement itself. -/
import Derived.Test.YtgmiihmahaahiaaGreatDoorCards
import Derived.Test.YtgmiihmahaahiaaGreatDoorTie
import Derived.Test.YtgmiihmahaahiaaGreatDoorQd10
import Derived.Test.YtgmiihmahaahiaaGreatDoorQd17
import Derived.SevenTiedAt
set_option linter.unusedSimpArgs false
set_option linter.unusedVariables false
set_option maxHeartbeats 1000000
set_option maxRecDepth 20000
namespace Go.Proofs.YtgmiihmahaahiaaGreatDoor.liveLinks
open Go.ChangeShapes Go.WideShapes Go.ChangeAt Go.RowKit
open Go.Lp Go.Sy
open Go.ChangeMaps (open_string shut_string)
theorem of_laid2 {W : World} (h : laidMetH Tryz.prog [("linchpin/digest.turns", Rows.laid_linchpin_digest_turns), ("linchpin/digest.constants", Rows.laid_linchpin_digest_constants)] W) :
   dF.holds W (fun b => b < W.heap.size) ∧ dG.holds W (fun b => b < W.heap.size) := by
 rw [MakeChecks.laidMetH_plain _ _ _ (by kernel_rfl)] at h
 obtain ⟨ps, ⟨g0, t0, cs0, f0, p0, q0, hg0, ht0, hv0, hd0, ⟨g1, t1, cs1, f1, p1, q1, hg1, ht1, hv1, hd1, _, _⟩, _⟩, _, _⟩ := h
 obtain rfl := Option.some.inj (abD.symm.trans hg0)
 obtain rfl := Option.some.inj (abW.symm.trans ht0)
 have hl0 := mU 3 _ _ _ _ (by kernel_rfl) hd0
 have e0 : cs0.toList = kG.map fun z => Value.int .i64 z := Option.some.inj (hl0.symm.trans xc)
 obtain rfl := Option.some.inj (abU.symm.trans hg1)
 obtain rfl := Option.some.inj (abq.symm.trans ht1)
 have hl1 := mU 3 _ _ _ _ (by kernel_rfl) hd1
 have e1 : cs1.toList = eR fZ := Option.some.inj (hl1.symm.trans wT)
 exact ⟨sh (by decide) (fun i => by rw [World.var?_cell hg0 hv0 i, ← e0, Array.getElem?_toList]) xj, sh (by decide) (fun i => by rw [World.var?_cell hg1 hv1 i, ← e1, Array.getElem?_toList]) xJ⟩
theorem recipe_in {H : Type} {enc : TypeId × Value → H} {w : World} {base : Nat} {spare : Nat → Bool} {held : Bool} {fuel : Nat} {cs : Array Value} {y : DataW H × List MemPlace} (h : DataW.trod enc Tryz.prog w base spare held fuel 79 cs.toList = some y) : ∃ r : ff, Value.agg cs = r.val ∧ r.ok.holds w (fun b => b < w.heap.size) := by
 obtain ⟨ds, hlen, ho, hR⟩ := lx 12 fuel 79 _ _ (by kernel_rfl) h
 obtain ⟨r, h1, h2⟩ := vk ho (aam hlen hR)
 refine ⟨r, ?_, h2⟩
 have e : r.vs = cs.toList := y6 h1
 have : cs = r.vs.toArray := by rw [e]
 rw [this]
theorem door_met (os : Os) (args : Array Value) : laidMetH Tryz.prog Rows.liveLinksRow.laid ((World.doorLaid Tryz.prog 400 os).forCall (fun _ _ => 0) ⟨#[], args, []⟩).memory :=
 laidMetH_of_parts3 (fuel := 8) (laidMet_of_run' 8 (by kernel_rfl) (by kernel_rfl)) (by kernel_rfl) (by kernel_rfl)
set_option maxRecDepth 100000 in
theorem lifted (os : Os) (started : os.Started) (H : Type) (enc : TypeId × Value → H) :
   ReturnsInHanded {} Tryz.checked os 9 .any (fun w args => (Rows.liveLinksSpec.pre enc Tryz.prog Tryz.f9 [] false w args ∧ laidMetH Tryz.prog Rows.liveLinksRow.laid w) ∧ sizedMet enc Tryz.prog Tryz.f9 (OpenSpec.ofChange Rows.liveLinksSpec) false w args)
     (Rows.liveLinksSpec.post enc Tryz.prog Tryz.f9 false true false false) := by
 refine returnsInHanded_of_change_and (C := Tryz.checked) (X := fun w _ => laidMetH Tryz.prog Rows.liveLinksRow.laid w) (fun _ _ _ hh h => h.of_heap hh) own started (by kernel_rfl) Tryz.func9
   (ChangeSpec.witness_shaped (enc := enc) (C := Tryz.checked) (os := os) (X := fun w _ => laidMetH Tryz.prog Rows.liveLinksRow.laid w) false (World.doorLaid Tryz.prog 400 os) #[.agg #[.string .empty, .bool false, .slice none 0 0, .slice none 0 0, .string .empty, .int .i64 0, .slice none 0 0], .slice none 0 0] 12 rfl (World.shaped_of_RefB (by kernel_rfl) (by kernel_rfl)) (by kernel_rfl) (by kernel_rfl) (by kernel_rfl) (door_met os _)) ?_
 intro W base args ds gs before hval0 hW _ _ hL _
 have hval : ∀ (j : Nat) t v, Tryz.f9.params[j]? = some t → args[j]? = some v → Value.okWide Tryz.prog W .any base t v := hval0
 have hW' := hW
 obtain ⟨p, q, hA0, hV, rfl, hfz, hnd⟩ := hW
 have hA : DataW.TrodAll enc Tryz.prog W 0 (fun _ => true) true Tryz.f9.params.toList args.toList ds p := hA0
 rw [Tryz.params9] at hA hval
 obtain ⟨v0, vs0, d0, ds0, p0, q0, hargs, rfl, rfl, h0, r0⟩ := trodAll_cons hA
 obtain ⟨v1, vs1, d1, ds1, p1, q1, rfl, rfl, rfl, h1, r1⟩ := trodAll_cons r0
 obtain ⟨rfl, rfl, rfl⟩ := trodAll_nil r1
 obtain rfl : args = #[v0, v1] := by cases args; simp_all
 obtain ⟨rfl, rfl⟩ := trodVars_none hV
 have hlaid := of_laid2 hL
 obtain ⟨cs0, rfl, hsz0⟩ := okWide_struct Tryz.underlying79 (hval 0 79 v0 rfl rfl)
 obtain ⟨a1, l1, c1, rfl⟩ := okWide_slice Tryz.underlying22 (hval 1 22 v1 rfl rfl)
 have k0 := h0; have k1 := h1
 have lt0 : ∀ x ∈ p0, x.block < W.heap.size := by obtain ⟨m, hm⟩ := k0; exact DataW.trod_lt m _ _ _ hm
 have lt1 : ∀ x ∈ p1, x.block < W.heap.size := by obtain ⟨m, hm⟩ := k1; exact DataW.trod_lt m _ _ _ hm
 obtain ⟨x, e0, e1, hok⟩ : ∃ x : L14, Value.agg cs0 = x.r.val ∧ Value.slice a1 l1 c1 = x.os.val ∧ x.ok.holds W (fun b => b < W.heap.size) := by
   obtain ⟨f0, g0⟩ := h0
   obtain ⟨f1, g1⟩ := h1
   obtain ⟨r, e0, k0⟩ := recipe_in (by simpa [Value.cells] using g0)
   obtain ⟨o, e1, k1, m1⟩ := aaH (by simpa [Value.cells] using g1)
   exact ⟨⟨r, o⟩, e0, e1, hlaid.1, hlaid.2, k0, k1, m1⟩
 clear hA0 hval0
 have hc := (xV x).quiet1 (List.mem_singleton.2 rfl) (acm (w := W) (ps := [x.ok]) fun p hp => by rw [List.mem_singleton.1 hp]; exact hok)
 rw [← e0, ← e1] at hc
 refine hc.mono fun e W' ⟨he, bel⟩ => ?_
 subst he
 exact ⟨_, rfl, _, _, _, [], _, [], hW', trodAll_mk1 (shut_bool Tryz.underlying4 _), (trodAll_cons_mk (Below.trod laidOut (by kernel_rfl) (of_decide_eq_true (by kernel_rfl)) k0 bel.kit lt0) (trodAll_cons_mk (Below.trod laidOut (by kernel_rfl) (of_decide_eq_true (by kernel_rfl)) k1 bel.kit lt1) trodAll_mk0)), rfl, bel.kit.frame _, fun h => by cases h⟩
theorem named : Tryz.prog.funcNamed "linchpin/linchpinlaw14.LiveLinks" = some 9 := by kernel_rfl
set_option maxHeartbeats 4000000 in
theorem closed : joinedFacts Tryz.prog 9 Tryz.f9 Rows.liveLinksSpec Rows.liveLinksRow = true := by
 unfold joinedFacts
 repeat' with_reducible refine Bool.and_eq_true_iff.2 ⟨?_, ?_⟩
 all_goals (as_aux_lemma => kernel_rfl)
theorem over : Rows.LiveLinksSaid :=
 OpenClaim.holds_of_wide 9 Tryz.f9 rfl rfl rfl rfl rfl rfl rfl ⟨rfl, rfl, rfl, rfl, rfl⟩ rfl rfl rfl rfl rfl named Tryz.func9 closed
   (of_decide_eq_true (by as_aux_lemma => kernel_rfl)) (by unfold Func.isWrapper; first | (rw [if_pos (by decide +kernel)]; kernel_rfl) | (rw [if_neg (by decide +kernel)]; exact ⟨rfl, rfl⟩))
   (fun os started H enc _ => lifted os started H enc)
set_option maxHeartbeats 4000000 in
theorem proved : Rows.LiveLinksCardSaid :=
 Claim7.holds_tied_plain_at .later [] [.data, .data] true _ false
   over (fun _ h => by cases h) (by as_aux_lemma => kernel_rfl) (fun _ h => by cases h) liveLinks_row_tie rfl ⟨rfl, rfl⟩ (by as_aux_lemma => kernel_rfl) rfl
   (fun f fn hf hfn => by
     obtain rfl : f = 9 := Option.some.inj (named.symm.trans hf) |>.symm
     obtain rfl : fn = Tryz.f9 := (Option.some.inj (Tryz.func9.symm.trans hfn)).symm
     exact ⟨by as_aux_lemma => kernel_rfl, fun j t ht => by
       rw [Tryz.params9] at ht
       have hm : t ∈ [79, 22] := by simpa using Array.mem_of_getElem? ht
       have hall : ([79, 22].all fun u => !Tryz.prog.wantsStandIn u) = true := by as_aux_lemma => kernel_rfl
       exact (show Tryz.prog.wantsStandIn t = false by simpa using List.all_eq_true.1 hall t (by simpa using hm))⟩)
   (by as_aux_lemma => kernel_rfl)
end Go.Proofs.YtgmiihmahaahiaaGreatDoor.liveLinks

