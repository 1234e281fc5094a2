/- Proved: for all images and strings of bulk at most 1048576 the law ImageBack of the given program answers true and leaves what it was handed as it was; the second form. Conditions: none but those in the given statement itself. -/
import Derived.Test.YtahgkiicjohonaaGreatXa28
import Derived.Test.YtahgkiicjohonaaGreatXa05
import Derived.Test.YtahgkiicjohonaaGreatXa09
import Derived.Test.YtahgkiicjohonaaGreatRows
import Derived.Test.YtahgkiicjohonaaGreatXa07
import Derived.Test.YtahgkiicjohonaaGreatXa23
import Derived.WalkKit
import Derived.ProofKit
import Derived.OpenShut
import Derived.ShutString
import Derived.ChangeOld
import Derived.Below
import Derived.LaidMore
import Derived.Stop.Joined
import Derived.Deep.DeepHandedRow
set_option linter.unusedSimpArgs false
set_option linter.unusedVariables false
set_option maxHeartbeats 1000000
set_option maxRecDepth 20000
namespace Go.Proofs.YtahgkiicjohonaaGreat
open Go.RowKit Go.Lp Go.Sy Go.Lv
open Go.Proofs.Tryz
attribute [local irreducible] aL aB awp aC fwp Quiet
theorem kazq (x y : ax) (hx : cI x) (hy : cI y) (hlx : (ba.enc (aV x)).length ≤ 1000000000) (hly : (ba.enc (aV y)).length ≤ 1000000000) : Con Tryz.prog 11 [x.val, y.val] [x.ok, y.ok] [] fun r ps hp => ps = [] ∧ hp = [] ∧ r = .bool (decide (bytesOf (ba.enc (aV x)) = bytesOf (ba.enc (aV y)))) := by
 refine EN2 Tryz.func11 rfl (aSR (LT rfl (cx rfl rfl rfl (fun b0_0 => (aHN ?_)))))
 refine LT rfl (cx rfl rfl rfl (fun b0_1 => (aHN ?_)))
 refine aA rfl (aNs (DR [] 6 (VL 0 0 tk39 rfl rfl rfl rfl rfl (bV 1 rfl rfl (Q1 rfl ((jx x hx hlx).post (fun _ _ _ h => h.2.2)) 0 rfl) (VL 2 1 tk39 rfl rfl rfl rfl rfl (bV 3 rfl rfl (Q1 rfl ((jx y hy hly).post (fun _ _ _ h => h.2.2)) 1 rfl) (bV 4 rfl rfl (iY rfl rfl) (bV 5 rfl rfl (bw rfl) (BN (an (az (FZ1 [] Tryz.results11 rfl ?_))))))))))))
 exact ⟨rfl, rfl, rfl⟩
theorem abNzq {ps : List Per} : Ent ps (default : ax).ok :=
 Ent.mk2 (Ent.str (Nat.le_of_ble_eq_true rfl)) (Ent.mk2 (Ent.str (Nat.le_of_ble_eq_true rfl)) (Ent.mk2 (Ent.str (Nat.le_of_ble_eq_true rfl)) (Ent.mk2 .nl (Ent.mk2 .a0 (Ent.mk2 .nl (Ent.mk2 .a0 (Ent.mk2 .nl (Ent.mk2 .a0 (Ent.mk2 .nl (Ent.mk2 .nl (Ent.mk2 .nl (Ent.mk2 .nl (Ent.mk2 .nl (Ent.mk2 .nl (Ent.mk2 .a0 (Ent.mk2 .nl (Ent.mk2 .a0 (Ent.mk2 (Ent.mk2 .nl (Ent.mk2 .a0 (Ent.mk2 .nl (Ent.mk2 .a0 (Ent.mk2 .nl (Ent.mk2 .nl (Ent.mk2 .a0 (Ent.mk2 .nl (Ent.mk2 .a0 .nl))))))))) (Ent.mk2 .nl .a0)))))))))))))))))))
theorem oVzq : cI (default : ax) := by
 refine ⟨?_, ?_, ?_, ?_, ?_, ?_, ?_, ?_, ?_, ?_, ?_, ?_, ?_, ⟨?_, ?_, ?_, ?_, ?_, ?_⟩, ?_⟩
 iterate 5 (first | (show Go.Lv.I64 0; decide))
 all_goals (intro y hy; cases hy)
theorem oSzq : (ba.enc (aV (default : ax))).length ≤ 1000000000 := Nat.le_of_ble_eq_true (by kernel_rfl)
theorem zQzq {x y : ax} {r tl : List UInt8} {b : Bool} (h : cI x) (hl : (ba.enc (aV x)).length ≤ 1000000000) (hr : ba.one (.R (ba.enc (aV x) ++ tl) false) ba.zero = (.R r b, aV y)) :
   ∃ z : ax, (z = y ∨ z = default) ∧ (tl ≠ [] → z = default) ∧ (if ((!(!b && r.isEmpty)) || !decide (bytesOf (ba.enc (aV y)) = bytesOf (ba.enc (aV x) ++ tl))) = true then Value.tuple #[(default : ax).val, .bool false] else .tuple #[y.val, .bool true]) = .tuple #[z.val, .bool tl.isEmpty] := by
 obtain ⟨rfl, rfl, hpu⟩ := nk h hl hr
 cases r with
 | nil => exact ⟨y, .inl rfl, fun h => absurd rfl h, by rw [List.append_nil, hpu, if_neg (by simp)]; rfl⟩
 | cons c l => exact ⟨default, .inr rfl, fun _ => rfl, by rw [if_pos (by simp)]; rfl⟩
theorem yDzq {x y : ax} {r : List UInt8} {b : Bool} (h : cI x) (hl : (ba.enc (aV x)).length ≤ 20000) (hr : ba.one (.R ((ba.enc (aV x)).take ((ba.enc (aV x)).length - 1)) false) ba.zero = (.R r b, aV y)) :
   ((!(!b && r.isEmpty)) || !decide (bytesOf (ba.enc (aV y)) = bytesOf ((ba.enc (aV x)).take ((ba.enc (aV x)).length - 1)))) = true := by
 have hne : bytesOf (ba.enc (aV y)) ≠ bytesOf ((ba.enc (aV x)).take ((ba.enc (aV x)).length - 1)) := fun he => by
   have he2 : ba.enc (aV y) = (ba.enc (aV x)).take ((ba.enc (aV x)).length - 1) := congrArg gq he
   have hw := jt (by rw [List.length_take]; omega) hr
   have hpos := ba.pos (aV x)
   have ha : ba.enc (aV y) ++ (ba.enc (aV x)).drop ((ba.enc (aV x)).length - 1) = ba.enc (aV x) ++ [] := by
     rw [he2, List.take_append_drop, List.append_nil]
   have hd := (ba.inj (pd hw.1 hw.2) (pd h (by omega)) ha).2
   have := congrArg List.length hd
   rw [List.length_drop] at this
   simp at this; omega
 rw [decide_eq_false hne]; simp
theorem wezq (x : ax) (hW : cI x) (hl : (ba.enc (aV x)).length ≤ 1000000000) (tl : List UInt8) : Con Tryz.prog 3 [x.val, .string (bytesOf tl)] [x.ok] [] fun r _ _ => r = .bool true := by
 have hpos := ba.pos (aV x)
 refine EN2 Tryz.func3 rfl (aSR (LT rfl (cx rfl rfl rfl (fun b0_0 => (aHN ?_)))))
 refine aA rfl (aNn (aSR (aU rfl (Q0 rfl nT) (aA rfl (aNs (aSR (UL 0 tk39 rfl rfl rfl rfl ?_)))))))
 refine eT (caps := []) [0] (false) (by kernel_rfl) true rfl rfl (fun _ => rfl) (fun hc => rfl) (fun hc => by rw [List.append_nil]; exact rW x hW hl) (fun bf hbf => ?_)
 refine aU rfl (dp rfl) (aM rfl (aG rfl rfl (fun hc => aP rfl) (aG rfl rfl (fun hc => cj Tryz.underlying9 (ae rfl hc)) (aG rfl rfl (fun hc => cJ (ae rfl hc) rfl) (aU rfl (cK rfl rfl (fun h => gf rfl h)) (aNn ?_))))))
 refine ao _ rfl (fun h1 => ?_) (fun h1 => ?_)
 ·skip
  refine aSR (aM rfl (aA rfl (aNn (az (bu (FZ1 [] Tryz.results3 rfl ?_))))))
  rfl
 ·skip
  rw [Bool.or_eq_false_iff, Bool.not_eq_false', decide_eq_false_iff_not] at h1
  have hL := hbf rfl h1.1
  have esz : (bytesOf (ba.enc (aV x))).size = (ba.enc (aV x)).length := rfl
  have htl : tl.length ≤ 100 := by have := h1.2; have e : (bytesOf tl).size = tl.length := rfl; omega
  refine ar (an (aSR (UL 0 tk39 rfl rfl rfl rfl (aU rfl (Q1 rfl ((gP x hW hl).post (fun _ _ _ h => h.2.2)) 0 rfl) (aA rfl (aNn (aSR (aM rfl (LT rfl (EC [] [] rfl (iB (ba.enc (aV x)) (by omega)) ?_))))))))))
  rintro _ _ _ ⟨rfl, x2, r2, b2, hone, rfl, rfl⟩
  refine aST ?_
  obtain ⟨rfl, rfl, hpu⟩ := nk (t := []) hW (by omega) (by rw [List.append_nil]; exact hone)
  have hW2 := (jt (by omega) hone)
  rw [if_neg (by rw [hpu]; simp)]
  refine aM rfl (aU rfl (bP rfl rfl) (aU rfl (bP rfl rfl) (LT rfl (bI (zs := ZI) (by kernel_rfl) rfl (fun b5_5 => (aHN ?_))))))
  refine aT rfl (bg 1 tk39 rfl rfl rfl rfl (aHK ?_))
  refine aA rfl (aNs (aSR (aM rfl (aU rfl (dp rfl) (aM rfl (aG rfl rfl (fun hc => bC 1 tk39 rfl rfl rfl) (aG rfl rfl (fun hc => bC 0 tk39 rfl rfl rfl) (aG rfl rfl (fun hc => QC (aJ (ae rfl hc) (aJ (ae rfl hc) rfl)) (fun w S fp hst => ((kazq x2 x hW2.1 hW hW2.2 hl).post (fun _ _ _ h => h.2.2)).quiet2 (aD 0 rfl) (aD 1 rfl) hst)) ?_))))))))
  refine aG rfl rfl (fun hc => dp (ae rfl hc)) (aU rfl (cK rfl rfl (fun h => gf rfl h)) (aM rfl (aG rfl rfl (fun hc => aP rfl) (aG rfl rfl (fun hc => cj Tryz.underlying9 (ae rfl hc)) (aG rfl rfl (fun hc => ck (ae rfl hc) rfl) (aU rfl (cK rfl rfl (fun h => gf rfl h)) (aNn ?_)))))))
  refine ao _ rfl (fun h2 => ?_) (fun h2 => ?_)
  ·skip
   exfalso
   rw [hpu, decide_eq_true (p := bytesOf (ba.enc (aV x)) = bytesOf (ba.enc (aV x))) rfl] at h2
   have h0 : ¬ ((bytesOf (ba.enc (aV x))).size : Int) = 0 := by rw [esz]; omega
   rw [decide_eq_false h0] at h2
   simp at h2
  ·skip
   refine ar (an (aSR (aM rfl (aM rfl (aU rfl (eZ rfl rfl (by omega)) ?_)))))
   refine LT rfl (EC [] [] rfl (iB (ba.enc (aV x) ++ tl) (by rw [List.length_append]; omega)) ?_)
   rintro _ _ _ ⟨rfl, x3, r3, b3, hone3, rfl, rfl⟩
   refine aST ?_
   obtain ⟨z3, hz3, hzd, hv3⟩ := zQzq hW hl hone3
   have hW3 := (jt (by rw [List.length_append]; omega) hone3)
   have hWz : cI z3 ∧ (ba.enc (aV z3)).length ≤ 1000000000 := by rcases hz3 with rfl | rfl; exact hW3; exact ⟨oVzq, oSzq⟩
   rw [hv3]
   refine aM rfl (aU rfl (bP rfl rfl) (aU rfl (bP rfl rfl) (LT rfl (bI (zs := ZI) (by kernel_rfl) rfl (fun b8_7 => (aHN ?_))))))
   refine aT rfl (bg 2 tk39 rfl rfl rfl rfl (aHK ?_))
   refine aA rfl (aNn (aSR (aM rfl (aM rfl (aU rfl (cj Tryz.underlying9 rfl) (aU rfl (cU rfl rfl (by omega)) ?_))))))
   refine aU rfl ((oT Tryz.underlying9 rfl rfl (by show (0 : Int) ≤ ((ba.enc (aV x)).length : Int) - 1; omega) (by show ((ba.enc (aV x)).length : Int) - 1 ≤ ((ba.enc (aV x)).length : Int); omega)).castV (v' := .string (bytesOf ((ba.enc (aV x)).take ((ba.enc (aV x)).length - 1)))) (congrArg Value.string (jS _ (by show ((ba.enc (aV x)).length : Int) - 1 = _; omega)))) ?_
   refine LT rfl (EC [] [] rfl (iB ((ba.enc (aV x)).take ((ba.enc (aV x)).length - 1)) (by rw [List.length_take]; omega)) ?_)
   rintro _ _ _ ⟨rfl, x4, r4, b4, hone4, rfl, rfl⟩
   refine aST ?_
   rw [if_pos (yDzq hW hL hone4)]
   refine aM rfl (aU rfl (bP rfl rfl) (aU rfl (bP rfl rfl) (LT rfl (bI (zs := ZI) (by kernel_rfl) rfl (fun b9_9 => (aHN ?_))))))
   refine aT rfl (bg 3 tk39 rfl rfl rfl rfl (aHK ?_))
   refine aA rfl (aNs (aj ?_))
   refine aY z3.ok (by rcases hz3 with rfl | rfl; exact .of (aD 1 rfl); exact abNzq) (aY (default : ax).ok abNzq ?_)
   refine aa (aM rfl (aM rfl (aU rfl (iY rfl rfl) (aU rfl (acb (by kernel_rfl) rfl rfl) (aM rfl (aG rfl rfl (fun hc => aP rfl) (aU rfl (cK rfl rfl (fun h => gf rfl h)) (aM rfl (aG rfl rfl (fun hc => bC 3 tk39 rfl rfl rfl) (aG rfl rfl (fun hc => fZ (l := []) (zs := ZI) (pl := [(0, 1), (1, 1), (2, 1), (3, 1), (4, 1), (5, 1), (6, 1), (7, 1), (8, 1), (9, 1), (10, 1), (11, 1), (12, 1), (13, 1), (14, 1), (15, 1), (16, 1), (17, 1), (18, 1), (19, 6), (25, 1)]) (by kernel_rfl) (by kernel_rfl) (by kernel_rfl) rfl rfl rfl) (aG rfl rfl (fun hc => QC (aJ (ae rfl hc) (aJ (ae rfl hc) rfl)) (fun w S fp hst => ((kazq default default oVzq oVzq oSzq oSzq).post (fun _ _ _ h => h.2.2)).quiet2 (aD 0 rfl) (aD 0 rfl) hst)) (aG rfl rfl (fun hc => dp (ae rfl hc)) (aU rfl (cK rfl rfl (fun h => gf rfl h)) (aNn ?_))))))))))))))
   refine ao _ rfl (fun h3 => ?_) (fun h3 => ?_)
   ·skip
    exfalso
    have e : decide (bytesOf tl = ⟨#[]⟩) = tl.isEmpty := lI tl
    rw [decide_eq_true (p := bytesOf (ba.enc (aV (default : ax))) = bytesOf (ba.enc (aV (default : ax)))) rfl, e] at h3
    simp at h3
   ·skip
    refine ar (an (aSR (aM rfl (aM rfl (aG rfl rfl (fun hc => aP rfl) (aG rfl rfl (fun hc => aP (ae rfl hc)) (aG rfl rfl (fun hc => bC 2 tk39 rfl rfl rfl) (aG rfl rfl (fun hc => fZ (l := []) (zs := ZI) (pl := [(0, 1), (1, 1), (2, 1), (3, 1), (4, 1), (5, 1), (6, 1), (7, 1), (8, 1), (9, 1), (10, 1), (11, 1), (12, 1), (13, 1), (14, 1), (15, 1), (16, 1), (17, 1), (18, 1), (19, 6), (25, 1)]) (by kernel_rfl) (by kernel_rfl) (by kernel_rfl) rfl rfl rfl) (aG rfl rfl (fun hc => QC (aJ (ae rfl hc) (aJ (ae rfl hc) rfl)) (fun w S fp hst => ((kazq z3 default hWz.1 oVzq hWz.2 oSzq).post (fun _ _ _ h => h.2.2)).quiet2 (aD 1 rfl) (aD 0 rfl) hst)) (aG rfl rfl (fun hc => cK (ae rfl hc) rfl (fun h => gf hc h)) (aU rfl (bp rfl rfl (fun h => gt rfl h)) (aA rfl (aNn (az (FZ1 [] Tryz.results3 rfl ?_)))))))))))))))
    cases htl0 : tl with
    | nil => rfl
    | cons c l =>
      rw [hzd (by rw [htl0]; simp), decide_eq_true (p := bytesOf (ba.enc (aV (default : ax))) = bytesOf (ba.enc (aV (default : ax)))) rfl]; rfl
end Go.Proofs.YtahgkiicjohonaaGreat

namespace Go.Proofs.YtahgkiicjohonaaGreat.imageBack
open Go.ChangeShapes Go.WideShapes Go.ChangeAt Go.RowKit
open Go.Lp Go.Sy Go.Lv
open Go.ChangeMaps (open_string shut_string)
theorem own : ownKnob Tryz.prog.godebug = none := by kernel_rfl
theorem laidOut : laidOutB Tryz.prog = true := by kernel_rfl
theorem laidMetH_nil (w : World) : laidMetH Tryz.prog [] w := ⟨[], rfl, List.nodup_nil, fun _ _ h => by cases h⟩
theorem image_in {H : Type} {enc : TypeId × Value → H} {w : World} {base : Nat} {spare : Nat → Bool} {held : Bool} {fuel : Nat} {cs : Array Value} {y : DataW H × List MemPlace} (h : DataW.trod enc Tryz.prog w base spare held fuel 39 cs.toList = some y) (hb : Rows.uptoBulk y.1 ≤ 1048576) :
   ∃ m : ax, Value.agg cs = m.val ∧ m.ok.holds w (fun b => b < w.heap.size) ∧ cI m ∧ (ba.enc (aV m)).length ≤ 1000000000 := by
 obtain ⟨ds, hlen, ho, hR, hz⟩ := lz 12 fuel 39 _ _ (by kernel_rfl) h
 exact uw (k := 6) w _ ds cs.toList (fun us n => n ≤ 10 * 1048576 → ∃ m : ax, Value.agg us.toArray = m.val ∧ m.ok.holds w (fun b => b < w.heap.size) ∧ cI m ∧ (ba.enc (aV m)).length ≤ 1000000000) ho (ach hlen hR)
   (fun m n a b c hn => ⟨m, rfl, a, b, by omega⟩) (by omega)
theorem contract (H : Type) (enc : TypeId × Value → H) (W : World) (base : Nat) (args : Array Value) (ds gs : List (DataW H)) (before : List MemPlace)
   (hval0 : ∀ (j : Nat) t v, Tryz.f3.params[j]? = some t → args[j]? = some v → Value.okWide Tryz.prog W .any base t v)
   (hW : DataW.Whole enc Tryz.prog Tryz.f3.params.toList Rows.imageBackSpec.vars false W args.toList ds gs before) (hb : Rows.uptoBulkAll (ds ++ gs) ≤ 1048576) :
   Calls Tryz.prog 3 args W fun e W' => ∃ v, e = .returned v ∧ Rows.imageBackSpec.post enc Tryz.prog Tryz.f3 false true false false W args v W' := by
 have hval : ∀ (j : Nat) t v, Tryz.f3.params[j]? = some t → args[j]? = some v → Value.okWide Tryz.prog W .any base t v := hval0
 have hW' := hW
 obtain ⟨p, q, hA0, hV, rfl, hfz, hnd⟩ := hW
 have hA : DataW.TrodAll enc Tryz.prog W 0 (fun _ => true) true Tryz.f3.params.toList args.toList ds p := hA0
 rw [Tryz.params3] at hA hval
 obtain ⟨v0, vs0, d0, ds0, p0, q0, hargs, rfl, rfl, h0, r0⟩ := trodAll_cons hA
 obtain ⟨v1, vs1, d1, ds1, p1, q1, rfl, rfl, rfl, h1, r1⟩ := trodAll_cons r0
 obtain ⟨rfl, rfl, rfl⟩ := trodAll_nil r1
 obtain rfl : args = #[v0, v1] := by cases args; simp_all
 obtain ⟨rfl, rfl⟩ := trodVars_none hV
 obtain ⟨a1, rfl, rfl, rfl, hz1⟩ := open_string Tryz.underlying9 (hval 1 9 v1 rfl rfl) h1
 obtain ⟨cs0, rfl, hsz0⟩ := okWide_struct Tryz.underlying39 (hval 0 39 v0 rfl rfl)
 have k0 := h0
 have lt0 : ∀ x ∈ p0, x.block < W.heap.size := by obtain ⟨m, hm⟩ := k0; exact DataW.trod_lt m _ _ _ hm
 obtain ⟨x, e0, hok, hWx, hl⟩ : ∃ x : ax, Value.agg cs0 = x.val ∧ x.ok.holds W (fun b => b < W.heap.size) ∧ cI x ∧ (ba.enc (aV x)).length ≤ 1000000000 := by
   obtain ⟨f0, g0⟩ := h0
   have hb0 : Rows.uptoBulk d0 ≤ 1048576 := Nat.le_trans (kE (by simp)) hb
   exact image_in (by simpa [Value.cells] using g0) hb0
 clear hA0 hval0
 have hc := (wezq x hWx hl (gq a1)).quiet1 (List.mem_cons_self) (ado (w := W) (ps := [x.ok]) fun p hp => by
   rw [List.mem_singleton.1 hp]; exact hok)
 rw [← e0] at hc
 refine hc.mono fun e W' ⟨he, bel⟩ => ?_
 subst he
 exact ⟨_, rfl, _, _, _, [], _, [], hW', trodAll_mk1 (shut_bool Tryz.underlying4 _), (trodAll_cons_mk (Below.trod laidOut (by kernel_rfl) (of_decide_eq_true (by kernel_rfl)) k0 bel.kit lt0) (trodAll_cons_mk (shut_string Tryz.underlying9 hz1) trodAll_mk0)), rfl, bel.kit.frame _, fun h => by cases h⟩
abbrev wArgs : Array Value := #[.agg #[.string .empty, .bool false, .int .i64 0, .int .i64 0, .int .i64 0, .string .empty, .string .empty, .int .i64 0, .slice none 0 0, .slice none 0 0, .slice none 0 0, .slice none 0 0, .slice none 0 0, .slice none 0 0, .slice none 0 0, .slice none 0 0, .int .i64 0, .slice none 0 0, .slice none 0 0, .slice none 0 0, .slice none 0 0, .slice none 0 0, .slice none 0 0, .slice none 0 0, .slice none 0 0, .slice none 0 0], .string .empty]
theorem reads (os : Os) {H : Type} (enc : TypeId × Value → H) : DataW.whole enc Tryz.prog ((World.doorLaid Tryz.prog 400 os).forCall (fun _ _ => 0) ⟨#[], wArgs, []⟩).memory Tryz.f3.params.toList Rows.imageBackSpec.vars false wArgs.toList 12 = some ([.agg [.lit (.string []), .lit (.bool false), .lit (.int .i64 0), .lit (.int .i64 0), .lit (.int .i64 0), .lit (.string []), .lit (.string []), .lit (.int .i64 0), .nil, .nil, .nil, .nil, .nil, .nil, .nil, .nil, .lit (.int .i64 0), .nil, .nil, .agg [.nil, .nil, .nil, .nil, .nil, .nil], .nil], .lit (.string [])], [], []) := by kernel_rfl
set_option maxRecDepth 100000 in
theorem lifted (os : Os) (started : os.Started) (H : Type) (enc : TypeId × Value → H) (F : Stop.Interp) :
   ReturnsInHanded {} Tryz.checked os 3 .any ((Rows.OpenSpec.upto Rows.imageBackSpec).preRow enc Tryz.prog Tryz.f3 Rows.imageBackUptoRow.domain false Rows.imageBackUptoRow.laid) (((Rows.OpenSpec.upto Rows.imageBackSpec).at F).post enc Tryz.prog Tryz.f3 false true false false) := by
 refine returnsInHanded_of_row (C := Tryz.checked) (s := Rows.OpenSpec.upto Rows.imageBackSpec) own started (by kernel_rfl) Tryz.func3
   ⟨World.doorLaid Tryz.prog 400 os, fun _ _ => 0, ⟨#[], wArgs, []⟩, rfl, World.shaped_of_RefB (by kernel_rfl) (by kernel_rfl), rfl, (Input.okWide_of_okWideB (by kernel_rfl)).2,
     OpenSpec.preRow_of_cond 12 (reads os enc) (by kernel_rfl) (fun k hk => by cases hk; kernel_rfl) (by kernel_rfl) (laidMetH_nil _), by
       simp only [Assume.holds]
       exact ⟨by simp, by simp, fun h => (by cases h), by simp, by simp⟩⟩ ?_
 intro W base args ds gs before hval hW _ hcond _ hL _ _
 exact contract H enc W base args ds gs before hval hW (of_decide_eq_true (hcond _ rfl))
theorem named : Tryz.prog.funcNamed "linchpin/linchpinlaw20.ImageBack" = some 3 := by kernel_rfl
set_option maxHeartbeats 4000000 in
theorem closed : joinedFacts Tryz.prog 3 Tryz.f3 (Rows.OpenSpec.upto Rows.imageBackSpec).bare Rows.imageBackUptoRow = true := by
 unfold joinedFacts
 repeat' with_reducible refine Bool.and_eq_true_iff.2 ⟨?_, ?_⟩
 all_goals (as_aux_lemma => kernel_rfl)
theorem proved : Rows.ImageBackUptoSaid :=
 OpenClaim.holds_of_cond 3 Tryz.f3 rfl rfl rfl rfl rfl rfl rfl ⟨rfl, rfl, rfl, rfl, rfl⟩ rfl rfl rfl rfl rfl named Tryz.func3 closed
   (of_decide_eq_true (by as_aux_lemma => kernel_rfl)) (by unfold Func.isWrapper; first | (rw [if_pos (by decide +kernel)]; kernel_rfl) | (rw [if_neg (by decide +kernel)]; exact ⟨rfl, rfl⟩))
   (fun os started H enc _ F => by rw [OpenClaim.pre_eq_preRow]; exact lifted os started H enc F)
end Go.Proofs.YtahgkiicjohonaaGreat.imageBack

