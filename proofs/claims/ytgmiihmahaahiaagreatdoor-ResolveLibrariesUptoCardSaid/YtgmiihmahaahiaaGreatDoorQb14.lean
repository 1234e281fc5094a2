/- Parts of the proof, in build order. No condition. -/
import Derived.Test.YtgmiihmahaahiaaGreatDoorQb02
import Derived.OpenShut
import Derived.Test.YtgmiihmahaahiaaGreatDoorRows
import Derived.Test.YtgmiihmahaahiaaGreatDoorQb04
import Derived.Test.YtgmiihmahaahiaaGreatDoorQb13
import Derived.WalkKit
import Derived.ProofKit
import Derived.ShutString
import Derived.ChangeOld
import Derived.Below
import Derived.LaidMore
import Derived.Stop.Joined
import Derived.Test.YtgmiihmahaahiaaGreatDoorQb03
set_option linter.unusedSimpArgs false
set_option linter.unusedVariables false
set_option maxHeartbeats 1000000
set_option maxRecDepth 20000
namespace Go.Sy
open Go.RowKit
mutual
/-- the cells of a datum of bools, integers, strings, arrays and structs -/
def gk {H : Type} : DataW H → Option (List Value)
 | .lit (.string bs) => some [.string ⟨bs.toArray⟩]
 | .lit (.int k n) => some [.int k n]
 | .lit (.bool b) => some [.bool b]
 | .agg ps => litAll ps
 | _ => none
def litAll {H : Type} : List (DataW H) → Option (List Value)
 | [] => some []
 | d :: ds => match gk d, litAll ds with
   | some a, some b => some (a ++ b)
   | _, _ => none
end
section
variable (P : Program)
def rdA : Nat → TypeId → Bool
 | 0, _ => false
 | k + 1, t => match P.underlying t with
   | some .bool => true
   | some (.int _) => true
   | some .string => true
   | some (.array n e) => decide (P.cellsOf t = n * P.cellsOf e) && rdA k e
   | some (.struct fs) => gS P 0 fs.toList (P.cellsOf t) && fs.toList.all (fun f => rdA k f.type)
   | _ => false
end
variable {P : Program} {H : Type} {enc : TypeId × Value → H} {w : World} {base : Nat} {spare : Nat → Bool} {held : Bool}
theorem mW {cs : List Value} {c : Nat} {F : Nat → Option (DataW H × List MemPlace)} (ih : ∀ i x, F i = some x → gk x.1 = some ((cs.drop (i * c)).take c)) :
   ∀ (n o : Nat) (xs : List (DataW H × List MemPlace)), xs.length = n → (∀ i, i < n → F (o + i) = xs[i]?) → (o + n) * c ≤ cs.length → litAll (xs.map (·.1)) = some ((cs.drop (o * c)).take (n * c))
 | 0, o, xs, hl, _, _ => by
   have : xs = [] := List.eq_nil_of_length_eq_zero hl
   subst this; simp [litAll]
 | n + 1, o, xs, hl, hx, hc => by
   cases xs with
   | nil => simp at hl
   | cons x xs =>
     have h0 := ih _ x (by rw [hx 0 (by omega)]; rfl)
     have h1 := mW ih n (o + 1) xs (by simpa using hl) (fun i hi => by rw [show o + 1 + i = o + (i + 1) by omega, hx (i + 1) (by omega)]; rfl) (by rw [show o + 1 + n = o + (n + 1) by omega]; exact hc)
     rw [Nat.add_zero] at h0
     rw [List.map_cons, litAll, h0, h1]
     simp only [Option.some.injEq]
     have e : (n + 1) * c = c + n * c := by rw [Nat.add_mul]; omega
     rw [e, List.take_add, List.drop_drop, show o * c + c = (o + 1) * c by rw [Nat.add_mul]; omega]
theorem k6 {cs : List Value} {fuel : Nat} {ok : TypeId → Bool} (ih : ∀ (t : TypeId) (cs : List Value) (x : DataW H × List MemPlace), ok t = true → DataW.trod enc P w base spare held fuel t cs = some x → gk x.1 = some cs) :
   ∀ (fs : List Field) (off : Nat) (xs : List (DataW H × List MemPlace)), gS P off fs cs.length = true → fs.all (fun f => ok f.type) = true → xs.length = fs.length →
     (∀ (i : Nat) (f : Field), fs[i]? = some f → DataW.trod enc P w base spare held fuel f.type ((cs.drop f.offset).take (P.cellsOf f.type)) = xs[i]?) → litAll (xs.map (·.1)) = some (cs.drop off)
 | [], off, xs, hc, _, hl, _ => by
   have : xs = [] := List.eq_nil_of_length_eq_zero hl
   subst this
   have : off = cs.length := by simpa [gS] using hc
   simp [litAll, this]
 | f :: fs, off, xs, hc, hr, hl, hx => by
   cases xs with
   | nil => simp at hl
   | cons x xs =>
     simp only [gS, Bool.and_eq_true, beq_iff_eq, decide_eq_true_eq] at hc
     obtain ⟨⟨hc1, hc2⟩, hc3⟩ := hc
     simp only [List.all_cons, Bool.and_eq_true] at hr
     have h0 := ih _ _ x hr.1 (by rw [hx 0 f rfl]; rfl)
     have h1 := k6 ih fs _ xs hc3 hr.2 (by simpa using hl) (fun i g hg => by rw [hx (i + 1) g (by simpa using hg)]; rfl)
     rw [List.map_cons, litAll, h0, h1]
     simp only [Option.some.injEq]
     rw [hc1, ← List.drop_drop, List.take_append_drop]
theorem iY : ∀ (k fuel : Nat) (t : TypeId) (cs : List Value) (x : DataW H × List MemPlace), rdA P k t = true → DataW.trod enc P w base spare held fuel t cs = some x → gk x.1 = some cs
 | 0, _, _, _, _, h, _ => by cases h
 | k + 1, fuel, t, cs, x, hr, h => by
   unfold rdA at hr
   split at hr
   · rename_i hu; obtain ⟨b, rfl, rfl⟩ := DataW.trod_bool hu h; rfl
   · rename_i i hu; obtain ⟨n, rfl, rfl, _⟩ := DataW.trod_int hu h; rfl
   · rename_i hu; obtain ⟨s, rfl, rfl, _⟩ := DataW.trod_string hu h; rfl
   · rename_i n e hu
     rw [Bool.and_eq_true, decide_eq_true_eq] at hr
     obtain ⟨xs, m, _, rfl, hl, hn, hx⟩ := DataW.trod_array hu h
     have := mW (c := P.cellsOf e) (F := fun i => DataW.trod enc P w base spare held m e ((cs.drop (i * P.cellsOf e)).take (P.cellsOf e))) (cs := cs) (fun i x hx => iY k m e _ x hr.2 hx) n 0 xs hn (fun i hi => by rw [Nat.zero_add]; exact hx i hi) (by rw [Nat.zero_add, hl, hr.1]; exact Nat.le_refl _)
     show litAll (xs.map (·.1)) = some cs
     rw [this, Nat.zero_mul, List.drop_zero, List.take_of_length_le (by rw [hl, hr.1]; exact Nat.le_refl _)]
   · rename_i fs hu
     rw [Bool.and_eq_true] at hr
     obtain ⟨xs, n, _, rfl, hl, hxl, hf⟩ := DataW.trod_struct hu h
     have := k6 (ok := rdA P k) (cs := cs) (fun t cs x h1 h2 => iY k n t cs x h1 h2) fs.toList 0 xs (by rw [hl]; exact hr.1) hr.2 (by simpa using hxl) (fun i f hi => hf i f (by simpa using hi))
     show litAll (xs.map (·.1)) = some cs
     rw [this, List.drop_zero]
   · cases hr
end Go.Sy

namespace Go.Proofs.YtgmiihmahaahiaaGreatDoor
open Go.ChangeShapes Go.WideShapes Go.ChangeAt Go.RowKit
open Go.Lp Go.Sy
theorem own : ownKnob Tryz.prog.godebug = none := by kernel_rfl
theorem laidOut : laidOutB Tryz.prog = true := by kernel_rfl
theorem lg {W : World} {g : Nat} {l : List Value} (h0 : l ≠ []) (h : ∀ i, W.cell? ⟨g, i, none⟩ = l[i]?) (h1 : l.all (·.oneCell') = true) : (At g 0 (l.map D.v)).holds W (fun b => b < W.heap.size) := by
 obtain ⟨v, hv⟩ : ∃ v, l[0]? = some v := by cases l with
   | nil => exact absurd rfl h0
   | cons v l => exact ⟨v, rfl⟩
 refine ⟨(jO ((h 0).trans hv)).2, fun j d hj => ?_⟩
 rw [List.getElem?_map] at hj
 cases hl : l[j]? with
 | none => rw [hl] at hj; cases hj
 | some u =>
   rw [hl] at hj
   simp only [Option.map_some, Option.some.injEq] at hj
   exact ⟨u, by rw [Nat.zero_add, h, hl], List.all_eq_true.1 h1 u (List.mem_of_getElem? hl), by rw [← hj]; exact .v u⟩
theorem x0 : Tryz.prog.globalNamed "linchpin/digest.turns" = some 2 := by kernel_rfl
theorem x4 : (Tryz.prog.globals[2]?).map (·.type) = some 370 := by kernel_rfl
theorem tZ : gk (Rows.laid_linchpin_digest_turns (H := Unit)) = some (iL.map fun z => Value.int .i64 z) := by kernel_rfl
theorem tJ : (iL.map fun z => Value.int .i64 z).all (·.oneCell') = true := by kernel_rfl
theorem yd : Tryz.prog.globalNamed "linchpin/digest.constants" = some 1 := by kernel_rfl
theorem xJ : (Tryz.prog.globals[1]?).map (·.type) = some 367 := by kernel_rfl
theorem tn : gk (Rows.laid_linchpin_digest_constants (H := Unit)) = some (dZ eU) := by kernel_rfl
theorem sZ : (dZ eU).all (·.oneCell') = true := by kernel_rfl
theorem yf : Tryz.prog.globalNamed "linchpin/isa.forms" = some 0 := by kernel_rfl
theorem xV : (Tryz.prog.globals[0]?).map (·.type) = some 344 := by kernel_rfl
theorem sL : gk (Rows.laid_linchpin_isa_forms (H := Unit)) = some ll := by kernel_rfl
theorem tm : ll.all (·.oneCell') = true := by kernel_rfl
theorem wK {W : World} (h : laidMetH Tryz.prog [("linchpin/digest.turns", Rows.laid_linchpin_digest_turns), ("linchpin/digest.constants", Rows.laid_linchpin_digest_constants), ("linchpin/isa.forms", Rows.laid_linchpin_isa_forms)] W) :
   dS.holds W (fun b => b < W.heap.size) ∧ di.holds W (fun b => b < W.heap.size) ∧ dh.holds W (fun b => b < W.heap.size) := by
 rw [MakeChecks.laidMetH_plain _ _ _ (by kernel_rfl)] at h
 obtain ⟨ps, ⟨g0, t0, cs0, f0, p0, q0, hg0, ht0, hv0, hd0, ⟨g1, t1, cs1, f1, p1, q1, hg1, ht1, hv1, hd1, ⟨g2, t2, cs2, f2, p2, q2, hg2, ht2, hv2, hd2, _, _⟩, _⟩, _⟩, _, _⟩ := h
 obtain rfl := Option.some.inj (x0.symm.trans hg0)
 obtain rfl := Option.some.inj (x4.symm.trans ht0)
 have hl0 := iY 3 _ _ _ _ (by kernel_rfl) hd0
 have e0 : cs0.toList = iL.map fun z => Value.int .i64 z := Option.some.inj (hl0.symm.trans tZ)
 obtain rfl := Option.some.inj (yd.symm.trans hg1)
 obtain rfl := Option.some.inj (xJ.symm.trans ht1)
 have hl1 := iY 3 _ _ _ _ (by kernel_rfl) hd1
 have e1 : cs1.toList = dZ eU := Option.some.inj (hl1.symm.trans tn)
 obtain rfl := Option.some.inj (yf.symm.trans hg2)
 obtain rfl := Option.some.inj (xV.symm.trans ht2)
 have hl2 := iY 3 _ _ _ _ (by kernel_rfl) hd2
 have e2 : cs2.toList = ll := Option.some.inj (hl2.symm.trans sL)
 exact ⟨lg (by decide) (fun i => by rw [World.var?_cell hg2 hv2 i, ← e2, Array.getElem?_toList]) tm, lg (by decide) (fun i => by rw [World.var?_cell hg0 hv0 i, ← e0, Array.getElem?_toList]) tJ, lg (by decide) (fun i => by rw [World.var?_cell hg1 hv1 i, ← e1, Array.getElem?_toList]) sZ⟩
section
variable {H : Type} {enc : TypeId × Value → H} {w : World} {base : Nat} {spare : Nat → Bool} {held : Bool}
theorem wy {fuel len cap : Nat} {a : Option Addr} {y : DataW H × List MemPlace} (h : DataW.trod enc Tryz.prog w base spare held fuel 22 [.slice a len cap] = some y) : ∃ s : Sl ar, Value.slice a len cap = s.val ∧ (ShF ar.row s).holds w (fun b => b < w.heap.size) ∧ (bW (fun y => ar.ok y) s.l).holds w (fun b => b < w.heap.size) := by
 obtain ⟨ds, hlen, ho, hR⟩ := gW 12 fuel 22 _ _ (by kernel_rfl) h
 obtain ⟨s, h1, h2⟩ := mh ho (oG hlen hR)
 exact ⟨s, (List.cons.inj (rA (a := [s.val]) h1)).1.symm, h2.1, h2.2⟩
theorem wX {fuel len cap : Nat} {a : Option Addr} {y : DataW H × List MemPlace} (h : DataW.trod enc Tryz.prog w base spare held fuel 24 [.slice a len cap] = some y) : ∃ s : Sl aF, Value.slice a len cap = s.val ∧ (ShF aF.row s).holds w (fun b => b < w.heap.size) ∧ (bW (fun y => aF.ok y) s.l).holds w (fun b => b < w.heap.size) := by
 obtain ⟨ds, hlen, ho, hR⟩ := gW 12 fuel 24 _ _ (by kernel_rfl) h
 obtain ⟨s, h1, h2⟩ := i6 ho (oG hlen hR)
 exact ⟨s, (List.cons.inj (rA (a := [s.val]) h1)).1.symm, h2.1, h2.2⟩
end
end Go.Proofs.YtgmiihmahaahiaaGreatDoor

namespace Go.Sy
open Go.RowKit Go.Lp Go.Deep
mutual
/-- the size of data: each value counts one -/
def szD : D → Nat
 | .v _ => 1
 | .sl rows => szR rows + 1
def szR : List (List D) → Nat
 | [] => 0
 | r :: rows => szL r + szR rows
def szL : List D → Nat
 | [] => 0
 | d :: ds => szD d + szL ds
end
theorem rX : ∀ a b : List D, szL (a ++ b) = szL a + szL b
 | [], b => by simp [szL]
 | d :: a, b => by simp only [List.cons_append, szL, rX a b]; omega
theorem ox : ∀ rows : List (List D), szR rows = (rows.map szL).sum
 | [] => rfl
 | r :: rows => by simp only [szR, List.map_cons, List.sum_cons, ox rows]
theorem oF {α : Type} {f g : α → Nat} : ∀ (l : List α), (∀ x ∈ l, f x ≤ g x) → (l.map f).sum ≤ (l.map g).sum
 | [], _ => Nat.le_refl _
 | x :: l, h => by
   simp only [List.map_cons, List.sum_cons]
   have h1 := h x List.mem_cons_self
   have h2 := oF l fun y hy => h y (List.mem_cons_of_mem _ hy)
   omega
theorem oh {α : Type} : ∀ l : List α, (l.map fun _ => 1).sum = l.length
 | [] => rfl
 | x :: l => by rw [List.map_cons, List.sum_cons, oh l, List.length_cons]; omega
theorem rK : ∀ (l : List Nat) (n : Nat), n ∈ l → n ≤ l.sum
 | x :: l, n, h => by
   rw [List.sum_cons]
   rcases List.mem_cons.1 h with rfl | h
   · omega
   · have := rK l n h; omega
theorem lT {α : Type} [Inhabited α] {row : α → List D} {ok : α → Per} (zf : α → Nat) {w : World} {S : bE} {v : Value} {rows : List (List D)} (h : ei w S v (.sl rows))
   (hf : ∀ r ∈ rows, ∀ us : List Value, eF w S us r → ∃ y : α, row y = us.map D.v ∧ (ok y).holds w S ∧ zf y ≤ szL r) : ∃ s : Sl α, v = s.val ∧ (ShF row s).holds w S ∧ (bW ok s.l).holds w S ∧ (s.l.map zf).sum ≤ szR rows := by
 cases h with
 | e a c hc => exact ⟨⟨a, c, []⟩, rfl, .e a c hc, fun y hy => (by cases hy), Nat.zero_le _⟩
 | sl b o c sz _ us hb hn hc hrl hcell hd =>
   have each : ∀ i : Nat, ∃ y : α, i < rows.length → row y = ((List.range sz).map fun j => us i j).map D.v ∧ (ok y).holds w S ∧ zf y ≤ szL (rows.getD i []) := fun i => by
     by_cases hi : i < rows.length
     · obtain ⟨r, hr⟩ : ∃ r, rows[i]? = some r := ⟨_, List.getElem?_eq_getElem hi⟩
       obtain ⟨y, h1, h2, h3⟩ := hf r (List.mem_of_getElem? hr) ((List.range sz).map fun j => us i j) ⟨by simp [hrl i r hr], fun j d hj => by
         have hjl := (List.getElem?_eq_some_iff.1 hj).1
         rw [hrl i r hr] at hjl
         exact ⟨us i j, by rw [List.getElem?_map, List.getElem?_range hjl]; rfl, hd i j r d hr hj⟩⟩
       exact ⟨y, fun _ => ⟨h1, h2, by rw [List.getD_eq_getElem?_getD, hr]; exact h3⟩⟩
     · exact ⟨default, fun h => absurd h hi⟩
   obtain ⟨Y, hY⟩ := Classical.skolem.1 each
   have hget : ∀ (i : Nat) (r : List D), (((List.range rows.length).map Y).map row)[i]? = some r → i < rows.length ∧ r = ((List.range sz).map fun j => us i j).map D.v := fun i r hi => by
     rw [List.getElem?_map, List.getElem?_map] at hi
     by_cases hil : i < rows.length
     · rw [List.getElem?_range hil] at hi
       simp only [Option.map_some, Option.some.injEq] at hi
       exact ⟨hil, by rw [← hi]; exact (hY i hil).1⟩
     · rw [List.getElem?_eq_none (by simpa using hil)] at hi; cases hi
   have hcl : ∀ (i j : Nat) (r : List D) (d : D), (((List.range rows.length).map Y).map row)[i]? = some r → r[j]? = some d → ∃ r0 d0, rows[i]? = some r0 ∧ r0[j]? = some d0 ∧ d = .v (us i j) := fun i j r d hi hj => by
     obtain ⟨hil, rfl⟩ := hget i r hi
     obtain ⟨r0, hr0⟩ : ∃ r, rows[i]? = some r := ⟨_, List.getElem?_eq_getElem hil⟩
     have hjl := (List.getElem?_eq_some_iff.1 hj).1
     rw [List.length_map, List.length_map, List.length_range] at hjl
     rw [List.getElem?_map, List.getElem?_map, List.getElem?_range hjl] at hj
     simp only [Option.map_some, Option.some.injEq] at hj
     exact ⟨r0, _, hr0, List.getElem?_eq_getElem (by rw [hrl i r0 hr0]; exact hjl), hj.symm⟩
   refine ⟨⟨some ⟨b, o, none⟩, c, (List.range rows.length).map Y⟩, by simp [Sl.val], ?_, fun y hy => ?_, ?_⟩
   · have h := ei.sl (w := w) (S := S) b o c sz (((List.range rows.length).map Y).map row) us hb (by simpa using hn) hc (fun i r hi => by obtain ⟨_, rfl⟩ := hget i r hi; simp)
       (fun i j r d hi hj => by obtain ⟨r0, d0, h1, h2, _⟩ := hcl i j r d hi hj; exact hcell i j r0 d0 h1 h2) (fun i j r d hi hj => by obtain ⟨_, _, _, _, rfl⟩ := hcl i j r d hi hj; exact .v _)
     rw [List.length_map, List.length_map, List.length_range] at h
     show ei w S (.slice (some ⟨b, o, none⟩) ((List.range rows.length).map Y).length c) (.sl (((List.range rows.length).map Y).map row))
     rw [List.length_map, List.length_range]; exact h
   · obtain ⟨i, hi, rfl⟩ := List.mem_map.1 hy
     exact (hY i (List.mem_range.1 hi)).2.1
   · rw [ox, List.map_map]
     have e : rows.map szL = (List.range rows.length).map fun i => szL (rows.getD i []) := by
       apply List.ext_getElem?
       intro i
       rw [List.getElem?_map, List.getElem?_map]
       by_cases hi : i < rows.length
       · rw [List.getElem?_range hi, List.getElem?_eq_getElem hi]
         simp [List.getD_eq_getElem?_getD, hi]
       · rw [List.getElem?_eq_none (by omega), List.getElem?_eq_none (by simpa using hi)]; rfl
     rw [e]
     exact oF _ fun i hi => (hY i (List.mem_range.1 hi)).2.2
end Go.Sy
namespace Go.Proofs.YtgmiihmahaahiaaGreatDoor
open Go.RowKit Go.Lp Go.Sy Go.Deep
section
variable {P : Program} {H : Type} {enc : TypeId × Value → H} {w : World} {base : Nat} {spare : Nat → Bool} {held : Bool}
theorem kf {d : DataW H} : ∀ {l : List (DataW H)}, d ∈ l → Rows.uptoBulk d ≤ Rows.uptoBulkAll l
 | x :: r, h => by
   simp only [Rows.uptoBulkAll]
   rcases List.mem_cons.1 h with rfl | h
   · omega
   · have := kf h; omega
theorem ke : ∀ l : List (DataW H), Rows.uptoBulkAll l = (l.map Rows.uptoBulk).sum
 | [] => rfl
 | x :: l => by simp only [Rows.uptoBulkAll, List.map_cons, List.sum_cons, ke l]
theorem j3 {k fuel : Nat} {cs : List Value} {tot : Nat} (hcs : cs.length = tot)
   (ih : ∀ (t : TypeId) (cs : List Value) (x : DataW H × List MemPlace), rdT P k t = true → DataW.trod enc P w base spare held fuel t cs = some x → ∃ ds, ds.length = cs.length ∧ okD P k t ds ∧ Rds w cs 0 ds ∧ szL ds ≤ Rows.uptoBulk x.1) :
   ∀ (fs : List Field) (off : Nat) (xs : List (DataW H × List MemPlace)), gS P off fs tot = true → fs.all (fun f => rdT P k f.type) = true → xs.length = fs.length →
     (∀ (i : Nat) (f : Field), fs[i]? = some f → DataW.trod enc P w base spare held fuel f.type ((cs.drop f.offset).take (P.cellsOf f.type)) = xs[i]?) → ∃ ds, off + ds.length = tot ∧ okF (okD P k) fs ds ∧ Rds w cs off ds ∧ szL ds ≤ Rows.uptoBulkAll (xs.map (·.1))
 | [], off, xs, hc, _, _, _ => ⟨[], by simpa [gS] using hc, rfl, fun j d hj => (by cases hj), Nat.zero_le _⟩
 | f :: fs, off, xs, hc, hr, hl, ht => by
   cases xs with
   | nil => simp at hl
   | cons y xs =>
     simp only [gS, Bool.and_eq_true, beq_iff_eq, decide_eq_true_eq] at hc
     obtain ⟨⟨hc1, hc2⟩, hc3⟩ := hc
     simp only [List.all_cons, Bool.and_eq_true] at hr
     have hy := ht 0 f rfl
     obtain ⟨d1, l1, o1, r1, z1⟩ := ih _ _ y hr.1 (by rw [hy]; rfl)
     obtain ⟨d2, l2, o2, r2, z2⟩ := j3 hcs ih fs _ xs hc3 hr.2 (by simpa using hl) (fun i g hg => by rw [ht (i + 1) g (by simpa using hg)]; rfl)
     rw [List.length_take, List.length_drop, hc1, hcs] at l1
     have l1 : d1.length = P.cellsOf f.type := by omega
     refine ⟨d1 ++ d2, by rw [List.length_append]; omega, ⟨d1, d2, rfl, o1, o2⟩, fun j d hj => ?_, by rw [rX]; simp only [List.map_cons, Rows.uptoBulkAll]; omega⟩
     by_cases hjl : j < d1.length
     · rw [List.getElem?_append_left hjl] at hj
       obtain ⟨u, hu, h1, h2⟩ := r1 j d hj
       rw [Nat.zero_add, List.getElem?_take, if_pos (by omega), List.getElem?_drop, hc1] at hu
       exact ⟨u, hu, h1, h2⟩
     · rw [List.getElem?_append_right (by omega)] at hj
       obtain ⟨u, hu, h1, h2⟩ := r2 _ d hj
       rw [show off + P.cellsOf f.type + (j - d1.length) = off + j by omega] at hu
       exact ⟨u, hu, h1, h2⟩
theorem jT : ∀ (k fuel : Nat) (t : TypeId) (cs : List Value) (x : DataW H × List MemPlace), rdT P k t = true → DataW.trod enc P w base spare held fuel t cs = some x → ∃ ds, ds.length = cs.length ∧ okD P k t ds ∧ Rds w cs 0 ds ∧ szL ds ≤ Rows.uptoBulk x.1
 | 0, _, _, _, _, h, _ => by cases h
 | k + 1, fuel, t, cs, x, hr, h => by
   unfold rdT at hr
   unfold okD
   split at hr
   · rename_i hu
     obtain ⟨b, rfl, rfl⟩ := DataW.trod_bool hu h
     exact ⟨[.v (.bool b)], rfl, ⟨b, rfl⟩, eM rfl (.v _), by simp [szL, szD, Rows.uptoBulk]⟩
   · rename_i i hu
     obtain ⟨n, rfl, rfl, hw⟩ := DataW.trod_int hu h
     exact ⟨[.v (.int i n)], rfl, ⟨n, rfl, hw⟩, eM rfl (.v _), by simp [szL, szD, Rows.uptoBulk]⟩
   · rename_i hu
     obtain ⟨s, rfl, rfl, hs⟩ := DataW.trod_string hu h
     exact ⟨[.v (.string s)], rfl, ⟨s, rfl, hs⟩, eM rfl (.v _), by simp [szL, szD, Rows.uptoBulk]⟩
   · rename_i e hu
     rw [Bool.and_eq_true, decide_eq_true_eq] at hr
     obtain ⟨hp, hr⟩ := hr
     rcases DataW.trod_slice hu h with ⟨rfl, rfl⟩ | ⟨a, len, cap, elems, rest, n, _, rfl, rfl, _, hl, hm, hel, hx, _, _⟩
     · exact ⟨[.sl []], rfl, ⟨[], rfl, by simp, fun r hr => by cases hr⟩, eM rfl (.e none 0 (by simp)), by simp [szL, szD, szR, Rows.uptoBulk]⟩
     · by_cases hl0 : len = 0
       · subst hl0
         exact ⟨[.sl []], rfl, ⟨[], rfl, by simp, fun r hr => by cases hr⟩, eM rfl (.e (some a) cap hm), by simp [szL, szD, szR, Rows.uptoBulk]⟩
       · have each : ∀ i, ∃ r : List D, i < len → (r.length = P.cellsOf e ∧ okD P k e r ∧ ∀ (j : Nat) (d : D), r[j]? = some d → ∃ u, w.cell? ((a.add (i * P.cellsOf e)).add j) = some u ∧ u.oneCell' = true ∧ ei w (fun b => b < w.heap.size) u d) ∧ ∃ y, elems[i]? = some y ∧ szL r ≤ Rows.uptoBulk y.1 := fun i => by
           by_cases hi : i < len
           · obtain ⟨y, hy⟩ : ∃ y, elems[i]? = some y := ⟨_, List.getElem?_eq_getElem (by omega)⟩
             have h1 := hx i hi
             rw [hy] at h1
             cases hcs : w.cells? base (a.add (i * P.cellsOf e)) (P.cellsOf e) with
             | none => rw [hcs] at h1; cases h1
             | some cs' =>
               rw [hcs] at h1
               have h2 : DataW.trod enc P w base spare held n e cs' = some y := h1
               obtain ⟨ds, l1, o1, r1, z1⟩ := jT k _ _ _ _ hr h2
               obtain ⟨_, hcl, hc⟩ := World.cells?_some hcs
               refine ⟨ds, fun _ => ⟨⟨by omega, o1, fun j d hj => ?_⟩, y, hy, z1⟩⟩
               obtain ⟨u, hu, q1, q2⟩ := r1 j d hj
               have := (List.getElem?_eq_some_iff.1 hj).1
               rw [hc j (by omega)]
               exact ⟨u, by rw [← hu, Nat.zero_add], q1, q2⟩
           · exact ⟨[], fun h => absurd h hi⟩
         obtain ⟨R, hR⟩ := Classical.skolem.1 each
         have ha : a = ⟨a.block, a.off, none⟩ ∧ a.block < w.heap.size := by
           obtain ⟨⟨e1, _, e3⟩, _⟩ := hR 0 (by omega)
           obtain ⟨d, hd⟩ : ∃ d, (R 0)[0]? = some d := ⟨(R 0)[0]'(by omega), by simp⟩
           obtain ⟨u, hu, _⟩ := e3 0 d hd
           have : (a.add (0 * P.cellsOf e)).add 0 = a := by simp [Addr.add]
           rw [this] at hu
           exact jO hu
         obtain ⟨ha, hb⟩ := ha
         have hadd : ∀ i j, (a.add (i * P.cellsOf e)).add j = ⟨a.block, a.off + i * P.cellsOf e + j, none⟩ := fun i j => by
           rw [ha]; unfold Addr.add
           by_cases h1 : i * P.cellsOf e = 0 <;> by_cases h2 : j = 0 <;> simp [h1, h2]
         have hrow : ∀ (i : Nat) (r : List D), ((List.range len).map R)[i]? = some r → i < len ∧ r = R i := fun i r hi => by
           have := (List.getElem?_eq_some_iff.1 hi).1
           simp at this
           rw [List.getElem?_map, List.getElem?_range this] at hi
           exact ⟨this, by simpa using hi.symm⟩
         refine ⟨[.sl ((List.range len).map R)], rfl, ⟨_, rfl, by simp; omega, fun r hr => ?_⟩, eM rfl ?_, ?_⟩
         · obtain ⟨i, hi, rfl⟩ := List.mem_map.1 hr
           exact (hR i (List.mem_range.1 hi)).1.2.1
         · have := ei.sl (w := w) (S := fun b => b < w.heap.size) a.block a.off cap (P.cellsOf e) ((List.range len).map R) (fun i j => (w.cell? ⟨a.block, a.off + i * P.cellsOf e + j, none⟩).getD (.bool false)) hb (by simpa using hl) hm
             (fun i r hi => by obtain ⟨h1, rfl⟩ := hrow i r hi; exact (hR i h1).1.1)
             (fun i j r d hi hj => by
               obtain ⟨h1, rfl⟩ := hrow i r hi
               obtain ⟨u, hu, q1, q2⟩ := (hR i h1).1.2.2 j d hj
               rw [hadd] at hu
               rw [hu]; exact ⟨rfl, q1⟩)
             (fun i j r d hi hj => by
               obtain ⟨h1, rfl⟩ := hrow i r hi
               obtain ⟨u, hu, q1, q2⟩ := (hR i h1).1.2.2 j d hj
               rw [hadd] at hu
               rw [hu]; exact q2)
           rw [← ha] at this
           simpa using this
         · simp only [szL, szD, Rows.uptoBulk]
           rw [ox, ke, List.map_map, List.map_map]
           have e1 : elems.map (Rows.uptoBulk ∘ fun x => x.1) = (List.range len).map fun i => (elems[i]?.map fun y => Rows.uptoBulk y.1).getD 0 := by
             apply List.ext_getElem?
             intro i
             rw [List.getElem?_map, List.getElem?_map]
             by_cases hi : i < len
             · obtain ⟨y, hy⟩ : ∃ y, elems[i]? = some y := ⟨_, List.getElem?_eq_getElem (by omega)⟩
               rw [List.getElem?_range hi, hy]; simp [hy]
             · rw [List.getElem?_eq_none (by omega), List.getElem?_eq_none (by simpa using hi)]; rfl
           rw [e1]
           have := oF (f := szL ∘ R) (g := fun i => (elems[i]?.map fun y => Rows.uptoBulk y.1).getD 0) (List.range len) fun i hi => by
             obtain ⟨_, y, hy, hz⟩ := hR i (List.mem_range.1 hi)
             rw [hy]; exact hz
           omega
   · rename_i fs hu
     rw [Bool.and_eq_true] at hr
     obtain ⟨xs, n, _, rfl, hcl, hxl, hf⟩ := DataW.trod_struct hu h
     obtain ⟨ds, l1, o1, r1, z1⟩ := j3 (tot := P.cellsOf t) hcl (fun t cs x h1 h2 => jT k n t cs x h1 h2) fs.toList 0 xs hr.1 hr.2 (by simpa using hxl) (fun i f hff => hf i f (by simpa using hff))
     exact ⟨ds, by omega, o1, r1, by simp only [Rows.uptoBulk]; omega⟩
   · cases hr
theorem wA {S : bE} {k : Nat} {t : TypeId} {us : List Value} {r : List D} (hu : P.underlying t = some .string) (h : okD P (k + 1) t r) (hr : eF w S us r) : ∃ s : ByteArray, [D.v (.string s)] = us.map D.v ∧ (eP s).holds w S ∧ 1 ≤ szL r := by
 obtain ⟨s, h1, h2⟩ := vb hu h hr
 obtain ⟨n, rfl, _⟩ := cC hu h
 exact ⟨s, h1, h2, by simp [szL, szD]⟩
end
def zV (d : aF) : Nat := d.parents.l.length
def zI (f : bw) : Nat := (f.versions.l.map zV).sum
theorem ku {k : Nat} {w : World} {S : bE} {us : List Value} {ds : List D} (h : okD Tryz.prog (k + 3) 178 ds) (hr : eF w S us ds) : ∃ y : aF, y.row = us.map D.v ∧ (y.ok).holds w S ∧ zV y ≤ szL ds := by
 have h := cL Tryz.underlying178 h
 obtain ⟨d0, _, rfl, h0, d1, _, rfl, h1, rfl⟩ := h
 obtain ⟨n0, rfl, z0⟩ := cC Tryz.underlying9 h0
 obtain ⟨q1, rfl, m1, o1⟩ := cJ Tryz.underlying77 h1
 obtain ⟨u0, _, rfl, r0, hr⟩ := hr.cons
 obtain ⟨u1, _, rfl, r1, hr⟩ := hr.cons
 obtain rfl := hr.nil
 obtain rfl := bN r0
 obtain ⟨s1, rfl, a1, b1, c1⟩ := lT (row := fun s : ByteArray => [.v (.string s)]) (ok := fun y : ByteArray => eP y) (fun _ => 1) r1 fun r hr us hu => wA Tryz.underlying9 (o1 r hr) hu
 have e1 : (s1.l.map fun _ => 1).sum = s1.l.length := oh _
 rw [e1] at c1
 exact ⟨⟨n0, s1⟩, rfl, ⟨z0, a1, b1⟩, by simp only [zV, szL, szD, List.cons_append, List.nil_append]; omega⟩
theorem qB {k : Nat} {w : World} {S : bE} {us : List Value} {ds : List D} (h : okD Tryz.prog (k + 5) 73 ds) (hr : eF w S us ds) : ∃ y : bw, y.row = us.map D.v ∧ (y.ok).holds w S ∧ zI y ≤ szL ds ∧ 1 ≤ szL ds := by
 have h := cL Tryz.underlying73 h
 obtain ⟨d0, _, rfl, h0, d1, _, rfl, h1, d2, _, rfl, h2, rfl⟩ := h
 obtain ⟨n0, rfl, z0⟩ := cC Tryz.underlying9 h0
 obtain ⟨q1, rfl, m1, o1⟩ := cJ Tryz.underlying71 h1
 obtain ⟨q2, rfl, m2, o2⟩ := cJ Tryz.underlying24 h2
 obtain ⟨u0, _, rfl, r0, hr⟩ := hr.cons
 obtain ⟨u1, _, rfl, r1, hr⟩ := hr.cons
 obtain ⟨u2, _, rfl, r2, hr⟩ := hr.cons
 obtain rfl := hr.nil
 obtain rfl := bN r0
 obtain ⟨s1, rfl, a1, b1⟩ := dN (row := cG.row) (ok := fun y : cG => cG.ok y) r1 fun r hr us hu => lA (o1 r hr) hu
 obtain ⟨s2, rfl, a2, b2, c2⟩ := lT (row := aF.row) (ok := fun y : aF => aF.ok y) zV r2 fun r hr us hu => ku (o2 r hr) hu
 exact ⟨⟨n0, s1, s2⟩, rfl, ⟨z0, a1, b1, a2, b2⟩, by simp only [zI, szL, szD, List.cons_append, List.nil_append]; omega, by simp only [szL, szD, List.cons_append, List.nil_append]; omega⟩
theorem w6 {H : Type} {enc : TypeId × Value → H} {w : World} {base : Nat} {spare : Nat → Bool} {held : Bool} {fuel len cap : Nat} {a : Option Addr} {y : DataW H × List MemPlace} (h : DataW.trod enc Tryz.prog w base spare held fuel 23 [.slice a len cap] = some y) :
   ∃ s : Sl bw, Value.slice a len cap = s.val ∧ (ShF bw.row s).holds w (fun b => b < w.heap.size) ∧ (bW (fun y => bw.ok y) s.l).holds w (fun b => b < w.heap.size) ∧ s.l.length ≤ Rows.uptoBulk y.1 ∧ ∀ f ∈ s.l, zI f ≤ Rows.uptoBulk y.1 := by
 obtain ⟨ds, hlen, ho, hR, hz⟩ := jT 12 fuel 23 _ _ (by kernel_rfl) h
 obtain ⟨rows, rfl, _, hrows⟩ := cJ (k := 11) Tryz.underlying23 ho
 obtain ⟨u, _, hu, r, hr⟩ := (oG hlen hR).cons
 obtain rfl := hr.nil
 obtain ⟨rfl, _⟩ := List.cons.inj hu
 obtain ⟨s, h1, h2, h3, h4⟩ := lT (row := bw.row) (ok := fun y : bw => bw.ok y) (fun f => max 1 (zI f)) r fun r hr us hu => by
   obtain ⟨y, a1, a2, a3, a4⟩ := qB (k := 6) (hrows r hr) hu
   exact ⟨y, a1, a2, by show max 1 (zI y) ≤ _; omega⟩
 have h5 : szR rows ≤ Rows.uptoBulk y.1 := by simp only [szL, szD] at hz; omega
 have h6 : s.l.length ≤ (s.l.map fun f => max 1 (zI f)).sum := by
   have := oF (f := fun _ : bw => 1) (g := fun f => max 1 (zI f)) s.l fun f _ => by omega
   have e1 : (s.l.map fun _ : bw => 1).sum = s.l.length := oh _
   omega
 refine ⟨s, h1, h2, h3, by omega, fun f hf => ?_⟩
 have h7 : max 1 (zI f) ≤ (s.l.map fun f => max 1 (zI f)).sum := rK _ _ (List.mem_map_of_mem hf)
 omega
end Go.Proofs.YtgmiihmahaahiaaGreatDoor

namespace Go.Proofs.YtgmiihmahaahiaaGreatDoor
open Go.RowKit Go.Lp Go.Sy
open Go.Proofs.Tryz
attribute [local irreducible] aL aB awp aC fwp
def tC : bM := ⟨⟨#[116, 101, 120, 116]⟩, 0, 8, 8, ⟨#[1, 0, 0, 0, 0, 0, 0, 0]⟩, false⟩
def gn (bind sec : Int) : bu := ⟨⟨#[102]⟩, .empty, false, bind, 0, 0, sec, 0, 0, 0⟩
abbrev eh (α : Type) : Sl α := ⟨none, 0, []⟩
def oC (n : ByteArray) (bind : Int) (a1 a2 : Option Addr) : ar := ⟨n, ⟨a1, 1, [tC]⟩, ⟨a2, 1, [gn bind 0]⟩, eh _, eh _, eh _, eh _, eh _, eh _, eh _, eh _⟩
theorem mU (n : ByteArray) (bind : Int) : Con Tryz.prog 29 [.string n, .int .i64 bind] [] [] fun r ps hp => ps = [] ∧ ∃ a1 a2, r = (oC n bind a1 a2).val ∧ hp = [bH (.slice a1 1 1) 85 6 ([tC].map bM.row), bH (.slice a2 1 1) 63 10 ([gn bind 0].map bu.row)] := by
 refine Con.enter Tryz.func29 rfl (by simp [Tryz.ntmps29]) ?_
 show awp _ _ _ _ ⟨[(0, true, _), (1, true, _)], _, _⟩
 refine aSR ?_
 refine al (q := true) rfl (bp (zs := [.string .empty, .slice none 0 0, .slice none 0 0, .slice none 0 0, .slice none 0 0, .slice none 0 0, .slice none 0 0, .slice none 0 0, .slice none 0 0, .slice none 0 0, .slice none 0 0]) (by kernel_rfl) rfl (fun b0_0 => ?_))
 refine aH (by (try simp only [nM, nN]); rfl) ?_
 refine aNn (aSR (aM rfl ?_))
 refine aU rfl (dF (l := [(0, .const (.string ⟨#[116, 101, 120, 116]⟩)), (1, .const (.int .i64 0)), (2, .const (.int .i64 8)), (3, .const (.int .i64 8)), (4, .const (.string ⟨#[1, 0, 0, 0, 0, 0, 0, 0]⟩))]) (zs := [.string .empty, .int .i64 0, .int .i64 0, .int .i64 0, .string .empty, .bool false]) (pl := [(0, 1), (1, 1), (2, 1), (3, 1), (4, 1), (5, 1)]) (by kernel_rfl) (by kernel_rfl) (by kernel_rfl) rfl rfl rfl) ?_
 refine al (q := true) rfl (cz (zs := [.string .empty, .int .i64 0, .int .i64 0, .int .i64 0, .string .empty, .bool false]) (l := [(0, .tmp 6)]) el50 (by kernel_rfl) (by decide) (by decide) (by decide) rfl rfl rfl (.more rfl (.v rfl (.v rfl (.v rfl (.v rfl (.v rfl (.v rfl .nil)))))) .nil) rfl rfl (fun v1_2 => ?_))
 refine aH (by (try simp only [nM, nN]); rfl) ?_
 refine aM rfl ?_
 refine aU rfl (dF (l := [(0, .const (.string ⟨#[102]⟩)), (3, .tmp 8)]) (zs := [.string .empty, .string .empty, .bool false, .int .i64 0, .int .i64 0, .int .i64 0, .int .i64 0, .int .i64 0, .int .i64 0, .int .i64 0]) (pl := [(0, 1), (1, 1), (2, 1), (3, 1), (4, 1), (5, 1), (6, 1), (7, 1), (8, 1), (9, 1)]) (by kernel_rfl) (by kernel_rfl) (by kernel_rfl) rfl rfl rfl) ?_
 refine al (q := true) rfl (cz (zs := [.string .empty, .string .empty, .bool false, .int .i64 0, .int .i64 0, .int .i64 0, .int .i64 0, .int .i64 0, .int .i64 0, .int .i64 0]) (l := [(0, .tmp 9)]) el51 (by kernel_rfl) (by decide) (by decide) (by decide) rfl rfl rfl (.more rfl (.v rfl (.v rfl (.v rfl (.v rfl (.v rfl (.v rfl (.v rfl (.v rfl (.v rfl (.v rfl .nil)))))))))) .nil) rfl rfl (fun v1_5 => ?_))
 refine aH (by (try simp only [nM, nN]); rfl) ?_
 refine aU rfl (dF (l := [(0, .tmp 5), (1, .tmp 7), (2, .tmp 10)]) (zs := [.string .empty, .slice none 0 0, .slice none 0 0, .slice none 0 0, .slice none 0 0, .slice none 0 0, .slice none 0 0, .slice none 0 0, .slice none 0 0, .slice none 0 0, .slice none 0 0]) (pl := [(0, 1), (1, 1), (2, 1), (3, 1), (4, 1), (5, 1), (6, 1), (7, 1), (8, 1), (9, 1), (10, 1)]) (by kernel_rfl) (by kernel_rfl) (by kernel_rfl) rfl rfl rfl) ?_
 refine al rfl (aW 0 tk61 rfl rfl rfl rfl ?_)
 refine aH (by (try simp only [nK, nL]); rfl) ?_
 refine aNn (aj ?_)
 refine rU [] [1, 2] rfl Tryz.results29 (cT 0 tk61 rfl rfl rfl) ?_ (.inr rfl)
 exact ⟨rfl, v1_2, v1_5, rfl, rfl⟩
def cO (a : Option Addr) : ar := ⟨⟨#[99]⟩, eh _, ⟨a, 1, [gn 1 (-1)]⟩, eh _, eh _, eh _, eh _, eh _, eh _, eh _, eh _⟩
def gu (b : Int) (a1 a2 a3 a4 a5 : Option Addr) : List ar := [oC ⟨#[97]⟩ b a1 a2, oC ⟨#[98]⟩ 1 a3 a4, cO a5]
def jj (k1 k2 : Option Addr) : List (Sl Bool) := [⟨k1, 1, [true]⟩, ⟨k2, 1, [true]⟩, eh Bool]
theorem yp (sv : ByteArray → ByteArray → Bool) (a1 a2 a3 a4 a5 k1 k2 : Option Addr) : cM (jj k1 k2) (bQ (gu 2 a1 a2 a3 a4 a5)) sv (cK []) false = none := by kernel_rfl
theorem yl (sv : ByteArray → ByteArray → Bool) (a1 a2 a3 a4 a5 k1 k2 : Option Addr) : hJ (gu 2 a1 a2 a3 a4 a5) (jj k1 k2) sv (cK []) false = [[⟨2, 1, 0, 0, 2, false⟩], [⟨2, 1, 0, 0, 2, false⟩], [⟨2, 1, 0, 0, 2, false⟩]] := by kernel_rfl
theorem xv (sv : ByteArray → ByteArray → Bool) (a1 a2 a3 a4 a5 k1 k2 : Option Addr) : cM (jj k1 k2) (bQ (gu 1 a1 a2 a3 a4 a5)) sv (cK []) false = some (4, ⟨1, 0⟩) := by kernel_rfl
theorem xy (sv : ByteArray → ByteArray → Bool) (a5 : Option Addr) : cM [eh Bool] (bQ [cO a5]) sv (cK []) false = some (3, ⟨0, 0⟩) := by kernel_rfl
theorem eO {α : Type} {row : α → List D} {w : World} {S : bE} : (ShF row (eh α)).holds w S := .e none 0 (by unfold maxLen; omega)
theorem fQ {α : Type} {f : α → Per} {w : World} {S : bE} : (bW f ([] : List α)).holds w S := fun _ h => by cases h
theorem uV {n : ByteArray} {s1 : Sl bM} {s2 : Sl bu} {w : World} {S : bE} (hn : n.size ≤ maxLen) (h1 : (ShF bM.row s1).holds w S) (h2 : ∀ s ∈ s1.l, s.name.size ≤ maxLen ∧ s.bytes.size ≤ maxLen) (h3 : (ShF bu.row s2).holds w S) (h4 : ∀ s ∈ s2.l, s.name.size ≤ maxLen ∧ s.version.size ≤ maxLen) :
   (ar.ok ⟨n, s1, s2, eh _, eh _, eh _, eh _, eh _, eh _, eh _, eh _⟩).holds w S :=
 ⟨hn, h1, fun s hs => h2 s hs, h3, fun s hs => h4 s hs, eO, eO, fQ, eO, eO, fQ, eO, fQ, eO, fQ, eO, eO, fQ⟩
theorem qF {n : ByteArray} {b : Int} {a1 a2 : Option Addr} {w : World} {S : bE} (hn : n.size ≤ maxLen) (h1 : (ShF bM.row ⟨a1, 1, [tC]⟩).holds w S) (h2 : (ShF bu.row ⟨a2, 1, [gn b 0]⟩).holds w S) : (ar.ok (oC n b a1 a2)).holds w S :=
 uV hn h1 (fun s hs => by rw [List.mem_singleton.1 hs]; unfold maxLen; exact ⟨by decide, by decide⟩) h2 (fun s hs => by rw [List.mem_singleton.1 hs]; unfold maxLen; exact ⟨by show 1 ≤ _; omega, by show 0 ≤ _; omega⟩)
theorem yA {a : Option Addr} {w : World} {S : bE} (h2 : (ShF bu.row ⟨a, 1, [gn 1 (-1)]⟩).holds w S) : (ar.ok (cO a)).holds w S :=
 uV (by unfold maxLen; show 1 ≤ _; omega) eO (fun s hs => by cases hs) h2 (fun s hs => by rw [List.mem_singleton.1 hs]; unfold maxLen; exact ⟨by show 1 ≤ _; omega, by show 0 ≤ _; omega⟩)
theorem qJ {α β : Type} {T : TypeId} {sz : Nat} {row : β → List D} {m : α → Option (Sl β)} (hr : ∀ x : β, ∀ d ∈ row x, ∃ u, d = D.v u) : vU (dP T sz row m) := fun w S S' F ⟨fp, h1, h2, h3, h4⟩ =>
 ⟨fp, fun k s hk => my (fun r hr2 d hd => by obtain ⟨x, _, rfl⟩ := List.mem_map.1 hr2; exact hr x d hd) w S S' _ (h1 k s hk), h2, h3, h4⟩
theorem wB (b : Int) (a1 a2 a3 a4 a5 k1 k2 : Option Addr) : gG (gu b a1 a2 a3 a4 a5) (jj k1 k2) where
 n := show 3 ≤ 5 by decide
 sy o ho := by
   simp only [gu, List.mem_cons, List.not_mem_nil, or_false] at ho
   rcases ho with rfl | rfl | rfl <;> show 1 ≤ 14 <;> decide
 kn := rfl
 ks i hi := by
   have : i = 0 ∨ i = 1 ∨ i = 2 := by simp [gu] at hi; omega
   rcases this with rfl | rfl | rfl <;> rfl
 sec o ho s hs := by
   simp only [gu, List.mem_cons, List.not_mem_nil, or_false] at ho
   rcases ho with rfl | rfl | rfl <;> rw [List.mem_singleton.1 hs]
   · exact .inr ⟨Int.le_refl _, show (0 : Int) < ((1 : Nat) : Int) by decide⟩
   · exact .inr ⟨Int.le_refl _, show (0 : Int) < ((1 : Nat) : Int) by decide⟩
   · exact .inl ⟨rfl, by decide⟩
end Go.Proofs.YtgmiihmahaahiaaGreatDoor

namespace Go.Proofs.YtgmiihmahaahiaaGreatDoor
open Go.RowKit Go.Lp Go.Sy
open Go.Proofs.Tryz
abbrev tG (b : Int) (ao a1 a2 a3 a4 a5 ak k1 k2 : Option Addr) : List Per :=
 [ShF ar.row ⟨ao, 3, gu b a1 a2 a3 a4 a5⟩, ShF bM.row ⟨a1, 1, [tC]⟩, ShF bM.row ⟨a3, 1, [tC]⟩, ShF bu.row ⟨a4, 1, [gn 1 0]⟩, ShF bu.row ⟨a5, 1, [gn 1 (-1)]⟩, ShF slR ⟨ak, 3, jj k1 k2⟩, ShF bR ⟨k1, 1, [true]⟩, ShF bR ⟨k2, 1, [true]⟩]
abbrev exX (b : Int) (ao a1 a2 a3 a4 a5 ak k1 k2 : Option Addr) : cg := ⟨⟨ao, 3, gu b a1 a2 a3 a4 a5⟩, ⟨ak, 3, jj k1 k2⟩, false, eh _, eh _, 0, 0, 0, 0⟩
theorem yn (b : Int) (ao a1 a2 a3 a4 a5 ak k1 k2 : Option Addr) : Ent (ShF bu.row ⟨a2, 1, [gn b 0]⟩ :: tG b ao a1 a2 a3 a4 a5 ak k1 k2) (exX b ao a1 a2 a3 a4 a5 ak k1 k2).ok := fun w S hp => by
 have p0 := hp _ (an 0 rfl)
 have p1 := hp _ (an 1 rfl)
 have p2 := hp _ (an 2 rfl)
 have p3 := hp _ (an 3 rfl)
 have p4 := hp _ (an 4 rfl)
 have p5 := hp _ (an 5 rfl)
 have p6 := hp _ (an 6 rfl)
 have p7 := hp _ (an 7 rfl)
 have p8 := hp _ (an 8 rfl)
 refine ⟨p1, fun o ho => ?_, p6, fun s hs => ?_, eO, fQ, eO, fQ⟩
 · simp only [gu, List.mem_cons, List.not_mem_nil, or_false] at ho
   rcases ho with rfl | rfl | rfl
   · exact qF (by unfold maxLen; show 1 ≤ _; omega) p2 p0
   · exact qF (by unfold maxLen; show 1 ≤ _; omega) p3 p4
   · exact yA p5
 · simp only [jj, List.mem_cons, List.not_mem_nil, or_false] at hs
   rcases hs with rfl | rfl | rfl
   · exact p7
   · exact p8
   · exact eO
theorem pZ (b : Int) (ao a1 a2 a3 a4 a5 ak k1 k2 : Option Addr) :
   Con Tryz.prog 13 [.slice ao 3 3, .slice ak 3 3, .bool false, .slice none 0 0, .slice none 0 0] (tG b ao a1 a2 a3 a4 a5 ak k1 k2) [bH (.slice a2 1 1) 63 10 ([gn b 0].map bu.row)]
     fun r ps hp => ps = [] ∧ ∃ hp2, hp = bH (.slice a2 1 1) 63 10 ([gn b 0].map bu.row) :: hp2 ∧
       ((∃ c p, cM (jj k1 k2) (bQ (gu b a1 a2 a3 a4 a5)) (eB []) (cK []) false = some (c, p) ∧ r = .tuple #[.slice none 0 0, .int .i64 c, p.val] ∧ hp2 = []) ∨
       (cM (jj k1 k2) (bQ (gu b a1 a2 a3 a4 a5)) (eB []) (cK []) false = none ∧ ∃ (ad : Option Addr) (t : BS), iV (cr (jj k1 k2) (bQ (gu b a1 a2 a3 a4 a5)) (eB []) (cK []) false) (bQ (gu b a1 a2 a3 a4 a5)) t ∧ r = .tuple #[.slice ad 3 3, .int .i64 0, (⟨0, 0⟩ : aD).val] ∧
         hp2 = [bH (.slice ad 3 3) 66 1 (gU t.mC 3), dP 65 6 aT.row t.mC])) := by
 have h := (jN (exX b ao a1 a2 a3 a4 a5 ak k1 k2) (wB b a1 a2 a3 a4 a5 k1 k2) (eB []) (fun _ _ => gV)).pre (ps0 := ShF bu.row ⟨a2, 1, [gn b 0]⟩ :: tG b ao a1 a2 a3 a4 a5 ak k1 k2) fun p hp => (List.mem_singleton.1 hp) ▸ yn b ao a1 a2 a3 a4 a5 ak k1 k2
 refine (Con.borrowL h [bH (.slice a2 1 1) 63 10 ([gn b 0].map bu.row)] (fun w S fp hres => (et (hres 0 _ rfl)).mono (fun _ _ => rfl) fun b hb => hb.imp id fun hf => ⟨0, by simp, hf⟩) ?_).post ?_
 · rintro v ps' hp' ⟨_, ⟨c, p, _, _, rfl⟩ | ⟨_, ad, t, _, _, rfl⟩⟩ A hA
   · cases hA
   · simp only [List.mem_cons, List.not_mem_nil, or_false] at hA
     rcases hA with rfl | rfl
     · exact my fun r hr d hd => by
         obtain ⟨i, _, rfl⟩ := List.mem_map.1 hr
         rw [List.mem_singleton.1 hd]; exact ⟨_, rfl⟩
     · exact qJ fun x d hd => by
         simp only [List.mem_cons, List.not_mem_nil, or_false] at hd
         rcases hd with rfl | rfl | rfl | rfl | rfl | rfl <;> exact ⟨_, rfl⟩
 · rintro v ps' hp' ⟨h1, ps2, hp2, ⟨_, h2⟩, h3⟩
   exact ⟨h1, hp2, h3, h2⟩
end Go.Proofs.YtgmiihmahaahiaaGreatDoor

namespace Go.Proofs.YtgmiihmahaahiaaGreatDoor
open Go.RowKit Go.Lp Go.Sy
open Go.Proofs.Tryz
theorem wx (ao a1 a2 a3 a4 a5 ak k1 k2 : Option Addr) :
   Con Tryz.prog 13 [.slice ao 3 3, .slice ak 3 3, .bool false, .slice none 0 0, .slice none 0 0] (tG 2 ao a1 a2 a3 a4 a5 ak k1 k2) [bH (.slice a2 1 1) 63 10 ([gn 2 0].map bu.row)]
     fun r ps hp => ps = [] ∧ ∃ (ad : Option Addr) (m : Nat → Option (Sl aT)), (chS ad 3 m).l.map (·.l) = [[⟨2, 1, 0, 0, 2, false⟩], [⟨2, 1, 0, 0, 2, false⟩], [⟨2, 1, 0, 0, 2, false⟩]] ∧ r = .tuple #[.slice ad 3 3, .int .i64 0, (⟨0, 0⟩ : aD).val] ∧
       hp = [bH (.slice a2 1 1) 63 10 ([gn 2 0].map bu.row), bH (.slice ad 3 3) 66 1 (gU m 3), dP 65 6 aT.row m] := by
 refine (pZ 2 ao a1 a2 a3 a4 a5 ak k1 k2).post ?_
 rintro v ps' hp' ⟨h1, hp2, h3, ⟨c, p, h4, _⟩ | ⟨_, ad, t, hT, rfl, rfl⟩⟩
 · rw [yp] at h4; cases h4
 · refine ⟨h1, ad, t.mC, ?_, rfl, h3⟩
   rw [← yl (eB []) a1 a2 a3 a4 a5 k1 k2]
   show List.map (fun s : Sl aT => s.l) ((List.range 3).map (ct t.mC)) = _
   rw [List.map_map]
   unfold hJ rC
   refine List.map_congr_left fun i hi => ?_
   show (ct t.mC i).l = _
   rw [hT.rows, show bQ (gu 2 a1 a2 a3 a4 a5) = cI (gu 2 a1 a2 a3 a4 a5) 3 from rfl, gz, if_pos (List.mem_range.1 hi)]
theorem wU (ao a1 a2 a3 a4 a5 ak k1 k2 : Option Addr) :
   Con Tryz.prog 13 [.slice ao 3 3, .slice ak 3 3, .bool false, .slice none 0 0, .slice none 0 0] (tG 1 ao a1 a2 a3 a4 a5 ak k1 k2) [bH (.slice a2 1 1) 63 10 ([gn 1 0].map bu.row)]
     fun r ps hp => ps = [] ∧ r = .tuple #[.slice none 0 0, .int .i64 4, (⟨1, 0⟩ : aD).val] ∧ hp = [bH (.slice a2 1 1) 63 10 ([gn 1 0].map bu.row)] := by
 refine (pZ 1 ao a1 a2 a3 a4 a5 ak k1 k2).post ?_
 rintro v ps' hp' ⟨h1, hp2, h3, ⟨c, p, h4, rfl, rfl⟩ | ⟨h4, _⟩⟩
 · rw [xv] at h4
   simp only [Option.some.injEq, Prod.mk.injEq] at h4
   obtain ⟨rfl, rfl⟩ := h4
   exact ⟨h1, rfl, h3⟩
 · rw [xv] at h4; cases h4
end Go.Proofs.YtgmiihmahaahiaaGreatDoor

namespace Go.Proofs.YtgmiihmahaahiaaGreatDoor
open Go.RowKit Go.Lp Go.Sy
open Go.Proofs.Tryz
attribute [local irreducible] aL aB awp aC fwp
theorem oU {w : World} {S : bE} {b o n c sz : Nat} {rows : List (List D)} (h : ei w S (.slice (some ⟨b, o, none⟩) n c) (.sl rows)) (l m : Nat) (hsz : ∀ r ∈ rows, r.length = sz) (hl : l < m) (hm : m ≤ rows.length) :
   ei w S (.slice (some ⟨b, o + l * sz, none⟩) ((rows.take m).drop l).length (c - l)) (.sl ((rows.take m).drop l)) := by
 cases h with
 | e a c hc => simp at hm; omega
 | sl b o c sz2 rows us hb hn hc hr hcell hd =>
   have h0 : rows[0]? = some (rows[0]'(by omega)) := List.getElem?_eq_getElem (by omega)
   obtain rfl : sz2 = sz := by rw [← hr 0 _ h0, hsz _ (List.getElem_mem _)]
   have key : ∀ (i : Nat) (r : List D), ((rows.take m).drop l)[i]? = some r → rows[l + i]? = some r := fun i r h => by
     rw [List.getElem?_drop, List.getElem?_take] at h
     split at h
     · exact h
     · cases h
   refine .sl b (o + l * sz2) (c - l) sz2 _ (fun i j => us (l + i) j) hb (by simp; omega) (by omega) (fun i r hi => hr _ r (key i r hi)) (fun i j r d hi hj => ?_) (fun i j r d hi hj => hd _ j r d (key i r hi) hj)
   rw [show o + l * sz2 + i * sz2 + j = o + (l + i) * sz2 + j by rw [Nat.add_mul]; omega]
   exact hcell _ j r d (key i r hi) hj
theorem np {P : Program} {n : Fr} {Q : Exit → Sta → Prop} {s : Sta} {c : Code} {ad : Option Addr} {k cp : Nat} {rows : List (List D)} (hs : Ent s.ps (Sh (.slice ad k cp) (.sl rows))) (h0 : rows ≠ []) (h : ∀ B o, ad = some ⟨B, o, none⟩ → awp P n c Q s) : awp P n c Q s :=
 jw (φ := ∃ B o, ad = some ⟨B, o, none⟩) (fun w S fp hst => by
   have h : ei w S (.slice ad k cp) (.sl rows) := hs w S hst.per
   cases h with
   | e a c hc => exact (h0 rfl).elim
   | sl b o c sz rows us hb hn hc _ _ _ => exact ⟨_, _, rfl⟩) (fun ⟨B, o, e⟩ => h B o e)
theorem xE (a5 : Option Addr) : gG [cO a5] [eh Bool] where
 n := show 1 ≤ 5 by decide
 sy o ho := by rw [List.mem_singleton.1 ho]; show 1 ≤ 14; decide
 kn := rfl
 ks i hi := by
   have : i = 0 := by simp at hi; omega
   subst this; rfl
 sec o ho s hs := by
   rw [List.mem_singleton.1 ho] at hs
   rw [List.mem_singleton.1 hs]; exact .inl ⟨rfl, by decide⟩
theorem xA (B o B2 o2 : Nat) (b : Int) (a1 a2 a3 a4 a5 k1 k2 : Option Addr) :
   Ent [ShF ar.row ⟨some ⟨B, o, none⟩, 3, gu b a1 a2 a3 a4 a5⟩, ShF bu.row ⟨a5, 1, [gn 1 (-1)]⟩, ShF slR ⟨some ⟨B2, o2, none⟩, 3, jj k1 k2⟩] (cg.ok ⟨⟨some ⟨B, o + 2 * 11, none⟩, 1, [cO a5]⟩, ⟨some ⟨B2, o2 + 2 * 1, none⟩, 1, [eh Bool]⟩, false, eh _, eh _, 0, 0, 0, 0⟩) := fun w S hp => by
 have p0 := hp _ (an 0 rfl)
 have p1 := hp _ (an 1 rfl)
 have p2 := hp _ (an 2 rfl)
 refine ⟨oU p0 2 3 (fun r hr => ?_) (by decide) (show 3 ≤ 3 by decide), fun o ho => ?_, oU p2 2 3 (fun r hr => ?_) (by decide) (show 3 ≤ 3 by decide), fun s hs => ?_, eO, fQ, eO, fQ⟩
 · obtain ⟨x, _, rfl⟩ := List.mem_map.1 hr; rfl
 · rw [List.mem_singleton.1 ho]; exact yA p1
 · obtain ⟨x, _, rfl⟩ := List.mem_map.1 hr; rfl
 · rw [List.mem_singleton.1 hs]; exact eO
theorem rP (B o B2 o2 : Nat) (b : Int) (a1 a2 a3 a4 a5 k1 k2 : Option Addr) :
   Con Tryz.prog 13 [.slice (some ⟨B, o + 2 * 11, none⟩) 1 1, .slice (some ⟨B2, o2 + 2 * 1, none⟩) 1 1, .bool false, .slice none 0 0, .slice none 0 0] [ShF ar.row ⟨some ⟨B, o, none⟩, 3, gu b a1 a2 a3 a4 a5⟩, ShF bu.row ⟨a5, 1, [gn 1 (-1)]⟩, ShF slR ⟨some ⟨B2, o2, none⟩, 3, jj k1 k2⟩] []
     fun r ps hp => ps = [] ∧ r = .tuple #[.slice none 0 0, .int .i64 3, (⟨0, 0⟩ : aD).val] ∧ hp = [] := by
 refine ((jN ⟨⟨some ⟨B, o + 2 * 11, none⟩, 1, [cO a5]⟩, ⟨some ⟨B2, o2 + 2 * 1, none⟩, 1, [eh Bool]⟩, false, eh _, eh _, 0, 0, 0, 0⟩ (xE a5) (eB []) (fun _ _ => gV)).pre fun p hp => (List.mem_singleton.1 hp) ▸ xA B o B2 o2 b a1 a2 a3 a4 a5 k1 k2).post ?_
 rintro v ps' hp' ⟨h1, ⟨c, p, h4, rfl, rfl⟩ | ⟨h4, _⟩⟩
 · have h5 := xy (eB []) a5
   rw [h5] at h4
   simp only [Option.some.injEq, Prod.mk.injEq] at h4
   obtain ⟨rfl, rfl⟩ := h4
   exact ⟨h1, rfl, rfl⟩
 · have h5 := xy (eB []) a5
   rw [h5] at h4; cases h4
theorem uE (ao a1 a2 a3 a4 a5 ak k1 k2 : Option Addr) :
   Con Tryz.prog 13 [.slice ao 3 3, .slice ak 3 3, .bool false, .slice none 0 0, .slice none 0 0] (tG 2 ao a1 a2 a3 a4 a5 ak k1 k2) [bH (.slice a2 1 1) 63 10 ([gn 2 0].map bu.row)]
     fun r ps hp => hp = [bH (.slice a2 1 1) 63 10 ([gn 2 0].map bu.row)] ∧ ∃ (ad : Option Addr) (s0 s1 s2 : Sl aT), ps = [bW (ShF aT.row) [s0, s1, s2], ShF slR ⟨ad, 3, [s0, s1, s2]⟩] ∧ s0.l = [⟨2, 1, 0, 0, 2, false⟩] ∧ s1.l = [⟨2, 1, 0, 0, 2, false⟩] ∧ s2.l = [⟨2, 1, 0, 0, 2, false⟩] ∧
       r = .tuple #[.slice ad 3 3, .int .i64 0, (⟨0, 0⟩ : aD).val] := by
 refine Con.conv (wx ao a1 a2 a3 a4 a5 ak k1 k2) fun r ps' hp' ⟨h1, ad, m, hm, hr, h2⟩ => ?_
 subst h1 h2
 refine ⟨_, _, ((StE.share 1 (Sh (.slice ad 3 3) (.sl (gU m 3))) rfl fun _ _ _ h => et h).trans ((StE.share 2 (Go.Sy.fB aT.row m) rfl fun _ _ _ h => kQ h).trans ((StE.keep [0, 1] [0] rfl).trans (StE.ents (ps' := [bW (ShF aT.row) (chS ad 3 m).l, ShF slR (chS ad 3 m)]) fun q hq => ?_)))), rfl, ad, ct m 0, ct m 1, ct m 2, rfl, ?_⟩
 · simp only [List.mem_cons, List.not_mem_nil, or_false] at hq
   rcases hq with rfl | rfl
   · intro w S hp s hs
     obtain ⟨i, _, rfl⟩ := List.mem_map.1 hs
     exact Ent.ct (row := aT.row) (m := m) (.of (an 1 rfl)) i w S hp
   · intro w S hp
     exact hp _ (an 0 rfl)
 · have hm2 : [(ct m 0).l, (ct m 1).l, (ct m 2).l] = _ := hm
   simp only [List.cons.injEq, and_true] at hm2
   exact ⟨hm2.1, hm2.2.1, hm2.2.2, hr⟩
def chE : aT := ⟨2, 0, 0, 0, 1, false⟩
theorem xY (a3 a4 : Option Addr) (kp : Sl Bool) (hk : kp.l.length = 1) : gG [oC ⟨#[98]⟩ 1 a3 a4] [kp] where
 n := show 1 ≤ 5 by decide
 sy o ho := by rw [List.mem_singleton.1 ho]; show 1 ≤ 14; decide
 kn := rfl
 ks i hi := by
   have : i = 0 := by simp at hi; omega
   subst this; exact hk
 sec o ho s hs := by
   rw [List.mem_singleton.1 ho] at hs ⊢
   rw [List.mem_singleton.1 hs]; exact .inr ⟨Int.le_refl _, show (0 : Int) < ((1 : Nat) : Int) by decide⟩
theorem xK (a3 a4 c : Option Addr) : iN [⟨c, 1, [chE]⟩] (bQ [oC ⟨#[98]⟩ 1 a3 a4]) (bQ [oC ⟨#[98]⟩ 1 a3 a4]) = [⟨⟨#[102]⟩, .empty, true, 0, 0, 0, false⟩] := by kernel_rfl
theorem mP (B o : Nat) (b : Int) (a1 a2 a3 a4 a5 c d : Option Addr) (kv : Value) :
   Con Tryz.prog 18 [.slice (some ⟨B, o + 1 * 11, none⟩) 1 2, kv, .slice d 1 1] [ShF ar.row ⟨some ⟨B, o, none⟩, 3, gu b a1 a2 a3 a4 a5⟩, ShF bM.row ⟨a3, 1, [tC]⟩, ShF bu.row ⟨a4, 1, [gn 1 0]⟩, ShF aT.row ⟨c, 1, [chE]⟩, ShF slR ⟨d, 1, [⟨c, 1, [chE]⟩]⟩] []
     fun r ps hp => ps = [] ∧ ∃ v, r = v ∧ hp = [bH v 46 7 ([(⟨⟨#[102]⟩, .empty, true, 0, 0, 0, false⟩ : cn)].map cn.row)] := by
 refine ((oa ⟨some ⟨B, o + 1 * 11, none⟩, 2, [oC ⟨#[98]⟩ 1 a3 a4]⟩ [⟨none, 1, [true]⟩] kv (xY a3 a4 _ rfl) ⟨d, 1, [⟨c, 1, [chE]⟩]⟩ rfl (fun i hi => ?_)).pre fun p hp => ?_).post ?_
 · have : i = 0 := by simp at hi; omega
   subst this; rfl
 · simp only [List.mem_cons, List.not_mem_nil, or_false] at hp
   rcases hp with rfl | rfl | rfl | rfl
   · exact fun w S h => oU (h _ (an 0 rfl)) 1 2 (fun r hr => by obtain ⟨x, _, rfl⟩ := List.mem_map.1 hr; rfl) (by decide) (show 2 ≤ 3 by decide)
   · exact fun w S h x hx => by rw [List.mem_singleton.1 hx]; exact qF (by unfold maxLen; show 1 ≤ _; omega) (h _ (an 1 rfl)) (h _ (an 2 rfl))
   · exact fun w S h x hx => by rw [List.mem_singleton.1 hx]; exact h _ (an 3 rfl)
   · exact .of (an 4 rfl)
 · rintro r ps' hp' ⟨h1, v, q, rfl, hq, _, rfl⟩
   rw [show iN _ _ _ = _ from xK a3 a4 c] at hq
   rw [List.perm_singleton.1 hq]
   exact ⟨h1, _, rfl, rfl⟩
theorem pJ : Con Tryz.prog 10 [] [] [] fun r _ _ => r = .bool true := by
 refine Con.enter Tryz.func10 rfl (by simp [Tryz.ntmps10]) ?_
 show awp _ _ _ _ ⟨[], _, _⟩
 refine aSR (aA rfl (aNn (aSR ?_)))
 refine al (q := true) rfl (bF [] [] (by kernel_rfl) rfl rfl rfl rfl (mU ⟨#[97]⟩ 2) ?_)
 rintro _ _ _ ⟨rfl, a1, a2, rfl, rfl⟩
 refine cB (by (try simp only [nM, nN]); rfl) (by (try simp only [aV, place, Nat.reduceBEq, if_true, if_false, reduceIte, Nat.reduceAdd, nW]); rfl) ?_
 refine al (q := true) rfl (bF [] [] (by kernel_rfl) rfl rfl rfl rfl (mU ⟨#[98]⟩ 1) ?_)
 rintro _ _ _ ⟨rfl, a3, a4, rfl, rfl⟩
 refine cB (by (try simp only [nM, nN]); rfl) (by (try simp only [aV, place, Nat.reduceBEq, if_true, if_false, reduceIte, Nat.reduceAdd, nW]); rfl) ?_
 refine aU rfl (dF (l := [(0, .const (.string ⟨#[102]⟩)), (3, .const (.int .i64 1)), (6, .const (.int .i64 (-1)))]) (zs := [.string .empty, .string .empty, .bool false, .int .i64 0, .int .i64 0, .int .i64 0, .int .i64 0, .int .i64 0, .int .i64 0, .int .i64 0]) (pl := [(0, 1), (1, 1), (2, 1), (3, 1), (4, 1), (5, 1), (6, 1), (7, 1), (8, 1), (9, 1)]) (by kernel_rfl) (by kernel_rfl) (by kernel_rfl) rfl rfl rfl) ?_
 refine fS (zs := [.string .empty, .string .empty, .bool false, .int .i64 0, .int .i64 0, .int .i64 0, .int .i64 0, .int .i64 0, .int .i64 0, .int .i64 0]) (l := [(0, .tmp 16)]) el51 (by kernel_rfl) (by decide) (by decide) (by decide) rfl _ rfl (fun hc => rfl) rfl (.more rfl (.v rfl (.v rfl (.v rfl (.v rfl (.v rfl (.v rfl (.v rfl (.v rfl (.v rfl (.v rfl .nil)))))))))) .nil) rfl rfl (fun v1_3 => ?_)
 refine aU rfl (dF (l := [(0, .const (.string ⟨#[99]⟩)), (2, .tmp 17)]) (zs := [.string .empty, .slice none 0 0, .slice none 0 0, .slice none 0 0, .slice none 0 0, .slice none 0 0, .slice none 0 0, .slice none 0 0, .slice none 0 0, .slice none 0 0, .slice none 0 0]) (pl := [(0, 1), (1, 1), (2, 1), (3, 1), (4, 1), (5, 1), (6, 1), (7, 1), (8, 1), (9, 1), (10, 1)]) (by kernel_rfl) (by kernel_rfl) (by kernel_rfl) rfl rfl rfl) ?_
 refine fS (zs := [.string .empty, .slice none 0 0, .slice none 0 0, .slice none 0 0, .slice none 0 0, .slice none 0 0, .slice none 0 0, .slice none 0 0, .slice none 0 0, .slice none 0 0, .slice none 0 0]) (l := [(0, .tmp 14), (1, .tmp 15), (2, .tmp 18)]) el22 (by kernel_rfl) (by decide) (by decide) (by decide) rfl _ rfl (fun hc => rfl) rfl (.more rfl (.v rfl (.v rfl (.v rfl (.v rfl (.v rfl (.v rfl (.v rfl (.v rfl (.v rfl (.v rfl (.v rfl .nil))))))))))) (.more rfl (.v rfl (.v rfl (.v rfl (.v rfl (.v rfl (.v rfl (.v rfl (.v rfl (.v rfl (.v rfl (.v rfl .nil))))))))))) (.more rfl (.v rfl (.v rfl (.v rfl (.v rfl (.v rfl (.v rfl (.v rfl (.v rfl (.v rfl (.v rfl (.v rfl .nil))))))))))) .nil))) rfl rfl (fun v1_5 => ?_)
 refine aA rfl (aNn (aSR ?_))
 refine fS (zs := [.bool false]) (l := [(0, .const (.bool true))]) el68 (by kernel_rfl) (by decide) (by decide) (by decide) rfl _ rfl (fun hc => rfl) rfl (.more rfl (.v rfl .nil) .nil) rfl rfl (fun v2_0 => ?_)
 refine fS (zs := [.bool false]) (l := [(0, .const (.bool true))]) el68 (by kernel_rfl) (by decide) (by decide) (by decide) rfl _ rfl (fun hc => rfl) rfl (.more rfl (.v rfl .nil) .nil) rfl rfl (fun v2_1 => ?_)
 refine fS (zs := [.slice none 0 0]) (l := [(0, .tmp 20), (1, .tmp 21), (2, .const (.slice none 0 0))]) el27 (by kernel_rfl) (by decide) (by decide) (by decide) rfl _ rfl (fun hc => rfl) rfl (.more rfl (.v rfl .nil) (.more rfl (.v rfl .nil) (.more rfl (.v rfl .nil) .nil))) rfl rfl (fun v2_2 => ?_)
 refine aA rfl (aNs ?_)
 refine gA 0 rfl (gA 2 rfl (gA 3 rfl ?_))
 refine eL (ShF ar.row ⟨v1_5, 3, gu 2 a1 a2 a3 a4 v1_3⟩) (.yes (.of (an 6 rfl)) rfl) (eL (ShF bu.row ⟨v1_3, 1, [gn 1 (-1)]⟩) (.yes (.of (an 8 rfl)) rfl) (eL (ShF slR ⟨v2_2, 3, jj v2_0 v2_1⟩) (.yes (.of (an 5 rfl)) rfl) (eL (ShF bR ⟨v2_0, 1, [true]⟩) (.yes (.of (an 8 rfl)) rfl) (eL (ShF bR ⟨v2_1, 1, [true]⟩) (.yes (.of (an 8 rfl)) rfl) (ai (aM rfl (aM rfl ?_)))))))
 refine al (q := false) rfl (bF [8, 5, 6, 7, 9, 10, 11, 12] [1] (by kernel_rfl) rfl rfl rfl rfl (uE v1_5 a1 a2 a3 a4 v1_3 v2_2 v2_0 v2_1) ?_)
 rintro _ _ _ ⟨rfl, ad, s0, s1, s2, rfl, e0, e1, e2, rfl⟩
 refine cB (by (try simp only [nM, nN]); rfl) (by (try simp only [aV, place, Nat.reduceBEq, if_true, if_false, reduceIte, Nat.reduceAdd, nW]); rfl) ?_
 refine aM rfl (aU rfl (aJ rfl rfl) (aU rfl (aJ rfl rfl) (aU rfl (aJ rfl rfl) ?_)))
 refine al (q := true) rfl (bp (zs := [.int .i64 0, .int .i64 0]) (by kernel_rfl) rfl (fun b3_7 => ?_))
 refine aH (by (try simp only [nM, nN]); rfl) ?_
 refine aA rfl (aA rfl ?_)
 refine al rfl (aW 4 tk34 rfl rfl rfl rfl ?_)
 refine aH (by (try simp only [nK, nL]); rfl) ?_
 refine aNn (aSR ?_)
 refine aU rfl (dF (l := [(0, .const (.int .i64 2)), (1, .const (.int .i64 1)), (4, .const (.int .i64 2))]) (zs := [.int .i64 0, .int .i64 0, .int .i64 0, .int .i64 0, .int .i64 0, .bool false]) (pl := [(0, 1), (1, 1), (2, 1), (3, 1), (4, 1), (5, 1)]) (by kernel_rfl) (by kernel_rfl) (by kernel_rfl) rfl rfl rfl) ?_
 refine al (q := true) rfl (bp (zs := [.int .i64 0, .int .i64 0, .int .i64 0, .int .i64 0, .int .i64 0, .bool false]) (by kernel_rfl) rfl (fun b4_1 => ?_))
 refine aH (by (try simp only [nM, nN]); rfl) ?_
 refine al rfl (aW 5 tk65 rfl rfl rfl rfl ?_)
 refine aH (by (try simp only [nK, nL]); rfl) ?_
 refine aNn (aSR (aM rfl ?_))
 refine cF true rfl rfl (fun _ => av Tryz.underlying22 tk61 rfl ((.of (an 6 rfl))) rfl (show _ = some (ar.row (oC ⟨#[97]⟩ 2 a1 a2)) from rfl) rfl rfl) (fun h => absurd h (by decide)) (fun ⟨b5_1, o5_1⟩ => ?_)
 refine aU rfl (aa (off := 2) (by kernel_rfl) rfl) ?_
 refine aU rfl (aR (o := 2) tk51 rfl (an 0 rfl) rfl rfl) ?_
 refine aU rfl (dU 1 0 el51 rfl rfl rfl rfl (by decide)) ?_
 refine aU rfl (aa (off := 3) (by kernel_rfl) rfl) ?_
 refine al (q := false) rfl (gH 1 0 3 tk3 rfl rfl rfl rfl rfl (.v rfl .nil) rfl (by decide) ?_)
 refine aNn (aSR (aM rfl (aM rfl ?_)))
 refine al (q := false) rfl (bF [8, 5, 6, 7, 9, 10, 11, 12] [1] (by kernel_rfl) rfl rfl rfl rfl (wU v1_5 a1 a2 a3 a4 v1_3 v2_2 v2_0 v2_1) ?_)
 rintro _ _ _ ⟨rfl, rfl, rfl⟩
 refine cB (by (try simp only [nM, nN]); rfl) (by (try simp only [aV, place, Nat.reduceBEq, if_true, if_false, reduceIte, Nat.reduceAdd, nW]); rfl) ?_
 refine aM rfl (aU rfl (aJ rfl rfl) (aU rfl (aJ rfl rfl) (aU rfl (aJ rfl rfl) ?_)))
 refine al (q := true) rfl (bp (zs := [.int .i64 0, .int .i64 0]) (by kernel_rfl) rfl (fun b6_7 => ?_))
 refine aH (by (try simp only [nM, nN]); rfl) ?_
 refine aA rfl (aA rfl ?_)
 refine al rfl (aW 6 tk34 rfl rfl rfl rfl ?_)
 refine aH (by (try simp only [nK, nL]); rfl) ?_
 refine aNs ?_
 refine np (.of (an 7 rfl)) (by simp [gu]) (fun B o h => ?_)
 refine np (.of (an 5 rfl)) (by simp [jj]) (fun B2 o2 h2 => ?_)
 subst h h2
 refine bn [12] (by kernel_rfl) ?_
 show aB _ _ _ _ _ 13 #[false, false, false, false, false, false, false, false, false, false, false, false, false] _
 refine bU 0 rfl (by kernel_rfl) rfl (aq rfl) ?_
 refine bU 1 rfl (by kernel_rfl) rfl (iD 2 1 (o + 2 * 11) el22 rfl rfl rfl (show 2 < 3 by decide) (show 3 ≤ 3 by decide) rfl rfl) ?_
 refine bU 2 rfl (by kernel_rfl) rfl (aq rfl) ?_
 refine bU 3 rfl (by kernel_rfl) rfl (iD 2 1 (o2 + 2 * 1) el27 rfl rfl rfl (show 2 < 3 by decide) (show 3 ≤ 3 by decide) rfl rfl) ?_
 refine xr (qi := true) (qj := true) 4 9 (by kernel_rfl) rfl rfl rfl rfl rfl rfl ?_ ?_
 ·skip
  refine id (bF [8, 9, 10] [] (by kernel_rfl) rfl rfl rfl rfl (rP B o B2 o2 2 a1 a2 a3 a4 v1_3 v2_0 v2_1) ?_)
  rintro _ _ _ ⟨rfl, rfl, rfl⟩
  refine cq rfl (by (try simp only [nM, nN]); rfl) (by (try simp only [aV, place, Nat.reduceBEq, if_true, if_false, reduceIte, Nat.reduceAdd, nW]); rfl) ?_
  refine bU 5 rfl (by kernel_rfl) rfl (aq rfl) ?_
  refine bU 6 rfl (by kernel_rfl) rfl (aJ rfl rfl) ?_
  refine bU 7 rfl (by kernel_rfl) rfl (aJ rfl rfl) ?_
  refine bU 8 rfl (by kernel_rfl) rfl (aJ rfl rfl) ?_
  refine bV (q := true) 9 rfl (by kernel_rfl) rfl rfl (bp (zs := [.int .i64 0, .int .i64 0]) (by kernel_rfl) rfl (fun b7_9 => ?_))
  refine cq rfl (by (try simp only [nM, nN]); rfl) (by (try simp only [aV, place, Nat.reduceBEq, if_true, if_false, reduceIte, Nat.reduceAdd, nW]); rfl) ?_
  refine bU 10 rfl (by kernel_rfl) rfl (bk rfl) ?_
  refine bU 11 rfl (by kernel_rfl) rfl (bk rfl) ?_
  refine bV 12 rfl (by kernel_rfl) rfl rfl (aW 7 tk34 rfl rfl rfl rfl ?_)
  refine cq rfl (by (try simp only [nM, nN]); rfl) (by (try simp only [aV, place, Nat.reduceBEq, if_true, if_false, reduceIte, Nat.reduceAdd, nW]); rfl) ?_
  refine bS (by kernel_rfl) ?_
  refine aw (az (aSR (aM rfl (aU rfl (cN rfl rfl) (aM rfl (aG rfl rfl (fun hc => aq rfl) (aG rfl rfl (fun hc => bq Tryz.underlying31 (ab rfl hc)) (aG rfl rfl (fun hc => cN (ab rfl hc) rfl) (aU rfl (cx rfl rfl (fun h => gf rfl h)) (aM rfl (aG rfl rfl (fun hc => aq rfl) ?_)))))))))))
  refine cF _ rfl rfl (fun hc => av Tryz.underlying31 tk66 (ab rfl hc) ((.of (an 2 rfl))) rfl (show _ = some (slR s0) from rfl) rfl rfl) (fun _ => ⟨(0, 0)⟩) (fun ⟨b8_9, o8_9⟩ => ?_)
  refine aG rfl rfl (fun hc => aR (o := 0) tk66 (ab rfl hc) (an 0 rfl) hc rfl) (aG rfl rfl (fun hc => bq Tryz.underlying66 (ab rfl hc)) (aG rfl rfl (fun hc => cN (ab rfl hc) rfl) (aU rfl (cx rfl rfl (fun h => gf rfl h)) (aM rfl (aG rfl rfl (fun hc => aq rfl) ?_)))))
  refine cF _ rfl rfl (fun hc => av Tryz.underlying31 tk66 (ab rfl hc) ((.of (an 3 rfl))) rfl (show _ = some (slR s1) from rfl) rfl rfl) (fun _ => ⟨(0, 0)⟩) (fun ⟨b8_16, o8_16⟩ => ?_)
  refine aG rfl rfl (fun hc => aR (o := 0) tk66 (ab rfl hc) (an 0 rfl) hc rfl) (aG rfl rfl (fun hc => bq Tryz.underlying66 (ab rfl hc)) (aG rfl rfl (fun hc => cN (ab rfl hc) rfl) (aU rfl (cx rfl rfl (fun h => gf rfl h)) (aM rfl (aG rfl rfl (fun hc => aq rfl) ?_)))))
  refine cF _ rfl rfl (fun hc => av Tryz.underlying31 tk66 (ab rfl hc) ((.of (an 4 rfl))) rfl (show _ = some (slR s2) from rfl) rfl rfl) (fun _ => ⟨(0, 0)⟩) (fun ⟨b8_23, o8_23⟩ => ?_)
  refine aG rfl rfl (fun hc => aR (o := 0) tk66 (ab rfl hc) (an 0 rfl) hc rfl) (aG rfl rfl (fun hc => bq Tryz.underlying66 (ab rfl hc)) (aG rfl rfl (fun hc => cN (ab rfl hc) rfl) (aU rfl (cx rfl rfl (fun h => gf rfl h)) (aNn ?_))))
  refine ah _ rfl (fun h1 => ?_) (fun h1 => ?_)
  ·skip
   exfalso; simp [e0, e1, e2] at h1
  ·skip
   refine au (aw (az ?_))
   refine bn [] (by kernel_rfl) ?_
   show aB _ _ _ _ _ 9 #[false, false, false, false, false, false, false, false, false] _
   refine bU 0 rfl (by kernel_rfl) rfl (aq rfl) ?_
   refine bU 1 rfl (by kernel_rfl) rfl (gj 1 2 el22 rfl rfl rfl rfl rfl (by decide) (show 2 ≤ 3 by decide) (show 3 ≤ 3 by decide)) ?_
   refine bU 2 rfl (by kernel_rfl) rfl (aq rfl) ?_
   refine bU 3 rfl (by kernel_rfl) rfl (gj 1 2 el27 rfl rfl rfl rfl rfl (by decide) (show 2 ≤ 3 by decide) (show 3 ≤ 3 by decide)) ?_
   refine bU 4 rfl (by kernel_rfl) rfl (dF (l := [(0, .const (.int .i64 2)), (4, .const (.int .i64 1))]) (zs := [.int .i64 0, .int .i64 0, .int .i64 0, .int .i64 0, .int .i64 0, .bool false]) (pl := [(0, 1), (1, 1), (2, 1), (3, 1), (4, 1), (5, 1)]) (by kernel_rfl) (by kernel_rfl) (by kernel_rfl) rfl rfl rfl) ?_
   refine gM (zs := [.int .i64 0, .int .i64 0, .int .i64 0, .int .i64 0, .int .i64 0, .bool false]) (l := [(0, .tmp 85)]) 5 rfl (by kernel_rfl) el66 (by kernel_rfl) (by decide) (by decide) (by decide) rfl rfl rfl rfl (.more rfl (.v rfl (.v rfl (.v rfl (.v rfl (.v rfl (.v rfl .nil)))))) .nil) rfl rfl (fun v10_5 => ?_)
   refine gM (zs := [.slice none 0 0]) (l := [(0, .tmp 86)]) 6 rfl (by kernel_rfl) el31 (by kernel_rfl) (by decide) (by decide) (by decide) rfl rfl rfl rfl (.more rfl (.v rfl .nil) .nil) rfl rfl (fun v10_6 => ?_)
   refine bV (q := true) 7 rfl (by kernel_rfl) rfl rfl (bF [8, 6, 7, 19, 20] [] (by kernel_rfl) rfl rfl rfl rfl (mP B o 2 a1 a2 a3 a4 v1_3 v10_5 v10_6 _) ?_)
   rintro _ _ _ ⟨rfl, vE, rfl, rfl⟩
   refine cq rfl (by (try simp only [nM, nN]); rfl) (by (try simp only [aV, place, Nat.reduceBEq, if_true, if_false, reduceIte, Nat.reduceAdd, nW]); rfl) ?_
   refine bU 8 rfl (by kernel_rfl) rfl (bk rfl) ?_
   refine bS (by kernel_rfl) ?_
   refine aw (az (gA 8 rfl ?_))
   refine l9 (.of (an 0 rfl)) (fun adE cpE hvE => ?_)
   subst hvE
   refine bn [] (by kernel_rfl) ?_
   show aB _ _ _ _ _ 62 #[false, false, false, false, false, false, false, false, false, false, false, false, false, false, false, false, false, false, false, false, false, false, false, false, false, false, false, false, false, false, false, false, false, false, false, false, false, false, false, false, false, false, false, false, false, false, false, false, false, false, false, false, false, false, false, false, false, false, false, false, false, false] _
   refine bU 0 rfl (by kernel_rfl) rfl (aq rfl) ?_
   refine dI 1 rfl (by kernel_rfl) true rfl rfl (fun _ => av Tryz.underlying31 tk66 rfl ((.of (an 8 rfl))) rfl (show _ = some (slR s0) from rfl) rfl rfl) (fun h => absurd h (by decide)) (fun ⟨b11_1, o11_1⟩ => ?_)
   refine bU 2 rfl (by kernel_rfl) rfl (aR (o := 0) tk66 rfl (an 0 rfl) rfl rfl) ?_
   refine dI 3 rfl (by kernel_rfl) true rfl rfl (fun _ => av Tryz.underlying66 tk65 rfl ((fun w S hp => (show Ent _ (bW (ShF aT.row) [s0, s1, s2]) from .of (an 8 rfl)) w S hp s0 (by simp))) rfl (show (s0.l.map aT.row)[0]? = some (aT.row ⟨2, 1, 0, 0, 2, false⟩) from by rw [e0]; rfl) rfl rfl) (fun h => absurd h (by decide)) (fun ⟨b11_3, o11_3⟩ => ?_)
   refine bU 4 rfl (by kernel_rfl) rfl (aR (o := 0) tk65 rfl (an 0 rfl) rfl rfl) ?_
   refine bU 5 rfl (by kernel_rfl) rfl (ae 5 tk65 rfl rfl rfl) ?_
   refine bU 6 rfl (by kernel_rfl) rfl (jJ ⟨2, 1, 0, 0, 2, false⟩ ⟨2, 1, 0, 0, 2, false⟩ rfl rfl) ?_
   refine bU 7 rfl (by kernel_rfl) rfl (aq rfl) ?_
   refine bG 8 rfl (by kernel_rfl) rfl rfl (fun hc => aq rfl) ?_
   refine dI 9 rfl (by kernel_rfl) _ rfl rfl (fun hc => av Tryz.underlying31 tk66 (ab rfl hc) ((.of (an 10 rfl))) rfl (show _ = some (slR s1) from rfl) rfl rfl) (fun _ => ⟨(0, 0)⟩) (fun ⟨b11_9, o11_9⟩ => ?_)
   refine bG 10 rfl (by kernel_rfl) rfl rfl (fun hc => aR (o := 0) tk66 (ab rfl hc) (an 0 rfl) hc rfl) ?_
   refine dI 11 rfl (by kernel_rfl) _ rfl rfl (fun hc => av Tryz.underlying66 tk65 (ab rfl hc) ((fun w S hp => (show Ent _ (bW (ShF aT.row) [s0, s1, s2]) from .of (an 10 rfl)) w S hp s1 (by simp))) rfl (show (s1.l.map aT.row)[0]? = some (aT.row ⟨2, 1, 0, 0, 2, false⟩) from by rw [e1]; rfl) rfl rfl) (fun _ => ⟨(0, 0)⟩) (fun ⟨b11_11, o11_11⟩ => ?_)
   refine bG 12 rfl (by kernel_rfl) rfl rfl (fun hc => aR (o := 0) tk65 (ab rfl hc) (an 0 rfl) hc rfl) ?_
   refine bG 13 rfl (by kernel_rfl) rfl rfl (fun hc => ae 5 tk65 rfl rfl rfl) ?_
   refine bG 14 rfl (by kernel_rfl) rfl rfl (fun hc => jJ ⟨2, 1, 0, 0, 2, false⟩ ⟨2, 1, 0, 0, 2, false⟩ (ab rfl hc) (ab rfl hc)) ?_
   refine bU 15 rfl (by kernel_rfl) rfl (bA rfl rfl (fun h => gt rfl h)) ?_
   refine bU 16 rfl (by kernel_rfl) rfl (aq rfl) ?_
   refine bG 17 rfl (by kernel_rfl) rfl rfl (fun hc => aq rfl) ?_
   refine dI 18 rfl (by kernel_rfl) _ rfl rfl (fun hc => av Tryz.underlying31 tk66 (ab rfl hc) ((.of (an 12 rfl))) rfl (show _ = some (slR s2) from rfl) rfl rfl) (fun _ => ⟨(0, 0)⟩) (fun ⟨b11_18, o11_18⟩ => ?_)
   refine bG 19 rfl (by kernel_rfl) rfl rfl (fun hc => aR (o := 0) tk66 (ab rfl hc) (an 0 rfl) hc rfl) ?_
   refine dI 20 rfl (by kernel_rfl) _ rfl rfl (fun hc => av Tryz.underlying66 tk65 (ab rfl hc) ((fun w S hp => (show Ent _ (bW (ShF aT.row) [s0, s1, s2]) from .of (an 12 rfl)) w S hp s2 (by simp))) rfl (show (s2.l.map aT.row)[0]? = some (aT.row ⟨2, 1, 0, 0, 2, false⟩) from by rw [e2]; rfl) rfl rfl) (fun _ => ⟨(0, 0)⟩) (fun ⟨b11_20, o11_20⟩ => ?_)
   refine bG 21 rfl (by kernel_rfl) rfl rfl (fun hc => aR (o := 0) tk65 (ab rfl hc) (an 0 rfl) hc rfl) ?_
   refine bG 22 rfl (by kernel_rfl) rfl rfl (fun hc => ae 5 tk65 rfl rfl rfl) ?_
   refine bG 23 rfl (by kernel_rfl) rfl rfl (fun hc => jJ ⟨2, 1, 0, 0, 2, false⟩ ⟨2, 1, 0, 0, 2, false⟩ (ab rfl hc) (ab rfl hc)) ?_
   refine bU 24 rfl (by kernel_rfl) rfl (bA rfl rfl (fun h => gt rfl h)) ?_
   refine bU 25 rfl (by kernel_rfl) rfl (aq rfl) ?_
   refine bG 26 rfl (by kernel_rfl) rfl rfl (fun hc => aq rfl) ?_
   refine bG 27 rfl (by kernel_rfl) rfl rfl (fun hc => bK (ab rfl hc) rfl) ?_
   refine bU 28 rfl (by kernel_rfl) rfl (bA rfl rfl (fun h => gt rfl h)) ?_
   refine bU 29 rfl (by kernel_rfl) rfl (aq rfl) ?_
   refine bG 30 rfl (by kernel_rfl) rfl rfl (fun hc => ae 6 tk34 rfl rfl rfl) ?_
   refine bG 31 rfl (by kernel_rfl) rfl rfl (fun hc => dF (l := [(0, .const (.int .i64 1))]) (zs := [.int .i64 0, .int .i64 0]) (pl := [(0, 1), (1, 1)]) (by kernel_rfl) (by kernel_rfl) (by kernel_rfl) rfl rfl rfl) ?_
   refine bG 32 rfl (by kernel_rfl) rfl rfl (fun hc => lO (by kernel_rfl) (by kernel_rfl) (by kernel_rfl) (fun w => eV 9997 _ _ _ [0, 1] w (by kernel_rfl) (by kernel_rfl) rfl rfl) (ab rfl hc) (ab rfl hc)) ?_
   refine bU 33 rfl (by kernel_rfl) rfl (bA rfl rfl (fun h => gt rfl h)) ?_
   refine bU 34 rfl (by kernel_rfl) rfl (aq rfl) ?_
   refine bG 35 rfl (by kernel_rfl) rfl rfl (fun hc => aq rfl) ?_
   refine bG 36 rfl (by kernel_rfl) rfl rfl (fun hc => bK (ab rfl hc) rfl) ?_
   refine bU 37 rfl (by kernel_rfl) rfl (bA rfl rfl (fun h => gt rfl h)) ?_
   refine bU 38 rfl (by kernel_rfl) rfl (aq rfl) ?_
   refine bG 39 rfl (by kernel_rfl) rfl rfl (fun hc => ae 7 tk34 rfl rfl rfl) ?_
   refine bG 40 rfl (by kernel_rfl) rfl rfl (fun hc => dF (l := []) (zs := [.int .i64 0, .int .i64 0]) (pl := [(0, 1), (1, 1)]) (by kernel_rfl) (by kernel_rfl) (by kernel_rfl) rfl rfl rfl) ?_
   refine bG 41 rfl (by kernel_rfl) rfl rfl (fun hc => lO (by kernel_rfl) (by kernel_rfl) (by kernel_rfl) (fun w => eV 9997 _ _ _ [0, 1] w (by kernel_rfl) (by kernel_rfl) rfl rfl) (ab rfl hc) (ab rfl hc)) ?_
   refine bU 42 rfl (by kernel_rfl) rfl (bA rfl rfl (fun h => gt rfl h)) ?_
   refine bU 43 rfl (by kernel_rfl) rfl (aq rfl) ?_
   refine bG 44 rfl (by kernel_rfl) rfl rfl (fun hc => aq rfl) ?_
   refine bG 45 rfl (by kernel_rfl) rfl rfl (fun hc => bq Tryz.underlying41 (ab rfl hc)) ?_
   refine bG 46 rfl (by kernel_rfl) rfl rfl (fun hc => bK (ab rfl hc) rfl) ?_
   refine bU 47 rfl (by kernel_rfl) rfl (bA rfl rfl (fun h => gt rfl h)) ?_
   refine bU 48 rfl (by kernel_rfl) rfl (aq rfl) ?_
   refine bG 49 rfl (by kernel_rfl) rfl rfl (fun hc => aq rfl) ?_
   refine dI 50 rfl (by kernel_rfl) _ rfl rfl (fun hc => av Tryz.underlying41 tk46 (ab rfl hc) ((.of (an 6 rfl))) rfl (show _ = some (cn.row _) from rfl) rfl rfl) (fun _ => ⟨(0, 0)⟩) (fun ⟨b11_50, o11_50⟩ => ?_)
   refine bG 51 rfl (by kernel_rfl) rfl rfl (fun hc => aa (off := 0) (by kernel_rfl) (ab rfl hc)) ?_
   refine bG 52 rfl (by kernel_rfl) rfl rfl (fun hc => aR (o := 0) tk9 (ab rfl hc) (an 0 rfl) hc rfl) ?_
   refine bG 53 rfl (by kernel_rfl) rfl rfl (fun hc => qK (ab rfl hc) rfl) ?_
   refine bU 54 rfl (by kernel_rfl) rfl (bA rfl rfl (fun h => gt rfl h)) ?_
   refine bU 55 rfl (by kernel_rfl) rfl (aq rfl) ?_
   refine bG 56 rfl (by kernel_rfl) rfl rfl (fun hc => aq rfl) ?_
   refine dI 57 rfl (by kernel_rfl) _ rfl rfl (fun hc => av Tryz.underlying41 tk46 (ab rfl hc) ((.of (an 7 rfl))) rfl (show _ = some (cn.row _) from rfl) rfl rfl) (fun _ => ⟨(0, 0)⟩) (fun ⟨b11_57, o11_57⟩ => ?_)
   refine bG 58 rfl (by kernel_rfl) rfl rfl (fun hc => aa (off := 2) (by kernel_rfl) (ab rfl hc)) ?_
   refine bG 59 rfl (by kernel_rfl) rfl rfl (fun hc => aR (o := 2) tk4 (ab rfl hc) (an 0 rfl) hc rfl) ?_
   refine bU 60 rfl (by kernel_rfl) rfl (bA rfl rfl (fun h => gt rfl h)) ?_
   refine bU 61 rfl (by kernel_rfl) rfl (bk rfl) ?_
   refine bS (by kernel_rfl) ?_
   refine aw (aj ?_)
   refine bc [] [] rfl Tryz.results10 rfl ?_ (.inr rfl)
   simp [eT, fk]
 ·skip
  refine id (bp (zs := [.int .i64 0, .int .i64 0]) (by kernel_rfl) rfl (fun b11_9 => ?_))
  refine cq rfl (by (try simp only [nM, nN]); rfl) (by (try simp only [aV, place, Nat.reduceBEq, if_true, if_false, reduceIte, Nat.reduceAdd, nW]); rfl) ?_
  refine bV (q := true) 4 rfl (by kernel_rfl) rfl rfl (bF [8, 9, 10] [] (by kernel_rfl) rfl rfl rfl rfl (rP B o B2 o2 2 a1 a2 a3 a4 v1_3 v2_0 v2_1) ?_)
  rintro _ _ _ ⟨rfl, rfl, rfl⟩
  refine cq rfl (by (try simp only [nM, nN]); rfl) (by (try simp only [aV, place, Nat.reduceBEq, if_true, if_false, reduceIte, Nat.reduceAdd, nW]); rfl) ?_
  refine bU 5 rfl (by kernel_rfl) rfl (aq rfl) ?_
  refine bU 6 rfl (by kernel_rfl) rfl (aJ rfl rfl) ?_
  refine bU 7 rfl (by kernel_rfl) rfl (aJ rfl rfl) ?_
  refine bU 8 rfl (by kernel_rfl) rfl (aJ rfl rfl) ?_
  refine bU 10 rfl (by kernel_rfl) rfl (bk rfl) ?_
  refine bU 11 rfl (by kernel_rfl) rfl (bk rfl) ?_
  refine bV 12 rfl (by kernel_rfl) rfl rfl (aW 7 tk34 rfl rfl rfl rfl ?_)
  refine cq rfl (by (try simp only [nM, nN]); rfl) (by (try simp only [aV, place, Nat.reduceBEq, if_true, if_false, reduceIte, Nat.reduceAdd, nW]); rfl) ?_
  refine bS (by kernel_rfl) ?_
  refine aw (az (aSR (aM rfl (aU rfl (cN rfl rfl) (aM rfl (aG rfl rfl (fun hc => aq rfl) (aG rfl rfl (fun hc => bq Tryz.underlying31 (ab rfl hc)) (aG rfl rfl (fun hc => cN (ab rfl hc) rfl) (aU rfl (cx rfl rfl (fun h => gf rfl h)) (aM rfl (aG rfl rfl (fun hc => aq rfl) ?_)))))))))))
  refine cF _ rfl rfl (fun hc => av Tryz.underlying31 tk66 (ab rfl hc) ((.of (an 2 rfl))) rfl (show _ = some (slR s0) from rfl) rfl rfl) (fun _ => ⟨(0, 0)⟩) (fun ⟨b8_9, o8_9⟩ => ?_)
  refine aG rfl rfl (fun hc => aR (o := 0) tk66 (ab rfl hc) (an 0 rfl) hc rfl) (aG rfl rfl (fun hc => bq Tryz.underlying66 (ab rfl hc)) (aG rfl rfl (fun hc => cN (ab rfl hc) rfl) (aU rfl (cx rfl rfl (fun h => gf rfl h)) (aM rfl (aG rfl rfl (fun hc => aq rfl) ?_)))))
  refine cF _ rfl rfl (fun hc => av Tryz.underlying31 tk66 (ab rfl hc) ((.of (an 3 rfl))) rfl (show _ = some (slR s1) from rfl) rfl rfl) (fun _ => ⟨(0, 0)⟩) (fun ⟨b8_16, o8_16⟩ => ?_)
  refine aG rfl rfl (fun hc => aR (o := 0) tk66 (ab rfl hc) (an 0 rfl) hc rfl) (aG rfl rfl (fun hc => bq Tryz.underlying66 (ab rfl hc)) (aG rfl rfl (fun hc => cN (ab rfl hc) rfl) (aU rfl (cx rfl rfl (fun h => gf rfl h)) (aM rfl (aG rfl rfl (fun hc => aq rfl) ?_)))))
  refine cF _ rfl rfl (fun hc => av Tryz.underlying31 tk66 (ab rfl hc) ((.of (an 4 rfl))) rfl (show _ = some (slR s2) from rfl) rfl rfl) (fun _ => ⟨(0, 0)⟩) (fun ⟨b8_23, o8_23⟩ => ?_)
  refine aG rfl rfl (fun hc => aR (o := 0) tk66 (ab rfl hc) (an 0 rfl) hc rfl) (aG rfl rfl (fun hc => bq Tryz.underlying66 (ab rfl hc)) (aG rfl rfl (fun hc => cN (ab rfl hc) rfl) (aU rfl (cx rfl rfl (fun h => gf rfl h)) (aNn ?_))))
  refine ah _ rfl (fun h2 => ?_) (fun h2 => ?_)
  ·skip
   exfalso; simp [e0, e1, e2] at h2
  ·skip
   refine au (aw (az ?_))
   refine bn [] (by kernel_rfl) ?_
   show aB _ _ _ _ _ 9 #[false, false, false, false, false, false, false, false, false] _
   refine bU 0 rfl (by kernel_rfl) rfl (aq rfl) ?_
   refine bU 1 rfl (by kernel_rfl) rfl (gj 1 2 el22 rfl rfl rfl rfl rfl (by decide) (show 2 ≤ 3 by decide) (show 3 ≤ 3 by decide)) ?_
   refine bU 2 rfl (by kernel_rfl) rfl (aq rfl) ?_
   refine bU 3 rfl (by kernel_rfl) rfl (gj 1 2 el27 rfl rfl rfl rfl rfl (by decide) (show 2 ≤ 3 by decide) (show 3 ≤ 3 by decide)) ?_
   refine bU 4 rfl (by kernel_rfl) rfl (dF (l := [(0, .const (.int .i64 2)), (4, .const (.int .i64 1))]) (zs := [.int .i64 0, .int .i64 0, .int .i64 0, .int .i64 0, .int .i64 0, .bool false]) (pl := [(0, 1), (1, 1), (2, 1), (3, 1), (4, 1), (5, 1)]) (by kernel_rfl) (by kernel_rfl) (by kernel_rfl) rfl rfl rfl) ?_
   refine gM (zs := [.int .i64 0, .int .i64 0, .int .i64 0, .int .i64 0, .int .i64 0, .bool false]) (l := [(0, .tmp 85)]) 5 rfl (by kernel_rfl) el66 (by kernel_rfl) (by decide) (by decide) (by decide) rfl rfl rfl rfl (.more rfl (.v rfl (.v rfl (.v rfl (.v rfl (.v rfl (.v rfl .nil)))))) .nil) rfl rfl (fun v10_5 => ?_)
   refine gM (zs := [.slice none 0 0]) (l := [(0, .tmp 86)]) 6 rfl (by kernel_rfl) el31 (by kernel_rfl) (by decide) (by decide) (by decide) rfl rfl rfl rfl (.more rfl (.v rfl .nil) .nil) rfl rfl (fun v10_6 => ?_)
   refine bV (q := true) 7 rfl (by kernel_rfl) rfl rfl (bF [8, 6, 7, 19, 20] [] (by kernel_rfl) rfl rfl rfl rfl (mP B o 2 a1 a2 a3 a4 v1_3 v10_5 v10_6 _) ?_)
   rintro _ _ _ ⟨rfl, vE, rfl, rfl⟩
   refine cq rfl (by (try simp only [nM, nN]); rfl) (by (try simp only [aV, place, Nat.reduceBEq, if_true, if_false, reduceIte, Nat.reduceAdd, nW]); rfl) ?_
   refine bU 8 rfl (by kernel_rfl) rfl (bk rfl) ?_
   refine bS (by kernel_rfl) ?_
   refine aw (az (gA 8 rfl ?_))
   refine l9 (.of (an 0 rfl)) (fun adE cpE hvE => ?_)
   subst hvE
   refine bn [] (by kernel_rfl) ?_
   show aB _ _ _ _ _ 62 #[false, false, false, false, false, false, false, false, false, false, false, false, false, false, false, false, false, false, false, false, false, false, false, false, false, false, false, false, false, false, false, false, false, false, false, false, false, false, false, false, false, false, false, false, false, false, false, false, false, false, false, false, false, false, false, false, false, false, false, false, false, false] _
   refine bU 0 rfl (by kernel_rfl) rfl (aq rfl) ?_
   refine dI 1 rfl (by kernel_rfl) true rfl rfl (fun _ => av Tryz.underlying31 tk66 rfl ((.of (an 8 rfl))) rfl (show _ = some (slR s0) from rfl) rfl rfl) (fun h => absurd h (by decide)) (fun ⟨b11_1, o11_1⟩ => ?_)
   refine bU 2 rfl (by kernel_rfl) rfl (aR (o := 0) tk66 rfl (an 0 rfl) rfl rfl) ?_
   refine dI 3 rfl (by kernel_rfl) true rfl rfl (fun _ => av Tryz.underlying66 tk65 rfl ((fun w S hp => (show Ent _ (bW (ShF aT.row) [s0, s1, s2]) from .of (an 8 rfl)) w S hp s0 (by simp))) rfl (show (s0.l.map aT.row)[0]? = some (aT.row ⟨2, 1, 0, 0, 2, false⟩) from by rw [e0]; rfl) rfl rfl) (fun h => absurd h (by decide)) (fun ⟨b11_3, o11_3⟩ => ?_)
   refine bU 4 rfl (by kernel_rfl) rfl (aR (o := 0) tk65 rfl (an 0 rfl) rfl rfl) ?_
   refine bU 5 rfl (by kernel_rfl) rfl (ae 5 tk65 rfl rfl rfl) ?_
   refine bU 6 rfl (by kernel_rfl) rfl (jJ ⟨2, 1, 0, 0, 2, false⟩ ⟨2, 1, 0, 0, 2, false⟩ rfl rfl) ?_
   refine bU 7 rfl (by kernel_rfl) rfl (aq rfl) ?_
   refine bG 8 rfl (by kernel_rfl) rfl rfl (fun hc => aq rfl) ?_
   refine dI 9 rfl (by kernel_rfl) _ rfl rfl (fun hc => av Tryz.underlying31 tk66 (ab rfl hc) ((.of (an 10 rfl))) rfl (show _ = some (slR s1) from rfl) rfl rfl) (fun _ => ⟨(0, 0)⟩) (fun ⟨b11_9, o11_9⟩ => ?_)
   refine bG 10 rfl (by kernel_rfl) rfl rfl (fun hc => aR (o := 0) tk66 (ab rfl hc) (an 0 rfl) hc rfl) ?_
   refine dI 11 rfl (by kernel_rfl) _ rfl rfl (fun hc => av Tryz.underlying66 tk65 (ab rfl hc) ((fun w S hp => (show Ent _ (bW (ShF aT.row) [s0, s1, s2]) from .of (an 10 rfl)) w S hp s1 (by simp))) rfl (show (s1.l.map aT.row)[0]? = some (aT.row ⟨2, 1, 0, 0, 2, false⟩) from by rw [e1]; rfl) rfl rfl) (fun _ => ⟨(0, 0)⟩) (fun ⟨b11_11, o11_11⟩ => ?_)
   refine bG 12 rfl (by kernel_rfl) rfl rfl (fun hc => aR (o := 0) tk65 (ab rfl hc) (an 0 rfl) hc rfl) ?_
   refine bG 13 rfl (by kernel_rfl) rfl rfl (fun hc => ae 5 tk65 rfl rfl rfl) ?_
   refine bG 14 rfl (by kernel_rfl) rfl rfl (fun hc => jJ ⟨2, 1, 0, 0, 2, false⟩ ⟨2, 1, 0, 0, 2, false⟩ (ab rfl hc) (ab rfl hc)) ?_
   refine bU 15 rfl (by kernel_rfl) rfl (bA rfl rfl (fun h => gt rfl h)) ?_
   refine bU 16 rfl (by kernel_rfl) rfl (aq rfl) ?_
   refine bG 17 rfl (by kernel_rfl) rfl rfl (fun hc => aq rfl) ?_
   refine dI 18 rfl (by kernel_rfl) _ rfl rfl (fun hc => av Tryz.underlying31 tk66 (ab rfl hc) ((.of (an 12 rfl))) rfl (show _ = some (slR s2) from rfl) rfl rfl) (fun _ => ⟨(0, 0)⟩) (fun ⟨b11_18, o11_18⟩ => ?_)
   refine bG 19 rfl (by kernel_rfl) rfl rfl (fun hc => aR (o := 0) tk66 (ab rfl hc) (an 0 rfl) hc rfl) ?_
   refine dI 20 rfl (by kernel_rfl) _ rfl rfl (fun hc => av Tryz.underlying66 tk65 (ab rfl hc) ((fun w S hp => (show Ent _ (bW (ShF aT.row) [s0, s1, s2]) from .of (an 12 rfl)) w S hp s2 (by simp))) rfl (show (s2.l.map aT.row)[0]? = some (aT.row ⟨2, 1, 0, 0, 2, false⟩) from by rw [e2]; rfl) rfl rfl) (fun _ => ⟨(0, 0)⟩) (fun ⟨b11_20, o11_20⟩ => ?_)
   refine bG 21 rfl (by kernel_rfl) rfl rfl (fun hc => aR (o := 0) tk65 (ab rfl hc) (an 0 rfl) hc rfl) ?_
   refine bG 22 rfl (by kernel_rfl) rfl rfl (fun hc => ae 5 tk65 rfl rfl rfl) ?_
   refine bG 23 rfl (by kernel_rfl) rfl rfl (fun hc => jJ ⟨2, 1, 0, 0, 2, false⟩ ⟨2, 1, 0, 0, 2, false⟩ (ab rfl hc) (ab rfl hc)) ?_
   refine bU 24 rfl (by kernel_rfl) rfl (bA rfl rfl (fun h => gt rfl h)) ?_
   refine bU 25 rfl (by kernel_rfl) rfl (aq rfl) ?_
   refine bG 26 rfl (by kernel_rfl) rfl rfl (fun hc => aq rfl) ?_
   refine bG 27 rfl (by kernel_rfl) rfl rfl (fun hc => bK (ab rfl hc) rfl) ?_
   refine bU 28 rfl (by kernel_rfl) rfl (bA rfl rfl (fun h => gt rfl h)) ?_
   refine bU 29 rfl (by kernel_rfl) rfl (aq rfl) ?_
   refine bG 30 rfl (by kernel_rfl) rfl rfl (fun hc => ae 6 tk34 rfl rfl rfl) ?_
   refine bG 31 rfl (by kernel_rfl) rfl rfl (fun hc => dF (l := [(0, .const (.int .i64 1))]) (zs := [.int .i64 0, .int .i64 0]) (pl := [(0, 1), (1, 1)]) (by kernel_rfl) (by kernel_rfl) (by kernel_rfl) rfl rfl rfl) ?_
   refine bG 32 rfl (by kernel_rfl) rfl rfl (fun hc => lO (by kernel_rfl) (by kernel_rfl) (by kernel_rfl) (fun w => eV 9997 _ _ _ [0, 1] w (by kernel_rfl) (by kernel_rfl) rfl rfl) (ab rfl hc) (ab rfl hc)) ?_
   refine bU 33 rfl (by kernel_rfl) rfl (bA rfl rfl (fun h => gt rfl h)) ?_
   refine bU 34 rfl (by kernel_rfl) rfl (aq rfl) ?_
   refine bG 35 rfl (by kernel_rfl) rfl rfl (fun hc => aq rfl) ?_
   refine bG 36 rfl (by kernel_rfl) rfl rfl (fun hc => bK (ab rfl hc) rfl) ?_
   refine bU 37 rfl (by kernel_rfl) rfl (bA rfl rfl (fun h => gt rfl h)) ?_
   refine bU 38 rfl (by kernel_rfl) rfl (aq rfl) ?_
   refine bG 39 rfl (by kernel_rfl) rfl rfl (fun hc => ae 7 tk34 rfl rfl rfl) ?_
   refine bG 40 rfl (by kernel_rfl) rfl rfl (fun hc => dF (l := []) (zs := [.int .i64 0, .int .i64 0]) (pl := [(0, 1), (1, 1)]) (by kernel_rfl) (by kernel_rfl) (by kernel_rfl) rfl rfl rfl) ?_
   refine bG 41 rfl (by kernel_rfl) rfl rfl (fun hc => lO (by kernel_rfl) (by kernel_rfl) (by kernel_rfl) (fun w => eV 9997 _ _ _ [0, 1] w (by kernel_rfl) (by kernel_rfl) rfl rfl) (ab rfl hc) (ab rfl hc)) ?_
   refine bU 42 rfl (by kernel_rfl) rfl (bA rfl rfl (fun h => gt rfl h)) ?_
   refine bU 43 rfl (by kernel_rfl) rfl (aq rfl) ?_
   refine bG 44 rfl (by kernel_rfl) rfl rfl (fun hc => aq rfl) ?_
   refine bG 45 rfl (by kernel_rfl) rfl rfl (fun hc => bq Tryz.underlying41 (ab rfl hc)) ?_
   refine bG 46 rfl (by kernel_rfl) rfl rfl (fun hc => bK (ab rfl hc) rfl) ?_
   refine bU 47 rfl (by kernel_rfl) rfl (bA rfl rfl (fun h => gt rfl h)) ?_
   refine bU 48 rfl (by kernel_rfl) rfl (aq rfl) ?_
   refine bG 49 rfl (by kernel_rfl) rfl rfl (fun hc => aq rfl) ?_
   refine dI 50 rfl (by kernel_rfl) _ rfl rfl (fun hc => av Tryz.underlying41 tk46 (ab rfl hc) ((.of (an 6 rfl))) rfl (show _ = some (cn.row _) from rfl) rfl rfl) (fun _ => ⟨(0, 0)⟩) (fun ⟨b11_50, o11_50⟩ => ?_)
   refine bG 51 rfl (by kernel_rfl) rfl rfl (fun hc => aa (off := 0) (by kernel_rfl) (ab rfl hc)) ?_
   refine bG 52 rfl (by kernel_rfl) rfl rfl (fun hc => aR (o := 0) tk9 (ab rfl hc) (an 0 rfl) hc rfl) ?_
   refine bG 53 rfl (by kernel_rfl) rfl rfl (fun hc => qK (ab rfl hc) rfl) ?_
   refine bU 54 rfl (by kernel_rfl) rfl (bA rfl rfl (fun h => gt rfl h)) ?_
   refine bU 55 rfl (by kernel_rfl) rfl (aq rfl) ?_
   refine bG 56 rfl (by kernel_rfl) rfl rfl (fun hc => aq rfl) ?_
   refine dI 57 rfl (by kernel_rfl) _ rfl rfl (fun hc => av Tryz.underlying41 tk46 (ab rfl hc) ((.of (an 7 rfl))) rfl (show _ = some (cn.row _) from rfl) rfl rfl) (fun _ => ⟨(0, 0)⟩) (fun ⟨b11_57, o11_57⟩ => ?_)
   refine bG 58 rfl (by kernel_rfl) rfl rfl (fun hc => aa (off := 2) (by kernel_rfl) (ab rfl hc)) ?_
   refine bG 59 rfl (by kernel_rfl) rfl rfl (fun hc => aR (o := 2) tk4 (ab rfl hc) (an 0 rfl) hc rfl) ?_
   refine bU 60 rfl (by kernel_rfl) rfl (bA rfl rfl (fun h => gt rfl h)) ?_
   refine bU 61 rfl (by kernel_rfl) rfl (bk rfl) ?_
   refine bS (by kernel_rfl) ?_
   refine aw (aj ?_)
   refine bc [] [] rfl Tryz.results10 rfl ?_ (.inr rfl)
   simp [eT, fk]
end Go.Proofs.YtgmiihmahaahiaaGreatDoor

