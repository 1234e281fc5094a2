/- Proved: for all images and numbers of bulk at most 1048576 the law ImageNodes of the given program answers true and leaves what it was handed as it was; the second form. Conditions: none but those in the given statement itself. -/
import Derived.Test.YtahgkiicjohonaaGreatXa18
import Derived.Test.YtahgkiicjohonaaGreatXa26
import Derived.Test.YtahgkiicjohonaaGreatXa28
import Derived.Test.YtahgkiicjohonaaGreatXa24
import Derived.Test.YtahgkiicjohonaaGreatXa05
import Derived.Test.YtahgkiicjohonaaGreatXa09
import Derived.Test.YtahgkiicjohonaaGreatRows
import Derived.Test.YtahgkiicjohonaaGreatXa07
import Derived.Test.YtahgkiicjohonaaGreatXa23
import Derived.WalkKit
import Derived.ProofKit
import Derived.OpenShut
import Derived.ShutString
import Derived.ChangeOld
import Derived.Below
import Derived.LaidMore
import Derived.Stop.Joined
import Derived.Deep.DeepHandedRow
set_option linter.unusedSimpArgs false
set_option linter.unusedVariables false
set_option maxHeartbeats 1000000
set_option maxRecDepth 20000
namespace Go.Proofs.YtahgkiicjohonaaGreat
open Go.RowKit Go.Lp Go.Sy Go.Lv
theorem kFzq {im : ax} (h : gT im = true) : eY im ∧ iM im = true ∧ gQ im = true ∧ lG im = true := by
 unfold gT at h
 simp only [Bool.and_eq_true] at h
 exact ⟨fM.1 h.1.1.1.1.1.1.1.1, h.1.1.1.1.1.1.1.2, h.1.1.1.1.1.2, h.1.1.1.1.2⟩
theorem otzq {im : ax} (h : iM im = true) : (∀ x ∈ im.nodes.l, gW im x = true) ∧ (∀ i s, im.stubs.l[i]? = some s → kx im i s = true) ∧ (((oJ im.nodes.l ++ im.stubs.l.map sf).filter eS).Pairwise fun a b => lJ a b = true) := by
 unfold iM at h
 simp only [Bool.and_eq_true, Bool.not_eq_true'] at h
 obtain ⟨h1, _, h2, h3, _⟩ := h
 unfold kV at h1
 rw [Bool.or_eq_false_iff, Bool.not_eq_false'] at h1
 refine ⟨fun x hx => ?_, fun i s hs => ?_, kO.1 h3⟩
 · obtain ⟨i, hi, he⟩ := List.mem_iff_getElem.1 hx
   exact (gN.1 h1.2) i x (by rw [← he]; exact List.getElem?_eq_getElem hi)
 · have := (gN.1 h2) i s hs
   rwa [Nat.zero_add] at this
theorem aahzq {im : ax} (h : gT im = true) : sT im.nodes.l := fun x hx => by
 have := (otzq (kFzq h).2.1).1 x hx
 unfold gW at this
 rw [Bool.and_eq_true, Bool.not_eq_true'] at this
 have h2 := j7 this.1
 exact ⟨h2.2.2, h2.2.1⟩
theorem pSzq {z : Int} {x : bk} : i7 z x = true ↔ gj x.kind = true ∧ x.at_ ≤ z ∧ z < x.at_ + x.size := by
 unfold i7; rw [Bool.and_eq_true, Bool.and_eq_true, decide_eq_true_eq, decide_eq_true_eq, and_assoc]
theorem acvzq {a b : bE} (h : lJ a b = true) (z : Int) : ¬ ((a.at_ ≤ z ∧ z < a.at_ + a.size) ∧ (b.at_ ≤ z ∧ z < b.at_ + b.size)) := by
 unfold lJ at h
 rw [Bool.or_eq_true, decide_eq_true_eq, decide_eq_true_eq] at h
 omega
theorem aaizq {im : ax} (h : gT im = true) (z : Int) : im.nodes.l.Pairwise fun x y => ¬ (i7 z x = true ∧ i7 z y = true) := by
 have hp := (otzq (kFzq h).2.1).2.2
 rw [List.filter_append, List.pairwise_append] at hp
 have h1 := hp.1
 unfold oJ at h1
 rw [List.pairwise_filter, List.pairwise_map, List.pairwise_filter] at h1
 refine h1.imp fun {x y} hxy ⟨hx, hy⟩ => ?_
 rw [pSzq] at hx hy
 have fx : eS (gr x) = true := by unfold eS; simp only [Bool.not_eq_true', decide_eq_false_iff_not]; show ¬ x.size ≤ 0; omega
 have fy : eS (gr y) = true := by unfold eS; simp only [Bool.not_eq_true', decide_eq_false_iff_not]; show ¬ y.size ≤ 0; omega
 exact acvzq (hxy hx.1 hy.1 fx fy) z ⟨hx.2, hy.2⟩
theorem xYzq {α : Type} {p : α → Bool} : ∀ {l : List α}, l.Pairwise (fun x y => ¬ (p x = true ∧ p y = true)) → l.countP p ≤ 1
 | [], _ => Nat.zero_le _
 | a :: l, h => by
   rw [List.pairwise_cons] at h
   rw [List.countP_cons]
   by_cases ha : p a = true
   · have : l.countP p = 0 := List.countP_eq_zero.2 fun y hy hp => h.1 y hy ⟨ha, hp⟩
     rw [this, if_pos ha]; exact Nat.le_refl _
   · rw [if_neg ha]; exact xYzq h.2
theorem r6zq (z : Int) : ∀ {l : List bk} (k : Nat), l.Pairwise (fun x y => ¬ (i7 z x = true ∧ i7 z y = true)) →
   (∀ i x, l[i]? = some x → i7 z x = true → nodeAt z k l = (((k + i : Nat) : Int), true)) ∧ (nodeAt z k l).2 = decide (l.countP (i7 z) = 1) ∧ ((nodeAt z k l).2 = false → (nodeAt z k l).1 = 0)
 | [], k, _ => ⟨fun i x h => by simp at h, rfl, fun _ => rfl⟩
 | a :: l, k, h => by
   have h' := List.pairwise_cons.1 h
   by_cases ha : i7 z a = true
   · have hc : l.countP (i7 z) = 0 := List.countP_eq_zero.2 fun y hy hp => h'.1 y hy ⟨ha, hp⟩
     have e : nodeAt z k (a :: l) = ((k : Int), true) := by unfold nodeAt; rw [if_pos ha]
     rw [e]
     refine ⟨fun i x hx hh => ?_, ?_, fun h => by cases h⟩
     · cases i with
       | zero => rfl
       | succ i =>
         rw [List.getElem?_cons_succ] at hx
         exact absurd ⟨ha, hh⟩ (h'.1 x (List.mem_of_getElem? hx))
     · rw [List.countP_cons, hc, if_pos ha]; rfl
   · obtain ⟨i1, i2, i3⟩ := r6zq z (k + 1) h'.2
     have e : nodeAt z k (a :: l) = nodeAt z (k + 1) l := by rw [nodeAt, if_neg ha]
     rw [e]
     refine ⟨fun i x hx hh => ?_, ?_, i3⟩
     · cases i with
       | zero => rw [List.getElem?_cons_zero] at hx; rw [Option.some.inj hx] at ha; exact absurd hh ha
       | succ i => rw [List.getElem?_cons_succ] at hx; rw [i1 i x hx hh]; congr 2; omega
     · rw [i2, List.countP_cons, if_neg ha]; rfl
theorem yKzq {im : ax} (h : eY im) : ((jd im).size : Int) = im.zero ∧ (∀ i : Nat, im.data ≤ i → i < (jd im).size → (jd im).data.toList[i]? = some 0) ∧ (jd im).extract 0 im.data.toNat = im.bytes := by
 have h1 := h.by_
 have h2 := h.dz
 have h3 := h.zm
 have hd : im.data.toNat = im.bytes.size := by omega
 unfold jd
 by_cases hc : im.zero > 1048576 ∨ im.zero ≤ im.bytes.size
 · rw [if_pos hc]
   refine ⟨by omega, fun i hi hi2 => by omega, ?_⟩
   rw [hd]; exact ByteArray.extract_zero_size
 · rw [if_neg hc]
   have hz : (bytesOf (zsB (im.zero - im.bytes.size).toNat)).size = (im.zero - im.bytes.size).toNat := List.length_replicate
   refine ⟨by rw [ByteArray.size_append, hz]; omega, fun i hi hi2 => ?_, ?_⟩
   · rw [ByteArray.size_append, hz] at hi2
     rw [ByteArray.data_append, Array.toList_append, List.getElem?_append_right (by show im.bytes.size ≤ i; omega)]
     show (zsB _)[i - im.bytes.size]? = _
     rw [List.getElem?_replicate, if_pos (by omega)]
   · rw [hd]
     apply ByteArray.ext
     rw [ByteArray.data_extract, ByteArray.data_append, Array.extract_append]
     simp
open Go.Proofs.Tryz
attribute [local irreducible] aL aB awp aC fwp Quiet
theorem abwzq {α : Type} (p : α → Bool) {l : List α} {k : Nat} {y : α} (h : l[k]? = some y) : (l.take (k + 1)).countP p = (l.take k).countP p + if p y = true then 1 else 0 := by
 rw [List.take_add_one, h, List.countP_append]; simp
theorem wOzq (x : ax) (hW : cI x) (hl : (ba.enc (aV x)).length ≤ 1000000000) (z : Int) (hz : Go.Lv.I64 z) : Con Tryz.prog 5 [x.val, .int .i64 z] [x.ok] [] fun r _ _ => r = .bool true := by
 refine EN2 Tryz.func5 rfl (aY _ (ax.f_nodes (.of (aD 0 rfl))) (bQ (.of (aD 0 rfl)) (fun hlen => (aSR (LT rfl (cx rfl rfl rfl (fun b0_0 => (aHN ?_))))))))
 refine aA rfl (aNn (aSR (aU rfl (Q0 rfl nT) (aA rfl (aNs (aSR (UL 0 tk39 rfl rfl rfl rfl ?_)))))))
 refine eT (caps := []) [0] (false) (by kernel_rfl) true rfl rfl (fun _ => rfl) (fun hc => rfl) (fun hc => by rw [List.append_nil]; exact rW x hW hl) (fun bf hbf => ?_)
 refine aU rfl (dp rfl) (aM rfl (aG rfl rfl (fun hc => bC 0 tk39 rfl rfl rfl) ?_))
 refine eT (caps := []) [0] (false) (by kernel_rfl) _ rfl rfl (fun _ => rfl) (fun hc => (aJ (ae rfl hc) rfl)) (fun hc => by rw [List.append_nil]; exact kf x ⟨hW.1, hW.2.1, hW.2.2.1⟩) (fun br hbr => ?_)
 refine aG rfl rfl (fun hc => dp (ae rfl hc)) (aU rfl (cK rfl rfl (fun h => gf rfl h)) (aNn ?_))
 refine ao _ rfl (fun h1 => ?_) (fun h1 => ?_)
 ·skip
  refine aSR (aM rfl (aA rfl (aNn (az (bu (FZ1 [] Tryz.results5 rfl ?_))))))
  rfl
 ·skip
  obtain ⟨h1a, h1b⟩ := Bool.or_eq_false_iff.1 h1
  rw [Bool.not_eq_false'] at h1a h1b
  have hR := ((hbr (by rw [h1a]; rfl)).1 h1b).2
  have hS := (kFzq hR).1
  have hfit := aahzq hR
  have hpw := aaizq hR z
  obtain ⟨hn1, hn2, hn3⟩ := r6zq z 0 hpw
  have hc1 := xYzq hpw
  obtain ⟨hm1, hm2, hm3⟩ := yKzq hS
  refine ar (an (aSR (UL 0 tk39 rfl rfl rfl rfl (aM rfl (aU rfl (Q1 rfl (jI x hfit z) 1 rfl) ?_)))))
  refine aM rfl (aU rfl (bP rfl rfl) (aU rfl (bP rfl rfl) (aA rfl (aA rfl (aNn (aSR (aA rfl (aNs (aSR (aA rfl (aNn (aq (aQ [1, 2, 5, 6, 7, 8, 9] [1, 0] [0] (fun (k : Nat) st => k ≤ x.nodes.l.length ∧ st = ⟨[(1, true, .int .i64 z), (2, true, .pointer (some ⟨b0_0, 0, none⟩)), (5, true, .bool true), (6, true, .int .i64 (nodeAt z 0 x.nodes.l).1), (7, true, .bool (nodeAt z 0 x.nodes.l).2), (8, true, .int .i64 ((x.nodes.l.take k).countP (i7 z) : Nat)), (9, true, .int .i64 k)], [ShF bk.row x.nodes, x.ok], [Box b0_0 39 x.vs]⟩) (fun k => x.nodes.l.length - k) rfl (⟨0, Nat.zero_le _, rfl⟩) ?_)))))))))))))
  rintro k st ⟨hk, rfl⟩
  refine aj (aSR (aM rfl (UO 8 rfl rfl (UL 0 tk22 rfl rfl rfl rfl (aU rfl (aW Tryz.underlying22 rfl) (aU rfl (bD rfl rfl) (aNn ?_)))))))
  refine ao _ rfl (fun h2 => ?_) (fun h2 => ?_)
  ·skip
   have hk' : k < x.nodes.l.length := by simpa using h2
   obtain ⟨y, hx⟩ : ∃ y, x.nodes.l[k]? = some y := ⟨_, List.getElem?_eq_getElem hk'⟩
   obtain ⟨hf1, hf2⟩ := hfit y (List.mem_of_getElem? hx)
   have hcs := abwzq (i7 z) hx
   have hcl : (x.nodes.l.take k).countP (i7 z) ≤ k := Nat.le_trans List.countP_le_length (by rw [List.length_take]; omega)
   unfold Go.Lv.I64 at hz
   refine ar (an (aj (aq (aSR (UO 8 rfl rfl (UL 0 tk22 rfl rfl rfl rfl (aM rfl (UI Tryz.underlying22 tk51 0 rfl rfl rfl rfl rfl (aI hx) rfl rfl (fun ⟨b9_3, o9_3⟩ => (US 0 tk51 0 rfl rfl rfl rfl rfl (LT rfl (bI (zs := [.string .empty, .string .empty, .int .i64 0, .int .i64 0, .int .i64 0, .string .empty, .string .empty]) (by kernel_rfl) rfl (fun b9_5 => (aHN ?_))))))))))))))
   refine aT rfl (bg 1 tk51 rfl rfl rfl rfl (aHK ?_))
   refine aNn (aSR (UO 2 rfl rfl (UL 1 tk3 rfl rfl rfl rfl (aU rfl (Q0 rfl (sY _)) (aM rfl (aG rfl rfl (fun hc => aP rfl) (GO 3 rfl rfl rfl (GL 1 tk3 rfl rfl rfl rfl rfl (aG rfl rfl (fun hc => fk (ae rfl hc) (ae rfl hc)) (aU rfl (bp rfl rfl (fun h => gt rfl h)) (aM rfl (aG rfl rfl (fun hc => aP rfl) (GO 3 rfl rfl rfl (GL 1 tk3 rfl rfl rfl rfl rfl ?_))))))))))))))
   refine aG rfl rfl (fun hc => cU (ae rfl hc) (ae rfl hc) (by (first | omega | (simp at hc; omega)))) ?_
   refine GO 4 rfl rfl rfl (GL 1 tk3 rfl rfl rfl rfl rfl (aG rfl rfl (fun hc => bD (ae rfl hc) (ae rfl hc)) (aU rfl (bp rfl rfl (fun h => gt rfl h)) (aNn ?_))))
   refine ao _ rfl (fun h3 => ?_) (fun h3 => ?_)
   ·skip
    have hh : i7 z y = true := by
      rw [pSzq]
      rw [Bool.and_eq_true, Bool.and_eq_true, decide_eq_true_eq, decide_eq_true_eq] at h3
      exact ⟨h3.1.1, by omega, by omega⟩
    have hnk := hn1 k y hx hh
    rw [if_pos hh] at hcs
    refine aSR (aM rfl (aU rfl (aX rfl rfl (by omega)) (aA rfl (aNn (aSR (aM rfl (aU rfl (dp rfl) (aM rfl (aG rfl rfl (fun hc => aP rfl) (aG rfl rfl (fun hc => aP rfl) (aG rfl rfl (fun hc => eG (ae rfl hc) (ae rfl hc)) (aU rfl (cK rfl rfl (fun h => gf rfl h)) (aNn ?_)))))))))))))
    refine ao _ rfl (fun h4 => ?_) (fun h4 => ?_)
    ·skip
     exfalso
     rw [hnk] at h4
     simp at h4
    ·skip
     refine ar (bA (an (aa (aM rfl (aU rfl (aX rfl rfl (by omega)) (aA rfl (aNn ?_)))))))
     refine ⟨[1, 2, 5, 6, 7, 8, 9], [1, 0], [0], rfl, ?_⟩
     exact ⟨k + 1, ⟨hk', by rw [hcs]; rfl⟩, by omega⟩
   ·skip
    have hh : ¬ i7 z y = true := fun hh => by
      rw [pSzq] at hh
      rw [hh.1, decide_eq_true (show y.at_ ≤ z from hh.2.1), decide_eq_true (show z - y.at_ < y.size by omega)] at h3
      cases h3
    rw [if_neg hh, Nat.add_zero] at hcs
    refine ar (bA (an (aa (aM rfl (aU rfl (aX rfl rfl (by omega)) (aA rfl (aNn ?_)))))))
    refine ⟨[1, 2, 5, 6, 7, 8, 9], [1, 0], [0], rfl, ?_⟩
    exact ⟨k + 1, ⟨hk', by rw [hcs]; rfl⟩, by omega⟩
  ·skip
   have hke : k = x.nodes.l.length := by simp at h2; omega
   subst hke
   rw [List.take_length]
   refine aR (aS (aS (aZ (an (aSR (UL 0 tk39 rfl rfl rfl rfl (aU rfl (Q0 rfl ((mE x).post (fun _ _ _ h => h.2.2))) (aA rfl (aNs (aSR (aM rfl (aU rfl (cj Tryz.underlying9 rfl) (UO 4 rfl rfl ?_)))))))))))))
   refine UL 0 tk3 rfl rfl rfl rfl (aU rfl (eG rfl rfl) (aM rfl (GO 5 rfl rfl rfl (GL 0 tk9 rfl rfl rfl rfl rfl (aG rfl rfl (fun hc => cj Tryz.underlying9 (ae rfl hc)) (GO 3 rfl rfl rfl (GL 0 tk3 rfl rfl rfl rfl rfl (aG rfl rfl (fun hc => eG (ae rfl hc) (ae rfl hc)) (aU rfl (cK rfl rfl (fun h => gf rfl h)) (aM rfl (aG rfl rfl (fun hc => aP rfl) (aG rfl rfl (fun hc => aP rfl) (aG rfl rfl (fun hc => ck (ae rfl hc) rfl) (aG rfl rfl (fun hc => acb (by kernel_rfl) (ae rfl hc) (ae rfl hc)) ?_))))))))))))))
   refine aU rfl (cK rfl rfl (fun h => gf rfl h)) (aM rfl (aG rfl rfl (fun hc => aP rfl) (aG rfl rfl (fun hc => cJ (ae rfl hc) rfl) (aU rfl (cK rfl rfl (fun h => gf rfl h)) (aM rfl (aG rfl rfl (fun hc => aP rfl) (aG rfl rfl (fun hc => dp (ae rfl hc)) (aG rfl rfl (fun hc => aP (ae rfl hc)) (aG rfl rfl (fun hc => aP rfl) (aG rfl rfl (fun hc => eG (ae rfl hc) rfl) (aG rfl rfl (fun hc => bp (ae rfl hc) rfl (fun h => gt hc h)) (aU rfl (cK rfl rfl (fun h => gf rfl h)) (aNn ?_)))))))))))))
   refine ao _ rfl (fun h5 => ?_) (fun h5 => ?_)
   ·skip
    exfalso
    have e1 : decide (((x.nodes.l.countP (i7 z) : Nat) : Int) = 1) = (nodeAt z 0 x.nodes.l).2 := by rw [hn2]; exact decide_eq_decide.2 (by omega)
    rw [decide_eq_true hm1, decide_eq_true hS.by_, e1, decide_eq_false (show ¬ (1 : Int) < ((x.nodes.l.countP (i7 z) : Nat) : Int) by omega)] at h5
    cases hb : (nodeAt z 0 x.nodes.l).2 with
    | true => rw [hb] at h5; simp at h5
    | false => rw [hb, hn3 hb] at h5; simp at h5
   ·skip
    refine ar (an (aj (aSR (UO 3 rfl rfl (UL 0 tk3 rfl rfl rfl rfl (aA rfl (aNn (aq ?_))))))))
    refine aQ [2, 5, 11, 12] [1, 0] [0] (fun (i : Nat) st => (x.data ≤ i ∧ i ≤ (jd x).size) ∧ st = ⟨[(2, true, .pointer (some ⟨b0_0, 0, none⟩)), (5, true, .bool true), (11, true, .string (jd x)), (12, true, .int .i64 i)], [ShF bk.row x.nodes, x.ok], [Box b0_0 39 x.vs]⟩) (fun i => (jd x).size - i) rfl (⟨x.data.toNat, ⟨by have := hS.c0; have := hS.cd; omega, by have := hS.c0; have := hS.cd; have := hS.dz; omega⟩, by rw [Int.toNat_of_nonneg (by have := hS.c0; have := hS.cd; omega)]; rfl⟩) ?_
    rintro i st ⟨⟨hi1, hi2⟩, rfl⟩
    refine aj (aSR (aM rfl (aM rfl (aU rfl (cj Tryz.underlying9 rfl) (aU rfl (bD rfl rfl) (aNn ?_))))))
    refine ao _ rfl (fun h6 => ?_) (fun h6 => ?_)
    ·skip
     have hi' : i < (jd x).size := by simpa using h6
     have hby := hm2 i hi1 hi'
     have hzm := hS.zm
     refine ar (an (aj (aq (aSR (aM rfl (aM rfl (aU rfl (px (i) Tryz.underlying9 rfl rfl (rfl) (hby)) (aU rfl (eG rfl rfl) (aNn ?_)))))))))
     refine ao _ rfl (fun h7 => ?_) (fun h7 => ?_)
     ·skip
      exact absurd h7 (by decide)
     ·skip
      refine ar (bA (an (aa (aM rfl (aU rfl (aX rfl rfl (by omega)) (aA rfl (aNn ?_)))))))
      refine ⟨[2, 5, 11, 12], [1, 0], [0], rfl, ?_⟩
      exact ⟨i + 1, ⟨⟨by omega, hi'⟩, rfl⟩, by omega⟩
    ·skip
     refine aR (aS (aS (aZ (an (aj (DR [] 11 (VM 0 rfl rfl (VM 1 rfl rfl (bW 2 rfl rfl rfl (fun hc => aP rfl) (bW 3 rfl rfl rfl (fun hc => qFA (off := 3) rfl) (bW 4 rfl rfl rfl (fun hc => bC 0 tk3 (ae rfl hc) rfl rfl) ?_)))))))))))
     refine bW 5 rfl rfl rfl (fun hc => (oT Tryz.underlying9 (ae rfl hc) (ae rfl hc) (by have := hS.c0; have := hS.cd; omega) (by have := hS.dz; omega)).castV (v' := .string x.bytes) (congrArg Value.string hm3)) ?_
     refine bW 6 rfl rfl rfl (fun hc => qFA (off := 5) rfl) (bW 7 rfl rfl rfl (fun hc => bC 0 tk9 (ae rfl hc) rfl rfl) (bW 8 rfl rfl rfl (fun hc => iY (ae rfl hc) (ae rfl hc)) (bV 9 rfl rfl (bp rfl rfl (fun h => gt rfl h)) (bV 10 rfl rfl (bw rfl) (BN (an (az (FZ1 [] Tryz.results5 rfl ?_))))))))
     rw [decide_eq_true (p := x.bytes = x.bytes) rfl]; rfl
end Go.Proofs.YtahgkiicjohonaaGreat

namespace Go.Proofs.YtahgkiicjohonaaGreat.imageNodes
open Go.ChangeShapes Go.WideShapes Go.ChangeAt Go.RowKit
open Go.Lp Go.Sy Go.Lv
open Go.ChangeMaps (open_string shut_string)
theorem own : ownKnob Tryz.prog.godebug = none := by kernel_rfl
theorem laidOut : laidOutB Tryz.prog = true := by kernel_rfl
theorem laidMetH_nil (w : World) : laidMetH Tryz.prog [] w := ⟨[], rfl, List.nodup_nil, fun _ _ h => by cases h⟩
theorem image_in {H : Type} {enc : TypeId × Value → H} {w : World} {base : Nat} {spare : Nat → Bool} {held : Bool} {fuel : Nat} {cs : Array Value} {y : DataW H × List MemPlace} (h : DataW.trod enc Tryz.prog w base spare held fuel 39 cs.toList = some y) (hb : Rows.uptoBulk y.1 ≤ 1048576) :
   ∃ m : ax, Value.agg cs = m.val ∧ m.ok.holds w (fun b => b < w.heap.size) ∧ cI m ∧ (ba.enc (aV m)).length ≤ 1000000000 := by
 obtain ⟨ds, hlen, ho, hR, hz⟩ := lz 12 fuel 39 _ _ (by kernel_rfl) h
 exact uw (k := 6) w _ ds cs.toList (fun us n => n ≤ 10 * 1048576 → ∃ m : ax, Value.agg us.toArray = m.val ∧ m.ok.holds w (fun b => b < w.heap.size) ∧ cI m ∧ (ba.enc (aV m)).length ≤ 1000000000) ho (ach hlen hR)
   (fun m n a b c hn => ⟨m, rfl, a, b, by omega⟩) (by omega)
theorem contract (H : Type) (enc : TypeId × Value → H) (W : World) (base : Nat) (args : Array Value) (ds gs : List (DataW H)) (before : List MemPlace)
   (hval0 : ∀ (j : Nat) t v, Tryz.f5.params[j]? = some t → args[j]? = some v → Value.okWide Tryz.prog W .any base t v)
   (hW : DataW.Whole enc Tryz.prog Tryz.f5.params.toList Rows.imageNodesSpec.vars false W args.toList ds gs before) (hb : Rows.uptoBulkAll (ds ++ gs) ≤ 1048576) :
   Calls Tryz.prog 5 args W fun e W' => ∃ v, e = .returned v ∧ Rows.imageNodesSpec.post enc Tryz.prog Tryz.f5 false true false false W args v W' := by
 have hval : ∀ (j : Nat) t v, Tryz.f5.params[j]? = some t → args[j]? = some v → Value.okWide Tryz.prog W .any base t v := hval0
 have hW' := hW
 obtain ⟨p, q, hA0, hV, rfl, hfz, hnd⟩ := hW
 have hA : DataW.TrodAll enc Tryz.prog W 0 (fun _ => true) true Tryz.f5.params.toList args.toList ds p := hA0
 rw [Tryz.params5] at hA hval
 obtain ⟨v0, vs0, d0, ds0, p0, q0, hargs, rfl, rfl, h0, r0⟩ := trodAll_cons hA
 obtain ⟨v1, vs1, d1, ds1, p1, q1, rfl, rfl, rfl, h1, r1⟩ := trodAll_cons r0
 obtain ⟨rfl, rfl, rfl⟩ := trodAll_nil r1
 obtain rfl : args = #[v0, v1] := by cases args; simp_all
 obtain ⟨rfl, rfl⟩ := trodVars_none hV
 obtain ⟨a1, rfl, rfl, rfl, hz1⟩ := open_int Tryz.underlying3 (hval 1 3 v1 rfl rfl) h1
 obtain ⟨cs0, rfl, hsz0⟩ := okWide_struct Tryz.underlying39 (hval 0 39 v0 rfl rfl)
 have k0 := h0
 have lt0 : ∀ x ∈ p0, x.block < W.heap.size := by obtain ⟨m, hm⟩ := k0; exact DataW.trod_lt m _ _ _ hm
 obtain ⟨x, e0, hok, hWx, hl⟩ : ∃ x : ax, Value.agg cs0 = x.val ∧ x.ok.holds W (fun b => b < W.heap.size) ∧ cI x ∧ (ba.enc (aV x)).length ≤ 1000000000 := by
   obtain ⟨f0, g0⟩ := h0
   have hb0 : Rows.uptoBulk d0 ≤ 1048576 := Nat.le_trans (kE (by simp)) hb
   exact image_in (by simpa [Value.cells] using g0) hb0
 clear hA0 hval0
 have hc := (wOzq x hWx hl a1 (aep hz1)).quiet1 (List.mem_cons_self) (ado (w := W) (ps := [x.ok]) fun p hp => by
   rw [List.mem_singleton.1 hp]; exact hok)
 rw [← e0] at hc
 refine hc.mono fun e W' ⟨he, bel⟩ => ?_
 subst he
 exact ⟨_, rfl, _, _, _, [], _, [], hW', trodAll_mk1 (shut_bool Tryz.underlying4 _), (trodAll_cons_mk (Below.trod laidOut (by kernel_rfl) (of_decide_eq_true (by kernel_rfl)) k0 bel.kit lt0) (trodAll_cons_mk (shut_int Tryz.underlying3 hz1) trodAll_mk0)), rfl, bel.kit.frame _, fun h => by cases h⟩
abbrev wArgs : Array Value := #[.agg #[.string .empty, .bool false, .int .i64 0, .int .i64 0, .int .i64 0, .string .empty, .string .empty, .int .i64 0, .slice none 0 0, .slice none 0 0, .slice none 0 0, .slice none 0 0, .slice none 0 0, .slice none 0 0, .slice none 0 0, .slice none 0 0, .int .i64 0, .slice none 0 0, .slice none 0 0, .slice none 0 0, .slice none 0 0, .slice none 0 0, .slice none 0 0, .slice none 0 0, .slice none 0 0, .slice none 0 0], .int .i64 0]
theorem reads (os : Os) {H : Type} (enc : TypeId × Value → H) : DataW.whole enc Tryz.prog ((World.doorLaid Tryz.prog 400 os).forCall (fun _ _ => 0) ⟨#[], wArgs, []⟩).memory Tryz.f5.params.toList Rows.imageNodesSpec.vars false wArgs.toList 12 = some ([.agg [.lit (.string []), .lit (.bool false), .lit (.int .i64 0), .lit (.int .i64 0), .lit (.int .i64 0), .lit (.string []), .lit (.string []), .lit (.int .i64 0), .nil, .nil, .nil, .nil, .nil, .nil, .nil, .nil, .lit (.int .i64 0), .nil, .nil, .agg [.nil, .nil, .nil, .nil, .nil, .nil], .nil], .lit (.int .i64 0)], [], []) := by kernel_rfl
set_option maxRecDepth 100000 in
theorem lifted (os : Os) (started : os.Started) (H : Type) (enc : TypeId × Value → H) (F : Stop.Interp) :
   ReturnsInHanded {} Tryz.checked os 5 .any ((Rows.OpenSpec.upto Rows.imageNodesSpec).preRow enc Tryz.prog Tryz.f5 Rows.imageNodesUptoRow.domain false Rows.imageNodesUptoRow.laid) (((Rows.OpenSpec.upto Rows.imageNodesSpec).at F).post enc Tryz.prog Tryz.f5 false true false false) := by
 refine returnsInHanded_of_row (C := Tryz.checked) (s := Rows.OpenSpec.upto Rows.imageNodesSpec) own started (by kernel_rfl) Tryz.func5
   ⟨World.doorLaid Tryz.prog 400 os, fun _ _ => 0, ⟨#[], wArgs, []⟩, rfl, World.shaped_of_RefB (by kernel_rfl) (by kernel_rfl), rfl, (Input.okWide_of_okWideB (by kernel_rfl)).2,
     OpenSpec.preRow_of_cond 12 (reads os enc) (by kernel_rfl) (fun k hk => by cases hk; kernel_rfl) (by kernel_rfl) (laidMetH_nil _), by
       simp only [Assume.holds]
       exact ⟨by simp, by simp, fun h => (by cases h), by simp, by simp⟩⟩ ?_
 intro W base args ds gs before hval hW _ hcond _ hL _ _
 exact contract H enc W base args ds gs before hval hW (of_decide_eq_true (hcond _ rfl))
theorem named : Tryz.prog.funcNamed "linchpin/linchpinlaw20.ImageNodes" = some 5 := by kernel_rfl
set_option maxHeartbeats 4000000 in
theorem closed : joinedFacts Tryz.prog 5 Tryz.f5 (Rows.OpenSpec.upto Rows.imageNodesSpec).bare Rows.imageNodesUptoRow = true := by
 unfold joinedFacts
 repeat' with_reducible refine Bool.and_eq_true_iff.2 ⟨?_, ?_⟩
 all_goals (as_aux_lemma => kernel_rfl)
theorem proved : Rows.ImageNodesUptoSaid :=
 OpenClaim.holds_of_cond 5 Tryz.f5 rfl rfl rfl rfl rfl rfl rfl ⟨rfl, rfl, rfl, rfl, rfl⟩ rfl rfl rfl rfl rfl named Tryz.func5 closed
   (of_decide_eq_true (by as_aux_lemma => kernel_rfl)) (by unfold Func.isWrapper; first | (rw [if_pos (by decide +kernel)]; kernel_rfl) | (rw [if_neg (by decide +kernel)]; exact ⟨rfl, rfl⟩))
   (fun os started H enc _ F => by rw [OpenClaim.pre_eq_preRow]; exact lifted os started H enc F)
end Go.Proofs.YtahgkiicjohonaaGreat.imageNodes

