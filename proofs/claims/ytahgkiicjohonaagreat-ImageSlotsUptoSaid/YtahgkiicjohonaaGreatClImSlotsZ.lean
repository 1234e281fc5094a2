/- Proved: for all images of bulk at most 1048576 the law ImageSlots of the given program answers true and leaves what it was handed as it was; the second form. Conditions: none but those in the given statement itself. -/
import Derived.Test.YtahgkiicjohonaaGreatXa01
import Derived.Test.YtahgkiicjohonaaGreatXa02
import Derived.Test.YtahgkiicjohonaaGreatXa03
import Derived.Test.YtahgkiicjohonaaGreatXa04
import Derived.Test.YtahgkiicjohonaaGreatXa05
import Derived.Test.YtahgkiicjohonaaGreatXa06
import Derived.Test.YtahgkiicjohonaaGreatXa07
import Derived.Test.YtahgkiicjohonaaGreatXa08
import Derived.Test.YtahgkiicjohonaaGreatXa09
import Derived.Test.YtahgkiicjohonaaGreatXa10
import Derived.Test.YtahgkiicjohonaaGreatXa11
import Derived.Test.YtahgkiicjohonaaGreatXa12
import Derived.Test.YtahgkiicjohonaaGreatXa13
import Derived.Test.YtahgkiicjohonaaGreatXa14
import Derived.Test.YtahgkiicjohonaaGreatXa15
import Derived.Test.YtahgkiicjohonaaGreatXa16
import Derived.Test.YtahgkiicjohonaaGreatXa17
import Derived.Test.YtahgkiicjohonaaGreatXa18
import Derived.Test.YtahgkiicjohonaaGreatXa19
import Derived.Test.YtahgkiicjohonaaGreatXa20
import Derived.Test.YtahgkiicjohonaaGreatXa21
import Derived.Test.YtahgkiicjohonaaGreatXa22
import Derived.Test.YtahgkiicjohonaaGreatXa23
import Derived.Test.YtahgkiicjohonaaGreatXa24
import Derived.Test.YtahgkiicjohonaaGreatXa25
import Derived.Test.YtahgkiicjohonaaGreatXa26
import Derived.Test.YtahgkiicjohonaaGreatXa27
import Derived.Test.YtahgkiicjohonaaGreatXa28
import Derived.Test.YtahgkiicjohonaaGreatRows
import Derived.WalkKit
import Derived.ProofKit
import Derived.OpenShut
import Derived.ShutString
import Derived.ChangeOld
import Derived.Below
import Derived.LaidMore
import Derived.Stop.Joined
import Derived.Deep.DeepHandedRow
set_option linter.unusedSimpArgs false
set_option linter.unusedVariables false
set_option maxHeartbeats 1000000
set_option maxRecDepth 20000
namespace Go.Proofs.YtahgkiicjohonaaGreat
open Go.RowKit Go.Lp Go.Sy Go.Lv
open Go.Proofs.Tryz
attribute [local irreducible] aL aB awp aC fwp Quiet
theorem con_r20width (k : Int) : Con Tryz.prog 17 [.int .i64 k] [] [] fun r _ _ => r = .int .i64 (dM k) := by
  refine EN1 Tryz.func17 rfl (aSR (aA rfl (aNs (aSR (aM rfl (aU rfl (ck rfl rfl) (aM rfl (aG rfl rfl (fun hc => aP rfl) (aG rfl rfl (fun hc => ck (ae rfl hc) rfl) (aU rfl (cK rfl rfl (fun h => gf rfl h)) (aNn ?_)))))))))))
  refine ao _ rfl (fun h1 => ?_) (fun h1 => ?_)
  ·skip
   refine aSR (aA rfl (aNn (az (bu (FZ1 [] Tryz.results17 rfl ?_)))))
   unfold dM; rw [if_pos h1]
  ·skip
   refine ar (an (aSR (aA rfl (aNn (az (FZ1 [] Tryz.results17 rfl ?_))))))
   unfold dM; rw [if_neg (by rw [h1]; decide)]
end Go.Proofs.YtahgkiicjohonaaGreat
namespace Go.Proofs.YtahgkiicjohonaaGreat
open Go.RowKit Go.Lp Go.Sy Go.Lv
theorem right_parts {im : ax} (h : gT im = true) : eY im ∧ iM im = true ∧ gQ im = true ∧ lG im = true := by
 unfold gT at h
 simp only [Bool.and_eq_true] at h
 exact ⟨fM.1 h.1.1.1.1.1.1.1.1, h.1.1.1.1.1.1.1.2, h.1.1.1.1.1.2, h.1.1.1.1.2⟩
theorem nodes_parts {im : ax} (h : iM im = true) : (∀ x ∈ im.nodes.l, gW im x = true) ∧ (∀ i s, im.stubs.l[i]? = some s → kx im i s = true) ∧ (((oJ im.nodes.l ++ im.stubs.l.map sf).filter eS).Pairwise fun a b => lJ a b = true) := by
 unfold iM at h
 simp only [Bool.and_eq_true, Bool.not_eq_true'] at h
 obtain ⟨h1, _, h2, h3, _⟩ := h
 unfold kV at h1
 rw [Bool.or_eq_false_iff, Bool.not_eq_false'] at h1
 refine ⟨fun x hx => ?_, fun i s hs => ?_, kO.1 h3⟩
 · obtain ⟨i, hi, he⟩ := List.mem_iff_getElem.1 hx
   exact (gN.1 h1.2) i x (by rw [← he]; exact List.getElem?_eq_getElem hi)
 · have := (gN.1 h2) i s hs
   rwa [Nat.zero_add] at this
theorem right_fit {im : ax} (h : gT im = true) : sT im.nodes.l := fun x hx => by
 have := (nodes_parts (right_parts h).2.1).1 x hx
 unfold gW at this
 rw [Bool.and_eq_true, Bool.not_eq_true'] at this
 have h2 := j7 this.1
 exact ⟨h2.2.2, h2.2.1⟩
theorem hitB_iff {z : Int} {x : bk} : i7 z x = true ↔ gj x.kind = true ∧ x.at_ ≤ z ∧ z < x.at_ + x.size := by
 unfold i7; rw [Bool.and_eq_true, Bool.and_eq_true, decide_eq_true_eq, decide_eq_true_eq, and_assoc]
theorem disj_no {a b : bE} (h : lJ a b = true) (z : Int) : ¬ ((a.at_ ≤ z ∧ z < a.at_ + a.size) ∧ (b.at_ ≤ z ∧ z < b.at_ + b.size)) := by
 unfold lJ at h
 rw [Bool.or_eq_true, decide_eq_true_eq, decide_eq_true_eq] at h
 omega
theorem right_stub {im : ax} (h : gT im = true) {s : Int} (hs : s ∈ im.stubs.l) : (0 ≤ s ∧ s ≤ im.code - 8) ∧ ∀ k : Int, 0 ≤ k → k < 8 → ∀ x ∈ im.nodes.l, i7 (s + k) x = false := by
 obtain ⟨_, h2, hp⟩ := nodes_parts (right_parts h).2.1
 obtain ⟨i, hi, he⟩ := List.mem_iff_getElem.1 hs
 have hb := h2 i s (by rw [← he]; exact List.getElem?_eq_getElem hi)
 unfold kx at hb
 rw [Bool.not_eq_true', Bool.or_eq_false_iff, Bool.not_eq_false'] at hb
 have hb1 := hb.1
 unfold instrB at hb1
 rw [Bool.and_eq_true, mj] at hb1
 refine ⟨hb1.1, fun k hk0 hk8 x hx => ?_⟩
 rw [List.filter_append, List.pairwise_append] at hp
 rw [Bool.eq_false_iff]
 intro hh
 rw [hitB_iff] at hh
 have fx : eS (gr x) = true := by unfold eS; simp only [Bool.not_eq_true', decide_eq_false_iff_not]; show ¬ x.size ≤ 0; omega
 have h3 := hp.2.2 (gr x) (List.mem_filter.2 ⟨List.mem_map_of_mem (List.mem_filter.2 ⟨hx, hh.1⟩), fx⟩) (sf s) (List.mem_filter.2 ⟨List.mem_map_of_mem hs, rfl⟩)
 exact disj_no h3 (s + k) ⟨hh.2, by show s ≤ s + k; omega, by show s + k < s + 8; omega⟩
theorem cnt_one {α : Type} {p : α → Bool} : ∀ {l : List α}, l.Pairwise (fun x y => ¬ (p x = true ∧ p y = true)) → l.countP p ≤ 1
 | [], _ => Nat.zero_le _
 | a :: l, h => by
   rw [List.pairwise_cons] at h
   rw [List.countP_cons]
   by_cases ha : p a = true
   · have : l.countP p = 0 := List.countP_eq_zero.2 fun y hy hp => h.1 y hy ⟨ha, hp⟩
     rw [this, if_pos ha]; exact Nat.le_refl _
   · rw [if_neg ha]; exact cnt_one h.2
open Go.Proofs.Tryz
attribute [local irreducible] aL aB awp aC fwp Quiet
theorem cnt_succ {α : Type} (p : α → Bool) {l : List α} {k : Nat} {y : α} (h : l[k]? = some y) : (l.take (k + 1)).countP p = (l.take k).countP p + if p y = true then 1 else 0 := by
 rw [List.take_add_one, h, List.countP_append]; simp
end Go.Proofs.YtahgkiicjohonaaGreat

namespace Go.Proofs.YtahgkiicjohonaaGreat
open Go.RowKit Go.Lp Go.Sy Go.Lv
abbrev wFzq (x : fm) : Int := dM x.kind
theorem imp_walk {im : ax} : ∀ (l : List bY) (i : Nat) (st : List (ByteArray × ByteArray) × List Int), (fJ (wN im) st i l).1 = true →
   ∀ j, j < l.length → mC im (i + j) = -1 ∨ (im.code ≤ mC im (i + j) ∧ mC im (i + j) ≤ im.data - 8 ∧ mC im (i + j) ∉ st.2 ∧ ∀ j', j' < j → mC im (i + j') ≠ mC im (i + j))
 | [], _, _, _, j, hj => by simp at hj
 | a :: l, i, st, h, j, hj => by
   unfold fJ at h
   by_cases hb : wW im st i a = true
   · have e : (wN im st i a).1 = false := by unfold wN; rw [if_pos hb]
     rw [e] at h; simp at h
   · have e : wN im st i a = (aez a, (st.1 ++ [aed a], st.2 ++ [mC im i])) := by unfold wN; rw [if_neg hb]
     rw [e] at h
     cases ht : aez a with
     | false => rw [ht] at h; simp at h
     | true =>
       rw [ht] at h
       simp only [if_true] at h
       have ih := imp_walk l (i + 1) _ h
       rw [Bool.not_eq_true] at hb
       cases j with
       | zero =>
         rw [Nat.add_zero]
         unfold wW at hb
         rw [Bool.or_eq_false_iff, Bool.and_eq_false_iff] at hb
         rcases hb.2 with h1 | h1
         · rw [Bool.not_eq_false', decide_eq_true_eq] at h1; exact .inl h1
         · rw [Bool.or_eq_false_iff, Bool.or_eq_false_iff, Bool.not_eq_false', mj] at h1
           refine .inr ⟨h1.1.2.1, h1.1.2.2, fun hm => ?_, fun j' hj' => by omega⟩
           rw [ya.2 hm] at h1; exact absurd h1.1.1 (by decide)
       | succ j =>
         rw [List.length_cons] at hj
         have ejzq : i + (j + 1) = i + 1 + j := by omega
         rw [ejzq]
         rcases ih j (by omega) with h1 | ⟨h1, h2, h3, h4⟩
         · exact .inl h1
         · rw [List.mem_append] at h3
           refine .inr ⟨h1, h2, fun hm => h3 (.inl hm), fun j' hj' he => ?_⟩
           cases j' with
           | zero => rw [Nat.add_zero] at he; exact h3 (.inr (by rw [← he]; exact List.mem_singleton.2 rfl))
           | succ j' =>
             have ej2 : i + (j' + 1) = i + 1 + j' := by omega
             rw [ej2] at he
             exact h4 j' (by omega) he
theorem dyn_walk {im : ax} : ∀ (l : List fm) (i : Nat) (st : Int × Int), (fJ (gS im) st i l).1 = true →
   (∀ x ∈ l, st.1 ≤ x.at_ ∧ x.at_ + wFzq x ≤ im.data ∧ (x.kind = 3 → 0 ≤ x.import_ ∧ x.import_ ≤ im.imports.l.length - 1 ∧ elt im.slots.l x.import_ = x.at_)) ∧ l.Pairwise (fun a b => a.at_ + wFzq a ≤ b.at_) ∧ (fJ (gS im) st i l).2.2 = st.2 + (l.countP fun x => decide (x.kind = 3) : Nat)
 | [], _, _, _ => ⟨fun x hx => absurd hx List.not_mem_nil, List.Pairwise.nil, by show _ = _ + ((0 : Nat) : Int); rw [Int.natCast_zero, Int.add_zero]; rfl⟩
 | a :: l, i, st, h => by
   unfold fJ at h ⊢
   by_cases hb : pg im st.1 a = true
   · have e : (gS im st i a).1 = false := by unfold gS; rw [if_pos hb]
     rw [e] at h; simp at h
   · rw [Bool.not_eq_true] at hb
     obtain ⟨b1, b2, b3⟩ := vS hb
     have hw := yI a.kind
     have key : ∃ m : Int, gS im st i a = (true, (a.at_ + wFzq a, m)) ∧ m = st.2 + (if decide (a.kind = 3) = true then 1 else 0) ∧ (a.kind = 3 → 0 ≤ a.import_ ∧ a.import_ ≤ im.imports.l.length - 1 ∧ elt im.slots.l a.import_ = a.at_) := by
       unfold gS at h ⊢
       have hbn : ¬ pg im st.1 a = true := by rw [hb]; decide
       rw [if_neg hbn] at h ⊢
       by_cases h3 : a.kind = 3
       · rw [if_pos h3] at h ⊢
         by_cases hs : tb im a = true
         · rw [if_pos hs] at h; simp at h
         · rw [if_neg hs]
           refine ⟨_, rfl, by rw [if_pos (decide_eq_true h3)], fun _ => ?_⟩
           rw [Bool.not_eq_true] at hs
           unfold tb at hs
           rw [Bool.or_eq_false_iff, decide_eq_false_iff_not, Bool.not_eq_false', decide_eq_true_eq] at hs
           exact ⟨by omega, b3.2, hs.2⟩
       · rw [if_neg h3] at h ⊢
         by_cases hs : (a.kind = 5 ∨ a.kind = 6 ∨ a.kind = 7) ∧ a.import_ < 0
         · rw [if_pos hs] at h; simp at h
         · rw [if_neg hs]
           exact ⟨_, rfl, by rw [if_neg (by rw [decide_eq_false h3]; decide)]; omega, fun h => absurd h h3⟩
     obtain ⟨m, e, hm, hk⟩ := key
     rw [e] at h ⊢
     simp only [if_true] at h ⊢
     obtain ⟨i1, i2, i3⟩ := dyn_walk l (i + 1) _ h
     refine ⟨fun x hx => ?_, ?_, ?_⟩
     · rcases List.mem_cons.1 hx with rfl | hx
       · exact ⟨b2.1, by show x.at_ + dM x.kind ≤ _; omega, hk⟩
       · refine ⟨?_, (i1 x hx).2⟩
         have := (i1 x hx).1
         have e2 : wFzq a = dM a.kind := rfl
         dsimp only at this
         omega
     · exact List.pairwise_cons.2 ⟨fun x hx => (i1 x hx).1, i2⟩
     · rw [i3, List.countP_cons, hm]
       dsimp only
       split <;> omega
theorem pw_or {α : Type} {R : α → α → Prop} {x y : α} : ∀ {l : List α}, l.Pairwise R → x ∈ l → y ∈ l → x ≠ y → R x y ∨ R y x
 | a :: l, h, hx, hy, hne => by
   rw [List.pairwise_cons] at h
   rcases List.mem_cons.1 hx with h1 | h1
   · rcases List.mem_cons.1 hy with h2 | h2
     · exact absurd (h1.trans h2.symm) hne
     · exact .inl (h1 ▸ h.1 y h2)
   · rcases List.mem_cons.1 hy with h2 | h2
     · exact .inr (h2 ▸ h.1 x h1)
     · exact pw_or h.2 h1 h2 hne
def ownB (s : Int) (i : Nat) (d : fm) : Bool := decide (d.at_ = s) && decide (d.kind = 3) && decide (d.import_ = (i : Int))
theorem right_slot {im : ax} (h : gT im = true) {i : Nat} {s : Int} (hs : im.slots.l[i]? = some s) (hne : s ≠ -1) :
   (im.code ≤ s ∧ s + 8 ≤ im.data) ∧ im.dyns.l.countP (ownB s i) = 1 ∧ ∀ d ∈ im.dyns.l, ownB s i d = false → (decide (d.at_ < s + 8) && decide (s < d.at_ + dM d.kind)) = false := by
 obtain ⟨_, _, hi, hd⟩ := right_parts h
 unfold gQ at hi
 by_cases hh : uZ im = true
 · rw [if_pos hh] at hi; cases hi
 · rw [if_neg hh] at hi
   rw [Bool.not_eq_true] at hh
   unfold uZ at hh
   rw [Bool.or_eq_false_iff, Bool.not_eq_false', decide_eq_true_eq] at hh
   have hlen : im.slots.l.length = im.imports.l.length := by omega
   have hW := imp_walk im.imports.l 0 _ hi
   simp only [Nat.zero_add] at hW
   have hil := (List.getElem?_eq_some_iff.1 hs).1
   have hsl : ∀ (k : Nat) (t : Int), im.slots.l[k]? = some t → mC im k = t := fun k t hk => by
     show elt im.slots.l (k : Int) = t
     have := eo (List.getElem?_eq_some_iff.1 hk).1
     rw [this] at hk; exact Option.some.inj hk
   have hrg := (hW i (by omega)).resolve_left (by rw [hsl i s hs]; exact hne)
   rw [hsl i s hs] at hrg
   unfold lG at hd
   rw [Bool.and_eq_true, decide_eq_true_eq] at hd
   obtain ⟨d1, d2, d3⟩ := dyn_walk im.dyns.l 0 _ hd.1
   rw [d3] at hd
   -- the numbers of the slots that there are
   let B : List Nat := (List.range im.slots.l.length).filter fun k => !decide (mC im k = -1)
   let A : List Nat := (im.dyns.l.filter fun x => decide (x.kind = 3)).map fun x => x.import_.toNat
   have hBl : (B.length : Int) = mH im.slots.l := by
     unfold mH
     have e : im.slots.l = (List.range im.slots.l.length).map fun k => mC im k := by
       have hsl := hsl
       apply List.ext_getElem?
       intro k
       rw [List.getElem?_map]
       by_cases hk : k < im.slots.l.length
       · rw [List.getElem?_range hk, List.getElem?_eq_getElem hk]
         exact congrArg some (hsl k _ (List.getElem?_eq_getElem hk)).symm
       · rw [List.getElem?_eq_none (by omega), List.getElem?_eq_none (by simpa using hk)]; rfl
     have e2 := congrArg (fun l => (l.filter fun s => !decide (s = -1)).length) e
     rw [List.filter_map, List.length_map] at e2
     rw [e2]; rfl
   have hAl : A.length = im.dyns.l.countP fun x => decide (x.kind = 3) := by
     show (List.map _ _).length = _
     rw [List.length_map, List.countP_eq_length_filter]
   have hAd : A.Nodup := by
     show List.Pairwise (fun a b => a ≠ b) (List.map _ _)
     rw [List.pairwise_map, List.pairwise_filter]
     refine (List.Pairwise.and_mem.1 d2).imp fun {a b} ⟨ha, hb, hab⟩ h3a h3b he => ?_
     have kazq := (d1 a ha).2.2 (of_decide_eq_true h3a)
     have kbzq := (d1 b hb).2.2 (of_decide_eq_true h3b)
     have e2 : a.import_ = b.import_ := by omega
     rw [e2] at kazq
     have hw := yI a.kind
     have e3 : wFzq a = dM a.kind := rfl
     omega
   have hAB : ∀ k ∈ A, k ∈ B := fun k hk => by
     obtain ⟨x, hx, rfl⟩ := List.mem_map.1 hk
     obtain ⟨hx1, hx2⟩ := List.mem_filter.1 hx
     obtain ⟨k1, k2, k3⟩ := (d1 x hx1).2.2 (of_decide_eq_true hx2)
     refine List.mem_filter.2 ⟨List.mem_range.2 (by omega), ?_⟩
     have : mC im x.import_.toNat = x.at_ := by
       show elt im.slots.l (x.import_.toNat : Int) = _
       rw [Int.toNat_of_nonneg k1]; exact k3
     rw [this, Bool.not_eq_true', decide_eq_false_iff_not]
     have := (d1 x hx1).1
     omega
   have hiB : i ∈ B := List.mem_filter.2 ⟨List.mem_range.2 hil, by rw [hsl i s hs, Bool.not_eq_true', decide_eq_false_iff_not]; exact hne⟩
   have hiA : i ∈ A := Classical.byContradiction fun hn => by
     have h1 : (i :: A).Nodup := List.nodup_cons.2 ⟨hn, hAd⟩
     have h2 := eD (i :: A) B h1 fun x hx => by
       rcases List.mem_cons.1 hx with rfl | hx
       · exact hiB
       · exact hAB x hx
     rw [List.length_cons] at h2
     omega
   obtain ⟨d0, hd0, he0⟩ := List.mem_map.1 hiA
   obtain ⟨hm0, hk0⟩ := List.mem_filter.1 hd0
   have hk0 := of_decide_eq_true hk0
   obtain ⟨k1, k2, k3⟩ := (d1 d0 hm0).2.2 hk0
   have hi0 : d0.import_ = (i : Int) := by omega
   have hat : d0.at_ = s := by rw [← k3, hi0]; exact hsl i s hs
   have ho : ownB s i d0 = true := by unfold ownB; rw [decide_eq_true hat, decide_eq_true hk0, decide_eq_true hi0]; rfl
   have hw0 : wFzq d0 = 8 := by unfold wFzq; rw [hk0]; rfl
   refine ⟨⟨hrg.1, by omega⟩, ?_, fun d hd' hod => ?_⟩
   · have c1 : im.dyns.l.countP (ownB s i) ≤ 1 := cnt_one (d2.imp fun {a b} hab ⟨ha, hb⟩ => by
       unfold ownB at ha hb
       rw [Bool.and_eq_true, Bool.and_eq_true, decide_eq_true_eq] at ha hb
       have hw := yI a.kind
       have e3 : wFzq a = dM a.kind := rfl
       omega)
     have c2 : 0 < im.dyns.l.countP (ownB s i) := List.countP_pos_iff.2 ⟨d0, hm0, ho⟩
     omega
   · have hne2 : d0 ≠ d := fun e => by rw [← e, ho] at hod; cases hod
     rw [Bool.and_eq_false_iff, decide_eq_false_iff_not, decide_eq_false_iff_not]
     have e3 : wFzq d = dM d.kind := rfl
     rcases pw_or d2 hm0 hd' hne2 with h1 | h1 <;> omega
theorem right_dyn {im : ax} (h : gT im = true) : ∀ d ∈ im.dyns.l, 0 ≤ d.at_ ∧ d.at_ + dM d.kind ≤ im.data := fun d hd => by
 have hD := (right_parts h).2.2.2
 unfold lG at hD
 rw [Bool.and_eq_true] at hD
 have := (dyn_walk im.dyns.l 0 _ hD.1).1 d hd
 exact ⟨this.1, this.2.1⟩
theorem node_none (z : Int) : ∀ {l : List bk} (k : Nat), (∀ x ∈ l, i7 z x = false) → nodeAt z k l = (0, false)
 | [], _, _ => rfl
 | a :: l, k, h => by
   rw [nodeAt, if_neg (by rw [h a List.mem_cons_self]; decide)]
   exact node_none z (k + 1) fun x hx => h x (List.mem_cons_of_mem _ hx)
open Go.Proofs.Tryz
attribute [local irreducible] aL aB awp aC fwp Quiet
theorem con_lslots (x : ax) (hW : cI x) (hl : (ba.enc (aV x)).length ≤ 1000000000) : Con Tryz.prog 6 [x.val] [x.ok] [] fun r _ _ => r = .bool true := by
 refine EN1 Tryz.func6 rfl (aY _ (ax.f_slots (.of (aD 0 rfl))) (aY _ (ax.f_stubs (.of (aD 1 rfl))) (aY _ (ax.f_dyns (.of (aD 2 rfl))) (bQ (.of (aD 0 rfl)) (fun hld => (bQ (.of (aD 1 rfl)) (fun hlt => (bQ (.of (aD 2 rfl)) (fun hls => (aSR (LT rfl (cx rfl rfl rfl (fun b0_0 => (aHN ?_))))))))))))))
 refine aA rfl (aNn (aSR (aU rfl (Q0 rfl nT) (aA rfl (aNs (aSR (UL 0 tk39 rfl rfl rfl rfl ?_)))))))
 refine eT (caps := []) [0] (false) (by kernel_rfl) true rfl rfl (fun _ => rfl) (fun hc => rfl) (fun hc => by rw [List.append_nil]; exact rW x hW hl) (fun bf hbf => ?_)
 refine aU rfl (dp rfl) (aM rfl (aG rfl rfl (fun hc => bC 0 tk39 rfl rfl rfl) ?_))
 refine eT (caps := []) [0] (false) (by kernel_rfl) _ rfl rfl (fun _ => rfl) (fun hc => (aJ (ae rfl hc) rfl)) (fun hc => by rw [List.append_nil]; exact kf x ⟨hW.1, hW.2.1, hW.2.2.1⟩) (fun br hbr => ?_)
 refine aG rfl rfl (fun hc => dp (ae rfl hc)) (aU rfl (cK rfl rfl (fun h => gf rfl h)) (aNn ?_))
 refine ao _ rfl (fun h1 => ?_) (fun h1 => ?_)
 ·skip
  refine aSR (aM rfl (aA rfl (aNn (az (bu (FZ1 [] Tryz.results6 rfl ?_))))))
  rfl
 ·skip
  obtain ⟨h1a, h1b⟩ := Bool.or_eq_false_iff.1 h1
  rw [Bool.not_eq_false'] at h1a h1b
  have hR := ((hbr (by rw [h1a]; rfl)).1 h1b).2
  have hS := (right_parts hR).1
  have hfit := right_fit hR
  have hdy := right_dyn hR
  have hS1 := hS.c0
  have hS2 := hS.cd
  have hS3 := hS.dz
  have hS4 := hS.zm
  refine ar (an (aj (aSR (aA rfl (aNn (aq (aQ [1, 3, 4] [3, 2, 1, 0] [0] (fun (i : Nat) st => i ≤ x.slots.l.length ∧ st = ⟨[(1, true, .pointer (some ⟨b0_0, 0, none⟩)), (3, true, .bool true), (4, true, .int .i64 i)], [ShF fm.row x.dyns, ShF (fun z => [.v (.int .i64 z)]) x.stubs, ShF (fun z => [.v (.int .i64 z)]) x.slots, x.ok], [Box b0_0 39 x.vs]⟩) (fun i => x.slots.l.length - i) rfl (⟨0, Nat.zero_le _, rfl⟩) ?_)))))))
  rintro i st ⟨hi, rfl⟩
  refine aj (aSR (aM rfl (UO 11 rfl rfl (UL 0 tk25 rfl rfl rfl rfl (aU rfl (aW Tryz.underlying25 rfl) (aU rfl (bD rfl rfl) (aNn ?_)))))))
  refine ao _ rfl (fun h2 => ?_) (fun h2 => ?_)
  ·skip
   have hi' : i < x.slots.l.length := by simpa using h2
   obtain ⟨s, hs⟩ : ∃ s, x.slots.l[i]? = some s := ⟨_, List.getElem?_eq_getElem hi'⟩
   refine ar (an (aj (aq (aSR (UO 11 rfl rfl (UL 0 tk25 rfl rfl rfl rfl (aM rfl (UI Tryz.underlying25 tk3 2 rfl rfl rfl rfl rfl (aI hs) rfl rfl (fun ⟨b7_3, o7_3⟩ => ?_)))))))))
   refine US 0 tk3 0 rfl rfl rfl rfl rfl (aA rfl (aNs (aSR (aM rfl (aU rfl (ck rfl rfl) (aNn ?_))))))
   refine ao _ rfl (fun h3 => ?_) (fun h3 => ?_)
   ·skip
    refine aR (aS (aZ (an (aa (aM rfl (aU rfl (aX rfl rfl (by omega)) (aA rfl (aNn ?_))))))))
    refine ⟨[1, 3, 4], [3, 2, 1, 0], [0], rfl, ?_⟩
    exact ⟨i + 1, ⟨hi', rfl⟩, by omega⟩
   ·skip
    have hne : s ≠ -1 := of_decide_eq_false h3
    obtain ⟨⟨hg1, hg2⟩, hg3, hg4⟩ := right_slot hR hs hne
    refine ar (an (aSR (aA rfl (aNs (aSR (aA rfl (aNn (aq (aQ [1, 3, 4, 5, 6, 7] [3, 2, 1, 0] [0] (fun (k : Nat) st => k ≤ x.dyns.l.length ∧ st = ⟨[(1, true, .pointer (some ⟨b0_0, 0, none⟩)), (3, true, .bool true), (4, true, .int .i64 i), (5, true, .int .i64 s), (6, true, .int .i64 ((x.dyns.l.take k).countP (ownB s i) : Nat)), (7, true, .int .i64 k)], [ShF fm.row x.dyns, ShF (fun z => [.v (.int .i64 z)]) x.stubs, ShF (fun z => [.v (.int .i64 z)]) x.slots, x.ok], [Box b0_0 39 x.vs]⟩) (fun k => x.dyns.l.length - k) rfl (⟨0, Nat.zero_le _, rfl⟩) ?_)))))))))
    rintro k st ⟨hk, rfl⟩
    refine aj (aSR (aM rfl (UO 13 rfl rfl (UL 0 tk26 rfl rfl rfl rfl (aU rfl (aW Tryz.underlying26 rfl) (aU rfl (bD rfl rfl) (aNn ?_)))))))
    refine ao _ rfl (fun h4 => ?_) (fun h4 => ?_)
    ·skip
     have hk' : k < x.dyns.l.length := by simpa using h4
     obtain ⟨d, hd⟩ : ∃ d, x.dyns.l[k]? = some d := ⟨_, List.getElem?_eq_getElem hk'⟩
     obtain ⟨hd1, hd2⟩ := hdy d (List.mem_of_getElem? hd)
     have hcs := cnt_succ (ownB s i) hd
     have hcl : (x.dyns.l.take k).countP (ownB s i) ≤ k := Nat.le_trans List.countP_le_length (by rw [List.length_take]; omega)
     have hwd := yI d.kind
     refine ar (an (aj (aq (aSR (UO 13 rfl rfl (UL 0 tk26 rfl rfl rfl rfl (aM rfl (UI Tryz.underlying26 tk55 0 rfl rfl rfl rfl rfl (aI hd) rfl rfl (fun ⟨b13_3, o13_3⟩ => (US 0 tk55 0 rfl rfl rfl rfl rfl (LT rfl (bI (zs := [.int .i64 0, .int .i64 0, .int .i64 0, .int .i64 0]) (by kernel_rfl) rfl (fun b13_5 => (aHN ?_))))))))))))))
     refine aT rfl (bg 1 tk55 rfl rfl rfl rfl (aHK ?_))
     refine aNn (aSR (UO 0 rfl rfl (UL 1 tk3 rfl rfl rfl rfl (aM rfl (aU rfl (ck rfl rfl) (aM rfl (GO 1 rfl rfl rfl (GL 1 tk3 rfl rfl rfl rfl rfl (aG rfl rfl (fun hc => ck (ae rfl hc) rfl) (aU rfl (bp rfl rfl (fun h => gt rfl h)) (aM rfl (GO 2 rfl rfl rfl ?_))))))))))))
     refine GL 1 tk3 rfl rfl rfl rfl rfl (aG rfl rfl (fun hc => aP rfl) (aG rfl rfl (fun hc => ck (ae rfl hc) (ae rfl hc)) (aU rfl (bp rfl rfl (fun h => gt rfl h)) (aNn ?_))))
     refine ao _ rfl (fun h5 => ?_) (fun h5 => ?_)
     ·skip
      have ho : ownB s i d = true := h5
      rw [if_pos ho] at hcs
      refine aa (aM rfl (aU rfl (aX rfl rfl (by omega)) (aA rfl (bS (bA (an (aa (aM rfl (aU rfl (aX rfl rfl (by omega)) (aA rfl (aNn ?_)))))))))))
      refine ⟨[1, 3, 4, 5, 6, 7], [3, 2, 1, 0], [0], rfl, ?_⟩
      exact ⟨k + 1, ⟨hk', by rw [hcs]; rfl⟩, by omega⟩
     ·skip
      have ho : ownB s i d = false := h5
      have hno := hg4 d (List.mem_of_getElem? hd) ho
      rw [if_neg (by rw [ho]; decide), Nat.add_zero] at hcs
      refine aj (DR [] 15 (VO 0 0 rfl rfl rfl (VL 1 1 tk3 rfl rfl rfl rfl rfl (VM 2 rfl rfl (bV 3 rfl rfl (aX rfl rfl (by omega)) (bV 4 rfl rfl (bD rfl rfl) (VM 5 rfl rfl (bW 6 rfl rfl rfl (fun hc => aP rfl) (bW 7 rfl rfl rfl (fun hc => qFA (off := 0) rfl) (bW 8 rfl rfl rfl (fun hc => bC 1 tk3 (ae rfl hc) rfl rfl) (bW 9 rfl rfl rfl (fun hc => qFA (off := 1) rfl) (bW 10 rfl rfl rfl (fun hc => bC 1 tk3 (ae rfl hc) rfl rfl) (bW 11 rfl rfl rfl (fun hc => Q0 (aJ (ae rfl hc) rfl) (con_r20width _)) ?_)))))))))))))
      refine bW 12 rfl rfl rfl (fun hc => aX (ae rfl hc) (ae rfl hc) (by (first | omega | (simp at hc; omega)))) ?_
      refine bW 13 rfl rfl rfl (fun hc => bD (ae rfl hc) (ae rfl hc)) (bV 14 rfl rfl (bp rfl rfl (fun h => gt rfl h)) (BN (an ?_)))
      refine ao _ rfl (fun h6 => ?_) (fun h6 => ?_)
      ·skip
       rw [hno] at h6; cases h6
      ·skip
       refine ar (bA (an (aa (aM rfl (aU rfl (aX rfl rfl (by omega)) (aA rfl (aNn ?_)))))))
       refine ⟨[1, 3, 4, 5, 6, 7], [3, 2, 1, 0], [0], rfl, ?_⟩
       exact ⟨k + 1, ⟨hk', by rw [hcs]; rfl⟩, by omega⟩
    ·skip
     have hke : k = x.dyns.l.length := by simp at h4; omega
     subst hke
     rw [List.take_length, hg3]
     refine aR (aS (aS (aZ (an (aSR (aM rfl (aU rfl (eG rfl rfl) (aM rfl (aG rfl rfl (fun hc => aP rfl) (GO 2 rfl rfl rfl (GL 0 tk3 rfl rfl rfl rfl rfl (aG rfl rfl (fun hc => bD (ae rfl hc) (ae rfl hc)) (aU rfl (cK rfl rfl (fun h => gf rfl h)) (aM rfl (aG rfl rfl (fun hc => aP rfl) ?_)))))))))))))))
     refine aG rfl rfl (fun hc => aX (ae rfl hc) rfl (by (first | omega | (simp at hc; omega)))) ?_
     refine GO 3 rfl rfl rfl (GL 0 tk3 rfl rfl rfl rfl rfl (aG rfl rfl (fun hc => cJ (ae rfl hc) (ae rfl hc)) (aU rfl (cK rfl rfl (fun h => gf rfl h)) (aNn ?_))))
     refine ao _ rfl (fun h7 => ?_) (fun h7 => ?_)
     ·skip
      exfalso
      rw [decide_eq_false (show ¬ s < x.code by omega), decide_eq_false (show ¬ s + 8 > x.data by omega)] at h7
      simp at h7
     ·skip
      refine ar (bA (an (aa (aM rfl (aU rfl (aX rfl rfl (by omega)) (aA rfl (aNn ?_)))))))
      refine ⟨[1, 3, 4], [3, 2, 1, 0], [0], rfl, ?_⟩
      exact ⟨i + 1, ⟨hi', rfl⟩, by omega⟩
  ·skip
   refine aR (aS (aS (aZ (an (aj (aSR (aA rfl (aNn (aq (aQ [1, 3, 9] [3, 2, 1, 0] [0] (fun (j : Nat) st => j ≤ x.stubs.l.length ∧ st = ⟨[(1, true, .pointer (some ⟨b0_0, 0, none⟩)), (3, true, .bool true), (9, true, .int .i64 j)], [ShF fm.row x.dyns, ShF (fun z => [.v (.int .i64 z)]) x.stubs, ShF (fun z => [.v (.int .i64 z)]) x.slots, x.ok], [Box b0_0 39 x.vs]⟩) (fun j => x.stubs.l.length - j) rfl (⟨0, Nat.zero_le _, rfl⟩) ?_))))))))))
   rintro j st ⟨hj, rfl⟩
   refine aj (aSR (aM rfl (UO 12 rfl rfl (UL 0 tk25 rfl rfl rfl rfl (aU rfl (aW Tryz.underlying25 rfl) (aU rfl (bD rfl rfl) (aNn ?_)))))))
   refine ao _ rfl (fun h8 => ?_) (fun h8 => ?_)
   ·skip
    have hj' : j < x.stubs.l.length := by simpa using h8
    obtain ⟨t, ht⟩ : ∃ t, x.stubs.l[j]? = some t := ⟨_, List.getElem?_eq_getElem hj'⟩
    obtain ⟨ht1, ht2⟩ := right_stub hR (List.mem_of_getElem? ht)
    refine ar (an (aj (aq (aSR (aA rfl (bS (an (aq (aQ [1, 3, 9, 10] [3, 2, 1, 0] [0] (fun (q : Nat) st => q ≤ 8 ∧ st = ⟨[(1, true, .pointer (some ⟨b0_0, 0, none⟩)), (3, true, .bool true), (9, true, .int .i64 j), (10, true, .int .i64 q)], [ShF fm.row x.dyns, ShF (fun z => [.v (.int .i64 z)]) x.stubs, ShF (fun z => [.v (.int .i64 z)]) x.slots, x.ok], [Box b0_0 39 x.vs]⟩) (fun q => 8 - q) rfl (⟨0, Nat.zero_le _, rfl⟩) ?_)))))))))
    rintro q st ⟨hq, rfl⟩
    refine aj (aSR (aM rfl (aU rfl (bD rfl rfl) (aNn ?_))))
    refine ao _ rfl (fun h9 => ?_) (fun h9 => ?_)
    ·skip
     have hq' : q < 8 := by have := of_decide_eq_true h9; omega
     have hnone := node_none (t + (q : Int)) (l := x.nodes.l) 0 (ht2 q (by omega) (by omega))
     refine ar (an (aj (aq (aj (DR [] 14 (VL 0 0 tk39 rfl rfl rfl rfl rfl (VO 1 12 rfl rfl rfl (VL 2 0 tk25 rfl rfl rfl rfl rfl (VM 3 rfl rfl (XI 4 Tryz.underlying25 tk3 1 rfl rfl rfl rfl rfl rfl (aI ht) rfl rfl (fun ⟨b26_4, o26_4⟩ => (VT 5 0 tk3 0 rfl rfl rfl rfl rfl rfl (VM 6 rfl rfl (bV 7 rfl rfl (aX rfl rfl (by omega)) ?_))))))))))))))
     refine bV 8 rfl rfl (Q1 rfl ((jI x hfit (t + (q : Int))).post (fun _ _ _ h => h.trans (by rw [hnone]))) 4 rfl) ?_
     refine VM 9 rfl rfl (bV 10 rfl rfl (bP rfl rfl) (bV 11 rfl rfl (bP rfl rfl) (bV 12 rfl rfl (bw rfl) (bV 13 rfl rfl (bw rfl) (BN (an (aj (DR [] 13 (VM 0 rfl rfl (VM 1 rfl rfl (bW 2 rfl rfl rfl (fun hc => qFA (off := 12) rfl) (bW 3 rfl rfl rfl (fun hc => bC 0 tk25 (ae rfl hc) rfl rfl) (bW 4 rfl rfl rfl (fun hc => aP rfl) (q8 5 rfl (by kernel_rfl) _ rfl rfl (fun hc => bF Tryz.underlying25 tk3 (ae rfl hc) ((.of (aD 2 rfl))) (ae rfl hc) (aI ht) rfl rfl) (fun _ => ⟨(0, 0)⟩) (fun ⟨b27_5, o27_5⟩ => ?_)))))))))))))))
     refine bW 6 rfl rfl rfl (fun hc => fV (o := 0) tk3 (ae rfl hc) (aD 0 rfl) hc rfl) (bW 7 rfl rfl rfl (fun hc => aP rfl) ?_)
     refine bW 8 rfl rfl rfl (fun hc => aX (ae rfl hc) (ae rfl hc) (by (first | omega | (simp at hc; omega)))) ?_
     refine bW 9 rfl rfl rfl (fun hc => qFA (off := 2) rfl) (bW 10 rfl rfl rfl (fun hc => bC 0 tk3 (ae rfl hc) rfl rfl) (bW 11 rfl rfl rfl (fun hc => fk (ae rfl hc) (ae rfl hc)) (bV 12 rfl rfl (cK rfl rfl (fun h => gf rfl h)) (BN (an ?_)))))
     refine ao _ rfl (fun h10 => ?_) (fun h10 => ?_)
     ·skip
      exfalso
      rw [decide_eq_false (show ¬ t + (q : Int) ≥ x.code by omega)] at h10
      cases h10
     ·skip
      refine ar (bA (an (aa (aM rfl (aU rfl (aX rfl rfl (by omega)) (aA rfl (aNn ?_)))))))
      refine ⟨[1, 3, 9, 10], [3, 2, 1, 0], [0], rfl, ?_⟩
      exact ⟨q + 1, ⟨hq', rfl⟩, by omega⟩
    ·skip
     refine aR (aS (aS (aZ (bA (an (aa (aM rfl (aU rfl (aX rfl rfl (by omega)) (aA rfl (aNn ?_))))))))))
     refine ⟨[1, 3, 9], [3, 2, 1, 0], [0], rfl, ?_⟩
     exact ⟨j + 1, ⟨hj', rfl⟩, by omega⟩
   ·skip
    refine aR (aS (aS (aZ (an (aSR (aM rfl (aA rfl (aNn (az (FZ1 [] Tryz.results6 rfl ?_))))))))))
    rfl
end Go.Proofs.YtahgkiicjohonaaGreat

namespace Go.Proofs.YtahgkiicjohonaaGreat.imageSlots
open Go.ChangeShapes Go.WideShapes Go.ChangeAt Go.RowKit
open Go.Lp Go.Sy Go.Lv
open Go.ChangeMaps (open_string shut_string)
theorem own : ownKnob Tryz.prog.godebug = none := by kernel_rfl
theorem laidOut : laidOutB Tryz.prog = true := by kernel_rfl
theorem laidMetH_nil (w : World) : laidMetH Tryz.prog [] w := ⟨[], rfl, List.nodup_nil, fun _ _ h => by cases h⟩
theorem image_in {H : Type} {enc : TypeId × Value → H} {w : World} {base : Nat} {spare : Nat → Bool} {held : Bool} {fuel : Nat} {cs : Array Value} {y : DataW H × List MemPlace} (h : DataW.trod enc Tryz.prog w base spare held fuel 39 cs.toList = some y) (hb : Rows.uptoBulk y.1 ≤ 1048576) :
   ∃ m : ax, Value.agg cs = m.val ∧ m.ok.holds w (fun b => b < w.heap.size) ∧ cI m ∧ (ba.enc (aV m)).length ≤ 1000000000 := by
 obtain ⟨ds, hlen, ho, hR, hz⟩ := lz 12 fuel 39 _ _ (by kernel_rfl) h
 exact uw (k := 6) w _ ds cs.toList (fun us n => n ≤ 10 * 1048576 → ∃ m : ax, Value.agg us.toArray = m.val ∧ m.ok.holds w (fun b => b < w.heap.size) ∧ cI m ∧ (ba.enc (aV m)).length ≤ 1000000000) ho (ach hlen hR)
   (fun m n a b c hn => ⟨m, rfl, a, b, by omega⟩) (by omega)
theorem contract (H : Type) (enc : TypeId × Value → H) (W : World) (base : Nat) (args : Array Value) (ds gs : List (DataW H)) (before : List MemPlace)
   (hval0 : ∀ (j : Nat) t v, Tryz.f6.params[j]? = some t → args[j]? = some v → Value.okWide Tryz.prog W .any base t v)
   (hW : DataW.Whole enc Tryz.prog Tryz.f6.params.toList Rows.imageSlotsSpec.vars false W args.toList ds gs before) (hb : Rows.uptoBulkAll (ds ++ gs) ≤ 1048576) :
   Calls Tryz.prog 6 args W fun e W' => ∃ v, e = .returned v ∧ Rows.imageSlotsSpec.post enc Tryz.prog Tryz.f6 false true false false W args v W' := by
 have hval : ∀ (j : Nat) t v, Tryz.f6.params[j]? = some t → args[j]? = some v → Value.okWide Tryz.prog W .any base t v := hval0
 have hW' := hW
 obtain ⟨p, q, hA0, hV, rfl, hfz, hnd⟩ := hW
 have hA : DataW.TrodAll enc Tryz.prog W 0 (fun _ => true) true Tryz.f6.params.toList args.toList ds p := hA0
 rw [Tryz.params6] at hA hval
 obtain ⟨v0, vs0, d0, ds0, p0, q0, hargs, rfl, rfl, h0, r0⟩ := trodAll_cons hA
 obtain ⟨rfl, rfl, rfl⟩ := trodAll_nil r0
 obtain rfl : args = #[v0] := by cases args; simp_all
 obtain ⟨rfl, rfl⟩ := trodVars_none hV
 obtain ⟨cs0, rfl, hsz0⟩ := okWide_struct Tryz.underlying39 (hval 0 39 v0 rfl rfl)
 have k0 := h0
 have lt0 : ∀ x ∈ p0, x.block < W.heap.size := by obtain ⟨m, hm⟩ := k0; exact DataW.trod_lt m _ _ _ hm
 obtain ⟨x, e0, hok, hWx, hl⟩ : ∃ x : ax, Value.agg cs0 = x.val ∧ x.ok.holds W (fun b => b < W.heap.size) ∧ cI x ∧ (ba.enc (aV x)).length ≤ 1000000000 := by
   obtain ⟨f0, g0⟩ := h0
   have hb0 : Rows.uptoBulk d0 ≤ 1048576 := Nat.le_trans (kE (by simp)) hb
   exact image_in (by simpa [Value.cells] using g0) hb0
 clear hA0 hval0
 have hc := (con_lslots x hWx hl).quiet1 (List.mem_cons_self) (ado (w := W) (ps := [x.ok]) fun p hp => by
   rw [List.mem_singleton.1 hp]; exact hok)
 rw [← e0] at hc
 refine hc.mono fun e W' ⟨he, bel⟩ => ?_
 subst he
 exact ⟨_, rfl, _, _, _, [], _, [], hW', trodAll_mk1 (shut_bool Tryz.underlying4 _), (trodAll_cons_mk (Below.trod laidOut (by kernel_rfl) (of_decide_eq_true (by kernel_rfl)) k0 bel.kit lt0) trodAll_mk0), rfl, bel.kit.frame _, fun h => by cases h⟩
abbrev wArgs : Array Value := #[.agg #[.string .empty, .bool false, .int .i64 0, .int .i64 0, .int .i64 0, .string .empty, .string .empty, .int .i64 0, .slice none 0 0, .slice none 0 0, .slice none 0 0, .slice none 0 0, .slice none 0 0, .slice none 0 0, .slice none 0 0, .slice none 0 0, .int .i64 0, .slice none 0 0, .slice none 0 0, .slice none 0 0, .slice none 0 0, .slice none 0 0, .slice none 0 0, .slice none 0 0, .slice none 0 0, .slice none 0 0]]
theorem reads (os : Os) {H : Type} (enc : TypeId × Value → H) : DataW.whole enc Tryz.prog ((World.doorLaid Tryz.prog 400 os).forCall (fun _ _ => 0) ⟨#[], wArgs, []⟩).memory Tryz.f6.params.toList Rows.imageSlotsSpec.vars false wArgs.toList 12 = some ([.agg [.lit (.string []), .lit (.bool false), .lit (.int .i64 0), .lit (.int .i64 0), .lit (.int .i64 0), .lit (.string []), .lit (.string []), .lit (.int .i64 0), .nil, .nil, .nil, .nil, .nil, .nil, .nil, .nil, .lit (.int .i64 0), .nil, .nil, .agg [.nil, .nil, .nil, .nil, .nil, .nil], .nil]], [], []) := by kernel_rfl
set_option maxRecDepth 100000 in
theorem lifted (os : Os) (started : os.Started) (H : Type) (enc : TypeId × Value → H) (F : Stop.Interp) :
   ReturnsInHanded {} Tryz.checked os 6 .any ((Rows.OpenSpec.upto Rows.imageSlotsSpec).preRow enc Tryz.prog Tryz.f6 Rows.imageSlotsUptoRow.domain false Rows.imageSlotsUptoRow.laid) (((Rows.OpenSpec.upto Rows.imageSlotsSpec).at F).post enc Tryz.prog Tryz.f6 false true false false) := by
 refine returnsInHanded_of_row (C := Tryz.checked) (s := Rows.OpenSpec.upto Rows.imageSlotsSpec) own started (by kernel_rfl) Tryz.func6
   ⟨World.doorLaid Tryz.prog 400 os, fun _ _ => 0, ⟨#[], wArgs, []⟩, rfl, World.shaped_of_RefB (by kernel_rfl) (by kernel_rfl), rfl, (Input.okWide_of_okWideB (by kernel_rfl)).2,
     OpenSpec.preRow_of_cond 12 (reads os enc) (by kernel_rfl) (fun k hk => by cases hk; kernel_rfl) (by kernel_rfl) (laidMetH_nil _), by
       simp only [Assume.holds]
       exact ⟨by simp, by simp, fun h => (by cases h), by simp, by simp⟩⟩ ?_
 intro W base args ds gs before hval hW _ hcond _ hL _ _
 exact contract H enc W base args ds gs before hval hW (of_decide_eq_true (hcond _ rfl))
theorem named : Tryz.prog.funcNamed "linchpin/linchpinlaw20.ImageSlots" = some 6 := by kernel_rfl
set_option maxHeartbeats 4000000 in
theorem closed : joinedFacts Tryz.prog 6 Tryz.f6 (Rows.OpenSpec.upto Rows.imageSlotsSpec).bare Rows.imageSlotsUptoRow = true := by
 unfold joinedFacts
 repeat' with_reducible refine Bool.and_eq_true_iff.2 ⟨?_, ?_⟩
 all_goals (as_aux_lemma => kernel_rfl)
theorem proved : Rows.ImageSlotsUptoSaid :=
 OpenClaim.holds_of_cond 6 Tryz.f6 rfl rfl rfl rfl rfl rfl rfl ⟨rfl, rfl, rfl, rfl, rfl⟩ rfl rfl rfl rfl rfl named Tryz.func6 closed
   (of_decide_eq_true (by as_aux_lemma => kernel_rfl)) (by unfold Func.isWrapper; first | (rw [if_pos (by decide +kernel)]; kernel_rfl) | (rw [if_neg (by decide +kernel)]; exact ⟨rfl, rfl⟩))
   (fun os started H enc _ F => by rw [OpenClaim.pre_eq_preRow]; exact lifted os started H enc F)
end Go.Proofs.YtahgkiicjohonaaGreat.imageSlots

