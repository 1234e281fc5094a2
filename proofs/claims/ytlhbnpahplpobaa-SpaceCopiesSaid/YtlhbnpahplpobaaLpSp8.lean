/- Unmap of a space. -/
import Derived.Test.YtlhbnpahplpobaaLpSp7
set_option linter.unusedVariables false
set_option linter.unusedSimpArgs false
namespace Go.Lp
open Go.RowKit
theorem filter_idx {α : Type} (p : α → Bool) (l : List α) (i : Nat) (hi : i < l.length) (h0 : p l[i] = false) (h1 : ∀ j (hj : j < l.length), j ≠ i → p l[j] = true) : l.filter p = l.take i ++ l.drop (i + 1) := by
  have e : l = l.take i ++ l[i] :: l.drop (i + 1) := by rw [← List.drop_eq_getElem_cons hi, List.take_append_drop]
  conv => lhs; rw [e]
  rw [List.filter_append, List.filter_cons_of_neg (by simp [h0])]
  congr 1
  · rw [List.filter_eq_self]
    intro a ha
    obtain ⟨j, hj, rfl⟩ := List.getElem_of_mem ha
    rw [List.getElem_take]
    simp at hj
    exact h1 _ _ (by omega)
  · rw [List.filter_eq_self]
    intro a ha
    obtain ⟨j, hj, rfl⟩ := List.getElem_of_mem ha
    rw [List.getElem_drop]
    exact h1 _ _ (by omega)
def without (S : List Pt) (i : Nat) : List Pt := S.take i ++ S.drop (i + 1)
theorem without_sub (S : List Pt) (i : Nat) : (without S i).Sublist S := by
  unfold without
  have : S = S.take i ++ S.drop i := (List.take_append_drop i S).symm
  conv => rhs; rw [this]
  refine List.Sublist.append (List.Sublist.refl _) ?_
  rw [← List.drop_drop]
  exact List.drop_sublist 1 _
theorem Inv.sub {S T : List Pt} (h : Inv S) (hs : T.Sublist S) : Inv T := ⟨fun q hq => h.right q (hs.subset hq), h.asc.sublist hs, fun q hq => h.len q (hs.subset hq)⟩
theorem Lo.uniq {key : Nat → Int} {n : Nat} {t : Int} {k i : Nat} (h : Lo key n t k) (hi : i < n) (he : key i = t) (hl : ∀ j, j < i → key j < t) : k = i := by
  obtain ⟨h1, h2, h3⟩ := h
  rcases Nat.lt_trichotomy k i with hlt | rfl | hlt
  · have := h3 k (Nat.le_refl _) (by omega)
    have := hl k hlt
    omega
  · rfl
  · have := h2 i hlt
    omega
end Go.Lp
namespace Go.Proofs.Ytlhbnpahplpobaa
open Go.RowKit Go.Lp Go.Deep

theorem unmap_done {w : World} {p B c i : Nat} {S : List Pt} (h : SpAt w p (some B) c S) (hi : i < S.length) (cur' : List Value) (w2 : World) (h1 : w2.heap[B]? = some (.cells cur'.toArray 56 (0, 0))) (h2 : cur'.length = c * 6) (h3 : cur'.take ((S.length - 1) * 6) = flat (without S i)) (h4 : Upd B w w2) :
    Done w p (foot p (some B) S) (mem (without S i)) (w2.setCell ⟨p, 0, none⟩ (.slice (some ⟨B, 0, none⟩) (S.length - 1 : Nat) c)) := by
  have hpB : p ≠ B := fun e => h.self (by rw [e])
  have hwl : (without S i).length = S.length - 1 := by unfold without; simp; omega
  have hsub := without_sub S i
  have hp2 : w2.heap[p]? = some (.cells #[.slice (adr (some B)) S.length c] 70 (0, 0)) := (h4.block p h.plt hpB).trans h.head
  have hpl := lt_of_heap hp2
  have hBl := lt_of_heap h1
  obtain ⟨cur, hB, hl, hS, hc, ht⟩ := h.row
  have hblk : ∀ k, k < w2.heap.size → k ≠ p → (w2.setCell ⟨p, 0, none⟩ (.slice (some ⟨B, 0, none⟩) (S.length - 1 : Nat) c)).heap[k]? = w2.heap[k]? := fun k hk hne => by
    rw [blk_setCell_other _ _ _ _ hne]
  refine ⟨foot p (some B) (without S i), ⟨some B, c, without S i, ⟨?_, ?_, fun q hq => ?_, ?_, fun q hq => h.apart q (hsub.subset hq), h.self, h.inv.sub hsub, Nat.le_trans hsub.length_le h.few⟩, rfl, rfl⟩, ?_, ?_⟩
  · rw [hwl]
    simp only [World.setCell, Array.getElem?_modify, if_pos, hp2]
    rfl
  · refine ⟨cur', ?_, h2, by rw [hwl]; omega, hc, by rw [hwl]; exact h3⟩
    rw [hblk B hBl (Ne.symm hpB)]; exact h1
  · have hqS := hsub.subset hq
    obtain ⟨sp, hb, r⟩ := h.bytes q hqS
    have ha := h.apart q hqS
    have hql := lt_of_heap hb
    refine ⟨sp, ?_, r⟩
    rw [hblk _ (Nat.lt_of_lt_of_le hql h4.size) ha.1, h4.block _ hql (fun e => ha.2 (by rw [e]))]
    exact hb
  · exact h.nodup.sublist (hsub.map _)
  · refine ⟨h4.os, h4.tape, h4.output, by rw [nblk_setCell]; exact h4.size, fun k hk hn => ?_⟩
    simp only [foot, List.mem_cons, List.mem_append, not_or] at hn
    rw [hblk k (Nat.lt_of_lt_of_le hk h4.size) hn.1]
    exact h4.block k hk (fun e => hn.2.1 (by simp [e]))
  · intro k hk
    left
    simp only [foot, List.mem_cons, List.mem_append, List.mem_map] at hk ⊢
    rcases hk with hk | hk | ⟨q, hq, rfl⟩
    · exact .inl hk
    · exact .inr (.inl hk)
    · exact .inr (.inr ⟨q, hsub.subset hq, rfl⟩)

set_option maxHeartbeats 1000000 in
theorem unmap_yes {w : World} {p : Nat} {a : Option Nat} {c : Nat} {S : List Pt} (h : SpAt w p a c S) (i : Nat) (hi : i < S.length) :
    Calls Try.prog 26 #[.pointer (some ⟨p, 0, none⟩), .int .i64 (ptKey S i)] w fun e w' => e = .returned (.int .i64 0) ∧ Done w p (foot p a S) (mem (without S i)) w' := by
  have HS := Lib.hid (fun W (hb : Below w.heap.size w W) => ((h.below hb).search (ptKey S i)).mono (fun e w' hw => (by
    obtain ⟨k, hlo, rfl, hb'⟩ := hw
    have hk : k = i := hlo.uniq hi rfl (fun j hj => by
      have := h.inv.key_lt hj hi
      have := rightA_iff.1 (h.inv.rightAt (show j < S.length by omega))
      unfold ptKey; omega)
    subst hk
    exact ⟨by rw [decide_eq_true (⟨hi, rfl⟩ : k < S.length ∧ _)], hb'⟩ : e = .returned (.tuple #[.int .i64 i, .bool true]) ∧ Below W.heap.size W w')))
  have hpl := h.plt
  have hpc := h.pcell
  have hpf : w.frozen? ⟨p, 0, none⟩ = false := by unfold World.frozen?; rw [show (⟨p, 0, none⟩ : Addr).block = p from rfl, h.head]; simp
  have hrow := h.row
  cases a with
  | none => obtain ⟨rfl, _⟩ := hrow; simp at hi
  | some B =>
    obtain ⟨cur, hB, hl, hS, hc, ht⟩ := hrow
    have hBl := lt_of_heap hB
    have hpB : p ≠ B := fun e => h.self (by rw [e])
    have hfl : (flat S).take (i * 6) ++ (flat S).drop (i * 6 + 6) = flat (without S i) := by
      unfold without
      rw [flat_append, flat_take, flat_drop, Nat.add_mul]
    have hwl : (without S i).length = S.length - 1 := by unfold without; simp; omega
    have hpl2 : ∀ w', Upd B w w' → w'.heap[p]? = w.heap[p]? := fun w' hu => hu.block p hpl hpB
    have HD := Lib.hid (fun W (hb : Below w.heap.size w W) => (delete_one B S.length c i cur W ((hb.block B hBl).trans hB) hl hi hS h.few hc (by rw [ht]; exact one_flat S)).mono fun e w' hw => (by
      obtain ⟨cur', rfl, h1, h2, h3, hu⟩ := hw
      have hu' : Upd B w w' := (Upd.of_below hb).trans hu
      rw [ht, hfl] at h3
      have hh := (hpl2 w' hu').trans h.head
      exact ⟨cur', rfl, ⟨h1, h2, h3, hu'⟩, by rw [cell_of_heap hh]; rfl, by unfold World.frozen?; rw [show (⟨p, 0, none⟩ : Addr).block = p from rfl, hh]; simp, lt_of_heap hh⟩ :
      ∃ cur' : List Value, e = .returned (.slice (some ⟨B, 0, none⟩) (S.length - 1 : Nat) c) ∧ (w'.heap[B]? = some (.cells cur'.toArray 56 (0, 0)) ∧ cur'.length = c * 6 ∧ cur'.take ((S.length - 1) * 6) = flat (without S i) ∧ Upd B w w') ∧
        w'.cell? ⟨p, 0, none⟩ = some (.slice (some ⟨B, 0, none⟩) S.length c) ∧ w'.frozen? ⟨p, 0, none⟩ = false ∧ p < w'.heap.size))
    have hlen : S.length ≤ 4096 := h.few
    have HFIN := Lib.hid (fun (w2 : World) (cur' : List Value) (h4 : w2.heap[B]? = some (.cells cur'.toArray 56 (0, 0)) ∧ cur'.length = c * 6 ∧ cur'.take ((S.length - 1) * 6) = flat (without S i) ∧ Upd B w w2) =>
      unmap_done h hi cur' w2 h4.1 h4.2.1 h4.2.2.1 h4.2.2.2)
    clear hB hl hc ht hfl hwl hpl2 h
    go_enter Try.func26, Try.ntmps26
    go_wp2_with (first | (go_at_call 34; refine (HS.out _ (by (repeat (first | exact Below.refl _ _ | exact below_ext _ _ _ | (refine below_ext' ?_ (by (try simp only [World.size_alloc, size_ext, World.size_setCell, World.size_drew]); omega) _ _) | (refine Below.alloc ?_ (by (try simp only [World.size_alloc, size_ext, World.size_setCell, World.size_drew]); omega) _) | refine Below.drew ?_)))).mono ?_; rintro e w1 ⟨rfl, hb⟩; obtain ⟨objs, d, rfl⟩ := ext_of_below hb; clear hb) | (go_at_call 38; refine (HD.out _ (by (repeat (first | exact Below.refl _ _ | exact below_ext _ _ _ | (refine below_ext' ?_ (by (try simp only [World.size_alloc, size_ext, World.size_setCell, World.size_drew]); omega) _ _) | (refine Below.alloc ?_ (by (try simp only [World.size_alloc, size_ext, World.size_setCell, World.size_drew]); omega) _) | refine Below.drew ?_)))).mono ?_; rintro e w2 ⟨cur', rfl, h1, h2, h3, h4⟩; replace h1 := Lib.hid h1))
    go_ret
    exact ⟨rfl, HFIN.out _ _ h1.out⟩
theorem unmap_no {w : World} {p : Nat} {a : Option Nat} {c : Nat} {S : List Pt} (h : SpAt w p a c S) (at_ : Int) (hno : ∀ q ∈ S, q.ar.at_ ≠ at_) :
    Calls Try.prog 26 #[.pointer (some ⟨p, 0, none⟩), .int .i64 at_] w fun e w' => e = .returned (.int .i64 9) ∧ Below w.heap.size w w' := by
  have HS := Lib.hid (fun W (hb : Below w.heap.size w W) => ((h.below hb).search at_).mono (fun e w' hw => (by
    obtain ⟨k, hlo, rfl, hb'⟩ := hw
    refine ⟨k, ?_, hb'⟩
    rw [decide_eq_false]
    rintro ⟨hk, he⟩
    refine hno _ (List.getElem_mem hk) ?_
    unfold ptKey at he
    rw [List.getD_eq_getElem?_getD, List.getElem?_eq_getElem hk] at he
    exact he : ∃ k : Nat, e = .returned (.tuple #[.int .i64 k, .bool false]) ∧ Below W.heap.size W w')))
  clear h hno
  go_enter Try.func26, Try.ntmps26
  go_wp2_with (go_at_call 34; refine (HS.out _ (by (repeat (first | exact Below.refl _ _ | exact below_ext _ _ _ | (refine below_ext' ?_ (by (try simp only [World.size_alloc, size_ext, World.size_setCell, World.size_drew]); omega) _ _) | (refine Below.alloc ?_ (by (try simp only [World.size_alloc, size_ext, World.size_setCell, World.size_drew]); omega) _) | refine Below.drew ?_)))).mono ?_; rintro e w1 ⟨k, rfl, hb⟩; obtain ⟨objs, d, rfl⟩ := ext_of_below hb; clear hb)
  go_ret
  exact ⟨rfl, by (repeat (first | exact Below.refl _ _ | exact below_ext _ _ _ | (refine below_ext' ?_ (by (try simp only [World.size_alloc, size_ext, World.size_setCell, World.size_drew]); omega) _ _) | (refine Below.alloc ?_ (by (try simp only [World.size_alloc, size_ext, World.size_setCell, World.size_drew]); omega) _) | refine Below.drew ?_))⟩
theorem Sp.unmap {w : World} {p : Nat} {F : List Nat} {M : Mem} (h : Sp w p F M) (at_ : Int) :
    Calls Try.prog 26 #[.pointer (some ⟨p, 0, none⟩), .int .i64 at_] w fun e w' => e = .returned (.int .i64 (unmapM M at_).2) ∧ Done w p F (unmapM M at_).1 w' := by
  have hh := h
  obtain ⟨a, c, S, h, rfl, rfl⟩ := h
  unfold unmapM
  by_cases hx : ∃ q ∈ S, q.ar.at_ = at_
  · obtain ⟨q, hq, rfl⟩ := hx
    have e : (mem S).any (fun x => decide (x.1.at_ = q.ar.at_)) = true := List.any_eq_true.2 ⟨(q.ar, q.bytes), List.mem_map.2 ⟨q, hq, rfl⟩, by simp⟩
    rw [if_pos e]
    obtain ⟨i, hi, rfl⟩ := List.getElem_of_mem hq
    have hk : ptKey S i = S[i].ar.at_ := by unfold ptKey; rw [List.getD_eq_getElem?_getD, List.getElem?_eq_getElem hi]; rfl
    have hf : (mem S).filter (fun x => !decide (x.1.at_ = S[i].ar.at_)) = mem (without S i) := by
      unfold mem
      rw [List.filter_map]
      congr 1
      unfold without
      refine filter_idx _ S i hi (by simp) (fun j hj hji => ?_)
      simp only [Function.comp, Bool.not_eq_true', decide_eq_false_iff_not]
      intro he
      have := h.inv
      rcases Nat.lt_or_gt_of_ne hji with hlt | hlt
      · have := List.pairwise_iff_getElem.1 h.inv.asc j i hj hi hlt
        have := rightA_iff.1 (h.inv.right _ (List.getElem_mem hj))
        omega
      · have := List.pairwise_iff_getElem.1 h.inv.asc i j hi hj hlt
        have := rightA_iff.1 (h.inv.right _ (List.getElem_mem hi))
        omega
    rw [hf, ← hk]
    exact unmap_yes h i hi
  · have e : (mem S).any (fun x => decide (x.1.at_ = at_)) = false := by
      rw [List.any_eq_false]
      intro x hxm hd
      obtain ⟨q, hq, rfl⟩ := List.mem_map.1 hxm
      exact hx ⟨q, hq, by simpa using hd⟩
    rw [e]
    exact (unmap_no h at_ (fun q hq he => hx ⟨q, hq, he⟩)).mono fun e w' hw => ⟨hw.1, Done.of_below hh hw.2⟩
end Go.Proofs.Ytlhbnpahplpobaa
