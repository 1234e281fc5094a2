/- Proved: for every list of deeds and every size the law SpaceFree of the given program answers true and leaves what it was handed as it was. Conditions: none but those in the given statement itself. -/
import Derived.Test.YtlhbnpahplpobaaSyFree1
import Derived.Test.YtlhbnpahplpobaaSyLaw2
import Derived.Test.YtlhbnpahplpobaaSyFree2
import Derived.Test.YtlhbnpahplpobaaSyBytes
import Derived.Test.YtlhbnpahplpobaaRows
import Derived.Test.YtlhbnpahplpobaaSyOut
import Derived.WalkKit
import Derived.ProofKit
import Derived.OpenShut
import Derived.ShutString
import Derived.ChangeOld
import Derived.Below
set_option linter.unusedVariables false
set_option linter.unusedSimpArgs false
namespace Go.Proofs.Ytlhbnpahplpobaa
open Go.RowKit Go.Lp Go.Sy
def inL (l : List Span) (q n : Int) : Prop := ∃ s ∈ l, s.1 ≤ q ∧ q + n ≤ s.1 + s.2
theorem keep_mem {f u : Int} {s : Span} : s ∈ keepL f u ↔ f < u ∧ s = (f, u - f) := by
  unfold keepL; split <;> simp <;> omega
theorem cut_in {x m : Int} {l : List Span} {q n : Int} (hn : 1 ≤ n) : inL (cutL x m l) q n ↔ inL l q n ∧ (q + n ≤ x ∨ x + m ≤ q) := by
  unfold inL cutL
  constructor
  · rintro ⟨s, hs, h1, h2⟩
    obtain ⟨p, hp, hs⟩ := List.mem_flatMap.1 hs
    rcases List.mem_append.1 hs with hs | hs
    · obtain ⟨h3, rfl⟩ := keep_mem.1 hs
      dsimp only at h1 h2
      exact ⟨⟨p, hp, by omega, by omega⟩, by omega⟩
    · obtain ⟨h3, rfl⟩ := keep_mem.1 hs
      dsimp only at h1 h2
      exact ⟨⟨p, hp, by omega, by omega⟩, by omega⟩
  · rintro ⟨⟨p, hp, h1, h2⟩, h3 | h3⟩
    · exact ⟨(p.1, min (p.1 + p.2) x - p.1), List.mem_flatMap.2 ⟨p, hp, List.mem_append_left _ (keep_mem.2 ⟨by omega, rfl⟩)⟩, by dsimp only; omega, by dsimp only; omega⟩
    · exact ⟨(max p.1 (x + m), p.1 + p.2 - max p.1 (x + m)), List.mem_flatMap.2 ⟨p, hp, List.mem_append_right _ (keep_mem.2 ⟨by omega, rfl⟩)⟩, by dsimp only; omega, by dsimp only; omega⟩
theorem up_le {a q : Int} (ha : 0 ≤ a ∧ a ≤ 1099511627776) (hq : q % 256 = 0) : upI a 256 ≤ q ↔ a ≤ q := by
  have e : downI a 256 = a - a % 256 := by unfold downI; rw [if_neg (by omega)]
  unfold upI
  rw [e]
  split <;> omega
theorem up_mod {a : Int} (ha : 0 ≤ a ∧ a ≤ 1099511627776) : upI a 256 % 256 = 0 ∧ a ≤ upI a 256 := by
  have e : downI a 256 = a - a % 256 := by unfold downI; rw [if_neg (by omega)]
  unfold upI
  rw [e]
  split <;> omega
/-- the first fit: the least place -/
theorem fit_first {n : Int} (hn : 1 ≤ n) : ∀ (l : List Span), RightP l → ((fitL n 256 0 1099511627776 l).2 = true ↔ ∃ q, q % 256 = 0 ∧ inL l q n) ∧
    ((fitL n 256 0 1099511627776 l).2 = true → (fitL n 256 0 1099511627776 l).1 % 256 = 0 ∧ inL l (fitL n 256 0 1099511627776 l).1 n ∧ ∀ q, q % 256 = 0 → inL l q n → (fitL n 256 0 1099511627776 l).1 ≤ q)
  | [], _ => by
    refine ⟨⟨fun h => (by cases h), ?_⟩, fun h => (by cases h)⟩
    rintro ⟨q, _, s, hs, _⟩
    cases hs
  | p :: l, hr => by
    have hp := hr.ok p (List.mem_cons_self ..)
    have hgap := List.pairwise_cons.1 hr.gap
    have ih := fit_first hn l ⟨fun q hq => hr.ok q (List.mem_cons_of_mem _ hq), hgap.2⟩
    have hm : max p.1 0 = p.1 := by omega
    have um := up_mod (a := p.1) ⟨hp.1, hp.2.1⟩
    unfold fitL
    rw [hm]
    by_cases h : upI p.1 256 + n ≤ min (p.1 + p.2) 1099511627776
    · rw [if_pos h]
      refine ⟨⟨fun _ => ⟨_, um.1, p, List.mem_cons_self .., um.2, by omega⟩, fun _ => rfl⟩, fun _ => ⟨um.1, ⟨p, List.mem_cons_self .., um.2, by omega⟩, fun q hq hi => ?_⟩⟩
      obtain ⟨s, hs, h1, h2⟩ := hi
      rcases List.mem_cons.1 hs with rfl | hs
      · exact (up_le ⟨hp.1, hp.2.1⟩ hq).2 h1
      · have := hgap.1 s hs
        show upI p.1 256 ≤ q
        omega
    · rw [if_neg h]
      have key : ∀ q, q % 256 = 0 → (inL (p :: l) q n ↔ inL l q n) := fun q hq => by
        constructor
        · rintro ⟨s, hs, h1, h2⟩
          rcases List.mem_cons.1 hs with rfl | hs
          · have := (up_le ⟨hp.1, hp.2.1⟩ hq).2 h1
            omega
          · exact ⟨s, hs, h1, h2⟩
        · rintro ⟨s, hs, h1, h2⟩
          exact ⟨s, List.mem_cons_of_mem _ hs, h1, h2⟩
      refine ⟨ih.1.trans ⟨fun ⟨q, hq, hi⟩ => ⟨q, hq, (key q hq).2 hi⟩, fun ⟨q, hq, hi⟩ => ⟨q, hq, (key q hq).1 hi⟩⟩, fun ht => ?_⟩
      obtain ⟨i1, i2, i3⟩ := ih.2 ht
      exact ⟨i1, (key _ i1).2 i2, fun q hq hi => i3 q hq ((key q hq).1 hi)⟩
/-- more places than areas: one is free -/
theorem pigeon {α : Type} {B : α → Nat → Prop} : ∀ (M : List α) (c : List Nat), c.Nodup → M.length < c.length → (∀ x ∈ M, ∀ i ∈ c, ∀ j ∈ c, B x i → B x j → i = j) → ∃ i ∈ c, ∀ x ∈ M, ¬ B x i
  | [], c, _, h, _ => by
    cases c with
    | nil => simp at h
    | cons i c => exact ⟨i, List.mem_cons_self .., fun x hx => by cases hx⟩
  | x :: M, c, hn, h, hu => by
    by_cases hx : ∃ i ∈ c, B x i
    · obtain ⟨i, hi, hb⟩ := hx
      have hl := List.length_erase_of_mem hi
      simp only [List.length_cons] at h
      obtain ⟨j, hj, hM⟩ := pigeon M (c.erase i) (hn.erase i) (by omega) (fun y hy a ha b hb => hu y (List.mem_cons_of_mem _ hy) a (List.mem_of_mem_erase ha) b (List.mem_of_mem_erase hb))
      have hne := (List.Nodup.mem_erase_iff hn).1 hj
      refine ⟨j, hne.2, fun y hy hy2 => ?_⟩
      rcases List.mem_cons.1 hy with rfl | hy
      · exact hne.1 (hu y (List.mem_cons_self ..) j hne.2 i hi hy2 hb)
      · exact hM y hy hy2
    · simp only [List.length_cons] at h
      obtain ⟨j, hj, hM⟩ := pigeon M c hn (by omega) (fun y hy => hu y (List.mem_cons_of_mem _ hy))
      refine ⟨j, hj, fun y hy hy2 => ?_⟩
      rcases List.mem_cons.1 hy with rfl | hy
      · exact hx ⟨j, hj, hy2⟩
      · exact hM y hy hy2
end Go.Proofs.Ytlhbnpahplpobaa
namespace Go.Proofs.Ytlhbnpahplpobaa
open Go.RowKit Go.Lp Go.Sy
/-- is the area nearer than a page -/
def clearA (q n : Int) (a : Ar) : Bool := decide (a.at_ < q + n + 256) && decide (q - 256 < a.at_ + a.size)
def clearM (M : Mem) (q n : Int) : Bool := (areasM M).all fun a => !clearA q n a
theorem clear_fn (p : Nat) (M : Mem) (X : SpX) (q n : Int) (hq : 0 ≤ q ∧ q ≤ 1099511627776) (hn : 0 ≤ n ∧ n ≤ 1099511627776) (hinv : Inv X.S) (hX : mem X.S = M) (hfew : X.S.length ≤ 4096) :
    Con Try.prog 17 [.pointer (some ⟨p, 0, none⟩), .int .i64 q, .int .i64 n] [SpP p M X] [] fun r _ _ => r = .bool (clearM M q n) := by
  have hR : ∀ a ∈ areasM M, rightA a = true := fun a ha => by
    obtain ⟨x, hx, rfl⟩ := List.mem_map.1 ha
    rw [← hX] at hx
    exact (inv_mem.1 hinv).right x hx
  have hlM : (areasM M).length ≤ 4096 := by rw [areasM, List.length_map, ← hX, mem_length]; exact hfew
  unfold clearM
  refine Con.enter Try.func17 rfl (by simp [Try.ntmps17]) ?_
  show awp _ _ _ _ ⟨[(0, true, _), (1, true, _), (2, true, _)], _, _⟩
  refine awp_seq ?_
  refine awp_region ?_
  refine aL_s true rfl rfl (fun _ => q_assign rfl) ?_
  refine aL_nil ?_
  refine thn_n ?_
  refine awp_seq ?_
  refine awp_region ?_
  refine aL_s true rfl rfl (fun _ => q_move rfl) ?_
  refine aL_eff (q := true) rfl (e_call [0] [] (by kernel_rfl) rfl rfl rfl rfl (areas_fn p M X hX hfew) ?_)
  rintro v ps' hp' ⟨rfl, ad, c, rfl, rfl⟩
  refine aL_s true rfl rfl (fun _ => q_assign rfl) ?_
  refine aL_nil ?_
  refine thn_n ?_
  refine awp_seq ?_
  refine awp_seq ?_
  generalize areasM M = L at *
  refine awp_share 0 rfl ?_
  refine awp_region ?_
  refine aL_s true rfl rfl (fun _ => q_assign rfl) ?_
  refine aL_nil ?_
  refine thn_n ?_
  refine awp_block ?_
  refine awp_loopK [1, 2, 6, 7, 8] [1] [] (fun (k : Nat) s => (k ≤ L.length ∧ (L.take k).all (fun a => !clearA q n a) = true) ∧ s = ⟨[(1, true, .int .i64 q), (2, true, .int .i64 n), (6, true, .bool false), (7, true, .slice ad L.length c), (8, true, .int .i64 k)], [Sh (.slice ad L.length c) (.sl (L.map arRow))], []⟩) (fun k => L.length - k) rfl (⟨0, ⟨Nat.zero_le _, rfl⟩, rfl⟩) ?_
  rintro k s ⟨⟨hk, hok⟩, rfl⟩
  refine awp_seq ?_
  refine awp_seq ?_
  refine awp_region ?_
  refine aL_s true rfl rfl (fun _ => q_move rfl) ?_
  refine aL_s true rfl rfl (fun _ => q_move rfl) ?_
  refine aL_s true rfl rfl (fun _ => q_lenS Try.underlying47 rfl) ?_
  refine aL_s true rfl rfl (fun _ => q_lss rfl rfl) ?_
  refine aL_nil ?_
  refine thn_n ?_
  refine awp_cond _ rfl (fun h1 => ?_) (fun h1 => ?_)
  · skip
    have hk' : k < L.length := by simpa using h1
    obtain ⟨y, hy⟩ : ∃ y, L[k]? = some y := ⟨L[k]'hk', by simp⟩
    have ry := rightA_iff.1 (hR y (List.mem_of_getElem? hy))
    refine awp_skip ?_
    refine thn_n ?_
    refine awp_seq ?_
    refine awp_block ?_
    refine awp_seq ?_
    refine awp_drawn [] (by kernel_rfl) ?_
    show aB _ _ _ _ _ 26 #[false, false, false, false, false, false, false, false, false, false, false, false, false, false, false, false, false, false, false, false, false, false, false, false, false, false] _
    refine aB_s 0 rfl (by kernel_rfl) true rfl rfl (fun _ => q_move rfl) ?_
    simp only [List.setIfInBounds_toArray, List.set_cons_succ, List.set_cons_zero]
    refine aB_s 1 rfl (by kernel_rfl) true rfl rfl (fun _ => q_move rfl) ?_
    simp only [List.setIfInBounds_toArray, List.set_cons_succ, List.set_cons_zero]
    refine aB_E 2 rfl (by kernel_rfl) true rfl rfl (fun _ => q_indexAddr Try.underlying47 tk24 rfl (psAt 0 rfl) rfl (row := arRow y) (by simp [hy]) rfl rfl) (fun h => absurd h (by decide)) (fun ⟨b5_2, o5_2⟩ => ?_)
    simp only [List.setIfInBounds_toArray, List.set_cons_succ, List.set_cons_zero]
    refine aB_s 3 rfl (by kernel_rfl) true rfl rfl (fun _ => q_fieldAddr (off := 0) (by kernel_rfl) rfl) ?_
    simp only [List.setIfInBounds_toArray, List.set_cons_succ, List.set_cons_zero]
    refine aB_s 4 rfl (by kernel_rfl) true rfl rfl (fun _ => q_loadD (o := 0) tk3 rfl (psAt 0 rfl) rfl rfl) ?_
    simp only [List.setIfInBounds_toArray, List.set_cons_succ, List.set_cons_zero]
    refine aB_s 5 rfl (by kernel_rfl) true rfl rfl (fun _ => q_move rfl) ?_
    simp only [List.setIfInBounds_toArray, List.set_cons_succ, List.set_cons_zero]
    refine aB_s 6 rfl (by kernel_rfl) true rfl rfl (fun _ => q_move rfl) ?_
    simp only [List.setIfInBounds_toArray, List.set_cons_succ, List.set_cons_zero]
    refine aB_s 7 rfl (by kernel_rfl) true rfl rfl (fun _ => q_addi rfl rfl (by omega)) ?_
    simp only [List.setIfInBounds_toArray, List.set_cons_succ, List.set_cons_zero]
    refine aB_s 8 rfl (by kernel_rfl) true rfl rfl (fun _ => q_addi rfl rfl (by omega)) ?_
    simp only [List.setIfInBounds_toArray, List.set_cons_succ, List.set_cons_zero]
    refine aB_s 9 rfl (by kernel_rfl) true rfl rfl (fun _ => q_lss rfl rfl) ?_
    simp only [List.setIfInBounds_toArray, List.set_cons_succ, List.set_cons_zero]
    refine aB_s 10 rfl (by kernel_rfl) true rfl rfl (fun _ => q_move rfl) ?_
    simp only [List.setIfInBounds_toArray, List.set_cons_succ, List.set_cons_zero]
    refine aB_s 11 rfl (by kernel_rfl) _ rfl rfl (fun hc => q_move rfl) ?_
    simp only [List.setIfInBounds_toArray, List.set_cons_succ, List.set_cons_zero]
    refine aB_s 12 rfl (by kernel_rfl) _ rfl rfl (fun hc => q_move rfl) ?_
    simp only [List.setIfInBounds_toArray, List.set_cons_succ, List.set_cons_zero]
    refine aB_E 13 rfl (by kernel_rfl) _ rfl rfl (fun hc => q_indexAddr Try.underlying47 tk24 (ev_yes rfl hc) (psAt 1 rfl) (ev_yes rfl hc) (row := arRow y) (by simp [hy]) rfl rfl) (fun _ => ⟨(0, 0)⟩) (fun ⟨b5_13, o5_13⟩ => ?_)
    simp only [List.setIfInBounds_toArray, List.set_cons_succ, List.set_cons_zero]
    refine aB_s 14 rfl (by kernel_rfl) _ rfl rfl (fun hc => q_fieldAddr (off := 0) (by kernel_rfl) (ev_yes rfl hc)) ?_
    simp only [List.setIfInBounds_toArray, List.set_cons_succ, List.set_cons_zero]
    refine aB_s 15 rfl (by kernel_rfl) _ rfl rfl (fun hc => q_loadD (o := 0) tk3 (ev_yes rfl hc) (psAt 0 rfl) hc rfl) ?_
    simp only [List.setIfInBounds_toArray, List.set_cons_succ, List.set_cons_zero]
    refine aB_s 16 rfl (by kernel_rfl) _ rfl rfl (fun hc => q_move rfl) ?_
    simp only [List.setIfInBounds_toArray, List.set_cons_succ, List.set_cons_zero]
    refine aB_s 17 rfl (by kernel_rfl) _ rfl rfl (fun hc => q_move rfl) ?_
    simp only [List.setIfInBounds_toArray, List.set_cons_succ, List.set_cons_zero]
    refine aB_E 18 rfl (by kernel_rfl) _ rfl rfl (fun hc => q_indexAddr Try.underlying47 tk24 (ev_yes rfl hc) (psAt 2 rfl) (ev_yes rfl hc) (row := arRow y) (by simp [hy]) rfl rfl) (fun _ => ⟨(0, 0)⟩) (fun ⟨b5_18, o5_18⟩ => ?_)
    simp only [List.setIfInBounds_toArray, List.set_cons_succ, List.set_cons_zero]
    refine aB_s 19 rfl (by kernel_rfl) _ rfl rfl (fun hc => q_fieldAddr (off := 1) (by kernel_rfl) (ev_yes rfl hc)) ?_
    simp only [List.setIfInBounds_toArray, List.set_cons_succ, List.set_cons_zero]
    refine aB_s 20 rfl (by kernel_rfl) _ rfl rfl (fun hc => q_loadD (o := 1) tk3 (ev_yes rfl hc) (psAt 0 rfl) hc rfl) ?_
    simp only [List.setIfInBounds_toArray, List.set_cons_succ, List.set_cons_zero]
    refine aB_s 21 rfl (by kernel_rfl) _ rfl rfl (fun hc => q_addi (ev_yes rfl hc) (ev_yes rfl hc) (by (first | omega | (simp at hc; omega)))) ?_
    simp only [List.setIfInBounds_toArray, List.set_cons_succ, List.set_cons_zero]
    refine aB_s 22 rfl (by kernel_rfl) _ rfl rfl (fun hc => q_move rfl) ?_
    simp only [List.setIfInBounds_toArray, List.set_cons_succ, List.set_cons_zero]
    refine aB_s 23 rfl (by kernel_rfl) _ rfl rfl (fun hc => q_subi (ev_yes rfl hc) rfl (by (first | omega | (simp at hc; omega)))) ?_
    simp only [List.setIfInBounds_toArray, List.set_cons_succ, List.set_cons_zero]
    refine aB_s 24 rfl (by kernel_rfl) _ rfl rfl (fun hc => q_gtr (ev_yes rfl hc) (ev_yes rfl hc)) ?_
    simp only [List.setIfInBounds_toArray, List.set_cons_succ, List.set_cons_zero]
    refine aB_s 25 rfl (by kernel_rfl) true rfl rfl (fun _ => q_and rfl rfl (fun h => gt rfl h)) ?_
    simp only [List.setIfInBounds_toArray, List.set_cons_succ, List.set_cons_zero]
    refine aB_nil (by kernel_rfl) ?_
    refine thn_n ?_
    refine awp_cond _ rfl (fun h2 => ?_) (fun h2 => ?_)
    · skip
      refine awp_seq ?_
      refine awp_region ?_
      refine aL_s true rfl rfl (fun _ => q_assign rfl) ?_
      refine aL_nil ?_
      refine thn_n ?_
      refine awp_ret ?_
      refine blk_r ?_
      refine thn_r ?_
      refine thn_r ?_
      refine blk_r ?_
      refine thn_r ?_
      refine fin1 [] [] rfl Try.results17 rfl ?_ (.inr rfl)
      refine congrArg Value.bool ?_
      symm; rw [List.all_eq_false]
      exact ⟨y, List.mem_of_getElem? hy, by unfold clearA; rw [h2]; simp⟩
    · skip
      refine awp_skip ?_
      refine blk_n ?_
      refine thn_n ?_
      refine awp_region ?_
      refine aL_s true rfl rfl (fun _ => q_move rfl) ?_
      refine aL_s true rfl rfl (fun _ => q_addi rfl rfl (by omega)) ?_
      refine aL_s true rfl rfl (fun _ => q_assign rfl) ?_
      refine aL_nil ?_
      refine thn_n ?_
      refine ⟨[1, 2, 6, 7, 8], [0], [], rfl, ?_⟩
      refine ⟨k + 1, ⟨⟨by omega, ?_⟩, rfl⟩, by omega⟩
      rw [List.take_add_one, hy]
      simp only [Option.toList_some, List.all_append, hok, List.all_cons, List.all_nil, Bool.and_true, Bool.true_and]
      unfold clearA; rw [h2]; rfl
  · skip
    refine awp_exit ?_
    refine thn_e ?_
    refine thn_e ?_
    refine blk_hit ?_
    refine thn_n ?_
    refine awp_seq ?_
    refine awp_region ?_
    refine aL_s true rfl rfl (fun _ => q_assign rfl) ?_
    refine aL_nil ?_
    refine thn_n ?_
    refine awp_ret ?_
    refine fin1 [] [] rfl Try.results17 rfl ?_ (.inr rfl)
    refine congrArg Value.bool ?_
    rw [List.take_of_length_le (by simp at h1; omega)] at hok
    rw [hok]
theorem q_clear {p : Nat} {M : Mem} {w : World} {S : Blks} {fp : Nat → Blks} {ps : List Per} {hp : List Res} (hst : St w S fp ps hp) (i : Nat) (hi : hp[i]? = some (SpR p M)) (q n : Int) (hq : 0 ≤ q ∧ q ≤ 1099511627776) (hn : 0 ≤ n ∧ n ≤ 1099511627776) :
    Calls Try.prog 17 #[.pointer (some ⟨p, 0, none⟩), .int .i64 q, .int .i64 n] w fun e w' => e = .returned (.bool (clearM M q n)) ∧ Below w.heap.size w w' := by
  exact q_lend (fun X hinv hX hfew => clear_fn p M X q n hq hn hinv hX hfew) hst i hi
end Go.Proofs.Ytlhbnpahplpobaa
namespace Go.Proofs.Ytlhbnpahplpobaa
open Go.RowKit Go.Lp Go.Sy
theorem free_in (M : Mem) {q n : Int} (hn : 1 ≤ n) : inL (freeList M) q n ↔ (512 ≤ q ∧ q + n ≤ 1099511627776) ∧ ∀ x ∈ M, q + n ≤ x.1.at_ - 256 ∨ untilM x.1 ≤ q := by
  have key : ∀ (M : Mem) (l : List Span), inL (M.foldl (fun l x => cutA x.1 l) l) q n ↔ inL l q n ∧ ∀ x ∈ M, q + n ≤ x.1.at_ - 256 ∨ untilM x.1 ≤ q := by
    intro M
    induction M with
    | nil => intro l; simp
    | cons x M ih =>
      intro l
      rw [List.foldl_cons, ih, cutA, cut_in hn, show x.1.at_ - 256 + (untilM x.1 - (x.1.at_ - 256)) = untilM x.1 by omega, List.forall_mem_cons]
      exact ⟨fun ⟨⟨a, b⟩, c⟩ => ⟨a, b, c⟩, fun ⟨a, b, c⟩ => ⟨⟨a, b⟩, c⟩⟩
  unfold freeList
  rw [key]
  refine and_congr ⟨fun ⟨s, hs, h1, h2⟩ => ?_, fun h => ⟨_, List.mem_singleton.2 rfl, h.1, by dsimp only; omega⟩⟩ Iff.rfl
  rw [List.mem_singleton.1 hs] at h1 h2
  dsimp only at h1 h2
  exact ⟨h1, by omega⟩
theorem free_clear {M : Mem} (hM : ∀ x ∈ M, rightA x.1 = true) {q n : Int} (hq : q % 256 = 0) (hq2 : 512 ≤ q) (hn : 1 ≤ n) (hqn : q + n ≤ 1099511627776) : inL (freeList M) q n ↔ clearM M q n = true := by
  rw [free_in M hn]
  unfold clearM areasM
  rw [List.all_map, List.all_eq_true]
  constructor
  · rintro ⟨_, h⟩ x hx
    have r := rightA_iff.1 (hM x hx)
    have h1 := h x hx
    have u := up_le (a := x.1.at_ + x.1.size) (q := q - 256) (by omega) (by omega)
    unfold untilM at h1
    simp only [Function.comp, clearA, Bool.not_eq_true', Bool.and_eq_false_iff, decide_eq_false_iff_not]
    omega
  · intro h
    refine ⟨⟨hq2, hqn⟩, fun x hx => ?_⟩
    have r := rightA_iff.1 (hM x hx)
    have h1 := h x hx
    have u := up_le (a := x.1.at_ + x.1.size) (q := q - 256) (by omega) (by omega)
    simp only [Function.comp, clearA, Bool.not_eq_true', Bool.and_eq_false_iff, decide_eq_false_iff_not] at h1
    unfold untilM
    omega
theorem free_some {M : Mem} (hM : ∀ x ∈ M, rightA x.1 = true) (hlen : M.length ≤ 30) {n : Int} (hn : 1 ≤ n) (hn2 : n ≤ 1048576) : ∃ q, q % 256 = 0 ∧ inL (freeList M) q n := by
  obtain ⟨i, hi, h⟩ := pigeon (B := fun (x : Cell) (i : Nat) => ¬ (512 + (i : Int) * 4194304 + n ≤ x.1.at_ - 256 ∨ untilM x.1 ≤ 512 + (i : Int) * 4194304)) M (List.range 31) List.nodup_range (by simp; omega) (fun x hx i hi j hj h1 h2 => by
    have r := rightA_iff.1 (hM x hx)
    have u := untilM_ok (hM x hx)
    omega)
  have hi := List.mem_range.1 hi
  refine ⟨512 + (i : Int) * 4194304, by omega, (free_in M hn).2 ⟨by omega, fun x hx => ?_⟩⟩
  have := h x hx
  omega
theorem free_law {M : Mem} (hI : MInv M) (hlen : M.length ≤ 30) {size : Int} (hs : size ≤ 1048576) {n : Int} (hn : n = upI (max 1 size) 256) :
    512 ≤ freeM M size ∧ freeM M size % 256 = 0 ∧ freeM M size + n ≤ 1099511627776 ∧ clearM M (freeM M size) n = true ∧
    ∀ q, q % 256 = 0 → 512 ≤ q → q < freeM M size → clearM M q n = false := by
  have hm := up256 (n := max 1 size) (by omega)
  rw [← hn] at hm
  have hf := fit_first (n := n) (by omega) (freeList M) (freeList_ok M hI.right).1
  have hs1 := hf.1.2 (free_some hI.right hlen (n := n) (by omega) (by omega))
  obtain ⟨f1, f2, f3⟩ := hf.2 hs1
  have e : freeM M size = (fitL n 256 0 1099511627776 (freeList M)).1 := by
    unfold freeM
    rw [if_neg (by omega), ← hn]
    generalize fitL n 256 0 1099511627776 (freeList M) = z at hs1
    obtain ⟨a, b⟩ := z
    cases hs1
    rfl
  rw [e]
  have g := ((free_in M (n := n) (by omega)).1 f2).1
  refine ⟨g.1, f1, g.2, (free_clear hI.right f1 g.1 (by omega) g.2).1 f2, fun q hq hq2 hlt => ?_⟩
  cases hc : clearM M q n with
  | false => rfl
  | true =>
    have := f3 q hq ((free_clear hI.right hq hq2 (by omega) (by omega)).2 hc)
    omega
theorem free_map {M : Mem} (hlen : M.length ≤ 30) {p n m : Int} (hp : 512 ≤ p) (hp2 : p % 256 = 0) (hn : 1 ≤ n) (hn2 : n ≤ 1048576) (hnm : n ≤ m) (hpm : p + m ≤ 1099511627776) (hc : clearM M p m = true) : (mapM M ⟨p, n, 3, 0, 0⟩).2 = 0 := by
  have hr : rightA ⟨p, n, 3, 0, 0⟩ = true := rightA_iff.2 (by dsimp only; omega)
  have ha : M.any (meets ⟨p, n, 3, 0, 0⟩) = false := by
    rw [List.any_eq_false]
    intro x hx hmm
    unfold clearM areasM at hc
    rw [List.all_map, List.all_eq_true] at hc
    have h1 := hc x hx
    simp only [Function.comp, clearA, Bool.not_eq_true', Bool.and_eq_false_iff, decide_eq_false_iff_not] at h1
    simp only [meets, Bool.and_eq_true, decide_eq_true_eq] at hmm
    omega
  unfold mapM
  rw [hr, if_neg (by simp), ha, if_neg (by simp), if_neg (by omega)]
end Go.Proofs.Ytlhbnpahplpobaa
namespace Go.Proofs.Ytlhbnpahplpobaa
open Go.RowKit Go.Lp Go.Sy
theorem few_len30 {l : List Deed} (h : fewB l = true) : l.length ≤ 30 := by
  unfold fewB at h
  simp only [Bool.and_eq_true, Bool.not_eq_true', decide_eq_false_iff_not] at h
  omega
theorem up_div {n : Int} (h : 1 ≤ n ∧ n ≤ 1048576) : IntKind.i64.wrap ((n + 256 - 1).tdiv 256) = (n + 255) / 256 := by
  rw [Int.tdiv_eq_ediv_of_nonneg (by omega), IntKind.wrap_i64]; omega
theorem up_mul {n : Int} (h : 1 ≤ n ∧ n ≤ 1048576) : (n + 255) / 256 * 256 = upI n 256 := by
  have e : downI n 256 = n - n % 256 := by unfold downI; rw [if_neg (by omega)]
  unfold upI
  rw [e]
  split <;> omega
theorem spaceFree_con (l : List Deed) (ad : Option Addr) (c : Nat) (hl : ∀ d ∈ l, DeedOk d) (size : Int) (hs : I64 size) :
    Con Try.prog 5 [.slice ad l.length c, .int .i64 size] [Sh (.slice ad l.length c) (.sl (l.map deedRow))] [] fun r _ _ => r = .bool true := by
  have HL := Lib.hid hl
  clear hl
  have Hs := Lib.hid hs
  refine Con.enter Try.func5 rfl (by simp [Try.ntmps5]) ?_
  show awp _ _ _ _ ⟨[(0, true, _), (1, true, _)], _, _⟩
  refine awp_len 0 rfl (fun hlen => ?_)
  refine awp_seq ?_
  refine awp_region ?_
  refine aL_s true rfl rfl (fun _ => q_assign rfl) ?_
  refine aL_nil ?_
  refine thn_n ?_
  refine awp_seq ?_
  refine awp_region ?_
  refine aL_s true rfl rfl (fun _ => q_call (by kernel_rfl) rfl (fun w S fp hst => small_fn.quiet0 hst)) ?_
  refine aL_s true rfl rfl (fun _ => q_assign rfl) ?_
  refine aL_nil ?_
  refine thn_n ?_
  refine awp_seq ?_
  refine awp_seq ?_
  refine awp_region ?_
  refine aL_s true rfl rfl (fun _ => q_move rfl) ?_
  refine aL_s true rfl rfl (fun _ => q_call (by kernel_rfl) rfl (fun w S fp hst => (few_fn l ad c).quiet1 (psAt 0 rfl) hst)) ?_
  refine aL_s true rfl rfl (fun _ => q_not rfl) ?_
  refine aL_s true rfl rfl (fun _ => q_move rfl) ?_
  refine aL_s _ rfl rfl (fun hc => q_move rfl) ?_
  refine aL_s _ rfl rfl (fun hc => q_gtr (ev_yes rfl hc) rfl) ?_
  refine aL_s true rfl rfl (fun _ => q_or rfl rfl (fun h => gf rfl h)) ?_
  refine aL_nil ?_
  refine thn_n ?_
  refine awp_cond _ rfl (fun h1 => ?_) (fun h1 => ?_)
  · skip
    refine awp_seq ?_
    refine awp_region ?_
    refine aL_s true rfl rfl (fun _ => q_move rfl) ?_
    refine aL_s true rfl rfl (fun _ => q_assign rfl) ?_
    refine aL_nil ?_
    refine thn_n ?_
    refine awp_ret ?_
    refine thn_r ?_
    refine fin1 [] [] rfl Try.results5 rfl ?_ (.inr rfl)
    rfl
  · skip
    have hll : l.length ≤ 30 := few_len30 (by simp at h1; exact h1.1)
    have hsz : size ≤ 1048576 := by simp at h1; omega
    have hW := up_div (n := max 1 size) (by omega)
    have hN := up_mul (n := max 1 size) (by omega)
    refine awp_skip ?_
    refine thn_n ?_
    refine awp_seq ?_
    refine awp_region ?_
    refine aL_s true rfl rfl (fun _ => q_move rfl) ?_
    refine aL_eff (q := true) rfl (e_call [0] [] (by kernel_rfl) rfl rfl rfl rfl (fill_fn l ad c HL.out (by omega)) ?_)
    rintro v ps' hp' ⟨rfl, p, rfl, rfl⟩
    refine aL_s true rfl rfl (fun _ => q_assign rfl) ?_
    refine aL_nil ?_
    refine thn_n ?_
    refine awp_seq ?_
    have hMl : (fillM l).length ≤ 30 := Nat.le_trans (fillM_len l) hll
    generalize fillM l = M at hMl ⊢
    refine awp_spinv 0 rfl (fun hI => ?_)
    have hF := free_law hI hMl hsz rfl
    have hU := up256 (n := max 1 size) (by omega)
    refine awp_region ?_
    refine aL_s true rfl rfl (fun _ => q_move rfl) ?_
    refine aL_s true rfl rfl (fun _ => q_move rfl) ?_
    refine aL_s true rfl rfl (fun _ => q_call (by kernel_rfl) rfl (fun w S fp hst => q_spfree hst 0 rfl size Hs.out)) ?_
    refine aL_s true rfl rfl (fun _ => q_assign rfl) ?_
    refine aL_nil ?_
    refine thn_n ?_
    refine awp_seq ?_
    refine awp_region ?_
    refine aL_s true rfl rfl (fun _ => q_move rfl) ?_
    refine aL_s true rfl rfl (fun _ => q_max rfl rfl) ?_
    refine aL_s true rfl rfl (fun _ => q_assign rfl) ?_
    refine aL_nil ?_
    refine thn_n ?_
    refine awp_seq ?_
    refine awp_region ?_
    refine aL_s true rfl rfl (fun _ => q_move rfl) ?_
    refine aL_s true rfl rfl (fun _ => q_addi rfl rfl (by omega)) ?_
    refine aL_s true rfl rfl (fun _ => q_subi rfl rfl (by omega)) ?_
    refine aL_s true rfl rfl (fun _ => q_quo rfl rfl (by decide)) ?_
    refine aL_s true rfl rfl (fun _ => q_muli rfl rfl (by rw [hW]; omega)) ?_
    refine aL_s true rfl rfl (fun _ => q_assign rfl) ?_
    refine aL_nil ?_
    refine thn_n ?_
    refine awp_seq ?_
    refine awp_seq ?_
    rw [hW, hN]
    clear hW hN
    generalize hP : freeM M size = P at hF ⊢
    generalize hn : upI (max 1 size) 256 = N at hF hU ⊢
    obtain ⟨f1, f2, f3, f4, f5⟩ := hF
    refine awp_region ?_
    refine aL_s true rfl rfl (fun _ => q_move rfl) ?_
    refine aL_s true rfl rfl (fun _ => q_lss rfl rfl) ?_
    refine aL_s true rfl rfl (fun _ => q_move rfl) ?_
    refine aL_s _ rfl rfl (fun hc => q_move rfl) ?_
    refine aL_s _ rfl rfl (fun hc => q_rem (ev_yes rfl hc) rfl (by decide)) ?_
    refine aL_s _ rfl rfl (fun hc => q_neq (ev_yes rfl hc) rfl) ?_
    refine aL_s true rfl rfl (fun _ => q_or rfl rfl (fun h => gf rfl h)) ?_
    refine aL_s true rfl rfl (fun _ => q_move rfl) ?_
    refine aL_s _ rfl rfl (fun hc => q_move rfl) ?_
    refine aL_s _ rfl rfl (fun hc => q_move rfl) ?_
    refine aL_s _ rfl rfl (fun hc => q_move rfl) ?_
    refine aL_s _ rfl rfl (fun hc => q_call (by kernel_rfl) (evs_cons (ev_yes rfl hc) (evs_cons (ev_yes rfl hc) (evs_cons (ev_yes rfl hc) rfl))) (fun w S fp hst => q_clear hst 0 rfl P N (by omega) (by omega))) ?_
    refine aL_s _ rfl rfl (fun hc => q_not (ev_yes rfl hc)) ?_
    refine aL_s true rfl rfl (fun _ => q_or rfl rfl (fun h => gf rfl h)) ?_
    refine aL_nil ?_
    refine thn_n ?_
    refine awp_cond _ rfl (fun h2 => ?_) (fun h2 => ?_)
    · skip
      refine awp_seq ?_
      refine awp_region ?_
      refine aL_s true rfl rfl (fun _ => q_assign rfl) ?_
      refine aL_nil ?_
      refine thn_n ?_
      refine awp_ret ?_
      refine thn_r ?_
      refine fin1 [] [] rfl Try.results5 rfl ?_ (.inr rfl)
      exact absurd h2 (by rw [f4, Int.tmod_eq_emod_of_nonneg (by omega), f2]; simp; omega)
    · skip
      refine awp_skip ?_
      refine thn_n ?_
      refine awp_seq ?_
      refine awp_seq ?_
      refine awp_region ?_
      refine aL_s true rfl rfl (fun _ => q_assign rfl) ?_
      refine aL_nil ?_
      refine thn_n ?_
      refine awp_block ?_
      refine awp_loopK [4, 5, 6, 7, 8, 9, 10] [] [0] (fun (j : Nat) s => j ≤ 62 ∧ s = ⟨[(4, true, .bool false), (5, true, .bool true), (6, true, .pointer (some ⟨p, 0, none⟩)), (7, true, .int .i64 P), (8, true, .int .i64 (max 1 size)), (9, true, .int .i64 N), (10, true, .int .i64 (512 + 256 * (j : Int)))], [], [SpR p M]⟩) (fun j => 62 - j) rfl (⟨0, by omega, rfl⟩) ?_
      rintro j s ⟨hj, rfl⟩
      refine awp_seq ?_
      refine awp_seq ?_
      refine awp_region ?_
      refine aL_s true rfl rfl (fun _ => q_move rfl) ?_
      refine aL_s true rfl rfl (fun _ => q_move rfl) ?_
      refine aL_s true rfl rfl (fun _ => q_lss rfl rfl) ?_
      refine aL_s true rfl rfl (fun _ => q_move rfl) ?_
      refine aL_s _ rfl rfl (fun hc => q_move rfl) ?_
      refine aL_s _ rfl rfl (fun hc => q_lss (ev_yes rfl hc) rfl) ?_
      refine aL_s true rfl rfl (fun _ => q_and rfl rfl (fun h => gt rfl h)) ?_
      refine aL_nil ?_
      refine thn_n ?_
      refine awp_cond _ rfl (fun h3 => ?_) (fun h3 => ?_)
      · skip
        have hj1 : 512 + 256 * (j : Int) < P ∧ 512 + 256 * (j : Int) < 16384 := by simpa using h3
        refine awp_skip ?_
        refine thn_n ?_
        refine awp_seq ?_
        refine awp_block ?_
        refine awp_seq ?_
        refine awp_region ?_
        refine aL_s true rfl rfl (fun _ => q_move rfl) ?_
        refine aL_s true rfl rfl (fun _ => q_move rfl) ?_
        refine aL_s true rfl rfl (fun _ => q_move rfl) ?_
        refine aL_s true rfl rfl (fun _ => q_call (by kernel_rfl) rfl (fun w S fp hst => q_clear hst 0 rfl (512 + 256 * (j : Int)) N (by omega) (by omega))) ?_
        refine aL_nil ?_
        refine thn_n ?_
        refine awp_cond _ rfl (fun h4 => ?_) (fun h4 => ?_)
        · skip
          refine awp_seq ?_
          refine awp_region ?_
          refine aL_s true rfl rfl (fun _ => q_assign rfl) ?_
          refine aL_nil ?_
          refine thn_n ?_
          refine awp_ret ?_
          refine blk_r ?_
          refine thn_r ?_
          refine thn_r ?_
          refine blk_r ?_
          refine thn_r ?_
          refine fin1 [] [] rfl Try.results5 rfl ?_ (.inr rfl)
          exact absurd h4 (by rw [f5 _ (by omega) (by omega) hj1.1]; decide)
        · skip
          refine awp_skip ?_
          refine blk_n ?_
          refine thn_n ?_
          refine awp_region ?_
          refine aL_s true rfl rfl (fun _ => q_move rfl) ?_
          refine aL_s true rfl rfl (fun _ => q_addi rfl rfl (by omega)) ?_
          refine aL_s true rfl rfl (fun _ => q_assign rfl) ?_
          refine aL_nil ?_
          refine thn_n ?_
          refine ⟨[4, 5, 6, 7, 8, 9, 10], [], [0], rfl, ?_⟩
          refine ⟨j + 1, ⟨by omega, ?_⟩, by omega⟩
          rw [show 512 + 256 * (j : Int) + 256 = 512 + 256 * ((j + 1 : Nat) : Int) by omega]; rfl
      · skip
        refine awp_exit ?_
        refine thn_e ?_
        refine thn_e ?_
        refine blk_hit ?_
        refine thn_n ?_
        refine awp_seq ?_
        refine awp_region ?_
        refine aL_s true rfl rfl (fun _ => q_move rfl) ?_
        refine aL_s true rfl rfl (fun _ => q_move rfl) ?_
        refine aL_s _ rfl rfl (fun hc => q_move rfl) ?_
        refine aL_s _ rfl rfl (fun hc => q_move rfl) ?_
        refine aL_s _ rfl rfl (fun hc => q_move rfl) ?_
        refine aL_s _ rfl rfl (fun hc => q_bld (l := [(0, .tmp 62), (1, .tmp 63), (2, .const (.int .i64 3))]) (zs := [.int .i64 0, .int .i64 0, .int .i64 0, .int .i64 0, .int .i64 0]) (pl := [(0, 1), (1, 1), (2, 1), (3, 1), (4, 1)]) (by kernel_rfl) (by kernel_rfl) (by kernel_rfl) rfl (evs_cons (ev_yes rfl hc) (evs_cons (ev_yes rfl hc) (evs_cons (ev_yes rfl rfl) rfl))) rfl) ?_
        refine aL_eff (q := false) rfl (e_call [] [0] (by kernel_rfl) rfl rfl rfl rfl (map_con ⟨P, max 1 size, 3, 0, 0⟩ (by omega)) ?_)
        rintro v ps' hp' ⟨rfl, rfl, rfl⟩
        refine aL_s _ rfl rfl (fun hc => q_eql (ev_yes rfl hc) rfl) ?_
        refine aL_s true rfl rfl (fun _ => q_and rfl rfl (fun h => gt rfl h)) ?_
        refine aL_s true rfl rfl (fun _ => q_assign rfl) ?_
        refine aL_nil ?_
        refine thn_n ?_
        refine awp_ret ?_
        refine fin1 [] [] rfl Try.results5 rfl ?_ (.inr rfl)
        rw [free_map hMl (by omega) (by omega) (by omega) (by omega) (by omega) f3 f4]; rfl
end Go.Proofs.Ytlhbnpahplpobaa
namespace Go.Proofs.Ytlhbnpahplpobaa.spaceFree
open Go.ChangeShapes Go.WideShapes Go.ChangeAt Go.RowKit
open Go.Lp Go.Sy
open Go.ChangeMaps (open_string shut_string)
theorem own : ownKnob Try.prog.godebug = none := by kernel_rfl
theorem laidOut : laidOutB Try.prog = true := by kernel_rfl
set_option maxRecDepth 100000 in
theorem lifted (os : Os) (started : os.Started) (H : Type) (enc : TypeId × Value → H) :
    ReturnsInHanded {} Try.checked os 5 .any (Rows.spaceFreeSpec.pre6 enc Try.prog Try.f5 Rows.spaceFreeRow.domain false) (Rows.spaceFreeSpec.post enc Try.prog Try.f5 false true false false) := by
  refine returnsInHanded_of_change (C := Try.checked) own started (by kernel_rfl) Try.func5
    (ChangeSpec.witness6 (enc := enc) (C := Try.checked) false ⟨#[], #[.slice none 0 0, .int .i64 0], []⟩ 8 (by kernel_rfl) (by kernel_rfl) (by kernel_rfl) (by kernel_rfl)) ?_
  intro W base args ds gs before hval0 hW hcnd _
  have hval : ∀ (j : Nat) t v, Try.f5.params[j]? = some t → args[j]? = some v → Value.okWide Try.prog W .any base t v := hval0
  have hW' := hW
  obtain ⟨p, q, hA0, hV, rfl, hfz, hnd⟩ := hW
  have hA : DataW.TrodAll enc Try.prog W 0 (fun _ => true) true Try.f5.params.toList args.toList ds p := hA0
  rw [Try.params5] at hA hval
  obtain ⟨v0, vs0, d0, ds0, p0, q0, hargs, rfl, rfl, h0, r0⟩ := trodAll_cons hA
  obtain ⟨v1, vs1, d1, ds1, p1, q1, rfl, rfl, rfl, h1, r1⟩ := trodAll_cons r0
  obtain ⟨rfl, rfl, rfl⟩ := trodAll_nil r1
  obtain rfl : args = #[v0, v1] := by cases args; simp_all
  obtain ⟨rfl, rfl⟩ := trodVars_none hV
  obtain ⟨a0, len0, cap0, rfl⟩ := okWide_slice Try.underlying22 (hval 0 22 v0 rfl rfl)
  have k0 := h0
  have lt0 : ∀ x ∈ p0, x.block < W.heap.size := by obtain ⟨m, hm⟩ := k0; exact DataW.trod_lt m _ _ _ hm
  obtain ⟨l, rfl, hl, hrep⟩ : ∃ l : List Deed, len0 = l.length ∧ (∀ d ∈ l, DeedOk d) ∧ RepD W (fun b => b < W.heap.size) (.slice a0 l.length cap0) (.sl (l.map deedRow)) := by
    obtain ⟨fuel, hf⟩ := h0
    exact slice_in (k := 3) Try.underlying22 (by kernel_rfl) (fun r => deed_of) (by simpa [Value.cells] using hf)
  obtain ⟨a1, rfl, rfl, rfl, w1⟩ := open_int Try.underlying3 (hval 1 3 v1 rfl rfl) h1
  clear hA0 hval0
  have hc := (spaceFree_con l a0 cap0 hl a1 (wf64 w1)).quiet1 (List.mem_singleton.2 rfl) (st_in (w := W) (ps := [Sh (.slice a0 l.length cap0) (.sl (l.map deedRow))]) fun p hp => by rw [List.mem_singleton.1 hp]; exact hrep)
  refine hc.mono fun e W' ⟨he, bel⟩ => ?_
  subst he
  exact ⟨_, rfl, _, _, _, [], _, [], hW', trodAll_mk1 (shut_bool Try.underlying4 _), (trodAll_cons_mk (Below.trod laidOut (by kernel_rfl) (of_decide_eq_true (by kernel_rfl)) k0 bel lt0) (trodAll_cons_mk (shut_int Try.underlying3 w1) trodAll_mk0)), rfl, bel.frame _, fun h => by cases h⟩
theorem over : Rows.spaceFreeRow.holds Try.pinned (OpenSpec.ofChange Rows.spaceFreeSpec) :=
  OpenClaim.holds_of_wide 5 Try.f5 rfl rfl rfl rfl rfl rfl rfl ⟨rfl, rfl, rfl, rfl, rfl⟩ rfl rfl rfl rfl rfl (by kernel_rfl) Try.func5 (by kernel_rfl)
    (of_decide_eq_true (by kernel_rfl)) (by unfold Func.isWrapper; first | (rw [if_pos (by decide +kernel)]; kernel_rfl) | (rw [if_neg (by decide +kernel)]; exact ⟨rfl, rfl⟩))
    (fun os started H enc _ => lifted os started H enc)
theorem proved : Rows.SpaceFreeSaid := over
end Go.Proofs.Ytlhbnpahplpobaa.spaceFree
