/- The contract of room.Right. -/
import Derived.Test.YtlhbnpahplpobaaSyRoom1
set_option linter.unusedVariables false
set_option linter.unusedSimpArgs false
namespace Go.Proofs.Ytlhbnpahplpobaa
open Go.RowKit Go.Lp Go.Sy
abbrev Span := Int × Int
def spanRow (p : Span) : List D := [.v (.int .i64 p.1), .v (.int .i64 p.2)]
theorem validB_iff {x n : Int} : validB x n = true ↔ 0 ≤ x ∧ x ≤ 1099511627776 ∧ 0 ≤ n ∧ n ≤ 1099511627776 - x := by
  simp only [validB, Bool.and_eq_true, decide_eq_true_eq, and_assoc]
def okAt (l : List Span) (i : Nat) (p : Span) : Bool := !((!validB p.1 p.2 || decide (p.2 = 0)) || (decide (0 < (i : Int)) && decide (p.1 ≤ (l.getD (i - 1) (0, 0)).1 + (l.getD (i - 1) (0, 0)).2)))
def rightB (l : List Span) : Bool := l.zipIdx.all fun x => okAt l x.2 x.1
theorem rightB_iff {l : List Span} : rightB l = true ↔ ∀ (j : Nat) (p : Span), l[j]? = some p → okAt l j p = true := by
  unfold rightB
  rw [List.all_eq_true]
  constructor
  · intro h j p hp
    exact h (p, j) (by rw [List.mem_zipIdx_iff_getElem?]; exact hp)
  · rintro h ⟨p, j⟩ hx
    exact h j p (by rw [List.mem_zipIdx_iff_getElem?] at hx; exact hx)
theorem okAt_valid {l : List Span} {i : Nat} {p : Span} (h : okAt l i p = true) : validB p.1 p.2 = true := by
  unfold okAt at h
  cases hv : validB p.1 p.2 with
  | true => rfl
  | false => rw [hv] at h; simp at h
theorem right_fn (l : List Span) (ad : Option Addr) (c : Nat) (hl : ∀ p ∈ l, I64 p.1 ∧ I64 p.2) : Con Try.prog 41 [.slice ad l.length c] [Sh (.slice ad l.length c) (.sl (l.map spanRow))] [] fun v _ _ => v = .bool (rightB l) := by
  have HL := Lib.hid hl
  clear hl
  refine Con.enter Try.func41 rfl (by simp [Try.ntmps41]) ?_
  show awp _ _ _ _ ⟨[(0, true, _)], _, _⟩
  refine awp_len 0 rfl (fun hlen => ?_)
  rw [List.length_map] at hlen
  refine awp_seq ?_
  refine awp_region ?_
  refine aL_s true rfl rfl (fun _ => q_assign rfl) ?_
  refine aL_nil ?_
  refine thn_n ?_
  refine awp_seq ?_
  refine awp_seq ?_
  refine awp_region ?_
  refine aL_s true rfl rfl (fun _ => q_move rfl) ?_
  refine aL_s true rfl rfl (fun _ => q_lenS Try.underlying67 rfl) ?_
  refine aL_s true rfl rfl (fun _ => q_move rfl) ?_
  refine aL_nil ?_
  refine thn_n ?_
  refine awp_block ?_
  refine awp_loopK [0, 5, 6, 7] [0] [] (fun (k : Nat) s => (k ≤ l.length ∧ ∀ j p, j < k → l[j]? = some p → okAt l j p = true) ∧ s = ⟨[(0, true, .slice ad l.length c), (5, true, .slice ad l.length c), (6, true, .int .i64 l.length), (7, true, .int .i64 k)], [Sh (.slice ad l.length c) (.sl (l.map spanRow))], []⟩) (fun k => l.length - k) rfl (⟨0, ⟨Nat.zero_le _, by omega⟩, rfl⟩) ?_
  rintro k s ⟨⟨hk, hok⟩, rfl⟩
  refine awp_seq ?_
  refine awp_region ?_
  refine aL_s true rfl rfl (fun _ => q_lss rfl rfl) ?_
  refine aL_nil ?_
  refine thn_n ?_
  refine awp_seq ?_
  refine awp_cond _ rfl (fun h1 => ?_) (fun h1 => ?_)
  · skip
    have hk' : k < l.length := by simpa using h1
    obtain ⟨p, hp⟩ : ∃ p, l[k]? = some p := ⟨l[k]'hk', by simp⟩
    have hpI := HL.out p (List.mem_of_getElem? hp)
    have hv0 : 0 < k → validB (l.getD (k - 1) (0, 0)).1 (l.getD (k - 1) (0, 0)).2 = true := fun h0 => okAt_valid (hok (k - 1) _ (by omega) (by simp [List.getD, show k - 1 < l.length by omega]))
    refine awp_skip ?_
    refine thn_n ?_
    refine awp_seq ?_
    refine awp_block ?_
    refine awp_seq ?_
    refine awp_region ?_
    refine aL_s true rfl rfl (fun _ => q_move rfl) ?_
    refine aL_E true rfl rfl (fun _ => q_indexAddr Try.underlying67 tk66 rfl (psAt 0 rfl) rfl (row := spanRow p) (by simp [hp]) rfl rfl) (fun h => absurd h (by decide)) (fun ⟨b3_1, o3_1⟩ => ?_)
    refine aL_s true rfl rfl (fun _ => q_loadD (o := 0) (v := .agg #[.int .i64 p.1, .int .i64 p.2]) tk66 rfl (psAt 0 rfl) rfl rfl) ?_
    refine aL_eff (q := true) rfl (e_alloc (zs := [.int .i64 0, .int .i64 0]) (by kernel_rfl) rfl (fun b3_3 => ?_))
    simp only [List.cons_append, List.nil_append]
    refine aL_s true rfl rfl (fun _ => q_assign rfl) ?_
    refine aL_eff rfl (e_store 0 tk66 rfl rfl rfl rfl ?_)
    simp only [List.set_cons_succ, List.set_cons_zero]
    refine aL_nil ?_
    refine thn_n ?_
    refine awp_seq ?_
    refine awp_drawn [] (by kernel_rfl) ?_
    show aB _ _ _ _ _ 23 #[false, false, false, false, false, false, false, false, false, false, false, false, false, false, false, false, false, false, false, false, false, false, false] _
    refine aB_s 0 rfl (by kernel_rfl) true rfl rfl (fun _ => q_load 0 tk66 rfl rfl rfl) ?_
    simp only [List.setIfInBounds_toArray, List.set_cons_succ, List.set_cons_zero]
    refine aB_s 1 rfl (by kernel_rfl) true rfl rfl (fun _ => q_call (by kernel_rfl) rfl (fun w S fp hst => (valid_fn _ _ hpI.1 hpI.2).quiet0 hst)) ?_
    simp only [List.setIfInBounds_toArray, List.set_cons_succ, List.set_cons_zero]
    refine aB_s 2 rfl (by kernel_rfl) true rfl rfl (fun _ => q_not rfl) ?_
    simp only [List.setIfInBounds_toArray, List.set_cons_succ, List.set_cons_zero]
    refine aB_s 3 rfl (by kernel_rfl) true rfl rfl (fun _ => q_move rfl) ?_
    simp only [List.setIfInBounds_toArray, List.set_cons_succ, List.set_cons_zero]
    refine aB_s 4 rfl (by kernel_rfl) _ rfl rfl (fun hc => q_fieldAddr (off := 1) (by kernel_rfl) rfl) ?_
    simp only [List.setIfInBounds_toArray, List.set_cons_succ, List.set_cons_zero]
    refine aB_s 5 rfl (by kernel_rfl) _ rfl rfl (fun hc => q_load 0 tk3 (ev_yes rfl hc) rfl rfl) ?_
    simp only [List.setIfInBounds_toArray, List.set_cons_succ, List.set_cons_zero]
    refine aB_s 6 rfl (by kernel_rfl) _ rfl rfl (fun hc => q_eql (ev_yes rfl hc) rfl) ?_
    simp only [List.setIfInBounds_toArray, List.set_cons_succ, List.set_cons_zero]
    refine aB_s 7 rfl (by kernel_rfl) true rfl rfl (fun _ => q_or rfl rfl (fun h => gf rfl h)) ?_
    simp only [List.setIfInBounds_toArray, List.set_cons_succ, List.set_cons_zero]
    refine aB_s 8 rfl (by kernel_rfl) true rfl rfl (fun _ => q_move rfl) ?_
    simp only [List.setIfInBounds_toArray, List.set_cons_succ, List.set_cons_zero]
    refine aB_s 9 rfl (by kernel_rfl) _ rfl rfl (fun hc => q_move rfl) ?_
    simp only [List.setIfInBounds_toArray, List.set_cons_succ, List.set_cons_zero]
    refine aB_s 10 rfl (by kernel_rfl) _ rfl rfl (fun hc => q_gtr (ev_yes rfl hc) rfl) ?_
    simp only [List.setIfInBounds_toArray, List.set_cons_succ, List.set_cons_zero]
    refine aB_s 11 rfl (by kernel_rfl) _ rfl rfl (fun hc => q_move (ev_yes rfl hc)) ?_
    simp only [List.setIfInBounds_toArray, List.set_cons_succ, List.set_cons_zero]
    refine aB_s 12 rfl (by kernel_rfl) _ rfl rfl (fun hc => q_move rfl) ?_
    simp only [List.setIfInBounds_toArray, List.set_cons_succ, List.set_cons_zero]
    refine aB_s 13 rfl (by kernel_rfl) _ rfl rfl (fun hc => q_move rfl) ?_
    simp only [List.setIfInBounds_toArray, List.set_cons_succ, List.set_cons_zero]
    refine aB_s 14 rfl (by kernel_rfl) _ rfl rfl (fun hc => q_subi (ev_yes rfl hc) rfl (by (first | omega | (simp at hc; omega)))) ?_
    simp only [List.setIfInBounds_toArray, List.set_cons_succ, List.set_cons_zero]
    refine aB_E 15 rfl (by kernel_rfl) _ rfl rfl (fun hc => q_indexAddr Try.underlying67 tk66 (ev_yes rfl hc) (psAt 1 rfl) (ev_yes rfl hc) (i := k - 1) (row := spanRow (l.getD (k - 1) (0, 0))) (by have h := gT hc; simp at h; simp [List.getD, show k - 1 < l.length by omega]) (by have h := gT hc; simp at h; omega) rfl) (fun _ => ⟨(0, 0)⟩) (fun ⟨b4_15, o4_15⟩ => ?_)
    simp only [List.setIfInBounds_toArray, List.set_cons_succ, List.set_cons_zero]
    refine aB_s 16 rfl (by kernel_rfl) _ rfl rfl (fun hc => q_loadD (o := 0) (v := .agg #[.int .i64 (l.getD (k - 1) (0, 0)).1, .int .i64 (l.getD (k - 1) (0, 0)).2]) tk66 (ev_yes rfl hc) (psAt 0 rfl) hc rfl) ?_
    simp only [List.setIfInBounds_toArray, List.set_cons_succ, List.set_cons_zero]
    refine aB_s 17 rfl (by kernel_rfl) _ rfl rfl (fun hc => q_call (by kernel_rfl) (evs_cons (ev_yes rfl hc) rfl) (fun w S fp hst => (end_fn _ _ (by have h := gT hc; simp at h; have := validB_iff.1 (hv0 h); unfold I64; omega)).quiet0 hst)) ?_
    simp only [List.setIfInBounds_toArray, List.set_cons_succ, List.set_cons_zero]
    refine aB_s 18 rfl (by kernel_rfl) _ rfl rfl (fun hc => q_fieldAddr (off := 0) (by kernel_rfl) rfl) ?_
    simp only [List.setIfInBounds_toArray, List.set_cons_succ, List.set_cons_zero]
    refine aB_s 19 rfl (by kernel_rfl) _ rfl rfl (fun hc => q_load 0 tk3 (ev_yes rfl hc) rfl rfl) ?_
    simp only [List.setIfInBounds_toArray, List.set_cons_succ, List.set_cons_zero]
    refine aB_s 20 rfl (by kernel_rfl) _ rfl rfl (fun hc => q_geq (ev_yes rfl hc) (ev_yes rfl hc)) ?_
    simp only [List.setIfInBounds_toArray, List.set_cons_succ, List.set_cons_zero]
    refine aB_s 21 rfl (by kernel_rfl) _ rfl rfl (fun hc => q_and (ev_yes rfl hc) rfl (fun h => gt hc h)) ?_
    simp only [List.setIfInBounds_toArray, List.set_cons_succ, List.set_cons_zero]
    refine aB_s 22 rfl (by kernel_rfl) true rfl rfl (fun _ => q_or rfl rfl (fun h => gf rfl h)) ?_
    simp only [List.setIfInBounds_toArray, List.set_cons_succ, List.set_cons_zero]
    refine aB_nil (by kernel_rfl) ?_
    refine thn_n ?_
    refine awp_cond _ rfl (fun h2 => ?_) (fun h2 => ?_)
    · skip
      refine awp_seq ?_
      refine awp_region ?_
      refine aL_s true rfl rfl (fun _ => q_assign rfl) ?_
      refine aL_nil ?_
      refine thn_n ?_
      refine awp_ret ?_
      refine blk_r ?_
      refine thn_r ?_
      refine thn_r ?_
      refine blk_r ?_
      refine thn_r ?_
      refine fin1 [] [] rfl Try.results41 rfl ?_ (.inr rfl)
      have hno : okAt l k p = false := by unfold okAt; rw [h2]; rfl
      show Value.bool false = .bool (rightB l)
      congr 1; symm
      cases hr : rightB l with
      | false => rfl
      | true => rw [rightB_iff.1 hr k p hp] at hno; cases hno
    · skip
      refine awp_skip ?_
      refine blk_n ?_
      refine thn_n ?_
      refine awp_region ?_
      refine aL_s true rfl rfl (fun _ => q_addi rfl rfl (by omega)) ?_
      refine aL_s true rfl rfl (fun _ => q_move rfl) ?_
      refine aL_nil ?_
      refine thn_n ?_
      refine ⟨[0, 5, 6, 7], [0], [], rfl, ?_⟩
      refine ⟨k + 1, ⟨⟨by omega, fun j q hj hq => ?_⟩, rfl⟩, by omega⟩
      rcases Nat.lt_succ_iff_lt_or_eq.1 hj with h | rfl
      · exact hok j q h hq
      · obtain rfl : p = q := by rw [hp] at hq; injection hq
        unfold okAt; rw [h2]; rfl
  · skip
    refine awp_exit ?_
    refine thn_e ?_
    refine thn_e ?_
    refine blk_hit ?_
    refine thn_n ?_
    refine awp_seq ?_
    refine awp_region ?_
    refine aL_s true rfl rfl (fun _ => q_assign rfl) ?_
    refine aL_nil ?_
    refine thn_n ?_
    refine awp_ret ?_
    refine fin1 [] [] rfl Try.results41 rfl ?_ (.inr rfl)
    show Value.bool true = .bool (rightB l)
    rw [rightB_iff.2 (fun j p hp => hok j p (by have := (List.getElem?_eq_some_iff.1 hp).1; simp at h1; omega) hp)]
end Go.Proofs.Ytlhbnpahplpobaa
