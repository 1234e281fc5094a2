/- The contract of room.Cut. -/
import Derived.Test.YtlhbnpahplpobaaSyRoom2
set_option linter.unusedVariables false
set_option linter.unusedSimpArgs false
namespace Go.Proofs.Ytlhbnpahplpobaa
open Go.RowKit Go.Lp Go.Sy
def keepL (f u : Int) : List Span := if f < u then [(f, u - f)] else []
theorem keep_fn (f u : Int) (b : Nat) (ad : Option Addr) (c : Nat) (rows : List Span) (hI : I64 (u - f)) (hlen : rows.length ≤ 999999) :
    Con Try.prog 44 [.int .i64 f, .int .i64 u, .pointer (some ⟨b, 0, none⟩)] [] [Box b 67 [.slice ad rows.length c], OwnS (.slice ad rows.length c) 66 2 (rows.map spanRow)]
      fun r ps' hp' => r = .tuple #[] ∧ ps' = [] ∧ ∃ ad' c', hp' = [Box b 67 [.slice ad' (rows ++ keepL f u).length c'], OwnS (.slice ad' (rows ++ keepL f u).length c') 66 2 ((rows ++ keepL f u).map spanRow)] := by
  unfold I64 at hI
  refine Con.enter Try.func44 rfl (by simp [Try.ntmps44]) ?_
  show awp _ _ _ _ ⟨[(0, true, _), (1, true, _), (2, true, _)], _, _⟩
  refine awp_seq ?_
  refine awp_region ?_
  refine aL_s true rfl rfl (fun _ => q_move rfl) ?_
  refine aL_s true rfl rfl (fun _ => q_move rfl) ?_
  refine aL_s true rfl rfl (fun _ => q_lss rfl rfl) ?_
  refine aL_nil ?_
  refine thn_n ?_
  refine awp_cond _ rfl (fun h1 => ?_) (fun h1 => ?_)
  · skip
    refine awp_region ?_
    refine aL_s true rfl rfl (fun _ => q_load 0 tk67 rfl rfl rfl) ?_
    refine aL_s true rfl rfl (fun _ => q_move rfl) ?_
    refine aL_s true rfl rfl (fun _ => q_move rfl) ?_
    refine aL_s true rfl rfl (fun _ => q_move rfl) ?_
    refine aL_s true rfl rfl (fun _ => q_subi rfl rfl (by omega)) ?_
    refine aL_s true rfl rfl (fun _ => q_bld (l := [(0, .tmp 9), (1, .tmp 12)]) (zs := [.int .i64 0, .int .i64 0]) (pl := [(0, 1), (1, 1)]) (by kernel_rfl) (by kernel_rfl) (by kernel_rfl) rfl rfl rfl) ?_
    refine aL_eff (q := true) rfl (w_lit (zs := [.int .i64 0, .int .i64 0]) (l := [(0, .tmp 13)]) el67 (by kernel_rfl) (by decide) (by decide) (by decide) rfl rfl rfl (.more rfl (.v rfl (.v rfl .nil)) .nil) rfl rfl (fun v1_6 => ?_))
    simp only [List.cons_append, List.nil_append]
    refine aL_eff rfl (w_append 1 el67 rfl rfl rfl rfl (w_srcO 2 el67 rfl (by simp)) (by first | assumption | simp) (by simp; omega) (rows.length + 1) (by simp) (fun v1_7 c1_7 => ?_))
    simp only [List.set_cons_succ, List.set_cons_zero]
    refine aL_eff rfl (e_store 0 tk67 rfl rfl rfl rfl ?_)
    simp only [List.set_cons_succ, List.set_cons_zero]
    refine aL_nil ?_
    refine fin0 [] [0, 1] rfl Try.results44 ?_ (.inl rfl)
    refine ⟨rfl, rfl, v1_7, c1_7, ?_⟩
    have : keepL f u = [(f, u - f)] := by unfold keepL; rw [if_pos (by simpa using h1)]
    rw [this, List.map_append, List.length_append]; rfl
  · skip
    refine awp_skip ?_
    refine fin0 [] [0, 1] rfl Try.results44 ?_ (.inl rfl)
    refine ⟨rfl, rfl, ad, c, ?_⟩
    have : keepL f u = [] := by unfold keepL; rw [if_neg (by simpa using h1)]
    rw [this, List.append_nil]; rfl
def cutL (x n : Int) (l : List Span) : List Span := l.flatMap fun p => keepL p.1 (min (p.1 + p.2) x) ++ keepL (max p.1 (x + n)) (p.1 + p.2)
theorem cutL_succ {x n : Int} {l : List Span} {k : Nat} {p : Span} (hp : l[k]? = some p) : cutL x n (l.take (k + 1)) = (cutL x n (l.take k) ++ keepL p.1 (min (p.1 + p.2) x)) ++ keepL (max p.1 (x + n)) (p.1 + p.2) := by
  unfold cutL
  rw [List.take_add_one, hp]
  simp [List.flatMap_append, List.append_assoc]
theorem keepL_len (f u : Int) : (keepL f u).length ≤ 1 := by unfold keepL; split <;> simp
theorem cutL_len (x n : Int) (l : List Span) : (cutL x n l).length ≤ 2 * l.length := by
  induction l with
  | nil => simp [cutL]
  | cons p l ih =>
    have e : cutL x n (p :: l) = (keepL p.1 (min (p.1 + p.2) x) ++ keepL (max p.1 (x + n)) (p.1 + p.2)) ++ cutL x n l := rfl
    have := keepL_len p.1 (min (p.1 + p.2) x)
    have := keepL_len (max p.1 (x + n)) (p.1 + p.2)
    rw [e]; simp only [List.length_append, List.length_cons]; omega
theorem cut_fn (l : List Span) (ad : Option Addr) (c : Nat) (x n : Int) (hr : rightB l = true) (hl : ∀ p ∈ l, I64 p.1 ∧ I64 p.2) (hv : validB x n = true) (hn : n ≠ 0) (hll : l.length ≤ 400000) :
    Con Try.prog 31 [.slice ad l.length c, .agg #[.int .i64 x, .int .i64 n]] [Sh (.slice ad l.length c) (.sl (l.map spanRow))] []
      fun r ps' hp' => ps' = [] ∧ ∃ ad' c', r = .slice ad' (cutL x n l).length c' ∧ hp' = [OwnS (.slice ad' (cutL x n l).length c') 66 2 ((cutL x n l).map spanRow)] := by
  have HL := Lib.hid hl
  have HV := Lib.hid (validB_iff.1 hv)
  have HR := Lib.hid (rightB_iff.1 hr)
  have HVV := Lib.hid hv
  have HRR := Lib.hid hr
  have HN := Lib.hid hn
  clear hl hv hr hn
  refine Con.enter Try.func31 rfl (by simp [Try.ntmps31]) ?_
  show awp _ _ _ _ ⟨[(0, true, _), (1, true, _)], _, _⟩
  refine awp_len 0 rfl (fun hlen => ?_)
  rw [List.length_map] at hlen
  refine awp_seq ?_
  refine awp_region ?_
  refine aL_eff (q := true) rfl (e_box rfl rfl rfl (fun b0_0 => ?_))
  simp only [List.cons_append, List.nil_append]
  refine aL_s true rfl rfl (fun _ => q_assign rfl) ?_
  refine aL_nil ?_
  refine thn_n ?_
  refine awp_seq ?_
  refine awp_seq ?_
  refine awp_region ?_
  refine aL_s true rfl rfl (fun _ => q_move rfl) ?_
  refine aL_s true rfl rfl (fun _ => q_call (by kernel_rfl) rfl (fun w S fp hst => (right_fn l ad c HL.out).quiet1 (psAt 0 rfl) hst)) ?_
  refine aL_s true rfl rfl (fun _ => q_not rfl) ?_
  refine aL_s true rfl rfl (fun _ => q_move rfl) ?_
  refine aL_s _ rfl rfl (fun hc => q_load 0 tk66 rfl rfl rfl) ?_
  refine aL_s _ rfl rfl (fun hc => q_call (by kernel_rfl) (evs_cons (ev_yes rfl hc) rfl) (fun w S fp hst => (valid_fn _ _ (by have := HV.out; unfold I64; omega) (by have := HV.out; unfold I64; omega)).quiet0 hst)) ?_
  refine aL_s _ rfl rfl (fun hc => q_not (ev_yes rfl hc)) ?_
  refine aL_s true rfl rfl (fun _ => q_or rfl rfl (fun h => gf rfl h)) ?_
  refine aL_s true rfl rfl (fun _ => q_move rfl) ?_
  refine aL_s _ rfl rfl (fun hc => q_fieldAddr (off := 1) (by kernel_rfl) rfl) ?_
  refine aL_s _ rfl rfl (fun hc => q_load 0 tk3 (ev_yes rfl hc) rfl rfl) ?_
  refine aL_s _ rfl rfl (fun hc => q_eql (ev_yes rfl hc) rfl) ?_
  refine aL_s true rfl rfl (fun _ => q_or rfl rfl (fun h => gf rfl h)) ?_
  refine aL_nil ?_
  refine thn_n ?_
  refine awp_cond _ rfl (fun h1 => ?_) (fun h1 => ?_)
  · skip
    exfalso
    rw [HRR.out, HVV.out] at h1
    have := HN.out
    simp at h1; omega
  · skip
    refine awp_skip ?_
    refine thn_n ?_
    refine awp_seq ?_
    refine awp_region ?_
    refine aL_eff (q := true) rfl (e_alloc (zs := [.slice none 0 0]) (by kernel_rfl) rfl (fun b3_0 => ?_))
    simp only [List.cons_append, List.nil_append]
    refine aL_nil ?_
    refine thn_n ?_
    refine awp_seq ?_
    refine awp_region ?_
    refine aL_s true rfl rfl (fun _ => q_func (l := [.tmp 5]) rfl) ?_
    refine aL_s true rfl rfl (fun _ => q_assign rfl) ?_
    refine aL_nil ?_
    refine thn_n ?_
    refine awp_seq ?_
    refine awp_seq ?_
    refine awp_region ?_
    refine aL_s true rfl rfl (fun _ => q_move rfl) ?_
    refine aL_s true rfl rfl (fun _ => q_lenS Try.underlying67 rfl) ?_
    refine aL_s true rfl rfl (fun _ => q_move rfl) ?_
    refine aL_nil ?_
    refine thn_n ?_
    refine awp_block ?_
    refine awp_nil 66 2 ?_
    refine awp_loopK [3, 5, 6, 25, 26, 27] [0] [0, 1, 2] (fun (k : Nat) s => k ≤ l.length ∧ ∃ ad' c', s = ⟨[(3, true, .pointer (some ⟨b0_0, 0, none⟩)), (5, true, .pointer (some ⟨b3_0, 0, none⟩)), (6, true, .func (.func 44) #[] #[.pointer (some ⟨b3_0, 0, none⟩)]), (25, true, .slice ad l.length c), (26, true, .int .i64 l.length), (27, true, .int .i64 k)], [Sh (.slice ad l.length c) (.sl (l.map spanRow))], [Box b0_0 66 [.int .i64 x, .int .i64 n], Box b3_0 67 [.slice ad' (cutL x n (l.take k)).length c'], OwnS (.slice ad' (cutL x n (l.take k)).length c') 66 2 ((cutL x n (l.take k)).map spanRow)]⟩) (fun k => l.length - k) rfl (⟨0, Nat.zero_le _, none, 0, rfl⟩) ?_
    rintro k s ⟨hk, ad', c', rfl⟩
    refine awp_seq ?_
    refine awp_region ?_
    refine aL_s true rfl rfl (fun _ => q_lss rfl rfl) ?_
    refine aL_nil ?_
    refine thn_n ?_
    refine awp_seq ?_
    refine awp_cond _ rfl (fun h2 => ?_) (fun h2 => ?_)
    · skip
      have hk' : k < l.length := by simpa using h2
      obtain ⟨p, hp⟩ : ∃ p, l[k]? = some p := ⟨l[k]'hk', by simp⟩
      have hpv := validB_iff.1 (okAt_valid (HR.out k p hp))
      obtain ⟨q1, q2, q3, q4⟩ := hpv
      obtain ⟨q5, q6, q7, q8⟩ := HV.out
      have hcl := cutL_len x n (l.take k)
      have htl : (l.take k).length ≤ l.length := List.length_take_le' _ _
      have hkl := keepL_len p.1 (min (p.1 + p.2) x)
      refine awp_skip ?_
      refine thn_n ?_
      refine awp_seq ?_
      refine awp_block ?_
      refine awp_seq ?_
      refine awp_region ?_
      refine aL_E true rfl rfl (fun _ => q_indexAddr Try.underlying67 tk66 rfl (psAt 0 rfl) rfl (row := spanRow p) (by simp [hp]) rfl rfl) (fun h => absurd h (by decide)) (fun ⟨b7_0, o7_0⟩ => ?_)
      refine aL_s true rfl rfl (fun _ => q_loadD (o := 0) (v := .agg #[.int .i64 p.1, .int .i64 p.2]) tk66 rfl (psAt 0 rfl) rfl rfl) ?_
      refine aL_eff (q := true) rfl (e_alloc (zs := [.int .i64 0, .int .i64 0]) (by kernel_rfl) rfl (fun b7_2 => ?_))
      simp only [List.cons_append, List.nil_append]
      refine aL_eff rfl (e_store 3 tk66 rfl rfl rfl rfl ?_)
      simp only [List.set_cons_succ, List.set_cons_zero]
      refine aL_nil ?_
      refine thn_n ?_
      refine awp_seq ?_
      refine awp_drawn [8] (by kernel_rfl) ?_
      show aB _ _ _ _ _ 9 #[false, false, false, false, false, false, false, false, false] _
      refine aB_s 0 rfl (by kernel_rfl) true rfl rfl (fun _ => q_move rfl) ?_
      simp only [List.setIfInBounds_toArray, List.set_cons_succ, List.set_cons_zero]
      refine aB_s 1 rfl (by kernel_rfl) true rfl rfl (fun _ => q_fieldAddr (off := 0) (by kernel_rfl) rfl) ?_
      simp only [List.setIfInBounds_toArray, List.set_cons_succ, List.set_cons_zero]
      refine aB_s 2 rfl (by kernel_rfl) true rfl rfl (fun _ => q_load 3 tk3 rfl rfl rfl) ?_
      simp only [List.setIfInBounds_toArray, List.set_cons_succ, List.set_cons_zero]
      refine aB_s 3 rfl (by kernel_rfl) true rfl rfl (fun _ => q_load 3 tk66 rfl rfl rfl) ?_
      simp only [List.setIfInBounds_toArray, List.set_cons_succ, List.set_cons_zero]
      refine aB_s 4 rfl (by kernel_rfl) true rfl rfl (fun _ => q_call (by kernel_rfl) rfl (fun w S fp hst => (end_fn _ _ (by unfold I64; omega)).quiet0 hst)) ?_
      simp only [List.setIfInBounds_toArray, List.set_cons_succ, List.set_cons_zero]
      refine aB_s 5 rfl (by kernel_rfl) true rfl rfl (fun _ => q_fieldAddr (off := 0) (by kernel_rfl) rfl) ?_
      simp only [List.setIfInBounds_toArray, List.set_cons_succ, List.set_cons_zero]
      refine aB_s 6 rfl (by kernel_rfl) true rfl rfl (fun _ => q_load 0 tk3 rfl rfl rfl) ?_
      simp only [List.setIfInBounds_toArray, List.set_cons_succ, List.set_cons_zero]
      refine aB_s 7 rfl (by kernel_rfl) true rfl rfl (fun _ => q_min rfl rfl) ?_
      simp only [List.setIfInBounds_toArray, List.set_cons_succ, List.set_cons_zero]
      refine aB_eff (q := false) 8 rfl (by kernel_rfl) rfl rfl (e_callC [] [1, 2] (by kernel_rfl) rfl rfl rfl rfl rfl (keep_fn _ _ _ _ _ _ (by unfold I64; omega) (by omega)) ?_)
      rintro v ps' hp' ⟨rfl, rfl, ad2, c2, rfl⟩
      simp only [List.setIfInBounds_toArray, List.set_cons_succ, List.set_cons_zero]
      refine aB_nil (by kernel_rfl) ?_
      refine thn_n ?_
      refine awp_drawn [8] (by kernel_rfl) ?_
      show aB _ _ _ _ _ 9 #[false, false, false, false, false, false, false, false, false] _
      refine aB_s 0 rfl (by kernel_rfl) true rfl rfl (fun _ => q_move rfl) ?_
      simp only [List.setIfInBounds_toArray, List.set_cons_succ, List.set_cons_zero]
      refine aB_s 1 rfl (by kernel_rfl) true rfl rfl (fun _ => q_fieldAddr (off := 0) (by kernel_rfl) rfl) ?_
      simp only [List.setIfInBounds_toArray, List.set_cons_succ, List.set_cons_zero]
      refine aB_s 2 rfl (by kernel_rfl) true rfl rfl (fun _ => q_load 3 tk3 rfl rfl rfl) ?_
      simp only [List.setIfInBounds_toArray, List.set_cons_succ, List.set_cons_zero]
      refine aB_s 3 rfl (by kernel_rfl) true rfl rfl (fun _ => q_load 0 tk66 rfl rfl rfl) ?_
      simp only [List.setIfInBounds_toArray, List.set_cons_succ, List.set_cons_zero]
      refine aB_s 4 rfl (by kernel_rfl) true rfl rfl (fun _ => q_call (by kernel_rfl) rfl (fun w S fp hst => (end_fn _ _ (by unfold I64; omega)).quiet0 hst)) ?_
      simp only [List.setIfInBounds_toArray, List.set_cons_succ, List.set_cons_zero]
      refine aB_s 5 rfl (by kernel_rfl) true rfl rfl (fun _ => q_max rfl rfl) ?_
      simp only [List.setIfInBounds_toArray, List.set_cons_succ, List.set_cons_zero]
      refine aB_s 6 rfl (by kernel_rfl) true rfl rfl (fun _ => q_load 3 tk66 rfl rfl rfl) ?_
      simp only [List.setIfInBounds_toArray, List.set_cons_succ, List.set_cons_zero]
      refine aB_s 7 rfl (by kernel_rfl) true rfl rfl (fun _ => q_call (by kernel_rfl) rfl (fun w S fp hst => (end_fn _ _ (by unfold I64; omega)).quiet0 hst)) ?_
      simp only [List.setIfInBounds_toArray, List.set_cons_succ, List.set_cons_zero]
      refine aB_eff (q := false) 8 rfl (by kernel_rfl) rfl rfl (e_callC [] [1, 2] (by kernel_rfl) rfl rfl rfl rfl rfl (keep_fn _ _ _ _ _ _ (by unfold I64; omega) (by simp only [List.length_append]; omega)) ?_)
      rintro v ps' hp' ⟨rfl, rfl, ad3, c3, rfl⟩
      simp only [List.setIfInBounds_toArray, List.set_cons_succ, List.set_cons_zero]
      refine aB_nil (by kernel_rfl) ?_
      refine blk_n ?_
      refine thn_n ?_
      refine awp_region ?_
      refine aL_s true rfl rfl (fun _ => q_addi rfl rfl (by omega)) ?_
      refine aL_s true rfl rfl (fun _ => q_move rfl) ?_
      refine aL_nil ?_
      refine thn_n ?_
      refine ⟨[3, 5, 6, 25, 26, 27], [0], [0, 1, 2], rfl, ?_⟩
      refine ⟨k + 1, ⟨by omega, ad3, c3, ?_⟩, by omega⟩
      rw [cutL_succ hp]; rfl
    · skip
      refine awp_exit ?_
      refine thn_e ?_
      refine thn_e ?_
      refine blk_hit ?_
      refine thn_n ?_
      refine awp_seq ?_
      refine awp_region ?_
      refine aL_s true rfl rfl (fun _ => q_load 1 tk67 rfl rfl rfl) ?_
      refine aL_s true rfl rfl (fun _ => q_assign rfl) ?_
      refine aL_nil ?_
      refine thn_n ?_
      refine awp_ret ?_
      refine fin1 [] [2] rfl Try.results31 rfl ?_ (.inr rfl)
      have e : l.take k = l := List.take_of_length_le (by simp at h2; omega)
      rw [e]
      exact ⟨rfl, ad', c', rfl, rfl⟩
end Go.Proofs.Ytlhbnpahplpobaa
