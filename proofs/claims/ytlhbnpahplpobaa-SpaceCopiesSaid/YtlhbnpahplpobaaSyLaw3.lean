/- The contracts of do and fill. -/
import Derived.Test.YtlhbnpahplpobaaSyLaw2
import Derived.Test.YtlhbnpahplpobaaSySpMap
set_option linter.unusedVariables false
set_option linter.unusedSimpArgs false
namespace Go.Proofs.Ytlhbnpahplpobaa
open Go.RowKit Go.Lp Go.Sy
def doM (M : Mem) (d : Deed) : Mem × Int × List UInt8 × Int :=
  if d.do_ % 6 = 0 then ((mapM M d.a).1, 0, [], (mapM M d.a).2) else
  if d.do_ % 6 = 1 then ((unmapM M d.at_).1, 0, [], (unmapM M d.at_).2) else
  if d.do_ % 6 = 2 then (M, (loadM M d.at_ d.size).1, [], (loadM M d.at_ d.size).2) else
  if d.do_ % 6 = 3 then ((storeM M d.at_ d.size d.n).1, 0, [], (storeM M d.at_ d.size d.n).2) else
  if d.do_ % 6 = 4 then (M, 0, (readM M d.at_ d.size).1, (readM M d.at_ d.size).2) else
  ((writeM M d.at_ d.b.data.toList).1, 0, [], (writeM M d.at_ d.b.data.toList).2)
/-- a deed as the machine can hold it -/
structure DeedOk (d : Deed) : Prop where
  do_ : I64 d.do_
  at_ : I64 d.at_
  b : d.b.size ≤ 9223372036854775807
theorem do_fn (p : Nat) (M : Mem) (d : Deed) (hd : DeedOk d) (hM : M.length < 4096) :
    Con Try.prog 13 [.pointer (some ⟨p, 0, none⟩), .agg #[.int .i64 d.do_, .int .i64 d.a.at_, .int .i64 d.a.size, .int .i64 d.a.kind, .int .i64 d.a.owner, .int .i64 d.a.mod, .int .i64 d.at_, .int .i64 d.size, .int .i64 d.n, .string d.b]] [] [SpR p M]
      fun r ps' hp' => r = .tuple #[.int .i64 (doM M d).2.1, .string (ofBytes (doM M d).2.2.1), .int .i64 (doM M d).2.2.2] ∧ ps' = [] ∧ hp' = [SpR p (doM M d).1] := by
  obtain ⟨hd1, hd2, hd3⟩ := hd
  have HM := Lib.hid hM
  clear hM
  unfold doM
  refine Con.enter Try.func13 rfl (by simp [Try.ntmps13]) ?_
  show awp _ _ _ _ ⟨[(0, true, _), (1, true, _)], _, _⟩
  refine awp_seq ?_
  refine awp_region ?_
  refine aL_eff (q := true) rfl (e_box rfl rfl rfl (fun b0_0 => ?_))
  simp only [List.cons_append, List.nil_append]
  refine aL_s true rfl rfl (fun _ => q_assign rfl) ?_
  refine aL_s true rfl rfl (fun _ => q_assign rfl) ?_
  refine aL_s true rfl rfl (fun _ => q_assign rfl) ?_
  refine aL_nil ?_
  refine thn_n ?_
  refine awp_seq ?_
  refine awp_seq ?_
  refine awp_region ?_
  refine aL_s true rfl rfl (fun _ => q_fieldAddr (off := 0) (by kernel_rfl) rfl) ?_
  refine aL_s true rfl rfl (fun _ => q_load 1 tk3 rfl rfl rfl) ?_
  refine aL_s true rfl rfl (fun _ => q_call (by kernel_rfl) rfl (fun w S fp hst => (pick_fn _ _ hd1 (by omega)).quiet0 hst)) ?_
  refine aL_nil ?_
  refine thn_n ?_
  refine awp_block ?_
  refine awp_seq ?_
  refine awp_region ?_
  refine aL_s true rfl rfl (fun _ => q_eql rfl rfl) ?_
  refine aL_s true rfl rfl (fun _ => q_assign rfl) ?_
  refine aL_nil ?_
  refine thn_n ?_
  refine awp_cond _ rfl (fun h1 => ?_) (fun h1 => ?_)
  · skip
    refine awp_seq ?_
    refine awp_region ?_
    refine aL_s true rfl rfl (fun _ => q_move rfl) ?_
    refine aL_s true rfl rfl (fun _ => q_fieldAddr (off := 1) (by kernel_rfl) rfl) ?_
    refine aL_s true rfl rfl (fun _ => q_load 1 tk24 rfl rfl rfl) ?_
    refine aL_eff (q := false) rfl (e_call [] [0] (by kernel_rfl) rfl rfl rfl rfl (map_con d.a HM.out) ?_)
    rintro v ps' hp' ⟨rfl, rfl, rfl⟩
    refine aL_s true rfl rfl (fun _ => q_assign rfl) ?_
    refine aL_s true rfl rfl (fun _ => q_assign rfl) ?_
    refine aL_s true rfl rfl (fun _ => q_assign rfl) ?_
    refine aL_nil ?_
    refine thn_n ?_
    refine awp_ret ?_
    refine blk_r ?_
    refine thn_r ?_
    refine fin3 [] [0] rfl Try.results13 rfl rfl rfl ?_ (.inr rfl)
    rw [if_pos (of_decide_eq_true h1)]; exact ⟨rfl, rfl, rfl⟩
  · skip
    refine awp_seq ?_
    refine awp_region ?_
    refine aL_s true rfl rfl (fun _ => q_eql rfl rfl) ?_
    refine aL_s true rfl rfl (fun _ => q_assign rfl) ?_
    refine aL_nil ?_
    refine thn_n ?_
    refine awp_cond _ rfl (fun h2 => ?_) (fun h2 => ?_)
    · skip
      refine awp_seq ?_
      refine awp_region ?_
      refine aL_s true rfl rfl (fun _ => q_move rfl) ?_
      refine aL_s true rfl rfl (fun _ => q_fieldAddr (off := 6) (by kernel_rfl) rfl) ?_
      refine aL_s true rfl rfl (fun _ => q_load 1 tk3 rfl rfl rfl) ?_
      refine aL_eff (q := false) rfl (e_call [] [0] (by kernel_rfl) rfl rfl rfl rfl (unmap_con d.at_) ?_)
      rintro v ps' hp' ⟨rfl, rfl, rfl⟩
      refine aL_s true rfl rfl (fun _ => q_assign rfl) ?_
      refine aL_s true rfl rfl (fun _ => q_assign rfl) ?_
      refine aL_s true rfl rfl (fun _ => q_assign rfl) ?_
      refine aL_nil ?_
      refine thn_n ?_
      refine awp_ret ?_
      refine blk_r ?_
      refine thn_r ?_
      refine fin3 [] [0] rfl Try.results13 rfl rfl rfl ?_ (.inr rfl)
      rw [if_neg (of_decide_eq_false h1), if_pos (of_decide_eq_true h2)]; exact ⟨rfl, rfl, rfl⟩
    · skip
      refine awp_seq ?_
      refine awp_region ?_
      refine aL_s true rfl rfl (fun _ => q_eql rfl rfl) ?_
      refine aL_s true rfl rfl (fun _ => q_assign rfl) ?_
      refine aL_nil ?_
      refine thn_n ?_
      refine awp_cond _ rfl (fun h3 => ?_) (fun h3 => ?_)
      · skip
        refine awp_seq ?_
        refine awp_region ?_
        refine aL_s true rfl rfl (fun _ => q_move rfl) ?_
        refine aL_s true rfl rfl (fun _ => q_fieldAddr (off := 6) (by kernel_rfl) rfl) ?_
        refine aL_s true rfl rfl (fun _ => q_load 1 tk3 rfl rfl rfl) ?_
        refine aL_s true rfl rfl (fun _ => q_fieldAddr (off := 7) (by kernel_rfl) rfl) ?_
        refine aL_s true rfl rfl (fun _ => q_load 1 tk3 rfl rfl rfl) ?_
        refine aL_s true rfl rfl (fun _ => q_call (by kernel_rfl) rfl (fun w S fp hst => q_spload hst 0 rfl d.at_ d.size hd2)) ?_
        refine aL_s true rfl rfl (fun _ => q_move rfl) ?_
        refine aL_s true rfl rfl (fun _ => q_extract rfl rfl) ?_
        refine aL_s true rfl rfl (fun _ => q_extract rfl rfl) ?_
        refine aL_s true rfl rfl (fun _ => q_assign rfl) ?_
        refine aL_s true rfl rfl (fun _ => q_assign rfl) ?_
        refine aL_nil ?_
        refine thn_n ?_
        refine awp_seq ?_
        refine awp_region ?_
        refine aL_s true rfl rfl (fun _ => q_move rfl) ?_
        refine aL_s true rfl rfl (fun _ => q_move rfl) ?_
        refine aL_s true rfl rfl (fun _ => q_assign rfl) ?_
        refine aL_s true rfl rfl (fun _ => q_assign rfl) ?_
        refine aL_s true rfl rfl (fun _ => q_assign rfl) ?_
        refine aL_nil ?_
        refine thn_n ?_
        refine awp_ret ?_
        refine blk_r ?_
        refine thn_r ?_
        refine fin3 [] [0] rfl Try.results13 rfl rfl rfl ?_ (.inr rfl)
        rw [if_neg (of_decide_eq_false h1), if_neg (of_decide_eq_false h2), if_pos (of_decide_eq_true h3)]; exact ⟨rfl, rfl, rfl⟩
      · skip
        refine awp_seq ?_
        refine awp_region ?_
        refine aL_s true rfl rfl (fun _ => q_eql rfl rfl) ?_
        refine aL_s true rfl rfl (fun _ => q_assign rfl) ?_
        refine aL_nil ?_
        refine thn_n ?_
        refine awp_cond _ rfl (fun h4 => ?_) (fun h4 => ?_)
        · skip
          refine awp_seq ?_
          refine awp_region ?_
          refine aL_s true rfl rfl (fun _ => q_move rfl) ?_
          refine aL_s true rfl rfl (fun _ => q_fieldAddr (off := 6) (by kernel_rfl) rfl) ?_
          refine aL_s true rfl rfl (fun _ => q_load 1 tk3 rfl rfl rfl) ?_
          refine aL_s true rfl rfl (fun _ => q_fieldAddr (off := 7) (by kernel_rfl) rfl) ?_
          refine aL_s true rfl rfl (fun _ => q_load 1 tk3 rfl rfl rfl) ?_
          refine aL_s true rfl rfl (fun _ => q_fieldAddr (off := 8) (by kernel_rfl) rfl) ?_
          refine aL_s true rfl rfl (fun _ => q_load 1 tk3 rfl rfl rfl) ?_
          refine aL_eff (q := false) rfl (e_call [] [0] (by kernel_rfl) rfl rfl rfl rfl (store_con d.at_ d.size d.n hd2) ?_)
          rintro v ps' hp' ⟨rfl, rfl, rfl⟩
          refine aL_s true rfl rfl (fun _ => q_assign rfl) ?_
          refine aL_s true rfl rfl (fun _ => q_assign rfl) ?_
          refine aL_s true rfl rfl (fun _ => q_assign rfl) ?_
          refine aL_nil ?_
          refine thn_n ?_
          refine awp_ret ?_
          refine blk_r ?_
          refine thn_r ?_
          refine fin3 [] [0] rfl Try.results13 rfl rfl rfl ?_ (.inr rfl)
          rw [if_neg (of_decide_eq_false h1), if_neg (of_decide_eq_false h2), if_neg (of_decide_eq_false h3), if_pos (of_decide_eq_true h4)]; exact ⟨rfl, rfl, rfl⟩
        · skip
          refine awp_seq ?_
          refine awp_region ?_
          refine aL_s true rfl rfl (fun _ => q_eql rfl rfl) ?_
          refine aL_s true rfl rfl (fun _ => q_assign rfl) ?_
          refine aL_nil ?_
          refine thn_n ?_
          refine awp_cond _ rfl (fun h5 => ?_) (fun h5 => ?_)
          · skip
            refine awp_seq ?_
            refine awp_region ?_
            refine aL_s true rfl rfl (fun _ => q_move rfl) ?_
            refine aL_s true rfl rfl (fun _ => q_fieldAddr (off := 6) (by kernel_rfl) rfl) ?_
            refine aL_s true rfl rfl (fun _ => q_load 1 tk3 rfl rfl rfl) ?_
            refine aL_s true rfl rfl (fun _ => q_fieldAddr (off := 7) (by kernel_rfl) rfl) ?_
            refine aL_s true rfl rfl (fun _ => q_load 1 tk3 rfl rfl rfl) ?_
            refine aL_s true rfl rfl (fun _ => q_call (by kernel_rfl) rfl (fun w S fp hst => q_spread hst 0 rfl d.at_ d.size hd2)) ?_
            refine aL_s true rfl rfl (fun _ => q_move rfl) ?_
            refine aL_s true rfl rfl (fun _ => q_extract rfl rfl) ?_
            refine aL_s true rfl rfl (fun _ => q_extract rfl rfl) ?_
            refine aL_s true rfl rfl (fun _ => q_assign rfl) ?_
            refine aL_s true rfl rfl (fun _ => q_assign rfl) ?_
            refine aL_nil ?_
            refine thn_n ?_
            refine awp_seq ?_
            refine awp_region ?_
            refine aL_s true rfl rfl (fun _ => q_move rfl) ?_
            refine aL_s true rfl rfl (fun _ => q_move rfl) ?_
            refine aL_s true rfl rfl (fun _ => q_assign rfl) ?_
            refine aL_s true rfl rfl (fun _ => q_assign rfl) ?_
            refine aL_s true rfl rfl (fun _ => q_assign rfl) ?_
            refine aL_nil ?_
            refine thn_n ?_
            refine awp_ret ?_
            refine blk_r ?_
            refine thn_r ?_
            refine fin3 [] [0] rfl Try.results13 rfl rfl rfl ?_ (.inr rfl)
            rw [if_neg (of_decide_eq_false h1), if_neg (of_decide_eq_false h2), if_neg (of_decide_eq_false h3), if_neg (of_decide_eq_false h4), if_pos (of_decide_eq_true h5)]; exact ⟨rfl, rfl, rfl⟩
          · skip
            refine awp_skip ?_
            refine blk_n ?_
            refine thn_n ?_
            refine awp_seq ?_
            refine awp_region ?_
            refine aL_s true rfl rfl (fun _ => q_move rfl) ?_
            refine aL_s true rfl rfl (fun _ => q_fieldAddr (off := 6) (by kernel_rfl) rfl) ?_
            refine aL_s true rfl rfl (fun _ => q_load 1 tk3 rfl rfl rfl) ?_
            refine aL_s true rfl rfl (fun _ => q_fieldAddr (off := 9) (by kernel_rfl) rfl) ?_
            refine aL_s true rfl rfl (fun _ => q_load 1 tk9 rfl rfl rfl) ?_
            refine aL_eff (q := false) rfl (e_call [] [0] (by kernel_rfl) rfl rfl rfl rfl (write_con d.at_ d.b hd3 hd2) ?_)
            rintro v ps' hp' ⟨rfl, rfl, rfl⟩
            refine aL_s true rfl rfl (fun _ => q_assign rfl) ?_
            refine aL_s true rfl rfl (fun _ => q_assign rfl) ?_
            refine aL_s true rfl rfl (fun _ => q_assign rfl) ?_
            refine aL_nil ?_
            refine thn_n ?_
            refine awp_ret ?_
            refine fin3 [] [0] rfl Try.results13 rfl rfl rfl ?_ (.inr rfl)
            rw [if_neg (of_decide_eq_false h1), if_neg (of_decide_eq_false h2), if_neg (of_decide_eq_false h3), if_neg (of_decide_eq_false h4), if_neg (of_decide_eq_false h5)]; exact ⟨rfl, rfl, rfl⟩
theorem filt_len {α : Type} (p : α → Bool) (l : List α) : (l.filter p).length + (l.filter (fun x => !p x)).length = l.length := by
  induction l with
  | nil => rfl
  | cons a l ih =>
    simp only [List.filter_cons]
    cases p a <;> simp <;> omega
theorem mapM_len (M : Mem) (a : Ar) : (mapM M a).1.length ≤ M.length + 1 := by
  unfold mapM
  split
  · simp
  · split
    · simp
    · split
      · simp
      · have h1 : (M.filter (fun x => decide (x.1.at_ < a.at_))).length + (M.filter (fun x => !decide (x.1.at_ < a.at_))).length = M.length := by
          exact filt_len _ M
        simp only [List.length_append, List.length_cons, List.length_nil]; omega
theorem updM_len (M : Mem) (t : Int) (bs : List UInt8) : (updM M t bs).length = M.length := by simp [updM]
theorem doM_len (M : Mem) (d : Deed) : (doM M d).1.length ≤ M.length + 1 := by
  unfold doM
  split
  · exact mapM_len _ _
  split
  · unfold unmapM; split
    · exact Nat.le_succ_of_le (List.length_filter_le _ _)
    · simp
  split
  · simp
  split
  · unfold storeM; split
    · simp
    · split
      · split
        · simp
        · simp [updM_len]
      · simp
  split
  · simp
  · unfold writeM; split
    · simp
    · split
      · simp [updM_len]
      · simp
def fillM (l : List Deed) : Mem := l.foldl (fun M d => (doM M d).1) []
theorem fillM_succ {l : List Deed} {k : Nat} {d : Deed} (h : l[k]? = some d) : fillM (l.take (k + 1)) = (doM (fillM (l.take k)) d).1 := by
  unfold fillM; rw [List.take_add_one, h]; simp
theorem fillM_len (l : List Deed) : (fillM l).length ≤ l.length := by
  have key : ∀ (l : List Deed) (M : Mem), (l.foldl (fun M d => (doM M d).1) M).length ≤ M.length + l.length := by
    intro l
    induction l with
    | nil => intro M; simp
    | cons d l ih => intro M; have := ih (doM M d).1; have := doM_len M d; simp only [List.foldl_cons, List.length_cons]; omega
  exact Nat.le_trans (key l []) (by simp)
theorem fill_fn (l : List Deed) (ad : Option Addr) (c : Nat) (hl : ∀ d ∈ l, DeedOk d) (hll : l.length ≤ 4000) :
    Con Try.prog 10 [.slice ad l.length c] [Sh (.slice ad l.length c) (.sl (l.map deedRow))] [] fun r ps' hp' => ps' = [] ∧ ∃ p, r = .pointer (some ⟨p, 0, none⟩) ∧ hp' = [SpR p (fillM l)] := by
  have HL := Lib.hid hl
  clear hl
  refine Con.enter Try.func10 rfl (by simp [Try.ntmps10]) ?_
  show awp _ _ _ _ ⟨[(0, true, _)], _, _⟩
  refine awp_seq ?_
  refine awp_region ?_
  refine aL_s true rfl rfl (fun _ => q_assign rfl) ?_
  refine aL_nil ?_
  refine thn_n ?_
  refine awp_seq ?_
  refine awp_region ?_
  refine aL_eff (q := true) rfl (e_call [] [] (by kernel_rfl) rfl rfl rfl rfl (new_fn) ?_)
  rintro v ps' hp' ⟨rfl, p, rfl, rfl⟩
  refine aL_s true rfl rfl (fun _ => q_assign rfl) ?_
  refine aL_nil ?_
  refine thn_n ?_
  refine awp_seq ?_
  refine awp_seq ?_
  refine awp_region ?_
  refine aL_s true rfl rfl (fun _ => q_assign rfl) ?_
  refine aL_nil ?_
  refine thn_n ?_
  refine awp_block ?_
  refine awp_conv 0 (SpR p []) rfl sp_new ?_
  refine awp_loopK [0, 3, 4] [0] [0] (fun (k : Nat) s => k ≤ l.length ∧ s = ⟨[(0, true, .slice ad l.length c), (3, true, .pointer (some ⟨p, 0, none⟩)), (4, true, .int .i64 k)], [Sh (.slice ad l.length c) (.sl (l.map deedRow))], [SpR p (fillM (l.take k))]⟩) (fun k => l.length - k) rfl (⟨0, Nat.zero_le _, rfl⟩) ?_
  rintro k s ⟨hk, rfl⟩
  refine awp_seq ?_
  refine awp_seq ?_
  refine awp_region ?_
  refine aL_s true rfl rfl (fun _ => q_move rfl) ?_
  refine aL_s true rfl rfl (fun _ => q_move rfl) ?_
  refine aL_s true rfl rfl (fun _ => q_lenS Try.underlying22 rfl) ?_
  refine aL_s true rfl rfl (fun _ => q_lss rfl rfl) ?_
  refine aL_nil ?_
  refine thn_n ?_
  refine awp_cond _ rfl (fun h1 => ?_) (fun h1 => ?_)
  · skip
    have hk' : k < l.length := by simpa using h1
    obtain ⟨x, hx⟩ : ∃ x, l[k]? = some x := ⟨l[k]'hk', by simp⟩
    have hfl := fillM_len (l.take k)
    have htl : (l.take k).length ≤ l.length := List.length_take_le' _ _
    refine awp_skip ?_
    refine thn_n ?_
    refine awp_seq ?_
    refine awp_block ?_
    refine awp_region ?_
    refine aL_s true rfl rfl (fun _ => q_move rfl) ?_
    refine aL_s true rfl rfl (fun _ => q_move rfl) ?_
    refine aL_s true rfl rfl (fun _ => q_move rfl) ?_
    refine aL_E true rfl rfl (fun _ => q_indexAddr Try.underlying22 tk26 rfl (psAt 0 rfl) rfl (row := deedRow x) (by simp [hx]) rfl rfl) (fun h => absurd h (by decide)) (fun ⟨b5_3, o5_3⟩ => ?_)
    refine aL_s true rfl rfl (fun _ => q_loadD (o := 0) (v := .agg #[.int .i64 x.do_, .int .i64 x.a.at_, .int .i64 x.a.size, .int .i64 x.a.kind, .int .i64 x.a.owner, .int .i64 x.a.mod, .int .i64 x.at_, .int .i64 x.size, .int .i64 x.n, .string x.b]) tk26 rfl (psAt 0 rfl) rfl rfl) ?_
    refine aL_eff (q := false) rfl (e_call [] [0] (by kernel_rfl) rfl rfl rfl rfl (do_fn p _ x (HL.out x (List.mem_of_getElem? hx)) (by omega)) ?_)
    rintro v ps' hp' ⟨rfl, rfl, rfl⟩
    refine aL_nil ?_
    refine blk_n ?_
    refine thn_n ?_
    refine awp_region ?_
    refine aL_s true rfl rfl (fun _ => q_move rfl) ?_
    refine aL_s true rfl rfl (fun _ => q_addi rfl rfl (by omega)) ?_
    refine aL_s true rfl rfl (fun _ => q_assign rfl) ?_
    refine aL_nil ?_
    refine thn_n ?_
    refine ⟨[0, 3, 4], [0], [0], rfl, ?_⟩
    refine ⟨k + 1, ⟨by omega, ?_⟩, by omega⟩
    rw [fillM_succ hx]; rfl
  · skip
    refine awp_exit ?_
    refine thn_e ?_
    refine thn_e ?_
    refine blk_hit ?_
    refine thn_n ?_
    refine awp_seq ?_
    refine awp_region ?_
    refine aL_s true rfl rfl (fun _ => q_move rfl) ?_
    refine aL_s true rfl rfl (fun _ => q_assign rfl) ?_
    refine aL_nil ?_
    refine thn_n ?_
    refine awp_ret ?_
    refine fin1 [] [0] rfl Try.results10 rfl ?_ (.inr rfl)
    have e : l.take k = l := List.take_of_length_le (by simp at h1; omega)
    rw [e]
    exact ⟨rfl, p, rfl, rfl⟩
end Go.Proofs.Ytlhbnpahplpobaa
