/- Free of a space. -/
import Derived.Test.YtlhbnpahplpobaaSyFree1
import Derived.Test.YtlhbnpahplpobaaSySpMap
set_option linter.unusedVariables false
set_option linter.unusedSimpArgs false
namespace Go.Proofs.Ytlhbnpahplpobaa
open Go.RowKit Go.Lp Go.Sy
def untilM (a : Ar) : Int := min 1099511627776 (upI (a.at_ + a.size) 256 + 256)
def cutA (a : Ar) (l : List Span) : List Span := cutL (a.at_ - 256) (untilM a - (a.at_ - 256)) l
def freeList (M : Mem) : List Span := M.foldl (fun l x => cutA x.1 l) [(512, 1099511627264)]
def freeM (M : Mem) (size : Int) : Int :=
  if 1099511627776 < size then -1 else
    match fitL (upI (max 1 size) 256) 256 0 1099511627776 (freeList M) with
    | (a, true) => a
    | (_, false) => -1
theorem up256 {n : Int} (h : -1152921504606846976 ≤ n ∧ n ≤ 1152921504606846976) : n ≤ upI n 256 ∧ upI n 256 < n + 256 ∧ upI n 256 % 256 = 0 := by
  have e : downI n 256 = n - n % 256 := by unfold downI; rw [if_neg (by omega)]
  unfold upI
  rw [e]
  split <;> omega
theorem untilM_ok {a : Ar} (h : rightA a = true) : a.at_ + a.size ≤ untilM a ∧ untilM a ≤ 1099511627776 ∧ untilM a < a.at_ + a.size + 512 := by
  obtain ⟨r1, r2, r3, r4, r5, r6, r7, r8⟩ := rightA_iff.1 h
  have := @up256 (a.at_ + a.size) (by omega)
  unfold untilM; omega
theorem cutA_right {a : Ar} (h : rightA a = true) {l : List Span} (hl : RightP l) : RightP (cutA a l) := by
  obtain ⟨r1, r2, r3, r4, r5, r6, r7, r8⟩ := rightA_iff.1 h
  have := untilM_ok h
  exact cutL_right hl (by omega)
theorem cutA_len {a : Ar} (h : rightA a = true) {l : List Span} (hl : RightP l) : (cutA a l).length ≤ l.length + 1 := by
  obtain ⟨r1, r2, r3, r4, r5, r6, r7, r8⟩ := rightA_iff.1 h
  have := untilM_ok h
  exact cutL_len1 hl (by omega)
theorem freeList_ok (M : Mem) (h : ∀ x ∈ M, rightA x.1 = true) : RightP (freeList M) ∧ (freeList M).length ≤ M.length + 1 := by
  have key : ∀ (M : Mem) (l : List Span), (∀ x ∈ M, rightA x.1 = true) → RightP l → RightP (M.foldl (fun l x => cutA x.1 l) l) ∧ (M.foldl (fun l x => cutA x.1 l) l).length ≤ M.length + l.length := by
    intro M
    induction M with
    | nil => intro l _ hl; exact ⟨hl, by simp⟩
    | cons x M ih =>
      intro l hM hl
      have hx := hM x (by simp)
      obtain ⟨h1, h2⟩ := ih (cutA x.1 l) (fun y hy => hM y (by simp [hy])) (cutA_right hx hl)
      have := cutA_len hx hl
      exact ⟨h1, by simp only [List.foldl_cons, List.length_cons]; omega⟩
  have := key M [(512, 1099511627264)] h ⟨by simp, by simp⟩
  exact ⟨this.1, this.2⟩
theorem freeList_succ {M : Mem} {k : Nat} {x : Cell} (h : M[k]? = some x) : freeList (M.take (k + 1)) = cutA x.1 (freeList (M.take k)) := by
  unfold freeList; rw [List.take_add_one, h]; simp
theorem RightP.i64 {l : List Span} (h : RightP l) : ∀ p ∈ l, I64 p.1 ∧ I64 p.2 := fun p hp => by have := h.ok p hp; unfold I64; omega
theorem free_fn (p : Nat) (M : Mem) (X : SpX) (size : Int) (hs : I64 size) (hinv : Inv X.S) (hX : mem X.S = M) (hfew : X.S.length ≤ 4096) :
    Con Try.prog 16 [.pointer (some ⟨p, 0, none⟩), .int .i64 size] [SpP p M X] [] fun r _ _ => r = .int .i64 (freeM M size) := by
  have HR := Lib.hid (show ∀ x ∈ M, rightA x.1 = true from fun x hx => (inv_mem.1 hinv).right x (hX ▸ hx))
  have HX := Lib.hid hX
  have hXl : M.length = X.S.length := by rw [← hX]; simp
  unfold I64 at hs
  clear hX hinv
  refine Con.enter Try.func16 rfl (by simp [Try.ntmps16]) ?_
  show awp _ _ _ _ ⟨[(0, true, _), (1, true, _)], _, _⟩
  refine awp_seq ?_
  refine awp_region ?_
  refine aL_s true rfl rfl (fun _ => q_assign rfl) ?_
  refine aL_nil ?_
  refine thn_n ?_
  refine awp_seq ?_
  refine awp_seq ?_
  refine awp_region ?_
  refine aL_s true rfl rfl (fun _ => q_move rfl) ?_
  refine aL_s true rfl rfl (fun _ => q_gtr rfl rfl) ?_
  refine aL_nil ?_
  refine thn_n ?_
  refine awp_cond _ rfl (fun h1 => ?_) (fun h1 => ?_)
  · skip
    refine awp_seq ?_
    refine awp_region ?_
    refine aL_s true rfl rfl (fun _ => q_assign rfl) ?_
    refine aL_nil ?_
    refine thn_n ?_
    refine awp_ret ?_
    refine thn_r ?_
    refine fin1 [] [] rfl Try.results16 rfl ?_ (.inr rfl)
    unfold freeM; rw [if_pos (of_decide_eq_true h1)]
  · skip
    have hs' : size ≤ 1099511627776 := by simpa using h1
    have hup := @up256 (max 1 size) (by omega)
    refine awp_skip ?_
    refine thn_n ?_
    refine awp_seq ?_
    refine awp_region ?_
    refine aL_s true rfl rfl (fun _ => q_move rfl) ?_
    refine aL_s true rfl rfl (fun _ => q_max rfl rfl) ?_
    refine aL_s true rfl rfl (fun _ => q_call (by kernel_rfl) rfl (fun w S fp hst => (up_any _ _ w).mono (fun e w' ⟨h, hw⟩ => ⟨h, hw ▸ Below.refl _ _⟩))) ?_
    refine aL_s true rfl rfl (fun _ => q_assign rfl) ?_
    refine aL_nil ?_
    refine thn_n ?_
    refine awp_seq ?_
    refine awp_region ?_
    refine aL_s true rfl rfl (fun _ => q_bld (l := [(0, .const (.int .i64 512)), (1, .const (.int .i64 1099511627264))]) (zs := [.int .i64 0, .int .i64 0]) (pl := [(0, 1), (1, 1)]) (by kernel_rfl) (by kernel_rfl) (by kernel_rfl) rfl rfl rfl) ?_
    refine aL_eff (q := true) rfl (w_lit (zs := [.int .i64 0, .int .i64 0]) (l := [(0, .tmp 17)]) el67 (by kernel_rfl) (by decide) (by decide) (by decide) rfl rfl rfl (.more rfl (.v rfl (.v rfl .nil)) .nil) rfl rfl (fun v4_1 => ?_))
    simp only [List.cons_append, List.nil_append]
    refine aL_s true rfl rfl (fun _ => q_assign rfl) ?_
    refine aL_nil ?_
    refine thn_n ?_
    refine awp_seq ?_
    refine awp_seq ?_
    refine awp_region ?_
    refine aL_s true rfl rfl (fun _ => q_move rfl) ?_
    refine aL_s true rfl rfl (fun _ => q_nilCheck rfl) ?_
    refine aL_s true rfl rfl (fun _ => q_fieldAddr (off := 0) (by kernel_rfl) rfl) ?_
    refine aL_s true rfl rfl (fun _ => qa_head (psAt 0 rfl) rfl rfl) ?_
    refine aL_s true rfl rfl (fun _ => q_lenS Try.underlying68 rfl) ?_
    refine aL_s true rfl rfl (fun _ => q_move rfl) ?_
    refine aL_nil ?_
    refine thn_n ?_
    refine awp_block ?_
    refine awp_share 0 rfl ?_
    refine awp_loopK [1, 5, 22, 23, 24] [1, 0] [] (fun (k : Nat) s => k ≤ X.S.length ∧ ∃ ad c, s = ⟨[(1, true, .int .i64 (upI (max 1 size) 256)), (5, true, .slice ad (freeList (M.take k)).length c), (22, true, .slice (adr X.a) X.S.length X.c), (23, true, .int .i64 X.S.length), (24, true, .int .i64 k)], [Sh (.slice ad (freeList (M.take k)).length c) (.sl ((freeList (M.take k)).map spanRow)), SpP p M X], []⟩) (fun k => X.S.length - k) rfl (⟨0, Nat.zero_le _, v4_1, 1, rfl⟩) ?_
    rintro k s ⟨hk, ad, c, rfl⟩
    obtain ⟨hfr, hfl⟩ := freeList_ok (M.take k) (fun x hx => HR.out x (List.mem_of_mem_take hx))
    have htl : (M.take k).length ≤ M.length := List.length_take_le' _ _
    refine awp_seq ?_
    refine awp_region ?_
    refine aL_s true rfl rfl (fun _ => q_lss rfl rfl) ?_
    refine aL_nil ?_
    refine thn_n ?_
    refine awp_seq ?_
    refine awp_cond _ rfl (fun h2 => ?_) (fun h2 => ?_)
    · skip
      have hk' : k < X.S.length := by simpa using h2
      obtain ⟨q, hq⟩ : ∃ q, X.S[k]? = some q := ⟨X.S[k]'hk', by simp⟩
      have hMk : M[k]? = some (q.ar, q.bytes) := by rw [← HX.out]; simp [mem, hq]
      have hqr : rightA q.ar = true := HR.out _ (List.mem_of_getElem? hMk)
      obtain ⟨r1, r2, r3, r4, r5, r6, r7, r8⟩ := rightA_iff.1 hqr
      have hqu := untilM_ok hqr
      have hqp := @up256 (q.ar.at_ + q.ar.size) (by omega)
      have hum : min 1099511627776 (upI (q.ar.at_ + q.ar.size) 256 + 256) = untilM q.ar := rfl
      refine awp_skip ?_
      refine thn_n ?_
      refine awp_seq ?_
      refine awp_block ?_
      refine awp_seq ?_
      refine awp_region ?_
      refine aL_s true rfl rfl (fun _ => qa_idx k (psAt 1 rfl) rfl rfl rfl hk') ?_
      refine aL_s true rfl rfl (fun _ => qa_load k (psAt 1 rfl) rfl rfl hq) ?_
      refine aL_eff (q := true) rfl (e_alloc (zs := [.int .i64 0, .int .i64 0, .int .i64 0, .int .i64 0, .int .i64 0, .slice none 0 0]) (by kernel_rfl) rfl (fun b7_2 => ?_))
      simp only [List.cons_append, List.nil_append]
      refine aL_eff rfl (e_store 0 tk56 rfl rfl rfl rfl ?_)
      simp only [List.set_cons_succ, List.set_cons_zero]
      refine aL_nil ?_
      refine thn_n ?_
      refine awp_seq ?_
      refine awp_region ?_
      refine aL_s true rfl rfl (fun _ => q_fieldAddr (off := 0) (by kernel_rfl) rfl) ?_
      refine aL_s true rfl rfl (fun _ => q_fieldAddr (off := 0) (by kernel_rfl) rfl) ?_
      refine aL_s true rfl rfl (fun _ => q_load 0 tk3 rfl rfl rfl) ?_
      refine aL_s true rfl rfl (fun _ => q_subi rfl rfl (by omega)) ?_
      refine aL_s true rfl rfl (fun _ => q_assign rfl) ?_
      refine aL_nil ?_
      refine thn_n ?_
      refine awp_seq ?_
      refine awp_region ?_
      refine aL_s true rfl rfl (fun _ => q_fieldAddr (off := 0) (by kernel_rfl) rfl) ?_
      refine aL_s true rfl rfl (fun _ => q_fieldAddr (off := 0) (by kernel_rfl) rfl) ?_
      refine aL_s true rfl rfl (fun _ => q_load 0 tk3 rfl rfl rfl) ?_
      refine aL_s true rfl rfl (fun _ => q_fieldAddr (off := 0) (by kernel_rfl) rfl) ?_
      refine aL_s true rfl rfl (fun _ => q_fieldAddr (off := 1) (by kernel_rfl) rfl) ?_
      refine aL_s true rfl rfl (fun _ => q_load 0 tk3 rfl rfl rfl) ?_
      refine aL_s true rfl rfl (fun _ => q_addi rfl rfl (by omega)) ?_
      refine aL_s true rfl rfl (fun _ => q_call (by kernel_rfl) rfl (fun w S fp hst => (up_any _ _ w).mono (fun e w' ⟨h, hw⟩ => ⟨h, hw ▸ Below.refl _ _⟩))) ?_
      refine aL_s true rfl rfl (fun _ => q_addi rfl rfl (by omega)) ?_
      refine aL_s true rfl rfl (fun _ => q_min rfl rfl) ?_
      refine aL_s true rfl rfl (fun _ => q_assign rfl) ?_
      refine aL_nil ?_
      refine thn_n ?_
      refine awp_region ?_
      refine aL_s true rfl rfl (fun _ => q_move rfl) ?_
      refine aL_s true rfl rfl (fun _ => q_move rfl) ?_
      refine aL_s true rfl rfl (fun _ => q_move rfl) ?_
      refine aL_s true rfl rfl (fun _ => q_move rfl) ?_
      refine aL_s true rfl rfl (fun _ => q_subi rfl rfl (by omega)) ?_
      refine aL_s true rfl rfl (fun _ => q_bld (l := [(0, .tmp 43), (1, .tmp 46)]) (zs := [.int .i64 0, .int .i64 0]) (pl := [(0, 1), (1, 1)]) (by kernel_rfl) (by kernel_rfl) (by kernel_rfl) rfl rfl rfl) ?_
      refine aL_eff (q := true) rfl (e_call [1] [] (by kernel_rfl) rfl rfl rfl rfl (cut_fn (freeList (M.take k)) ad c (q.ar.at_ - 256) (untilM q.ar - (q.ar.at_ - 256)) hfr.to hfr.i64 (validB_iff.2 (by omega)) (by omega) (by omega)) ?_)
      rintro v ps' hp' ⟨rfl, ad2, c2, rfl, rfl⟩
      refine aL_s true rfl rfl (fun _ => q_assign rfl) ?_
      refine aL_nil ?_
      refine blk_n ?_
      refine thn_n ?_
      refine awp_share 1 rfl ?_
      refine awp_region ?_
      refine aL_s true rfl rfl (fun _ => q_addi rfl rfl (by omega)) ?_
      refine aL_s true rfl rfl (fun _ => q_move rfl) ?_
      refine aL_nil ?_
      refine thn_n ?_
      refine ⟨[1, 5, 22, 23, 24], [2, 0], [], rfl, ?_⟩
      refine ⟨k + 1, ⟨by omega, ad2, c2, ?_⟩, by omega⟩
      rw [freeList_succ hMk]; rfl
    · skip
      have eT : M.take k = M := List.take_of_length_le (by simp at h2; omega)
      rw [eT]
      rw [eT] at hfr
      have hfM := hfr
      refine awp_exit ?_
      refine thn_e ?_
      refine thn_e ?_
      refine blk_hit ?_
      refine thn_n ?_
      refine awp_seq ?_
      refine awp_region ?_
      refine aL_s true rfl rfl (fun _ => q_move rfl) ?_
      refine aL_s true rfl rfl (fun _ => q_move rfl) ?_
      refine aL_s true rfl rfl (fun _ => q_call (by kernel_rfl) rfl (fun w S fp hst => (fit_fn (freeList M) ad c _ _ _ _ hfM.to hfM.i64 (by omega) (by omega) (by omega)).quiet1 (psAt 0 rfl) hst)) ?_
      refine aL_s true rfl rfl (fun _ => q_move rfl) ?_
      refine aL_s true rfl rfl (fun _ => q_extract rfl rfl) ?_
      refine aL_s true rfl rfl (fun _ => q_extract rfl rfl) ?_
      refine aL_s true rfl rfl (fun _ => q_assign rfl) ?_
      refine aL_s true rfl rfl (fun _ => q_assign rfl) ?_
      refine aL_nil ?_
      refine thn_n ?_
      refine awp_seq ?_
      refine awp_seq ?_
      refine awp_region ?_
      refine aL_s true rfl rfl (fun _ => q_move rfl) ?_
      refine aL_s true rfl rfl (fun _ => q_not rfl) ?_
      refine aL_nil ?_
      refine thn_n ?_
      refine awp_cond _ rfl (fun h3 => ?_) (fun h3 => ?_)
      · skip
        refine awp_seq ?_
        refine awp_region ?_
        refine aL_s true rfl rfl (fun _ => q_assign rfl) ?_
        refine aL_nil ?_
        refine thn_n ?_
        refine awp_ret ?_
        refine thn_r ?_
        refine fin1 [] [] rfl Try.results16 rfl ?_ (.inr rfl)
        unfold freeM
        rw [if_neg (by omega)]
        cases hf : fitL (upI (max 1 size) 256) 256 0 1099511627776 (freeList M) with
        | mk x b =>
          rw [hf] at h3
          cases b with
          | true => simp at h3
          | false => rfl
      · skip
        refine awp_skip ?_
        refine thn_n ?_
        refine awp_seq ?_
        refine awp_region ?_
        refine aL_s true rfl rfl (fun _ => q_move rfl) ?_
        refine aL_s true rfl rfl (fun _ => q_assign rfl) ?_
        refine aL_nil ?_
        refine thn_n ?_
        refine awp_ret ?_
        refine fin1 [] [] rfl Try.results16 rfl ?_ (.inr rfl)
        unfold freeM
        rw [if_neg (by omega)]
        cases hf : fitL (upI (max 1 size) 256) 256 0 1099511627776 (freeList M) with
        | mk x b =>
          rw [hf] at h3
          cases b with
          | true => rfl
          | false => simp at h3
theorem q_spfree {p : Nat} {M : Mem} {w : World} {S : Blks} {fp : Nat → Blks} {ps : List Per} {hp : List Res} (hst : St w S fp ps hp) (i : Nat) (hi : hp[i]? = some (SpR p M)) (size : Int) (hs : I64 size) :
    Calls Try.prog 16 #[.pointer (some ⟨p, 0, none⟩), .int .i64 size] w fun e w' => e = .returned (.int .i64 (freeM M size)) ∧ Below w.heap.size w w' :=
  q_lend (fun X h1 h2 h3 => free_fn p M X size hs h1 h2 h3) hst i hi
end Go.Proofs.Ytlhbnpahplpobaa
