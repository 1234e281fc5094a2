/- Proved: for every list of deeds and every address the law SpaceApart of the given program answers true and leaves what it was handed as it was. Conditions: none but those in the given statement itself. -/
import Derived.Test.YtlhbnpahplpobaaLpByt
import Derived.Test.YtlhbnpahplpobaaSySpA
import Derived.Test.YtlhbnpahplpobaaSyBytes
import Derived.Test.YtlhbnpahplpobaaRows
import Derived.Test.YtlhbnpahplpobaaSyOut
import Derived.WalkKit
import Derived.ProofKit
import Derived.OpenShut
import Derived.ShutString
import Derived.ChangeOld
import Derived.Below
set_option linter.unusedVariables false
set_option linter.unusedSimpArgs false
namespace Go.Proofs.Ytlhbnpahplpobaa
open Go.RowKit Go.Lp Go.Sy
def inA (at_ : Int) (y : Ar) : Bool := decide (y.at_ ≤ at_) && decide (at_ - y.at_ < y.size)
theorem holds_in (at_ : Int) (y : Ar) : holds at_ 1 y = inA at_ y := by
  unfold holds inA
  rw [Bool.eq_iff_iff]
  simp only [Bool.and_eq_true, decide_eq_true_eq]
  omega
theorem area_any (M : Mem) (at_ : Int) : (areaM M at_).2 = (areasM M).any (inA at_) := by
  rw [area_found, Bool.eq_iff_iff]
  unfold mfind areasM
  rw [List.find?_isSome, List.any_eq_true]
  constructor
  · rintro ⟨x, hx, h⟩
    exact ⟨x.1, List.mem_map.2 ⟨x, hx, rfl⟩, by rw [← holds_in]; exact h⟩
  · rintro ⟨y, hy, h⟩
    obtain ⟨x, hx, rfl⟩ := List.mem_map.1 hy
    exact ⟨x, hx, by rw [holds_in]; exact h⟩
theorem area_in {M : Mem} (h : MInv M) {at_ : Int} {y : Ar} (hy : y ∈ areasM M) (hi : inA at_ y = true) : areaM M at_ = (y, true) := by
  obtain ⟨x, hx, rfl⟩ := List.mem_map.1 hy
  unfold inA at hi
  simp only [Bool.and_eq_true, decide_eq_true_eq] at hi
  unfold areaM
  rw [mfind_of h hx (by omega) (by omega) (by omega)]
theorem area_none {M : Mem} {at_ : Int} (h : (areaM M at_).2 = false) : (areaM M at_).1 = ⟨0, 0, 0, 0, 0⟩ := by
  unfold areaM at h ⊢
  cases hm : mfind M at_ 1 with
  | none => rfl
  | some x => rw [hm] at h; cases h
theorem areas_right {M : Mem} (h : MInv M) {y : Ar} (hy : y ∈ areasM M) : rightA y = true := by
  obtain ⟨x, hx, rfl⟩ := List.mem_map.1 hy
  exact h.right x hx
theorem areas_asc {M : Mem} (h : MInv M) : (areasM M).Pairwise fun x y => x.at_ + x.size ≤ y.at_ := by
  unfold areasM; rw [List.pairwise_map]; exact h.asc
theorem any_succ {L : List Ar} {k : Nat} {y : Ar} (h : L[k]? = some y) (p : Ar → Bool) : (L.take (k + 1)).any p = ((L.take k).any p || p y) := by
  rw [List.take_add_one, h, List.any_append]; simp
end Go.Proofs.Ytlhbnpahplpobaa
namespace Go.Proofs.Ytlhbnpahplpobaa
open Go.RowKit Go.Lp Go.Sy
theorem spaceApart_con (l : List Deed) (ad : Option Addr) (c : Nat) (hl : ∀ d ∈ l, DeedOk d) (at_ : Int) (hat : I64 at_) :
    Con Try.prog 6 [.slice ad l.length c, .int .i64 at_] [Sh (.slice ad l.length c) (.sl (l.map deedRow))] [] fun r _ _ => r = .bool true := by
  have HL := Lib.hid hl
  clear hl
  have Hat := Lib.hid hat
  have hat2 : -9223372036854775808 ≤ at_ ∧ at_ ≤ 9223372036854775807 := hat
  refine Con.enter Try.func6 rfl (by simp [Try.ntmps6]) ?_
  show awp _ _ _ _ ⟨[(0, true, _), (1, true, _)], _, _⟩
  refine awp_len 0 rfl (fun hlen => ?_)
  refine awp_seq ?_
  refine awp_region ?_
  refine aL_s true rfl rfl (fun _ => q_assign rfl) ?_
  refine aL_nil ?_
  refine thn_n ?_
  refine awp_seq ?_
  refine awp_region ?_
  refine aL_s true rfl rfl (fun _ => q_call (by kernel_rfl) rfl (fun w S fp hst => small_fn.quiet0 hst)) ?_
  refine aL_s true rfl rfl (fun _ => q_assign rfl) ?_
  refine aL_nil ?_
  refine thn_n ?_
  refine awp_seq ?_
  refine awp_seq ?_
  refine awp_region ?_
  refine aL_s true rfl rfl (fun _ => q_move rfl) ?_
  refine aL_s true rfl rfl (fun _ => q_call (by kernel_rfl) rfl (fun w S fp hst => (few_fn l ad c).quiet1 (psAt 0 rfl) hst)) ?_
  refine aL_s true rfl rfl (fun _ => q_not rfl) ?_
  refine aL_nil ?_
  refine thn_n ?_
  refine awp_cond _ rfl (fun h1 => ?_) (fun h1 => ?_)
  · skip
    refine awp_seq ?_
    refine awp_region ?_
    refine aL_s true rfl rfl (fun _ => q_move rfl) ?_
    refine aL_s true rfl rfl (fun _ => q_assign rfl) ?_
    refine aL_nil ?_
    refine thn_n ?_
    refine awp_ret ?_
    refine thn_r ?_
    refine fin1 [] [] rfl Try.results6 rfl ?_ (.inr rfl)
    rfl
  · skip
    have hll : l.length ≤ 4000 := few_len (by simpa using h1)
    refine awp_skip ?_
    refine thn_n ?_
    refine awp_seq ?_
    refine awp_region ?_
    refine aL_s true rfl rfl (fun _ => q_move rfl) ?_
    refine aL_eff (q := true) rfl (e_call [0] [] (by kernel_rfl) rfl rfl rfl rfl (fill_fn l ad c HL.out hll) ?_)
    rintro v ps' hp' ⟨rfl, p, rfl, rfl⟩
    refine aL_s true rfl rfl (fun _ => q_assign rfl) ?_
    refine aL_nil ?_
    refine thn_n ?_
    refine awp_seq ?_
    generalize hM : fillM l = M
    refine awp_spinv 0 rfl (fun hI => ?_)
    refine awp_region ?_
    refine aL_s true rfl rfl (fun _ => q_move rfl) ?_
    refine aL_eff (q := false) rfl (e_call [] [0] (by kernel_rfl) rfl rfl rfl rfl (areas_con p M) ?_)
    rintro v ps' hp' ⟨rfl, ad', c', rfl, rfl⟩
    refine aL_s true rfl rfl (fun _ => q_assign rfl) ?_
    refine aL_nil ?_
    refine thn_n ?_
    refine awp_seq ?_
    refine awp_share 1 rfl ?_
    refine awp_region ?_
    refine aL_s true rfl rfl (fun _ => q_move rfl) ?_
    refine aL_s true rfl rfl (fun _ => q_move rfl) ?_
    refine aL_s true rfl rfl (fun _ => q_call (by kernel_rfl) rfl (fun w S fp hst => q_sparea hst 0 rfl at_ Hat.out)) ?_
    refine aL_s true rfl rfl (fun _ => q_move rfl) ?_
    refine aL_s true rfl rfl (fun _ => q_extract rfl rfl) ?_
    refine aL_s true rfl rfl (fun _ => q_extract rfl rfl) ?_
    refine aL_eff (q := true) rfl (e_alloc (zs := [.int .i64 0, .int .i64 0, .int .i64 0, .int .i64 0, .int .i64 0]) (by kernel_rfl) rfl (fun b6_6 => ?_))
    simp only [List.cons_append, List.nil_append]
    refine aL_eff rfl (e_store 2 tk24 rfl rfl rfl rfl ?_)
    simp only [List.set_cons_succ, List.set_cons_zero]
    refine aL_s true rfl rfl (fun _ => q_assign rfl) ?_
    refine aL_nil ?_
    refine thn_n ?_
    refine awp_seq ?_
    refine awp_region ?_
    refine aL_s true rfl rfl (fun _ => q_assign rfl) ?_
    refine aL_nil ?_
    refine thn_n ?_
    refine awp_seq ?_
    refine awp_seq ?_
    refine awp_region ?_
    refine aL_s true rfl rfl (fun _ => q_assign rfl) ?_
    refine aL_nil ?_
    refine thn_n ?_
    refine awp_block ?_
    generalize hL : areasM M = L
    have hLl : L.length ≤ 4000 := by rw [← hL, areasM, List.length_map, ← hM]; exact Nat.le_trans (fillM_len l) hll
    have hLr : ∀ y ∈ L, rightA y = true := fun y hy => areas_right hI (by rw [hL]; exact hy)
    have hLa : L.Pairwise fun x y => x.at_ + x.size ≤ y.at_ := by rw [← hL]; exact areas_asc hI
    refine awp_loopK [1, 4, 5, 7, 8, 9, 10, 11] [1] [2] (fun (k : Nat) s => k ≤ L.length ∧ s = ⟨[(1, true, .int .i64 at_), (4, true, .bool false), (5, true, .bool true), (7, true, .slice ad' L.length c'), (8, true, .pointer (some ⟨b6_6, 0, none⟩)), (9, true, .bool (areaM M at_).2), (10, true, .bool ((L.take k).any (inA at_))), (11, true, .int .i64 k)], [Sh (.slice ad' L.length c') (.sl (L.map arRow))], [Box b6_6 24 (areaM M at_).1.vals]⟩) (fun k => L.length - k) rfl (⟨0, Nat.zero_le _, rfl⟩) ?_
    rintro k s ⟨hk, rfl⟩
    refine awp_seq ?_
    refine awp_seq ?_
    refine awp_region ?_
    refine aL_s true rfl rfl (fun _ => q_move rfl) ?_
    refine aL_s true rfl rfl (fun _ => q_move rfl) ?_
    refine aL_s true rfl rfl (fun _ => q_lenS Try.underlying47 rfl) ?_
    refine aL_s true rfl rfl (fun _ => q_lss rfl rfl) ?_
    refine aL_nil ?_
    refine thn_n ?_
    refine awp_cond _ rfl (fun h2 => ?_) (fun h2 => ?_)
    · skip
      have hk' : k < L.length := by simpa using h2
      obtain ⟨y, hy⟩ : ∃ y, L[k]? = some y := ⟨L[k]'hk', by simp⟩
      obtain ⟨x, hx⟩ : ∃ x, L[k - 1]? = some x := ⟨L[k - 1]'(by omega), by simp⟩
      have ry := rightA_iff.1 (hLr y (List.mem_of_getElem? hy))
      have rx := rightA_iff.1 (hLr x (List.mem_of_getElem? hx))
      refine awp_skip ?_
      refine thn_n ?_
      refine awp_seq ?_
      refine awp_block ?_
      refine awp_seq ?_
      refine awp_seq ?_
      refine awp_drawn [] (by kernel_rfl) ?_
      show aB _ _ _ _ _ 31 #[false, false, false, false, false, false, false, false, false, false, false, false, false, false, false, false, false, false, false, false, false, false, false, false, false, false, false, false, false, false, false] _
      refine aB_s 0 rfl (by kernel_rfl) true rfl rfl (fun _ => q_move rfl) ?_
      simp only [List.setIfInBounds_toArray, List.set_cons_succ, List.set_cons_zero]
      refine aB_s 1 rfl (by kernel_rfl) true rfl rfl (fun _ => q_move rfl) ?_
      simp only [List.setIfInBounds_toArray, List.set_cons_succ, List.set_cons_zero]
      refine aB_E 2 rfl (by kernel_rfl) true rfl rfl (fun _ => q_indexAddr Try.underlying47 tk24 rfl (psAt 0 rfl) rfl (row := arRow y) (by simp [hy]) rfl rfl) (fun h => absurd h (by decide)) (fun ⟨b11_2, o11_2⟩ => ?_)
      simp only [List.setIfInBounds_toArray, List.set_cons_succ, List.set_cons_zero]
      refine aB_s 3 rfl (by kernel_rfl) true rfl rfl (fun _ => q_loadD (o := 0) (v := .agg #[.int .i64 y.at_, .int .i64 y.size, .int .i64 y.kind, .int .i64 y.owner, .int .i64 y.mod]) tk24 rfl (psAt 0 rfl) rfl rfl) ?_
      simp only [List.setIfInBounds_toArray, List.set_cons_succ, List.set_cons_zero]
      refine aB_s 4 rfl (by kernel_rfl) true rfl rfl (fun _ => q_call (by kernel_rfl) rfl (fun w S fp hst => (ref28Right_fn y (by unfold I64; omega)).quiet0 hst)) ?_
      simp only [List.setIfInBounds_toArray, List.set_cons_succ, List.set_cons_zero]
      refine aB_s 5 rfl (by kernel_rfl) true rfl rfl (fun _ => q_not rfl) ?_
      simp only [List.setIfInBounds_toArray, List.set_cons_succ, List.set_cons_zero]
      refine aB_s 6 rfl (by kernel_rfl) true rfl rfl (fun _ => q_move rfl) ?_
      simp only [List.setIfInBounds_toArray, List.set_cons_succ, List.set_cons_zero]
      refine aB_s 7 rfl (by kernel_rfl) _ rfl rfl (fun hc => q_move rfl) ?_
      simp only [List.setIfInBounds_toArray, List.set_cons_succ, List.set_cons_zero]
      refine aB_s 8 rfl (by kernel_rfl) _ rfl rfl (fun hc => q_gtr (ev_yes rfl hc) rfl) ?_
      simp only [List.setIfInBounds_toArray, List.set_cons_succ, List.set_cons_zero]
      refine aB_s 9 rfl (by kernel_rfl) _ rfl rfl (fun hc => q_move (ev_yes rfl hc)) ?_
      simp only [List.setIfInBounds_toArray, List.set_cons_succ, List.set_cons_zero]
      refine aB_s 10 rfl (by kernel_rfl) _ rfl rfl (fun hc => q_move rfl) ?_
      simp only [List.setIfInBounds_toArray, List.set_cons_succ, List.set_cons_zero]
      refine aB_s 11 rfl (by kernel_rfl) _ rfl rfl (fun hc => q_move rfl) ?_
      simp only [List.setIfInBounds_toArray, List.set_cons_succ, List.set_cons_zero]
      refine aB_s 12 rfl (by kernel_rfl) _ rfl rfl (fun hc => q_subi (ev_yes rfl hc) rfl (by (first | omega | (simp at hc; omega)))) ?_
      simp only [List.setIfInBounds_toArray, List.set_cons_succ, List.set_cons_zero]
      refine aB_E 13 rfl (by kernel_rfl) _ rfl rfl (fun hc => q_indexAddr Try.underlying47 tk24 (ev_yes rfl hc) (psAt 1 rfl) (ev_yes rfl hc) (i := k - 1) (row := arRow x) (by simp [hx]) (by simp at hc; omega) rfl) (fun _ => ⟨(0, 0)⟩) (fun ⟨b11_13, o11_13⟩ => ?_)
      simp only [List.setIfInBounds_toArray, List.set_cons_succ, List.set_cons_zero]
      refine aB_s 14 rfl (by kernel_rfl) _ rfl rfl (fun hc => q_fieldAddr (off := 0) (by kernel_rfl) (ev_yes rfl hc)) ?_
      simp only [List.setIfInBounds_toArray, List.set_cons_succ, List.set_cons_zero]
      refine aB_s 15 rfl (by kernel_rfl) _ rfl rfl (fun hc => q_loadD (o := 0) tk3 (ev_yes rfl hc) (psAt 0 rfl) hc rfl) ?_
      simp only [List.setIfInBounds_toArray, List.set_cons_succ, List.set_cons_zero]
      refine aB_s 16 rfl (by kernel_rfl) _ rfl rfl (fun hc => q_move rfl) ?_
      simp only [List.setIfInBounds_toArray, List.set_cons_succ, List.set_cons_zero]
      refine aB_s 17 rfl (by kernel_rfl) _ rfl rfl (fun hc => q_move rfl) ?_
      simp only [List.setIfInBounds_toArray, List.set_cons_succ, List.set_cons_zero]
      refine aB_s 18 rfl (by kernel_rfl) _ rfl rfl (fun hc => q_subi (ev_yes rfl hc) rfl (by (first | omega | (simp at hc; omega)))) ?_
      simp only [List.setIfInBounds_toArray, List.set_cons_succ, List.set_cons_zero]
      refine aB_E 19 rfl (by kernel_rfl) _ rfl rfl (fun hc => q_indexAddr Try.underlying47 tk24 (ev_yes rfl hc) (psAt 2 rfl) (ev_yes rfl hc) (i := k - 1) (row := arRow x) (by simp [hx]) (by simp at hc; omega) rfl) (fun _ => ⟨(0, 0)⟩) (fun ⟨b11_19, o11_19⟩ => ?_)
      simp only [List.setIfInBounds_toArray, List.set_cons_succ, List.set_cons_zero]
      refine aB_s 20 rfl (by kernel_rfl) _ rfl rfl (fun hc => q_fieldAddr (off := 1) (by kernel_rfl) (ev_yes rfl hc)) ?_
      simp only [List.setIfInBounds_toArray, List.set_cons_succ, List.set_cons_zero]
      refine aB_s 21 rfl (by kernel_rfl) _ rfl rfl (fun hc => q_loadD (o := 1) tk3 (ev_yes rfl hc) (psAt 0 rfl) hc rfl) ?_
      simp only [List.setIfInBounds_toArray, List.set_cons_succ, List.set_cons_zero]
      refine aB_s 22 rfl (by kernel_rfl) _ rfl rfl (fun hc => q_addi (ev_yes rfl hc) (ev_yes rfl hc) (by (first | omega | (simp at hc; omega)))) ?_
      simp only [List.setIfInBounds_toArray, List.set_cons_succ, List.set_cons_zero]
      refine aB_s 23 rfl (by kernel_rfl) _ rfl rfl (fun hc => q_move rfl) ?_
      simp only [List.setIfInBounds_toArray, List.set_cons_succ, List.set_cons_zero]
      refine aB_s 24 rfl (by kernel_rfl) _ rfl rfl (fun hc => q_move rfl) ?_
      simp only [List.setIfInBounds_toArray, List.set_cons_succ, List.set_cons_zero]
      refine aB_E 25 rfl (by kernel_rfl) _ rfl rfl (fun hc => q_indexAddr Try.underlying47 tk24 (ev_yes rfl hc) (psAt 3 rfl) (ev_yes rfl hc) (row := arRow y) (by simp [hy]) rfl rfl) (fun _ => ⟨(0, 0)⟩) (fun ⟨b11_25, o11_25⟩ => ?_)
      simp only [List.setIfInBounds_toArray, List.set_cons_succ, List.set_cons_zero]
      refine aB_s 26 rfl (by kernel_rfl) _ rfl rfl (fun hc => q_fieldAddr (off := 0) (by kernel_rfl) (ev_yes rfl hc)) ?_
      simp only [List.setIfInBounds_toArray, List.set_cons_succ, List.set_cons_zero]
      refine aB_s 27 rfl (by kernel_rfl) _ rfl rfl (fun hc => q_loadD (o := 0) tk3 (ev_yes rfl hc) (psAt 0 rfl) hc rfl) ?_
      simp only [List.setIfInBounds_toArray, List.set_cons_succ, List.set_cons_zero]
      refine aB_s 28 rfl (by kernel_rfl) _ rfl rfl (fun hc => q_gtr (ev_yes rfl hc) (ev_yes rfl hc)) ?_
      simp only [List.setIfInBounds_toArray, List.set_cons_succ, List.set_cons_zero]
      refine aB_s 29 rfl (by kernel_rfl) _ rfl rfl (fun hc => q_and (ev_yes rfl hc) rfl (fun h => gt hc h)) ?_
      simp only [List.setIfInBounds_toArray, List.set_cons_succ, List.set_cons_zero]
      refine aB_s 30 rfl (by kernel_rfl) true rfl rfl (fun _ => q_or rfl rfl (fun h => gf rfl h)) ?_
      simp only [List.setIfInBounds_toArray, List.set_cons_succ, List.set_cons_zero]
      refine aB_nil (by kernel_rfl) ?_
      refine thn_n ?_
      refine awp_cond _ rfl (fun h3 => ?_) (fun h3 => ?_)
      · skip
        refine awp_seq ?_
        refine awp_region ?_
        refine aL_s true rfl rfl (fun _ => q_assign rfl) ?_
        refine aL_nil ?_
        refine thn_n ?_
        refine awp_ret ?_
        refine thn_r ?_
        refine blk_r ?_
        refine thn_r ?_
        refine thn_r ?_
        refine blk_r ?_
        refine thn_r ?_
        refine fin1 [] [] rfl Try.results6 rfl ?_ (.inr rfl)
        have hry := hLr y (List.mem_of_getElem? hy)
        rw [hry] at h3
        simp only [Bool.not_true, Bool.false_or, Bool.and_eq_true, decide_eq_true_eq] at h3
        have hlt := List.pairwise_iff_getElem.1 hLa (k - 1) k (by omega) hk' (by omega)
        rw [List.getElem?_eq_getElem (by omega)] at hx
        rw [List.getElem?_eq_getElem hk'] at hy
        injection hx with hx
        injection hy with hy
        rw [hx, hy] at hlt
        omega
      · skip
        refine awp_skip ?_
        refine thn_n ?_
        refine awp_seq ?_
        refine awp_drawn [] (by kernel_rfl) ?_
        show aB _ _ _ _ _ 22 #[false, false, false, false, false, false, false, false, false, false, false, false, false, false, false, false, false, false, false, false, false, false] _
        refine aB_s 0 rfl (by kernel_rfl) true rfl rfl (fun _ => q_move rfl) ?_
        simp only [List.setIfInBounds_toArray, List.set_cons_succ, List.set_cons_zero]
        refine aB_s 1 rfl (by kernel_rfl) true rfl rfl (fun _ => q_move rfl) ?_
        simp only [List.setIfInBounds_toArray, List.set_cons_succ, List.set_cons_zero]
        refine aB_s 2 rfl (by kernel_rfl) true rfl rfl (fun _ => q_move rfl) ?_
        simp only [List.setIfInBounds_toArray, List.set_cons_succ, List.set_cons_zero]
        refine aB_E 3 rfl (by kernel_rfl) true rfl rfl (fun _ => q_indexAddr Try.underlying47 tk24 rfl (psAt 4 rfl) rfl (row := arRow y) (by simp [hy]) rfl rfl) (fun h => absurd h (by decide)) (fun ⟨b13_3, o13_3⟩ => ?_)
        simp only [List.setIfInBounds_toArray, List.set_cons_succ, List.set_cons_zero]
        refine aB_s 4 rfl (by kernel_rfl) true rfl rfl (fun _ => q_fieldAddr (off := 0) (by kernel_rfl) rfl) ?_
        simp only [List.setIfInBounds_toArray, List.set_cons_succ, List.set_cons_zero]
        refine aB_s 5 rfl (by kernel_rfl) true rfl rfl (fun _ => q_loadD (o := 0) tk3 rfl (psAt 0 rfl) rfl rfl) ?_
        simp only [List.setIfInBounds_toArray, List.set_cons_succ, List.set_cons_zero]
        refine aB_s 6 rfl (by kernel_rfl) true rfl rfl (fun _ => q_geq rfl rfl) ?_
        simp only [List.setIfInBounds_toArray, List.set_cons_succ, List.set_cons_zero]
        refine aB_s 7 rfl (by kernel_rfl) true rfl rfl (fun _ => q_move rfl) ?_
        simp only [List.setIfInBounds_toArray, List.set_cons_succ, List.set_cons_zero]
        refine aB_s 8 rfl (by kernel_rfl) _ rfl rfl (fun hc => q_move rfl) ?_
        simp only [List.setIfInBounds_toArray, List.set_cons_succ, List.set_cons_zero]
        refine aB_s 9 rfl (by kernel_rfl) _ rfl rfl (fun hc => q_move rfl) ?_
        simp only [List.setIfInBounds_toArray, List.set_cons_succ, List.set_cons_zero]
        refine aB_s 10 rfl (by kernel_rfl) _ rfl rfl (fun hc => q_move rfl) ?_
        simp only [List.setIfInBounds_toArray, List.set_cons_succ, List.set_cons_zero]
        refine aB_E 11 rfl (by kernel_rfl) _ rfl rfl (fun hc => q_indexAddr Try.underlying47 tk24 (ev_yes rfl hc) (psAt 5 rfl) (ev_yes rfl hc) (row := arRow y) (by simp [hy]) rfl rfl) (fun _ => ⟨(0, 0)⟩) (fun ⟨b13_11, o13_11⟩ => ?_)
        simp only [List.setIfInBounds_toArray, List.set_cons_succ, List.set_cons_zero]
        refine aB_s 12 rfl (by kernel_rfl) _ rfl rfl (fun hc => q_fieldAddr (off := 0) (by kernel_rfl) (ev_yes rfl hc)) ?_
        simp only [List.setIfInBounds_toArray, List.set_cons_succ, List.set_cons_zero]
        refine aB_s 13 rfl (by kernel_rfl) _ rfl rfl (fun hc => q_loadD (o := 0) tk3 (ev_yes rfl hc) (psAt 0 rfl) hc rfl) ?_
        simp only [List.setIfInBounds_toArray, List.set_cons_succ, List.set_cons_zero]
        refine aB_s 14 rfl (by kernel_rfl) _ rfl rfl (fun hc => q_subi (ev_yes rfl hc) (ev_yes rfl hc) (by (first | omega | (simp at hc; omega)))) ?_
        simp only [List.setIfInBounds_toArray, List.set_cons_succ, List.set_cons_zero]
        refine aB_s 15 rfl (by kernel_rfl) _ rfl rfl (fun hc => q_move rfl) ?_
        simp only [List.setIfInBounds_toArray, List.set_cons_succ, List.set_cons_zero]
        refine aB_s 16 rfl (by kernel_rfl) _ rfl rfl (fun hc => q_move rfl) ?_
        simp only [List.setIfInBounds_toArray, List.set_cons_succ, List.set_cons_zero]
        refine aB_E 17 rfl (by kernel_rfl) _ rfl rfl (fun hc => q_indexAddr Try.underlying47 tk24 (ev_yes rfl hc) (psAt 6 rfl) (ev_yes rfl hc) (row := arRow y) (by simp [hy]) rfl rfl) (fun _ => ⟨(0, 0)⟩) (fun ⟨b13_17, o13_17⟩ => ?_)
        simp only [List.setIfInBounds_toArray, List.set_cons_succ, List.set_cons_zero]
        refine aB_s 18 rfl (by kernel_rfl) _ rfl rfl (fun hc => q_fieldAddr (off := 1) (by kernel_rfl) (ev_yes rfl hc)) ?_
        simp only [List.setIfInBounds_toArray, List.set_cons_succ, List.set_cons_zero]
        refine aB_s 19 rfl (by kernel_rfl) _ rfl rfl (fun hc => q_loadD (o := 1) tk3 (ev_yes rfl hc) (psAt 0 rfl) hc rfl) ?_
        simp only [List.setIfInBounds_toArray, List.set_cons_succ, List.set_cons_zero]
        refine aB_s 20 rfl (by kernel_rfl) _ rfl rfl (fun hc => q_lss (ev_yes rfl hc) (ev_yes rfl hc)) ?_
        simp only [List.setIfInBounds_toArray, List.set_cons_succ, List.set_cons_zero]
        refine aB_s 21 rfl (by kernel_rfl) true rfl rfl (fun _ => q_and rfl rfl (fun h => gt rfl h)) ?_
        simp only [List.setIfInBounds_toArray, List.set_cons_succ, List.set_cons_zero]
        refine aB_nil (by kernel_rfl) ?_
        refine thn_n ?_
        refine awp_cond _ rfl (fun h4 => ?_) (fun h4 => ?_)
        · skip
          refine awp_seq ?_
          refine awp_region ?_
          refine aL_s true rfl rfl (fun _ => q_assign rfl) ?_
          refine aL_nil ?_
          refine thn_n ?_
          refine awp_seq ?_
          refine awp_drawn [] (by kernel_rfl) ?_
          show aB _ _ _ _ _ 6 #[false, false, false, false, false, false] _
          refine aB_s 0 rfl (by kernel_rfl) true rfl rfl (fun _ => q_load 0 tk24 rfl rfl rfl) ?_
          simp only [List.setIfInBounds_toArray, List.set_cons_succ, List.set_cons_zero]
          refine aB_s 1 rfl (by kernel_rfl) true rfl rfl (fun _ => q_move rfl) ?_
          simp only [List.setIfInBounds_toArray, List.set_cons_succ, List.set_cons_zero]
          refine aB_s 2 rfl (by kernel_rfl) true rfl rfl (fun _ => q_move rfl) ?_
          simp only [List.setIfInBounds_toArray, List.set_cons_succ, List.set_cons_zero]
          refine aB_E 3 rfl (by kernel_rfl) true rfl rfl (fun _ => q_indexAddr Try.underlying47 tk24 rfl (psAt 7 rfl) rfl (row := arRow y) (by simp [hy]) rfl rfl) (fun h => absurd h (by decide)) (fun ⟨b15_3, o15_3⟩ => ?_)
          simp only [List.setIfInBounds_toArray, List.set_cons_succ, List.set_cons_zero]
          refine aB_s 4 rfl (by kernel_rfl) true rfl rfl (fun _ => q_loadD (o := 0) (v := .agg #[.int .i64 y.at_, .int .i64 y.size, .int .i64 y.kind, .int .i64 y.owner, .int .i64 y.mod]) tk24 rfl (psAt 0 rfl) rfl rfl) ?_
          simp only [List.setIfInBounds_toArray, List.set_cons_succ, List.set_cons_zero]
          refine aB_s 5 rfl (by kernel_rfl) true rfl rfl (fun _ => qa_neq (by kernel_rfl) (by kernel_rfl) (by kernel_rfl) (fun w => ar_fields (a := (areaM M at_).1) (b := y) w) rfl rfl) ?_
          simp only [List.setIfInBounds_toArray, List.set_cons_succ, List.set_cons_zero]
          refine aB_nil (by kernel_rfl) ?_
          refine thn_n ?_
          refine awp_cond _ rfl (fun h5 => ?_) (fun h5 => ?_)
          · skip
            refine awp_seq ?_
            refine awp_region ?_
            refine aL_s true rfl rfl (fun _ => q_assign rfl) ?_
            refine aL_nil ?_
            refine thn_n ?_
            refine awp_ret ?_
            refine blk_r ?_
            refine thn_r ?_
            refine thn_r ?_
            refine blk_r ?_
            refine thn_r ?_
            refine fin1 [] [] rfl Try.results6 rfl ?_ (.inr rfl)
            have hin : areaM M at_ = (y, true) := area_in hI (by rw [hL]; exact List.mem_of_getElem? hy) h4
            rw [hin] at h5
            simp at h5
          · skip
            refine awp_skip ?_
            refine blk_n ?_
            refine thn_n ?_
            refine awp_region ?_
            refine aL_s true rfl rfl (fun _ => q_move rfl) ?_
            refine aL_s true rfl rfl (fun _ => q_addi rfl rfl (by omega)) ?_
            refine aL_s true rfl rfl (fun _ => q_assign rfl) ?_
            refine aL_nil ?_
            refine thn_n ?_
            refine ⟨[1, 4, 5, 7, 8, 9, 10, 11], [0], [0], rfl, ?_⟩
            refine ⟨k + 1, ⟨by omega, ?_⟩, by omega⟩
            rw [any_succ hy, show inA at_ y = true from h4, Bool.or_true]; rfl
        · skip
          refine awp_skip ?_
          refine blk_n ?_
          refine thn_n ?_
          refine awp_region ?_
          refine aL_s true rfl rfl (fun _ => q_move rfl) ?_
          refine aL_s true rfl rfl (fun _ => q_addi rfl rfl (by omega)) ?_
          refine aL_s true rfl rfl (fun _ => q_assign rfl) ?_
          refine aL_nil ?_
          refine thn_n ?_
          refine ⟨[1, 4, 5, 7, 8, 9, 10, 11], [0], [0], rfl, ?_⟩
          refine ⟨k + 1, ⟨by omega, ?_⟩, by omega⟩
          rw [any_succ hy, show inA at_ y = false from h4, Bool.or_false]; rfl
    · skip
      refine awp_exit ?_
      refine thn_e ?_
      refine thn_e ?_
      refine blk_hit ?_
      refine thn_n ?_
      refine awp_seq ?_
      refine awp_region ?_
      refine aL_s true rfl rfl (fun _ => q_move rfl) ?_
      refine aL_s true rfl rfl (fun _ => q_move rfl) ?_
      refine aL_s _ rfl rfl (fun hc => q_move rfl) ?_
      refine aL_s _ rfl rfl (fun hc => q_move rfl) ?_
      refine aL_s _ rfl rfl (fun hc => qb_eql (by kernel_rfl) (ev_yes rfl hc) (ev_yes rfl hc)) ?_
      refine aL_s true rfl rfl (fun _ => q_and rfl rfl (fun h => gt rfl h)) ?_
      refine aL_s true rfl rfl (fun _ => q_move rfl) ?_
      refine aL_s _ rfl rfl (fun hc => q_move rfl) ?_
      refine aL_s _ rfl rfl (fun hc => q_move (ev_yes rfl hc)) ?_
      refine aL_s _ rfl rfl (fun hc => q_load 0 tk24 rfl rfl rfl) ?_
      refine aL_s _ rfl rfl (fun hc => q_bld (l := []) (zs := [.int .i64 0, .int .i64 0, .int .i64 0, .int .i64 0, .int .i64 0]) (pl := [(0, 1), (1, 1), (2, 1), (3, 1), (4, 1)]) (by kernel_rfl) (by kernel_rfl) (by kernel_rfl) rfl rfl rfl) ?_
      refine aL_s _ rfl rfl (fun hc => qa_eql (by kernel_rfl) (by kernel_rfl) (by kernel_rfl) (fun w => ar_fields (a := (areaM M at_).1) (b := ⟨0, 0, 0, 0, 0⟩) w) (ev_yes rfl hc) (ev_yes rfl hc)) ?_
      refine aL_s _ rfl rfl (fun hc => q_or (ev_yes rfl hc) rfl (fun h => gf hc h)) ?_
      refine aL_s true rfl rfl (fun _ => q_and rfl rfl (fun h => gt rfl h)) ?_
      refine aL_s true rfl rfl (fun _ => q_assign rfl) ?_
      refine aL_nil ?_
      refine thn_n ?_
      refine awp_ret ?_
      refine fin1 [] [] rfl Try.results6 rfl ?_ (.inr rfl)
      have e : L.take k = L := List.take_of_length_le (by simp at h2; omega)
      rw [e]
      refine congrArg Value.bool ?_
      have ha := area_any M at_
      rw [hL] at ha
      rw [← ha]
      cases hb : (areaM M at_).2
      · rw [area_none hb]; rfl
      · rfl
end Go.Proofs.Ytlhbnpahplpobaa
namespace Go.Proofs.Ytlhbnpahplpobaa.spaceApart
open Go.ChangeShapes Go.WideShapes Go.ChangeAt Go.RowKit
open Go.Lp Go.Sy
open Go.ChangeMaps (open_string shut_string)
theorem own : ownKnob Try.prog.godebug = none := by kernel_rfl
theorem laidOut : laidOutB Try.prog = true := by kernel_rfl
set_option maxRecDepth 100000 in
theorem lifted (os : Os) (started : os.Started) (H : Type) (enc : TypeId × Value → H) :
    ReturnsInHanded {} Try.checked os 6 .any (Rows.spaceApartSpec.pre6 enc Try.prog Try.f6 Rows.spaceApartRow.domain false) (Rows.spaceApartSpec.post enc Try.prog Try.f6 false true false false) := by
  refine returnsInHanded_of_change (C := Try.checked) own started (by kernel_rfl) Try.func6
    (ChangeSpec.witness6 (enc := enc) (C := Try.checked) false ⟨#[], #[.slice none 0 0, .int .i64 0], []⟩ 8 (by kernel_rfl) (by kernel_rfl) (by kernel_rfl) (by kernel_rfl)) ?_
  intro W base args ds gs before hval0 hW hcnd _
  have hval : ∀ (j : Nat) t v, Try.f6.params[j]? = some t → args[j]? = some v → Value.okWide Try.prog W .any base t v := hval0
  have hW' := hW
  obtain ⟨p, q, hA0, hV, rfl, hfz, hnd⟩ := hW
  have hA : DataW.TrodAll enc Try.prog W 0 (fun _ => true) true Try.f6.params.toList args.toList ds p := hA0
  rw [Try.params6] at hA hval
  obtain ⟨v0, vs0, d0, ds0, p0, q0, hargs, rfl, rfl, h0, r0⟩ := trodAll_cons hA
  obtain ⟨v1, vs1, d1, ds1, p1, q1, rfl, rfl, rfl, h1, r1⟩ := trodAll_cons r0
  obtain ⟨rfl, rfl, rfl⟩ := trodAll_nil r1
  obtain rfl : args = #[v0, v1] := by cases args; simp_all
  obtain ⟨rfl, rfl⟩ := trodVars_none hV
  obtain ⟨a0, len0, cap0, rfl⟩ := okWide_slice Try.underlying22 (hval 0 22 v0 rfl rfl)
  have k0 := h0
  have lt0 : ∀ x ∈ p0, x.block < W.heap.size := by obtain ⟨m, hm⟩ := k0; exact DataW.trod_lt m _ _ _ hm
  obtain ⟨l, rfl, hl, hrep⟩ : ∃ l : List Deed, len0 = l.length ∧ (∀ d ∈ l, DeedOk d) ∧ RepD W (fun b => b < W.heap.size) (.slice a0 l.length cap0) (.sl (l.map deedRow)) := by
    obtain ⟨fuel, hf⟩ := h0
    exact slice_in (k := 3) Try.underlying22 (by kernel_rfl) (fun r => deed_of) (by simpa [Value.cells] using hf)
  obtain ⟨a1, rfl, rfl, rfl, w1⟩ := open_int Try.underlying3 (hval 1 3 v1 rfl rfl) h1
  clear hA0 hval0
  have hc := (spaceApart_con l a0 cap0 hl a1 (wf64 w1)).quiet1 (List.mem_singleton.2 rfl) (st_in (w := W) (ps := [Sh (.slice a0 l.length cap0) (.sl (l.map deedRow))]) fun p hp => by rw [List.mem_singleton.1 hp]; exact hrep)
  refine hc.mono fun e W' ⟨he, bel⟩ => ?_
  subst he
  exact ⟨_, rfl, _, _, _, [], _, [], hW', trodAll_mk1 (shut_bool Try.underlying4 _), (trodAll_cons_mk (Below.trod laidOut (by kernel_rfl) (of_decide_eq_true (by kernel_rfl)) k0 bel lt0) (trodAll_cons_mk (shut_int Try.underlying3 w1) trodAll_mk0)), rfl, bel.frame _, fun h => by cases h⟩
theorem over : Rows.spaceApartRow.holds Try.pinned (OpenSpec.ofChange Rows.spaceApartSpec) :=
  OpenClaim.holds_of_wide 6 Try.f6 rfl rfl rfl rfl rfl rfl rfl ⟨rfl, rfl, rfl, rfl, rfl⟩ rfl rfl rfl rfl rfl (by kernel_rfl) Try.func6 (by kernel_rfl)
    (of_decide_eq_true (by kernel_rfl)) (by unfold Func.isWrapper; first | (rw [if_pos (by decide +kernel)]; kernel_rfl) | (rw [if_neg (by decide +kernel)]; exact ⟨rfl, rfl⟩))
    (fun os started H enc _ => lifted os started H enc)
theorem proved : Rows.SpaceApartSaid := over
end Go.Proofs.Ytlhbnpahplpobaa.spaceApart
