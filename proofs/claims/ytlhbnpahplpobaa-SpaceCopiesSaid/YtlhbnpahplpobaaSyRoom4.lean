/- The contract of room.Fit. -/
import Derived.Test.YtlhbnpahplpobaaSyRoom3
set_option linter.unusedVariables false
set_option linter.unusedSimpArgs false
namespace Go.Proofs.Ytlhbnpahplpobaa
open Go.RowKit Go.Lp Go.Sy
/-- the first span with room -/
def fitL (size al from_ until_ : Int) : List Span → Int × Bool
  | [] => (0, false)
  | p :: l => if upI (max p.1 from_) al + size ≤ min (p.1 + p.2) until_ then (upI (max p.1 from_) al, true) else fitL size al from_ until_ l
theorem fit_fn (l : List Span) (ad : Option Addr) (c : Nat) (size al from_ until_ : Int) (hr : rightB l = true) (hl : ∀ p ∈ l, I64 p.1 ∧ I64 p.2) (h1 : 1 ≤ size ∧ size ≤ 1099511627776) (h2 : 1 ≤ al ∧ al ≤ 1099511627776) (h3 : 0 ≤ from_ ∧ from_ ≤ 1099511627776) :
    Con Try.prog 32 [.slice ad l.length c, .int .i64 size, .int .i64 al, .int .i64 from_, .int .i64 until_] [Sh (.slice ad l.length c) (.sl (l.map spanRow))] []
      fun r _ _ => r = .tuple #[.int .i64 (fitL size al from_ until_ l).1, .bool (fitL size al from_ until_ l).2] := by
  have HL := Lib.hid hl
  have HR := Lib.hid (rightB_iff.1 hr)
  have HRR := Lib.hid hr
  clear hl hr
  refine Con.enter Try.func32 rfl (by simp [Try.ntmps32]) ?_
  show awp _ _ _ _ ⟨[(0, true, _), (1, true, _), (2, true, _), (3, true, _), (4, true, _)], _, _⟩
  refine awp_len 0 rfl (fun hlen => ?_)
  rw [List.length_map] at hlen
  refine awp_seq ?_
  refine awp_region ?_
  refine aL_s true rfl rfl (fun _ => q_assign rfl) ?_
  refine aL_s true rfl rfl (fun _ => q_assign rfl) ?_
  refine aL_nil ?_
  refine thn_n ?_
  refine awp_seq ?_
  refine awp_seq ?_
  refine awp_region ?_
  refine aL_s true rfl rfl (fun _ => q_move rfl) ?_
  refine aL_s true rfl rfl (fun _ => q_call (by kernel_rfl) rfl (fun w S fp hst => (right_fn l ad c HL.out).quiet1 (psAt 0 rfl) hst)) ?_
  refine aL_s true rfl rfl (fun _ => q_not rfl) ?_
  refine aL_s true rfl rfl (fun _ => q_move rfl) ?_
  refine aL_s _ rfl rfl (fun hc => q_move rfl) ?_
  refine aL_s _ rfl rfl (fun hc => q_lss (ev_yes rfl hc) rfl) ?_
  refine aL_s true rfl rfl (fun _ => q_or rfl rfl (fun h => gf rfl h)) ?_
  refine aL_s true rfl rfl (fun _ => q_move rfl) ?_
  refine aL_s _ rfl rfl (fun hc => q_move rfl) ?_
  refine aL_s _ rfl rfl (fun hc => q_gtr (ev_yes rfl hc) rfl) ?_
  refine aL_s true rfl rfl (fun _ => q_or rfl rfl (fun h => gf rfl h)) ?_
  refine aL_s true rfl rfl (fun _ => q_move rfl) ?_
  refine aL_s _ rfl rfl (fun hc => q_move rfl) ?_
  refine aL_s _ rfl rfl (fun hc => q_lss (ev_yes rfl hc) rfl) ?_
  refine aL_s true rfl rfl (fun _ => q_or rfl rfl (fun h => gf rfl h)) ?_
  refine aL_s true rfl rfl (fun _ => q_move rfl) ?_
  refine aL_s _ rfl rfl (fun hc => q_move rfl) ?_
  refine aL_s _ rfl rfl (fun hc => q_gtr (ev_yes rfl hc) rfl) ?_
  refine aL_s true rfl rfl (fun _ => q_or rfl rfl (fun h => gf rfl h)) ?_
  refine aL_s true rfl rfl (fun _ => q_move rfl) ?_
  refine aL_s _ rfl rfl (fun hc => q_move rfl) ?_
  refine aL_s _ rfl rfl (fun hc => q_gtr (ev_yes rfl hc) rfl) ?_
  refine aL_s true rfl rfl (fun _ => q_or rfl rfl (fun h => gf rfl h)) ?_
  refine aL_nil ?_
  refine thn_n ?_
  refine awp_cond _ rfl (fun g1 => ?_) (fun g1 => ?_)
  · skip
    exfalso
    rw [HRR.out] at g1
    simp at g1; omega
  · skip
    refine awp_skip ?_
    refine thn_n ?_
    refine awp_seq ?_
    refine awp_seq ?_
    refine awp_region ?_
    refine aL_s true rfl rfl (fun _ => q_move rfl) ?_
    refine aL_s true rfl rfl (fun _ => q_lenS Try.underlying67 rfl) ?_
    refine aL_s true rfl rfl (fun _ => q_move rfl) ?_
    refine aL_nil ?_
    refine thn_n ?_
    refine awp_block ?_
    refine awp_loopK [1, 2, 3, 4, 38, 39, 40] [0] [] (fun (k : Nat) s => (k ≤ l.length ∧ fitL size al from_ until_ l = fitL size al from_ until_ (l.drop k)) ∧ s = ⟨[(1, true, .int .i64 size), (2, true, .int .i64 al), (3, true, .int .i64 from_), (4, true, .int .i64 until_), (38, true, .slice ad l.length c), (39, true, .int .i64 l.length), (40, true, .int .i64 k)], [Sh (.slice ad l.length c) (.sl (l.map spanRow))], []⟩) (fun k => l.length - k) rfl (⟨0, ⟨Nat.zero_le _, rfl⟩, rfl⟩) ?_
    rintro k s ⟨⟨hk, hfit⟩, rfl⟩
    refine awp_seq ?_
    refine awp_region ?_
    refine aL_s true rfl rfl (fun _ => q_lss rfl rfl) ?_
    refine aL_nil ?_
    refine thn_n ?_
    refine awp_seq ?_
    refine awp_cond _ rfl (fun g2 => ?_) (fun g2 => ?_)
    · skip
      have hk' : k < l.length := by simpa using g2
      obtain ⟨p, hp⟩ : ∃ p, l[k]? = some p := ⟨l[k]'hk', by simp⟩
      have hpv := validB_iff.1 (okAt_valid (HR.out k p hp))
      obtain ⟨q1, q2, q3, q4⟩ := hpv
      have hup : max p.1 from_ - al < upI (max p.1 from_) al ∧ upI (max p.1 from_) al ≤ max p.1 from_ + al := by
        have hd := @downI_le (max p.1 from_) al
        unfold upI
        split <;> omega
      have hdr : l.drop k = p :: l.drop (k + 1) := by
        rw [List.drop_eq_getElem_cons hk']; congr 1
        rw [List.getElem?_eq_getElem hk'] at hp; injection hp
      refine awp_skip ?_
      refine thn_n ?_
      refine awp_seq ?_
      refine awp_block ?_
      refine awp_seq ?_
      refine awp_region ?_
      refine aL_E true rfl rfl (fun _ => q_indexAddr Try.underlying67 tk66 rfl (psAt 0 rfl) rfl (row := spanRow p) (by simp [hp]) rfl rfl) (fun h => absurd h (by decide)) (fun ⟨b5_0, o5_0⟩ => ?_)
      refine aL_s true rfl rfl (fun _ => q_loadD (o := 0) (v := .agg #[.int .i64 p.1, .int .i64 p.2]) tk66 rfl (psAt 0 rfl) rfl rfl) ?_
      refine aL_eff (q := true) rfl (e_alloc (zs := [.int .i64 0, .int .i64 0]) (by kernel_rfl) rfl (fun b5_2 => ?_))
      simp only [List.cons_append, List.nil_append]
      refine aL_eff rfl (e_store 0 tk66 rfl rfl rfl rfl ?_)
      simp only [List.set_cons_succ, List.set_cons_zero]
      refine aL_nil ?_
      refine thn_n ?_
      refine awp_seq ?_
      refine awp_region ?_
      refine aL_s true rfl rfl (fun _ => q_fieldAddr (off := 0) (by kernel_rfl) rfl) ?_
      refine aL_s true rfl rfl (fun _ => q_load 0 tk3 rfl rfl rfl) ?_
      refine aL_s true rfl rfl (fun _ => q_move rfl) ?_
      refine aL_s true rfl rfl (fun _ => q_max rfl rfl) ?_
      refine aL_s true rfl rfl (fun _ => q_move rfl) ?_
      refine aL_s true rfl rfl (fun _ => q_call (by kernel_rfl) rfl (fun w S fp hst => (up_any _ _ w).mono (fun e w' ⟨h, hw⟩ => ⟨h, hw ▸ Below.refl _ _⟩))) ?_
      refine aL_s true rfl rfl (fun _ => q_assign rfl) ?_
      refine aL_nil ?_
      refine thn_n ?_
      refine awp_seq ?_
      refine awp_region ?_
      refine aL_s true rfl rfl (fun _ => q_move rfl) ?_
      refine aL_s true rfl rfl (fun _ => q_move rfl) ?_
      refine aL_s true rfl rfl (fun _ => q_addi rfl rfl (by omega)) ?_
      refine aL_s true rfl rfl (fun _ => q_load 0 tk66 rfl rfl rfl) ?_
      refine aL_s true rfl rfl (fun _ => q_call (by kernel_rfl) rfl (fun w S fp hst => (end_fn _ _ (by unfold I64; omega)).quiet0 hst)) ?_
      refine aL_s true rfl rfl (fun _ => q_move rfl) ?_
      refine aL_s true rfl rfl (fun _ => q_min rfl rfl) ?_
      refine aL_s true rfl rfl (fun _ => q_leq rfl rfl) ?_
      refine aL_nil ?_
      refine thn_n ?_
      refine awp_cond _ rfl (fun g3 => ?_) (fun g3 => ?_)
      · skip
        refine awp_seq ?_
        refine awp_region ?_
        refine aL_s true rfl rfl (fun _ => q_move rfl) ?_
        refine aL_s true rfl rfl (fun _ => q_assign rfl) ?_
        refine aL_s true rfl rfl (fun _ => q_assign rfl) ?_
        refine aL_nil ?_
        refine thn_n ?_
        refine awp_ret ?_
        refine blk_r ?_
        refine thn_r ?_
        refine thn_r ?_
        refine blk_r ?_
        refine thn_r ?_
        refine fin2 [] [] rfl Try.results32 rfl rfl ?_ (.inr rfl)
        rw [hfit, hdr]; unfold fitL; rw [if_pos (by simpa using g3)]
      · skip
        refine awp_skip ?_
        refine blk_n ?_
        refine thn_n ?_
        refine awp_region ?_
        refine aL_s true rfl rfl (fun _ => q_addi rfl rfl (by omega)) ?_
        refine aL_s true rfl rfl (fun _ => q_move rfl) ?_
        refine aL_nil ?_
        refine thn_n ?_
        refine ⟨[1, 2, 3, 4, 38, 39, 40], [0], [], rfl, ?_⟩
        refine ⟨k + 1, ⟨⟨by omega, ?_⟩, rfl⟩, by omega⟩
        rw [hfit, hdr]; conv => lhs; unfold fitL
        rw [if_neg (by simpa using g3)]
    · skip
      refine awp_exit ?_
      refine thn_e ?_
      refine thn_e ?_
      refine blk_hit ?_
      refine thn_n ?_
      refine awp_seq ?_
      refine awp_region ?_
      refine aL_s true rfl rfl (fun _ => q_assign rfl) ?_
      refine aL_s true rfl rfl (fun _ => q_assign rfl) ?_
      refine aL_nil ?_
      refine thn_n ?_
      refine awp_ret ?_
      refine fin2 [] [] rfl Try.results32 rfl rfl ?_ (.inr rfl)
      rw [hfit, List.drop_of_length_le (by simp at g2; omega)]; rfl
end Go.Proofs.Ytlhbnpahplpobaa
