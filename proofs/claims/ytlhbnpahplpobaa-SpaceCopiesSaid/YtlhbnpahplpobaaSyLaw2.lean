/- The contracts of few, Same, clear. -/
import Derived.Test.YtlhbnpahplpobaaSySpA
set_option linter.unusedVariables false
set_option linter.unusedSimpArgs false
namespace Go.Proofs.Ytlhbnpahplpobaa
open Go.RowKit Go.Lp Go.Sy
/-- a call of the laws -/
structure Deed where
  do_ : Int
  a : Ar
  at_ : Int
  size : Int
  n : Int
  b : ByteArray
def deedRow (d : Deed) : List D := [.v (.int .i64 d.do_), .v (.int .i64 d.a.at_), .v (.int .i64 d.a.size), .v (.int .i64 d.a.kind), .v (.int .i64 d.a.owner), .v (.int .i64 d.a.mod), .v (.int .i64 d.at_), .v (.int .i64 d.size), .v (.int .i64 d.n), .v (.string d.b)]
def fewAt (d : Deed) : Bool := !(decide (3000 < d.a.size) || decide (500 < (d.b.size : Int)))
def fewB (l : List Deed) : Bool := !decide (30 < (l.length : Int)) && l.all fewAt
theorem few_fn (l : List Deed) (ad : Option Addr) (c : Nat) : Con Try.prog 9 [.slice ad l.length c] [Sh (.slice ad l.length c) (.sl (l.map deedRow))] [] fun r _ _ => r = .bool (fewB l) := by
  refine Con.enter Try.func9 rfl (by simp [Try.ntmps9]) ?_
  show awp _ _ _ _ ⟨[(0, true, _)], _, _⟩
  refine awp_len 0 rfl (fun hlen => ?_)
  rw [List.length_map] at hlen
  refine awp_seq ?_
  refine awp_region ?_
  refine aL_s true rfl rfl (fun _ => q_assign rfl) ?_
  refine aL_nil ?_
  refine thn_n ?_
  refine awp_seq ?_
  refine awp_seq ?_
  refine awp_region ?_
  refine aL_s true rfl rfl (fun _ => q_move rfl) ?_
  refine aL_s true rfl rfl (fun _ => q_lenS Try.underlying22 rfl) ?_
  refine aL_s true rfl rfl (fun _ => q_gtr rfl rfl) ?_
  refine aL_nil ?_
  refine thn_n ?_
  refine awp_cond _ rfl (fun h1 => ?_) (fun h1 => ?_)
  · skip
    refine awp_seq ?_
    refine awp_region ?_
    refine aL_s true rfl rfl (fun _ => q_assign rfl) ?_
    refine aL_nil ?_
    refine thn_n ?_
    refine awp_ret ?_
    refine thn_r ?_
    refine fin1 [] [] rfl Try.results9 rfl ?_ (.inr rfl)
    refine congrArg Value.bool ?_
    unfold fewB; rw [show decide (30 < (l.length : Int)) = true from h1]; rfl
  · skip
    refine awp_skip ?_
    refine thn_n ?_
    refine awp_seq ?_
    refine awp_seq ?_
    refine awp_region ?_
    refine aL_s true rfl rfl (fun _ => q_assign rfl) ?_
    refine aL_nil ?_
    refine thn_n ?_
    refine awp_block ?_
    refine awp_loopK [0, 3] [0] [] (fun (k : Nat) s => (k ≤ l.length ∧ (l.take k).all fewAt = true) ∧ s = ⟨[(0, true, .slice ad l.length c), (3, true, .int .i64 k)], [Sh (.slice ad l.length c) (.sl (l.map deedRow))], []⟩) (fun k => l.length - k) rfl (⟨0, ⟨Nat.zero_le _, rfl⟩, rfl⟩) ?_
    rintro k s ⟨⟨hk, hok⟩, rfl⟩
    refine awp_seq ?_
    refine awp_seq ?_
    refine awp_region ?_
    refine aL_s true rfl rfl (fun _ => q_move rfl) ?_
    refine aL_s true rfl rfl (fun _ => q_move rfl) ?_
    refine aL_s true rfl rfl (fun _ => q_lenS Try.underlying22 rfl) ?_
    refine aL_s true rfl rfl (fun _ => q_lss rfl rfl) ?_
    refine aL_nil ?_
    refine thn_n ?_
    refine awp_cond _ rfl (fun h2 => ?_) (fun h2 => ?_)
    · skip
      have hk' : k < l.length := by simpa using h2
      obtain ⟨x, hx⟩ : ∃ x, l[k]? = some x := ⟨l[k]'hk', by simp⟩
      refine awp_skip ?_
      refine thn_n ?_
      refine awp_seq ?_
      refine awp_block ?_
      refine awp_seq ?_
      refine awp_region ?_
      refine aL_s true rfl rfl (fun _ => q_move rfl) ?_
      refine aL_s true rfl rfl (fun _ => q_move rfl) ?_
      refine aL_E true rfl rfl (fun _ => q_indexAddr Try.underlying22 tk26 rfl (psAt 0 rfl) rfl (row := deedRow x) (by simp [hx]) rfl rfl) (fun h => absurd h (by decide)) (fun ⟨b6_2, o6_2⟩ => ?_)
      refine aL_s true rfl rfl (fun _ => q_fieldAddr (off := 1) (by kernel_rfl) rfl) ?_
      refine aL_s true rfl rfl (fun _ => q_fieldAddr (off := 1) (by kernel_rfl) rfl) ?_
      refine aL_s true rfl rfl (fun _ => q_loadD (o := 2) tk3 rfl (psAt 0 rfl) rfl rfl) ?_
      refine aL_s true rfl rfl (fun _ => q_gtr rfl rfl) ?_
      refine aL_s true rfl rfl (fun _ => q_move rfl) ?_
      refine aL_s _ rfl rfl (fun hc => q_move rfl) ?_
      refine aL_s _ rfl rfl (fun hc => q_move rfl) ?_
      refine aL_E _ rfl rfl (fun hc => q_indexAddr Try.underlying22 tk26 (ev_yes rfl hc) (psAt 1 rfl) (ev_yes rfl hc) (row := deedRow x) (by simp [hx]) rfl rfl) (fun _ => ⟨(0, 0)⟩) (fun ⟨b6_10, o6_10⟩ => ?_)
      refine aL_s _ rfl rfl (fun hc => q_fieldAddr (off := 9) (by kernel_rfl) (ev_yes rfl hc)) ?_
      refine aL_s _ rfl rfl (fun hc => q_loadD (o := 9) tk9 (ev_yes rfl hc) (psAt 0 rfl) hc rfl) ?_
      refine aL_s _ rfl rfl (fun hc => q_lenStr Try.underlying9 (ev_yes rfl hc)) ?_
      refine aL_s _ rfl rfl (fun hc => q_gtr (ev_yes rfl hc) rfl) ?_
      refine aL_s true rfl rfl (fun _ => q_or rfl rfl (fun h => gf rfl h)) ?_
      refine aL_nil ?_
      refine thn_n ?_
      refine awp_cond _ rfl (fun h3 => ?_) (fun h3 => ?_)
      · skip
        refine awp_seq ?_
        refine awp_region ?_
        refine aL_s true rfl rfl (fun _ => q_assign rfl) ?_
        refine aL_nil ?_
        refine thn_n ?_
        refine awp_ret ?_
        refine blk_r ?_
        refine thn_r ?_
        refine thn_r ?_
        refine blk_r ?_
        refine thn_r ?_
        refine fin1 [] [] rfl Try.results9 rfl ?_ (.inr rfl)
        refine congrArg Value.bool ?_
        symm; unfold fewB; rw [Bool.and_eq_false_iff]; right
        rw [List.all_eq_false]
        exact ⟨x, List.mem_of_getElem? hx, by unfold fewAt; rw [h3]; simp⟩
      · skip
        refine awp_skip ?_
        refine blk_n ?_
        refine thn_n ?_
        refine awp_region ?_
        refine aL_s true rfl rfl (fun _ => q_move rfl) ?_
        refine aL_s true rfl rfl (fun _ => q_addi rfl rfl (by omega)) ?_
        refine aL_s true rfl rfl (fun _ => q_assign rfl) ?_
        refine aL_nil ?_
        refine thn_n ?_
        refine ⟨[0, 3], [0], [], rfl, ?_⟩
        refine ⟨k + 1, ⟨⟨by omega, ?_⟩, rfl⟩, by omega⟩
        rw [List.take_add_one, hx]
        simp only [Option.toList_some, List.all_append, hok, List.all_cons, List.all_nil, Bool.and_true, Bool.true_and]
        unfold fewAt; rw [h3]; rfl
    · skip
      refine awp_exit ?_
      refine thn_e ?_
      refine thn_e ?_
      refine blk_hit ?_
      refine thn_n ?_
      refine awp_seq ?_
      refine awp_region ?_
      refine aL_s true rfl rfl (fun _ => q_assign rfl) ?_
      refine aL_nil ?_
      refine thn_n ?_
      refine awp_ret ?_
      refine fin1 [] [] rfl Try.results9 rfl ?_ (.inr rfl)
      refine congrArg Value.bool ?_
      unfold fewB
      rw [show decide (30 < (l.length : Int)) = false from h1]
      rw [List.take_of_length_le (by simp at h2; omega)] at hok
      rw [hok]; rfl
end Go.Proofs.Ytlhbnpahplpobaa
