/- The reference's space: Right and Map. -/
import Derived.Test.YtpgcoceggacplaaGreatDoorMgB
import Derived.Test.YtpgcoceggacplaaGreatDoorMgC
import Derived.Test.YtpgcoceggacplaaGreatDoorLpMem
import Derived.Test.YtpgcoceggacplaaGreatDoorMgG
set_option linter.unusedVariables false
set_option linter.unusedSimpArgs false
set_option maxRecDepth 20000
namespace Go.Proofs.YtpgcoceggacplaaGreatDoor
open Go.RowKit Go.Lp Go.Sy
def rfA (M : Mem) : List (List D) := M.map fun x => x.1.vals.map D.v
def rfB (M : Mem) : List (List D) := M.map fun x => [.v (.string (ofBytes x.2))]
def findI (M : Mem) (at_ size : Int) : Option Nat := M.findIdx? fun x => holds at_ size x.1
def numO : Option Nat → Int
  | some k => k
  | none => -1
theorem findI_at {M : Mem} {at_ size : Int} {k : Nat} {x : Cell} (hx : M[k]? = some x) (hno : ∀ y ∈ M.take k, holds at_ size y.1 = false) (h : holds at_ size x.1 = true) : findI M at_ size = some k := by
  unfold findI
  rw [List.findIdx?_eq_some_iff_getElem]
  obtain ⟨hk, rfl⟩ := List.getElem?_eq_some_iff.1 hx
  refine ⟨hk, h, fun j hj => ?_⟩
  have := hno M[j] (List.mem_take_iff_getElem.2 ⟨j, by omega, rfl⟩)
  simp [this]
theorem findI_no {M : Mem} {at_ size : Int} (hno : ∀ y ∈ M, holds at_ size y.1 = false) : findI M at_ size = none := by
  unfold findI
  rw [List.findIdx?_eq_none_iff]; exact hno
theorem mfind_findI (M : Mem) (at_ size : Int) : mfind M at_ size = (findI M at_ size).bind fun k => M[k]? := by
  unfold mfind findI
  induction M with
  | nil => rfl
  | cons x M ih =>
    rw [List.find?_cons, List.findIdx?_cons]
    cases h : holds at_ size x.1
    · simp only [ih]
      cases M.findIdx? fun x => holds at_ size x.1 <;> rfl
    · rfl
theorem findI_some {M : Mem} {at_ size : Int} {k : Nat} (h : findI M at_ size = some k) : ∃ x, M[k]? = some x ∧ mfind M at_ size = some x ∧ holds at_ size x.1 = true := by
  have h1 := mfind_findI M at_ size
  rw [h] at h1
  unfold findI at h
  obtain ⟨hk, h2, _⟩ := List.findIdx?_eq_some_iff_getElem.1 h
  have e : M[k]? = some M[k] := by simp
  exact ⟨M[k], e, by rw [h1]; exact e, h2⟩
theorem numO_T {o : Option Nat} (h : decide (numO o < 0) = true) : o = none := by
  cases o with
  | none => rfl
  | some k => have h : decide ((k : Int) < 0) = true := h; have := of_decide_eq_true h; omega
theorem numO_F {o : Option Nat} (h : decide (numO o < 0) = false) : ∃ k, o = some k := by
  cases o with
  | none => simp [numO] at h
  | some k => exact ⟨k, rfl⟩
theorem findI_none {M : Mem} {at_ size : Int} (h : findI M at_ size = none) : mfind M at_ size = none := by rw [mfind_findI, h]; rfl
section
variable (M : Mem) (p n cA cB : Nat) (dA dB : Option Addr)
/-- a reference's space, looked at -/
abbrev rfP : List Per := [Sh (.slice dB M.length cB) (.sl (rfB M)), Sh (.slice dA M.length cA) (.sl (rfA M)), At p 0 [.v (.slice dA M.length cA), .v (.slice dB M.length cB)]]
end
theorem find28_fn (p : Nat) (M : Mem) (dA dB : Option Addr) (cA cB : Nat) (at_ size : Int) (hat : I64 at_) (hsz : I64 size) (hr : ∀ x ∈ M, rightA x.1 = true) (hl : M.length ≤ 4096) :
    Con Tryz.prog 33 [.pointer (some ⟨p, 0, none⟩), .int .i64 at_, .int .i64 size] (rfP M p cA cB dA dB) [] fun r _ _ => r = .int .i64 (numO (findI M at_ size)) := by
  have HR := Lib.hid hr
  clear hr
  unfold I64 at hat hsz
  refine Con.enter Tryz.func33 rfl (by simp [Tryz.ntmps33]) ?_
  show awp _ _ _ _ ⟨[(0, true, _), (1, true, _), (2, true, _)], _, _⟩
  refine awp_seq (awp_region (aL_s true rfl rfl (fun _ => q_assign rfl) (aL_nil (thn_n (awp_seq (awp_seq (awp_region ?_)))))))
  refine aL_s true rfl rfl (fun _ => q_assign rfl) (aL_nil (thn_n (awp_block ?_)))
  refine awp_loopK [0, 1, 2, 7] [2, 1, 0] [] (fun (k : Nat) s => (k ≤ M.length ∧ ∀ x ∈ M.take k, holds at_ size x.1 = false) ∧ s = ⟨[(0, true, .pointer (some ⟨p, 0, none⟩)), (1, true, .int .i64 at_), (2, true, .int .i64 size), (7, true, .int .i64 k)], rfP M p cA cB dA dB, []⟩) (fun k => M.length - k) rfl (⟨0, ⟨Nat.zero_le _, by simp⟩, rfl⟩) ?_
  rintro k s ⟨⟨hk, hno⟩, rfl⟩
  refine awp_seq (awp_seq (awp_region (aL_s true rfl rfl (fun _ => q_move rfl) (aL_s true rfl rfl (fun _ => q_move rfl) (aL_s true rfl rfl (fun _ => q_nilCheck rfl) ?_)))))
  refine aL_s true rfl rfl (fun _ => q_fieldAddr (off := 0) (by kernel_rfl) rfl) ?_
  refine aL_s true rfl rfl (fun _ => q_loadP 0 tk77 rfl (psAt 2 rfl) rfl rfl) (aL_s true rfl rfl (fun _ => q_lenS Tryz.underlying77 rfl) (aL_s true rfl rfl (fun _ => q_lss rfl rfl) (aL_nil (thn_n ?_))))
  refine awp_cond _ rfl (fun h1 => ?_) (fun h1 => ?_)
  ·skip
   have hk' : k < M.length := by simpa using h1
   obtain ⟨x, hx⟩ : ∃ x, M[k]? = some x := ⟨M[k]'hk', by simp⟩
   have hxr : rightA x.1 = true := HR.out _ (List.mem_of_getElem? hx)
   obtain ⟨r1, r2, r3, r4, r5, r6, r7, r8⟩ := rightA_iff.1 hxr
   refine awp_skip (thn_n (awp_seq (awp_block (awp_seq (awp_region (aL_s true rfl rfl (fun _ => q_move rfl) (aL_s true rfl rfl (fun _ => q_nilCheck rfl) ?_)))))))
   refine aL_s true rfl rfl (fun _ => q_fieldAddr (off := 0) (by kernel_rfl) rfl) ?_
   refine aL_s true rfl rfl (fun _ => q_loadP 0 tk77 rfl (psAt 2 rfl) rfl rfl) (aL_s true rfl rfl (fun _ => q_move rfl) ?_)
   refine aL_E true rfl rfl (fun _ => q_indexAddr Tryz.underlying77 tk58 rfl (psAt 1 rfl) rfl (row := x.1.vals.map D.v) (by simp [rfA, hx]) rfl rfl) (fun h => absurd h (by decide)) (fun ⟨b4_5, o4_5⟩ => ?_)
   refine aL_s true rfl rfl (fun _ => q_loadD (o := 0) (v := .agg x.1.vals.toArray) tk58 rfl (psAt 0 rfl) rfl rfl) ?_
   refine aL_eff (q := true) rfl (x_alloc (zs := [.int .i64 0, .int .i64 0, .int .i64 0, .int .i64 0, .int .i64 0]) (by kernel_rfl) rfl (fun b4_7 => ?_))
   refine aL_hp (by (try simp only [nM, nN]); rfl) ?_
   refine aL_eff rfl (x_store 0 tk58 rfl rfl rfl rfl ?_)
   refine aL_hp (by simp only [nK, nL]; rfl) ?_
   refine aL_nil (thn_n (awp_seq (awp_region (aL_s true rfl rfl (fun _ => q_move rfl) ?_))))
   refine aL_s true rfl rfl (fun _ => q_fieldAddr (off := 0) (by kernel_rfl) rfl) ?_
   refine aL_s true rfl rfl (fun _ => q_load 0 tk3 rfl rfl rfl) (aL_s true rfl rfl (fun _ => q_geq rfl rfl) (aL_s true rfl rfl (fun _ => q_move rfl) (aL_s _ rfl rfl (fun hc => q_move rfl) ?_)))
   refine aL_s _ rfl rfl (fun hc => q_fieldAddr (off := 0) (by kernel_rfl) rfl) ?_
   refine aL_s _ rfl rfl (fun hc => q_load 0 tk3 (ev_yes rfl hc) rfl rfl) ?_
   refine aL_s _ rfl rfl (fun hc => q_fieldAddr (off := 1) (by kernel_rfl) rfl) ?_
   refine aL_s _ rfl rfl (fun hc => q_load 0 tk3 (ev_yes rfl hc) rfl rfl) ?_
   refine aL_s _ rfl rfl (fun hc => q_addi (ev_yes rfl hc) (ev_yes rfl hc) (by (first | omega | (simp at hc; omega)))) ?_
   refine aL_s _ rfl rfl (fun hc => q_lss (ev_yes rfl hc) (ev_yes rfl hc)) (aL_s true rfl rfl (fun _ => q_and rfl rfl (fun h => gt rfl h)) (aL_s true rfl rfl (fun _ => q_move rfl) (aL_s _ rfl rfl (fun hc => q_move rfl) ?_)))
   refine aL_s _ rfl rfl (fun hc => q_fieldAddr (off := 0) (by kernel_rfl) rfl) ?_
   refine aL_s _ rfl rfl (fun hc => q_load 0 tk3 (ev_yes rfl hc) rfl rfl) ?_
   refine aL_s _ rfl rfl (fun hc => q_fieldAddr (off := 1) (by kernel_rfl) rfl) ?_
   refine aL_s _ rfl rfl (fun hc => q_load 0 tk3 (ev_yes rfl hc) rfl rfl) ?_
   refine aL_s _ rfl rfl (fun hc => q_addi (ev_yes rfl hc) (ev_yes rfl hc) (by (first | omega | (simp at hc; omega)))) ?_
   refine aL_s _ rfl rfl (fun hc => q_move rfl) ?_
   refine aL_s _ rfl rfl (fun hc => q_subi (ev_yes rfl hc) (ev_yes rfl hc) (by (first | omega | (simp at hc; omega)))) ?_
   refine aL_s _ rfl rfl (fun hc => q_leq (ev_yes rfl hc) (ev_yes rfl hc)) (aL_s true rfl rfl (fun _ => q_and rfl rfl (fun h => gt rfl h)) (aL_nil (thn_n ?_)))
   refine awp_cond _ rfl (fun h2 => ?_) (fun h2 => ?_)
   ·skip
    refine awp_seq (awp_region (aL_s true rfl rfl (fun _ => q_move rfl) (aL_s true rfl rfl (fun _ => q_assign rfl) (aL_nil (thn_n (awp_ret (blk_r ?_)))))))
    refine thn_r (thn_r (blk_r (thn_r ?_)))
    refine fin1 [] [] rfl Tryz.results33 rfl ?_ (.inr rfl)
    rw [findI_at hx hno h2]; rfl
   ·skip
    refine awp_skip (blk_n (thn_n (awp_region (aL_s true rfl rfl (fun _ => q_move rfl) ?_))))
    refine aL_s true rfl rfl (fun _ => q_addi rfl rfl (by omega)) ?_
    refine aL_s true rfl rfl (fun _ => q_assign rfl) (aL_nil (thn_n ?_))
    refine ⟨[0, 1, 2, 7], [2, 1, 0], [], rfl, ?_⟩
    refine ⟨k + 1, ⟨⟨by omega, ?_⟩, rfl⟩, by omega⟩
    intro y hy
    rw [List.take_add_one, hx] at hy
    rcases List.mem_append.1 hy with hy | hy
    · exact hno y hy
    · simp only [Option.toList_some, List.mem_singleton] at hy; subst hy; exact h2
  ·skip
   refine awp_exit (thn_e (thn_e (blk_hit (thn_n (awp_seq (awp_region (aL_s true rfl rfl (fun _ => q_assign rfl) ?_)))))))
   refine aL_nil (thn_n (awp_ret ?_))
   refine fin1 [] [] rfl Tryz.results33 rfl ?_ (.inr rfl)
   rw [List.take_of_length_le (by simpa using h1)] at hno; rw [findI_no hno]; rfl
section
variable (p : Nat) (M : Mem) (dA dB : Option Addr) (cA cB : Nat) (hr : ∀ x ∈ M, rightA x.1 = true) (hl : M.length ≤ 4096)
include hr hl
theorem area28_fn (at_ : Int) (hat : I64 at_) :
    Con Tryz.prog 84 [.pointer (some ⟨p, 0, none⟩), .int .i64 at_] (rfP M p cA cB dA dB) [] fun r _ _ => r = .tuple #[.agg (areaM M at_).1.vals.toArray, .bool (areaM M at_).2] := by
  have HR := Lib.hid hr
  clear hr
  refine Con.enter Tryz.func84 rfl (by simp [Tryz.ntmps84]) ?_
  show awp _ _ _ _ ⟨[(0, true, _), (1, true, _)], _, _⟩
  refine awp_seq (awp_region ?_)
  refine aL_eff (q := true) rfl (x_alloc (zs := [.int .i64 0, .int .i64 0, .int .i64 0, .int .i64 0, .int .i64 0]) (by kernel_rfl) rfl (fun b0_0 => ?_))
  refine aL_hp (by (try simp only [nM, nN]); rfl) ?_
  refine aL_s true rfl rfl (fun _ => q_assign rfl) (aL_nil (thn_n (awp_seq (awp_region (aL_s true rfl rfl (fun _ => q_move rfl) (aL_s true rfl rfl (fun _ => q_move rfl) ?_))))))
  refine aL_s true rfl rfl (fun _ => q_call (by kernel_rfl) rfl (fun w S fp hst => (find28_fn p M dA dB cA cB at_ 1 hat (by unfold I64; decide) HR.out hl).quiet (fun _ h => h) hst)) ?_
  refine aL_s true rfl rfl (fun _ => q_assign rfl) (aL_nil (thn_n (awp_seq (awp_seq (awp_region (aL_s true rfl rfl (fun _ => q_move rfl) (aL_s true rfl rfl (fun _ => q_lss rfl rfl) ?_)))))))
  refine aL_nil (thn_n ?_)
  refine awp_cond _ rfl (fun h1 => ?_) (fun h1 => ?_)
  ·skip
   refine awp_seq (awp_region ?_)
   refine aL_s true rfl rfl (fun _ => q_bld (l := []) (zs := [.int .i64 0, .int .i64 0, .int .i64 0, .int .i64 0, .int .i64 0]) (pl := [(0, 1), (1, 1), (2, 1), (3, 1), (4, 1)]) (by kernel_rfl) (by kernel_rfl) (by kernel_rfl) rfl rfl rfl) ?_
   refine aL_eff rfl (x_store 0 tk58 rfl rfl rfl rfl ?_)
   refine aL_hp (by simp only [nK, nL]; rfl) ?_
   refine aL_s true rfl rfl (fun _ => q_assign rfl) (aL_nil (thn_n (awp_ret (thn_r ?_))))
   refine finR2 [] [] rfl Tryz.results84 (rv_cell 0 tk58 rfl rfl rfl) (rv_tmp rfl) ?_ (.inr rfl)
   unfold areaM; rw [findI_none (numO_T h1)]; rfl
  ·skip
   obtain ⟨k, hk⟩ := numO_F h1
   obtain ⟨x, hx, hm, _⟩ := findI_some hk
   rw [hk]
   refine awp_skip (thn_n (awp_seq (awp_region (aL_s true rfl rfl (fun _ => q_move rfl) (aL_s true rfl rfl (fun _ => q_nilCheck rfl) ?_)))))
   refine aL_s true rfl rfl (fun _ => q_fieldAddr (off := 0) (by kernel_rfl) rfl) ?_
   refine aL_s true rfl rfl (fun _ => q_loadP 0 tk77 rfl (psAt 2 rfl) rfl rfl) (aL_s true rfl rfl (fun _ => q_move rfl) ?_)
   refine aL_E true rfl rfl (fun _ => q_indexAddr Tryz.underlying77 tk58 rfl (psAt 1 rfl) rfl (row := x.1.vals.map D.v) (by simp [rfA, hx]) rfl rfl) (fun h => absurd h (by decide)) (fun ⟨b4_5, o4_5⟩ => ?_)
   refine aL_s true rfl rfl (fun _ => q_loadD (o := 0) (v := .agg x.1.vals.toArray) tk58 rfl (psAt 0 rfl) rfl rfl) ?_
   refine aL_eff rfl (x_store 0 tk58 rfl rfl rfl rfl ?_)
   refine aL_hp (by simp only [nK, nL]; rfl) ?_
   refine aL_s true rfl rfl (fun _ => q_assign rfl) (aL_nil (thn_n (awp_ret ?_)))
   refine finR2 [] [] rfl Tryz.results84 (rv_cell 0 tk58 rfl rfl rfl) (rv_tmp rfl) ?_ (.inr rfl)
   unfold areaM; rw [hm]; rfl
theorem check28_fn (at_ size : Int) (hat : I64 at_) (hsz : I64 size) :
    Con Tryz.prog 105 [.pointer (some ⟨p, 0, none⟩), .int .i64 at_, .int .i64 size] (rfP M p cA cB dA dB) [] fun r _ _ => r = .tuple #[.int .i64 (if accM M at_ size = 0 then numO (findI M at_ size) else 0), .int .i64 (accM M at_ size)] := by
  have HR := Lib.hid hr
  clear hr
  have e8 : (at_.tmod 8 = 0) ↔ at_ % 8 = 0 := by rw [← Int.dvd_iff_tmod_eq_zero, Int.dvd_iff_emod_eq_zero]
  refine Con.enter Tryz.func105 rfl (by simp [Tryz.ntmps105]) ?_
  show awp _ _ _ _ ⟨[(0, true, _), (1, true, _), (2, true, _)], _, _⟩
  refine awp_seq (awp_region (aL_s true rfl rfl (fun _ => q_assign rfl) (aL_s true rfl rfl (fun _ => q_assign rfl) (aL_nil (thn_n (awp_seq (awp_seq ?_)))))))
  refine awp_region (aL_s true rfl rfl (fun _ => q_move rfl) (aL_s true rfl rfl (fun _ => q_neq rfl rfl) (aL_s true rfl rfl (fun _ => q_move rfl) (aL_s _ rfl rfl (fun hc => q_move rfl) (aL_s _ rfl rfl (fun hc => q_neq (ev_yes rfl hc) rfl) (aL_s true rfl rfl (fun _ => q_and rfl rfl (fun h => gt rfl h)) (aL_nil ?_)))))))
  refine thn_n ?_
  refine awp_cond _ rfl (fun h1 => ?_) (fun h1 => ?_)
  ·skip
   refine awp_seq (awp_region (aL_s true rfl rfl (fun _ => q_assign rfl) (aL_s true rfl rfl (fun _ => q_assign rfl) (aL_nil (thn_n (awp_ret (thn_r ?_)))))))
   refine fin2 [] [] rfl Tryz.results105 rfl rfl ?_ (.inr rfl)
   have e : accM M at_ size = 1 := by unfold accM; rw [if_pos (by simpa using h1)]
   rw [e, if_neg (by decide)]
  ·skip
   have h18 : ¬ (size ≠ 1 ∧ size ≠ 8) := by simp at h1; omega
   refine awp_skip (thn_n (awp_seq (awp_region (aL_s true rfl rfl (fun _ => q_move rfl) (aL_s true rfl rfl (fun _ => q_move rfl) (aL_s true rfl rfl (fun _ => q_move rfl) ?_))))))
   refine aL_s true rfl rfl (fun _ => q_call (by kernel_rfl) rfl (fun w S fp hst => (find28_fn p M dA dB cA cB at_ size hat hsz HR.out hl).quiet (fun _ h => h) hst)) ?_
   refine aL_s true rfl rfl (fun _ => q_assign rfl) (aL_nil (thn_n (awp_seq (awp_seq (awp_region (aL_s true rfl rfl (fun _ => q_move rfl) (aL_s true rfl rfl (fun _ => q_eql rfl rfl) ?_)))))))
   refine aL_s true rfl rfl (fun _ => q_move rfl) (aL_s _ rfl rfl (fun hc => q_move rfl) ?_)
   refine aL_s _ rfl rfl (fun hc => q_rem (ev_yes rfl hc) rfl (by decide)) ?_
   refine aL_s _ rfl rfl (fun hc => q_neq (ev_yes rfl hc) rfl) (aL_s true rfl rfl (fun _ => q_and rfl rfl (fun h => gt rfl h)) (aL_s true rfl rfl (fun _ => q_move rfl) (aL_s _ rfl rfl (fun hc => q_move rfl) (aL_s _ rfl rfl (fun hc => q_lss (ev_yes rfl hc) rfl) (aL_s true rfl rfl (fun _ => q_or rfl rfl (fun h => gf rfl h)) (aL_nil (thn_n ?_)))))))
   refine awp_cond _ rfl (fun h2 => ?_) (fun h2 => ?_)
   ·skip
    refine awp_seq (awp_region (aL_s true rfl rfl (fun _ => q_assign rfl) (aL_s true rfl rfl (fun _ => q_assign rfl) (aL_nil (thn_n (awp_ret (thn_r ?_)))))))
    refine fin2 [] [] rfl Tryz.results105 rfl rfl ?_ (.inr rfl)
    have e : accM M at_ size = 6 := by
      unfold accM
      rw [if_neg h18]
      rcases Bool.or_eq_true _ _ ▸ h2 with h | h
      · rw [if_pos (by simp only [Bool.and_eq_true, decide_eq_true_eq, Bool.not_eq_true', decide_eq_false_iff_not] at h; exact ⟨h.1, fun h' => h.2 (e8.2 h')⟩)]
      · rw [if_pos (findI_none (numO_T h))]; simp
    rw [e, if_neg (by decide)]
   ·skip
    refine awp_skip (thn_n (awp_seq (awp_region (aL_s true rfl rfl (fun _ => q_move rfl) (aL_s true rfl rfl (fun _ => q_assign rfl) (aL_s true rfl rfl (fun _ => q_assign rfl) (aL_nil ?_)))))))
    refine thn_n (awp_ret ?_)
    refine fin2 [] [] rfl Tryz.results105 rfl rfl ?_ (.inr rfl)
    have e : accM M at_ size = 0 := by
      simp only [Bool.or_eq_false_iff] at h2
      obtain ⟨k, hk⟩ := numO_F h2.2
      obtain ⟨x, hx, hm, _⟩ := findI_some hk
      unfold accM
      rw [if_neg h18, if_neg (by have := h2.1; simp only [Bool.and_eq_false_iff, decide_eq_false_iff_not, Bool.not_eq_false', decide_eq_true_eq] at this; rintro ⟨g1, g2⟩; rcases this with h | h; exact h g1; exact g2 (e8.1 h)), if_neg (by rw [hm]; simp)]
    rw [e, if_pos rfl]
end
end Go.Proofs.YtpgcoceggacplaaGreatDoor
namespace Go.Sy
open Go.RowKit Go.Lp
section
variable {P : Program} {n : Nat} {s : Sta} {d : Option Tmp} {ty : TypeId} {pos : String} {af : Array Edge} {gd : Option (Nat × Bool)}
theorem q_strLo {x y : Operand} {T : TypeId} {kk : IntKind} {z : Int} {b : ByteArray} (hT : P.underlying T = some .string) (hx : ev s.env x = some (true, .string b)) (hy : ev s.env y = some (true, .int kk z)) (h0 : 0 ≤ z) (h1 : z ≤ b.size) :
    Quiet P n ⟨d, .slice T x (some y) none none, ty, pos, af, gd⟩ s (.string (b.extract z.toNat b.size)) := .run2 hx hy fun ρ w e1 e2 => by
  unfold execOp; dsimp only; simp only [Option.map_some, Option.map_none]; rw [e1, e2]
  show ((Instr.sliceAt T (.string b) (some (.int kk z)) none none).bind fun r => Sem.pure (Next.value r)).run P w = _
  have : (Instr.sliceAt T (.string b) (some (.int kk z)) none none).run P w = .ok (.string (b.extract z.toNat b.size)) w := by
    rw [run_sliceAt_string w T _ _ _ _ hT]
    exact run_slice_string_l w T b hT kk z h0 h1
  rw [Sem.run_bind', this]; rfl
theorem q_strLH {x y y' : Operand} {T : TypeId} {kk kk' : IntKind} {z z' : Int} {b : ByteArray} (hT : P.underlying T = some .string) (hx : ev s.env x = some (true, .string b)) (hy : ev s.env y = some (true, .int kk z)) (hy' : ev s.env y' = some (true, .int kk' z')) (h0 : 0 ≤ z) (h1 : z ≤ z') (h2 : z' ≤ b.size) :
    Quiet P n ⟨d, .slice T x (some y) (some y') none, ty, pos, af, gd⟩ s (.string (b.extract z.toNat z'.toNat)) := fun w S fp a hst he hn => by
  have e1 := he.val hx rfl
  have e2 := he.val hy rfl
  have e3 := he.val hy' rfl
  have : (execOp a.eval ⟨d, .slice T x (some y) (some y') none, ty, pos, af, gd⟩).run P w = .ok (.value (.string (b.extract z.toNat z'.toNat))) w := by
    unfold execOp; dsimp only; simp only [Option.map_some, Option.map_none]; rw [e1, e2, e3]
    show ((Instr.sliceAt T (.string b) (some (.int kk z)) (some (.int kk' z')) none).bind fun r => Sem.pure (Next.value r)).run P w = _
    have : (Instr.sliceAt T (.string b) (some (.int kk z)) (some (.int kk' z')) none).run P w = .ok (.string (b.extract z.toNat z'.toNat)) w := by
      rw [run_sliceAt_string w T _ _ _ _ hT]
      exact run_slice_string w T b kk kk' z z' hT h0 h1 h2
    rw [Sem.run_bind', this]; rfl
  rw [this]; exact uponQ_ok _ _
theorem q_neg {x : Operand} {t : TypeId} {kk : IntKind} {z : Int} (hx : ev s.env x = some (true, .int kk z)) : Quiet P n ⟨d, .unOp .neg t x, ty, pos, af, gd⟩ s (.int kk (kk.wrap (0 - z))) := .run1 hx fun ρ w h => by unfold execOp; dsimp only; rw [h]; rfl
theorem q_convU8 {x : Operand} {S D : TypeId} {kk : IntKind} {z : Int} (hS : (P.underlying S).isSome = true) (hD : P.underlying D = some (.int .u8)) (hx : ev s.env x = some (true, .int kk z)) : Quiet P n ⟨d, .convert S D x, ty, pos, af, gd⟩ s (.int .u8 (byteI z).toNat) := by
  have := q_convI (P := P) (n := n) (d := d) (ty := ty) (pos := pos) (af := af) (gd := gd) hS hD hx
  rwa [show IntKind.u8.wrap z = (byteI z).toNat by rw [byteI_nat]; rfl] at this
end
theorem ofB_extract (l : List UInt8) (i j : Nat) : (ofBytes l).extract i j = ofBytes ((l.drop i).take (j - i)) := by
  unfold ofBytes; exact ByteArray.extract_mk l i j
theorem ofB_add (l l' : List UInt8) : ofBytes l ++ ofBytes l' = ofBytes (l ++ l') := by
  unfold ofBytes; apply ByteArray.ext; simp
theorem ofB_data (s : ByteArray) : ofBytes s.data.toList = s := by unfold ofBytes; apply ByteArray.ext; simp
theorem u64_step {n : Int} {k : Nat} (hk : k < 8) : byteI ((IntKind.u64.wrap n / 256 ^ k).tmod 256) = nthByte n k := by
  have h0 : 0 ≤ IntKind.u64.wrap n / 256 ^ k := Int.ediv_nonneg (by rw [IntKind.wrap_u64]; omega) (Int.pow_nonneg (by decide))
  have e : (IntKind.u64.wrap n / 256 ^ k) % 256 = (n / 256 ^ k) % 256 := by
    rw [IntKind.wrap_u64]
    rcases (show k = 0 ∨ k = 1 ∨ k = 2 ∨ k = 3 ∨ k = 4 ∨ k = 5 ∨ k = 6 ∨ k = 7 by omega) with rfl | rfl | rfl | rfl | rfl | rfl | rfl | rfl <;> simp only [Int.reducePow] <;> omega
  unfold byteI nthByte
  rw [Int.tmod_eq_emod_of_nonneg h0, Int.emod_emod_of_dvd _ (by decide : (256 : Int) ∣ 256), e]
theorem u64_quo {n : Int} {k : Nat} (hk : k < 8) : IntKind.u64.wrap ((IntKind.u64.wrap n / 256 ^ k).tdiv 256) = IntKind.u64.wrap n / 256 ^ (k + 1) := by
  have hw : 0 ≤ IntKind.u64.wrap n ∧ IntKind.u64.wrap n < 18446744073709551616 := by rw [IntKind.wrap_u64]; omega
  have h0 : 0 ≤ IntKind.u64.wrap n / 256 ^ k := Int.ediv_nonneg hw.1 (Int.pow_nonneg (by decide))
  rw [Int.tdiv_eq_ediv_of_nonneg h0]
  generalize IntKind.u64.wrap n = m at *
  rw [IntKind.wrap_u64]
  rcases (show k = 0 ∨ k = 1 ∨ k = 2 ∨ k = 3 ∨ k = 4 ∨ k = 5 ∨ k = 6 ∨ k = 7 by omega) with rfl | rfl | rfl | rfl | rfl | rfl | rfl | rfl <;> simp only [Int.reducePow, Nat.reduceAdd] <;> omega
end Go.Sy
namespace Go.Proofs.YtpgcoceggacplaaGreatDoor
open Go.RowKit Go.Lp Go.Sy
theorem field01_fn (s : ByteArray) (at_ : Int) (size : Nat) (hs : s.size ≤ maxLen) (h8 : size = 1 ∨ size = 8) (h0 : 0 ≤ at_) (h1 : at_ + size ≤ s.size) : Con Tryz.prog 119 [.string s, .int .i64 at_, .int .i64 size] [] [] fun r _ _ => r = .bool true := by
  unfold maxLen at hs
  have h88 := Lib.hid h8
  have hz : size ≤ 8 := by omega
  clear h8
  refine Con.enter Tryz.func119 rfl (by simp [Tryz.ntmps119]) ?_
  show awp _ _ _ _ ⟨[(0, true, _), (1, true, _), (2, true, _)], _, _⟩
  refine awp_seq (awp_region (aL_s true rfl rfl (fun _ => q_assign rfl) (aL_nil (thn_n (awp_seq (awp_region (aL_s true rfl rfl (fun _ => q_move rfl) ?_)))))))
  refine aL_s true rfl rfl (fun _ => q_eql rfl rfl) (aL_s true rfl rfl (fun _ => q_move rfl) (aL_s _ rfl rfl (fun hc => q_move rfl) (aL_s _ rfl rfl (fun hc => q_eql (ev_yes rfl hc) rfl) (aL_s true rfl rfl (fun _ => q_or rfl rfl (fun h => gf rfl h)) (aL_s true rfl rfl (fun _ => q_move rfl) (aL_s _ rfl rfl (fun hc => q_move rfl) (aL_s _ rfl rfl (fun hc => q_eql (ev_yes rfl hc) rfl) ?_)))))))
  refine aL_s true rfl rfl (fun _ => q_or rfl rfl (fun h => gf rfl h)) (aL_s true rfl rfl (fun _ => q_move rfl) (aL_s _ rfl rfl (fun hc => q_move rfl) (aL_s _ rfl rfl (fun hc => q_eql (ev_yes rfl hc) rfl) (aL_s true rfl rfl (fun _ => q_or rfl rfl (fun h => gf rfl h)) (aL_s true rfl rfl (fun _ => q_move rfl) (aL_s _ rfl rfl (fun hc => q_move rfl) (aL_s _ rfl rfl (fun hc => q_geq (ev_yes rfl hc) rfl) ?_)))))))
  refine aL_s true rfl rfl (fun _ => q_and rfl rfl (fun h => gt rfl h)) (aL_s true rfl rfl (fun _ => q_move rfl) (aL_s _ rfl rfl (fun hc => q_move rfl) (aL_s _ rfl rfl (fun hc => q_move rfl) (aL_s _ rfl rfl (fun hc => q_lenStr Tryz.underlying9 (ev_yes rfl hc)) (aL_s _ rfl rfl (fun hc => q_move rfl) ?_)))))
  refine aL_s _ rfl rfl (fun hc => q_subi (ev_yes rfl hc) (ev_yes rfl hc) (by (first | omega | (simp at hc; omega)))) ?_
  refine aL_s _ rfl rfl (fun hc => q_leq (ev_yes rfl hc) (ev_yes rfl hc)) (aL_s true rfl rfl (fun _ => q_and rfl rfl (fun h => gt rfl h)) (aL_s true rfl rfl (fun _ => q_assign rfl) (aL_nil (thn_n (awp_ret ?_)))))
  refine fin1 [] [] rfl Tryz.results119 rfl ?_ (.inr rfl)
  refine congrArg Value.bool ?_
  have := h88.out
  simp; omega
theorem leNat_drop {l : List UInt8} {k : Nat} {u : UInt8} (h : l[k]? = some u) : leNat (l.drop k) = u.toNat + 256 * leNat (l.drop (k + 1)) := by
  obtain ⟨hk, rfl⟩ := List.getElem?_eq_some_iff.1 h
  rw [List.drop_eq_getElem_cons hk]; rfl
theorem le8 {l : List UInt8} (h : l.length ≤ 8) : leNat l < 18446744073709551616 := Nat.lt_of_lt_of_le (leNat_lt l) (Nat.pow_le_pow_right (n := 256) (by omega) h)
theorem get01_fn (s : ByteArray) (at_ : Nat) (size : Nat) (hs : s.size ≤ maxLen) (h8 : size = 1 ∨ size = 8) (h1 : at_ + size ≤ s.size) : Con Tryz.prog 106 [.string s, .int .i64 at_, .int .i64 size, .bool (decide ((size : Int) = 8))] [] [] fun r _ _ => r = .tuple #[.int .i64 (getI (fieldL s at_ size) size (decide (size = 8))), .bool true] := by
  have hm := hs
  unfold maxLen at hm
  have h88 := Lib.hid h8
  have hz : size ≤ 8 := by omega
  have hz1 : 1 ≤ size := by omega
  clear h8
  have hfl : (fieldL s at_ size).length = size := field_len s at_ size h1
  refine Con.enter Tryz.func106 rfl (by simp [Tryz.ntmps106]) ?_
  show awp _ _ _ _ ⟨[(0, true, _), (1, true, _), (2, true, _), (3, true, _)], _, _⟩
  refine awp_seq (awp_region (aL_s true rfl rfl (fun _ => q_assign rfl) (aL_s true rfl rfl (fun _ => q_assign rfl) (aL_nil (thn_n (awp_seq (awp_seq ?_)))))))
  refine awp_region (aL_s true rfl rfl (fun _ => q_move rfl) (aL_s true rfl rfl (fun _ => q_move rfl) (aL_s true rfl rfl (fun _ => q_move rfl) ?_)))
  refine aL_s true rfl rfl (fun _ => q_call (by kernel_rfl) rfl (fun w S fp hst => (field01_fn s at_ size hs h88.out (by omega) (by omega)).quiet0 hst)) ?_
  refine aL_s true rfl rfl (fun _ => q_not rfl) (aL_nil (thn_n ?_))
  refine awp_cond _ rfl (fun h1 => ?_) (fun h1 => ?_)
  ·skip
   exfalso; exact absurd h1 (by decide)
  ·skip
   refine awp_skip (thn_n (awp_seq (awp_region (aL_s true rfl rfl (fun _ => q_assign rfl) (aL_nil (thn_n (awp_seq ?_)))))))
   refine awp_seq (awp_region (aL_s true rfl rfl (fun _ => q_move rfl) ?_))
   refine aL_s true rfl rfl (fun _ => q_subi rfl rfl (by omega)) ?_
   refine aL_s true rfl rfl (fun _ => q_assign rfl) (aL_nil (thn_n (awp_block ?_)))
   refine awp_loopK [0, 1, 2, 3, 10, 11] [] [] (fun (k : Nat) t => k ≤ size ∧ t = ⟨[(0, true, .string s), (1, true, .int .i64 at_), (2, true, .int .i64 size), (3, true, .bool (decide ((size : Int) = 8))), (10, true, .int .u64 (leNat ((fieldL s at_ size).drop k))), (11, true, .int .i64 ((k : Int) - 1))], [], []⟩) (fun k => k) rfl (⟨size, Nat.le_refl _, by rw [List.drop_of_length_le (by omega)]; rfl⟩) ?_
   rintro k t ⟨hk, rfl⟩
   refine awp_seq (awp_seq (awp_region (aL_s true rfl rfl (fun _ => q_move rfl) (aL_s true rfl rfl (fun _ => q_geq rfl rfl) (aL_nil (thn_n ?_))))))
   refine awp_cond _ rfl (fun h2 => ?_) (fun h2 => ?_)
   ·skip
    have hk1 : 1 ≤ k := by simp at h2; omega
    obtain ⟨u, hu⟩ : ∃ u, (fieldL s at_ size)[k - 1]? = some u := ⟨_, List.getElem?_eq_getElem (by omega)⟩
    have hu' : s.data.toList[at_ + (k - 1)]? = some u := by
      unfold fieldL at hu
      rw [List.getElem?_take, if_pos (by omega), List.getElem?_drop] at hu
      exact hu
    have hL := leNat_drop hu
    rw [show k - 1 + 1 = k by omega] at hL
    have hlt := le8 (l := (fieldL s at_ size).drop (k - 1)) (by rw [List.length_drop]; omega)
    have hn := u.toNat_lt
    have e : IntKind.u64.wrap (IntKind.u64.wrap (256 * (leNat ((fieldL s at_ size).drop k) : Int)) + IntKind.u64.wrap (u.toNat : Int)) = (leNat ((fieldL s at_ size).drop (k - 1)) : Int) := by
      rw [IntKind.wrap_u64, IntKind.wrap_u64, IntKind.wrap_u64]; omega
    have ek : ((k - 1 : Nat) : Int) = (k : Int) - 1 := by omega
    refine awp_skip (thn_n (awp_seq (awp_block (awp_region (aL_s true rfl rfl (fun _ => q_move rfl) (aL_s true rfl rfl (fun _ => q_mul rfl rfl) (aL_s true rfl rfl (fun _ => q_move rfl) ?_)))))))
    refine aL_s true rfl rfl (fun _ => q_move rfl) (aL_s true rfl rfl (fun _ => q_move rfl) ?_)
    refine aL_s true rfl rfl (fun _ => q_addi rfl rfl (by omega)) ?_
    refine aL_s true rfl rfl (fun _ => q_idxStr (at_ + (k - 1)) Tryz.underlying9 rfl rfl (by omega) (hu')) ?_
    refine aL_s true rfl rfl (fun _ => q_convI (by kernel_rfl) Tryz.underlying115 rfl) ?_
    refine aL_s true rfl rfl (fun _ => q_add rfl rfl) (aL_s true rfl rfl (fun _ => q_assign rfl) (aL_nil (blk_n (thn_n (awp_region (aL_s true rfl rfl (fun _ => q_move rfl) ?_))))))
    refine aL_s true rfl rfl (fun _ => q_subi rfl rfl (by omega)) ?_
    refine aL_s true rfl rfl (fun _ => q_assign rfl) (aL_nil (thn_n ?_))
    refine ⟨[0, 1, 2, 3, 10, 11], [], [], rfl, ?_⟩
    refine ⟨k - 1, ⟨by omega, ?_⟩, by omega⟩
    rw [ek, ← e]; rfl
   ·skip
    have hk0 : k = 0 := by simp at h2; omega
    subst hk0
    have hlt := le8 (l := (fieldL s at_ size).drop 0) (by rw [List.length_drop]; omega)
    have e : IntKind.i64.wrap (leNat ((fieldL s at_ size).drop 0) : Int) = getI (fieldL s at_ size) size (decide (size = 8)) := by
      rw [List.drop_zero] at hlt ⊢
      rcases h88.out with rfl | rfl
      · show _ = toI64 _
        unfold toI64; rw [IntKind.wrap_i64]; split <;> omega
      · show _ = if 2 * leNat (fieldL s at_ 8) < 18446744073709551616 then (leNat (fieldL s at_ 8) : Int) else (leNat (fieldL s at_ 8) : Int) - 18446744073709551616
        rw [IntKind.wrap_i64]; split <;> omega
    refine awp_exit (thn_e (thn_e (blk_hit (thn_n (awp_seq (awp_seq (awp_region ?_)))))))
    refine aL_s true rfl rfl (fun _ => q_move rfl) (aL_s true rfl rfl (fun _ => q_not rfl) (aL_s true rfl rfl (fun _ => q_move rfl) (aL_s _ rfl rfl (fun hc => q_move rfl) (aL_s _ rfl rfl (fun hc => q_eql (ev_yes rfl hc) rfl) (aL_s true rfl rfl (fun _ => q_or rfl rfl (fun h => gf rfl h)) (aL_nil (thn_n ?_)))))))
    refine awp_cond _ rfl (fun h3 => ?_) (fun h3 => ?_)
    ·skip
     refine awp_seq (awp_region (aL_s true rfl rfl (fun _ => q_move rfl) ?_))
     refine aL_s true rfl rfl (fun _ => q_convI (by kernel_rfl) Tryz.underlying3 rfl) ?_
     refine aL_s true rfl rfl (fun _ => q_assign rfl) (aL_s true rfl rfl (fun _ => q_assign rfl) (aL_nil (thn_n (awp_ret (thn_r ?_)))))
     refine fin2 [] [] rfl Tryz.results106 rfl rfl ?_ (.inr rfl)
     rw [e]
    ·skip
     exfalso; simp at h3
theorem put01_fn (s : ByteArray) (at_ : Nat) (size : Nat) (n : Int) (hs : s.size ≤ maxLen) (h8 : size = 1 ∨ size = 8) (h1 : at_ + size ≤ s.size) (hn : I64 n) (hn1 : size = 1 → 0 ≤ n ∧ n < 256) : Con Tryz.prog 107 [.string s, .int .i64 at_, .int .i64 size, .int .i64 n] [] [] fun r _ _ => r = .tuple #[.string (ofBytes (splice s.data.toList at_ (numBytes n size))), .bool true] := by
  have hm := hs
  unfold maxLen at hm
  unfold I64 at hn
  have h88 := Lib.hid h8
  have hz : size ≤ 8 := by omega
  have hz1 : 1 ≤ size := by omega
  clear h8
  have hsl : s.data.toList.length = s.size := rfl
  have e0 : IntKind.u64.wrap n = IntKind.u64.wrap n / 256 ^ 0 := by simp
  have e1 : s.extract 0 at_ = ofBytes (s.data.toList.take at_ ++ numBytes n 0) := by
    rw [← ofB_data s, ofB_extract, ofB_data]; simp [numBytes]
  have htl : (s.data.toList.take at_).length = at_ := by rw [List.length_take]; omega
  refine Con.enter Tryz.func107 rfl (by simp [Tryz.ntmps107]) ?_
  show awp _ _ _ _ ⟨[(0, true, _), (1, true, _), (2, true, _), (3, true, _)], _, _⟩
  refine awp_seq (awp_region (aL_s true rfl rfl (fun _ => q_assign rfl) (aL_s true rfl rfl (fun _ => q_assign rfl) (aL_nil (thn_n (awp_seq (awp_seq ?_)))))))
  refine awp_region (aL_s true rfl rfl (fun _ => q_move rfl) (aL_s true rfl rfl (fun _ => q_move rfl) (aL_s true rfl rfl (fun _ => q_move rfl) ?_)))
  refine aL_s true rfl rfl (fun _ => q_call (by kernel_rfl) rfl (fun w S fp hst => (field01_fn s at_ size hs h88.out (by omega) (by omega)).quiet0 hst)) ?_
  refine aL_s true rfl rfl (fun _ => q_not rfl) (aL_nil (thn_n ?_))
  refine awp_cond _ rfl (fun h1 => ?_) (fun h1 => ?_)
  ·skip
   exfalso; exact absurd h1 (by decide)
  ·skip
   refine awp_skip (thn_n (awp_seq (awp_seq (awp_region (aL_s true rfl rfl (fun _ => q_move rfl) (aL_s true rfl rfl (fun _ => q_lss rfl rfl) (aL_nil ?_)))))))
   refine thn_n ?_
   refine awp_cond _ rfl (fun h2 => ?_) (fun h2 => ?_)
   ·skip
    have hsz1 : size = 1 := by have := h88.out; simp at h2; omega
    refine awp_seq (awp_region (aL_s true rfl rfl (fun _ => q_assign rfl) (aL_nil (thn_n (awp_seq (awp_seq (awp_region ?_)))))))
    refine aL_s true rfl rfl (fun _ => q_assign rfl) (aL_nil (thn_n (awp_block (awp_loopK [0, 1, 2, 3, 10, 11] [] [] (fun (k : Nat) t => k ≤ 1 ∧ t = ⟨[(0, true, .string s), (1, true, .int .i64 at_), (2, true, .int .i64 size), (3, true, .int .i64 n), (10, true, .int .i64 (if k = 0 then 1 else 256)), (11, true, .int .i64 k)], [], []⟩) (fun k => 1 - k) rfl (⟨0, Nat.zero_le _, rfl⟩) ?_))))
    rintro k t ⟨hk, rfl⟩
    refine awp_seq (awp_seq (awp_region (aL_s true rfl rfl (fun _ => q_move rfl) (aL_s true rfl rfl (fun _ => q_move rfl) (aL_s true rfl rfl (fun _ => q_lss rfl rfl) (aL_nil (thn_n ?_)))))))
    refine awp_cond _ rfl (fun h3 => ?_) (fun h3 => ?_)
    ·skip
     obtain rfl : k = 0 := by simp at h3; omega
     refine awp_skip (thn_n (awp_seq (awp_block (awp_region (aL_s true rfl rfl (fun _ => q_move rfl) ?_)))))
     refine aL_s true rfl rfl (fun _ => q_muli rfl rfl (by omega)) ?_
     refine aL_s true rfl rfl (fun _ => q_assign rfl) (aL_nil (blk_n (thn_n (awp_region (aL_s true rfl rfl (fun _ => q_move rfl) ?_)))))
     refine aL_s true rfl rfl (fun _ => q_addi rfl rfl (by omega)) ?_
     refine aL_s true rfl rfl (fun _ => q_assign rfl) (aL_nil (thn_n ?_))
     refine ⟨[0, 1, 2, 3, 10, 11], [], [], rfl, ?_⟩
     refine ⟨1, ⟨Nat.le_refl _, rfl⟩, by omega⟩
    ·skip
     obtain rfl : k = 1 := by simp at h3; omega
     refine awp_exit (thn_e (thn_e (blk_hit (thn_n (awp_seq (awp_region (aL_s true rfl rfl (fun _ => q_move rfl) ?_)))))))
     refine aL_s true rfl rfl (fun _ => q_move rfl) (aL_s true rfl rfl (fun _ => q_neg rfl) ?_)
     refine aL_s true rfl rfl (fun _ => q_quo rfl rfl (by decide)) ?_
     refine aL_s true rfl rfl (fun _ => q_lss rfl rfl) (aL_s true rfl rfl (fun _ => q_move rfl) (aL_s _ rfl rfl (fun hc => q_move rfl) (aL_s _ rfl rfl (fun hc => q_move rfl) (aL_s _ rfl rfl (fun hc => q_geq (ev_yes rfl hc) (ev_yes rfl hc)) (aL_s true rfl rfl (fun _ => q_or rfl rfl (fun h => gf rfl h)) (aL_nil (thn_n ?_)))))))
     refine awp_cond _ rfl (fun h4 => ?_) (fun h4 => ?_)
     ·skip
      exfalso; have := hn1 hsz1
      rw [if_neg (by decide), show IntKind.i64.wrap ((IntKind.i64.wrap (0 - 256)).tdiv 2) = -128 from by decide] at h4
      simp only [Bool.or_eq_true, decide_eq_true_eq] at h4; omega
     ·skip
      refine awp_skip (thn_n (awp_seq (awp_region (aL_s true rfl rfl (fun _ => q_move rfl) ?_))))
      refine aL_s true rfl rfl (fun _ => q_convI (by kernel_rfl) Tryz.underlying115 rfl) ?_
      refine aL_s true rfl rfl (fun _ => q_assign rfl) (aL_nil (thn_n (awp_seq (awp_region (aL_s true rfl rfl (fun _ => q_move rfl) (aL_s true rfl rfl (fun _ => q_move rfl) ?_))))))
      refine aL_s true rfl rfl (fun _ => q_strHi Tryz.underlying9 rfl rfl (by omega) (by omega)) ?_
      refine aL_s true rfl rfl (fun _ => q_assign rfl) (aL_nil (thn_n (awp_seq (awp_seq (awp_region (aL_s true rfl rfl (fun _ => q_assign rfl) (aL_nil ?_)))))))
      refine thn_n (awp_block ?_)
      refine awp_loopK [0, 1, 2, 3, 12, 13, 14] [] [] (fun (k : Nat) t => k ≤ size ∧ t = ⟨[(0, true, .string s), (1, true, .int .i64 at_), (2, true, .int .i64 size), (3, true, .int .i64 n), (12, true, .int .u64 (IntKind.u64.wrap n / 256 ^ k)), (13, true, .string (ofBytes (s.data.toList.take at_ ++ numBytes n k))), (14, true, .int .i64 k)], [], []⟩) (fun k => size - k) rfl (⟨0, Nat.zero_le _, by rw [← e0, ← e1]; rfl⟩) ?_
      rintro k t ⟨hk, rfl⟩
      refine awp_seq (awp_seq (awp_region (aL_s true rfl rfl (fun _ => q_move rfl) (aL_s true rfl rfl (fun _ => q_move rfl) (aL_s true rfl rfl (fun _ => q_lss rfl rfl) (aL_nil (thn_n ?_)))))))
      refine awp_cond _ rfl (fun h5 => ?_) (fun h5 => ?_)
      ·skip
       have hkl : k < size := by simpa using h5
       refine awp_skip (thn_n (awp_seq (awp_block (awp_seq (awp_region (aL_s true rfl rfl (fun _ => q_move rfl) (aL_s true rfl rfl (fun _ => q_move rfl) ?_)))))))
       refine aL_s true rfl rfl (fun _ => q_rem rfl rfl (by decide)) ?_
       refine aL_s true rfl rfl (fun _ => q_convU8 (by kernel_rfl) Tryz.underlying5 rfl) ?_
       refine aL_eff (q := true) rfl (w_lit (zs := [.int .u8 0]) (l := [(0, .tmp 52)]) el81 (by kernel_rfl) (by decide) (by decide) (by decide) rfl rfl rfl (.more rfl (.v rfl .nil) .nil) rfl rfl (fun v16_4 => ?_))
       refine aL_hp (by (try simp only [nM, nN]); rfl) ?_
       refine aL_s true rfl rfl (fun _ => q_bytesStr 0 [byteI ((IntKind.u64.wrap n / 256 ^ k).tmod 256)] Tryz.underlying81 Tryz.underlying5 Tryz.underlying9 rfl rfl rfl (by simp)) ?_
       refine aL_s true rfl rfl (fun _ => qs_add rfl rfl (by rw [ofBytes_size, ofBytes_size, List.length_append, htl, numBytes_length]; show at_ + k + 1 ≤ _; omega)) ?_
       refine aL_s true rfl rfl (fun _ => q_assign rfl) (aL_nil (thn_n (awp_region (aL_s true rfl rfl (fun _ => q_move rfl) ?_))))
       refine aL_s true rfl rfl (fun _ => q_quo rfl rfl (by decide)) ?_
       refine aL_s true rfl rfl (fun _ => q_assign rfl) (aL_nil (blk_n (thn_n (awp_region (aL_s true rfl rfl (fun _ => q_move rfl) ?_)))))
       refine aL_s true rfl rfl (fun _ => q_addi rfl rfl (by omega)) ?_
       refine aL_s true rfl rfl (fun _ => q_assign rfl) (aL_nil (thn_n ?_))
       refine ⟨[0, 1, 2, 3, 12, 13, 14], [], [], rfl, ?_⟩
       refine ⟨k + 1, ⟨by omega, ?_⟩, by omega⟩
       rw [← u64_quo (by omega), numBytes_succ, ← List.append_assoc, ← u64_step (n := n) (k := k) (by omega), ← ofB_add]; rfl
      ·skip
       obtain rfl : k = size := by simp at h5; omega
       refine awp_exit (thn_e (thn_e (blk_hit (thn_n (awp_seq (awp_region (aL_s true rfl rfl (fun _ => q_move rfl) ?_)))))))
       refine aL_s true rfl rfl (fun _ => q_move rfl) (aL_s true rfl rfl (fun _ => q_move rfl) (aL_s true rfl rfl (fun _ => q_move rfl) ?_))
       refine aL_s true rfl rfl (fun _ => q_addi rfl rfl (by omega)) ?_
       refine aL_s true rfl rfl (fun _ => q_strLo Tryz.underlying9 rfl rfl (by omega) (by omega)) ?_
       refine aL_s true rfl rfl (fun _ => qs_add rfl rfl (by rw [ofBytes_size, List.length_append, htl, numBytes_length, ByteArray.size_extract]; omega)) ?_
       refine aL_s true rfl rfl (fun _ => q_assign rfl) (aL_s true rfl rfl (fun _ => q_assign rfl) (aL_nil (thn_n (awp_ret ?_))))
       refine fin2 [] [] rfl Tryz.results107 rfl rfl ?_ (.inr rfl)
       have e : s.extract ((at_ : Int) + k).toNat s.size = ofBytes (s.data.toList.drop (at_ + k)) := by
         rw [← ofB_data s, ofB_extract, ofB_data]
         rw [show ((at_ : Int) + k).toNat = at_ + k by omega, List.take_of_length_le (by rw [List.length_drop]; omega)]
       rw [e, ofB_add]
       unfold splice; rw [numBytes_length, List.append_assoc]
   ·skip
    refine awp_skip (thn_n (awp_seq (awp_region (aL_s true rfl rfl (fun _ => q_move rfl) ?_))))
    refine aL_s true rfl rfl (fun _ => q_convI (by kernel_rfl) Tryz.underlying115 rfl) ?_
    refine aL_s true rfl rfl (fun _ => q_assign rfl) (aL_nil (thn_n (awp_seq (awp_region (aL_s true rfl rfl (fun _ => q_move rfl) (aL_s true rfl rfl (fun _ => q_move rfl) ?_))))))
    refine aL_s true rfl rfl (fun _ => q_strHi Tryz.underlying9 rfl rfl (by omega) (by omega)) ?_
    refine aL_s true rfl rfl (fun _ => q_assign rfl) (aL_nil (thn_n (awp_seq (awp_seq (awp_region (aL_s true rfl rfl (fun _ => q_assign rfl) (aL_nil ?_)))))))
    refine thn_n (awp_block ?_)
    refine awp_loopK [0, 1, 2, 3, 12, 13, 14] [] [] (fun (k : Nat) t => k ≤ size ∧ t = ⟨[(0, true, .string s), (1, true, .int .i64 at_), (2, true, .int .i64 size), (3, true, .int .i64 n), (12, true, .int .u64 (IntKind.u64.wrap n / 256 ^ k)), (13, true, .string (ofBytes (s.data.toList.take at_ ++ numBytes n k))), (14, true, .int .i64 k)], [], []⟩) (fun k => size - k) rfl (⟨0, Nat.zero_le _, by rw [← e0, ← e1]; rfl⟩) ?_
    rintro k t ⟨hk, rfl⟩
    refine awp_seq (awp_seq (awp_region (aL_s true rfl rfl (fun _ => q_move rfl) (aL_s true rfl rfl (fun _ => q_move rfl) (aL_s true rfl rfl (fun _ => q_lss rfl rfl) (aL_nil (thn_n ?_)))))))
    refine awp_cond _ rfl (fun h6 => ?_) (fun h6 => ?_)
    ·skip
     have hkl : k < size := by simpa using h6
     refine awp_skip (thn_n (awp_seq (awp_block (awp_seq (awp_region (aL_s true rfl rfl (fun _ => q_move rfl) (aL_s true rfl rfl (fun _ => q_move rfl) ?_)))))))
     refine aL_s true rfl rfl (fun _ => q_rem rfl rfl (by decide)) ?_
     refine aL_s true rfl rfl (fun _ => q_convU8 (by kernel_rfl) Tryz.underlying5 rfl) ?_
     refine aL_eff (q := true) rfl (w_lit (zs := [.int .u8 0]) (l := [(0, .tmp 52)]) el81 (by kernel_rfl) (by decide) (by decide) (by decide) rfl rfl rfl (.more rfl (.v rfl .nil) .nil) rfl rfl (fun v16_4 => ?_))
     refine aL_hp (by (try simp only [nM, nN]); rfl) ?_
     refine aL_s true rfl rfl (fun _ => q_bytesStr 0 [byteI ((IntKind.u64.wrap n / 256 ^ k).tmod 256)] Tryz.underlying81 Tryz.underlying5 Tryz.underlying9 rfl rfl rfl (by simp)) ?_
     refine aL_s true rfl rfl (fun _ => qs_add rfl rfl (by rw [ofBytes_size, ofBytes_size, List.length_append, htl, numBytes_length]; show at_ + k + 1 ≤ _; omega)) ?_
     refine aL_s true rfl rfl (fun _ => q_assign rfl) (aL_nil (thn_n (awp_region (aL_s true rfl rfl (fun _ => q_move rfl) ?_))))
     refine aL_s true rfl rfl (fun _ => q_quo rfl rfl (by decide)) ?_
     refine aL_s true rfl rfl (fun _ => q_assign rfl) (aL_nil (blk_n (thn_n (awp_region (aL_s true rfl rfl (fun _ => q_move rfl) ?_)))))
     refine aL_s true rfl rfl (fun _ => q_addi rfl rfl (by omega)) ?_
     refine aL_s true rfl rfl (fun _ => q_assign rfl) (aL_nil (thn_n ?_))
     refine ⟨[0, 1, 2, 3, 12, 13, 14], [], [], rfl, ?_⟩
     refine ⟨k + 1, ⟨by omega, ?_⟩, by omega⟩
     rw [← u64_quo (by omega), numBytes_succ, ← List.append_assoc, ← u64_step (n := n) (k := k) (by omega), ← ofB_add]; rfl
    ·skip
     obtain rfl : k = size := by simp at h6; omega
     refine awp_exit (thn_e (thn_e (blk_hit (thn_n (awp_seq (awp_region (aL_s true rfl rfl (fun _ => q_move rfl) ?_)))))))
     refine aL_s true rfl rfl (fun _ => q_move rfl) (aL_s true rfl rfl (fun _ => q_move rfl) (aL_s true rfl rfl (fun _ => q_move rfl) ?_))
     refine aL_s true rfl rfl (fun _ => q_addi rfl rfl (by omega)) ?_
     refine aL_s true rfl rfl (fun _ => q_strLo Tryz.underlying9 rfl rfl (by omega) (by omega)) ?_
     refine aL_s true rfl rfl (fun _ => qs_add rfl rfl (by rw [ofBytes_size, List.length_append, htl, numBytes_length, ByteArray.size_extract]; omega)) ?_
     refine aL_s true rfl rfl (fun _ => q_assign rfl) (aL_s true rfl rfl (fun _ => q_assign rfl) (aL_nil (thn_n (awp_ret ?_))))
     refine fin2 [] [] rfl Tryz.results107 rfl rfl ?_ (.inr rfl)
     have e : s.extract ((at_ : Int) + k).toNat s.size = ofBytes (s.data.toList.drop (at_ + k)) := by
       rw [← ofB_data s, ofB_extract, ofB_data]
       rw [show ((at_ : Int) + k).toNat = at_ + k by omega, List.take_of_length_le (by rw [List.length_drop]; omega)]
     rw [e, ofB_add]
     unfold splice; rw [numBytes_length, List.append_assoc]
end Go.Proofs.YtpgcoceggacplaaGreatDoor
namespace Go.Proofs.YtpgcoceggacplaaGreatDoor
open Go.RowKit Go.Lp Go.Sy
theorem get01_i (s : ByteArray) (a size : Int) (hs : s.size ≤ maxLen) (h8 : size = 1 ∨ size = 8) (h0 : 0 ≤ a) (h1 : a + size ≤ s.size) : Con Tryz.prog 106 [.string s, .int .i64 a, .int .i64 size, .bool (decide (size = 8))] [] [] fun r _ _ => r = .tuple #[.int .i64 (getI (fieldL s a.toNat size.toNat) size.toNat (decide (size = 8))), .bool true] := by
  obtain ⟨j, rfl⟩ := Int.eq_ofNat_of_zero_le h0
  rcases h8 with rfl | rfl
  · exact get01_fn s j 1 hs (.inl rfl) (by omega)
  · exact get01_fn s j 8 hs (.inr rfl) (by omega)
theorem put01_i (s : ByteArray) (a size n : Int) (hs : s.size ≤ maxLen) (h8 : size = 1 ∨ size = 8) (h0 : 0 ≤ a) (h1 : a + size ≤ s.size) (hn : I64 n) (hn1 : size = 1 → 0 ≤ n ∧ n < 256) : Con Tryz.prog 107 [.string s, .int .i64 a, .int .i64 size, .int .i64 n] [] [] fun r _ _ => r = .tuple #[.string (ofBytes (splice s.data.toList a.toNat (numBytes n size.toNat))), .bool true] := by
  obtain ⟨j, rfl⟩ := Int.eq_ofNat_of_zero_le h0
  rcases h8 with rfl | rfl
  · exact put01_fn s j 1 n hs (.inl rfl) (by omega) hn (fun _ => hn1 rfl)
  · exact put01_fn s j 8 n hs (.inr rfl) (by omega) hn (fun h => by omega)
theorem acc_zero {M : Mem} {at_ size : Int} (h : accM M at_ size = 0) : (size = 1 ∨ size = 8) ∧ ∃ k x, findI M at_ size = some k ∧ M[k]? = some x ∧ mfind M at_ size = some x ∧ holds at_ size x.1 = true := by
  unfold accM at h
  split at h
  · omega
  · rename_i h8
    split at h
    · omega
    · split at h
      · omega
      · rename_i hm
        cases hk : findI M at_ size with
        | none => exact absurd (findI_none hk) hm
        | some k =>
          obtain ⟨x, h1, h2, h3⟩ := findI_some hk
          exact ⟨by omega, k, x, rfl, h1, h2, h3⟩
theorem holds_iff {at_ size : Int} {a : Ar} : holds at_ size a = true ↔ a.at_ ≤ at_ ∧ at_ < a.at_ + a.size ∧ size ≤ a.at_ + a.size - at_ := by
  unfold holds; simp [and_assoc]
section
variable (p : Nat) (M : Mem) (dA dB : Option Addr) (cA cB : Nat) (hI : MInv M) (hl : M.length ≤ 4096)
include hI hl
theorem load28_fn (at_ size : Int) (hat : I64 at_) (hsz : I64 size) :
    Con Tryz.prog 87 [.pointer (some ⟨p, 0, none⟩), .int .i64 at_, .int .i64 size] (rfP M p cA cB dA dB) [] fun r _ _ => r = .tuple #[.int .i64 (loadM M at_ size).1, .int .i64 (loadM M at_ size).2] := by
  have HI := Lib.hid hI
  clear hI
  unfold I64 at hat hsz
  refine Con.enter Tryz.func87 rfl (by simp [Tryz.ntmps87]) ?_
  show awp _ _ _ _ ⟨[(0, true, _), (1, true, _), (2, true, _)], _, _⟩
  refine awp_seq (awp_region (aL_s true rfl rfl (fun _ => q_assign rfl) (aL_s true rfl rfl (fun _ => q_assign rfl) (aL_nil (thn_n (awp_seq (awp_region ?_)))))))
  refine aL_s true rfl rfl (fun _ => q_move rfl) (aL_s true rfl rfl (fun _ => q_move rfl) (aL_s true rfl rfl (fun _ => q_move rfl) ?_))
  refine aL_s true rfl rfl (fun _ => q_call (by kernel_rfl) rfl (fun w S fp hst => (check28_fn p M dA dB cA cB HI.out.right hl at_ size hat hsz).quiet (fun _ h => h) hst)) ?_
  refine aL_s true rfl rfl (fun _ => q_move rfl) (aL_s true rfl rfl (fun _ => q_extract rfl rfl) (aL_s true rfl rfl (fun _ => q_extract rfl rfl) (aL_s true rfl rfl (fun _ => q_assign rfl) (aL_s true rfl rfl (fun _ => q_assign rfl) (aL_nil (thn_n (awp_seq ?_)))))))
  refine awp_seq (awp_region (aL_s true rfl rfl (fun _ => q_move rfl) (aL_s true rfl rfl (fun _ => q_neq rfl rfl) (aL_nil (thn_n ?_)))))
  refine awp_cond _ rfl (fun h1 => ?_) (fun h1 => ?_)
  ·skip
   refine awp_seq (awp_region (aL_s true rfl rfl (fun _ => q_move rfl) (aL_s true rfl rfl (fun _ => q_assign rfl) (aL_s true rfl rfl (fun _ => q_assign rfl) (aL_nil (thn_n (awp_ret ?_)))))))
   refine thn_r ?_
   refine fin2 [] [] rfl Tryz.results87 rfl rfl ?_ (.inr rfl)
   have hne : accM M at_ size ≠ 0 := by simpa using h1
   unfold loadM; rw [if_pos hne]; rfl
  ·skip
   have hz : accM M at_ size = 0 := by simpa using h1
   obtain ⟨h8, k, x, hk, hx, hm, hh⟩ := acc_zero hz
   rw [if_pos hz, hk]
   have hxr := rightA_iff.1 (HI.out.right _ (List.mem_of_getElem? hx))
   have hxl := HI.out.len _ (List.mem_of_getElem? hx)
   have hh' := holds_iff.1 hh
   have hs8 : size ≤ 8 := by omega
   have hs1 : 1 ≤ size := by omega
   have H8 := Lib.hid h8
   clear h8
   refine awp_skip (thn_n (awp_seq ?_))
   refine awp_drawn [] (by kernel_rfl) ?_
   show aB _ _ _ _ _ 26 #[false, false, false, false, false, false, false, false, false, false, false, false, false, false, false, false, false, false, false, false, false, false, false, false, false, false] _
   refine aB_s 0 rfl (by kernel_rfl) true rfl rfl (fun _ => q_move rfl) ?_
   refine aB_hp (by simp only [nO, nK, nL]; rfl) rfl ?_
   refine aB_s 1 rfl (by kernel_rfl) true rfl rfl (fun _ => q_nilCheck rfl) ?_
   refine aB_hp (by simp only [nO, nK, nL]; rfl) rfl ?_
   refine aB_s 2 rfl (by kernel_rfl) true rfl rfl (fun _ => q_fieldAddr (off := 1) (by kernel_rfl) rfl) ?_
   refine aB_hp (by simp only [nO, nK, nL]; rfl) rfl ?_
   refine aB_s 3 rfl (by kernel_rfl) true rfl rfl (fun _ => q_loadP 1 tk78 rfl (psAt 2 rfl) rfl rfl) ?_
   refine aB_hp (by simp only [nO, nK, nL]; rfl) rfl ?_
   refine aB_s 4 rfl (by kernel_rfl) true rfl rfl (fun _ => q_move rfl) ?_
   refine aB_hp (by simp only [nO, nK, nL]; rfl) rfl ?_
   refine aB_E 5 rfl (by kernel_rfl) true rfl rfl (fun _ => q_indexAddr Tryz.underlying78 tk9 rfl (psAt 0 rfl) rfl (row := [.v (.string (ofBytes x.2))]) (by simp [rfB, hx]) rfl rfl) (fun h => absurd h (by decide)) (fun ⟨b4_5, o4_5⟩ => ?_)
   refine aB_hp (by simp only [nO, nK, nL]; rfl) rfl ?_
   refine aB_s 6 rfl (by kernel_rfl) true rfl rfl (fun _ => q_loadD (o := 0) (v := .string (ofBytes x.2)) tk9 rfl (psAt 0 rfl) rfl rfl) ?_
   refine aB_hp (by simp only [nO, nK, nL]; rfl) rfl ?_
   refine aB_s 7 rfl (by kernel_rfl) true rfl rfl (fun _ => q_move rfl) ?_
   refine aB_hp (by simp only [nO, nK, nL]; rfl) rfl ?_
   refine aB_s 8 rfl (by kernel_rfl) true rfl rfl (fun _ => q_move rfl) ?_
   refine aB_hp (by simp only [nO, nK, nL]; rfl) rfl ?_
   refine aB_s 9 rfl (by kernel_rfl) true rfl rfl (fun _ => q_nilCheck rfl) ?_
   refine aB_hp (by simp only [nO, nK, nL]; rfl) rfl ?_
   refine aB_s 10 rfl (by kernel_rfl) true rfl rfl (fun _ => q_fieldAddr (off := 0) (by kernel_rfl) rfl) ?_
   refine aB_hp (by simp only [nO, nK, nL]; rfl) rfl ?_
   refine aB_s 11 rfl (by kernel_rfl) true rfl rfl (fun _ => q_loadP 0 tk77 rfl (psAt 3 rfl) rfl rfl) ?_
   refine aB_hp (by simp only [nO, nK, nL]; rfl) rfl ?_
   refine aB_s 12 rfl (by kernel_rfl) true rfl rfl (fun _ => q_move rfl) ?_
   refine aB_hp (by simp only [nO, nK, nL]; rfl) rfl ?_
   refine aB_E 13 rfl (by kernel_rfl) true rfl rfl (fun _ => q_indexAddr Tryz.underlying77 tk58 rfl (psAt 2 rfl) rfl (row := x.1.vals.map D.v) (by simp [rfA, hx]) rfl rfl) (fun h => absurd h (by decide)) (fun ⟨b4_13, o4_13⟩ => ?_)
   refine aB_hp (by simp only [nO, nK, nL]; rfl) rfl ?_
   refine aB_s 14 rfl (by kernel_rfl) true rfl rfl (fun _ => q_fieldAddr (off := 0) (by kernel_rfl) rfl) ?_
   refine aB_hp (by simp only [nO, nK, nL]; rfl) rfl ?_
   refine aB_s 15 rfl (by kernel_rfl) true rfl rfl (fun _ => q_loadD (o := 0) (v := .int .i64 x.1.at_) tk3 rfl (psAt 0 rfl) rfl rfl) ?_
   refine aB_hp (by simp only [nO, nK, nL]; rfl) rfl ?_
   refine aB_s 16 rfl (by kernel_rfl) true rfl rfl (fun _ => q_subi rfl rfl (by omega)) ?_
   refine aB_hp (by simp only [nO, nK, nL]; rfl) rfl ?_
   refine aB_s 17 rfl (by kernel_rfl) true rfl rfl (fun _ => q_move rfl) ?_
   refine aB_hp (by simp only [nO, nK, nL]; rfl) rfl ?_
   refine aB_s 18 rfl (by kernel_rfl) true rfl rfl (fun _ => q_move rfl) ?_
   refine aB_hp (by simp only [nO, nK, nL]; rfl) rfl ?_
   refine aB_s 19 rfl (by kernel_rfl) true rfl rfl (fun _ => q_eql rfl rfl) ?_
   refine aB_hp (by simp only [nO, nK, nL]; rfl) rfl ?_
   refine aB_s 20 rfl (by kernel_rfl) true rfl rfl (fun _ => q_call (by kernel_rfl) rfl (fun w S fp hst => (get01_i (ofBytes x.2) (at_ - x.1.at_) size (by rw [ofBytes_size]; unfold maxLen; omega) H8.out (by omega) (by rw [ofBytes_size]; omega)).quiet0 hst)) ?_
   refine aB_hp (by simp only [nO, nK, nL]; rfl) rfl ?_
   refine aB_s 21 rfl (by kernel_rfl) true rfl rfl (fun _ => q_move rfl) ?_
   refine aB_hp (by simp only [nO, nK, nL]; rfl) rfl ?_
   refine aB_s 22 rfl (by kernel_rfl) true rfl rfl (fun _ => q_extract rfl rfl) ?_
   refine aB_hp (by simp only [nO, nK, nL]; rfl) rfl ?_
   refine aB_s 23 rfl (by kernel_rfl) true rfl rfl (fun _ => q_extract rfl rfl) ?_
   refine aB_hp (by simp only [nO, nK, nL]; rfl) rfl ?_
   refine aB_s 24 rfl (by kernel_rfl) true rfl rfl (fun _ => q_assign rfl) ?_
   refine aB_hp (by simp only [nO, nK, nL]; rfl) rfl ?_
   refine aB_s 25 rfl (by kernel_rfl) true rfl rfl (fun _ => q_assign rfl) ?_
   refine aB_hp (by simp only [nO, nK, nL]; rfl) rfl ?_
   refine aB_nil (by kernel_rfl) ?_
   refine thn_n (awp_seq (awp_region (aL_s true rfl rfl (fun _ => q_move rfl) (aL_s true rfl rfl (fun _ => q_assign rfl) (aL_s true rfl rfl (fun _ => q_assign rfl) (aL_nil (thn_n ?_)))))))
   refine awp_ret ?_
   refine fin2 [] [] rfl Tryz.results87 rfl rfl ?_ (.inr rfl)
   unfold loadM; rw [if_neg (by rw [hz]; simp), hm]; rfl
theorem read28_fn (at_ size : Int) (hat : I64 at_) (hsz : I64 size) :
    Con Tryz.prog 12 [.pointer (some ⟨p, 0, none⟩), .int .i64 at_, .int .i64 size] (rfP M p cA cB dA dB) [] fun r _ _ => r = .tuple #[.string (ofBytes (readM M at_ size).1), .int .i64 (readM M at_ size).2] := by
  have HI := Lib.hid hI
  clear hI
  unfold I64 at hat hsz
  refine Con.enter Tryz.func12 rfl (by simp [Tryz.ntmps12]) ?_
  show awp _ _ _ _ ⟨[(0, true, _), (1, true, _), (2, true, _)], _, _⟩
  refine awp_seq (awp_region (aL_s true rfl rfl (fun _ => q_assign rfl) (aL_s true rfl rfl (fun _ => q_assign rfl) (aL_nil (thn_n (awp_seq (awp_seq ?_)))))))
  refine awp_region (aL_s true rfl rfl (fun _ => q_move rfl) (aL_s true rfl rfl (fun _ => q_lss rfl rfl) (aL_nil (thn_n ?_))))
  refine awp_cond _ rfl (fun h1 => ?_) (fun h1 => ?_)
  ·skip
   refine awp_seq (awp_region (aL_s true rfl rfl (fun _ => q_assign rfl) (aL_s true rfl rfl (fun _ => q_assign rfl) (aL_nil (thn_n (awp_ret (thn_r ?_)))))))
   refine fin2 [] [] rfl Tryz.results12 rfl rfl ?_ (.inr rfl)
   unfold readM; rw [if_pos (by simpa using h1)]; rfl
  ·skip
   refine awp_skip (thn_n (awp_seq (awp_seq (awp_region (aL_s true rfl rfl (fun _ => q_move rfl) (aL_s true rfl rfl (fun _ => q_eql rfl rfl) (aL_nil ?_)))))))
   refine thn_n ?_
   refine awp_cond _ rfl (fun h2 => ?_) (fun h2 => ?_)
   ·skip
    refine awp_seq (awp_region (aL_s true rfl rfl (fun _ => q_assign rfl) (aL_s true rfl rfl (fun _ => q_assign rfl) (aL_nil (thn_n (awp_ret (thn_r ?_)))))))
    refine fin2 [] [] rfl Tryz.results12 rfl rfl ?_ (.inr rfl)
    unfold readM; rw [if_neg (by simpa using h1), if_pos (by simpa using h2)]; rfl
   ·skip
    refine awp_skip (thn_n (awp_seq (awp_region (aL_s true rfl rfl (fun _ => q_move rfl) (aL_s true rfl rfl (fun _ => q_move rfl) (aL_s true rfl rfl (fun _ => q_move rfl) ?_))))))
    refine aL_s true rfl rfl (fun _ => q_call (by kernel_rfl) rfl (fun w S fp hst => (find28_fn p M dA dB cA cB at_ size hat hsz HI.out.right hl).quiet (fun _ h => h) hst)) ?_
    refine aL_s true rfl rfl (fun _ => q_assign rfl) (aL_nil (thn_n (awp_seq (awp_seq (awp_region (aL_s true rfl rfl (fun _ => q_move rfl) (aL_s true rfl rfl (fun _ => q_lss rfl rfl) ?_)))))))
    refine aL_nil (thn_n ?_)
    refine awp_cond _ rfl (fun h3 => ?_) (fun h3 => ?_)
    ·skip
     have hm := findI_none (numO_T h3)
     refine awp_seq (awp_region (aL_s true rfl rfl (fun _ => q_assign rfl) (aL_s true rfl rfl (fun _ => q_assign rfl) (aL_nil (thn_n (awp_ret (thn_r ?_)))))))
     refine fin2 [] [] rfl Tryz.results12 rfl rfl ?_ (.inr rfl)
     unfold readM; rw [if_neg (by simpa using h1), if_neg (by simpa using h2), hm]; rfl
    ·skip
     obtain ⟨k, hk⟩ := numO_F h3
     obtain ⟨x, hx, hm, hh⟩ := findI_some hk
     rw [hk]
     have hxr := rightA_iff.1 (HI.out.right _ (List.mem_of_getElem? hx))
     have hxl := HI.out.len _ (List.mem_of_getElem? hx)
     have hh' := holds_iff.1 hh
     have hs0 : 0 < size := by simp at h1 h2; omega
     refine awp_skip (thn_n (awp_seq (awp_region (aL_s true rfl rfl (fun _ => q_move rfl) (aL_s true rfl rfl (fun _ => q_move rfl) (aL_s true rfl rfl (fun _ => q_nilCheck rfl) ?_))))))
     refine aL_s true rfl rfl (fun _ => q_fieldAddr (off := 0) (by kernel_rfl) rfl) ?_
     refine aL_s true rfl rfl (fun _ => q_loadP 0 tk77 rfl (psAt 2 rfl) rfl rfl) (aL_s true rfl rfl (fun _ => q_move rfl) ?_)
     refine aL_E true rfl rfl (fun _ => q_indexAddr Tryz.underlying77 tk58 rfl (psAt 1 rfl) rfl (row := x.1.vals.map D.v) (by simp [rfA, hx]) rfl rfl) (fun h => absurd h (by decide)) (fun ⟨b8_6, o8_6⟩ => ?_)
     refine aL_s true rfl rfl (fun _ => q_fieldAddr (off := 0) (by kernel_rfl) rfl) ?_
     refine aL_s true rfl rfl (fun _ => q_loadD (o := 0) (v := .int .i64 x.1.at_) tk3 rfl (psAt 0 rfl) rfl rfl) ?_
     refine aL_s true rfl rfl (fun _ => q_subi rfl rfl (by omega)) ?_
     refine aL_s true rfl rfl (fun _ => q_assign rfl) (aL_nil (thn_n (awp_seq (awp_region (aL_s true rfl rfl (fun _ => q_move rfl) (aL_s true rfl rfl (fun _ => q_nilCheck rfl) ?_))))))
     refine aL_s true rfl rfl (fun _ => q_fieldAddr (off := 1) (by kernel_rfl) rfl) ?_
     refine aL_s true rfl rfl (fun _ => q_loadP 1 tk78 rfl (psAt 3 rfl) rfl rfl) (aL_s true rfl rfl (fun _ => q_move rfl) ?_)
     refine aL_E true rfl rfl (fun _ => q_indexAddr Tryz.underlying78 tk9 rfl (psAt 1 rfl) rfl (row := [.v (.string (ofBytes x.2))]) (by simp [rfB, hx]) rfl rfl) (fun h => absurd h (by decide)) (fun ⟨b9_5, o9_5⟩ => ?_)
     refine aL_s true rfl rfl (fun _ => q_loadD (o := 0) (v := .string (ofBytes x.2)) tk9 rfl (psAt 0 rfl) rfl rfl) (aL_s true rfl rfl (fun _ => q_move rfl) (aL_s true rfl rfl (fun _ => q_move rfl) (aL_s true rfl rfl (fun _ => q_move rfl) ?_)))
     refine aL_s true rfl rfl (fun _ => q_addi rfl rfl (by omega)) ?_
     refine aL_s true rfl rfl (fun _ => q_strLH Tryz.underlying9 rfl rfl rfl (by omega) (by omega) (by (rw [ofBytes_size]; omega))) ?_
     refine aL_s true rfl rfl (fun _ => q_assign rfl) (aL_s true rfl rfl (fun _ => q_assign rfl) (aL_nil (thn_n (awp_ret ?_))))
     refine fin2 [] [] rfl Tryz.results12 rfl rfl ?_ (.inr rfl)
     unfold readM; rw [if_neg (by omega), if_neg (by omega), hm]
     dsimp only
     rw [ofB_extract]
     unfold rng
     rw [show (at_ - x.1.at_ + size).toNat - (at_ - x.1.at_).toNat = size.toNat by omega]
end
end Go.Proofs.YtpgcoceggacplaaGreatDoor
namespace Go.Sy
open Go.RowKit Go.Lp
theorem St.split {w : World} {S : Blks} {fp : Nat → Blks} {ps : List Per} {hp : List Res} (h : St w S fp ps hp) {i : Nat} {R R' : Res} (hi : hp[i]? = some (Star R R')) :
    ∃ fp', St w S fp' ps (hp.set i R ++ [R']) ∧ ∀ b, tot fp' (hp.set i R ++ [R']).length b → tot fp hp.length b := by
  obtain ⟨G, H, h1, h2, h3, h4⟩ := h.res i _ hi
  have hil := (List.getElem?_eq_some_iff.1 hi).1
  have hG : ∀ b, G b → fp i b := fun b hb => (h4 b).2 (.inl hb)
  have hH : ∀ b, H b → fp i b := fun b hb => (h4 b).2 (.inr hb)
  have hlen : (hp.set i R ++ [R']).length = hp.length + 1 := by simp
  refine ⟨fun k => if k = i then G else if k = hp.length then H else fp k, ⟨h.per, fun k T hk => ?_, fun k hk b hb => ?_, fun k l hk hl hkl b hb hb' => ?_, h.slt⟩, fun b ⟨k, hk, hb⟩ => ?_⟩
  · by_cases hkl : k = hp.length
    · subst hkl
      rw [List.getElem?_append_right (by simp)] at hk
      simp at hk
      subst hk
      rw [if_neg (by omega), if_pos rfl]; exact h2
    · have hkl' : k < hp.length := by have := (List.getElem?_eq_some_iff.1 hk).1; rw [hlen] at this; omega
      rw [List.getElem?_append_left (by simpa using hkl')] at hk
      by_cases hki : k = i
      · subst hki
        rw [List.getElem?_set_self hil] at hk
        simp only [Option.some.injEq] at hk
        subst hk
        rw [if_pos rfl]; exact h1
      · rw [List.getElem?_set_ne (Ne.symm hki)] at hk
        rw [if_neg hki, if_neg hkl]; exact h.res k T hk
  · rw [hlen] at hk
    try dsimp only at hb
    split at hb
    · exact h.lt i hil b (hG b hb)
    · split at hb
      · exact h.lt i hil b (hH b hb)
      · exact h.lt k (by omega) b hb
  · rw [hlen] at hk hl
    try dsimp only at hb hb'
    split at hb
    · subst k
      rw [if_neg (Ne.symm hkl)] at hb'
      split at hb'
      · exact h3 b hb hb'
      · exact h.dj i l hil (by omega) hkl b (hG b hb) hb'
    · rename_i hki
      split at hb
      · subst k
        split at hb'
        · exact h3 b hb' hb
        · rw [if_neg (Ne.symm hkl)] at hb'
          exact h.dj i l hil (by omega) (by omega) b (hH b hb) hb'
      · rename_i hkn
        split at hb'
        · exact h.dj k i (by omega) hil hki b hb (hG b hb')
        · split at hb'
          · exact h.dj k i (by omega) hil hki b hb (hH b hb')
          · exact h.dj k l (by omega) (by omega) hkl b hb hb'
  · rw [hlen] at hk
    try dsimp only at hb
    split at hb
    · exact ⟨i, hil, hG b hb⟩
    · split at hb
      · exact ⟨i, hil, hH b hb⟩
      · exact ⟨k, by omega, hb⟩
section
variable {P : Program} {n : Nat} {env : Env} {ps : List Per} {hp : List Res} {c : Code} {Q : Exit → Sta → Prop}
theorem awp_split (i : Nat) {R R' : Res} (hi : hp[i]? = some (Star R R')) (h : awp P n c Q ⟨env, ps, hp.set i R ++ [R']⟩) : awp P n c Q ⟨env, ps, hp⟩ := awp_st (fun _ _ _ hst => hst.split hi) h
theorem own_slice {w : World} {S F : Blks} {v : Value} {E : TypeId} {sz : Nat} {rows : List (List D)} (h : (OwnS v E sz rows).holds w S F) : ∃ ad cc, v = .slice ad rows.length cc := by
  rcases h with ⟨rfl, rfl, _⟩ | ⟨b, cap, rfl, _⟩
  · exact ⟨none, 0, rfl⟩
  · exact ⟨_, cap, rfl⟩
end
end Go.Sy
namespace Go.Proofs.YtpgcoceggacplaaGreatDoor
open Go.RowKit Go.Lp Go.Sy
/-- the three parts of a reference's space -/
def Rf3 (p : Nat) (M : Mem) (va vb : Value) : Res := Star (Box p 80 [va, vb]) (Star (OwnS va 58 5 (rfA M)) (OwnS vb 9 1 (rfB M)))
/-- a reference's space -/
def RfR (p : Nat) (M : Mem) : Res :=
  ⟨fun w S F => (MInv M ∧ M.length ≤ 4096) ∧ ∃ va vb, (Rf3 p M va vb).holds w S F, fun ⟨h, va, vb, h'⟩ h1 h2 h3 => ⟨h, va, vb, (Rf3 p M va vb).mono h' h1 h2 h3⟩⟩
section
variable {w : World} {S : Blks} {fp : Nat → Blks} {ps : List Per} {hp : List Res} {p : Nat} {M : Mem}
theorem rf3_shape {w : World} {S F : Blks} {p : Nat} {M : Mem} {va vb : Value} (h : (Rf3 p M va vb).holds w S F) : ∃ dA cA dB cB, va = .slice dA M.length cA ∧ vb = .slice dB M.length cB := by
  obtain ⟨G, H, _, ⟨G', H', h1, h2, _⟩, _⟩ := h
  obtain ⟨dA, cA, e1⟩ := own_slice h1
  obtain ⟨dB, cB, e2⟩ := own_slice h2
  rw [show (rfA M).length = M.length by simp [rfA]] at e1
  rw [show (rfB M).length = M.length by simp [rfB]] at e2
  exact ⟨dA, cA, dB, cB, e1, e2⟩
theorem awp_rf {P : Program} {n : Nat} {env : Env} {c : Code} {Q : Exit → Sta → Prop} (i : Nat) (hi : hp[i]? = some (RfR p M))
    (h : MInv M → M.length ≤ 4096 → ∀ dA cA dB cB, awp P n c Q ⟨env, ps, ((hp.set i (Box p 80 [.slice dA M.length cA, .slice dB M.length cB])) ++ [OwnS (.slice dA M.length cA) 58 5 (rfA M)]) ++ [OwnS (.slice dB M.length cB) 9 1 (rfB M)]⟩) : awp P n c Q ⟨env, ps, hp⟩ := by
  have hil := (List.getElem?_eq_some_iff.1 hi).1
  refine awp_knowR i hi (fun w S F h => h.1) fun ⟨hI, hl⟩ => ?_
  refine awp_openE (β := Option Addr × Nat × Option Addr × Nat) i (fun x => Rf3 p M (.slice x.1 M.length x.2.1) (.slice x.2.2.1 M.length x.2.2.2)) hi (fun w S F h => ?_) fun ⟨dA, cA, dB, cB⟩ => ?_
  · obtain ⟨_, va, vb, h3⟩ := h
    obtain ⟨dA, cA, dB, cB, rfl, rfl⟩ := rf3_shape h3
    exact ⟨(dA, cA, dB, cB), h3⟩
  · refine awp_split i (by rw [List.getElem?_set_self hil]; rfl) ?_
    rw [List.set_set]
    refine awp_split hp.length (R := OwnS (.slice dA M.length cA) 58 5 (rfA M)) (R' := OwnS (.slice dB M.length cB) 9 1 (rfB M)) (by simp) ?_
    rw [List.set_append_right _ _ (by simp), List.length_set, Nat.sub_self]
    exact h hI hl dA cA dB cB
/-- what only looks at a reference's space -/
theorem q_lend3 {f : FuncId} {args : List Value} {v : Value} {dA dB : Option Addr} {cA cB : Nat} (h : Con Tryz.prog f args (rfP M p cA cB dA dB) [] fun r _ _ => r = v)
    (hst : St w S fp ps hp) (i j k : Nat) (hi : hp[i]? = some (Box p 80 [.slice dA M.length cA, .slice dB M.length cB])) (hj : hp[j]? = some (OwnS (.slice dA M.length cA) 58 5 (rfA M))) (hk : hp[k]? = some (OwnS (.slice dB M.length cB) 9 1 (rfB M))) :
    Calls Tryz.prog f args.toArray w fun e w' => e = .returned v ∧ Below w.heap.size w w' := by
  have hb := (hst.res i _ hi).1
  have hA := (st_share hst j hj).per _ (List.mem_cons_self ..)
  have hB := (st_share hst k hk).per _ (List.mem_cons_self ..)
  have hil := (List.getElem?_eq_some_iff.1 hi).1
  have hjl := (List.getElem?_eq_some_iff.1 hj).1
  have hkl := (List.getElem?_eq_some_iff.1 hk).1
  have hst2 : St w (fun b => S b ∨ fp j b ∨ fp k b ∨ b = p) (fun _ _ => False) (rfP M p cA cB dA dB) [] := by
    refine ⟨fun q hq => ?_, fun j R hR => by simp at hR, fun j hj => by simp at hj, fun j k hj => by simp at hj, fun b hb' => ?_⟩
    · simp only [List.mem_cons, List.not_mem_nil, or_false] at hq
      rcases hq with rfl | rfl | rfl
      · exact (Sh _ _).mono hB (fun _ _ => rfl) (fun b hb => hb.elim .inl fun h => .inr (.inr (.inl h)))
      · exact (Sh _ _).mono hA (fun _ _ => rfl) (fun b hb => hb.elim .inl fun h => .inr (.inl h))
      · refine ⟨.inr (.inr (.inr rfl)), fun m dd hm => ?_⟩
        rw [Nat.zero_add, cell_box hb]
        match m, hm with
        | 0, hm => injection hm with hm; subst hm; exact ⟨_, rfl, rfl, .v _⟩
        | 1, hm => injection hm with hm; subst hm; exact ⟨_, rfl, rfl, .v _⟩
        | m + 2, hm => cases hm
    · rcases hb' with h | h | h | h
      · exact hst.slt b h
      · exact (hst.lt j hjl b h).1
      · exact (hst.lt k hkl b h).1
      · rw [h]; exact lt_of_heap hb
  exact h.quiet (fun _ h => h) hst2
theorem q_lendR {f : FuncId} {args : List Value} {v : Value} (h : ∀ dA dB cA cB, MInv M → M.length ≤ 4096 → Con Tryz.prog f args (rfP M p cA cB dA dB) [] fun r _ _ => r = v)
    (hst : St w S fp ps hp) (i : Nat) (hi : hp[i]? = some (RfR p M)) : Calls Tryz.prog f args.toArray w fun e w' => e = .returned v ∧ Below w.heap.size w w' := by
  have hil := (List.getElem?_eq_some_iff.1 hi).1
  obtain ⟨⟨hI, hl⟩, va, vb, h3⟩ := hst.res i _ hi
  obtain ⟨dA, cA, dB, cB, rfl, rfl⟩ := rf3_shape h3
  have hst1 := hst.change hil (Nat.le_refl _) (fun _ _ _ => rfl) (Rf3 p M (.slice dA M.length cA) (.slice dB M.length cB)) h3
  obtain ⟨fp1, hst2, _⟩ := hst1.split (i := i) (by rw [List.getElem?_set_self hil]; rfl)
  rw [List.set_set] at hst2
  obtain ⟨fp2, hst3, _⟩ := hst2.split (i := hp.length) (R := OwnS (.slice dA M.length cA) 58 5 (rfA M)) (R' := OwnS (.slice dB M.length cB) 9 1 (rfB M)) (by simp)
  rw [List.set_append_right _ _ (by simp), List.length_set, Nat.sub_self] at hst3
  refine q_lend3 (h dA dB cA cB hI hl) hst3 i hp.length (hp.length + 1) ?_ ?_ ?_
  · rw [List.getElem?_append_left (by simp; omega), List.getElem?_append_left (by simpa using hil), List.getElem?_set_self hil]
  · rw [List.getElem?_append_left (by simp), List.getElem?_append_right (by simp)]; simp
  · rw [List.getElem?_append_right (by simp)]; simp
theorem awp_rfBack {P : Program} {n : Nat} {env : Env} {c : Code} {Q : Exit → Sta → Prop} (i j k : Nat) {M' : Mem} {va vb : Value} (hi : hp[i]? = some (Box p 80 [va, vb])) (hj : hp[j]? = some (OwnS va 58 5 (rfA M'))) (hk : hp[k]? = some (OwnS vb 9 1 (rfB M')))
    (hij : i ≠ j) (hik : i ≠ k) (hjk : j ≠ k) (hI : MInv M') (hl : M'.length ≤ 4096) (h : awp P n c Q ⟨env, ps, (((hp.set j emp).set k emp).set i (RfR p M'))⟩) : awp P n c Q ⟨env, ps, hp⟩ := by
  have hil := (List.getElem?_eq_some_iff.1 hi).1
  have hjl := (List.getElem?_eq_some_iff.1 hj).1
  have hkl := (List.getElem?_eq_some_iff.1 hk).1
  refine awp_star j k hj hk (by simpa using hjk) ?_
  refine awp_star i j (R := Box p 80 [va, vb]) (R' := Star (OwnS va 58 5 (rfA M')) (OwnS vb 9 1 (rfB M'))) ?_ ?_ (by simpa using hij) ?_
  · rw [List.getElem?_set_ne (Ne.symm hik), List.getElem?_set_ne (Ne.symm hij)]; exact hi
  · rw [List.getElem?_set_ne (Ne.symm hjk), List.getElem?_set_self hjl]
  · refine awp_conv i (R := Rf3 p M' va vb) (RfR p M') ?_ (fun w S F h => ⟨⟨hI, hl⟩, va, vb, h⟩) ?_
    · rw [List.getElem?_set_ne (Ne.symm hij), List.getElem?_set_self (by simpa using hil)]; rfl
    · refine cast (congrArg (fun l => awp P n c Q ⟨env, ps, l⟩) ?_) h
      apply List.ext_getElem?
      intro m
      simp only [List.getElem?_set, List.length_set]
      by_cases h1 : i = m
      · subst h1; simp [hil]
      · by_cases h2 : j = m
        · subst h2; simp [h1, hjl, Ne.symm hjk, hjk]
        · by_cases h3 : k = m <;> simp [h1, h2, h3]
end
theorem MInv_nil : MInv [] := ⟨fun x hx => (by cases hx), .nil, fun x hx => (by cases hx)⟩
theorem new28_fn : Con Tryz.prog 22 [] [] [] fun r ps' hp' => ps' = [] ∧ ∃ q, r = .pointer (some ⟨q, 0, none⟩) ∧ hp' = [RfR q []] := by
  refine Con.enter Tryz.func22 rfl (by simp [Tryz.ntmps22]) ?_
  show awp _ _ _ _ ⟨[], _, _⟩
  refine awp_seq (awp_region (aL_s true rfl rfl (fun _ => q_assign rfl) (aL_nil (thn_n (awp_seq (awp_region ?_))))))
  refine aL_s true rfl rfl (fun _ => q_bld (l := []) (zs := [.slice none 0 0, .slice none 0 0]) (pl := [(0, 1), (1, 1)]) (by kernel_rfl) (by kernel_rfl) (by kernel_rfl) rfl rfl rfl) ?_
  refine aL_eff (q := true) rfl (e_box rfl rfl rfl (fun b1_1 => ?_))
  simp only [nM, nN]
  refine aL_s true rfl rfl (fun _ => q_assign rfl) (aL_nil (thn_n (awp_nil 58 5 (awp_nil 9 1 ?_))))
  refine awp_rfBack (M' := []) 0 1 2 rfl rfl rfl (by decide) (by decide) (by decide) MInv_nil (by decide) ?_
  refine awp_ret ?_
  refine fin1 [] [0] rfl Tryz.results22 rfl ?_ (.inr rfl)
  exact ⟨rfl, _, rfl, rfl⟩
end Go.Proofs.YtpgcoceggacplaaGreatDoor
namespace Go.Proofs.YtpgcoceggacplaaGreatDoor
open Go.RowKit Go.Lp Go.Sy
theorem and255' {n : Int} (h : I64 n) : IntKind.i64.wrap (BitVec.ofInt IntKind.i64.bits n &&& BitVec.ofInt IntKind.i64.bits 255).toNat = n % 256 := by
  unfold I64 at h
  have e1 : (BitVec.ofInt 64 n).toNat = (n % 18446744073709551616).toNat := by rw [BitVec.toNat_ofInt]; rfl
  have e2 : (BitVec.ofInt 64 255).toNat = 255 := by decide
  show IntKind.i64.wrap (BitVec.ofInt 64 n &&& BitVec.ofInt 64 255).toNat = n % 256
  rw [BitVec.toNat_and, e1, e2, show (255 : Nat) = 2 ^ 8 - 1 from rfl, Nat.and_two_pow_sub_one_eq_mod, IntKind.wrap_i64]
  omega
theorem rfA_upd (M : Mem) (t : Int) (bs : List UInt8) : rfA (updM M t bs) = rfA M := by
  unfold rfA updM
  rw [List.map_map]
  apply List.map_congr_left
  intro x _
  simp only [Function.comp]; split <;> rfl
theorem rfB_upd {M : Mem} (hI : MInv M) {k : Nat} {x : Cell} (hx : M[k]? = some x) (bs : List UInt8) : rfB (updM M x.1.at_ bs) = (rfB M).set k (setD [.v (.string (ofBytes x.2))] 0 [.v (.string (ofBytes bs))]) := by
  have e : setD [.v (.string (ofBytes x.2))] 0 [.v (.string (ofBytes bs))] = [D.v (.string (ofBytes bs))] := rfl
  rw [e]
  obtain ⟨hk, rfl⟩ := List.getElem?_eq_some_iff.1 hx
  apply List.ext_getElem?
  intro m
  unfold rfB updM
  rw [List.map_map, List.getElem?_map, List.getElem?_set, List.length_map, List.getElem?_map]
  by_cases h1 : k = m
  · subst h1
    rw [if_pos rfl, if_pos hk, hx]
    simp
  · rw [if_neg h1]
    cases hm : M[m]? with
    | none => rfl
    | some y =>
      have hne : ¬ y.1.at_ = M[k].1.at_ := by
        intro he
        obtain ⟨hm', rfl⟩ := List.getElem?_eq_some_iff.1 hm
        have hp := List.pairwise_iff_getElem.1 hI.asc
        have r1 := rightA_iff.1 (hI.right _ (List.getElem_mem hk))
        have r2 := rightA_iff.1 (hI.right _ (List.getElem_mem hm'))
        rcases Nat.lt_trichotomy k m with h | h | h
        · have := hp k m hk hm' h; omega
        · exact h1 h
        · have := hp m k hm' hk h; omega
      simp [hne]
theorem updM_inv {M : Mem} (hI : MInv M) {k : Nat} {x : Cell} (hx : M[k]? = some x) {bs : List UInt8} (hb : bs.length = x.2.length) : MInv (updM M x.1.at_ bs) := by
  have hxm := List.mem_of_getElem? hx
  refine ⟨fun y hy => ?_, ?_, fun y hy => ?_⟩
  · obtain ⟨z, hz, rfl⟩ := List.mem_map.1 hy
    have := hI.right z hz
    split <;> exact this
  · unfold updM; rw [List.pairwise_map]
    refine hI.asc.imp fun {a b} h => ?_
    split <;> split <;> exact h
  · obtain ⟨z, hz, rfl⟩ := List.mem_map.1 hy
    split
    · rename_i h
      have := hI.pair hz hxm h
      subst this
      have := hI.len _ hz
      show (bs.length : Int) = z.1.size
      omega
    · exact hI.len z hz
@[simp] theorem rfA_length (M : Mem) : (rfA M).length = M.length := by simp [rfA]
@[simp] theorem rfB_length (M : Mem) : (rfB M).length = M.length := by simp [rfB]
theorem updM_length (M : Mem) (t : Int) (bs : List UInt8) : (updM M t bs).length = M.length := by simp [updM]
theorem store28_fn (p : Nat) (M : Mem) (at_ size n : Int) (hat : I64 at_) (hsz : I64 size) (hn : I64 n) :
    Con Tryz.prog 88 [.pointer (some ⟨p, 0, none⟩), .int .i64 at_, .int .i64 size, .int .i64 n] [] [RfR p M] fun r ps' hp' => r = .int .i64 (storeM M at_ size n).2 ∧ ps' = [] ∧ hp' = [RfR p (storeM M at_ size n).1] := by
  have hat' := hat
  have hsz' := hsz
  unfold I64 at hat' hsz'
  refine Con.enter Tryz.func88 rfl (by simp [Tryz.ntmps88]) ?_
  show awp _ _ _ _ ⟨[(0, true, _), (1, true, _), (2, true, _), (3, true, _)], _, _⟩
  refine awp_seq (awp_region (aL_s true rfl rfl (fun _ => q_assign rfl) (aL_nil (thn_n (awp_seq (awp_region (aL_s true rfl rfl (fun _ => q_move rfl) ?_)))))))
  refine aL_s true rfl rfl (fun _ => q_move rfl) (aL_s true rfl rfl (fun _ => q_move rfl) ?_)
  refine aL_s true rfl rfl (fun _ => q_call (by kernel_rfl) rfl (fun w S fp hst => q_lendR (fun dA dB cA cB hI hl => check28_fn p M dA dB cA cB hI.right hl at_ size hat hsz) hst 0 rfl)) ?_
  refine aL_s true rfl rfl (fun _ => q_move rfl) (aL_s true rfl rfl (fun _ => q_extract rfl rfl) (aL_s true rfl rfl (fun _ => q_extract rfl rfl) (aL_s true rfl rfl (fun _ => q_assign rfl) (aL_s true rfl rfl (fun _ => q_assign rfl) (aL_nil (thn_n (awp_seq ?_)))))))
  refine awp_seq (awp_region (aL_s true rfl rfl (fun _ => q_move rfl) (aL_s true rfl rfl (fun _ => q_neq rfl rfl) (aL_nil (thn_n ?_)))))
  refine awp_cond _ rfl (fun h1 => ?_) (fun h1 => ?_)
  ·skip
   refine awp_seq (awp_region (aL_s true rfl rfl (fun _ => q_move rfl) (aL_s true rfl rfl (fun _ => q_assign rfl) (aL_nil (thn_n ?_)))))
   skip
   refine awp_ret (thn_r ?_)
   refine fin1 [] [0] rfl Tryz.results88 rfl ?_ (.inr rfl)
   have hne : accM M at_ size ≠ 0 := by simpa using h1
   unfold storeM; rw [if_pos hne]; exact ⟨rfl, rfl, rfl⟩
  ·skip
   have hz : accM M at_ size = 0 := by simpa using h1
   obtain ⟨h8, k, x, hk, hx, hm, hh⟩ := acc_zero hz
   rw [if_pos hz, hk]
   refine awp_rf 0 rfl ?_
   intro hI hl dA cA dB cB
   show awp _ _ _ _ ⟨_, _, [Box p 80 _, OwnS _ _ _ _, OwnS _ _ _ _]⟩
   have hxr := rightA_iff.1 (hI.right _ (List.mem_of_getElem? hx))
   have hxl := hI.len _ (List.mem_of_getElem? hx)
   have hh' := holds_iff.1 hh
   have hs8 : size ≤ 8 := by omega
   have hs1 : 1 ≤ size := by omega
   have H8 := Lib.hid h8
   clear h8
   have hkl := (List.getElem?_eq_some_iff.1 hx).1
   have hlA : k < (rfA M).length := by simp [rfA, hkl]
   have hlB : k < (rfB M).length := by simp [rfB, hkl]
   have hrA : (rfA M)[k]? = some (x.1.vals.map D.v) := by simp [rfA, hx]
   have hrB : (rfB M)[k]? = some [.v (.string (ofBytes x.2))] := by simp [rfB, hx]
   have hneB : rfB M ≠ [] := fun h => by rw [h] at hlB; simp at hlB
   refine awp_skip (thn_n (awp_seq (awp_seq (awp_region (aL_s true rfl rfl (fun _ => q_move rfl) (aL_s true rfl rfl (fun _ => q_nilCheck rfl) ?_))))))
   refine aL_s true rfl rfl (fun _ => q_fieldAddr (off := 0) (by kernel_rfl) rfl) ?_
   refine aL_s true rfl rfl (fun _ => q_load 0 tk77 rfl rfl rfl) (aL_s true rfl rfl (fun _ => q_move rfl) (aL_s true rfl rfl (fun _ => q_idxO 1 k el77 rfl rfl rfl rfl hlA) ?_))
   refine aL_s true rfl rfl (fun _ => q_fieldAddr (off := 2) (by kernel_rfl) rfl) ?_
   refine aL_s true rfl rfl (fun _ => q_loadO (v := .slice dA M.length cA) (u := .int .i64 x.1.kind) 1 k 2 tk3 rfl rfl hrA rfl rfl) (aL_s true rfl rfl (fun _ => q_eql rfl rfl) (aL_nil (thn_n ?_)))
   refine awp_cond _ rfl (fun h2 => ?_) (fun h2 => ?_)
   ·skip
    refine awp_seq (awp_region (aL_s true rfl rfl (fun _ => q_assign rfl) (aL_nil (thn_n ?_))))
    refine awp_rfBack (M' := M) 0 1 2 rfl rfl rfl (by decide) (by decide) (by decide) hI hl ?_
    refine awp_ret (thn_r ?_)
    refine fin1 [] [0] rfl Tryz.results88 rfl ?_ (.inr rfl)
    have hk0 : x.1.kind = 0 := by simpa using h2
    have e : storeM M at_ size n = (M, 5) := by unfold storeM; rw [if_neg (by rw [hz]; simp), hm]; dsimp only; rw [if_pos hk0]
    rw [e]; exact ⟨rfl, rfl, rfl⟩
   ·skip
    refine awp_skip (thn_n (awp_seq (awp_seq (awp_region (aL_s true rfl rfl (fun _ => q_move rfl) (aL_s true rfl rfl (fun _ => q_eql rfl rfl) (aL_nil ?_)))))))
    refine thn_n ?_
    refine awp_cond _ rfl (fun h3 => ?_) (fun h3 => ?_)
    ·skip
     refine awp_region (aL_s true rfl rfl (fun _ => q_move rfl) (aL_s true rfl rfl (fun _ => q_andB rfl rfl) (aL_s true rfl rfl (fun _ => q_assign rfl) (aL_nil (thn_n (awp_seq ?_))))))
     have hS : (ofBytes x.2).size ≤ maxLen := by rw [ofBytes_size]; unfold maxLen; omega
     have hE : at_ - x.1.at_ + size ≤ (ofBytes x.2).size := by rw [ofBytes_size]; omega
     first
       | (have hs : size = 1 := by simpa using h3
          rw [and255' hn]
          have HP := put01_i (ofBytes x.2) (at_ - x.1.at_) size (n % 256) hS H8.out (by omega) hE (by unfold I64; omega) (fun _ => by omega)
          have hB : numBytes (n % 256) size.toNat = numBytes n size.toNat := by subst hs; show [nthByte (n % 256) 0] = [nthByte n 0]; unfold nthByte; simp)
       | (have hs : size ≠ 1 := by simpa using h3
          have HP := put01_i (ofBytes x.2) (at_ - x.1.at_) size n hS H8.out (by omega) hE hn (fun h => absurd h hs)
          have hB := rfl (a := numBytes n size.toNat))
     refine awp_drawn [] (by kernel_rfl) ?_
     show aB _ _ _ _ _ 25 #[false, false, false, false, false, false, false, false, false, false, false, false, false, false, false, false, false, false, false, false, false, false, false, false, false] _
     refine aB_s 0 rfl (by kernel_rfl) true rfl rfl (fun _ => q_move rfl) ?_
     refine aB_hp (by simp only [nO, nK, nL]; rfl) rfl ?_
     refine aB_s 1 rfl (by kernel_rfl) true rfl rfl (fun _ => q_nilCheck rfl) ?_
     refine aB_hp (by simp only [nO, nK, nL]; rfl) rfl ?_
     refine aB_s 2 rfl (by kernel_rfl) true rfl rfl (fun _ => q_fieldAddr (off := 1) (by kernel_rfl) rfl) ?_
     refine aB_hp (by simp only [nO, nK, nL]; rfl) rfl ?_
     refine aB_s 3 rfl (by kernel_rfl) true rfl rfl (fun _ => q_load 0 tk78 rfl rfl rfl) ?_
     refine aB_hp (by simp only [nO, nK, nL]; rfl) rfl ?_
     refine aB_s 4 rfl (by kernel_rfl) true rfl rfl (fun _ => q_move rfl) ?_
     refine aB_hp (by simp only [nO, nK, nL]; rfl) rfl ?_
     refine aB_s 5 rfl (by kernel_rfl) true rfl rfl (fun _ => q_idxO 2 k el78 rfl rfl rfl rfl hlB) ?_
     refine aB_hp (by simp only [nO, nK, nL]; rfl) rfl ?_
     refine aB_s 6 rfl (by kernel_rfl) true rfl rfl (fun _ => q_loadO (v := .slice dB M.length cB) (u := .string (ofBytes x.2)) 2 k 0 tk9 rfl rfl hrB rfl rfl) ?_
     refine aB_hp (by simp only [nO, nK, nL]; rfl) rfl ?_
     refine aB_s 7 rfl (by kernel_rfl) true rfl rfl (fun _ => q_move rfl) ?_
     refine aB_hp (by simp only [nO, nK, nL]; rfl) rfl ?_
     refine aB_s 8 rfl (by kernel_rfl) true rfl rfl (fun _ => q_move rfl) ?_
     refine aB_hp (by simp only [nO, nK, nL]; rfl) rfl ?_
     refine aB_s 9 rfl (by kernel_rfl) true rfl rfl (fun _ => q_nilCheck rfl) ?_
     refine aB_hp (by simp only [nO, nK, nL]; rfl) rfl ?_
     refine aB_s 10 rfl (by kernel_rfl) true rfl rfl (fun _ => q_fieldAddr (off := 0) (by kernel_rfl) rfl) ?_
     refine aB_hp (by simp only [nO, nK, nL]; rfl) rfl ?_
     refine aB_s 11 rfl (by kernel_rfl) true rfl rfl (fun _ => q_load 0 tk77 rfl rfl rfl) ?_
     refine aB_hp (by simp only [nO, nK, nL]; rfl) rfl ?_
     refine aB_s 12 rfl (by kernel_rfl) true rfl rfl (fun _ => q_move rfl) ?_
     refine aB_hp (by simp only [nO, nK, nL]; rfl) rfl ?_
     refine aB_s 13 rfl (by kernel_rfl) true rfl rfl (fun _ => q_idxO 1 k el77 rfl rfl rfl rfl hlA) ?_
     refine aB_hp (by simp only [nO, nK, nL]; rfl) rfl ?_
     refine aB_s 14 rfl (by kernel_rfl) true rfl rfl (fun _ => q_fieldAddr (off := 0) (by kernel_rfl) rfl) ?_
     refine aB_hp (by simp only [nO, nK, nL]; rfl) rfl ?_
     refine aB_s 15 rfl (by kernel_rfl) true rfl rfl (fun _ => q_loadO (v := .slice dA M.length cA) (u := .int .i64 x.1.at_) 1 k 0 tk3 rfl rfl hrA rfl rfl) ?_
     refine aB_hp (by simp only [nO, nK, nL]; rfl) rfl ?_
     refine aB_s 16 rfl (by kernel_rfl) true rfl rfl (fun _ => q_subi rfl rfl (by omega)) ?_
     refine aB_hp (by simp only [nO, nK, nL]; rfl) rfl ?_
     refine aB_s 17 rfl (by kernel_rfl) true rfl rfl (fun _ => q_move rfl) ?_
     refine aB_hp (by simp only [nO, nK, nL]; rfl) rfl ?_
     refine aB_s 18 rfl (by kernel_rfl) true rfl rfl (fun _ => q_move rfl) ?_
     refine aB_hp (by simp only [nO, nK, nL]; rfl) rfl ?_
     refine aB_s 19 rfl (by kernel_rfl) true rfl rfl (fun _ => q_call (by kernel_rfl) rfl (fun w S fp hst => HP.quiet0 hst)) ?_
     refine aB_hp (by simp only [nO, nK, nL]; rfl) rfl ?_
     refine aB_s 20 rfl (by kernel_rfl) true rfl rfl (fun _ => q_move rfl) ?_
     refine aB_hp (by simp only [nO, nK, nL]; rfl) rfl ?_
     refine aB_s 21 rfl (by kernel_rfl) true rfl rfl (fun _ => q_extract rfl rfl) ?_
     refine aB_hp (by simp only [nO, nK, nL]; rfl) rfl ?_
     refine aB_s 22 rfl (by kernel_rfl) true rfl rfl (fun _ => q_extract rfl rfl) ?_
     refine aB_hp (by simp only [nO, nK, nL]; rfl) rfl ?_
     refine aB_s 23 rfl (by kernel_rfl) true rfl rfl (fun _ => q_assign rfl) ?_
     refine aB_hp (by simp only [nO, nK, nL]; rfl) rfl ?_
     refine aB_s 24 rfl (by kernel_rfl) true rfl rfl (fun _ => q_assign rfl) ?_
     refine aB_hp (by simp only [nO, nK, nL]; rfl) rfl ?_
     refine aB_nil (by kernel_rfl) ?_
     refine thn_n (awp_seq (awp_region (aL_s true rfl rfl (fun _ => q_move rfl) ?_)))
     refine aL_eff (q := true) rfl (w_lit0 el78 rfl (fun v9_1 => ?_))
     refine aL_hp (by (try simp only [nM, nN]); rfl) ?_
     refine aL_s true rfl rfl (fun _ => q_move rfl) (aL_s true rfl rfl (fun _ => q_nilCheck rfl) ?_)
     refine aL_s true rfl rfl (fun _ => q_fieldAddr (off := 1) (by kernel_rfl) rfl) ?_
     refine aL_s true rfl rfl (fun _ => q_load 0 tk78 rfl rfl rfl) ?_
     refine aL_eff rfl (w_append 3 el78 rfl rfl rfl rfl (w_srcO 2 el78 rfl hneB) (by first | assumption | simp) (by simp; omega) (M.length) (by simp) (fun v9_6 c9_6 => ?_))
     refine aL_hp (by simp only [nK, nL]; rfl) ?_
     refine aL_s true rfl rfl (fun _ => q_nilCheck rfl) ?_
     refine aL_s true rfl rfl (fun _ => q_fieldAddr (off := 1) (by kernel_rfl) rfl) ?_
     refine aL_eff rfl (x_store 0 tk78 rfl rfl rfl rfl ?_)
     refine aL_hp (by simp only [nK, nL]; rfl) ?_
     refine aL_nil (thn_n (awp_seq (awp_region (aL_s true rfl rfl (fun _ => q_move rfl) (aL_s true rfl rfl (fun _ => q_nilCheck rfl) ?_)))))
     refine aL_s true rfl rfl (fun _ => q_fieldAddr (off := 1) (by kernel_rfl) rfl) ?_
     refine aL_s true rfl rfl (fun _ => q_load 0 tk78 rfl rfl rfl) (aL_s true rfl rfl (fun _ => q_move rfl) (aL_s true rfl rfl (fun _ => q_move rfl) (aL_s true rfl rfl (fun _ => q_idxO 3 k el78 rfl rfl rfl rfl hlB) ?_)))
     refine aL_eff (q := false) rfl (e_storeO 3 k 0 tk9 rfl rfl rfl hrB rfl (.v rfl .nil) rfl (by decide) ?_)
     refine aL_nil (thn_n (awp_seq (awp_region (aL_s true rfl rfl (fun _ => q_assign rfl) (aL_nil (thn_n ?_))))))
     rw [hB]
     have hlen : (splice x.2 (at_ - x.1.at_).toNat (numBytes n size.toNat)).length = x.2.length := length_splice _ _ _ (by rw [numBytes_length]; omega)
     refine awp_rfBack (M' := updM M x.1.at_ (splice x.2 (at_ - x.1.at_).toNat (numBytes n size.toNat))) 0 1 3 rfl (by rw [rfA_upd]; rfl) (by rw [rfB_upd hI hx]; rfl) (by decide) (by decide) (by decide) (updM_inv hI hx hlen) (by rw [updM_length]; exact hl) ?_
     refine awp_ret ?_
     refine fin1 [] [0] rfl Tryz.results88 rfl ?_ (.inr rfl)
     have e : storeM M at_ size n = (updM M x.1.at_ (splice x.2 (at_ - x.1.at_).toNat (numBytes n size.toNat)), 0) := by
       unfold storeM; rw [if_neg (by rw [hz]; simp), hm]; dsimp only; rw [if_neg (by simpa using h2)]
     rw [e]; exact ⟨rfl, rfl, rfl⟩
    ·skip
     refine awp_skip (thn_n (awp_seq ?_))
     have hS : (ofBytes x.2).size ≤ maxLen := by rw [ofBytes_size]; unfold maxLen; omega
     have hE : at_ - x.1.at_ + size ≤ (ofBytes x.2).size := by rw [ofBytes_size]; omega
     first
       | (have hs : size = 1 := by simpa using h3
          rw [and255' hn]
          have HP := put01_i (ofBytes x.2) (at_ - x.1.at_) size (n % 256) hS H8.out (by omega) hE (by unfold I64; omega) (fun _ => by omega)
          have hB : numBytes (n % 256) size.toNat = numBytes n size.toNat := by subst hs; show [nthByte (n % 256) 0] = [nthByte n 0]; unfold nthByte; simp)
       | (have hs : size ≠ 1 := by simpa using h3
          have HP := put01_i (ofBytes x.2) (at_ - x.1.at_) size n hS H8.out (by omega) hE hn (fun h => absurd h hs)
          have hB := rfl (a := numBytes n size.toNat))
     refine awp_drawn [] (by kernel_rfl) ?_
     show aB _ _ _ _ _ 25 #[false, false, false, false, false, false, false, false, false, false, false, false, false, false, false, false, false, false, false, false, false, false, false, false, false] _
     refine aB_s 0 rfl (by kernel_rfl) true rfl rfl (fun _ => q_move rfl) ?_
     refine aB_hp (by simp only [nO, nK, nL]; rfl) rfl ?_
     refine aB_s 1 rfl (by kernel_rfl) true rfl rfl (fun _ => q_nilCheck rfl) ?_
     refine aB_hp (by simp only [nO, nK, nL]; rfl) rfl ?_
     refine aB_s 2 rfl (by kernel_rfl) true rfl rfl (fun _ => q_fieldAddr (off := 1) (by kernel_rfl) rfl) ?_
     refine aB_hp (by simp only [nO, nK, nL]; rfl) rfl ?_
     refine aB_s 3 rfl (by kernel_rfl) true rfl rfl (fun _ => q_load 0 tk78 rfl rfl rfl) ?_
     refine aB_hp (by simp only [nO, nK, nL]; rfl) rfl ?_
     refine aB_s 4 rfl (by kernel_rfl) true rfl rfl (fun _ => q_move rfl) ?_
     refine aB_hp (by simp only [nO, nK, nL]; rfl) rfl ?_
     refine aB_s 5 rfl (by kernel_rfl) true rfl rfl (fun _ => q_idxO 2 k el78 rfl rfl rfl rfl hlB) ?_
     refine aB_hp (by simp only [nO, nK, nL]; rfl) rfl ?_
     refine aB_s 6 rfl (by kernel_rfl) true rfl rfl (fun _ => q_loadO (v := .slice dB M.length cB) (u := .string (ofBytes x.2)) 2 k 0 tk9 rfl rfl hrB rfl rfl) ?_
     refine aB_hp (by simp only [nO, nK, nL]; rfl) rfl ?_
     refine aB_s 7 rfl (by kernel_rfl) true rfl rfl (fun _ => q_move rfl) ?_
     refine aB_hp (by simp only [nO, nK, nL]; rfl) rfl ?_
     refine aB_s 8 rfl (by kernel_rfl) true rfl rfl (fun _ => q_move rfl) ?_
     refine aB_hp (by simp only [nO, nK, nL]; rfl) rfl ?_
     refine aB_s 9 rfl (by kernel_rfl) true rfl rfl (fun _ => q_nilCheck rfl) ?_
     refine aB_hp (by simp only [nO, nK, nL]; rfl) rfl ?_
     refine aB_s 10 rfl (by kernel_rfl) true rfl rfl (fun _ => q_fieldAddr (off := 0) (by kernel_rfl) rfl) ?_
     refine aB_hp (by simp only [nO, nK, nL]; rfl) rfl ?_
     refine aB_s 11 rfl (by kernel_rfl) true rfl rfl (fun _ => q_load 0 tk77 rfl rfl rfl) ?_
     refine aB_hp (by simp only [nO, nK, nL]; rfl) rfl ?_
     refine aB_s 12 rfl (by kernel_rfl) true rfl rfl (fun _ => q_move rfl) ?_
     refine aB_hp (by simp only [nO, nK, nL]; rfl) rfl ?_
     refine aB_s 13 rfl (by kernel_rfl) true rfl rfl (fun _ => q_idxO 1 k el77 rfl rfl rfl rfl hlA) ?_
     refine aB_hp (by simp only [nO, nK, nL]; rfl) rfl ?_
     refine aB_s 14 rfl (by kernel_rfl) true rfl rfl (fun _ => q_fieldAddr (off := 0) (by kernel_rfl) rfl) ?_
     refine aB_hp (by simp only [nO, nK, nL]; rfl) rfl ?_
     refine aB_s 15 rfl (by kernel_rfl) true rfl rfl (fun _ => q_loadO (v := .slice dA M.length cA) (u := .int .i64 x.1.at_) 1 k 0 tk3 rfl rfl hrA rfl rfl) ?_
     refine aB_hp (by simp only [nO, nK, nL]; rfl) rfl ?_
     refine aB_s 16 rfl (by kernel_rfl) true rfl rfl (fun _ => q_subi rfl rfl (by omega)) ?_
     refine aB_hp (by simp only [nO, nK, nL]; rfl) rfl ?_
     refine aB_s 17 rfl (by kernel_rfl) true rfl rfl (fun _ => q_move rfl) ?_
     refine aB_hp (by simp only [nO, nK, nL]; rfl) rfl ?_
     refine aB_s 18 rfl (by kernel_rfl) true rfl rfl (fun _ => q_move rfl) ?_
     refine aB_hp (by simp only [nO, nK, nL]; rfl) rfl ?_
     refine aB_s 19 rfl (by kernel_rfl) true rfl rfl (fun _ => q_call (by kernel_rfl) rfl (fun w S fp hst => HP.quiet0 hst)) ?_
     refine aB_hp (by simp only [nO, nK, nL]; rfl) rfl ?_
     refine aB_s 20 rfl (by kernel_rfl) true rfl rfl (fun _ => q_move rfl) ?_
     refine aB_hp (by simp only [nO, nK, nL]; rfl) rfl ?_
     refine aB_s 21 rfl (by kernel_rfl) true rfl rfl (fun _ => q_extract rfl rfl) ?_
     refine aB_hp (by simp only [nO, nK, nL]; rfl) rfl ?_
     refine aB_s 22 rfl (by kernel_rfl) true rfl rfl (fun _ => q_extract rfl rfl) ?_
     refine aB_hp (by simp only [nO, nK, nL]; rfl) rfl ?_
     refine aB_s 23 rfl (by kernel_rfl) true rfl rfl (fun _ => q_assign rfl) ?_
     refine aB_hp (by simp only [nO, nK, nL]; rfl) rfl ?_
     refine aB_s 24 rfl (by kernel_rfl) true rfl rfl (fun _ => q_assign rfl) ?_
     refine aB_hp (by simp only [nO, nK, nL]; rfl) rfl ?_
     refine aB_nil (by kernel_rfl) ?_
     refine thn_n (awp_seq (awp_region (aL_s true rfl rfl (fun _ => q_move rfl) ?_)))
     refine aL_eff (q := true) rfl (w_lit0 el78 rfl (fun v9_1 => ?_))
     refine aL_hp (by (try simp only [nM, nN]); rfl) ?_
     refine aL_s true rfl rfl (fun _ => q_move rfl) (aL_s true rfl rfl (fun _ => q_nilCheck rfl) ?_)
     refine aL_s true rfl rfl (fun _ => q_fieldAddr (off := 1) (by kernel_rfl) rfl) ?_
     refine aL_s true rfl rfl (fun _ => q_load 0 tk78 rfl rfl rfl) ?_
     refine aL_eff rfl (w_append 3 el78 rfl rfl rfl rfl (w_srcO 2 el78 rfl hneB) (by first | assumption | simp) (by simp; omega) (M.length) (by simp) (fun v9_6 c9_6 => ?_))
     refine aL_hp (by simp only [nK, nL]; rfl) ?_
     refine aL_s true rfl rfl (fun _ => q_nilCheck rfl) ?_
     refine aL_s true rfl rfl (fun _ => q_fieldAddr (off := 1) (by kernel_rfl) rfl) ?_
     refine aL_eff rfl (x_store 0 tk78 rfl rfl rfl rfl ?_)
     refine aL_hp (by simp only [nK, nL]; rfl) ?_
     refine aL_nil (thn_n (awp_seq (awp_region (aL_s true rfl rfl (fun _ => q_move rfl) (aL_s true rfl rfl (fun _ => q_nilCheck rfl) ?_)))))
     refine aL_s true rfl rfl (fun _ => q_fieldAddr (off := 1) (by kernel_rfl) rfl) ?_
     refine aL_s true rfl rfl (fun _ => q_load 0 tk78 rfl rfl rfl) (aL_s true rfl rfl (fun _ => q_move rfl) (aL_s true rfl rfl (fun _ => q_move rfl) (aL_s true rfl rfl (fun _ => q_idxO 3 k el78 rfl rfl rfl rfl hlB) ?_)))
     refine aL_eff (q := false) rfl (e_storeO 3 k 0 tk9 rfl rfl rfl hrB rfl (.v rfl .nil) rfl (by decide) ?_)
     refine aL_nil (thn_n (awp_seq (awp_region (aL_s true rfl rfl (fun _ => q_assign rfl) (aL_nil (thn_n ?_))))))
     rw [hB]
     have hlen : (splice x.2 (at_ - x.1.at_).toNat (numBytes n size.toNat)).length = x.2.length := length_splice _ _ _ (by rw [numBytes_length]; omega)
     refine awp_rfBack (M' := updM M x.1.at_ (splice x.2 (at_ - x.1.at_).toNat (numBytes n size.toNat))) 0 1 3 rfl (by rw [rfA_upd]; rfl) (by rw [rfB_upd hI hx]; rfl) (by decide) (by decide) (by decide) (updM_inv hI hx hlen) (by rw [updM_length]; exact hl) ?_
     refine awp_ret ?_
     refine fin1 [] [0] rfl Tryz.results88 rfl ?_ (.inr rfl)
     have e : storeM M at_ size n = (updM M x.1.at_ (splice x.2 (at_ - x.1.at_).toNat (numBytes n size.toNat)), 0) := by
       unfold storeM; rw [if_neg (by rw [hz]; simp), hm]; dsimp only; rw [if_neg (by simpa using h2)]
     rw [e]; exact ⟨rfl, rfl, rfl⟩
theorem bytes_eqR {a b : List UInt8} : ((ofBytes a).toList == (ofBytes b).toList) = decide (a = b) := by
  have e : ∀ l, (ofBytes l).toList = l := fun l => by rw [ByteArray.toList_eq]; rfl
  rw [e, e, Bool.eq_iff_iff]; simp
theorem write28_fn (p : Nat) (M : Mem) (at_ : Int) (b : ByteArray) (hat : I64 at_) (hbs : b.size ≤ 1048576) :
    Con Tryz.prog 24 [.pointer (some ⟨p, 0, none⟩), .int .i64 at_, .string b] [] [RfR p M] fun r ps' hp' => r = .int .i64 (writeM M at_ b.data.toList).2 ∧ ps' = [] ∧ hp' = [RfR p (writeM M at_ b.data.toList).1] := by
  have hat' := hat
  unfold I64 at hat'
  have hbl : b.data.toList.length = b.size := rfl
  have htl : (b.toList == (⟨#[]⟩ : ByteArray).toList) = decide (b.data.toList = []) := by
    have := @bytes_eqR b.data.toList []
    rwa [ofB_data] at this
  refine Con.enter Tryz.func24 rfl (by simp [Tryz.ntmps24]) ?_
  show awp _ _ _ _ ⟨[(0, true, _), (1, true, _), (2, true, _)], _, _⟩
  refine awp_seq (awp_region (aL_s true rfl rfl (fun _ => q_assign rfl) (aL_nil (thn_n (awp_seq (awp_seq (awp_region ?_)))))))
  refine aL_s true rfl rfl (fun _ => q_move rfl) (aL_s true rfl rfl (fun _ => qs_eql rfl rfl) (aL_nil (thn_n ?_)))
  refine awp_cond _ rfl (fun h1 => ?_) (fun h1 => ?_)
  ·skip
   refine awp_seq (awp_region (aL_s true rfl rfl (fun _ => q_assign rfl) (aL_nil (thn_n ?_))))
   skip
   refine awp_ret (thn_r ?_)
   refine fin1 [] [0] rfl Tryz.results24 rfl ?_ (.inr rfl)
   unfold writeM; rw [if_pos (of_decide_eq_true (htl ▸ h1))]; exact ⟨rfl, rfl, rfl⟩
  ·skip
   have hb0 : ¬ b.data.toList = [] := fun h => by rw [htl, decide_eq_false_iff_not] at h1; exact h1 h
   refine awp_skip (thn_n (awp_seq (awp_region (aL_s true rfl rfl (fun _ => q_move rfl) (aL_s true rfl rfl (fun _ => q_move rfl) (aL_s true rfl rfl (fun _ => q_move rfl) (aL_s true rfl rfl (fun _ => q_lenStr Tryz.underlying9 rfl) ?_)))))))
   refine aL_s true rfl rfl (fun _ => q_call (by kernel_rfl) rfl (fun w S fp hst => q_lendR (fun dA dB cA cB hI hl => find28_fn p M dA dB cA cB at_ b.size hat (by unfold I64; omega) hI.right hl) hst 0 rfl)) ?_
   refine aL_s true rfl rfl (fun _ => q_assign rfl) (aL_nil (thn_n (awp_seq (awp_seq (awp_region (aL_s true rfl rfl (fun _ => q_move rfl) (aL_s true rfl rfl (fun _ => q_lss rfl rfl) ?_)))))))
   refine aL_nil (thn_n ?_)
   refine awp_cond _ rfl (fun h2 => ?_) (fun h2 => ?_)
   ·skip
    refine awp_seq (awp_region (aL_s true rfl rfl (fun _ => q_assign rfl) (aL_nil (thn_n ?_))))
    skip
    refine awp_ret (thn_r ?_)
    refine fin1 [] [0] rfl Tryz.results24 rfl ?_ (.inr rfl)
    have e : writeM M at_ b.data.toList = (M, 6) := by unfold writeM; rw [if_neg hb0, hbl, findI_none (numO_T h2)]
    rw [e]; exact ⟨rfl, rfl, rfl⟩
   ·skip
    obtain ⟨k, hk⟩ := numO_F h2
    obtain ⟨x, hx, hm, hh⟩ := findI_some hk
    rw [hk]
    refine awp_rf 0 rfl ?_
    intro hI hl dA cA dB cB
    show awp _ _ _ _ ⟨_, _, [Box p 80 _, OwnS _ _ _ _, OwnS _ _ _ _]⟩
    have hxr := rightA_iff.1 (hI.right _ (List.mem_of_getElem? hx))
    have hxl := hI.len _ (List.mem_of_getElem? hx)
    have hh' := holds_iff.1 hh
    have hkl := (List.getElem?_eq_some_iff.1 hx).1
    have hlA : k < (rfA M).length := by simp [rfA, hkl]
    have hlB : k < (rfB M).length := by simp [rfB, hkl]
    have hrA : (rfA M)[k]? = some (x.1.vals.map D.v) := by simp [rfA, hx]
    have hrB : (rfB M)[k]? = some [.v (.string (ofBytes x.2))] := by simp [rfB, hx]
    have hneB : rfB M ≠ [] := fun h => by rw [h] at hlB; simp at hlB
    refine awp_skip (thn_n (awp_seq (awp_region (aL_s true rfl rfl (fun _ => q_move rfl) (aL_s true rfl rfl (fun _ => q_move rfl) (aL_s true rfl rfl (fun _ => q_nilCheck rfl) ?_))))))
    refine aL_s true rfl rfl (fun _ => q_fieldAddr (off := 0) (by kernel_rfl) rfl) ?_
    refine aL_s true rfl rfl (fun _ => q_load 0 tk77 rfl rfl rfl) (aL_s true rfl rfl (fun _ => q_move rfl) (aL_s true rfl rfl (fun _ => q_idxO 1 k el77 rfl rfl rfl rfl hlA) ?_))
    refine aL_s true rfl rfl (fun _ => q_fieldAddr (off := 0) (by kernel_rfl) rfl) ?_
    refine aL_s true rfl rfl (fun _ => q_loadO (v := .slice dA M.length cA) (u := .int .i64 x.1.at_) 1 k 0 tk3 rfl rfl hrA rfl rfl) ?_
    refine aL_s true rfl rfl (fun _ => q_subi rfl rfl (by omega)) ?_
    refine aL_s true rfl rfl (fun _ => q_assign rfl) (aL_nil (thn_n (awp_seq (awp_region (aL_s true rfl rfl (fun _ => q_move rfl) ?_)))))
    refine aL_eff (q := true) rfl (w_lit0 el78 rfl (fun v7_1 => ?_))
    refine aL_hp (by (try simp only [nM, nN]); rfl) ?_
    refine aL_s true rfl rfl (fun _ => q_move rfl) (aL_s true rfl rfl (fun _ => q_nilCheck rfl) ?_)
    refine aL_s true rfl rfl (fun _ => q_fieldAddr (off := 1) (by kernel_rfl) rfl) ?_
    refine aL_s true rfl rfl (fun _ => q_load 0 tk78 rfl rfl rfl) ?_
    refine aL_eff rfl (w_append 3 el78 rfl rfl rfl rfl (w_srcO 2 el78 rfl hneB) (by first | assumption | simp) (by simp; omega) (M.length) (by simp) (fun v7_6 c7_6 => ?_))
    refine aL_hp (by simp only [nK, nL]; rfl) ?_
    refine aL_s true rfl rfl (fun _ => q_nilCheck rfl) ?_
    refine aL_s true rfl rfl (fun _ => q_fieldAddr (off := 1) (by kernel_rfl) rfl) ?_
    refine aL_eff rfl (x_store 0 tk78 rfl rfl rfl rfl ?_)
    refine aL_hp (by simp only [nK, nL]; rfl) ?_
    refine aL_nil (thn_n (awp_seq ?_))
    refine awp_drawn [30] (by kernel_rfl) ?_
    show aB _ _ _ _ _ 31 #[false, false, false, false, false, false, false, false, false, false, false, false, false, false, false, false, false, false, false, false, false, false, false, false, false, false, false, false, false, false, false] _
    refine aB_s 0 rfl (by kernel_rfl) true rfl rfl (fun _ => q_move rfl) ?_
    refine aB_hp (by simp only [nO, nK, nL]; rfl) rfl ?_
    refine aB_s 1 rfl (by kernel_rfl) true rfl rfl (fun _ => q_nilCheck rfl) ?_
    refine aB_hp (by simp only [nO, nK, nL]; rfl) rfl ?_
    refine aB_s 2 rfl (by kernel_rfl) true rfl rfl (fun _ => q_fieldAddr (off := 1) (by kernel_rfl) rfl) ?_
    refine aB_hp (by simp only [nO, nK, nL]; rfl) rfl ?_
    refine aB_s 3 rfl (by kernel_rfl) true rfl rfl (fun _ => q_load 0 tk78 rfl rfl rfl) ?_
    refine aB_hp (by simp only [nO, nK, nL]; rfl) rfl ?_
    refine aB_s 4 rfl (by kernel_rfl) true rfl rfl (fun _ => q_move rfl) ?_
    refine aB_hp (by simp only [nO, nK, nL]; rfl) rfl ?_
    refine aB_s 5 rfl (by kernel_rfl) true rfl rfl (fun _ => q_move rfl) ?_
    refine aB_hp (by simp only [nO, nK, nL]; rfl) rfl ?_
    refine aB_s 6 rfl (by kernel_rfl) true rfl rfl (fun _ => q_nilCheck rfl) ?_
    refine aB_hp (by simp only [nO, nK, nL]; rfl) rfl ?_
    refine aB_s 7 rfl (by kernel_rfl) true rfl rfl (fun _ => q_fieldAddr (off := 1) (by kernel_rfl) rfl) ?_
    refine aB_hp (by simp only [nO, nK, nL]; rfl) rfl ?_
    refine aB_s 8 rfl (by kernel_rfl) true rfl rfl (fun _ => q_load 0 tk78 rfl rfl rfl) ?_
    refine aB_hp (by simp only [nO, nK, nL]; rfl) rfl ?_
    refine aB_s 9 rfl (by kernel_rfl) true rfl rfl (fun _ => q_move rfl) ?_
    refine aB_hp (by simp only [nO, nK, nL]; rfl) rfl ?_
    refine aB_s 10 rfl (by kernel_rfl) true rfl rfl (fun _ => q_idxO 3 k el78 rfl rfl rfl rfl hlB) ?_
    refine aB_hp (by simp only [nO, nK, nL]; rfl) rfl ?_
    refine aB_s 11 rfl (by kernel_rfl) true rfl rfl (fun _ => q_loadO (v := .slice v7_6 M.length c7_6) (u := .string (ofBytes x.2)) 3 k 0 tk9 rfl rfl hrB rfl rfl) ?_
    refine aB_hp (by simp only [nO, nK, nL]; rfl) rfl ?_
    refine aB_s 12 rfl (by kernel_rfl) true rfl rfl (fun _ => q_move rfl) ?_
    refine aB_hp (by simp only [nO, nK, nL]; rfl) rfl ?_
    refine aB_s 13 rfl (by kernel_rfl) true rfl rfl (fun _ => q_strHi Tryz.underlying9 rfl rfl (by omega) (by (rw [ofBytes_size]; omega))) ?_
    refine aB_hp (by simp only [nO, nK, nL]; rfl) rfl ?_
    refine aB_s 14 rfl (by kernel_rfl) true rfl rfl (fun _ => q_move rfl) ?_
    refine aB_hp (by simp only [nO, nK, nL]; rfl) rfl ?_
    refine aB_s 15 rfl (by kernel_rfl) true rfl rfl (fun _ => qs_add rfl rfl (by simp only [ByteArray.size_extract, ofBytes_size]; omega)) ?_
    refine aB_hp (by simp only [nO, nK, nL]; rfl) rfl ?_
    refine aB_s 16 rfl (by kernel_rfl) true rfl rfl (fun _ => q_move rfl) ?_
    refine aB_hp (by simp only [nO, nK, nL]; rfl) rfl ?_
    refine aB_s 17 rfl (by kernel_rfl) true rfl rfl (fun _ => q_nilCheck rfl) ?_
    refine aB_hp (by simp only [nO, nK, nL]; rfl) rfl ?_
    refine aB_s 18 rfl (by kernel_rfl) true rfl rfl (fun _ => q_fieldAddr (off := 1) (by kernel_rfl) rfl) ?_
    refine aB_hp (by simp only [nO, nK, nL]; rfl) rfl ?_
    refine aB_s 19 rfl (by kernel_rfl) true rfl rfl (fun _ => q_load 0 tk78 rfl rfl rfl) ?_
    refine aB_hp (by simp only [nO, nK, nL]; rfl) rfl ?_
    refine aB_s 20 rfl (by kernel_rfl) true rfl rfl (fun _ => q_move rfl) ?_
    refine aB_hp (by simp only [nO, nK, nL]; rfl) rfl ?_
    refine aB_s 21 rfl (by kernel_rfl) true rfl rfl (fun _ => q_idxO 3 k el78 rfl rfl rfl rfl hlB) ?_
    refine aB_hp (by simp only [nO, nK, nL]; rfl) rfl ?_
    refine aB_s 22 rfl (by kernel_rfl) true rfl rfl (fun _ => q_loadO (v := .slice v7_6 M.length c7_6) (u := .string (ofBytes x.2)) 3 k 0 tk9 rfl rfl hrB rfl rfl) ?_
    refine aB_hp (by simp only [nO, nK, nL]; rfl) rfl ?_
    refine aB_s 23 rfl (by kernel_rfl) true rfl rfl (fun _ => q_move rfl) ?_
    refine aB_hp (by simp only [nO, nK, nL]; rfl) rfl ?_
    refine aB_s 24 rfl (by kernel_rfl) true rfl rfl (fun _ => q_move rfl) ?_
    refine aB_hp (by simp only [nO, nK, nL]; rfl) rfl ?_
    refine aB_s 25 rfl (by kernel_rfl) true rfl rfl (fun _ => q_lenStr Tryz.underlying9 rfl) ?_
    refine aB_hp (by simp only [nO, nK, nL]; rfl) rfl ?_
    refine aB_s 26 rfl (by kernel_rfl) true rfl rfl (fun _ => q_addi rfl rfl (by omega)) ?_
    refine aB_hp (by simp only [nO, nK, nL]; rfl) rfl ?_
    refine aB_s 27 rfl (by kernel_rfl) true rfl rfl (fun _ => q_strLo Tryz.underlying9 rfl rfl (by omega) (by (rw [ofBytes_size]; omega))) ?_
    refine aB_hp (by simp only [nO, nK, nL]; rfl) rfl ?_
    refine aB_s 28 rfl (by kernel_rfl) true rfl rfl (fun _ => qs_add rfl rfl (by simp only [ByteArray.size_append, ByteArray.size_extract, ofBytes_size]; omega)) ?_
    refine aB_hp (by simp only [nO, nK, nL]; rfl) rfl ?_
    refine aB_s 29 rfl (by kernel_rfl) true rfl rfl (fun _ => q_idxO 3 k el78 rfl rfl rfl rfl hlB) ?_
    refine aB_hp (by simp only [nO, nK, nL]; rfl) rfl ?_
    refine aB_eff (q := false) 30 rfl (by kernel_rfl) rfl rfl (e_storeO 3 k 0 tk9 rfl rfl rfl hrB rfl (.v rfl .nil) rfl (by decide) ?_)
    refine aB_st (by simp only [nO, nK, nL]; rfl) (by (try simp only [nM, nN]); rfl) (by (try simp only [putB, place, Nat.reduceBEq, nA, if_true, if_false, reduceIte, nB, nC, nD, nE, nF, nG, nH, nI, Nat.reduceAdd, nJ, beq_self_eq_true, nK, nL, nM, nN]); rfl) ?_
    refine aB_nil (by kernel_rfl) ?_
    refine thn_n (awp_seq ?_)
    have hlen : (splice x.2 (at_ - x.1.at_).toNat b.data.toList).length = x.2.length := length_splice _ _ _ (by omega)
    have es : (ofBytes x.2).extract 0 (at_ - x.1.at_).toNat ++ b ++ (ofBytes x.2).extract (at_ - x.1.at_ + b.size).toNat (ofBytes x.2).size = ofBytes (splice x.2 (at_ - x.1.at_).toNat b.data.toList) := by
      rw [ofB_extract, ofB_extract, show b = ofBytes b.data.toList from (ofB_data b).symm, ofB_add, ofB_add, ofB_data]
      unfold splice
      rw [List.drop_zero, Nat.sub_zero, List.append_assoc, List.take_of_length_le (l := x.2.drop _) (by rw [List.length_drop, ofBytes_size]; omega), hbl]
      rw [show (at_ - x.1.at_ + (b.size : Int)).toNat = (at_ - x.1.at_).toNat + b.size by omega]
    refine awp_region (aL_s true rfl rfl (fun _ => q_assign rfl) (aL_nil (thn_n ?_)))
    refine awp_rfBack (M' := updM M x.1.at_ (splice x.2 (at_ - x.1.at_).toNat b.data.toList)) 0 1 3 rfl (by rw [rfA_upd]; rfl) (by rw [rfB_upd hI hx, ← es]; rfl) (by decide) (by decide) (by decide) (updM_inv hI hx hlen) (by rw [updM_length]; exact hl) ?_
    refine awp_ret ?_
    refine fin1 [] [0] rfl Tryz.results24 rfl ?_ (.inr rfl)
    have e : writeM M at_ b.data.toList = (updM M x.1.at_ (splice x.2 (at_ - x.1.at_).toNat b.data.toList), 0) := by
      unfold writeM; rw [if_neg hb0, hbl, hm]
    rw [e]; exact ⟨rfl, rfl, rfl⟩
end Go.Proofs.YtpgcoceggacplaaGreatDoor
namespace Go.Lp
theorem mapM_parts {M : Mem} {a : Ar} {m : Nat} (hI : MInv M) (hr : rightA a = true) (hno : ∀ x ∈ M, meets a x = false) (hl : M.length < 4096) (hlo : ∀ x ∈ M.take m, x.1.at_ < a.at_) (hhi : ∀ x ∈ M.drop m, ¬ x.1.at_ < a.at_) :
    mapM M a = (M.take m ++ [(a, List.replicate a.size.toNat 0)] ++ M.drop m, 0) ∧ MInv (M.take m ++ [(a, List.replicate a.size.toNat 0)] ++ M.drop m) := by
  obtain ⟨ra1, ra2, ra3, ra4, ra5, ra6, ra7, ra8⟩ := rightA_iff.1 hr
  have hM : M.take m ++ M.drop m = M := List.take_append_drop m M
  have e1 : M.filter (fun x => decide (x.1.at_ < a.at_)) = M.take m := by
    conv => lhs; rw [← hM]
    rw [List.filter_append, List.filter_eq_self.2 (fun x hx => by simpa using hlo x hx), List.filter_eq_nil_iff.2 (fun x hx => by simpa using hhi x hx), List.append_nil]
  have e2 : M.filter (fun x => !decide (x.1.at_ < a.at_)) = M.drop m := by
    conv => lhs; rw [← hM]
    rw [List.filter_append, List.filter_eq_nil_iff.2 (fun x hx => by simpa using hlo x hx), List.filter_eq_self.2 (fun x hx => by simpa using hhi x hx), List.nil_append]
  have hany : ¬ M.any (meets a) = true := fun h => by
    obtain ⟨x, hx, h1⟩ := List.any_eq_true.1 h
    rw [hno x hx] at h1; cases h1
  refine ⟨by unfold mapM; rw [if_neg (by rw [hr]; decide), if_neg hany, if_neg (by omega), e1, e2], ?_, ?_, ?_⟩
  · intro x hx
    rcases List.mem_append.1 hx with h | h
    · rcases List.mem_append.1 h with h | h
      · exact hI.right x (List.mem_of_mem_take h)
      · rw [List.mem_singleton.1 h]; exact hr
    · exact hI.right x (List.mem_of_mem_drop h)
  · have hp := hI.asc
    rw [← hM, List.pairwise_append] at hp
    obtain ⟨p1, p2, p3⟩ := hp
    have hmt : ∀ x ∈ M, (x.1.at_ < a.at_ + a.size → ¬ a.at_ < x.1.at_ + x.1.size) ∧ 1 ≤ x.1.size := fun x hx => by
      have h1 := hno x hx
      unfold meets at h1
      obtain ⟨_, _, _, h4, _⟩ := rightA_iff.1 (hI.right x hx)
      refine ⟨fun h => ?_, h4⟩
      simpa [h] using h1
    rw [List.pairwise_append, List.pairwise_append]
    refine ⟨⟨p1, List.pairwise_singleton _ _, fun x hx y hy => ?_⟩, p2, fun x hx y hy => ?_⟩
    · rw [List.mem_singleton.1 hy]
      have h1 := hmt x (List.mem_of_mem_take hx)
      have h2 := hlo x hx
      have h3 := h1.1 (by omega)
      show x.1.at_ + x.1.size ≤ a.at_
      omega
    · rcases List.mem_append.1 hx with h | h
      · exact p3 x h y hy
      · rw [List.mem_singleton.1 h]
        have h1 := hmt y (List.mem_of_mem_drop hy)
        have h2 := hhi y hy
        show a.at_ + a.size ≤ y.1.at_
        by_cases h3 : y.1.at_ < a.at_ + a.size
        · have := h1.1 h3; omega
        · omega
  · intro x hx
    rcases List.mem_append.1 hx with h | h
    · rcases List.mem_append.1 h with h | h
      · exact hI.len x (List.mem_of_mem_take h)
      · rw [List.mem_singleton.1 h]
        show ((List.replicate a.size.toNat (0 : UInt8)).length : Int) = a.size
        rw [List.length_replicate]; omega
    · exact hI.len x (List.mem_of_mem_drop h)
end Go.Lp
namespace Go.Proofs.YtpgcoceggacplaaGreatDoor
open Go.RowKit Go.Lp Go.Sy
theorem map28_fn (p : Nat) (M : Mem) (a : Ar) (hR : Con Tryz.prog 42 [.agg a.vals.toArray] [] [] fun r _ _ => r = .bool (rightA a)) :
    Con Tryz.prog 23 [.pointer (some ⟨p, 0, none⟩), .agg a.vals.toArray] [] [RfR p M] fun r ps' hp' => r = .int .i64 (mapM M a).2 ∧ ps' = [] ∧ hp' = [RfR p (mapM M a).1] := by
  refine Con.enter Tryz.func23 rfl (by simp [Tryz.ntmps23]) ?_
  show awp _ _ _ _ ⟨[(0, true, _), (1, true, _)], _, _⟩
  refine awp_seq (awp_region ?_)
  refine aL_eff (q := true) rfl (x_box rfl rfl rfl (fun b0_0 => ?_))
  refine aL_hp (by (try simp only [nM, nN]); rfl) ?_
  refine aL_s true rfl rfl (fun _ => q_assign rfl) (aL_nil (thn_n (awp_seq (awp_seq (awp_region (aL_s true rfl rfl (fun _ => q_load 1 tk58 rfl rfl rfl) ?_))))))
  refine aL_s true rfl rfl (fun _ => q_call (by kernel_rfl) rfl (fun w S fp hst => hR.quiet0 hst)) ?_
  refine aL_s true rfl rfl (fun _ => q_not rfl) (aL_nil (thn_n ?_))
  refine awp_cond _ rfl (fun h1 => ?_) (fun h1 => ?_)
  ·skip
   refine awp_seq (awp_region (aL_s true rfl rfl (fun _ => q_assign rfl) (aL_nil (thn_n ?_))))
   skip
   refine awp_ret (thn_r ?_)
   refine fin1 [] [0] rfl Tryz.results23 rfl ?_ (.inr rfl)
   have hr : rightA a = false := by simpa using h1
   unfold mapM; rw [if_pos hr]; exact ⟨rfl, rfl, rfl⟩
  ·skip
   have hr : rightA a = true := by simpa using h1
   obtain ⟨ra1, ra2, ra3, ra4, ra5, ra6, ra7, ra8⟩ := rightA_iff.1 hr
   refine awp_rf 0 rfl ?_
   intro hI hl dA cA dB cB
   show awp _ _ _ _ ⟨_, _, [Box p 80 _, Box b0_0 58 a.vals, OwnS _ _ _ _, OwnS _ _ _ _]⟩
   refine awp_skip (thn_n (awp_seq (awp_region (aL_s true rfl rfl (fun _ => q_assign rfl) (aL_nil (thn_n (awp_seq ?_)))))))
   refine awp_seq (awp_region (aL_s true rfl rfl (fun _ => q_assign rfl) (aL_nil (thn_n (awp_block ?_)))))
   refine awp_loopK [0, 3, 5, 6] [] [0, 1, 2, 3] (fun (q : Nat × Nat) s => (q.1 ≤ M.length ∧ q.2 ≤ q.1 ∧ (∀ x ∈ M.take q.1, meets a x = false) ∧ (∀ x ∈ M.take q.2, x.1.at_ < a.at_) ∧ (∀ x ∈ (M.take q.1).drop q.2, ¬ x.1.at_ < a.at_)) ∧ s = ⟨[(0, true, .pointer (some ⟨p, 0, none⟩)), (3, true, .pointer (some ⟨b0_0, 0, none⟩)), (5, true, .int .i64 q.2), (6, true, .int .i64 q.1)], [], [Box p 80 [.slice dA M.length cA, .slice dB M.length cB], Box b0_0 58 a.vals, OwnS (.slice dA M.length cA) 58 5 (rfA M), OwnS (.slice dB M.length cB) 9 1 (rfB M)]⟩) (fun q => M.length - q.1) rfl (⟨(0, 0), ⟨Nat.zero_le _, Nat.le_refl _, by simp, by simp, by simp⟩, rfl⟩) ?_
   rintro ⟨k, m⟩ s ⟨⟨hk, hmk, hno, hlo, hhi⟩, rfl⟩
   refine awp_seq (awp_seq (awp_region (aL_s true rfl rfl (fun _ => q_move rfl) (aL_s true rfl rfl (fun _ => q_move rfl) (aL_s true rfl rfl (fun _ => q_nilCheck rfl) ?_)))))
   refine aL_s true rfl rfl (fun _ => q_fieldAddr (off := 0) (by kernel_rfl) rfl) ?_
   refine aL_s true rfl rfl (fun _ => q_load 0 tk77 rfl rfl rfl) (aL_s true rfl rfl (fun _ => q_lenS Tryz.underlying77 rfl) (aL_s true rfl rfl (fun _ => q_lss rfl rfl) (aL_nil (thn_n ?_))))
   refine awp_cond _ rfl (fun h2 => ?_) (fun h2 => ?_)
   ·skip
    have hk' : k < M.length := by simpa using h2
    obtain ⟨x, hx⟩ : ∃ x, M[k]? = some x := ⟨M[k]'hk', by simp⟩
    obtain ⟨r1, r2, r3, r4, r5, r6, r7, r8⟩ := rightA_iff.1 (hI.right _ (List.mem_of_getElem? hx))
    have hlA : k < (rfA M).length := by simp [rfA, hk']
    have hrA : (rfA M)[k]? = some (x.1.vals.map D.v) := by simp [rfA, hx]
    refine awp_skip (thn_n (awp_seq (awp_block (awp_seq (awp_region (aL_s true rfl rfl (fun _ => q_move rfl) (aL_s true rfl rfl (fun _ => q_nilCheck rfl) ?_)))))))
    refine aL_s true rfl rfl (fun _ => q_fieldAddr (off := 0) (by kernel_rfl) rfl) ?_
    refine aL_s true rfl rfl (fun _ => q_load 0 tk77 rfl rfl rfl) (aL_s true rfl rfl (fun _ => q_move rfl) (aL_s true rfl rfl (fun _ => q_idxO 2 k el77 rfl rfl rfl rfl hlA) (aL_s true rfl rfl (fun _ => q_loadO (v := .slice dA M.length cA) (u := .agg x.1.vals.toArray) 2 k 0 tk58 rfl rfl hrA rfl rfl) ?_)))
    refine aL_eff (q := true) rfl (x_alloc (zs := [.int .i64 0, .int .i64 0, .int .i64 0, .int .i64 0, .int .i64 0]) (by kernel_rfl) rfl (fun b7_7 => ?_))
    refine aL_hp (by (try simp only [nM, nN]); rfl) ?_
    refine aL_eff rfl (x_store 4 tk58 rfl rfl rfl rfl ?_)
    refine aL_hp (by simp only [nK, nL]; rfl) ?_
    refine aL_nil (thn_n (awp_seq (awp_seq (awp_region ?_))))
    refine aL_s true rfl rfl (fun _ => q_fieldAddr (off := 0) (by kernel_rfl) rfl) ?_
    refine aL_s true rfl rfl (fun _ => q_load 4 tk3 rfl rfl rfl) ?_
    refine aL_s true rfl rfl (fun _ => q_fieldAddr (off := 0) (by kernel_rfl) rfl) ?_
    refine aL_s true rfl rfl (fun _ => q_load 1 tk3 rfl rfl rfl) ?_
    refine aL_s true rfl rfl (fun _ => q_fieldAddr (off := 1) (by kernel_rfl) rfl) ?_
    refine aL_s true rfl rfl (fun _ => q_load 1 tk3 rfl rfl rfl) ?_
    refine aL_s true rfl rfl (fun _ => q_addi rfl rfl (by omega)) ?_
    refine aL_s true rfl rfl (fun _ => q_lss rfl rfl) (aL_s true rfl rfl (fun _ => q_move rfl) ?_)
    refine aL_s _ rfl rfl (fun hc => q_fieldAddr (off := 0) (by kernel_rfl) rfl) ?_
    refine aL_s _ rfl rfl (fun hc => q_load 1 tk3 (ev_yes rfl hc) rfl rfl) ?_
    refine aL_s _ rfl rfl (fun hc => q_fieldAddr (off := 0) (by kernel_rfl) rfl) ?_
    refine aL_s _ rfl rfl (fun hc => q_load 4 tk3 (ev_yes rfl hc) rfl rfl) ?_
    refine aL_s _ rfl rfl (fun hc => q_fieldAddr (off := 1) (by kernel_rfl) rfl) ?_
    refine aL_s _ rfl rfl (fun hc => q_load 4 tk3 (ev_yes rfl hc) rfl rfl) ?_
    refine aL_s _ rfl rfl (fun hc => q_addi (ev_yes rfl hc) (ev_yes rfl hc) (by (first | omega | (simp at hc; omega)))) ?_
    refine aL_s _ rfl rfl (fun hc => q_lss (ev_yes rfl hc) (ev_yes rfl hc)) (aL_s true rfl rfl (fun _ => q_and rfl rfl (fun h => gt rfl h)) (aL_nil (thn_n ?_)))
    refine awp_cond _ rfl (fun h3 => ?_) (fun h3 => ?_)
    ·skip
     refine awp_seq (awp_region (aL_s true rfl rfl (fun _ => q_assign rfl) (aL_nil (thn_n ?_))))
     refine awp_rfBack (M' := M) 0 2 3 rfl rfl rfl (by decide) (by decide) (by decide) hI hl ?_
     refine awp_ret (thn_r (blk_r (thn_r (thn_r (blk_r (thn_r ?_))))))
     refine fin1 [] [0] rfl Tryz.results23 rfl ?_ (.inr rfl)
     have hm : M.any (meets a) = true := List.any_eq_true.2 ⟨x, List.mem_of_getElem? hx, h3⟩
     unfold mapM; rw [if_neg (by rw [hr]; decide), if_pos hm]; exact ⟨rfl, rfl, rfl⟩
    ·skip
     refine awp_skip (thn_n (awp_seq (awp_region ?_)))
     refine aL_s true rfl rfl (fun _ => q_fieldAddr (off := 0) (by kernel_rfl) rfl) ?_
     refine aL_s true rfl rfl (fun _ => q_load 4 tk3 rfl rfl rfl) ?_
     refine aL_s true rfl rfl (fun _ => q_fieldAddr (off := 0) (by kernel_rfl) rfl) ?_
     refine aL_s true rfl rfl (fun _ => q_load 1 tk3 rfl rfl rfl) (aL_s true rfl rfl (fun _ => q_lss rfl rfl) (aL_nil (thn_n ?_)))
     refine awp_cond _ rfl (fun h4 => ?_) (fun h4 => ?_)
     ·skip
      refine awp_region (aL_s true rfl rfl (fun _ => q_move rfl) ?_)
      refine aL_s true rfl rfl (fun _ => q_addi rfl rfl (by omega)) ?_
      refine aL_s true rfl rfl (fun _ => q_assign rfl) (aL_nil (blk_n (thn_n (awp_region (aL_s true rfl rfl (fun _ => q_move rfl) ?_)))))
      refine aL_s true rfl rfl (fun _ => q_addi rfl rfl (by omega)) ?_
      refine aL_s true rfl rfl (fun _ => q_assign rfl) (aL_nil (thn_n ?_))
      refine ⟨[0, 3, 5, 6], [], [0, 1, 2, 3], rfl, ?_⟩
      have ht : M.take (k + 1) = M.take k ++ [x] := by rw [List.take_add_one, hx]; rfl
      have h4' : x.1.at_ < a.at_ := of_decide_eq_true h4
      have hlow : ∀ y ∈ M.take (k + 1), y.1.at_ < a.at_ := fun y hy => by
        rw [ht] at hy
        rcases List.mem_append.1 hy with h | h
        · obtain ⟨j, hj, e⟩ := List.mem_take_iff_getElem.1 h
          have h5 := List.pairwise_iff_getElem.1 hI.asc j k (by omega) hk' (by omega)
          have e2 : M[k] = x := Option.some.inj ((List.getElem?_eq_getElem hk').symm.trans hx)
          rw [e, e2] at h5
          obtain ⟨_, _, _, h6, _⟩ := rightA_iff.1 (hI.right y (List.mem_of_mem_take h))
          omega
        · rw [List.mem_singleton.1 h]; exact h4'
      refine ⟨(k + 1, k + 1), ⟨⟨by dsimp only; omega, Nat.le_refl _, fun y hy => ?_, hlow, fun y hy => ?_⟩, rfl⟩, by dsimp only; omega⟩
      · dsimp only at hy; rw [ht] at hy
        rcases List.mem_append.1 hy with h | h
        · exact hno y h
        · rw [List.mem_singleton.1 h]; exact h3
      · dsimp only at hy; rw [List.drop_take, Nat.sub_self, List.take_zero] at hy; cases hy
     ·skip
      refine awp_skip (blk_n (thn_n (awp_region (aL_s true rfl rfl (fun _ => q_move rfl) ?_))))
      refine aL_s true rfl rfl (fun _ => q_addi rfl rfl (by omega)) ?_
      refine aL_s true rfl rfl (fun _ => q_assign rfl) (aL_nil (thn_n ?_))
      refine ⟨[0, 3, 5, 6], [], [0, 1, 2, 3], rfl, ?_⟩
      have ht : M.take (k + 1) = M.take k ++ [x] := by rw [List.take_add_one, hx]; rfl
      have h4' : ¬ x.1.at_ < a.at_ := of_decide_eq_false h4
      refine ⟨(k + 1, m), ⟨⟨by dsimp only; omega, by dsimp only at hmk ⊢; omega, fun y hy => ?_, hlo, fun y hy => ?_⟩, rfl⟩, by dsimp only; omega⟩
      · dsimp only at hy; rw [ht] at hy
        rcases List.mem_append.1 hy with h | h
        · exact hno y h
        · rw [List.mem_singleton.1 h]; exact h3
      · dsimp only at hy hmk; rw [ht, List.drop_append_of_le_length (by rw [List.length_take]; omega)] at hy
        rcases List.mem_append.1 hy with h | h
        · exact hhi y h
        · rw [List.mem_singleton.1 h]; exact h4'
   ·skip
    dsimp only at h2 hk hmk hno hlo hhi
    obtain rfl : k = M.length := by have := of_decide_eq_false h2; omega
    rw [List.take_length] at hno hhi
    refine awp_exit (thn_e (thn_e (blk_hit (thn_n (awp_seq (awp_seq (awp_region ?_)))))))
    refine aL_s true rfl rfl (fun _ => q_move rfl) (aL_s true rfl rfl (fun _ => q_nilCheck rfl) ?_)
    refine aL_s true rfl rfl (fun _ => q_fieldAddr (off := 0) (by kernel_rfl) rfl) ?_
    refine aL_s true rfl rfl (fun _ => q_load 0 tk77 rfl rfl rfl) (aL_s true rfl rfl (fun _ => q_lenS Tryz.underlying77 rfl) (aL_s true rfl rfl (fun _ => q_geq rfl rfl) (aL_nil (thn_n ?_))))
    refine awp_cond _ rfl (fun h5 => ?_) (fun h5 => ?_)
    ·skip
     refine awp_seq (awp_region (aL_s true rfl rfl (fun _ => q_assign rfl) (aL_nil (thn_n ?_))))
     refine awp_rfBack (M' := M) 0 2 3 rfl rfl rfl (by decide) (by decide) (by decide) hI hl ?_
     refine awp_ret (thn_r ?_)
     refine fin1 [] [0] rfl Tryz.results23 rfl ?_ (.inr rfl)
     have h4096 : 4096 ≤ M.length := by have := of_decide_eq_true h5; omega
     have hany : ¬ M.any (meets a) = true := fun h => by
       obtain ⟨x, hx, h1⟩ := List.any_eq_true.1 h
       rw [hno x hx] at h1; cases h1
     unfold mapM; rw [if_neg (by rw [hr]; decide), if_neg hany, if_pos h4096]; exact ⟨rfl, rfl, rfl⟩
    ·skip
     have hlt : M.length < 4096 := by have := of_decide_eq_false h5; omega
     obtain ⟨hmap, hinv⟩ := mapM_parts hI hr hno hlt hlo hhi
     have hA' : rfA (mapM M a).1 = ((rfA M).take m ++ [a.vals.map D.v]) ++ (rfA M).drop m := by rw [hmap]; simp [rfA, List.map_take, List.map_drop]
     have hB' : rfB (mapM M a).1 = ((rfB M).take m ++ [[.v (.string (ofBytes (List.replicate a.size.toNat 0)))]]) ++ (rfB M).drop m := by rw [hmap]; simp [rfB, List.map_take, List.map_drop]
     have hinv' : MInv (mapM M a).1 := by rw [hmap]; exact hinv
     have hlen' : (mapM M a).1.length ≤ 4096 := by rw [hmap]; simp; omega
     refine awp_skip (thn_n (awp_seq ?_))
     have hmM : m ≤ M.length := by omega
     have hrlA : ∀ r ∈ (rfA M).take m, r.length = 5 := fun r hr => by obtain ⟨x, _, rfl⟩ := List.mem_map.1 (List.mem_of_mem_take hr); rfl
     have hrlA' : ∀ r ∈ (rfA M).drop m, r.length = 5 := fun r hr => by obtain ⟨x, _, rfl⟩ := List.mem_map.1 (List.mem_of_mem_drop hr); rfl
     have hrlA0 : ∀ r ∈ rfA M, r.length = 5 := fun r hr => by obtain ⟨x, _, rfl⟩ := List.mem_map.1 hr; rfl
     have hrlB : ∀ r ∈ (rfB M).take m, r.length = 1 := fun r hr => by obtain ⟨x, _, rfl⟩ := List.mem_map.1 (List.mem_of_mem_take hr); rfl
     have hrlB' : ∀ r ∈ (rfB M).drop m, r.length = 1 := fun r hr => by obtain ⟨x, _, rfl⟩ := List.mem_map.1 (List.mem_of_mem_drop hr); rfl
     have hrlB0 : ∀ r ∈ rfB M, r.length = 1 := fun r hr => by obtain ⟨x, _, rfl⟩ := List.mem_map.1 hr; rfl
     have hlA0 : (rfA M).length = M.length := by simp [rfA]
     have hlB0 : (rfB M).length = M.length := by simp [rfB]
     have hmA : m ≤ (rfA M).length := by omega
     have hmB : m ≤ (rfB M).length := by omega
     have htA : ((rfA M).take m).length = m := by rw [List.length_take]; omega
     have htB : ((rfB M).take m).length = m := by rw [List.length_take]; omega
     have hdA : ((rfA M).drop m).length = M.length - m := by rw [List.length_drop]; omega
     have hdB : ((rfB M).drop m).length = M.length - m := by rw [List.length_drop]; omega
     refine awp_share 2 rfl (awp_share 3 rfl ?_)
     show awp _ _ _ _ ⟨_, [Sh _ _, Sh _ _], [Box _ _ _, Box _ _ _, emp, emp]⟩
     refine awp_drawnC [8, 11, 18, 21] [21] [p, b0_0] (by kernel_rfl) ?_
     show aC _ _ _ _ _ _ _ 22 #[false, false, false, false, false, false, false, false, false, false, false, false, false, false, false, false, false, false, false, false, false, false] _
     refine aC_join (X := Option Addr × Nat) (fun q => ⟨[(0, true, .pointer (some ⟨p, 0, none⟩)), (3, true, .pointer (some ⟨b0_0, 0, none⟩)), (5, true, .int .i64 m)], [Sh (.slice dB M.length cB) (.sl (rfB M)), Sh (.slice dA M.length cA) (.sl (rfA M))], [Box p 80 [.slice q.1 (M.length + 1) q.2, .slice dB M.length cB], Box b0_0 58 a.vals, OwnS (.slice q.1 (M.length + 1) q.2) 58 5 (((rfA M).take m ++ [a.vals.map D.v]) ++ (rfA M).drop m)]⟩) ?_ ?_
     ·skip
      refine aC_f 0 rfl (by kernel_rfl) true rfl rfl (fun _ => q_move rfl) ?_
      refine aC_f 2 rfl (by kernel_rfl) true rfl rfl (fun _ => q_move rfl) ?_
      refine aC_f 3 rfl (by kernel_rfl) true rfl rfl (fun _ => q_nilCheck rfl) ?_
      refine aC_f 4 rfl (by kernel_rfl) true rfl rfl (fun _ => q_fieldAddr (off := 0) (by kernel_rfl) rfl) ?_
      refine aC_box 5 0 rfl (by kernel_rfl) true rfl rfl (by simp) tk77 (fun _ => rfl) rfl rfl ?_
      refine aC_f 6 rfl (by kernel_rfl) true rfl rfl (fun _ => q_move rfl) ?_
      refine aC_R1 7 rfl (by kernel_rfl) rfl rfl (q_sliceHS m el77 rfl (psAt 1 rfl) rfl rfl hmA hrlA0) (fun ⟨a14_7, c14_7⟩ => ?_)
      refine aC_box 9 1 rfl (by kernel_rfl) true rfl rfl (by simp) tk58 (fun _ => rfl) rfl rfl ?_
      refine aC_f 12 rfl (by kernel_rfl) true rfl rfl (fun _ => q_move rfl) ?_
      refine aC_f 13 rfl (by kernel_rfl) true rfl rfl (fun _ => q_nilCheck rfl) ?_
      refine aC_f 14 rfl (by kernel_rfl) true rfl rfl (fun _ => q_fieldAddr (off := 0) (by kernel_rfl) rfl) ?_
      refine aC_box 15 0 rfl (by kernel_rfl) true rfl rfl (by simp) tk77 (fun _ => rfl) rfl rfl ?_
      refine aC_f 16 rfl (by kernel_rfl) true rfl rfl (fun _ => q_move rfl) ?_
      refine aC_R1 17 rfl (by kernel_rfl) rfl rfl (q_sliceLS m (M.length - m) el77 rfl (psAt 2 rfl) rfl rfl hmA hrlA0 (by omega)) (fun ⟨a14_17, c14_17⟩ => ?_)
      refine aC_arms 1 [10] (by kernel_rfl) (arms_cons ?_ (arms_cons ?_ arms_nil))
      ·skip
       refine aC_arm 1 rfl rfl (Eff.x ?_)
       refine id (w_lit0 el77 rfl (fun v14_1 => ?_))
       refine aC_st (by (try simp only [nO, nK, nL]); rfl) (by (try simp only [nM, nN]); rfl) (by (try simp only [keepH, nQ, nR, putB, place, Nat.reduceBEq, nA, if_true, if_false, reduceIte, nB, nC, nD, nE, nF, nG, nH, nI, Nat.reduceAdd, nJ, beq_self_eq_true, nK, nL, nM, nN]); rfl) ?_
       refine aC_arms 8 [10] (by kernel_rfl) (arms_cons ?_ (arms_cons ?_ arms_nil))
       ·skip
        refine aC_arm 8 rfl rfl (Eff.framed (q := false) [4] rfl rfl (zcons 0 rfl rfl (zcons 1 rfl rfl znil)) ?_)
        refine id (w_appendQ 0 el77 el77 rfl rfl rfl rfl (psAt 1 rfl) (hrlA) (by rw [htA]; omega) (m) (by simp; try omega) (fun v14_8 c14_8 => ?_))
        refine fr_mk ?_
        refine aC_st (by (try simp only [nO, nK, nL]); rfl) (by (try simp only [nM, nN]); rfl) (by (try simp only [keepH, nQ, nR, putB, place, Nat.reduceBEq, nA, if_true, if_false, reduceIte, nB, nC, nD, nE, nF, nG, nH, nI, Nat.reduceAdd, nJ, beq_self_eq_true, nK, nL, nM, nN]); rfl) ?_
        refine aC_arms 10 [] (by kernel_rfl) (arms_cons ?_ arms_nil)
        refine aC_arm 10 rfl rfl (Eff.x ?_)
        refine id (w_lit (zs := [.int .i64 0, .int .i64 0, .int .i64 0, .int .i64 0, .int .i64 0]) (l := [(0, .tmp 67)]) el77 (by kernel_rfl) (by decide) (by decide) (by decide) rfl rfl rfl (.more rfl (.v rfl (.v rfl (.v rfl (.v rfl (.v rfl .nil))))) .nil) rfl rfl (fun v14_10 => ?_))
        refine aC_st (by (try simp only [nO, nK, nL]); rfl) (by (try simp only [nM, nN]); rfl) (by (try simp only [keepH, nQ, nR, putB, place, Nat.reduceBEq, nA, if_true, if_false, reduceIte, nB, nC, nD, nE, nF, nG, nH, nI, Nat.reduceAdd, nJ, beq_self_eq_true, nK, nL, nM, nN]); rfl) ?_
        refine aC_arms 11 [] (by kernel_rfl) (arms_cons ?_ arms_nil)
        refine aC_arm 11 rfl rfl (Eff.framed (q := false) [4, 5] rfl rfl (zcons 0 rfl rfl (zcons 1 rfl rfl znil)) ?_)
        refine id (w_append 0 el77 rfl rfl rfl rfl (w_srcO 1 el77 rfl (by simp)) (by first | assumption | simp) (by (rw [htA]; simp; omega)) (m + 1) (by rw [htA]; rfl) (fun v14_11 c14_11 => ?_))
        refine fr_mk ?_
        refine aC_st (by (try simp only [nO, nK, nL]); rfl) (by (try simp only [nM, nN]); rfl) (by (try simp only [keepH, nQ, nR, putB, place, Nat.reduceBEq, nA, if_true, if_false, reduceIte, nB, nC, nD, nE, nF, nG, nH, nI, Nat.reduceAdd, nJ, beq_self_eq_true, nK, nL, nM, nN]); rfl) ?_
        refine aC_arms 18 [] (by kernel_rfl) (arms_cons ?_ arms_nil)
        refine aC_arm 18 rfl rfl (Eff.framed (q := false) [4] rfl rfl (zcons 0 rfl rfl (zcons 1 rfl rfl znil)) ?_)
        refine id (w_appendS 0 el77 el77 rfl rfl rfl rfl (psAt 0 rfl) (hrlA') (by (rw [List.length_append, htA, hdA]; simp; omega)) (M.length + 1) (by simp; try omega) (fun v14_18 c14_18 => ?_))
        refine fr_mk ?_
        refine aC_st (by (try simp only [nO, nK, nL]); rfl) (by (try simp only [nM, nN]); rfl) (by (try simp only [keepH, nQ, nR, putB, place, Nat.reduceBEq, nA, if_true, if_false, reduceIte, nB, nC, nD, nE, nF, nG, nH, nI, Nat.reduceAdd, nJ, beq_self_eq_true, nK, nL, nM, nN]); rfl) ?_
        refine aC_f 19 rfl (by kernel_rfl) true rfl rfl (fun _ => q_nilCheck rfl) ?_
        refine aC_f 20 rfl (by kernel_rfl) true rfl rfl (fun _ => q_fieldAddr (off := 0) (by kernel_rfl) rfl) ?_
        refine aC_arms 21 [] (by kernel_rfl) (arms_cons ?_ arms_nil)
        refine aC_arm 21 rfl rfl (Eff.wild (q := false) ?_)
        refine id (x_store 0 tk77 rfl rfl rfl rfl ?_)
        refine aC_st (by (try simp only [nO, nK, nL]); rfl) (by (try simp only [nM, nN]); rfl) (by (try simp only [keepH, nQ, nR, putB, place, Nat.reduceBEq, nA, if_true, if_false, reduceIte, nB, nC, nD, nE, nF, nG, nH, nI, Nat.reduceAdd, nJ, beq_self_eq_true, nK, nL, nM, nN]); rfl) ?_
        refine aC_nil (by kernel_rfl) ?_
        exact ⟨rfl, [0, 3, 5], [1, 0], [0, 1, 4], (v14_18, c14_18), rfl, rfl⟩
       ·skip
        refine aC_arm 10 rfl rfl (Eff.x ?_)
        refine id (w_lit (zs := [.int .i64 0, .int .i64 0, .int .i64 0, .int .i64 0, .int .i64 0]) (l := [(0, .tmp 67)]) el77 (by kernel_rfl) (by decide) (by decide) (by decide) rfl rfl rfl (.more rfl (.v rfl (.v rfl (.v rfl (.v rfl (.v rfl .nil))))) .nil) rfl rfl (fun v14_10 => ?_))
        refine aC_st (by (try simp only [nO, nK, nL]); rfl) (by (try simp only [nM, nN]); rfl) (by (try simp only [keepH, nQ, nR, putB, place, Nat.reduceBEq, nA, if_true, if_false, reduceIte, nB, nC, nD, nE, nF, nG, nH, nI, Nat.reduceAdd, nJ, beq_self_eq_true, nK, nL, nM, nN]); rfl) ?_
        refine aC_arms 8 [] (by kernel_rfl) (arms_cons ?_ arms_nil)
        refine aC_arm 8 rfl rfl (Eff.framed (q := false) [4] rfl rfl (zcons 0 rfl rfl (zcons 1 rfl rfl znil)) ?_)
        refine id (w_appendQ 0 el77 el77 rfl rfl rfl rfl (psAt 1 rfl) (hrlA) (by rw [htA]; omega) (m) (by simp; try omega) (fun v14_8 c14_8 => ?_))
        refine fr_mk ?_
        refine aC_st (by (try simp only [nO, nK, nL]); rfl) (by (try simp only [nM, nN]); rfl) (by (try simp only [keepH, nQ, nR, putB, place, Nat.reduceBEq, nA, if_true, if_false, reduceIte, nB, nC, nD, nE, nF, nG, nH, nI, Nat.reduceAdd, nJ, beq_self_eq_true, nK, nL, nM, nN]); rfl) ?_
        refine aC_arms 11 [] (by kernel_rfl) (arms_cons ?_ arms_nil)
        refine aC_arm 11 rfl rfl (Eff.framed (q := false) [4, 5] rfl rfl (zcons 0 rfl rfl (zcons 1 rfl rfl znil)) ?_)
        refine id (w_append 0 el77 rfl rfl rfl rfl (w_srcO 1 el77 rfl (by simp)) (by first | assumption | simp) (by (rw [htA]; simp; omega)) (m + 1) (by rw [htA]; rfl) (fun v14_11 c14_11 => ?_))
        refine fr_mk ?_
        refine aC_st (by (try simp only [nO, nK, nL]); rfl) (by (try simp only [nM, nN]); rfl) (by (try simp only [keepH, nQ, nR, putB, place, Nat.reduceBEq, nA, if_true, if_false, reduceIte, nB, nC, nD, nE, nF, nG, nH, nI, Nat.reduceAdd, nJ, beq_self_eq_true, nK, nL, nM, nN]); rfl) ?_
        refine aC_arms 18 [] (by kernel_rfl) (arms_cons ?_ arms_nil)
        refine aC_arm 18 rfl rfl (Eff.framed (q := false) [4] rfl rfl (zcons 0 rfl rfl (zcons 1 rfl rfl znil)) ?_)
        refine id (w_appendS 0 el77 el77 rfl rfl rfl rfl (psAt 0 rfl) (hrlA') (by (rw [List.length_append, htA, hdA]; simp; omega)) (M.length + 1) (by simp; try omega) (fun v14_18 c14_18 => ?_))
        refine fr_mk ?_
        refine aC_st (by (try simp only [nO, nK, nL]); rfl) (by (try simp only [nM, nN]); rfl) (by (try simp only [keepH, nQ, nR, putB, place, Nat.reduceBEq, nA, if_true, if_false, reduceIte, nB, nC, nD, nE, nF, nG, nH, nI, Nat.reduceAdd, nJ, beq_self_eq_true, nK, nL, nM, nN]); rfl) ?_
        refine aC_f 19 rfl (by kernel_rfl) true rfl rfl (fun _ => q_nilCheck rfl) ?_
        refine aC_f 20 rfl (by kernel_rfl) true rfl rfl (fun _ => q_fieldAddr (off := 0) (by kernel_rfl) rfl) ?_
        refine aC_arms 21 [] (by kernel_rfl) (arms_cons ?_ arms_nil)
        refine aC_arm 21 rfl rfl (Eff.wild (q := false) ?_)
        refine id (x_store 0 tk77 rfl rfl rfl rfl ?_)
        refine aC_st (by (try simp only [nO, nK, nL]); rfl) (by (try simp only [nM, nN]); rfl) (by (try simp only [keepH, nQ, nR, putB, place, Nat.reduceBEq, nA, if_true, if_false, reduceIte, nB, nC, nD, nE, nF, nG, nH, nI, Nat.reduceAdd, nJ, beq_self_eq_true, nK, nL, nM, nN]); rfl) ?_
        refine aC_nil (by kernel_rfl) ?_
        exact ⟨rfl, [0, 3, 5], [1, 0], [0, 1, 4], (v14_18, c14_18), rfl, rfl⟩
      ·skip
       refine aC_arm 10 rfl rfl (Eff.x ?_)
       refine id (w_lit (zs := [.int .i64 0, .int .i64 0, .int .i64 0, .int .i64 0, .int .i64 0]) (l := [(0, .tmp 67)]) el77 (by kernel_rfl) (by decide) (by decide) (by decide) rfl rfl rfl (.more rfl (.v rfl (.v rfl (.v rfl (.v rfl (.v rfl .nil))))) .nil) rfl rfl (fun v14_10 => ?_))
       refine aC_st (by (try simp only [nO, nK, nL]); rfl) (by (try simp only [nM, nN]); rfl) (by (try simp only [keepH, nQ, nR, putB, place, Nat.reduceBEq, nA, if_true, if_false, reduceIte, nB, nC, nD, nE, nF, nG, nH, nI, Nat.reduceAdd, nJ, beq_self_eq_true, nK, nL, nM, nN]); rfl) ?_
       refine aC_arms 1 [] (by kernel_rfl) (arms_cons ?_ arms_nil)
       refine aC_arm 1 rfl rfl (Eff.x ?_)
       refine id (w_lit0 el77 rfl (fun v14_1 => ?_))
       refine aC_st (by (try simp only [nO, nK, nL]); rfl) (by (try simp only [nM, nN]); rfl) (by (try simp only [keepH, nQ, nR, putB, place, Nat.reduceBEq, nA, if_true, if_false, reduceIte, nB, nC, nD, nE, nF, nG, nH, nI, Nat.reduceAdd, nJ, beq_self_eq_true, nK, nL, nM, nN]); rfl) ?_
       refine aC_arms 8 [] (by kernel_rfl) (arms_cons ?_ arms_nil)
       refine aC_arm 8 rfl rfl (Eff.framed (q := false) [5] rfl rfl (zcons 0 rfl rfl (zcons 1 rfl rfl znil)) ?_)
       refine id (w_appendQ 0 el77 el77 rfl rfl rfl rfl (psAt 1 rfl) (hrlA) (by rw [htA]; omega) (m) (by simp; try omega) (fun v14_8 c14_8 => ?_))
       refine fr_mk ?_
       refine aC_st (by (try simp only [nO, nK, nL]); rfl) (by (try simp only [nM, nN]); rfl) (by (try simp only [keepH, nQ, nR, putB, place, Nat.reduceBEq, nA, if_true, if_false, reduceIte, nB, nC, nD, nE, nF, nG, nH, nI, Nat.reduceAdd, nJ, beq_self_eq_true, nK, nL, nM, nN]); rfl) ?_
       refine aC_arms 11 [] (by kernel_rfl) (arms_cons ?_ arms_nil)
       refine aC_arm 11 rfl rfl (Eff.framed (q := false) [5, 4] rfl rfl (zcons 0 rfl rfl (zcons 1 rfl rfl znil)) ?_)
       refine id (w_append 0 el77 rfl rfl rfl rfl (w_srcO 1 el77 rfl (by simp)) (by first | assumption | simp) (by (rw [htA]; simp; omega)) (m + 1) (by rw [htA]; rfl) (fun v14_11 c14_11 => ?_))
       refine fr_mk ?_
       refine aC_st (by (try simp only [nO, nK, nL]); rfl) (by (try simp only [nM, nN]); rfl) (by (try simp only [keepH, nQ, nR, putB, place, Nat.reduceBEq, nA, if_true, if_false, reduceIte, nB, nC, nD, nE, nF, nG, nH, nI, Nat.reduceAdd, nJ, beq_self_eq_true, nK, nL, nM, nN]); rfl) ?_
       refine aC_arms 18 [] (by kernel_rfl) (arms_cons ?_ arms_nil)
       refine aC_arm 18 rfl rfl (Eff.framed (q := false) [5] rfl rfl (zcons 0 rfl rfl (zcons 1 rfl rfl znil)) ?_)
       refine id (w_appendS 0 el77 el77 rfl rfl rfl rfl (psAt 0 rfl) (hrlA') (by (rw [List.length_append, htA, hdA]; simp; omega)) (M.length + 1) (by simp; try omega) (fun v14_18 c14_18 => ?_))
       refine fr_mk ?_
       refine aC_st (by (try simp only [nO, nK, nL]); rfl) (by (try simp only [nM, nN]); rfl) (by (try simp only [keepH, nQ, nR, putB, place, Nat.reduceBEq, nA, if_true, if_false, reduceIte, nB, nC, nD, nE, nF, nG, nH, nI, Nat.reduceAdd, nJ, beq_self_eq_true, nK, nL, nM, nN]); rfl) ?_
       refine aC_f 19 rfl (by kernel_rfl) true rfl rfl (fun _ => q_nilCheck rfl) ?_
       refine aC_f 20 rfl (by kernel_rfl) true rfl rfl (fun _ => q_fieldAddr (off := 0) (by kernel_rfl) rfl) ?_
       refine aC_arms 21 [] (by kernel_rfl) (arms_cons ?_ arms_nil)
       refine aC_arm 21 rfl rfl (Eff.wild (q := false) ?_)
       refine id (x_store 0 tk77 rfl rfl rfl rfl ?_)
       refine aC_st (by (try simp only [nO, nK, nL]); rfl) (by (try simp only [nM, nN]); rfl) (by (try simp only [keepH, nQ, nR, putB, place, Nat.reduceBEq, nA, if_true, if_false, reduceIte, nB, nC, nD, nE, nF, nG, nH, nI, Nat.reduceAdd, nJ, beq_self_eq_true, nK, nL, nM, nN]); rfl) ?_
       refine aC_nil (by kernel_rfl) ?_
       exact ⟨rfl, [0, 3, 5], [1, 0], [0, 1, 5], (v14_18, c14_18), rfl, rfl⟩
     ·skip
      rintro ⟨dA', cA'⟩
      refine thn_n (awp_seq ?_)
      refine awp_drawnC [8, 12, 14, 21, 24] [24] [p, b0_0] (by kernel_rfl) ?_
      show aC _ _ _ _ _ _ _ 25 #[false, false, false, false, false, false, false, false, false, false, false, false, false, false, false, false, false, false, false, false, false, false, false, false, false] _
      refine aC_join (X := Option Addr × Nat) (fun q => ⟨[], [], [Box p 80 [.slice dA' (M.length + 1) cA', .slice q.1 (M.length + 1) q.2], OwnS (.slice dA' (M.length + 1) cA') 58 5 (((rfA M).take m ++ [a.vals.map D.v]) ++ (rfA M).drop m), OwnS (.slice q.1 (M.length + 1) q.2) 9 1 (((rfB M).take m ++ [[.v (.string (ofBytes (List.replicate a.size.toNat 0)))]]) ++ (rfB M).drop m)]⟩) ?_ ?_
      ·skip
       refine aC_f 0 rfl (by kernel_rfl) true rfl rfl (fun _ => q_move rfl) ?_
       refine aC_f 2 rfl (by kernel_rfl) true rfl rfl (fun _ => q_move rfl) ?_
       refine aC_f 3 rfl (by kernel_rfl) true rfl rfl (fun _ => q_nilCheck rfl) ?_
       refine aC_f 4 rfl (by kernel_rfl) true rfl rfl (fun _ => q_fieldAddr (off := 1) (by kernel_rfl) rfl) ?_
       refine aC_box 5 0 rfl (by kernel_rfl) true rfl rfl (by simp) tk78 (fun _ => rfl) rfl rfl ?_
       refine aC_f 6 rfl (by kernel_rfl) true rfl rfl (fun _ => q_move rfl) ?_
       refine aC_R1 7 rfl (by kernel_rfl) rfl rfl (q_sliceHS m el78 rfl (psAt 0 rfl) rfl rfl hmB hrlB0) (fun ⟨a15_7, c15_7⟩ => ?_)
       refine aC_f 9 rfl (by kernel_rfl) true rfl rfl (fun _ => q_fieldAddr (off := 1) (by kernel_rfl) rfl) ?_
       refine aC_box 10 1 rfl (by kernel_rfl) true rfl rfl (by simp) tk3 (fun _ => rfl) rfl rfl ?_
       refine aC_f 15 rfl (by kernel_rfl) true rfl rfl (fun _ => q_move rfl) ?_
       refine aC_f 16 rfl (by kernel_rfl) true rfl rfl (fun _ => q_nilCheck rfl) ?_
       refine aC_f 17 rfl (by kernel_rfl) true rfl rfl (fun _ => q_fieldAddr (off := 1) (by kernel_rfl) rfl) ?_
       refine aC_box 18 0 rfl (by kernel_rfl) true rfl rfl (by simp) tk78 (fun _ => rfl) rfl rfl ?_
       refine aC_f 19 rfl (by kernel_rfl) true rfl rfl (fun _ => q_move rfl) ?_
       refine aC_R1 20 rfl (by kernel_rfl) rfl rfl (q_sliceLS m (M.length - m) el78 rfl (psAt 1 rfl) rfl rfl hmB hrlB0 (by omega)) (fun ⟨a15_20, c15_20⟩ => ?_)
       refine aC_arms 1 [11] (by kernel_rfl) (arms_cons ?_ (arms_cons ?_ arms_nil))
       ·skip
        refine aC_arm 1 rfl rfl (Eff.x ?_)
        refine id (w_lit0 el78 rfl (fun v15_1 => ?_))
        refine aC_st (by (try simp only [nO, nK, nL]); rfl) (by (try simp only [nM, nN]); rfl) (by (try simp only [keepH, nQ, nR, putB, place, Nat.reduceBEq, nA, if_true, if_false, reduceIte, nB, nC, nD, nE, nF, nG, nH, nI, Nat.reduceAdd, nJ, beq_self_eq_true, nK, nL, nM, nN]); rfl) ?_
        refine aC_arms 8 [11] (by kernel_rfl) (arms_cons ?_ (arms_cons ?_ arms_nil))
        ·skip
         refine aC_arm 8 rfl rfl (Eff.framed (q := false) [3] rfl rfl (zcons 0 rfl rfl (zcons 1 rfl rfl znil)) ?_)
         refine id (w_appendQ 0 el78 el78 rfl rfl rfl rfl (psAt 1 rfl) (hrlB) (by rw [htB]; omega) (m) (by simp; try omega) (fun v15_8 c15_8 => ?_))
         refine fr_mk ?_
         refine aC_st (by (try simp only [nO, nK, nL]); rfl) (by (try simp only [nM, nN]); rfl) (by (try simp only [keepH, nQ, nR, putB, place, Nat.reduceBEq, nA, if_true, if_false, reduceIte, nB, nC, nD, nE, nF, nG, nH, nI, Nat.reduceAdd, nJ, beq_self_eq_true, nK, nL, nM, nN]); rfl) ?_
         refine aC_arms 11 [] (by kernel_rfl) (arms_cons ?_ arms_nil)
         refine aC_arm 11 rfl rfl (Eff.x ?_)
         refine id (w_make (m := a.size.toNat) (zs := [.int .u8 0]) el81 (by kernel_rfl) rfl (by decide) (ev_int rfl (by omega)) (ev_int rfl (by omega)) (by omega) rfl (fun v15_11 => ?_))
         refine aC_st (by (try simp only [nO, nK, nL]); rfl) (by (try simp only [nM, nN]); rfl) (by (try simp only [keepH, nQ, nR, putB, place, Nat.reduceBEq, nA, if_true, if_false, reduceIte, nB, nC, nD, nE, nF, nG, nH, nI, Nat.reduceAdd, nJ, beq_self_eq_true, nK, nL, nM, nN]); rfl) ?_
         refine aC_arms 12 [] (by kernel_rfl) (arms_cons ?_ arms_nil)
         refine aC_arm 12 rfl rfl (Eff.framed (q := false) [4] rfl rfl (zcons 0 rfl rfl (zcons 1 rfl rfl znil)) ?_)
         refine Quiet.eff (q_bytesStr 0 (List.replicate a.size.toNat 0) Tryz.underlying81 Tryz.underlying5 Tryz.underlying9 rfl rfl (by simp) (by intro h; have := congrArg List.length h; simp at this; omega)) rfl ?_
         refine fr_mk ?_
         refine aC_st (by (try simp only [nO, nK, nL]); rfl) (by (try simp only [nM, nN]); rfl) (by (try simp only [keepH, nQ, nR, putB, place, Nat.reduceBEq, nA, if_true, if_false, reduceIte, nB, nC, nD, nE, nF, nG, nH, nI, Nat.reduceAdd, nJ, beq_self_eq_true, nK, nL, nM, nN]); rfl) ?_
         refine aC_arms 13 [] (by kernel_rfl) (arms_cons ?_ arms_nil)
         refine aC_arm 13 rfl rfl (Eff.x ?_)
         refine id (w_lit (zs := [.string .empty]) (l := [(0, .tmp 91)]) el78 (by kernel_rfl) (by decide) (by decide) (by decide) rfl rfl rfl (.more rfl (.v rfl .nil) .nil) rfl rfl (fun v15_13 => ?_))
         refine aC_st (by (try simp only [nO, nK, nL]); rfl) (by (try simp only [nM, nN]); rfl) (by (try simp only [keepH, nQ, nR, putB, place, Nat.reduceBEq, nA, if_true, if_false, reduceIte, nB, nC, nD, nE, nF, nG, nH, nI, Nat.reduceAdd, nJ, beq_self_eq_true, nK, nL, nM, nN]); rfl) ?_
         refine aC_arms 14 [] (by kernel_rfl) (arms_cons ?_ arms_nil)
         refine aC_arm 14 rfl rfl (Eff.framed (q := false) [3, 5] rfl rfl (zcons 0 rfl rfl (zcons 1 rfl rfl znil)) ?_)
         refine id (w_append 0 el78 rfl rfl rfl rfl (w_srcO 1 el78 rfl (by simp)) (by first | assumption | simp) (by (rw [htB]; simp; omega)) (m + 1) (by rw [htB]; rfl) (fun v15_14 c15_14 => ?_))
         refine fr_mk ?_
         refine aC_st (by (try simp only [nO, nK, nL]); rfl) (by (try simp only [nM, nN]); rfl) (by (try simp only [keepH, nQ, nR, putB, place, Nat.reduceBEq, nA, if_true, if_false, reduceIte, nB, nC, nD, nE, nF, nG, nH, nI, Nat.reduceAdd, nJ, beq_self_eq_true, nK, nL, nM, nN]); rfl) ?_
         refine aC_arms 21 [] (by kernel_rfl) (arms_cons ?_ arms_nil)
         refine aC_arm 21 rfl rfl (Eff.framed (q := false) [3] rfl rfl (zcons 0 rfl rfl (zcons 1 rfl rfl znil)) ?_)
         refine id (w_appendS 0 el78 el78 rfl rfl rfl rfl (psAt 0 rfl) (hrlB') (by (rw [List.length_append, htB, hdB]; simp; omega)) (M.length + 1) (by simp; try omega) (fun v15_21 c15_21 => ?_))
         refine fr_mk ?_
         refine aC_st (by (try simp only [nO, nK, nL]); rfl) (by (try simp only [nM, nN]); rfl) (by (try simp only [keepH, nQ, nR, putB, place, Nat.reduceBEq, nA, if_true, if_false, reduceIte, nB, nC, nD, nE, nF, nG, nH, nI, Nat.reduceAdd, nJ, beq_self_eq_true, nK, nL, nM, nN]); rfl) ?_
         refine aC_f 22 rfl (by kernel_rfl) true rfl rfl (fun _ => q_nilCheck rfl) ?_
         refine aC_f 23 rfl (by kernel_rfl) true rfl rfl (fun _ => q_fieldAddr (off := 1) (by kernel_rfl) rfl) ?_
         refine aC_arms 24 [] (by kernel_rfl) (arms_cons ?_ arms_nil)
         refine aC_arm 24 rfl rfl (Eff.wild (q := false) ?_)
         refine id (x_store 0 tk78 rfl rfl rfl rfl ?_)
         refine aC_st (by (try simp only [nO, nK, nL]); rfl) (by (try simp only [nM, nN]); rfl) (by (try simp only [keepH, nQ, nR, putB, place, Nat.reduceBEq, nA, if_true, if_false, reduceIte, nB, nC, nD, nE, nF, nG, nH, nI, Nat.reduceAdd, nJ, beq_self_eq_true, nK, nL, nM, nN]); rfl) ?_
         refine aC_nil (by kernel_rfl) ?_
         exact ⟨rfl, [], [], [0, 2, 3], (v15_21, c15_21), rfl, rfl⟩
        ·skip
         refine aC_arm 11 rfl rfl (Eff.x ?_)
         refine id (w_make (m := a.size.toNat) (zs := [.int .u8 0]) el81 (by kernel_rfl) rfl (by decide) (ev_int rfl (by omega)) (ev_int rfl (by omega)) (by omega) rfl (fun v15_11 => ?_))
         refine aC_st (by (try simp only [nO, nK, nL]); rfl) (by (try simp only [nM, nN]); rfl) (by (try simp only [keepH, nQ, nR, putB, place, Nat.reduceBEq, nA, if_true, if_false, reduceIte, nB, nC, nD, nE, nF, nG, nH, nI, Nat.reduceAdd, nJ, beq_self_eq_true, nK, nL, nM, nN]); rfl) ?_
         refine aC_arms 8 [12] (by kernel_rfl) (arms_cons ?_ (arms_cons ?_ arms_nil))
         ·skip
          refine aC_arm 8 rfl rfl (Eff.framed (q := false) [3] rfl rfl (zcons 0 rfl rfl (zcons 1 rfl rfl znil)) ?_)
          refine id (w_appendQ 0 el78 el78 rfl rfl rfl rfl (psAt 1 rfl) (hrlB) (by rw [htB]; omega) (m) (by simp; try omega) (fun v15_8 c15_8 => ?_))
          refine fr_mk ?_
          refine aC_st (by (try simp only [nO, nK, nL]); rfl) (by (try simp only [nM, nN]); rfl) (by (try simp only [keepH, nQ, nR, putB, place, Nat.reduceBEq, nA, if_true, if_false, reduceIte, nB, nC, nD, nE, nF, nG, nH, nI, Nat.reduceAdd, nJ, beq_self_eq_true, nK, nL, nM, nN]); rfl) ?_
          refine aC_arms 12 [] (by kernel_rfl) (arms_cons ?_ arms_nil)
          refine aC_arm 12 rfl rfl (Eff.framed (q := false) [4] rfl rfl (zcons 0 rfl rfl (zcons 1 rfl rfl znil)) ?_)
          refine Quiet.eff (q_bytesStr 0 (List.replicate a.size.toNat 0) Tryz.underlying81 Tryz.underlying5 Tryz.underlying9 rfl rfl (by simp) (by intro h; have := congrArg List.length h; simp at this; omega)) rfl ?_
          refine fr_mk ?_
          refine aC_st (by (try simp only [nO, nK, nL]); rfl) (by (try simp only [nM, nN]); rfl) (by (try simp only [keepH, nQ, nR, putB, place, Nat.reduceBEq, nA, if_true, if_false, reduceIte, nB, nC, nD, nE, nF, nG, nH, nI, Nat.reduceAdd, nJ, beq_self_eq_true, nK, nL, nM, nN]); rfl) ?_
          refine aC_arms 13 [] (by kernel_rfl) (arms_cons ?_ arms_nil)
          refine aC_arm 13 rfl rfl (Eff.x ?_)
          refine id (w_lit (zs := [.string .empty]) (l := [(0, .tmp 91)]) el78 (by kernel_rfl) (by decide) (by decide) (by decide) rfl rfl rfl (.more rfl (.v rfl .nil) .nil) rfl rfl (fun v15_13 => ?_))
          refine aC_st (by (try simp only [nO, nK, nL]); rfl) (by (try simp only [nM, nN]); rfl) (by (try simp only [keepH, nQ, nR, putB, place, Nat.reduceBEq, nA, if_true, if_false, reduceIte, nB, nC, nD, nE, nF, nG, nH, nI, Nat.reduceAdd, nJ, beq_self_eq_true, nK, nL, nM, nN]); rfl) ?_
          refine aC_arms 14 [] (by kernel_rfl) (arms_cons ?_ arms_nil)
          refine aC_arm 14 rfl rfl (Eff.framed (q := false) [3, 5] rfl rfl (zcons 0 rfl rfl (zcons 1 rfl rfl znil)) ?_)
          refine id (w_append 0 el78 rfl rfl rfl rfl (w_srcO 1 el78 rfl (by simp)) (by first | assumption | simp) (by (rw [htB]; simp; omega)) (m + 1) (by rw [htB]; rfl) (fun v15_14 c15_14 => ?_))
          refine fr_mk ?_
          refine aC_st (by (try simp only [nO, nK, nL]); rfl) (by (try simp only [nM, nN]); rfl) (by (try simp only [keepH, nQ, nR, putB, place, Nat.reduceBEq, nA, if_true, if_false, reduceIte, nB, nC, nD, nE, nF, nG, nH, nI, Nat.reduceAdd, nJ, beq_self_eq_true, nK, nL, nM, nN]); rfl) ?_
          refine aC_arms 21 [] (by kernel_rfl) (arms_cons ?_ arms_nil)
          refine aC_arm 21 rfl rfl (Eff.framed (q := false) [3] rfl rfl (zcons 0 rfl rfl (zcons 1 rfl rfl znil)) ?_)
          refine id (w_appendS 0 el78 el78 rfl rfl rfl rfl (psAt 0 rfl) (hrlB') (by (rw [List.length_append, htB, hdB]; simp; omega)) (M.length + 1) (by simp; try omega) (fun v15_21 c15_21 => ?_))
          refine fr_mk ?_
          refine aC_st (by (try simp only [nO, nK, nL]); rfl) (by (try simp only [nM, nN]); rfl) (by (try simp only [keepH, nQ, nR, putB, place, Nat.reduceBEq, nA, if_true, if_false, reduceIte, nB, nC, nD, nE, nF, nG, nH, nI, Nat.reduceAdd, nJ, beq_self_eq_true, nK, nL, nM, nN]); rfl) ?_
          refine aC_f 22 rfl (by kernel_rfl) true rfl rfl (fun _ => q_nilCheck rfl) ?_
          refine aC_f 23 rfl (by kernel_rfl) true rfl rfl (fun _ => q_fieldAddr (off := 1) (by kernel_rfl) rfl) ?_
          refine aC_arms 24 [] (by kernel_rfl) (arms_cons ?_ arms_nil)
          refine aC_arm 24 rfl rfl (Eff.wild (q := false) ?_)
          refine id (x_store 0 tk78 rfl rfl rfl rfl ?_)
          refine aC_st (by (try simp only [nO, nK, nL]); rfl) (by (try simp only [nM, nN]); rfl) (by (try simp only [keepH, nQ, nR, putB, place, Nat.reduceBEq, nA, if_true, if_false, reduceIte, nB, nC, nD, nE, nF, nG, nH, nI, Nat.reduceAdd, nJ, beq_self_eq_true, nK, nL, nM, nN]); rfl) ?_
          refine aC_nil (by kernel_rfl) ?_
          exact ⟨rfl, [], [], [0, 2, 3], (v15_21, c15_21), rfl, rfl⟩
         ·skip
          refine aC_arm 12 rfl rfl (Eff.framed (q := false) [4] rfl rfl (zcons 0 rfl rfl (zcons 1 rfl rfl znil)) ?_)
          refine Quiet.eff (q_bytesStr 0 (List.replicate a.size.toNat 0) Tryz.underlying81 Tryz.underlying5 Tryz.underlying9 rfl rfl (by simp) (by intro h; have := congrArg List.length h; simp at this; omega)) rfl ?_
          refine fr_mk ?_
          refine aC_st (by (try simp only [nO, nK, nL]); rfl) (by (try simp only [nM, nN]); rfl) (by (try simp only [keepH, nQ, nR, putB, place, Nat.reduceBEq, nA, if_true, if_false, reduceIte, nB, nC, nD, nE, nF, nG, nH, nI, Nat.reduceAdd, nJ, beq_self_eq_true, nK, nL, nM, nN]); rfl) ?_
          refine aC_arms 8 [13] (by kernel_rfl) (arms_cons ?_ (arms_cons ?_ arms_nil))
          ·skip
           refine aC_arm 8 rfl rfl (Eff.framed (q := false) [3] rfl rfl (zcons 0 rfl rfl (zcons 1 rfl rfl znil)) ?_)
           refine id (w_appendQ 0 el78 el78 rfl rfl rfl rfl (psAt 1 rfl) (hrlB) (by rw [htB]; omega) (m) (by simp; try omega) (fun v15_8 c15_8 => ?_))
           refine fr_mk ?_
           refine aC_st (by (try simp only [nO, nK, nL]); rfl) (by (try simp only [nM, nN]); rfl) (by (try simp only [keepH, nQ, nR, putB, place, Nat.reduceBEq, nA, if_true, if_false, reduceIte, nB, nC, nD, nE, nF, nG, nH, nI, Nat.reduceAdd, nJ, beq_self_eq_true, nK, nL, nM, nN]); rfl) ?_
           refine aC_arms 13 [] (by kernel_rfl) (arms_cons ?_ arms_nil)
           refine aC_arm 13 rfl rfl (Eff.x ?_)
           refine id (w_lit (zs := [.string .empty]) (l := [(0, .tmp 91)]) el78 (by kernel_rfl) (by decide) (by decide) (by decide) rfl rfl rfl (.more rfl (.v rfl .nil) .nil) rfl rfl (fun v15_13 => ?_))
           refine aC_st (by (try simp only [nO, nK, nL]); rfl) (by (try simp only [nM, nN]); rfl) (by (try simp only [keepH, nQ, nR, putB, place, Nat.reduceBEq, nA, if_true, if_false, reduceIte, nB, nC, nD, nE, nF, nG, nH, nI, Nat.reduceAdd, nJ, beq_self_eq_true, nK, nL, nM, nN]); rfl) ?_
           refine aC_arms 14 [] (by kernel_rfl) (arms_cons ?_ arms_nil)
           refine aC_arm 14 rfl rfl (Eff.framed (q := false) [3, 5] rfl rfl (zcons 0 rfl rfl (zcons 1 rfl rfl znil)) ?_)
           refine id (w_append 0 el78 rfl rfl rfl rfl (w_srcO 1 el78 rfl (by simp)) (by first | assumption | simp) (by (rw [htB]; simp; omega)) (m + 1) (by rw [htB]; rfl) (fun v15_14 c15_14 => ?_))
           refine fr_mk ?_
           refine aC_st (by (try simp only [nO, nK, nL]); rfl) (by (try simp only [nM, nN]); rfl) (by (try simp only [keepH, nQ, nR, putB, place, Nat.reduceBEq, nA, if_true, if_false, reduceIte, nB, nC, nD, nE, nF, nG, nH, nI, Nat.reduceAdd, nJ, beq_self_eq_true, nK, nL, nM, nN]); rfl) ?_
           refine aC_arms 21 [] (by kernel_rfl) (arms_cons ?_ arms_nil)
           refine aC_arm 21 rfl rfl (Eff.framed (q := false) [3] rfl rfl (zcons 0 rfl rfl (zcons 1 rfl rfl znil)) ?_)
           refine id (w_appendS 0 el78 el78 rfl rfl rfl rfl (psAt 0 rfl) (hrlB') (by (rw [List.length_append, htB, hdB]; simp; omega)) (M.length + 1) (by simp; try omega) (fun v15_21 c15_21 => ?_))
           refine fr_mk ?_
           refine aC_st (by (try simp only [nO, nK, nL]); rfl) (by (try simp only [nM, nN]); rfl) (by (try simp only [keepH, nQ, nR, putB, place, Nat.reduceBEq, nA, if_true, if_false, reduceIte, nB, nC, nD, nE, nF, nG, nH, nI, Nat.reduceAdd, nJ, beq_self_eq_true, nK, nL, nM, nN]); rfl) ?_
           refine aC_f 22 rfl (by kernel_rfl) true rfl rfl (fun _ => q_nilCheck rfl) ?_
           refine aC_f 23 rfl (by kernel_rfl) true rfl rfl (fun _ => q_fieldAddr (off := 1) (by kernel_rfl) rfl) ?_
           refine aC_arms 24 [] (by kernel_rfl) (arms_cons ?_ arms_nil)
           refine aC_arm 24 rfl rfl (Eff.wild (q := false) ?_)
           refine id (x_store 0 tk78 rfl rfl rfl rfl ?_)
           refine aC_st (by (try simp only [nO, nK, nL]); rfl) (by (try simp only [nM, nN]); rfl) (by (try simp only [keepH, nQ, nR, putB, place, Nat.reduceBEq, nA, if_true, if_false, reduceIte, nB, nC, nD, nE, nF, nG, nH, nI, Nat.reduceAdd, nJ, beq_self_eq_true, nK, nL, nM, nN]); rfl) ?_
           refine aC_nil (by kernel_rfl) ?_
           exact ⟨rfl, [], [], [0, 2, 3], (v15_21, c15_21), rfl, rfl⟩
          ·skip
           refine aC_arm 13 rfl rfl (Eff.x ?_)
           refine id (w_lit (zs := [.string .empty]) (l := [(0, .tmp 91)]) el78 (by kernel_rfl) (by decide) (by decide) (by decide) rfl rfl rfl (.more rfl (.v rfl .nil) .nil) rfl rfl (fun v15_13 => ?_))
           refine aC_st (by (try simp only [nO, nK, nL]); rfl) (by (try simp only [nM, nN]); rfl) (by (try simp only [keepH, nQ, nR, putB, place, Nat.reduceBEq, nA, if_true, if_false, reduceIte, nB, nC, nD, nE, nF, nG, nH, nI, Nat.reduceAdd, nJ, beq_self_eq_true, nK, nL, nM, nN]); rfl) ?_
           refine aC_arms 8 [] (by kernel_rfl) (arms_cons ?_ arms_nil)
           refine aC_arm 8 rfl rfl (Eff.framed (q := false) [3] rfl rfl (zcons 0 rfl rfl (zcons 1 rfl rfl znil)) ?_)
           refine id (w_appendQ 0 el78 el78 rfl rfl rfl rfl (psAt 1 rfl) (hrlB) (by rw [htB]; omega) (m) (by simp; try omega) (fun v15_8 c15_8 => ?_))
           refine fr_mk ?_
           refine aC_st (by (try simp only [nO, nK, nL]); rfl) (by (try simp only [nM, nN]); rfl) (by (try simp only [keepH, nQ, nR, putB, place, Nat.reduceBEq, nA, if_true, if_false, reduceIte, nB, nC, nD, nE, nF, nG, nH, nI, Nat.reduceAdd, nJ, beq_self_eq_true, nK, nL, nM, nN]); rfl) ?_
           refine aC_arms 14 [] (by kernel_rfl) (arms_cons ?_ arms_nil)
           refine aC_arm 14 rfl rfl (Eff.framed (q := false) [3, 5] rfl rfl (zcons 0 rfl rfl (zcons 1 rfl rfl znil)) ?_)
           refine id (w_append 0 el78 rfl rfl rfl rfl (w_srcO 1 el78 rfl (by simp)) (by first | assumption | simp) (by (rw [htB]; simp; omega)) (m + 1) (by rw [htB]; rfl) (fun v15_14 c15_14 => ?_))
           refine fr_mk ?_
           refine aC_st (by (try simp only [nO, nK, nL]); rfl) (by (try simp only [nM, nN]); rfl) (by (try simp only [keepH, nQ, nR, putB, place, Nat.reduceBEq, nA, if_true, if_false, reduceIte, nB, nC, nD, nE, nF, nG, nH, nI, Nat.reduceAdd, nJ, beq_self_eq_true, nK, nL, nM, nN]); rfl) ?_
           refine aC_arms 21 [] (by kernel_rfl) (arms_cons ?_ arms_nil)
           refine aC_arm 21 rfl rfl (Eff.framed (q := false) [3] rfl rfl (zcons 0 rfl rfl (zcons 1 rfl rfl znil)) ?_)
           refine id (w_appendS 0 el78 el78 rfl rfl rfl rfl (psAt 0 rfl) (hrlB') (by (rw [List.length_append, htB, hdB]; simp; omega)) (M.length + 1) (by simp; try omega) (fun v15_21 c15_21 => ?_))
           refine fr_mk ?_
           refine aC_st (by (try simp only [nO, nK, nL]); rfl) (by (try simp only [nM, nN]); rfl) (by (try simp only [keepH, nQ, nR, putB, place, Nat.reduceBEq, nA, if_true, if_false, reduceIte, nB, nC, nD, nE, nF, nG, nH, nI, Nat.reduceAdd, nJ, beq_self_eq_true, nK, nL, nM, nN]); rfl) ?_
           refine aC_f 22 rfl (by kernel_rfl) true rfl rfl (fun _ => q_nilCheck rfl) ?_
           refine aC_f 23 rfl (by kernel_rfl) true rfl rfl (fun _ => q_fieldAddr (off := 1) (by kernel_rfl) rfl) ?_
           refine aC_arms 24 [] (by kernel_rfl) (arms_cons ?_ arms_nil)
           refine aC_arm 24 rfl rfl (Eff.wild (q := false) ?_)
           refine id (x_store 0 tk78 rfl rfl rfl rfl ?_)
           refine aC_st (by (try simp only [nO, nK, nL]); rfl) (by (try simp only [nM, nN]); rfl) (by (try simp only [keepH, nQ, nR, putB, place, Nat.reduceBEq, nA, if_true, if_false, reduceIte, nB, nC, nD, nE, nF, nG, nH, nI, Nat.reduceAdd, nJ, beq_self_eq_true, nK, nL, nM, nN]); rfl) ?_
           refine aC_nil (by kernel_rfl) ?_
           exact ⟨rfl, [], [], [0, 2, 3], (v15_21, c15_21), rfl, rfl⟩
       ·skip
        refine aC_arm 11 rfl rfl (Eff.x ?_)
        refine id (w_make (m := a.size.toNat) (zs := [.int .u8 0]) el81 (by kernel_rfl) rfl (by decide) (ev_int rfl (by omega)) (ev_int rfl (by omega)) (by omega) rfl (fun v15_11 => ?_))
        refine aC_st (by (try simp only [nO, nK, nL]); rfl) (by (try simp only [nM, nN]); rfl) (by (try simp only [keepH, nQ, nR, putB, place, Nat.reduceBEq, nA, if_true, if_false, reduceIte, nB, nC, nD, nE, nF, nG, nH, nI, Nat.reduceAdd, nJ, beq_self_eq_true, nK, nL, nM, nN]); rfl) ?_
        refine aC_arms 1 [12] (by kernel_rfl) (arms_cons ?_ (arms_cons ?_ arms_nil))
        ·skip
         refine aC_arm 1 rfl rfl (Eff.x ?_)
         refine id (w_lit0 el78 rfl (fun v15_1 => ?_))
         refine aC_st (by (try simp only [nO, nK, nL]); rfl) (by (try simp only [nM, nN]); rfl) (by (try simp only [keepH, nQ, nR, putB, place, Nat.reduceBEq, nA, if_true, if_false, reduceIte, nB, nC, nD, nE, nF, nG, nH, nI, Nat.reduceAdd, nJ, beq_self_eq_true, nK, nL, nM, nN]); rfl) ?_
         refine aC_arms 8 [12] (by kernel_rfl) (arms_cons ?_ (arms_cons ?_ arms_nil))
         ·skip
          refine aC_arm 8 rfl rfl (Eff.framed (q := false) [4] rfl rfl (zcons 0 rfl rfl (zcons 1 rfl rfl znil)) ?_)
          refine id (w_appendQ 0 el78 el78 rfl rfl rfl rfl (psAt 1 rfl) (hrlB) (by rw [htB]; omega) (m) (by simp; try omega) (fun v15_8 c15_8 => ?_))
          refine fr_mk ?_
          refine aC_st (by (try simp only [nO, nK, nL]); rfl) (by (try simp only [nM, nN]); rfl) (by (try simp only [keepH, nQ, nR, putB, place, Nat.reduceBEq, nA, if_true, if_false, reduceIte, nB, nC, nD, nE, nF, nG, nH, nI, Nat.reduceAdd, nJ, beq_self_eq_true, nK, nL, nM, nN]); rfl) ?_
          refine aC_arms 12 [] (by kernel_rfl) (arms_cons ?_ arms_nil)
          refine aC_arm 12 rfl rfl (Eff.framed (q := false) [3] rfl rfl (zcons 0 rfl rfl (zcons 1 rfl rfl znil)) ?_)
          refine Quiet.eff (q_bytesStr 0 (List.replicate a.size.toNat 0) Tryz.underlying81 Tryz.underlying5 Tryz.underlying9 rfl rfl (by simp) (by intro h; have := congrArg List.length h; simp at this; omega)) rfl ?_
          refine fr_mk ?_
          refine aC_st (by (try simp only [nO, nK, nL]); rfl) (by (try simp only [nM, nN]); rfl) (by (try simp only [keepH, nQ, nR, putB, place, Nat.reduceBEq, nA, if_true, if_false, reduceIte, nB, nC, nD, nE, nF, nG, nH, nI, Nat.reduceAdd, nJ, beq_self_eq_true, nK, nL, nM, nN]); rfl) ?_
          refine aC_arms 13 [] (by kernel_rfl) (arms_cons ?_ arms_nil)
          refine aC_arm 13 rfl rfl (Eff.x ?_)
          refine id (w_lit (zs := [.string .empty]) (l := [(0, .tmp 91)]) el78 (by kernel_rfl) (by decide) (by decide) (by decide) rfl rfl rfl (.more rfl (.v rfl .nil) .nil) rfl rfl (fun v15_13 => ?_))
          refine aC_st (by (try simp only [nO, nK, nL]); rfl) (by (try simp only [nM, nN]); rfl) (by (try simp only [keepH, nQ, nR, putB, place, Nat.reduceBEq, nA, if_true, if_false, reduceIte, nB, nC, nD, nE, nF, nG, nH, nI, Nat.reduceAdd, nJ, beq_self_eq_true, nK, nL, nM, nN]); rfl) ?_
          refine aC_arms 14 [] (by kernel_rfl) (arms_cons ?_ arms_nil)
          refine aC_arm 14 rfl rfl (Eff.framed (q := false) [4, 5] rfl rfl (zcons 0 rfl rfl (zcons 1 rfl rfl znil)) ?_)
          refine id (w_append 0 el78 rfl rfl rfl rfl (w_srcO 1 el78 rfl (by simp)) (by first | assumption | simp) (by (rw [htB]; simp; omega)) (m + 1) (by rw [htB]; rfl) (fun v15_14 c15_14 => ?_))
          refine fr_mk ?_
          refine aC_st (by (try simp only [nO, nK, nL]); rfl) (by (try simp only [nM, nN]); rfl) (by (try simp only [keepH, nQ, nR, putB, place, Nat.reduceBEq, nA, if_true, if_false, reduceIte, nB, nC, nD, nE, nF, nG, nH, nI, Nat.reduceAdd, nJ, beq_self_eq_true, nK, nL, nM, nN]); rfl) ?_
          refine aC_arms 21 [] (by kernel_rfl) (arms_cons ?_ arms_nil)
          refine aC_arm 21 rfl rfl (Eff.framed (q := false) [4] rfl rfl (zcons 0 rfl rfl (zcons 1 rfl rfl znil)) ?_)
          refine id (w_appendS 0 el78 el78 rfl rfl rfl rfl (psAt 0 rfl) (hrlB') (by (rw [List.length_append, htB, hdB]; simp; omega)) (M.length + 1) (by simp; try omega) (fun v15_21 c15_21 => ?_))
          refine fr_mk ?_
          refine aC_st (by (try simp only [nO, nK, nL]); rfl) (by (try simp only [nM, nN]); rfl) (by (try simp only [keepH, nQ, nR, putB, place, Nat.reduceBEq, nA, if_true, if_false, reduceIte, nB, nC, nD, nE, nF, nG, nH, nI, Nat.reduceAdd, nJ, beq_self_eq_true, nK, nL, nM, nN]); rfl) ?_
          refine aC_f 22 rfl (by kernel_rfl) true rfl rfl (fun _ => q_nilCheck rfl) ?_
          refine aC_f 23 rfl (by kernel_rfl) true rfl rfl (fun _ => q_fieldAddr (off := 1) (by kernel_rfl) rfl) ?_
          refine aC_arms 24 [] (by kernel_rfl) (arms_cons ?_ arms_nil)
          refine aC_arm 24 rfl rfl (Eff.wild (q := false) ?_)
          refine id (x_store 0 tk78 rfl rfl rfl rfl ?_)
          refine aC_st (by (try simp only [nO, nK, nL]); rfl) (by (try simp only [nM, nN]); rfl) (by (try simp only [keepH, nQ, nR, putB, place, Nat.reduceBEq, nA, if_true, if_false, reduceIte, nB, nC, nD, nE, nF, nG, nH, nI, Nat.reduceAdd, nJ, beq_self_eq_true, nK, nL, nM, nN]); rfl) ?_
          refine aC_nil (by kernel_rfl) ?_
          exact ⟨rfl, [], [], [0, 2, 4], (v15_21, c15_21), rfl, rfl⟩
         ·skip
          refine aC_arm 12 rfl rfl (Eff.framed (q := false) [3] rfl rfl (zcons 0 rfl rfl (zcons 1 rfl rfl znil)) ?_)
          refine Quiet.eff (q_bytesStr 0 (List.replicate a.size.toNat 0) Tryz.underlying81 Tryz.underlying5 Tryz.underlying9 rfl rfl (by simp) (by intro h; have := congrArg List.length h; simp at this; omega)) rfl ?_
          refine fr_mk ?_
          refine aC_st (by (try simp only [nO, nK, nL]); rfl) (by (try simp only [nM, nN]); rfl) (by (try simp only [keepH, nQ, nR, putB, place, Nat.reduceBEq, nA, if_true, if_false, reduceIte, nB, nC, nD, nE, nF, nG, nH, nI, Nat.reduceAdd, nJ, beq_self_eq_true, nK, nL, nM, nN]); rfl) ?_
          refine aC_arms 8 [13] (by kernel_rfl) (arms_cons ?_ (arms_cons ?_ arms_nil))
          ·skip
           refine aC_arm 8 rfl rfl (Eff.framed (q := false) [4] rfl rfl (zcons 0 rfl rfl (zcons 1 rfl rfl znil)) ?_)
           refine id (w_appendQ 0 el78 el78 rfl rfl rfl rfl (psAt 1 rfl) (hrlB) (by rw [htB]; omega) (m) (by simp; try omega) (fun v15_8 c15_8 => ?_))
           refine fr_mk ?_
           refine aC_st (by (try simp only [nO, nK, nL]); rfl) (by (try simp only [nM, nN]); rfl) (by (try simp only [keepH, nQ, nR, putB, place, Nat.reduceBEq, nA, if_true, if_false, reduceIte, nB, nC, nD, nE, nF, nG, nH, nI, Nat.reduceAdd, nJ, beq_self_eq_true, nK, nL, nM, nN]); rfl) ?_
           refine aC_arms 13 [] (by kernel_rfl) (arms_cons ?_ arms_nil)
           refine aC_arm 13 rfl rfl (Eff.x ?_)
           refine id (w_lit (zs := [.string .empty]) (l := [(0, .tmp 91)]) el78 (by kernel_rfl) (by decide) (by decide) (by decide) rfl rfl rfl (.more rfl (.v rfl .nil) .nil) rfl rfl (fun v15_13 => ?_))
           refine aC_st (by (try simp only [nO, nK, nL]); rfl) (by (try simp only [nM, nN]); rfl) (by (try simp only [keepH, nQ, nR, putB, place, Nat.reduceBEq, nA, if_true, if_false, reduceIte, nB, nC, nD, nE, nF, nG, nH, nI, Nat.reduceAdd, nJ, beq_self_eq_true, nK, nL, nM, nN]); rfl) ?_
           refine aC_arms 14 [] (by kernel_rfl) (arms_cons ?_ arms_nil)
           refine aC_arm 14 rfl rfl (Eff.framed (q := false) [4, 5] rfl rfl (zcons 0 rfl rfl (zcons 1 rfl rfl znil)) ?_)
           refine id (w_append 0 el78 rfl rfl rfl rfl (w_srcO 1 el78 rfl (by simp)) (by first | assumption | simp) (by (rw [htB]; simp; omega)) (m + 1) (by rw [htB]; rfl) (fun v15_14 c15_14 => ?_))
           refine fr_mk ?_
           refine aC_st (by (try simp only [nO, nK, nL]); rfl) (by (try simp only [nM, nN]); rfl) (by (try simp only [keepH, nQ, nR, putB, place, Nat.reduceBEq, nA, if_true, if_false, reduceIte, nB, nC, nD, nE, nF, nG, nH, nI, Nat.reduceAdd, nJ, beq_self_eq_true, nK, nL, nM, nN]); rfl) ?_
           refine aC_arms 21 [] (by kernel_rfl) (arms_cons ?_ arms_nil)
           refine aC_arm 21 rfl rfl (Eff.framed (q := false) [4] rfl rfl (zcons 0 rfl rfl (zcons 1 rfl rfl znil)) ?_)
           refine id (w_appendS 0 el78 el78 rfl rfl rfl rfl (psAt 0 rfl) (hrlB') (by (rw [List.length_append, htB, hdB]; simp; omega)) (M.length + 1) (by simp; try omega) (fun v15_21 c15_21 => ?_))
           refine fr_mk ?_
           refine aC_st (by (try simp only [nO, nK, nL]); rfl) (by (try simp only [nM, nN]); rfl) (by (try simp only [keepH, nQ, nR, putB, place, Nat.reduceBEq, nA, if_true, if_false, reduceIte, nB, nC, nD, nE, nF, nG, nH, nI, Nat.reduceAdd, nJ, beq_self_eq_true, nK, nL, nM, nN]); rfl) ?_
           refine aC_f 22 rfl (by kernel_rfl) true rfl rfl (fun _ => q_nilCheck rfl) ?_
           refine aC_f 23 rfl (by kernel_rfl) true rfl rfl (fun _ => q_fieldAddr (off := 1) (by kernel_rfl) rfl) ?_
           refine aC_arms 24 [] (by kernel_rfl) (arms_cons ?_ arms_nil)
           refine aC_arm 24 rfl rfl (Eff.wild (q := false) ?_)
           refine id (x_store 0 tk78 rfl rfl rfl rfl ?_)
           refine aC_st (by (try simp only [nO, nK, nL]); rfl) (by (try simp only [nM, nN]); rfl) (by (try simp only [keepH, nQ, nR, putB, place, Nat.reduceBEq, nA, if_true, if_false, reduceIte, nB, nC, nD, nE, nF, nG, nH, nI, Nat.reduceAdd, nJ, beq_self_eq_true, nK, nL, nM, nN]); rfl) ?_
           refine aC_nil (by kernel_rfl) ?_
           exact ⟨rfl, [], [], [0, 2, 4], (v15_21, c15_21), rfl, rfl⟩
          ·skip
           refine aC_arm 13 rfl rfl (Eff.x ?_)
           refine id (w_lit (zs := [.string .empty]) (l := [(0, .tmp 91)]) el78 (by kernel_rfl) (by decide) (by decide) (by decide) rfl rfl rfl (.more rfl (.v rfl .nil) .nil) rfl rfl (fun v15_13 => ?_))
           refine aC_st (by (try simp only [nO, nK, nL]); rfl) (by (try simp only [nM, nN]); rfl) (by (try simp only [keepH, nQ, nR, putB, place, Nat.reduceBEq, nA, if_true, if_false, reduceIte, nB, nC, nD, nE, nF, nG, nH, nI, Nat.reduceAdd, nJ, beq_self_eq_true, nK, nL, nM, nN]); rfl) ?_
           refine aC_arms 8 [] (by kernel_rfl) (arms_cons ?_ arms_nil)
           refine aC_arm 8 rfl rfl (Eff.framed (q := false) [4] rfl rfl (zcons 0 rfl rfl (zcons 1 rfl rfl znil)) ?_)
           refine id (w_appendQ 0 el78 el78 rfl rfl rfl rfl (psAt 1 rfl) (hrlB) (by rw [htB]; omega) (m) (by simp; try omega) (fun v15_8 c15_8 => ?_))
           refine fr_mk ?_
           refine aC_st (by (try simp only [nO, nK, nL]); rfl) (by (try simp only [nM, nN]); rfl) (by (try simp only [keepH, nQ, nR, putB, place, Nat.reduceBEq, nA, if_true, if_false, reduceIte, nB, nC, nD, nE, nF, nG, nH, nI, Nat.reduceAdd, nJ, beq_self_eq_true, nK, nL, nM, nN]); rfl) ?_
           refine aC_arms 14 [] (by kernel_rfl) (arms_cons ?_ arms_nil)
           refine aC_arm 14 rfl rfl (Eff.framed (q := false) [4, 5] rfl rfl (zcons 0 rfl rfl (zcons 1 rfl rfl znil)) ?_)
           refine id (w_append 0 el78 rfl rfl rfl rfl (w_srcO 1 el78 rfl (by simp)) (by first | assumption | simp) (by (rw [htB]; simp; omega)) (m + 1) (by rw [htB]; rfl) (fun v15_14 c15_14 => ?_))
           refine fr_mk ?_
           refine aC_st (by (try simp only [nO, nK, nL]); rfl) (by (try simp only [nM, nN]); rfl) (by (try simp only [keepH, nQ, nR, putB, place, Nat.reduceBEq, nA, if_true, if_false, reduceIte, nB, nC, nD, nE, nF, nG, nH, nI, Nat.reduceAdd, nJ, beq_self_eq_true, nK, nL, nM, nN]); rfl) ?_
           refine aC_arms 21 [] (by kernel_rfl) (arms_cons ?_ arms_nil)
           refine aC_arm 21 rfl rfl (Eff.framed (q := false) [4] rfl rfl (zcons 0 rfl rfl (zcons 1 rfl rfl znil)) ?_)
           refine id (w_appendS 0 el78 el78 rfl rfl rfl rfl (psAt 0 rfl) (hrlB') (by (rw [List.length_append, htB, hdB]; simp; omega)) (M.length + 1) (by simp; try omega) (fun v15_21 c15_21 => ?_))
           refine fr_mk ?_
           refine aC_st (by (try simp only [nO, nK, nL]); rfl) (by (try simp only [nM, nN]); rfl) (by (try simp only [keepH, nQ, nR, putB, place, Nat.reduceBEq, nA, if_true, if_false, reduceIte, nB, nC, nD, nE, nF, nG, nH, nI, Nat.reduceAdd, nJ, beq_self_eq_true, nK, nL, nM, nN]); rfl) ?_
           refine aC_f 22 rfl (by kernel_rfl) true rfl rfl (fun _ => q_nilCheck rfl) ?_
           refine aC_f 23 rfl (by kernel_rfl) true rfl rfl (fun _ => q_fieldAddr (off := 1) (by kernel_rfl) rfl) ?_
           refine aC_arms 24 [] (by kernel_rfl) (arms_cons ?_ arms_nil)
           refine aC_arm 24 rfl rfl (Eff.wild (q := false) ?_)
           refine id (x_store 0 tk78 rfl rfl rfl rfl ?_)
           refine aC_st (by (try simp only [nO, nK, nL]); rfl) (by (try simp only [nM, nN]); rfl) (by (try simp only [keepH, nQ, nR, putB, place, Nat.reduceBEq, nA, if_true, if_false, reduceIte, nB, nC, nD, nE, nF, nG, nH, nI, Nat.reduceAdd, nJ, beq_self_eq_true, nK, nL, nM, nN]); rfl) ?_
           refine aC_nil (by kernel_rfl) ?_
           exact ⟨rfl, [], [], [0, 2, 4], (v15_21, c15_21), rfl, rfl⟩
        ·skip
         refine aC_arm 12 rfl rfl (Eff.framed (q := false) [3] rfl rfl (zcons 0 rfl rfl (zcons 1 rfl rfl znil)) ?_)
         refine Quiet.eff (q_bytesStr 0 (List.replicate a.size.toNat 0) Tryz.underlying81 Tryz.underlying5 Tryz.underlying9 rfl rfl (by simp) (by intro h; have := congrArg List.length h; simp at this; omega)) rfl ?_
         refine fr_mk ?_
         refine aC_st (by (try simp only [nO, nK, nL]); rfl) (by (try simp only [nM, nN]); rfl) (by (try simp only [keepH, nQ, nR, putB, place, Nat.reduceBEq, nA, if_true, if_false, reduceIte, nB, nC, nD, nE, nF, nG, nH, nI, Nat.reduceAdd, nJ, beq_self_eq_true, nK, nL, nM, nN]); rfl) ?_
         refine aC_arms 1 [13] (by kernel_rfl) (arms_cons ?_ (arms_cons ?_ arms_nil))
         ·skip
          refine aC_arm 1 rfl rfl (Eff.x ?_)
          refine id (w_lit0 el78 rfl (fun v15_1 => ?_))
          refine aC_st (by (try simp only [nO, nK, nL]); rfl) (by (try simp only [nM, nN]); rfl) (by (try simp only [keepH, nQ, nR, putB, place, Nat.reduceBEq, nA, if_true, if_false, reduceIte, nB, nC, nD, nE, nF, nG, nH, nI, Nat.reduceAdd, nJ, beq_self_eq_true, nK, nL, nM, nN]); rfl) ?_
          refine aC_arms 8 [13] (by kernel_rfl) (arms_cons ?_ (arms_cons ?_ arms_nil))
          ·skip
           refine aC_arm 8 rfl rfl (Eff.framed (q := false) [4] rfl rfl (zcons 0 rfl rfl (zcons 1 rfl rfl znil)) ?_)
           refine id (w_appendQ 0 el78 el78 rfl rfl rfl rfl (psAt 1 rfl) (hrlB) (by rw [htB]; omega) (m) (by simp; try omega) (fun v15_8 c15_8 => ?_))
           refine fr_mk ?_
           refine aC_st (by (try simp only [nO, nK, nL]); rfl) (by (try simp only [nM, nN]); rfl) (by (try simp only [keepH, nQ, nR, putB, place, Nat.reduceBEq, nA, if_true, if_false, reduceIte, nB, nC, nD, nE, nF, nG, nH, nI, Nat.reduceAdd, nJ, beq_self_eq_true, nK, nL, nM, nN]); rfl) ?_
           refine aC_arms 13 [] (by kernel_rfl) (arms_cons ?_ arms_nil)
           refine aC_arm 13 rfl rfl (Eff.x ?_)
           refine id (w_lit (zs := [.string .empty]) (l := [(0, .tmp 91)]) el78 (by kernel_rfl) (by decide) (by decide) (by decide) rfl rfl rfl (.more rfl (.v rfl .nil) .nil) rfl rfl (fun v15_13 => ?_))
           refine aC_st (by (try simp only [nO, nK, nL]); rfl) (by (try simp only [nM, nN]); rfl) (by (try simp only [keepH, nQ, nR, putB, place, Nat.reduceBEq, nA, if_true, if_false, reduceIte, nB, nC, nD, nE, nF, nG, nH, nI, Nat.reduceAdd, nJ, beq_self_eq_true, nK, nL, nM, nN]); rfl) ?_
           refine aC_arms 14 [] (by kernel_rfl) (arms_cons ?_ arms_nil)
           refine aC_arm 14 rfl rfl (Eff.framed (q := false) [4, 5] rfl rfl (zcons 0 rfl rfl (zcons 1 rfl rfl znil)) ?_)
           refine id (w_append 0 el78 rfl rfl rfl rfl (w_srcO 1 el78 rfl (by simp)) (by first | assumption | simp) (by (rw [htB]; simp; omega)) (m + 1) (by rw [htB]; rfl) (fun v15_14 c15_14 => ?_))
           refine fr_mk ?_
           refine aC_st (by (try simp only [nO, nK, nL]); rfl) (by (try simp only [nM, nN]); rfl) (by (try simp only [keepH, nQ, nR, putB, place, Nat.reduceBEq, nA, if_true, if_false, reduceIte, nB, nC, nD, nE, nF, nG, nH, nI, Nat.reduceAdd, nJ, beq_self_eq_true, nK, nL, nM, nN]); rfl) ?_
           refine aC_arms 21 [] (by kernel_rfl) (arms_cons ?_ arms_nil)
           refine aC_arm 21 rfl rfl (Eff.framed (q := false) [4] rfl rfl (zcons 0 rfl rfl (zcons 1 rfl rfl znil)) ?_)
           refine id (w_appendS 0 el78 el78 rfl rfl rfl rfl (psAt 0 rfl) (hrlB') (by (rw [List.length_append, htB, hdB]; simp; omega)) (M.length + 1) (by simp; try omega) (fun v15_21 c15_21 => ?_))
           refine fr_mk ?_
           refine aC_st (by (try simp only [nO, nK, nL]); rfl) (by (try simp only [nM, nN]); rfl) (by (try simp only [keepH, nQ, nR, putB, place, Nat.reduceBEq, nA, if_true, if_false, reduceIte, nB, nC, nD, nE, nF, nG, nH, nI, Nat.reduceAdd, nJ, beq_self_eq_true, nK, nL, nM, nN]); rfl) ?_
           refine aC_f 22 rfl (by kernel_rfl) true rfl rfl (fun _ => q_nilCheck rfl) ?_
           refine aC_f 23 rfl (by kernel_rfl) true rfl rfl (fun _ => q_fieldAddr (off := 1) (by kernel_rfl) rfl) ?_
           refine aC_arms 24 [] (by kernel_rfl) (arms_cons ?_ arms_nil)
           refine aC_arm 24 rfl rfl (Eff.wild (q := false) ?_)
           refine id (x_store 0 tk78 rfl rfl rfl rfl ?_)
           refine aC_st (by (try simp only [nO, nK, nL]); rfl) (by (try simp only [nM, nN]); rfl) (by (try simp only [keepH, nQ, nR, putB, place, Nat.reduceBEq, nA, if_true, if_false, reduceIte, nB, nC, nD, nE, nF, nG, nH, nI, Nat.reduceAdd, nJ, beq_self_eq_true, nK, nL, nM, nN]); rfl) ?_
           refine aC_nil (by kernel_rfl) ?_
           exact ⟨rfl, [], [], [0, 2, 4], (v15_21, c15_21), rfl, rfl⟩
          ·skip
           refine aC_arm 13 rfl rfl (Eff.x ?_)
           refine id (w_lit (zs := [.string .empty]) (l := [(0, .tmp 91)]) el78 (by kernel_rfl) (by decide) (by decide) (by decide) rfl rfl rfl (.more rfl (.v rfl .nil) .nil) rfl rfl (fun v15_13 => ?_))
           refine aC_st (by (try simp only [nO, nK, nL]); rfl) (by (try simp only [nM, nN]); rfl) (by (try simp only [keepH, nQ, nR, putB, place, Nat.reduceBEq, nA, if_true, if_false, reduceIte, nB, nC, nD, nE, nF, nG, nH, nI, Nat.reduceAdd, nJ, beq_self_eq_true, nK, nL, nM, nN]); rfl) ?_
           refine aC_arms 8 [] (by kernel_rfl) (arms_cons ?_ arms_nil)
           refine aC_arm 8 rfl rfl (Eff.framed (q := false) [4] rfl rfl (zcons 0 rfl rfl (zcons 1 rfl rfl znil)) ?_)
           refine id (w_appendQ 0 el78 el78 rfl rfl rfl rfl (psAt 1 rfl) (hrlB) (by rw [htB]; omega) (m) (by simp; try omega) (fun v15_8 c15_8 => ?_))
           refine fr_mk ?_
           refine aC_st (by (try simp only [nO, nK, nL]); rfl) (by (try simp only [nM, nN]); rfl) (by (try simp only [keepH, nQ, nR, putB, place, Nat.reduceBEq, nA, if_true, if_false, reduceIte, nB, nC, nD, nE, nF, nG, nH, nI, Nat.reduceAdd, nJ, beq_self_eq_true, nK, nL, nM, nN]); rfl) ?_
           refine aC_arms 14 [] (by kernel_rfl) (arms_cons ?_ arms_nil)
           refine aC_arm 14 rfl rfl (Eff.framed (q := false) [4, 5] rfl rfl (zcons 0 rfl rfl (zcons 1 rfl rfl znil)) ?_)
           refine id (w_append 0 el78 rfl rfl rfl rfl (w_srcO 1 el78 rfl (by simp)) (by first | assumption | simp) (by (rw [htB]; simp; omega)) (m + 1) (by rw [htB]; rfl) (fun v15_14 c15_14 => ?_))
           refine fr_mk ?_
           refine aC_st (by (try simp only [nO, nK, nL]); rfl) (by (try simp only [nM, nN]); rfl) (by (try simp only [keepH, nQ, nR, putB, place, Nat.reduceBEq, nA, if_true, if_false, reduceIte, nB, nC, nD, nE, nF, nG, nH, nI, Nat.reduceAdd, nJ, beq_self_eq_true, nK, nL, nM, nN]); rfl) ?_
           refine aC_arms 21 [] (by kernel_rfl) (arms_cons ?_ arms_nil)
           refine aC_arm 21 rfl rfl (Eff.framed (q := false) [4] rfl rfl (zcons 0 rfl rfl (zcons 1 rfl rfl znil)) ?_)
           refine id (w_appendS 0 el78 el78 rfl rfl rfl rfl (psAt 0 rfl) (hrlB') (by (rw [List.length_append, htB, hdB]; simp; omega)) (M.length + 1) (by simp; try omega) (fun v15_21 c15_21 => ?_))
           refine fr_mk ?_
           refine aC_st (by (try simp only [nO, nK, nL]); rfl) (by (try simp only [nM, nN]); rfl) (by (try simp only [keepH, nQ, nR, putB, place, Nat.reduceBEq, nA, if_true, if_false, reduceIte, nB, nC, nD, nE, nF, nG, nH, nI, Nat.reduceAdd, nJ, beq_self_eq_true, nK, nL, nM, nN]); rfl) ?_
           refine aC_f 22 rfl (by kernel_rfl) true rfl rfl (fun _ => q_nilCheck rfl) ?_
           refine aC_f 23 rfl (by kernel_rfl) true rfl rfl (fun _ => q_fieldAddr (off := 1) (by kernel_rfl) rfl) ?_
           refine aC_arms 24 [] (by kernel_rfl) (arms_cons ?_ arms_nil)
           refine aC_arm 24 rfl rfl (Eff.wild (q := false) ?_)
           refine id (x_store 0 tk78 rfl rfl rfl rfl ?_)
           refine aC_st (by (try simp only [nO, nK, nL]); rfl) (by (try simp only [nM, nN]); rfl) (by (try simp only [keepH, nQ, nR, putB, place, Nat.reduceBEq, nA, if_true, if_false, reduceIte, nB, nC, nD, nE, nF, nG, nH, nI, Nat.reduceAdd, nJ, beq_self_eq_true, nK, nL, nM, nN]); rfl) ?_
           refine aC_nil (by kernel_rfl) ?_
           exact ⟨rfl, [], [], [0, 2, 4], (v15_21, c15_21), rfl, rfl⟩
         ·skip
          refine aC_arm 13 rfl rfl (Eff.x ?_)
          refine id (w_lit (zs := [.string .empty]) (l := [(0, .tmp 91)]) el78 (by kernel_rfl) (by decide) (by decide) (by decide) rfl rfl rfl (.more rfl (.v rfl .nil) .nil) rfl rfl (fun v15_13 => ?_))
          refine aC_st (by (try simp only [nO, nK, nL]); rfl) (by (try simp only [nM, nN]); rfl) (by (try simp only [keepH, nQ, nR, putB, place, Nat.reduceBEq, nA, if_true, if_false, reduceIte, nB, nC, nD, nE, nF, nG, nH, nI, Nat.reduceAdd, nJ, beq_self_eq_true, nK, nL, nM, nN]); rfl) ?_
          refine aC_arms 1 [] (by kernel_rfl) (arms_cons ?_ arms_nil)
          refine aC_arm 1 rfl rfl (Eff.x ?_)
          refine id (w_lit0 el78 rfl (fun v15_1 => ?_))
          refine aC_st (by (try simp only [nO, nK, nL]); rfl) (by (try simp only [nM, nN]); rfl) (by (try simp only [keepH, nQ, nR, putB, place, Nat.reduceBEq, nA, if_true, if_false, reduceIte, nB, nC, nD, nE, nF, nG, nH, nI, Nat.reduceAdd, nJ, beq_self_eq_true, nK, nL, nM, nN]); rfl) ?_
          refine aC_arms 8 [] (by kernel_rfl) (arms_cons ?_ arms_nil)
          refine aC_arm 8 rfl rfl (Eff.framed (q := false) [5] rfl rfl (zcons 0 rfl rfl (zcons 1 rfl rfl znil)) ?_)
          refine id (w_appendQ 0 el78 el78 rfl rfl rfl rfl (psAt 1 rfl) (hrlB) (by rw [htB]; omega) (m) (by simp; try omega) (fun v15_8 c15_8 => ?_))
          refine fr_mk ?_
          refine aC_st (by (try simp only [nO, nK, nL]); rfl) (by (try simp only [nM, nN]); rfl) (by (try simp only [keepH, nQ, nR, putB, place, Nat.reduceBEq, nA, if_true, if_false, reduceIte, nB, nC, nD, nE, nF, nG, nH, nI, Nat.reduceAdd, nJ, beq_self_eq_true, nK, nL, nM, nN]); rfl) ?_
          refine aC_arms 14 [] (by kernel_rfl) (arms_cons ?_ arms_nil)
          refine aC_arm 14 rfl rfl (Eff.framed (q := false) [5, 4] rfl rfl (zcons 0 rfl rfl (zcons 1 rfl rfl znil)) ?_)
          refine id (w_append 0 el78 rfl rfl rfl rfl (w_srcO 1 el78 rfl (by simp)) (by first | assumption | simp) (by (rw [htB]; simp; omega)) (m + 1) (by rw [htB]; rfl) (fun v15_14 c15_14 => ?_))
          refine fr_mk ?_
          refine aC_st (by (try simp only [nO, nK, nL]); rfl) (by (try simp only [nM, nN]); rfl) (by (try simp only [keepH, nQ, nR, putB, place, Nat.reduceBEq, nA, if_true, if_false, reduceIte, nB, nC, nD, nE, nF, nG, nH, nI, Nat.reduceAdd, nJ, beq_self_eq_true, nK, nL, nM, nN]); rfl) ?_
          refine aC_arms 21 [] (by kernel_rfl) (arms_cons ?_ arms_nil)
          refine aC_arm 21 rfl rfl (Eff.framed (q := false) [5] rfl rfl (zcons 0 rfl rfl (zcons 1 rfl rfl znil)) ?_)
          refine id (w_appendS 0 el78 el78 rfl rfl rfl rfl (psAt 0 rfl) (hrlB') (by (rw [List.length_append, htB, hdB]; simp; omega)) (M.length + 1) (by simp; try omega) (fun v15_21 c15_21 => ?_))
          refine fr_mk ?_
          refine aC_st (by (try simp only [nO, nK, nL]); rfl) (by (try simp only [nM, nN]); rfl) (by (try simp only [keepH, nQ, nR, putB, place, Nat.reduceBEq, nA, if_true, if_false, reduceIte, nB, nC, nD, nE, nF, nG, nH, nI, Nat.reduceAdd, nJ, beq_self_eq_true, nK, nL, nM, nN]); rfl) ?_
          refine aC_f 22 rfl (by kernel_rfl) true rfl rfl (fun _ => q_nilCheck rfl) ?_
          refine aC_f 23 rfl (by kernel_rfl) true rfl rfl (fun _ => q_fieldAddr (off := 1) (by kernel_rfl) rfl) ?_
          refine aC_arms 24 [] (by kernel_rfl) (arms_cons ?_ arms_nil)
          refine aC_arm 24 rfl rfl (Eff.wild (q := false) ?_)
          refine id (x_store 0 tk78 rfl rfl rfl rfl ?_)
          refine aC_st (by (try simp only [nO, nK, nL]); rfl) (by (try simp only [nM, nN]); rfl) (by (try simp only [keepH, nQ, nR, putB, place, Nat.reduceBEq, nA, if_true, if_false, reduceIte, nB, nC, nD, nE, nF, nG, nH, nI, Nat.reduceAdd, nJ, beq_self_eq_true, nK, nL, nM, nN]); rfl) ?_
          refine aC_nil (by kernel_rfl) ?_
          exact ⟨rfl, [], [], [0, 2, 5], (v15_21, c15_21), rfl, rfl⟩
      ·skip
       rintro ⟨dB', cB'⟩
       refine thn_n (awp_seq (awp_region (aL_s true rfl rfl (fun _ => q_assign rfl) (aL_nil (thn_n ?_)))))
       refine awp_rfBack (M' := (mapM M a).1) 0 1 2 rfl (by rw [hA']; rfl) (by rw [hB']; rfl) (by decide) (by decide) (by decide) hinv' hlen' ?_
       refine awp_ret ?_
       refine fin1 [] [0] rfl Tryz.results23 rfl ?_ (.inr rfl)
       exact ⟨by rw [hmap], rfl, rfl⟩
end Go.Proofs.YtpgcoceggacplaaGreatDoor
