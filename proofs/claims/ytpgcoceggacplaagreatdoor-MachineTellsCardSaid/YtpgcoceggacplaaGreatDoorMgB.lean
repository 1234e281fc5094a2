/- The contracts of fetch, ops and Step. Printed by mkstep.py. -/
import Derived.Test.YtpgcoceggacplaaGreatDoorMgA
import Derived.Test.YtpgcoceggacplaaGreatDoorLpGet
import Derived.Test.YtpgcoceggacplaaGreatDoorSyTab
import Derived.Test.YtpgcoceggacplaaGreatDoorLpMapA
set_option linter.unusedVariables false
set_option linter.unusedSimpArgs false
set_option maxRecDepth 20000
namespace Go.Lp
open Go.RowKit Go.Proofs.YtpgcoceggacplaaGreatDoor
/-- the table: name, operands, reads, writes -/
def formTab : List (List UInt8 × List UInt8 × List UInt8 × List UInt8) := [
  ([], [], [], []),
  ([110, 111, 112], [], [], []),
  ([115, 97, 102, 101], [], [], []),
  ([115, 101, 116], [65, 73], [], [65]),
  ([104, 105, 103, 104], [65, 73], [65], [65]),
  ([109, 111, 118, 101], [65, 66], [66], [65]),
  ([97, 100, 100], [65, 66, 67], [66, 67], [65]),
  ([115, 117, 98], [65, 66, 67], [66, 67], [65]),
  ([109, 117, 108], [65, 66, 67], [66, 67], [65]),
  ([97, 110, 100], [65, 66, 67], [66, 67], [65]),
  ([111, 114], [65, 66, 67], [66, 67], [65]),
  ([108, 101, 115, 115], [65, 66, 67], [66, 67], [65]),
  ([115, 97, 109, 101], [65, 66, 67], [66, 67], [65]),
  ([97, 100, 100, 105], [65, 66, 73], [66], [65]),
  ([97, 100, 100, 114], [65, 73], [], [65]),
  ([108, 111, 97, 100], [65, 66, 73], [66], [65]),
  ([98, 121, 116, 101], [65, 66, 73], [66], [65]),
  ([115, 116, 111, 114, 101], [65, 66, 73], [65, 66], []),
  ([112, 117, 116], [65, 66, 73], [65, 66], []),
  ([106, 117, 109, 112], [73], [], []),
  ([122, 101, 114, 111], [65, 73], [65], []),
  ([110, 111, 110, 122, 101, 114, 111], [65, 73], [65], []),
  ([99, 97, 108, 108], [73], [83], [83]),
  ([99, 97, 108, 108, 114], [65], [65, 83], [83]),
  ([99, 97, 108, 108, 115], [73], [83], [83]),
  ([106, 117, 109, 112, 115], [73], [], []),
  ([114, 101, 116, 117, 114, 110], [], [83], [83]),
  ([112, 117, 115, 104], [65], [65, 83], [83]),
  ([112, 111, 112], [65], [83], [65, 83]),
  ([116, 108, 115], [65, 66], [66], [65]),
  ([115, 121, 115], [73], [], [])]
def formV (r : List UInt8 × List UInt8 × List UInt8 × List UInt8) : List Value := [.string (ofBytes r.1), .string (ofBytes r.2.1), .string (ofBytes r.2.2.1), .string (ofBytes r.2.2.2)]
def formsV : List Value := formTab.flatMap formV
def opds (op : Nat) : List UInt8 := (formTab.getD op ([], [], [], [])).2.1
def readsL (op : Nat) : List UInt8 := (formTab.getD op ([], [], [], [])).2.2.1
def writesL (op : Nat) : List UInt8 := (formTab.getD op ([], [], [], [])).2.2.2
def fitsB (n : Int) : Bool := decide (-2147483648 ≤ n) && decide (n ≤ 2147483647)
def immB (op : Nat) (n : Int) : Bool :=
  if op = 19 ∨ op = 20 ∨ op = 21 ∨ op = 24 ∨ op = 25 then decide (n % 8 = 0) && fitsB n
  else if op = 22 then decide (n % 8 = 0) && (decide (-512 ≤ n) && decide (n ≤ 504))
  else if op = 30 then decide (0 ≤ n) && decide (n < 8) else fitsB n
def Ins.fld (i : Ins) (ch : UInt8) : Int := if ch = 65 then i.a else if ch = 66 then i.b else if ch = 67 then i.c else i.imm
def okOp (i : Ins) (ch : UInt8) : Bool := !((!(opds i.op).contains ch && !decide (i.fld ch = 0)) || (!decide (ch = 73) && (decide (i.fld ch < 0) || decide (15 < i.fld ch))))
/-- is the instruction right? -/
def rightB (i : Ins) : Bool := decide (1 ≤ i.op) && decide (i.op ≤ 30) && immB i.op i.imm && [65, 66, 67, 73].all (okOp i)
theorem thirtyone {k : Nat} (h : k < 31) : k = 0 ∨ k = 1 ∨ k = 2 ∨ k = 3 ∨ k = 4 ∨ k = 5 ∨ k = 6 ∨ k = 7 ∨ k = 8 ∨ k = 9 ∨ k = 10 ∨ k = 11 ∨ k = 12 ∨ k = 13 ∨ k = 14 ∨ k = 15 ∨ k = 16 ∨ k = 17 ∨ k = 18 ∨ k = 19 ∨ k = 20 ∨ k = 21 ∨ k = 22 ∨ k = 23 ∨ k = 24 ∨ k = 25 ∨ k = 26 ∨ k = 27 ∨ k = 28 ∨ k = 29 ∨ k = 30 := by omega
theorem forms_opds {k : Nat} (h : k < 31) : formsV[k * 4 + 1]? = some (.string (ofBytes (opds k))) := by
  rcases thirtyone h with rfl | rfl | rfl | rfl | rfl | rfl | rfl | rfl | rfl | rfl | rfl | rfl | rfl | rfl | rfl | rfl | rfl | rfl | rfl | rfl | rfl | rfl | rfl | rfl | rfl | rfl | rfl | rfl | rfl | rfl | rfl <;> rfl
theorem forms_reads {k : Nat} (h : k < 31) : formsV[k * 4 + 2]? = some (.string (ofBytes (readsL k))) := by
  rcases thirtyone h with rfl | rfl | rfl | rfl | rfl | rfl | rfl | rfl | rfl | rfl | rfl | rfl | rfl | rfl | rfl | rfl | rfl | rfl | rfl | rfl | rfl | rfl | rfl | rfl | rfl | rfl | rfl | rfl | rfl | rfl | rfl <;> rfl
theorem forms_writes {k : Nat} (h : k < 31) : formsV[k * 4 + 3]? = some (.string (ofBytes (writesL k))) := by
  rcases thirtyone h with rfl | rfl | rfl | rfl | rfl | rfl | rfl | rfl | rfl | rfl | rfl | rfl | rfl | rfl | rfl | rfl | rfl | rfl | rfl | rfl | rfl | rfl | rfl | rfl | rfl | rfl | rfl | rfl | rfl | rfl | rfl <;> rfl
/-- the instruction that eight bytes stand for -/
def insOf (l : List UInt8) : Ins := ⟨(l.getD 0 0).toNat, (l.getD 1 0).toNat, (l.getD 2 0).toNat, (l.getD 3 0).toNat, toS (leNat ((l.drop 4).take 4)) 4⟩
def decI (l : List UInt8) : Option Ins := if l.length < 8 then none else if rightB (insOf l) then some (insOf l) else none
theorem rightB_iff {i : Ins} : rightB i = true ↔ (1 ≤ i.op ∧ i.op ≤ 30) ∧ immB i.op i.imm = true ∧ (∀ ch ∈ [65, 66, 67, 73], okOp i ch = true) := by
  unfold rightB
  rw [Bool.and_eq_true, Bool.and_eq_true, Bool.and_eq_true, decide_eq_true_eq, decide_eq_true_eq, List.all_eq_true]
  exact ⟨fun ⟨⟨h1, h2⟩, h3⟩ => ⟨h1, h2, h3⟩, fun ⟨h1, h2, h3⟩ => ⟨⟨h1, h2⟩, h3⟩⟩
theorem right_abc {i : Ins} (h : rightB i = true) : i.a < 16 ∧ i.b < 16 ∧ i.c < 16 := by
  obtain ⟨_, _, h3⟩ := rightB_iff.1 h
  have ha := h3 65 (by simp)
  have hb := h3 66 (by simp)
  have hc := h3 67 (by simp)
  simp [okOp, Ins.fld] at ha hb hc
  omega
end Go.Lp
namespace Go.Sy
open Go.RowKit Go.Lp
section
variable {P : Program} {n : Nat} {s : Sta} {d : Option Tmp} {ty : TypeId} {pos : String} {af : Array Edge} {gd : Option (Nat × Bool)} {v : Value}
theorem wrap_u8 (u : UInt8) : IntKind.i64.wrap (u.toNat : Int) = u.toNat := by have := u.toNat_lt; rw [IntKind.wrap_i64]; omega
/-- a byte as an int -/
theorem q_convU {x : Operand} {S D : TypeId} {u : UInt8} (hS : (P.underlying S).isSome = true) (hD : P.underlying D = some (.int .i64)) (hx : ev s.env x = some (true, .int .u8 u.toNat)) : Quiet P n ⟨d, .convert S D x, ty, pos, af, gd⟩ s (.int .i64 u.toNat) := by
  have := q_convI (P := P) (n := n) (d := d) (ty := ty) (pos := pos) (af := af) (gd := gd) hS hD hx
  rwa [wrap_u8] at this
end
end Go.Sy
namespace Go.Proofs.YtpgcoceggacplaaGreatDoor
open Go.RowKit Go.Lp Go.Sy
theorem fits_fn (n : Int) (hn : I64 n) : Con Tryz.prog 108 [.int .i64 n, .int .i64 32, .bool true] [] [] fun r _ _ => r = .bool (fitsB n) := by
  unfold I64 at hn
  refine Con.enter Tryz.func108 rfl (by simp [Tryz.ntmps108]) ?_
  show awp _ _ _ _ ⟨[(0, true, _), (1, true, _), (2, true, _)], _, _⟩
  refine awp_seq (awp_region (aL_s true rfl rfl (fun _ => q_assign rfl) (aL_nil (thn_n (awp_seq (awp_block (awp_seq ?_)))))))
  refine awp_region (aL_s true rfl rfl (fun _ => q_move rfl) (aL_s true rfl rfl (fun _ => q_lss rfl rfl) (aL_s true rfl rfl (fun _ => q_move rfl) (aL_s _ rfl rfl (fun hc => q_move rfl) (aL_s _ rfl rfl (fun hc => q_gtr (ev_yes rfl hc) rfl) (aL_s true rfl rfl (fun _ => q_or rfl rfl (fun h => gf rfl h)) (aL_s true rfl rfl (fun _ => q_assign rfl) ?_)))))))
  refine aL_nil (thn_n ?_)
  refine awp_cond _ rfl (fun h1 => ?_) (fun h1 => ?_)
  ·skip
   refine awp_seq (awp_region (aL_s true rfl rfl (fun _ => q_assign rfl) (aL_nil (thn_n (awp_ret (blk_r (thn_r ?_)))))))
   refine fin1 [] [] rfl Tryz.results108 rfl ?_ (.inr rfl)
   exact absurd h1 (by simp)
  ·skip
   refine awp_seq (awp_region (aL_s true rfl rfl (fun _ => q_move rfl) (aL_s true rfl rfl (fun _ => q_assign rfl) (aL_nil (thn_n ?_)))))
   refine awp_cond _ rfl (fun h2 => ?_) (fun h2 => ?_)
   ·skip
    refine awp_seq (awp_region (aL_s true rfl rfl (fun _ => q_move rfl) (aL_s true rfl rfl (fun _ => q_move rfl) ?_)))
    refine aL_s true rfl rfl (fun _ => q_subi rfl rfl (by omega)) ?_
    refine aL_s true rfl rfl (fun _ => q_shr rfl rfl (by decide)) ?_
    refine aL_s true rfl rfl (fun _ => q_eql rfl rfl) (aL_s true rfl rfl (fun _ => q_move rfl) (aL_s _ rfl rfl (fun hc => q_move rfl) (aL_s _ rfl rfl (fun hc => q_move rfl) ?_)))
    refine aL_s _ rfl rfl (fun hc => q_subi (ev_yes rfl hc) rfl (by (first | omega | (simp at hc; omega)))) ?_
    refine aL_s _ rfl rfl (fun hc => q_shr (ev_yes rfl hc) (ev_yes rfl hc) (by decide)) ?_
    refine aL_s _ rfl rfl (fun hc => q_eql (ev_yes rfl hc) rfl) (aL_s true rfl rfl (fun _ => q_or rfl rfl (fun h => gf rfl h)) (aL_s true rfl rfl (fun _ => q_assign rfl) (aL_nil (thn_n (awp_ret (blk_r (thn_r ?_)))))))
    refine fin1 [] [] rfl Tryz.results108 rfl ?_ (.inr rfl)
    refine congrArg Value.bool ?_
    have e : ∀ k : Int, (n.fdiv (2 ^ min 31 IntKind.i64.bits) = k) ↔ n / 2147483648 = k := fun k => by
      rw [show (2 : Int) ^ min 31 IntKind.i64.bits = 2147483648 from rfl, Int.fdiv_eq_ediv_of_nonneg _ (by decide)]
    unfold fitsB
    rw [Bool.eq_iff_iff]
    simp only [Bool.or_eq_true, Bool.and_eq_true, decide_eq_true_eq]
    have e0 := e 0
    have e1 := e (-1)
    constructor
    · rintro (h | h)
      · have := e0.1 h; omega
      · have := e1.1 h; omega
    · rintro ⟨g1, g2⟩
      by_cases h : 0 ≤ n
      · exact .inl (e0.2 (by omega))
      · exact .inr (e1.2 (by omega))
   ·skip
    refine awp_skip (blk_n (thn_n (awp_seq (awp_region (aL_s true rfl rfl (fun _ => q_move rfl) (aL_s true rfl rfl (fun _ => q_geq rfl rfl) (aL_s true rfl rfl (fun _ => q_move rfl) ?_)))))))
    refine aL_s _ rfl rfl (fun hc => q_move rfl) (aL_s _ rfl rfl (fun hc => q_geq (ev_yes rfl hc) rfl) (aL_s _ rfl rfl (fun hc => q_move (ev_yes rfl hc)) (aL_s _ rfl rfl (fun hc => q_move rfl) (aL_s _ rfl rfl (fun hc => q_move rfl) ?_))))
    refine aL_s _ rfl rfl (fun hc => q_shr (ev_yes rfl hc) (ev_yes rfl hc) (by decide)) ?_
    refine aL_s _ rfl rfl (fun hc => q_eql (ev_yes rfl hc) rfl) (aL_s _ rfl rfl (fun hc => q_or (ev_yes rfl hc) rfl (fun h => gf hc h)) (aL_s true rfl rfl (fun _ => q_and rfl rfl (fun h => gt rfl h)) (aL_s true rfl rfl (fun _ => q_assign rfl) (aL_nil (thn_n (awp_ret ?_))))))
    refine fin1 [] [] rfl Tryz.results108 rfl ?_ (.inr rfl)
    exact absurd h2 (by simp)
theorem tmod8 (n : Int) : decide (n.tmod 8 = 0) = decide (n % 8 = 0) := by
  congr 1
  rw [← Int.dvd_iff_tmod_eq_zero, Int.dvd_iff_emod_eq_zero]
theorem immB_1 {op : Nat} {n : Int} (h : op = 19 ∨ op = 20 ∨ op = 21 ∨ op = 24 ∨ op = 25) : immB op n = (decide (n % 8 = 0) && fitsB n) := by unfold immB; rw [if_pos h]
theorem immB_2 {op : Nat} {n : Int} (h : op = 22) : immB op n = (decide (n % 8 = 0) && (decide (-512 ≤ n) && decide (n ≤ 504))) := by unfold immB; rw [if_neg (by omega), if_pos h]
theorem immB_3 {op : Nat} {n : Int} (h : op = 30) : immB op n = (decide (0 ≤ n) && decide (n < 8)) := by unfold immB; rw [if_neg (by omega), if_neg (by omega), if_pos h]
theorem immB_4 {op : Nat} {n : Int} (h : ¬ (op = 19 ∨ op = 20 ∨ op = 21 ∨ op = 24 ∨ op = 25 ∨ op = 22 ∨ op = 30)) : immB op n = fitsB n := by unfold immB; rw [if_neg (by omega), if_neg (by omega), if_neg (by omega)]
theorem imm_fn (i : Ins) (hn : I64 i.imm) : Con Tryz.prog 91 [.agg (insV i).toArray] [] [] fun r _ _ => r = .bool (immB i.op i.imm) := by
  refine Con.enter Tryz.func91 rfl (by simp [Tryz.ntmps91]) ?_
  show awp _ _ _ _ ⟨[(0, true, _)], _, _⟩
  refine awp_seq (awp_region ?_)
  refine aL_eff (q := true) rfl (e_box rfl rfl rfl (fun b0_0 => ?_))
  simp only [nM, nN]
  refine aL_s true rfl rfl (fun _ => q_assign rfl) (aL_nil (thn_n (awp_seq (awp_region ?_))))
  refine aL_s true rfl rfl (fun _ => q_fieldAddr (off := 4) (by kernel_rfl) rfl) ?_
  refine aL_s true rfl rfl (fun _ => q_load 0 tk3 rfl rfl rfl) ?_
  refine aL_s true rfl rfl (fun _ => q_rem rfl rfl (by decide)) ?_
  refine aL_s true rfl rfl (fun _ => q_eql rfl rfl) (aL_s true rfl rfl (fun _ => q_assign rfl) (aL_nil (thn_n (awp_seq (awp_seq (awp_region ?_))))))
  refine aL_s true rfl rfl (fun _ => q_fieldAddr (off := 0) (by kernel_rfl) rfl) ?_
  refine aL_s true rfl rfl (fun _ => q_load 0 tk3 rfl rfl rfl) (aL_nil (thn_n (awp_block (awp_seq (awp_seq (awp_region (aL_s true rfl rfl (fun _ => q_eql rfl rfl) ?_)))))))
  refine aL_s true rfl rfl (fun _ => q_assign rfl) (aL_nil (thn_n ?_))
  refine awp_cond _ rfl (fun h1 => ?_) (fun h1 => ?_)
  ·skip
   refine awp_skip (thn_n ?_)
   refine awp_cond _ rfl (fun _ => ?_) (fun h => absurd (h1.symm.trans h) (by decide))
   refine awp_seq (awp_region (aL_s true rfl rfl (fun _ => q_move rfl) (aL_s true rfl rfl (fun _ => q_move rfl) ?_)))
   refine aL_s _ rfl rfl (fun hc => q_fieldAddr (off := 4) (by kernel_rfl) rfl) ?_
   refine aL_s _ rfl rfl (fun hc => q_load 0 tk3 (ev_yes rfl hc) rfl rfl) ?_
   refine aL_s _ rfl rfl (fun hc => q_call (by kernel_rfl) (evs_cons (ev_yes rfl hc) (evs_cons (ev_yes rfl rfl) (evs_cons (ev_yes rfl rfl) rfl))) (fun w S fp hst => (fits_fn i.imm hn).quiet0 hst)) ?_
   refine aL_s true rfl rfl (fun _ => q_and rfl rfl (fun h => gt rfl h)) (aL_s true rfl rfl (fun _ => q_assign rfl) (aL_nil (thn_n (awp_ret (blk_r (thn_r ?_))))))
   refine fin1 [] [] rfl Tryz.results91 rfl ?_ (.inr rfl)
   refine congrArg Value.bool ?_
   simp only [decide_eq_true_eq, decide_eq_false_iff_not] at *
   first | (exfalso; omega) | (rw [immB_1 (by omega), tmod8]) | (rw [immB_2 (by omega), tmod8, Bool.and_assoc]) | (rw [immB_3 (by omega)]) | (rw [immB_4 (by omega)])
  ·skip
   refine awp_seq (awp_region (aL_s true rfl rfl (fun _ => q_eql rfl rfl) (aL_s true rfl rfl (fun _ => q_assign rfl) (aL_nil (thn_n ?_)))))
   refine awp_cond _ rfl (fun h2 => ?_) (fun h2 => ?_)
   ·skip
    refine awp_skip (thn_n ?_)
    refine awp_cond _ rfl (fun _ => ?_) (fun h => absurd (h2.symm.trans h) (by decide))
    refine awp_seq (awp_region (aL_s true rfl rfl (fun _ => q_move rfl) (aL_s true rfl rfl (fun _ => q_move rfl) ?_)))
    refine aL_s _ rfl rfl (fun hc => q_fieldAddr (off := 4) (by kernel_rfl) rfl) ?_
    refine aL_s _ rfl rfl (fun hc => q_load 0 tk3 (ev_yes rfl hc) rfl rfl) ?_
    refine aL_s _ rfl rfl (fun hc => q_call (by kernel_rfl) (evs_cons (ev_yes rfl hc) (evs_cons (ev_yes rfl rfl) (evs_cons (ev_yes rfl rfl) rfl))) (fun w S fp hst => (fits_fn i.imm hn).quiet0 hst)) ?_
    refine aL_s true rfl rfl (fun _ => q_and rfl rfl (fun h => gt rfl h)) (aL_s true rfl rfl (fun _ => q_assign rfl) (aL_nil (thn_n (awp_ret (blk_r (thn_r ?_))))))
    refine fin1 [] [] rfl Tryz.results91 rfl ?_ (.inr rfl)
    refine congrArg Value.bool ?_
    simp only [decide_eq_true_eq, decide_eq_false_iff_not] at *
    first | (exfalso; omega) | (rw [immB_1 (by omega), tmod8]) | (rw [immB_2 (by omega), tmod8, Bool.and_assoc]) | (rw [immB_3 (by omega)]) | (rw [immB_4 (by omega)])
   ·skip
    refine awp_seq (awp_region (aL_s true rfl rfl (fun _ => q_eql rfl rfl) (aL_s true rfl rfl (fun _ => q_assign rfl) (aL_nil (thn_n ?_)))))
    refine awp_cond _ rfl (fun h3 => ?_) (fun h3 => ?_)
    ·skip
     refine awp_skip (thn_n ?_)
     refine awp_cond _ rfl (fun _ => ?_) (fun h => absurd (h3.symm.trans h) (by decide))
     refine awp_seq (awp_region (aL_s true rfl rfl (fun _ => q_move rfl) (aL_s true rfl rfl (fun _ => q_move rfl) ?_)))
     refine aL_s _ rfl rfl (fun hc => q_fieldAddr (off := 4) (by kernel_rfl) rfl) ?_
     refine aL_s _ rfl rfl (fun hc => q_load 0 tk3 (ev_yes rfl hc) rfl rfl) ?_
     refine aL_s _ rfl rfl (fun hc => q_call (by kernel_rfl) (evs_cons (ev_yes rfl hc) (evs_cons (ev_yes rfl rfl) (evs_cons (ev_yes rfl rfl) rfl))) (fun w S fp hst => (fits_fn i.imm hn).quiet0 hst)) ?_
     refine aL_s true rfl rfl (fun _ => q_and rfl rfl (fun h => gt rfl h)) (aL_s true rfl rfl (fun _ => q_assign rfl) (aL_nil (thn_n (awp_ret (blk_r (thn_r ?_))))))
     refine fin1 [] [] rfl Tryz.results91 rfl ?_ (.inr rfl)
     refine congrArg Value.bool ?_
     simp only [decide_eq_true_eq, decide_eq_false_iff_not] at *
     first | (exfalso; omega) | (rw [immB_1 (by omega), tmod8]) | (rw [immB_2 (by omega), tmod8, Bool.and_assoc]) | (rw [immB_3 (by omega)]) | (rw [immB_4 (by omega)])
    ·skip
     refine awp_seq (awp_region (aL_s true rfl rfl (fun _ => q_eql rfl rfl) (aL_s true rfl rfl (fun _ => q_assign rfl) (aL_nil (thn_n ?_)))))
     refine awp_cond _ rfl (fun h4 => ?_) (fun h4 => ?_)
     ·skip
      refine awp_skip (thn_n ?_)
      refine awp_cond _ rfl (fun _ => ?_) (fun h => absurd (h4.symm.trans h) (by decide))
      refine awp_seq (awp_region (aL_s true rfl rfl (fun _ => q_move rfl) (aL_s true rfl rfl (fun _ => q_move rfl) ?_)))
      refine aL_s _ rfl rfl (fun hc => q_fieldAddr (off := 4) (by kernel_rfl) rfl) ?_
      refine aL_s _ rfl rfl (fun hc => q_load 0 tk3 (ev_yes rfl hc) rfl rfl) ?_
      refine aL_s _ rfl rfl (fun hc => q_call (by kernel_rfl) (evs_cons (ev_yes rfl hc) (evs_cons (ev_yes rfl rfl) (evs_cons (ev_yes rfl rfl) rfl))) (fun w S fp hst => (fits_fn i.imm hn).quiet0 hst)) ?_
      refine aL_s true rfl rfl (fun _ => q_and rfl rfl (fun h => gt rfl h)) (aL_s true rfl rfl (fun _ => q_assign rfl) (aL_nil (thn_n (awp_ret (blk_r (thn_r ?_))))))
      refine fin1 [] [] rfl Tryz.results91 rfl ?_ (.inr rfl)
      refine congrArg Value.bool ?_
      simp only [decide_eq_true_eq, decide_eq_false_iff_not] at *
      first | (exfalso; omega) | (rw [immB_1 (by omega), tmod8]) | (rw [immB_2 (by omega), tmod8, Bool.and_assoc]) | (rw [immB_3 (by omega)]) | (rw [immB_4 (by omega)])
     ·skip
      refine awp_region (aL_s true rfl rfl (fun _ => q_eql rfl rfl) (aL_s true rfl rfl (fun _ => q_assign rfl) (aL_nil (thn_n ?_))))
      refine awp_cond _ rfl (fun h5 => ?_) (fun h5 => ?_)
      ·skip
       refine awp_seq (awp_region (aL_s true rfl rfl (fun _ => q_move rfl) (aL_s true rfl rfl (fun _ => q_move rfl) ?_)))
       refine aL_s _ rfl rfl (fun hc => q_fieldAddr (off := 4) (by kernel_rfl) rfl) ?_
       refine aL_s _ rfl rfl (fun hc => q_load 0 tk3 (ev_yes rfl hc) rfl rfl) ?_
       refine aL_s _ rfl rfl (fun hc => q_call (by kernel_rfl) (evs_cons (ev_yes rfl hc) (evs_cons (ev_yes rfl rfl) (evs_cons (ev_yes rfl rfl) rfl))) (fun w S fp hst => (fits_fn i.imm hn).quiet0 hst)) ?_
       refine aL_s true rfl rfl (fun _ => q_and rfl rfl (fun h => gt rfl h)) (aL_s true rfl rfl (fun _ => q_assign rfl) (aL_nil (thn_n (awp_ret (blk_r (thn_r ?_))))))
       refine fin1 [] [] rfl Tryz.results91 rfl ?_ (.inr rfl)
       refine congrArg Value.bool ?_
       simp only [decide_eq_true_eq, decide_eq_false_iff_not] at *
       first | (exfalso; omega) | (rw [immB_1 (by omega), tmod8]) | (rw [immB_2 (by omega), tmod8, Bool.and_assoc]) | (rw [immB_3 (by omega)]) | (rw [immB_4 (by omega)])
      ·skip
       refine awp_seq (awp_region (aL_s true rfl rfl (fun _ => q_eql rfl rfl) (aL_s true rfl rfl (fun _ => q_assign rfl) (aL_nil (thn_n ?_)))))
       refine awp_cond _ rfl (fun h6 => ?_) (fun h6 => ?_)
       ·skip
        refine awp_seq (awp_region (aL_s true rfl rfl (fun _ => q_move rfl) (aL_s true rfl rfl (fun _ => q_move rfl) ?_)))
        refine aL_s _ rfl rfl (fun hc => q_fieldAddr (off := 4) (by kernel_rfl) rfl) ?_
        refine aL_s _ rfl rfl (fun hc => q_load 0 tk3 (ev_yes rfl hc) rfl rfl) (aL_s _ rfl rfl (fun hc => q_geq (ev_yes rfl hc) rfl) (aL_s true rfl rfl (fun _ => q_and rfl rfl (fun h => gt rfl h)) (aL_s true rfl rfl (fun _ => q_move rfl) ?_)))
        refine aL_s _ rfl rfl (fun hc => q_fieldAddr (off := 4) (by kernel_rfl) rfl) ?_
        refine aL_s _ rfl rfl (fun hc => q_load 0 tk3 (ev_yes rfl hc) rfl rfl) (aL_s _ rfl rfl (fun hc => q_leq (ev_yes rfl hc) rfl) (aL_s true rfl rfl (fun _ => q_and rfl rfl (fun h => gt rfl h)) (aL_s true rfl rfl (fun _ => q_assign rfl) (aL_nil (thn_n (awp_ret (blk_r ?_)))))))
        refine thn_r ?_
        refine fin1 [] [] rfl Tryz.results91 rfl ?_ (.inr rfl)
        refine congrArg Value.bool ?_
        simp only [decide_eq_true_eq, decide_eq_false_iff_not] at *
        first | (exfalso; omega) | (rw [immB_1 (by omega), tmod8]) | (rw [immB_2 (by omega), tmod8, Bool.and_assoc]) | (rw [immB_3 (by omega)]) | (rw [immB_4 (by omega)])
       ·skip
        refine awp_seq (awp_region (aL_s true rfl rfl (fun _ => q_eql rfl rfl) (aL_s true rfl rfl (fun _ => q_assign rfl) (aL_nil (thn_n ?_)))))
        refine awp_cond _ rfl (fun h7 => ?_) (fun h7 => ?_)
        ·skip
         refine awp_seq (awp_region ?_)
         refine aL_s true rfl rfl (fun _ => q_fieldAddr (off := 4) (by kernel_rfl) rfl) ?_
         refine aL_s true rfl rfl (fun _ => q_load 0 tk3 rfl rfl rfl) (aL_s true rfl rfl (fun _ => q_geq rfl rfl) (aL_s true rfl rfl (fun _ => q_move rfl) ?_))
         refine aL_s _ rfl rfl (fun hc => q_fieldAddr (off := 4) (by kernel_rfl) rfl) ?_
         refine aL_s _ rfl rfl (fun hc => q_load 0 tk3 (ev_yes rfl hc) rfl rfl) (aL_s _ rfl rfl (fun hc => q_lss (ev_yes rfl hc) rfl) (aL_s true rfl rfl (fun _ => q_and rfl rfl (fun h => gt rfl h)) (aL_s true rfl rfl (fun _ => q_assign rfl) (aL_nil (thn_n (awp_ret (blk_r ?_)))))))
         refine thn_r ?_
         refine fin1 [] [] rfl Tryz.results91 rfl ?_ (.inr rfl)
         refine congrArg Value.bool ?_
         simp only [decide_eq_true_eq, decide_eq_false_iff_not] at *
         first | (exfalso; omega) | (rw [immB_1 (by omega), tmod8]) | (rw [immB_2 (by omega), tmod8, Bool.and_assoc]) | (rw [immB_3 (by omega)]) | (rw [immB_4 (by omega)])
        ·skip
         refine awp_skip (blk_n (thn_n (awp_seq (awp_region ?_))))
         refine aL_s true rfl rfl (fun _ => q_fieldAddr (off := 4) (by kernel_rfl) rfl) ?_
         refine aL_s true rfl rfl (fun _ => q_load 0 tk3 rfl rfl rfl) ?_
         refine aL_s true rfl rfl (fun _ => q_call (by kernel_rfl) rfl (fun w S fp hst => (fits_fn i.imm hn).quiet0 hst)) ?_
         refine aL_s true rfl rfl (fun _ => q_assign rfl) (aL_nil (thn_n (awp_ret ?_)))
         refine fin1 [] [] rfl Tryz.results91 rfl ?_ (.inr rfl)
         refine congrArg Value.bool ?_
         simp only [decide_eq_true_eq, decide_eq_false_iff_not] at *
         first | (exfalso; omega) | (rw [immB_1 (by omega), tmod8]) | (rw [immB_2 (by omega), tmod8, Bool.and_assoc]) | (rw [immB_3 (by omega)]) | (rw [immB_4 (by omega)])
/-- where a field stands -/
def offF (ch : UInt8) : Nat := if ch = 65 then 1 else if ch = 66 then 2 else if ch = 67 then 3 else 4
theorem u8_eq (a b : UInt8) : ((a.toNat : Int) = b.toNat) ↔ a = b := by
  rw [← UInt8.toNat_inj]; omega
theorem field_fn (b : Nat) (ch : UInt8) : Con Tryz.prog 92 [.pointer (some ⟨b, 0, none⟩), .int .u8 ch.toNat] [] [] fun r _ _ => r = .pointer (some ⟨b, offF ch, none⟩) := by
  have e1 := u8_eq ch 65
  have e2 := u8_eq ch 66
  have e3 := u8_eq ch 67
  refine Con.enter Tryz.func92 rfl (by simp [Tryz.ntmps92]) ?_
  show awp _ _ _ _ ⟨[(0, true, _), (1, true, _)], _, _⟩
  refine awp_seq (awp_region (aL_s true rfl rfl (fun _ => q_assign rfl) (aL_nil (thn_n (awp_seq (awp_seq (awp_region ?_)))))))
  refine aL_s true rfl rfl (fun _ => q_move rfl) (aL_nil (thn_n (awp_block (awp_seq (awp_region (aL_s true rfl rfl (fun _ => q_eql rfl rfl) (aL_s true rfl rfl (fun _ => q_assign rfl) ?_)))))))
  refine aL_nil (thn_n ?_)
  refine awp_cond _ rfl (fun h1 => ?_) (fun h1 => ?_)
  ·skip
   refine awp_seq (awp_region (aL_s true rfl rfl (fun _ => q_move rfl) (aL_s true rfl rfl (fun _ => q_nilCheck rfl) ?_)))
   refine aL_s true rfl rfl (fun _ => q_fieldAddr (off := 1) (by kernel_rfl) rfl) ?_
   refine aL_s true rfl rfl (fun _ => q_assign rfl) (aL_nil (thn_n (awp_ret (blk_r (thn_r ?_)))))
   refine fin1 [] [] rfl Tryz.results92 rfl ?_ (.inr rfl)
   have g1 := e1.symm.trans (show ((ch.toNat : Int) = (65 : UInt8).toNat ↔ (ch.toNat : Int) = 65) from Iff.rfl)
   have g2 := e2.symm.trans (show ((ch.toNat : Int) = (66 : UInt8).toNat ↔ (ch.toNat : Int) = 66) from Iff.rfl)
   have g3 := e3.symm.trans (show ((ch.toNat : Int) = (67 : UInt8).toNat ↔ (ch.toNat : Int) = 67) from Iff.rfl)
   simp only [decide_eq_true_eq, decide_eq_false_iff_not] at *
   unfold offF
   simp_all
  ·skip
   refine awp_seq (awp_region (aL_s true rfl rfl (fun _ => q_eql rfl rfl) (aL_s true rfl rfl (fun _ => q_assign rfl) (aL_nil (thn_n ?_)))))
   refine awp_cond _ rfl (fun h2 => ?_) (fun h2 => ?_)
   ·skip
    refine awp_seq (awp_region (aL_s true rfl rfl (fun _ => q_move rfl) (aL_s true rfl rfl (fun _ => q_nilCheck rfl) ?_)))
    refine aL_s true rfl rfl (fun _ => q_fieldAddr (off := 2) (by kernel_rfl) rfl) ?_
    refine aL_s true rfl rfl (fun _ => q_assign rfl) (aL_nil (thn_n (awp_ret (blk_r (thn_r ?_)))))
    refine fin1 [] [] rfl Tryz.results92 rfl ?_ (.inr rfl)
    have g1 := e1.symm.trans (show ((ch.toNat : Int) = (65 : UInt8).toNat ↔ (ch.toNat : Int) = 65) from Iff.rfl)
    have g2 := e2.symm.trans (show ((ch.toNat : Int) = (66 : UInt8).toNat ↔ (ch.toNat : Int) = 66) from Iff.rfl)
    have g3 := e3.symm.trans (show ((ch.toNat : Int) = (67 : UInt8).toNat ↔ (ch.toNat : Int) = 67) from Iff.rfl)
    simp only [decide_eq_true_eq, decide_eq_false_iff_not] at *
    unfold offF
    simp_all
   ·skip
    refine awp_seq (awp_region (aL_s true rfl rfl (fun _ => q_eql rfl rfl) (aL_s true rfl rfl (fun _ => q_assign rfl) (aL_nil (thn_n ?_)))))
    refine awp_cond _ rfl (fun h3 => ?_) (fun h3 => ?_)
    ·skip
     refine awp_seq (awp_region (aL_s true rfl rfl (fun _ => q_move rfl) (aL_s true rfl rfl (fun _ => q_nilCheck rfl) ?_)))
     refine aL_s true rfl rfl (fun _ => q_fieldAddr (off := 3) (by kernel_rfl) rfl) ?_
     refine aL_s true rfl rfl (fun _ => q_assign rfl) (aL_nil (thn_n (awp_ret (blk_r (thn_r ?_)))))
     refine fin1 [] [] rfl Tryz.results92 rfl ?_ (.inr rfl)
     have g1 := e1.symm.trans (show ((ch.toNat : Int) = (65 : UInt8).toNat ↔ (ch.toNat : Int) = 65) from Iff.rfl)
     have g2 := e2.symm.trans (show ((ch.toNat : Int) = (66 : UInt8).toNat ↔ (ch.toNat : Int) = 66) from Iff.rfl)
     have g3 := e3.symm.trans (show ((ch.toNat : Int) = (67 : UInt8).toNat ↔ (ch.toNat : Int) = 67) from Iff.rfl)
     simp only [decide_eq_true_eq, decide_eq_false_iff_not] at *
     unfold offF
     simp_all
    ·skip
     refine awp_skip (blk_n (thn_n (awp_seq (awp_region (aL_s true rfl rfl (fun _ => q_move rfl) (aL_s true rfl rfl (fun _ => q_nilCheck rfl) ?_))))))
     refine aL_s true rfl rfl (fun _ => q_fieldAddr (off := 4) (by kernel_rfl) rfl) ?_
     refine aL_s true rfl rfl (fun _ => q_assign rfl) (aL_nil (thn_n (awp_ret ?_)))
     refine fin1 [] [] rfl Tryz.results92 rfl ?_ (.inr rfl)
     have g1 := e1.symm.trans (show ((ch.toNat : Int) = (65 : UInt8).toNat ↔ (ch.toNat : Int) = 65) from Iff.rfl)
     have g2 := e2.symm.trans (show ((ch.toNat : Int) = (66 : UInt8).toNat ↔ (ch.toNat : Int) = 66) from Iff.rfl)
     have g3 := e3.symm.trans (show ((ch.toNat : Int) = (67 : UInt8).toNat ↔ (ch.toNat : Int) = 67) from Iff.rfl)
     simp only [decide_eq_true_eq, decide_eq_false_iff_not] at *
     unfold offF
     simp_all
theorem bytealg_fn (s : ByteArray) (c : UInt8) (w : World) : (Extern.BytealgIndexByte.indexByte #[.string s, .int .u8 c.toNat]).run Tryz.prog w = .ok (.int .i64 (Lib.indexByte s.data.toList c)) w := by
  have := Lib.run_indexByteString (P := Tryz.prog) s (c.toNat : Int) w
  rwa [show ((c.toNat : Int).toNat).toUInt8 = c by simp] at this
theorem index_fn0 (s : ByteArray) (c : UInt8) : Con Tryz.prog 109 [.string s, .int .u8 c.toNat] [] [] fun r _ _ => r = .int .i64 (Lib.indexByte s.data.toList c) := by
  refine Con.enter Tryz.func109 rfl (by simp [Tryz.ntmps109]) ?_
  show awp _ _ _ _ ⟨[(0, true, _), (1, true, _)], _, _⟩
  refine awp_seq (awp_region (aL_s true rfl rfl (fun _ => q_assign rfl) (aL_nil (thn_n (awp_seq (awp_region (aL_s true rfl rfl (fun _ => q_move rfl) ?_)))))))
  refine aL_s true rfl rfl (fun _ => q_move rfl) ?_
  refine aL_s true rfl rfl (fun _ => q_ext (vs := _) Tryz.func120 rfl rfl (by kernel_rfl) (by kernel_rfl) rfl (fun w => bytealg_fn s c w)) ?_
  refine aL_s true rfl rfl (fun _ => q_assign rfl) (aL_nil (thn_n (awp_ret ?_)))
  refine fin1 [] [] rfl Tryz.results109 rfl ?_ (.inr rfl)
  rfl
theorem index_fn (s : ByteArray) (c : UInt8) : Con Tryz.prog 93 [.string s, .int .u8 c.toNat] [] [] fun r _ _ => r = .int .i64 (Lib.indexByte s.data.toList c) := by
  refine Con.enter Tryz.func93 rfl (by simp [Tryz.ntmps93]) ?_
  show awp _ _ _ _ ⟨[(0, true, _), (1, true, _)], _, _⟩
  refine awp_seq (awp_region (aL_s true rfl rfl (fun _ => q_assign rfl) (aL_nil (thn_n (awp_seq (awp_region (aL_s true rfl rfl (fun _ => q_move rfl) ?_)))))))
  refine aL_s true rfl rfl (fun _ => q_move rfl) ?_
  refine aL_s true rfl rfl (fun _ => q_call (by kernel_rfl) rfl (fun w S fp hst => (index_fn0 s c).quiet0 hst)) ?_
  refine aL_s true rfl rfl (fun _ => q_assign rfl) (aL_nil (thn_n (awp_ret ?_)))
  refine fin1 [] [] rfl Tryz.results93 rfl ?_ (.inr rfl)
  rfl
theorem insV_fld (i : Ins) (ch : UInt8) : (insV i)[offF ch]? = some (.int .i64 (i.fld ch)) := by
  unfold offF Ins.fld
  split
  · rfl
  · split
    · rfl
    · split <;> rfl
theorem idx_mem (l : List UInt8) (c : UInt8) : decide (0 ≤ Lib.indexByte l c) = l.contains c := by
  induction l with
  | nil => rfl
  | cons b l ih =>
    have hge := Lib.indexByte_ge l c
    unfold Lib.indexByte
    rw [List.contains_cons, ← ih]
    by_cases h : b = c
    · subst h; simp
    · have h1 : (b == c) = false := by simpa using h
      have h2 : (c == b) = false := by simpa using Ne.symm h
      rw [h1, h2]
      by_cases h3 : Lib.indexByte l c = -1
      · simp [h3]
      · have : (Lib.indexByte l c == -1) = false := by simpa using h3
        rw [this]
        simp only [Bool.false_eq_true, if_false, Bool.false_or, decide_eq_decide]
        omega
def abci : List UInt8 := [65, 66, 67, 73]
def formsAt : Per := At 1 0 (formsV.map D.v)
def abciRows : List (List D) := [[.v (.int .u8 65)], [.v (.int .u8 66)], [.v (.int .u8 67)], [.v (.int .u8 73)]]
theorem abci_row {k : Nat} (hk : k < 4) : ∃ ch, abci[k]? = some ch ∧ abciRows[k]? = some [.v (.int .u8 ch.toNat)] := by
  have : k = 0 ∨ k = 1 ∨ k = 2 ∨ k = 3 := by omega
  rcases this with rfl | rfl | rfl | rfl <;> exact ⟨_, rfl, rfl⟩
theorem right_fn (i : Ins) (hn : I64 i.imm) : Con Tryz.prog 36 [.agg (insV i).toArray] [formsAt] [] fun r _ _ => r = .bool (rightB i) := by
  refine Con.enter Tryz.func36 rfl (by simp [Tryz.ntmps36]) ?_
  show awp _ _ _ _ ⟨[(0, true, _)], _, _⟩
  refine awp_seq (awp_region ?_)
  refine aL_eff (q := true) rfl (e_box rfl rfl rfl (fun b0_0 => ?_))
  simp only [nM, nN]
  refine aL_s true rfl rfl (fun _ => q_assign rfl) (aL_nil (thn_n (awp_seq (awp_seq (awp_region ?_)))))
  refine aL_s true rfl rfl (fun _ => q_fieldAddr (off := 0) (by kernel_rfl) rfl) ?_
  refine aL_s true rfl rfl (fun _ => q_load 0 tk3 rfl rfl rfl) (aL_s true rfl rfl (fun _ => q_leq rfl rfl) (aL_s true rfl rfl (fun _ => q_move rfl) ?_))
  refine aL_s _ rfl rfl (fun hc => q_fieldAddr (off := 0) (by kernel_rfl) rfl) ?_
  refine aL_s _ rfl rfl (fun hc => q_load 0 tk3 (ev_yes rfl hc) rfl rfl) (aL_s _ rfl rfl (fun hc => q_geq (ev_yes rfl hc) rfl) (aL_s true rfl rfl (fun _ => q_or rfl rfl (fun h => gf rfl h)) (aL_s true rfl rfl (fun _ => q_move rfl) (aL_s _ rfl rfl (fun hc => q_load 0 tk46 rfl rfl rfl) ?_))))
  refine aL_s _ rfl rfl (fun hc => q_call (by kernel_rfl) (evs_cons (ev_yes rfl hc) rfl) (fun w S fp hst => (imm_fn i hn).quiet0 hst)) ?_
  refine aL_s _ rfl rfl (fun hc => q_not (ev_yes rfl hc)) (aL_s true rfl rfl (fun _ => q_or rfl rfl (fun h => gf rfl h)) (aL_nil (thn_n ?_)))
  refine awp_cond _ rfl (fun h1 => ?_) (fun h1 => ?_)
  ·skip
   refine awp_seq (awp_region (aL_s true rfl rfl (fun _ => q_assign rfl) (aL_nil (thn_n (awp_ret (thn_r ?_))))))
   refine fin1 [] [] rfl Tryz.results36 rfl ?_ (.inr rfl)
   refine congrArg Value.bool (Eq.symm ?_)
   rw [Bool.eq_false_iff]
   intro hr
   obtain ⟨⟨g1, g2⟩, g3, _⟩ := rightB_iff.1 hr
   rw [g3] at h1
   simp at h1; omega
  ·skip
   have hop : i.op < 31 := by simp at h1; omega
   have hop1 : 1 ≤ i.op := by simp at h1; omega
   have himm : immB i.op i.imm = true := by simp at h1; exact h1.2
   refine awp_skip (thn_n (awp_seq (awp_seq (awp_region ?_))))
   refine aL_eff (q := true) rfl (w_lit (zs := [.int .u8 0]) (l := [(0, .const (.int .u8 65)), (1, .const (.int .u8 66)), (2, .const (.int .u8 67)), (3, .const (.int .u8 73))]) el81 (by kernel_rfl) (by decide) (by decide) (by decide) rfl rfl rfl (.more rfl (.v rfl .nil) (.more rfl (.v rfl .nil) (.more rfl (.v rfl .nil) (.more rfl (.v rfl .nil) .nil)))) rfl rfl (fun v3_0 => ?_))
   simp only [nM, nN]
   refine aL_eff rfl (e_convB 1 Tryz.underlying81 Tryz.underlying5 rfl rfl rfl (by simp) ?_)
   simp only [nK, nL]
   refine aL_s true rfl rfl (fun _ => q_lenS Tryz.underlying81 rfl) (aL_s true rfl rfl (fun _ => q_move rfl) (aL_nil (thn_n (awp_block ?_))))
   refine awp_loopK [1, 21, 22, 23] [1, 0] [0] (fun (k : Nat) s => (k ≤ 4 ∧ ∀ j ch, j < k → abci[j]? = some ch → okOp i ch = true) ∧ s = ⟨[(1, true, .pointer (some ⟨b0_0, 0, none⟩)), (21, true, .slice v3_0 4 4), (22, true, .int .i64 (4 : Nat)), (23, true, .int .i64 k)], [Sh (.slice v3_0 4 4) (.sl abciRows), formsAt], [Box b0_0 46 (insV i)]⟩) (fun k => 4 - k) rfl (⟨0, ⟨Nat.zero_le _, fun j ch h => by omega⟩, rfl⟩) ?_
   rintro k s ⟨⟨hk, hok⟩, rfl⟩
   refine awp_seq (awp_region (aL_s true rfl rfl (fun _ => q_lss rfl rfl) (aL_nil (thn_n (awp_seq ?_)))))
   refine awp_cond _ rfl (fun h2 => ?_) (fun h2 => ?_)
   ·skip
    have hk' : k < 4 := by simp at h2; omega
    obtain ⟨ch, hch, hrow⟩ := abci_row hk'
    have e73 : decide ((ch.toNat : Int) = 73) = decide (ch = 73) := by
      have := u8_eq ch 73
      exact decide_eq_decide.2 this
    refine awp_skip (thn_n (awp_seq (awp_block (awp_seq (awp_region ?_)))))
    refine aL_E true rfl rfl (fun _ => q_indexAddr Tryz.underlying81 tk5 rfl (psAt 0 rfl) rfl (row := [.v (.int .u8 ch.toNat)]) hrow rfl rfl) (fun h => absurd h (by decide)) (fun ⟨b5_0, o5_0⟩ => ?_)
    refine aL_s true rfl rfl (fun _ => q_loadD (o := 0) (v := .int .u8 ch.toNat) tk5 rfl (psAt 0 rfl) rfl rfl) (aL_s true rfl rfl (fun _ => q_assign rfl) (aL_nil (thn_n (awp_seq (awp_region (aL_s true rfl rfl (fun _ => q_move rfl) ?_))))))
    refine aL_s true rfl rfl (fun _ => q_call (by kernel_rfl) rfl (fun w S fp hst => (field_fn b0_0 ch).quiet0 hst)) ?_
    refine aL_s true rfl rfl (fun _ => q_nilCheck rfl) (aL_s true rfl rfl (fun _ => q_load 0 tk3 rfl rfl (insV_fld i ch)) (aL_s true rfl rfl (fun _ => q_assign rfl) (aL_nil (thn_n (awp_seq (awp_region ?_))))))
    refine aL_s true rfl rfl (fun _ => q_fieldAddr (off := 0) (by kernel_rfl) rfl) ?_
    refine aL_s true rfl rfl (fun _ => q_load 0 tk3 rfl rfl rfl) (aL_s true rfl rfl (fun _ => q_idxArr (i.op) Tryz.underlying93 tk92 rfl rfl (rfl) (hop)) ?_)
    refine aL_s true rfl rfl (fun _ => q_fieldAddr (off := 1) (by kernel_rfl) rfl) ?_
    refine aL_s true rfl rfl (fun _ => q_loadP (i.op * 4 + 1) tk9 rfl (psAt 2 rfl) (by omega) (rdD_cell (forms_opds hop))) ?_
    refine aL_s true rfl rfl (fun _ => q_move rfl) ?_
    refine aL_s true rfl rfl (fun _ => q_call (by kernel_rfl) rfl (fun w S fp hst => (index_fn _ ch).quiet0 hst)) ?_
    refine aL_s true rfl rfl (fun _ => q_geq rfl rfl) (aL_s true rfl rfl (fun _ => q_assign rfl) (aL_nil (thn_n (awp_seq (awp_region (aL_s true rfl rfl (fun _ => q_move rfl) (aL_s true rfl rfl (fun _ => q_not rfl) ?_)))))))
    refine aL_s true rfl rfl (fun _ => q_move rfl) (aL_s _ rfl rfl (fun hc => q_move rfl) (aL_s _ rfl rfl (fun hc => q_neq (ev_yes rfl hc) rfl) (aL_s true rfl rfl (fun _ => q_and rfl rfl (fun h => gt rfl h)) (aL_s true rfl rfl (fun _ => q_move rfl) (aL_s _ rfl rfl (fun hc => q_move rfl) (aL_s _ rfl rfl (fun hc => q_neq (ev_yes rfl hc) rfl) (aL_s _ rfl rfl (fun hc => q_move (ev_yes rfl hc)) ?_)))))))
    refine aL_s _ rfl rfl (fun hc => q_move rfl) (aL_s _ rfl rfl (fun hc => q_lss (ev_yes rfl hc) rfl) (aL_s _ rfl rfl (fun hc => q_move (ev_yes rfl hc)) (aL_s _ rfl rfl (fun hc => q_move rfl) (aL_s _ rfl rfl (fun hc => q_gtr (ev_yes rfl hc) rfl) (aL_s _ rfl rfl (fun hc => q_or (ev_yes rfl hc) rfl (fun h => gf hc h)) (aL_s _ rfl rfl (fun hc => q_and (ev_yes rfl hc) rfl (fun h => gt hc h)) (aL_s true rfl rfl (fun _ => q_or rfl rfl (fun h => gf rfl h)) ?_)))))))
    refine aL_nil (thn_n ?_)
    refine awp_cond _ rfl (fun h3 => ?_) (fun h3 => ?_)
    ·skip
     have hbad : okOp i ch = false := by
       rw [idx_mem, e73] at h3
       have e : (ofBytes (opds i.op)).data.toList = opds i.op := rfl
       rw [e] at h3
       unfold okOp; rw [h3]; rfl
     refine awp_seq (awp_region (aL_s true rfl rfl (fun _ => q_assign rfl) (aL_nil (thn_n (awp_ret (blk_r (thn_r ?_)))))))
     refine thn_r (blk_r (thn_r ?_))
     refine fin1 [] [] rfl Tryz.results36 rfl ?_ (.inr rfl)
     refine congrArg Value.bool (Eq.symm ?_)
     rw [Bool.eq_false_iff]
     intro hr
     have := (rightB_iff.1 hr).2.2 ch (List.mem_of_getElem? hch)
     rw [this] at hbad; cases hbad
    ·skip
     have hgood : okOp i ch = true := by
       rw [idx_mem, e73] at h3
       have e : (ofBytes (opds i.op)).data.toList = opds i.op := rfl
       rw [e] at h3
       unfold okOp; rw [h3]; rfl
     refine awp_skip (blk_n (thn_n (awp_region ?_)))
     refine aL_s true rfl rfl (fun _ => q_addi rfl rfl (by omega)) ?_
     refine aL_s true rfl rfl (fun _ => q_move rfl) (aL_nil (thn_n ?_))
     refine ⟨[1, 21, 22, 23], [1, 0], [0], rfl, ?_⟩
     refine ⟨k + 1, ⟨⟨by omega, fun j c hj hc => ?_⟩, rfl⟩, by omega⟩
     by_cases hjk : j = k
     · subst hjk; rw [hch] at hc; injection hc with hc; rw [← hc]; exact hgood
     · exact hok j c (by omega) hc
   ·skip
    refine awp_exit (thn_e (thn_e (blk_hit (thn_n (awp_seq (awp_region (aL_s true rfl rfl (fun _ => q_assign rfl) ?_)))))))
    refine aL_nil (thn_n (awp_ret ?_))
    refine fin1 [] [] rfl Tryz.results36 rfl ?_ (.inr rfl)
    refine congrArg Value.bool (Eq.symm ?_)
    have hk4 : k = 4 := by simp at h2; omega
    subst hk4
    refine rightB_iff.2 ⟨⟨hop1, by omega⟩, himm, fun ch hch => ?_⟩
    obtain ⟨j, hj, rfl⟩ := List.getElem_of_mem (show ch ∈ abci from hch)
    exact hok j _ hj (by simp [abci])
theorem toS_in (l : List UInt8) (h : l.length ≤ 4) : -2147483648 ≤ toS (leNat l) 4 ∧ toS (leNat l) 4 ≤ 2147483647 := by
  have h1 := leNat_lt l
  have h2 : 256 ^ l.length ≤ 256 ^ 4 := Nat.pow_le_pow_right (by decide) h
  have h3 : leNat l < 4294967296 := Nat.lt_of_lt_of_le h1 h2
  unfold toS
  split <;> omega
theorem insOf_imm (l : List UInt8) : I64 (insOf l).imm := by
  have := toS_in ((l.drop 4).take 4) (by simp; omega)
  unfold I64 insOf; dsimp only; omega
def ins0 : Ins := ⟨0, 0, 0, 0, 0⟩
theorem decI_no {l : List UInt8} (h : l.length < 8) : decI l = none := by unfold decI; rw [if_pos h]
theorem decI_bad {l : List UInt8} (h : rightB (insOf l) = false) : decI l = none := by unfold decI; split; rfl; rw [if_neg (by rw [h]; decide)]
theorem decI_yes {l : List UInt8} (h1 : ¬ l.length < 8) (h : rightB (insOf l) = true) : decI l = some (insOf l) := by unfold decI; rw [if_neg h1, if_pos h]
theorem decode_fn (s : ByteArray) (hs : s.size ≤ maxLen) : Con Tryz.prog 15 [.string s, .int .i64 0] [formsAt] []
    fun r _ _ => r = .tuple #[.agg (insV ((decI s.data.toList).getD ins0)).toArray, .bool (decI s.data.toList).isSome] := by
  have hm := hs
  unfold maxLen at hm
  have hsz : s.data.toList.length = s.size := by simp
  generalize hl : s.data.toList = l at hsz
  refine Con.enter Tryz.func15 rfl (by simp [Tryz.ntmps15]) ?_
  show awp _ _ _ _ ⟨[(0, true, _), (1, true, _)], _, _⟩
  refine awp_seq (awp_region ?_)
  refine aL_eff (q := true) rfl (e_alloc (zs := [.int .i64 0, .int .i64 0, .int .i64 0, .int .i64 0, .int .i64 0]) (by kernel_rfl) rfl (fun b0_0 => ?_))
  simp only [nM, nN]
  refine aL_s true rfl rfl (fun _ => q_assign rfl) (aL_nil (thn_n (awp_seq (awp_seq (awp_region (aL_s true rfl rfl (fun _ => q_move rfl) (aL_s true rfl rfl (fun _ => q_lss rfl rfl) ?_)))))))
  refine aL_s true rfl rfl (fun _ => q_move rfl) (aL_s _ rfl rfl (fun hc => q_move rfl) (aL_s _ rfl rfl (fun hc => q_move rfl) (aL_s _ rfl rfl (fun hc => q_lenStr Tryz.underlying9 (ev_yes rfl hc)) ?_)))
  refine aL_s _ rfl rfl (fun hc => q_subi (ev_yes rfl hc) rfl (by (first | omega | (simp at hc; omega)))) ?_
  refine aL_s _ rfl rfl (fun hc => q_gtr (ev_yes rfl hc) (ev_yes rfl hc)) (aL_s true rfl rfl (fun _ => q_or rfl rfl (fun h => gf rfl h)) (aL_nil (thn_n ?_)))
  refine awp_cond _ rfl (fun h1 => ?_) (fun h1 => ?_)
  ·skip
   refine awp_seq (awp_region ?_)
   refine aL_s true rfl rfl (fun _ => q_bld (l := []) (zs := [.int .i64 0, .int .i64 0, .int .i64 0, .int .i64 0, .int .i64 0]) (pl := [(0, 1), (1, 1), (2, 1), (3, 1), (4, 1)]) (by kernel_rfl) (by kernel_rfl) (by kernel_rfl) rfl rfl rfl) ?_
   refine aL_eff rfl (e_store 0 tk46 rfl rfl rfl rfl ?_)
   simp only [nK, nL]
   refine aL_s true rfl rfl (fun _ => q_assign rfl) (aL_nil (thn_n (awp_ret (thn_r ?_))))
   refine finR2 [] [] rfl Tryz.results15 (rv_cell 0 tk46 rfl rfl rfl) (rv_tmp rfl) ?_ (.inr rfl)
   rw [decI_no (by simp at h1; omega)]; rfl
  ·skip
   have hlen : ¬ l.length < 8 := by simp at h1; omega
   have hu : ∀ k, k < 8 → s.data.toList[k]? = some (l.getD k 0) := fun k hk => by
     rw [hl, List.getD_eq_getElem?_getD, List.getElem?_eq_getElem (by omega)]; rfl
   have hget : ∀ w, Calls Tryz.prog 35 #[.string s, .int .i64 4, .int .i64 4, .bool true] w fun e w' => e = .returned (.tuple #[.int .i64 (insOf l).imm, .bool true]) ∧ Below w.heap.size w w' := fun w => by
     have := get_any s 4 4 hs (by omega) (by omega) true w
     refine this.mono fun e w' ⟨he, hw⟩ => ⟨?_, hw ▸ Below.refl _ _⟩
     rw [he]; unfold fieldL; rw [hl]; rfl
   refine awp_skip (thn_n (awp_seq (awp_region (aL_s true rfl rfl (fun _ => q_move rfl) (aL_s true rfl rfl (fun _ => q_move rfl) ?_)))))
   refine aL_s true rfl rfl (fun _ => q_addi rfl rfl (by omega)) ?_
   refine aL_s true rfl rfl (fun _ => q_call (by kernel_rfl) rfl (fun w S fp hst => hget w)) ?_
   refine aL_s true rfl rfl (fun _ => q_move rfl) (aL_s true rfl rfl (fun _ => q_extract rfl rfl) (aL_s true rfl rfl (fun _ => q_extract rfl rfl) (aL_s true rfl rfl (fun _ => q_assign rfl) (aL_s true rfl rfl (fun _ => q_assign rfl) (aL_nil (thn_n (awp_seq ?_)))))))
   refine awp_drawn [22] (by kernel_rfl) ?_
   show aB _ _ _ _ _ 23 #[false, false, false, false, false, false, false, false, false, false, false, false, false, false, false, false, false, false, false, false, false, false, false] _
   refine aB_s 0 rfl (by kernel_rfl) true rfl rfl (fun _ => q_move rfl) ?_
   simp only [nO, nK, nL]
   refine aB_s 1 rfl (by kernel_rfl) true rfl rfl (fun _ => q_move rfl) ?_
   simp only [nO, nK, nL]
   refine aB_s 2 rfl (by kernel_rfl) true rfl rfl (fun _ => q_idxStr (0) Tryz.underlying9 rfl rfl (rfl) (hu 0 (by omega))) ?_
   simp only [nO, nK, nL]
   refine aB_s 3 rfl (by kernel_rfl) true rfl rfl (fun _ => q_convU (by kernel_rfl) Tryz.underlying3 rfl) ?_
   simp only [nO, nK, nL]
   refine aB_s 4 rfl (by kernel_rfl) true rfl rfl (fun _ => q_move rfl) ?_
   simp only [nO, nK, nL]
   refine aB_s 5 rfl (by kernel_rfl) true rfl rfl (fun _ => q_move rfl) ?_
   simp only [nO, nK, nL]
   refine aB_s 6 rfl (by kernel_rfl) true rfl rfl (fun _ => q_addi rfl rfl (by omega)) ?_
   simp only [nO, nK, nL]
   refine aB_s 7 rfl (by kernel_rfl) true rfl rfl (fun _ => q_idxStr (1) Tryz.underlying9 rfl rfl (rfl) (hu 1 (by omega))) ?_
   simp only [nO, nK, nL]
   refine aB_s 8 rfl (by kernel_rfl) true rfl rfl (fun _ => q_convU (by kernel_rfl) Tryz.underlying3 rfl) ?_
   simp only [nO, nK, nL]
   refine aB_s 9 rfl (by kernel_rfl) true rfl rfl (fun _ => q_move rfl) ?_
   simp only [nO, nK, nL]
   refine aB_s 10 rfl (by kernel_rfl) true rfl rfl (fun _ => q_move rfl) ?_
   simp only [nO, nK, nL]
   refine aB_s 11 rfl (by kernel_rfl) true rfl rfl (fun _ => q_addi rfl rfl (by omega)) ?_
   simp only [nO, nK, nL]
   refine aB_s 12 rfl (by kernel_rfl) true rfl rfl (fun _ => q_idxStr (2) Tryz.underlying9 rfl rfl (rfl) (hu 2 (by omega))) ?_
   simp only [nO, nK, nL]
   refine aB_s 13 rfl (by kernel_rfl) true rfl rfl (fun _ => q_convU (by kernel_rfl) Tryz.underlying3 rfl) ?_
   simp only [nO, nK, nL]
   refine aB_s 14 rfl (by kernel_rfl) true rfl rfl (fun _ => q_move rfl) ?_
   simp only [nO, nK, nL]
   refine aB_s 15 rfl (by kernel_rfl) true rfl rfl (fun _ => q_move rfl) ?_
   simp only [nO, nK, nL]
   refine aB_s 16 rfl (by kernel_rfl) true rfl rfl (fun _ => q_addi rfl rfl (by omega)) ?_
   simp only [nO, nK, nL]
   refine aB_s 17 rfl (by kernel_rfl) true rfl rfl (fun _ => q_idxStr (3) Tryz.underlying9 rfl rfl (rfl) (hu 3 (by omega))) ?_
   simp only [nO, nK, nL]
   refine aB_s 18 rfl (by kernel_rfl) true rfl rfl (fun _ => q_convU (by kernel_rfl) Tryz.underlying3 rfl) ?_
   simp only [nO, nK, nL]
   refine aB_s 19 rfl (by kernel_rfl) true rfl rfl (fun _ => q_move rfl) ?_
   simp only [nO, nK, nL]
   refine aB_s 20 rfl (by kernel_rfl) true rfl rfl (fun _ => q_bld (l := [(0, .tmp 29), (1, .tmp 34), (2, .tmp 39), (3, .tmp 44), (4, .tmp 45)]) (zs := [.int .i64 0, .int .i64 0, .int .i64 0, .int .i64 0, .int .i64 0]) (pl := [(0, 1), (1, 1), (2, 1), (3, 1), (4, 1)]) (by kernel_rfl) (by kernel_rfl) (by kernel_rfl) rfl rfl rfl) ?_
   simp only [nO, nK, nL]
   refine aB_eff (q := true) 21 rfl (by kernel_rfl) rfl rfl (e_alloc (zs := [.int .i64 0, .int .i64 0, .int .i64 0, .int .i64 0, .int .i64 0]) (by kernel_rfl) rfl (fun b4_21 => ?_))
   simp only [nM, nN]
   simp only [nO, nK, nL]
   refine aB_eff 22 rfl (by kernel_rfl) rfl rfl (e_store 1 tk46 rfl rfl rfl rfl ?_)
   simp only [nO, nK, nL]
   refine aB_nil (by kernel_rfl) ?_
   refine thn_n (awp_seq (awp_seq (awp_region (aL_s true rfl rfl (fun _ => q_move rfl) (aL_s true rfl rfl (fun _ => q_not rfl) (aL_s true rfl rfl (fun _ => q_move rfl) (aL_s _ rfl rfl (fun hc => q_load 1 tk46 rfl rfl rfl) ?_)))))))
   refine aL_s _ rfl rfl (fun hc => q_call (by kernel_rfl) (evs_cons (ev_yes rfl hc) rfl) (fun w S fp hst => (right_fn (insOf l) (insOf_imm l)).quiet1 (psAt 0 rfl) hst)) ?_
   refine aL_s _ rfl rfl (fun hc => q_not (ev_yes rfl hc)) (aL_s true rfl rfl (fun _ => q_or rfl rfl (fun h => gf rfl h)) (aL_nil (thn_n ?_)))
   refine awp_cond _ rfl (fun h2 => ?_) (fun h2 => ?_)
   ·skip
    refine awp_seq (awp_region ?_)
    refine aL_s true rfl rfl (fun _ => q_bld (l := []) (zs := [.int .i64 0, .int .i64 0, .int .i64 0, .int .i64 0, .int .i64 0]) (pl := [(0, 1), (1, 1), (2, 1), (3, 1), (4, 1)]) (by kernel_rfl) (by kernel_rfl) (by kernel_rfl) rfl rfl rfl) ?_
    refine aL_eff rfl (e_store 0 tk46 rfl rfl rfl rfl ?_)
    simp only [nK, nL]
    refine aL_s true rfl rfl (fun _ => q_assign rfl) (aL_nil (thn_n (awp_ret (thn_r ?_))))
    refine finR2 [] [] rfl Tryz.results15 (rv_cell 0 tk46 rfl rfl rfl) (rv_tmp rfl) ?_ (.inr rfl)
    rw [decI_bad (by simpa using h2)]; rfl
   ·skip
    refine awp_skip (thn_n (awp_seq (awp_region (aL_s true rfl rfl (fun _ => q_load 1 tk46 rfl rfl rfl) ?_))))
    refine aL_eff rfl (e_store 0 tk46 rfl rfl rfl rfl ?_)
    simp only [nK, nL]
    refine aL_s true rfl rfl (fun _ => q_assign rfl) (aL_nil (thn_n (awp_ret ?_)))
    refine finR2 [] [] rfl Tryz.results15 (rv_cell 0 tk46 rfl rfl rfl) (rv_tmp rfl) ?_ (.inr rfl)
    rw [decI_yes hlen (by simpa using h2)]; rfl
end Go.Proofs.YtpgcoceggacplaaGreatDoor
namespace Go.Lp
open Go.RowKit Go.Proofs.YtpgcoceggacplaaGreatDoor
def fetchM (M : Mem) (at_ : Int) : Option Ins × Int :=
  if (areaM M at_).2 = false ∨ (areaM M at_).1.kind ≠ 0 ∨ (readM M at_ 8).2 ≠ 0 ∨ at_ % 8 ≠ 0 then (none, 6)
  else match decI (readM M at_ 8).1 with
    | none => (none, 2)
    | some i => (some i, 0)
def run0 (p : Nat) (i : Ins) (c : Cpu) : Run := ⟨p, i, c, ⟨c.r, w64 (c.pc + 8)⟩, 0, 0, false⟩
/-- where a step leads: the processor, the event, the memory -/
def stepM (M : Mem) (c : Cpu) : Cpu × (Int × Int) × Mem :=
  if c.pc = 0 then (c, (4, 0), M) else match fetchM M c.pc with
  | (none, e) => (c, (5, e), M)
  | (some i, _) => if ((run0 0 i c).exec M i.op).1.bad then (c, (5, 6), ((run0 0 i c).exec M i.op).2)
    else (((run0 0 i c).exec M i.op).1.nx, (((run0 0 i c).exec M i.op).1.ek, ((run0 0 i c).exec M i.op).1.en), ((run0 0 i c).exec M i.op).2)
theorem slot_p (R : Run) (M : Mem) (call : Bool) (q : Nat) : Run.slot { R with p := q } M call = ({ (R.slot M call).1 with p := q }, (R.slot M call).2) := by
  unfold Run.slot
  dsimp only
  have e : ∀ a s, (Run.ld { R with p := q } M a s) = { (R.ld M a s) with p := q } := fun _ _ => rfl
  rw [e]
  dsimp only
  split
  · rfl
  · split
    · rfl
    · split <;> rfl
theorem jump_p (R : Run) (ok : Bool) (q : Nat) : Run.jump { R with p := q } ok = { R.jump ok with p := q } := by cases ok <;> rfl
theorem exec_p (R : Run) (M : Mem) (q : Nat) : ∀ k, Run.exec { R with p := q } M k = ({ (R.exec M k).1 with p := q }, (R.exec M k).2)
  | 0 | 1 | 2 | 3 | 4 | 5 | 6 | 7 | 8 | 9 | 10 | 11 | 12 | 13 | 14 | 15 | 16 | 17 | 18 => rfl
  | 19 => by show (Run.jump { R with p := q } true, M) = _; rw [jump_p]; rfl
  | 20 => by show (Run.jump { R with p := q } (decide (R.a = 0)), M) = _; rw [jump_p]; rfl
  | 21 => by show (Run.jump { R with p := q } (!decide (R.a = 0)), M) = _; rw [jump_p]; rfl
  | 22 => rfl
  | 23 | 26 | 27 | 28 | 29 | 30 => rfl
  | 24 => slot_p R M true q
  | 25 => slot_p R M false q
  | _ + 31 => rfl
theorem readM_len (M : Mem) (at_ n : Int) : (readM M at_ n).1.length ≤ n.toNat := by
  unfold readM
  split
  · simp
  · split
    · simp
    · split
      · unfold rng; simp; omega
      · simp
theorem fetch_some {M : Mem} {at_ : Int} {i : Ins} {e : Int} (h : fetchM M at_ = (some i, e)) : e = 0 ∧ rightB i = true ∧ decI (readM M at_ 8).1 = some i ∧ (areaM M at_).2 = true ∧ (areaM M at_).1.kind = 0 ∧ (readM M at_ 8).2 = 0 ∧ at_ % 8 = 0 := by
  unfold fetchM at h
  split at h
  · cases h
  · rename_i hc
    split at h
    · cases h
    · rename_i j hj
      simp only [Prod.mk.injEq, Option.some.injEq] at h
      obtain ⟨rfl, rfl⟩ := h
      refine ⟨rfl, ?_, hj, ?_, ?_, ?_, ?_⟩
      · unfold decI at hj
        split at hj
        · cases hj
        · split at hj
          · rename_i hr; simp only [Option.some.injEq] at hj; rw [← hj]; exact hr
          · cases hj
      · cases h : (areaM M at_).2 with
        | true => rfl
        | false => exact absurd (.inl h) hc
      · exact Decidable.byContradiction fun h => hc (.inr (.inl h))
      · exact Decidable.byContradiction fun h => hc (.inr (.inr (.inl h)))
      · exact Decidable.byContradiction fun h => hc (.inr (.inr (.inr h)))
theorem fetch_none {M : Mem} {at_ e : Int} (h : fetchM M at_ = (none, e)) : e = 6 ∨ e = 2 := by
  unfold fetchM at h
  split at h
  · simp only [Prod.mk.injEq, true_and] at h; exact .inl h.symm
  · split at h
    · simp only [Prod.mk.injEq, true_and] at h; exact .inr h.symm
    · cases h
end Go.Lp
namespace Go.Lp
open Go.RowKit Go.Proofs.YtpgcoceggacplaaGreatDoor
structure InsZ where
  op : Int
  a : Int
  b : Int
  c : Int
  imm : Int
def insZ (i : InsZ) : List Value := [.int .i64 i.op, .int .i64 i.a, .int .i64 i.b, .int .i64 i.c, .int .i64 i.imm]
def Ins.z (i : Ins) : InsZ := ⟨i.op, i.a, i.b, i.c, i.imm⟩
theorem insV_z (i : Ins) : insV i = insZ i.z := rfl
def ops9 (op : Int) : List Int :=
  if op = 3 ∨ op = 4 ∨ op = 14 ∨ op = 20 ∨ op = 21 then [1, 4] else if op = 5 ∨ op = 29 then [1, 2]
  else if op = 6 ∨ op = 7 ∨ op = 8 ∨ op = 9 ∨ op = 10 ∨ op = 11 ∨ op = 12 then [1, 2, 3]
  else if op = 13 ∨ op = 15 ∨ op = 16 ∨ op = 17 ∨ op = 18 then [1, 2, 4]
  else if op = 19 ∨ op = 22 ∨ op = 24 ∨ op = 25 ∨ op = 30 then [4]
  else if op = 23 ∨ op = 27 ∨ op = 28 then [1] else []
theorem ops9_1 {op : Int} (h : op = 3 ∨ op = 4 ∨ op = 14 ∨ op = 20 ∨ op = 21) : ops9 op = [1, 4] := by unfold ops9; rw [if_pos h]
theorem ops9_2 {op : Int} (h : op = 5 ∨ op = 29) : ops9 op = [1, 2] := by unfold ops9; rw [if_neg (by omega), if_pos h]
theorem ops9_3 {op : Int} (h : op = 6 ∨ op = 7 ∨ op = 8 ∨ op = 9 ∨ op = 10 ∨ op = 11 ∨ op = 12) : ops9 op = [1, 2, 3] := by unfold ops9; rw [if_neg (by omega), if_neg (by omega), if_pos h]
theorem ops9_4 {op : Int} (h : op = 13 ∨ op = 15 ∨ op = 16 ∨ op = 17 ∨ op = 18) : ops9 op = [1, 2, 4] := by unfold ops9; rw [if_neg (by omega), if_neg (by omega), if_neg (by omega), if_pos h]
theorem ops9_5 {op : Int} (h : op = 19 ∨ op = 22 ∨ op = 24 ∨ op = 25 ∨ op = 30) : ops9 op = [4] := by unfold ops9; rw [if_neg (by omega), if_neg (by omega), if_neg (by omega), if_neg (by omega), if_pos h]
theorem ops9_6 {op : Int} (h : op = 23 ∨ op = 27 ∨ op = 28) : ops9 op = [1] := by unfold ops9; rw [if_neg (by omega), if_neg (by omega), if_neg (by omega), if_neg (by omega), if_neg (by omega), if_pos h]
theorem ops9_7 {op : Int} (h1 : ¬ (op = 3 ∨ op = 4 ∨ op = 14 ∨ op = 20 ∨ op = 21)) (h2 : ¬ (op = 5 ∨ op = 29)) (h3 : ¬ (op = 6 ∨ op = 7 ∨ op = 8 ∨ op = 9 ∨ op = 10 ∨ op = 11 ∨ op = 12)) (h4 : ¬ (op = 13 ∨ op = 15 ∨ op = 16 ∨ op = 17 ∨ op = 18)) (h5 : ¬ (op = 19 ∨ op = 22 ∨ op = 24 ∨ op = 25 ∨ op = 30)) (h6 : ¬ (op = 23 ∨ op = 27 ∨ op = 28)) : ops9 op = [] := by
  unfold ops9; rw [if_neg h1, if_neg h2, if_neg h3, if_neg h4, if_neg h5, if_neg h6]
def get9 (i : InsZ) (k : Int) : Int := if k = 1 then i.a else if k = 2 then i.b else if k = 3 then i.c else i.imm
def bad9 (i : InsZ) (k : Int) : Bool := (!(ops9 i.op).contains k && !decide (get9 i k = 0)) || (decide (k < 4) && (decide (get9 i k < 0) || decide (15 < get9 i k)))
def imm9 (op n : Int) : Bool :=
  if op = 19 ∨ op = 20 ∨ op = 21 ∨ op = 24 ∨ op = 25 then decide (n % 8 = 0) && fitsB n
  else if op = 22 then decide (n % 8 = 0) && (decide (-512 ≤ n) && decide (n ≤ 504))
  else if op = 30 then decide (0 ≤ n) && decide (n ≤ 7) else fitsB n
def right9 (i : InsZ) : Bool := (decide (1 ≤ i.op) && decide (i.op ≤ 30)) && ((!bad9 i 1 && !bad9 i 2 && !bad9 i 3 && !bad9 i 4) && imm9 i.op i.imm)
def byteI (n : Int) : UInt8 := UInt8.ofNat (n % 256).toNat
theorem byteI_nat (n : Int) : ((byteI n).toNat : Int) = n % 256 := by
  unfold byteI
  have h1 := Int.emod_nonneg n (show (256 : Int) ≠ 0 by decide)
  have h2 := Int.emod_lt_of_pos n (show (0 : Int) < 256 by decide)
  rw [UInt8.toNat_ofNat']
  omega
def n9 (n : Int) : Int := if n < 0 then w64 (n + 4294967296) else n
def enc9 (i : InsZ) : List UInt8 := [byteI i.op, byteI i.a, byteI i.b, byteI i.c, byteI ((n9 i.imm).tmod 256), byteI ((w64 ((n9 i.imm).tdiv 256)).tmod 256), byteI ((w64 ((n9 i.imm).tdiv 65536)).tmod 256), byteI (w64 ((n9 i.imm).tdiv 16777216))]
def encB (i : InsZ) : List UInt8 := if right9 i then enc9 i else []
end Go.Lp
namespace Go.Lp
open Go.RowKit Go.Proofs.YtpgcoceggacplaaGreatDoor
/-- a setting -/
structure Stg where
  code : ByteArray
  data : ByteArray
  stack : Int
  regs : List Int
  pc : Int
def stgV (x : Stg) (ad : Option Addr) (c : Nat) : List Value := [.string x.code, .string x.data, .int .i64 x.stack, .slice ad x.regs.length c, .int .i64 x.pc]
def fewS (x : Stg) : Bool := ((decide (x.code.size ≤ 400) && decide (x.data.size ≤ 400)) && decide (x.stack ≤ 200)) && decide (x.regs.length ≤ 16)
def cpuK (x : Stg) (k : Nat) : Cpu := ⟨fun j => if j < k then x.regs.getD j 0 else 0, x.pc⟩
def cpuS (x : Stg) : Cpu := cpuK x (min x.regs.length 16)
def memS (x : Stg) : Mem :=
  (writeM (writeM (mapM (mapM (mapM [] ⟨512, x.code.size, 0, 0, 0⟩).1 ⟨1024, x.data.size, 1, 0, 0⟩).1 ⟨2048, x.stack, 2, 0, 0⟩).1 512 x.code.data.toList).1 1024 x.data.data.toList).1
def bytesM (M : Mem) (x : Stg) : List UInt8 := ((readM M 512 x.code.size).1 ++ (readM M 1024 x.data.size).1) ++ (readM M 2048 x.stack).1
theorem filt_len (p : Cell → Bool) (l : Mem) : (l.filter p).length + (l.filter (fun x => !p x)).length = l.length := by
  induction l with
  | nil => rfl
  | cons a l ih =>
    simp only [List.filter_cons]
    cases p a <;> simp <;> omega
theorem mapM_len (M : Mem) (a : Ar) : (mapM M a).1.length ≤ M.length + 1 := by
  unfold mapM
  split
  · simp
  · split
    · simp
    · split
      · simp
      · have h1 : (M.filter (fun x => decide (x.1.at_ < a.at_))).length + (M.filter (fun x => !decide (x.1.at_ < a.at_))).length = M.length := filt_len _ M
        simp only [List.length_append, List.length_cons, List.length_nil]; omega
/-- the bytes of instructions -/
def codeB (l : List InsZ) : List UInt8 := l.flatMap encB
theorem encB_len (i : InsZ) : (encB i).length ≤ 8 := by unfold encB; split <;> simp [enc9]
theorem codeB_len (l : List InsZ) : (codeB l).length ≤ 8 * l.length := by
  unfold codeB
  induction l with
  | nil => simp
  | cons i l ih => have := encB_len i; simp only [List.flatMap_cons, List.length_append, List.length_cons]; omega
end Go.Lp
namespace Go.Proofs.YtpgcoceggacplaaGreatDoor
open Go.RowKit Go.Lp
/-- an address, some bytes on -/
def addW (a : Int) (i : Int) : Int := IntKind.i64.wrap (a + i)
theorem addW_in (a i : Int) : -9223372036854775808 ≤ addW a i ∧ addW a i ≤ 9223372036854775807 := by unfold addW; rw [IntKind.wrap_i64]; omega
/-- the good of the law after j rounds -/
def bGood (M : Mem) (a : Int) : Nat → Bool
  | 0 => decide (a.tmod 8 = 0)
  | j + 1 => bGood M a j && (areaM M (addW a (7 - j))).2
def bSum (M : Mem) (a : Int) : Nat → Int
  | 0 => 0
  | j + 1 => IntKind.i64.wrap (BitVec.ofInt 64 (IntKind.i64.wrap (bSum M a j * 2 ^ 8)) ||| BitVec.ofInt 64 (loadM M (addW a (7 - j)) 1).1).toNat
def bAll (M : Mem) (a : Int) : Bool := bGood M a 8 && decide ((areaM M a).1 = (areaM M (addW a 7)).1)
theorem mfind_holds {M : Mem} {a s : Int} {x : Cell} (h : mfind M a s = some x) : x ∈ M ∧ x.1.at_ ≤ a ∧ a < x.1.at_ + x.1.size ∧ a + s ≤ x.1.at_ + x.1.size := by
  have h1 := List.mem_of_find?_eq_some h
  have h2 := List.find?_some h
  simp only [holds, Bool.and_eq_true, decide_eq_true_eq] at h2
  exact ⟨h1, h2.1.1, h2.1.2, by omega⟩
theorem inv_meet {M : Mem} (h : MInv M) {x y : Cell} (hx : x ∈ M) (hy : y ∈ M) {a : Int} (h1 : x.1.at_ ≤ a ∧ a < x.1.at_ + x.1.size) (h2 : y.1.at_ ≤ a ∧ a < y.1.at_ + y.1.size) : x = y := by
  obtain ⟨i, hi, rfl⟩ := List.getElem_of_mem hx
  obtain ⟨j, hj, rfl⟩ := List.getElem_of_mem hy
  rcases Nat.lt_trichotomy i j with hlt | rfl | hlt
  · have := List.pairwise_iff_getElem.1 h.asc i j hi hj hlt
    omega
  · rfl
  · have := List.pairwise_iff_getElem.1 h.asc j i hj hi hlt
    omega
theorem mfind_of {M : Mem} (h : MInv M) {a s : Int} {x : Cell} (hx : x ∈ M) (h1 : x.1.at_ ≤ a) (h2 : a < x.1.at_ + x.1.size) (h3 : a + s ≤ x.1.at_ + x.1.size) : mfind M a s = some x := by
  cases hm : mfind M a s with
  | some y =>
    obtain ⟨hy, h4, h5, _⟩ := mfind_holds hm
    rw [inv_meet h hx hy ⟨h1, h2⟩ ⟨h4, h5⟩]
  | none =>
    have := List.find?_eq_none.1 hm x hx
    simp only [holds, Bool.and_eq_true, decide_eq_true_eq] at this
    exact absurd ⟨⟨h1, h2⟩, by omega⟩ this
theorem inv_span {M : Mem} (h : MInv M) {x : Cell} (hx : x ∈ M) : 256 ≤ x.1.at_ ∧ 1 ≤ x.1.size ∧ x.1.at_ + x.1.size ≤ 1099511627776 := by
  have := rightA_iff.1 (h.right x hx); omega
theorem area_found (M : Mem) (a : Int) : (areaM M a).2 = (mfind M a 1).isSome := by unfold areaM; cases mfind M a 1 <;> rfl
theorem load_err (M : Mem) (a : Int) (h : (loadM M a 8).2 ≠ 0) : (loadM M a 8).1 = 0 := by
  unfold loadM at h ⊢
  split at h <;> rename_i h1
  · rw [if_pos h1]
  · rw [if_neg h1]; split at h
    · exact absurd rfl h
    · rfl
theorem load1 (M : Mem) (a : Int) : loadM M a 1 = match mfind M a 1 with
    | some x => (toI64 (leNat (rng x a 1)), 0)
    | none => (0, 6) := by
  unfold loadM accM
  cases h : mfind M a 1 <;> simp [getI]
theorem load8 (M : Mem) (a : Int) : loadM M a 8 = if a % 8 ≠ 0 then ((0, 6) : Int × Int) else match mfind M a 8 with
    | some x => ((toS (leNat (rng x a 8)) 8, 0) : Int × Int)
    | none => (0, 6) := by
  unfold loadM accM
  by_cases ha : a % 8 = 0
  · cases h : mfind M a 8 <;> simp [getI, ha]
  · simp [ha]
theorem rng_len {x : Cell} {a s : Int} (hl : (x.2.length : Int) = x.1.size) (h1 : x.1.at_ ≤ a) (h3 : a + s ≤ x.1.at_ + x.1.size) : (rng x a s).length = s.toNat := by
  unfold rng; rw [List.length_take, List.length_drop]; omega
theorem byte_small {l : List UInt8} (h : l.length ≤ 1) : 0 ≤ toI64 (leNat l) ∧ toI64 (leNat l) ≤ 255 := by
  have h1 := leNat_lt l
  have : leNat l < 256 := Nat.lt_of_lt_of_le h1 (by have : l.length = 0 ∨ l.length = 1 := by omega
                                                    rcases this with h | h <;> rw [h] <;> decide)
  unfold toI64; split <;> omega
theorem law_b1 (M : Mem) (a : Int) : (!((areaM M a).2 == decide ((loadM M a 1).2 = 0)) || decide ((loadM M a 1).1 < 0) || decide (255 < (loadM M a 1).1)) = false := by
  rw [area_found, load1]
  cases h : mfind M a 1 with
  | none => simp
  | some x =>
    have := byte_small (l := rng x a 1) (by unfold rng; rw [List.length_take]; exact Nat.min_le_left _ _)
    simp; omega
theorem addW_eq {a i : Int} (h : -9223372036854775808 ≤ a + i ∧ a + i ≤ 9223372036854775807) : addW a i = a + i := by unfold addW; rw [IntKind.wrap_i64]; omega
theorem bGood_iff (M : Mem) (a : Int) : ∀ j, bGood M a j = true ↔ a % 8 = 0 ∧ ∀ k : Nat, k < j → (mfind M (addW a (7 - k)) 1).isSome = true
  | 0 => by
    unfold bGood
    rw [decide_eq_true_eq]
    have : a.tmod 8 = 0 ↔ a % 8 = 0 := by rw [← Int.dvd_iff_tmod_eq_zero, ← Int.dvd_iff_emod_eq_zero]
    rw [this]; simp
  | j + 1 => by
    unfold bGood
    rw [Bool.and_eq_true, bGood_iff M a j, area_found]
    constructor
    · rintro ⟨⟨h1, h2⟩, h3⟩
      refine ⟨h1, fun k hk => ?_⟩
      by_cases e : k = j
      · rw [e]; exact h3
      · exact h2 k (by omega)
    · rintro ⟨h1, h2⟩
      exact ⟨⟨h1, fun k hk => h2 k (by omega)⟩, h2 j (by omega)⟩
/-- where the law's good is yes -/
theorem bAll_found {M : Mem} (h : MInv M) {a : Int} (ha : I64 a) (hb : bAll M a = true) : a % 8 = 0 ∧ ∃ x, mfind M a 8 = some x := by
  unfold bAll at hb
  rw [Bool.and_eq_true, decide_eq_true_eq, bGood_iff] at hb
  obtain ⟨⟨h1, h2⟩, h3⟩ := hb
  unfold I64 at ha
  have e7 := h2 0 (by omega)
  have e0 := h2 7 (by omega)
  rw [addW_eq (by omega)] at e7 e0
  rw [addW_eq (by omega)] at h3
  rw [show a + (7 - ((0 : Nat) : Int)) = a + 7 by omega] at e7
  rw [show a + (7 - ((7 : Nat) : Int)) = a by omega] at e0
  obtain ⟨x, hx⟩ := Option.isSome_iff_exists.1 e0
  obtain ⟨y, hy⟩ := Option.isSome_iff_exists.1 e7
  unfold areaM at h3
  rw [hx, hy] at h3
  have h3 : x.1 = y.1 := h3
  obtain ⟨hx1, hx2, hx3, hx4⟩ := mfind_holds hx
  obtain ⟨hy1, hy2, hy3, hy4⟩ := mfind_holds hy
  rw [← h3] at hy2 hy3 hy4
  exact ⟨h1, x, mfind_of h hx1 hx2 hx3 (by omega)⟩
theorem law_b2 (M : Mem) (h : MInv M) (a : Int) (ha : I64 a) : bAll M a = decide ((loadM M a 8).2 = 0) := by
  rw [Bool.eq_iff_iff, decide_eq_true_eq, load8]
  constructor
  · intro hb
    obtain ⟨h1, x, hx⟩ := bAll_found h ha hb
    rw [if_neg (by omega), hx]
  · intro hl
    by_cases h1 : a % 8 = 0
    · rw [if_neg (by omega)] at hl
      cases hm : mfind M a 8 with
      | none => rw [hm] at hl; cases hl
      | some x =>
        obtain ⟨hx1, hx2, hx3, hx4⟩ := mfind_holds hm
        have hs := inv_span h hx1
        have fnd : ∀ k : Int, 0 ≤ k → k ≤ 7 → mfind M (addW a k) 1 = some x := fun k hk0 hk => by
          rw [addW_eq (by omega)]
          exact mfind_of h hx1 (by omega) (by omega) (by omega)
        unfold bAll
        rw [Bool.and_eq_true, decide_eq_true_eq, bGood_iff]
        refine ⟨⟨h1, fun k hk => by rw [fnd _ (by omega) (by omega)]; rfl⟩, ?_⟩
        unfold areaM
        rw [fnd 7 (by omega) (by omega), mfind_of h hx1 hx2 hx3 (by omega)]
    · rw [if_pos h1] at hl; cases hl
theorem sum_step (N b : Nat) (hN : N < 72057594037927936) (hb : b < 256) :
    IntKind.i64.wrap (BitVec.ofInt 64 (IntKind.i64.wrap ((N : Int) * 2 ^ 8)) ||| BitVec.ofInt 64 (b : Int)).toNat = IntKind.i64.wrap ((N * 256 + b : Nat) : Int) := by
  congr 1
  have e1 : (BitVec.ofInt 64 (IntKind.i64.wrap ((N : Int) * 2 ^ 8))).toNat = 2 ^ 8 * N := by
    rw [BitVec.toNat_ofInt, IntKind.wrap_i64]; omega
  have e2 : (BitVec.ofInt 64 (b : Int)).toNat = b := by
    rw [BitVec.toNat_ofInt]; omega
  rw [BitVec.toNat_or, e1, e2, ← Nat.two_pow_add_eq_or_of_lt hb]
  omega
theorem horner (n0 n1 n2 n3 n4 n5 n6 n7 : Nat) : (n0 + 256 * (n1 + 256 * (n2 + 256 * (n3 + 256 * (n4 + 256 * (n5 + 256 * (n6 + 256 * (n7 + 256 * 0)))))))) = ((((((((0 * 256 + n7) * 256 + n6) * 256 + n5) * 256 + n4) * 256 + n3) * 256 + n2) * 256 + n1) * 256 + n0) := by omega
theorem horner_lt (n0 n1 n2 n3 n4 n5 n6 n7 : Nat) (l0 : n0 < 256) (l1 : n1 < 256) (l2 : n2 < 256) (l3 : n3 < 256) (l4 : n4 < 256) (l5 : n5 < 256) (l6 : n6 < 256) (l7 : n7 < 256) : ((((((((0 * 256 + n7) * 256 + n6) * 256 + n5) * 256 + n4) * 256 + n3) * 256 + n2) * 256 + n1) * 256 + n0) < 18446744073709551616 := by omega
theorem law_b3 (M : Mem) (h : MInv M) (a : Int) (ha : I64 a) (hb : bAll M a = true) : (loadM M a 8).1 = bSum M a 8 := by
  obtain ⟨h1, x, hx⟩ := bAll_found h ha hb
  obtain ⟨hx1, hx2, hx3, hx4⟩ := mfind_holds hx
  have hs := inv_span h hx1
  have hl := h.len x hx1
  obtain ⟨n, hn⟩ : ∃ n : Nat, a - x.1.at_ = n := ⟨(a - x.1.at_).toNat, by omega⟩
  have hL : 8 ≤ (x.2.drop n).length := by rw [List.length_drop]; omega
  obtain ⟨b0, b1, b2, b3, b4, b5, b6, b7, r, hr⟩ : ∃ b0 b1 b2 b3 b4 b5 b6 b7 r, x.2.drop n = b0 :: b1 :: b2 :: b3 :: b4 :: b5 :: b6 :: b7 :: r := by
    match x.2.drop n, hL with
    | b0 :: b1 :: b2 :: b3 :: b4 :: b5 :: b6 :: b7 :: r, _ => exact ⟨_, _, _, _, _, _, _, _, _, rfl⟩
  have byte : ∀ (k : Nat), k ≤ 7 → (loadM M (addW a k) 1).1 = toI64 (leNat (((x.2.drop n).drop k).take 1)) := fun k hk => by
    rw [addW_eq (by unfold I64 at ha; omega), load1, mfind_of h hx1 (by omega) (by omega) (by omega)]
    show toI64 (leNat (rng x (a + k) 1)) = _
    unfold rng
    rw [List.drop_drop, show (a + (k : Int) - x.1.at_).toNat = n + k by omega]; rfl
  rw [hr] at byte
  have one : ∀ (b : UInt8), toI64 (leNat [b]) = ((b.toNat : Nat) : Int) := fun b => by
    have := b.toNat_lt
    show toI64 (b.toNat + 256 * 0) = _
    unfold toI64; split <;> omega
  have c0 : (loadM M (addW a 0) 1).1 = ((b0.toNat : Nat) : Int) := (byte 0 (by omega)).trans (one b0)
  have c1 : (loadM M (addW a 1) 1).1 = ((b1.toNat : Nat) : Int) := (byte 1 (by omega)).trans (one b1)
  have c2 : (loadM M (addW a 2) 1).1 = ((b2.toNat : Nat) : Int) := (byte 2 (by omega)).trans (one b2)
  have c3 : (loadM M (addW a 3) 1).1 = ((b3.toNat : Nat) : Int) := (byte 3 (by omega)).trans (one b3)
  have c4 : (loadM M (addW a 4) 1).1 = ((b4.toNat : Nat) : Int) := (byte 4 (by omega)).trans (one b4)
  have c5 : (loadM M (addW a 5) 1).1 = ((b5.toNat : Nat) : Int) := (byte 5 (by omega)).trans (one b5)
  have c6 : (loadM M (addW a 6) 1).1 = ((b6.toNat : Nat) : Int) := (byte 6 (by omega)).trans (one b6)
  have c7 : (loadM M (addW a 7) 1).1 = ((b7.toNat : Nat) : Int) := (byte 7 (by omega)).trans (one b7)
  have l0 := b0.toNat_lt
  have l1 := b1.toNat_lt
  have l2 := b2.toNat_lt
  have l3 := b3.toNat_lt
  have l4 := b4.toNat_lt
  have l5 := b5.toNat_lt
  have l6 := b6.toNat_lt
  have l7 := b7.toNat_lt
  have st : ∀ (j N b : Nat), bSum M a j = (N : Int) → (loadM M (addW a (7 - j)) 1).1 = (b : Int) → N < 72057594037927936 → b < 256 → bSum M a (j + 1) = IntKind.i64.wrap ((N * 256 + b : Nat) : Int) := fun j N b e1 e2 e3 e4 => by
    unfold bSum; rw [e1, e2]; exact sum_step N b e3 e4
  have wr : ∀ (N : Nat), N < 72057594037927936 → IntKind.i64.wrap (N : Int) = (N : Int) := fun N hN => by rw [IntKind.wrap_i64]; omega
  have s1 : bSum M a 1 = _ := (st 0 0 _ rfl c7 (by omega) (by omega)).trans (wr _ (by omega))
  have s2 : bSum M a 2 = _ := (st 1 _ _ s1 c6 (by omega) (by omega)).trans (wr _ (by omega))
  have s3 : bSum M a 3 = _ := (st 2 _ _ s2 c5 (by omega) (by omega)).trans (wr _ (by omega))
  have s4 : bSum M a 4 = _ := (st 3 _ _ s3 c4 (by omega) (by omega)).trans (wr _ (by omega))
  have s5 : bSum M a 5 = _ := (st 4 _ _ s4 c3 (by omega) (by omega)).trans (wr _ (by omega))
  have s6 : bSum M a 6 = _ := (st 5 _ _ s5 c2 (by omega) (by omega)).trans (wr _ (by omega))
  have s7 : bSum M a 7 = _ := (st 6 _ _ s6 c1 (by omega) (by omega)).trans (wr _ (by omega))
  have s8 := st 7 _ _ s7 c0 (by omega) (by omega)
  rw [show bSum M a (7 + 1) = bSum M a 8 from rfl] at s8
  rw [s8, load8, if_neg (by omega), hx]
  show toS (leNat (rng x a 8)) 8 = _
  unfold rng
  rw [hn, show ((n : Int)).toNat = n from rfl, hr]
  show toS (b0.toNat + 256 * (b1.toNat + 256 * (b2.toNat + 256 * (b3.toNat + 256 * (b4.toNat + 256 * (b5.toNat + 256 * (b6.toNat + 256 * (b7.toNat + 256 * 0)))))))) 8 = _
  have e := horner b0.toNat b1.toNat b2.toNat b3.toNat b4.toNat b5.toNat b6.toNat b7.toNat
  have e' := horner_lt b0.toNat b1.toNat b2.toNat b3.toNat b4.toNat b5.toNat b6.toNat b7.toNat l0 l1 l2 l3 l4 l5 l6 l7
  rw [e]
  generalize ((((((((0 * 256 + b7.toNat) * 256 + b6.toNat) * 256 + b5.toNat) * 256 + b4.toNat) * 256 + b3.toNat) * 256 + b2.toNat) * 256 + b1.toNat) * 256 + b0.toNat) = Z at e' ⊢
  rw [IntKind.wrap_i64]
  show (if 2 * Z < 18446744073709551616 then (Z : Int) else (Z : Int) - 18446744073709551616) = _
  split <;> omega
end Go.Proofs.YtpgcoceggacplaaGreatDoor
namespace Go.Proofs.YtpgcoceggacplaaGreatDoor
open Go.RowKit Go.Lp Go.Sy
theorem splice_get {l b : List UInt8} {o : Nat} (h : o + b.length ≤ l.length) (i : Nat) : (splice l o b)[i]? = if i < o then l[i]? else if i < o + b.length then b[i - o]? else l[i]? := by
  unfold splice
  have e : (l.take o).length = o := by rw [List.length_take]; omega
  by_cases h1 : i < o
  · rw [if_pos h1, List.getElem?_append_left (by omega), List.getElem?_take, if_pos h1]
  · rw [if_neg h1, List.getElem?_append_right (by omega), e]
    by_cases h2 : i < o + b.length
    · rw [if_pos h2, List.getElem?_append_left (by omega)]
    · rw [if_neg h2, List.getElem?_append_right (by omega), List.getElem?_drop]
      congr 1; omega
theorem mfind_upd {M : Mem} {t : Int} {bs : List UInt8} (a s : Int) : mfind (updM M t bs) a s = (mfind M a s).map fun x => if x.1.at_ = t then (x.1, bs) else x := by
  unfold mfind updM
  rw [List.find?_map]
  congr 2
  funext x
  simp only [Function.comp]
  split <;> rfl
theorem rng_get (x : Cell) (q s : Int) (i : Nat) : (rng x q s)[i]? = if i < s.toNat then x.2[(q - x.1.at_).toNat + i]? else none := by
  unfold rng
  rw [List.getElem?_take]
  split
  · rw [List.getElem?_drop]
  · rfl
theorem rng_same {x : Cell} (hl : (x.2.length : Int) = x.1.size) {a q s : Int} {b : List UInt8} (h1 : x.1.at_ ≤ a) (h2 : a + b.length ≤ x.1.at_ + x.1.size) (h3 : x.1.at_ ≤ q) (hap : q + s ≤ a ∨ a + b.length ≤ q) :
    rng (x.1, splice x.2 (a - x.1.at_).toNat b) q s = rng x q s := by
  apply List.ext_getElem?
  intro i
  rw [rng_get, rng_get]
  split
  · dsimp only
    rw [splice_get (by omega)]
    split
    · rfl
    · rw [if_neg (by omega)]
  · rfl
theorem rng_back {x : Cell} (hl : (x.2.length : Int) = x.1.size) {a : Int} {b : List UInt8} (h1 : x.1.at_ ≤ a) (h2 : a + b.length ≤ x.1.at_ + x.1.size) :
    rng (x.1, splice x.2 (a - x.1.at_).toNat b) a b.length = b := by
  apply List.ext_getElem?
  intro i
  rw [rng_get]
  dsimp only
  split
  · rw [splice_get (by omega), if_neg (by omega), if_pos (by omega)]
    congr 1; omega
  · rw [List.getElem?_eq_none (by omega)]
/-- a memory, and what it is behind a write of bytes at a place -/
def Wrote (M M' : Mem) (a : Int) (b : List UInt8) : Prop := ∃ x ∈ M, x.1.at_ ≤ a ∧ a < x.1.at_ + x.1.size ∧ a + b.length ≤ x.1.at_ + x.1.size ∧ M' = updM M x.1.at_ (splice x.2 (a - x.1.at_).toNat b)
theorem wrote_err {M M' : Mem} {a : Int} {b : List UInt8} (h : Wrote M M' a b) (q s : Int) : (readM M q s).2 = (readM M' q s).2 := by
  obtain ⟨x, _, _, _, _, rfl⟩ := h
  unfold readM
  split
  · rfl
  · split
    · rfl
    · rw [mfind_upd]; cases mfind M q s <;> rfl
theorem wrote_apart {M M' : Mem} (hI : MInv M) {a : Int} {b : List UInt8} (h : Wrote M M' a b) {q s : Int} (hap : s ≤ 0 ∨ q + s ≤ a ∨ a + b.length ≤ q) : (readM M q s).1 = (readM M' q s).1 := by
  obtain ⟨x, hx, h1, _, h2, rfl⟩ := h
  unfold readM
  split
  · rfl
  · split
    · rfl
    · rw [mfind_upd]
      cases hm : mfind M q s with
      | none => rfl
      | some y =>
        obtain ⟨hy, h3, h4, h5⟩ := mfind_holds hm
        show rng y q s = rng (if y.1.at_ = x.1.at_ then (y.1, _) else y) q s
        split
        · rename_i e
          obtain rfl := hI.pair hy hx e
          exact (rng_same (hI.len y hy) h1 h2 h3 (by omega)).symm
        · rfl
theorem wrote_read {M M' : Mem} (hI : MInv M) {a : Int} {b : List UInt8} (hb : 1 ≤ b.length) (h : Wrote M M' a b) : readM M' a b.length = (b, 0) := by
  obtain ⟨x, hx, h1, h3, h2, rfl⟩ := h
  unfold readM
  rw [if_neg (by omega), if_neg (by omega), mfind_upd, mfind_of hI hx h1 h3 h2]
  show (rng (if x.1.at_ = x.1.at_ then (x.1, _) else x) a b.length, (0 : Int)) = _
  rw [if_pos rfl, rng_back (hI.len x hx) h1 h2]
theorem write_ok {M : Mem} {a : Int} {b : List UInt8} (hb : b ≠ []) (h : (writeM M a b).2 = 0) : Wrote M (writeM M a b).1 a b := by
  unfold writeM at h ⊢
  rw [if_neg hb] at h ⊢
  cases hm : mfind M a b.length with
  | none => rw [hm] at h; cases h
  | some x =>
    obtain ⟨hx, h1, h2, h3⟩ := mfind_holds hm
    exact ⟨x, hx, h1, h2, h3, rfl⟩
theorem writeM_no {M : Mem} {a : Int} {b : List UInt8} (h : (writeM M a b).2 ≠ 0) : (writeM M a b).1 = M := by
  unfold writeM at h ⊢
  split
  · rfl
  · split
    · rename_i h1 _ _ h2
      rw [if_neg h1, h2] at h; exact absurd rfl h
    · rfl
theorem store_ok {M : Mem} {a s n : Int} (h : (storeM M a s n).2 = 0) : (s = 1 ∨ s = 8 ∧ a % 8 = 0) ∧ Wrote M (storeM M a s n).1 a (numBytes n s.toNat) := by
  unfold storeM at h ⊢
  split at h
  · rename_i h1; exact absurd h h1
  · rename_i h1
    rw [if_neg h1]
    have h1 : accM M a s = 0 := Classical.not_not.1 h1
    unfold accM at h1
    split at h1
    · cases h1
    · rename_i h2
      split at h1
      · cases h1
      · rename_i h3
        cases hm : mfind M a s with
        | none => rw [hm] at h; cases h
        | some x =>
          rw [hm] at h
          dsimp only at h ⊢
          obtain ⟨hx, g1, g2, g3⟩ := mfind_holds hm
          by_cases hk : x.1.kind = 0
          · rw [if_pos hk] at h; cases h
          · rw [if_neg hk]
            have hs : s = 1 ∨ s = 8 := by omega
            exact ⟨by omega, x, hx, g1, g2, by rw [numBytes_length]; omega, rfl⟩
theorem storeM_no {M : Mem} {a s n : Int} (h : (storeM M a s n).2 ≠ 0) : (storeM M a s n).1 = M := by
  unfold storeM at h ⊢
  split
  · rfl
  · rename_i h1
    rw [if_neg h1] at h
    split
    · rename_i h2
      rw [h2] at h
      dsimp only at h
      split
      · rfl
      · rename_i h3; rw [if_neg h3] at h; exact absurd rfl h
    · rfl
theorem nth_toNat (n : Int) (k : Nat) : ((nthByte n k).toNat : Int) = (n / 256 ^ k) % 256 := by
  have h1 := Int.emod_nonneg (n / 256 ^ k) (show (256 : Int) ≠ 0 by omega)
  have h2 := Int.emod_lt_of_pos (n / 256 ^ k) (show (0 : Int) < 256 by omega)
  unfold nthByte
  rw [UInt8.toNat_ofNat']
  omega
theorem emod_two (n P : Int) (hP : 0 < P) : n % (P * 256) = n % P + P * (n / P % 256) := by
  have e1 := Int.emod_add_mul_ediv n P
  have e2 := Int.emod_add_mul_ediv (n / P) 256
  have h1 := Int.emod_nonneg n (show P ≠ 0 by omega)
  have h2 := Int.emod_lt_of_pos n hP
  have h3 := Int.emod_nonneg (n / P) (show (256 : Int) ≠ 0 by omega)
  have h4 := Int.emod_lt_of_pos (n / P) (show (0 : Int) < 256 by omega)
  have h5 : P * (n / P % 256) ≤ P * 255 := Int.mul_le_mul_of_nonneg_left (by omega) (by omega)
  have h6 : 0 ≤ P * (n / P % 256) := Int.mul_nonneg (by omega) h3
  have e3 : n = n % P + P * (n / P % 256) + P * 256 * (n / P / 256) := by
    rw [Int.mul_assoc, Int.add_assoc, ← Int.mul_add, e2, e1]
  conv => lhs; rw [e3]
  rw [Int.add_mul_emod_self_left]
  exact Int.emod_eq_of_lt (by omega) (by omega)
theorem num_nat (n : Int) : ∀ k, ((leNat (numBytes n k) : Nat) : Int) = n % 256 ^ k
  | 0 => by simp [numBytes, leNat]
  | k + 1 => by
    rw [numBytes_succ, leNat_snoc, numBytes_length]
    have ih := num_nat n k
    have hb := nth_toNat n k
    rw [Int.natCast_add, Int.natCast_mul, ih, hb, Int.natCast_pow]
    have e2 : n % 256 ^ (k + 1) = n % 256 ^ k + 256 ^ k * (n / 256 ^ k % 256) := by
      rw [Int.pow_succ]; exact emod_two n (256 ^ k) (Int.pow_pos (by omega))
    rw [e2]; rfl
theorem load_back {M M' : Mem} (hI : MInv M) {a n s : Int} (hn : I64 n) (hs : s = 1 ∨ s = 8 ∧ a % 8 = 0) (h : Wrote M M' a (numBytes n s.toNat)) : loadM M' a s = (if s = 1 then n % 256 else n, 0) := by
  obtain ⟨x, hx, h1, h3, h2, rfl⟩ := h
  rw [numBytes_length] at h2
  have hm := mfind_of hI hx (a := a) (s := s) h1 h3 (by omega)
  have hm2 : mfind (updM M x.1.at_ (splice x.2 (a - x.1.at_).toNat (numBytes n s.toNat))) a s = some (x.1, splice x.2 (a - x.1.at_).toNat (numBytes n s.toNat)) := by
    rw [mfind_upd, hm]
    show some (if x.1.at_ = x.1.at_ then _ else x) = _
    rw [if_pos rfl]
  have hr : rng (x.1, splice x.2 (a - x.1.at_).toNat (numBytes n s.toNat)) a s = numBytes n s.toNat := by
    have := rng_back (hI.len x hx) (b := numBytes n s.toNat) h1 (by rw [numBytes_length]; omega)
    rw [numBytes_length, show ((s.toNat : Nat) : Int) = s by omega] at this
    exact this
  unfold I64 at hn
  rcases hs with rfl | ⟨rfl, h8⟩
  · rw [load1, hm2]
    dsimp only
    rw [hr, if_pos rfl]
    have := num_nat n 1
    have e : ((1 : Int)).toNat = 1 := rfl
    rw [e]
    unfold toI64
    have e2 : (256 : Int) ^ 1 = 256 := by decide
    rw [e2] at this
    split
    · rw [this]
    · omega
  · rw [load8, if_neg (by omega), hm2]
    dsimp only
    rw [hr, if_neg (by omega)]
    have := num_nat n 8
    have e : ((8 : Int)).toNat = 8 := rfl
    rw [e]
    have e2 : (256 : Int) ^ 8 = 18446744073709551616 := by decide
    rw [e2] at this
    show ((if 2 * leNat (numBytes n 8) < 18446744073709551616 then ((leNat (numBytes n 8) : Nat) : Int) else ((leNat (numBytes n 8) : Nat) : Int) - 18446744073709551616), (0 : Int)) = (n, 0)
    rw [this]
    split <;> (congr 1; omega)
end Go.Proofs.YtpgcoceggacplaaGreatDoor
namespace Go.Lp
open Go.RowKit Go.Proofs.YtpgcoceggacplaaGreatDoor
theorem wrI (n : Int) : I64 (w64 n) := by unfold I64 w64; rw [IntKind.wrap_i64]; omega
theorem toI_in {n : Nat} (h : n < 18446744073709551616) : I64 (toI64 n) := by unfold I64 toI64; split <;> omega
theorem toS8_in {n : Nat} (h : n < 18446744073709551616) : I64 (toS n 8) := by unfold I64 toS; split <;> omega
theorem loadM_in (M : Mem) (a s : Int) : I64 (loadM M a s).1 := by
  have h0 : I64 0 := by unfold I64; omega
  unfold loadM
  split
  · exact h0
  · rename_i hacc
    have hacc : accM M a s = 0 := Classical.not_not.1 hacc
    have hs : s = 1 ∨ s = 8 := by
      unfold accM at hacc
      split at hacc
      · cases hacc
      · omega
    split
    · rename_i x hx
      have hlt : leNat (rng x a s) < 256 ^ (rng x a s).length := leNat_lt _
      have hl : (rng x a s).length ≤ s.toNat := by unfold rng; simp; omega
      rcases hs with rfl | rfl
      · have h2 : (256 : Nat) ^ (rng x a 1).length ≤ 256 ^ 1 := Nat.pow_le_pow_right (by decide) hl
        have h3 : leNat (rng x a 1) < 256 := Nat.lt_of_lt_of_le hlt h2
        have e : getI (rng x a 1) (1 : Int).toNat (decide ((1 : Int) = 8)) = toI64 (leNat (rng x a 1)) := rfl
        rw [e]; exact toI_in (by omega)
      · have h2 : (256 : Nat) ^ (rng x a 8).length ≤ 256 ^ 8 := Nat.pow_le_pow_right (by decide) hl
        have h3 : leNat (rng x a 8) < 18446744073709551616 := Nat.lt_of_lt_of_le hlt h2
        have e : getI (rng x a 8) (8 : Int).toNat (decide ((8 : Int) = 8)) = toS (leNat (rng x a 8)) 8 := rfl
        rw [e]; exact toS8_in h3
    · exact h0
theorem upd_in {r : Nat → Int} (h : ∀ k, I64 (r k)) {k : Nat} {n : Int} (hn : I64 n) : ∀ j, I64 (upd r k n j) := fun j => by
  unfold upd; split
  · exact hn
  · exact h j
/-- all are ints -/
structure RunIn (R : Run) : Prop where
  c : ∀ k, I64 (R.c.r k)
  cpc : I64 R.c.pc
  x : ∀ k, I64 (R.nx.r k)
  xpc : I64 R.nx.pc
  imm : I64 R.i.imm
theorem RunIn.ld {R : Run} (h : RunIn R) (M : Mem) (a s : Int) : RunIn (R.ld M a s) := ⟨h.c, h.cpc, h.x, h.xpc, h.imm⟩
theorem RunIn.st {R : Run} (h : RunIn R) (M : Mem) (a s n : Int) : RunIn (R.st M a s n) := ⟨h.c, h.cpc, h.x, h.xpc, h.imm⟩
theorem RunIn.put {R : Run} (h : RunIn R) {n : Int} (hn : I64 n) : RunIn (R.put n) := ⟨h.c, h.cpc, upd_in h.x hn, h.xpc, h.imm⟩
theorem RunIn.to {R : Run} (h : RunIn R) {n : Int} (hn : I64 n) : RunIn (R.to n) := ⟨h.c, h.cpc, h.x, hn, h.imm⟩
theorem RunIn.jump {R : Run} (h : RunIn R) (ok : Bool) : RunIn (R.jump ok) := by cases ok; exact h; exact h.to (wrI _)
theorem RunIn.push {R : Run} (h : RunIn R) (M : Mem) (n : Int) : RunIn (R.push M n).1 := ⟨h.c, h.cpc, upd_in h.x (wrI _), h.xpc, h.imm⟩
theorem RunIn.pop {R : Run} (h : RunIn R) (M : Mem) : RunIn (R.pop M) := ⟨h.c, h.cpc, upd_in h.x (wrI _), h.xpc, h.imm⟩
theorem RunIn.slot {R : Run} (h : RunIn R) (M : Mem) (call : Bool) : RunIn (R.slot M call).1 := by
  unfold Run.slot
  dsimp only
  split
  · exact h.ld M _ _
  · split
    · exact ⟨h.c, h.cpc, h.c, h.cpc, h.imm⟩
    · split
      · exact ((h.ld M _ _).push M _).to (loadM_in _ _ _)
      · exact (h.ld M _ _).to (loadM_in _ _ _)
theorem RunIn.exec {R : Run} (h : RunIn R) (M : Mem) : ∀ k, RunIn (R.exec M k).1
  | 0 | 1 => h
  | 2 => ⟨h.c, h.cpc, h.x, h.xpc, h.imm⟩
  | 3 => h.put h.imm
  | 4 => h.put (wrI _)
  | 5 => h.put (h.c _)
  | 6 | 7 | 8 | 9 | 10 => h.put (wrI _)
  | 11 => h.put (by unfold truthI I64; split <;> omega)
  | 12 => h.put (by unfold truthI I64; split <;> omega)
  | 13 | 14 => h.put (wrI _)
  | 15 | 16 => (h.ld M _ _).put (loadM_in _ _ _)
  | 17 | 18 => h.st M _ _ _
  | 19 => h.jump true
  | 20 | 21 => h.jump _
  | 22 => (h.push M _).jump true
  | 23 => (h.push M _).to (h.c _)
  | 24 | 25 => h.slot M _
  | 26 => (h.pop M).to (loadM_in _ _ _)
  | 27 => h.push M _
  | 28 => (h.pop M).put (loadM_in _ _ _)
  | 29 => ⟨h.c, h.cpc, (h.put (h.c _)).x, h.xpc, h.imm⟩
  | 30 => ⟨h.c, h.cpc, h.x, h.xpc, h.imm⟩
  | _ + 31 => h
/-- a processor whose registers are ints -/
structure CpuOk (c : Cpu) : Prop where
  r : ∀ k, I64 (c.r k)
  pc : I64 c.pc
theorem run0_in {c : Cpu} (hc : CpuOk c) {i : Ins} (hi : I64 i.imm) : RunIn (run0 0 i c) := ⟨hc.r, hc.pc, hc.r, wrI _, hi⟩
theorem decI_imm {l : List UInt8} {i : Ins} (h : decI l = some i) : I64 i.imm := by
  unfold decI at h
  split at h
  · cases h
  · split at h
    · simp only [Option.some.injEq] at h; rw [← h]
      have hlt := leNat_lt ((l.drop 4).take 4)
      have hl : ((l.drop 4).take 4).length ≤ 4 := by simp; omega
      have h2 : 256 ^ ((l.drop 4).take 4).length ≤ 256 ^ 4 := Nat.pow_le_pow_right (by decide) hl
      have h3 : leNat ((l.drop 4).take 4) < 4294967296 := Nat.lt_of_lt_of_le hlt h2
      unfold I64 insOf toS; dsimp only
      split <;> omega
    · cases h
theorem step_ok {c : Cpu} (hc : CpuOk c) (M : Mem) : CpuOk (stepM M c).1 := by
  unfold stepM
  split
  · exact hc
  · split
    · exact hc
    · rename_i i e hf
      have hi := decI_imm (fetch_some hf).2.2.1
      have hx := (run0_in hc hi).exec M i.op
      split
      · exact hc
      · exact ⟨hx.x, hx.xpc⟩
/-- what an instruction does to memory: nothing, or one store -/
def MemAs (M M' : Mem) : Prop := M' = M ∨ ∃ a s n, M' = (storeM M a s n).1 ∧ (storeM M a s n).2 = 0
theorem memAs_store (M : Mem) (a s n : Int) : MemAs M (storeM M a s n).1 := by
  by_cases h : (storeM M a s n).2 = 0
  · exact .inr ⟨a, s, n, rfl, h⟩
  · exact .inl (storeM_no h)
theorem slot_mem (R : Run) (M : Mem) (call : Bool) : MemAs M (R.slot M call).2 := by
  unfold Run.slot
  dsimp only
  split
  · exact .inl rfl
  · split
    · exact .inl rfl
    · split
      · exact memAs_store _ _ _ _
      · exact .inl rfl
theorem exec_mem (R : Run) (M : Mem) : ∀ k, MemAs M (R.exec M k).2
  | 0 | 1 | 2 | 3 | 4 | 5 | 6 | 7 | 8 | 9 | 10 | 11 | 12 | 13 | 14 | 15 | 16 => .inl rfl
  | 17 | 18 => memAs_store _ _ _ _
  | 19 | 20 | 21 => .inl rfl
  | 22 | 23 => memAs_store _ _ _ _
  | 24 | 25 => slot_mem R M _
  | 26 => .inl rfl
  | 27 => memAs_store _ _ _ _
  | 28 | 29 | 30 => .inl rfl
  | _ + 31 => .inl rfl
theorem step_mem (M : Mem) (c : Cpu) : MemAs M (stepM M c).2.2 := by
  unfold stepM
  split
  · exact .inl rfl
  · split
    · exact .inl rfl
    · rename_i i e _
      split <;> exact exec_mem _ M i.op
theorem bad_st {R : Run} {M : Mem} {a s n : Int} (h : (R.st M a s n).bad = true) : (storeM M a s n).1 = M := by
  refine storeM_no fun h0 => ?_
  unfold Run.st at h
  simp [h0] at h
theorem slot_kind (R : Run) (M : Mem) (call : Bool) (hR : R.ek = 0) : ((R.slot M call).1.bad = true → (R.slot M call).2 = M) ∧ ((R.slot M call).1.ek ≠ 0 → (R.slot M call).2 = M ∧ (R.slot M call).1.ek = 3 ∧ (R.slot M call).1.nx = R.c) := by
  unfold Run.slot
  dsimp only
  split
  · exact ⟨fun _ => rfl, fun h => absurd hR h⟩
  · split
    · exact ⟨fun _ => rfl, fun _ => ⟨rfl, rfl, rfl⟩⟩
    · split
      · exact ⟨fun h => bad_st (R := { R.ld M (w64 (R.c.pc + R.i.imm)) 8 with nx := R.nx.set 15 (w64 (R.c.r 15 - 8)) }) h, fun h => absurd hR h⟩
      · exact ⟨fun _ => rfl, fun h => absurd hR h⟩
/-- which events there are, and what then is as it was -/
theorem exec_kind (R : Run) (M : Mem) (hR : R.ek = 0) : ∀ k, ((R.exec M k).1.bad = true → (R.exec M k).2 = M) ∧ ((R.exec M k).1.ek ≠ 0 → (R.exec M k).2 = M ∧ ((R.exec M k).1.ek = 1 ∨ (R.exec M k).1.ek = 2 ∨ (R.exec M k).1.ek = 3 ∧ (R.exec M k).1.nx = R.c))
  | 0 | 1 => ⟨fun _ => rfl, fun h => absurd hR h⟩
  | 2 => ⟨fun _ => rfl, fun _ => ⟨rfl, .inl rfl⟩⟩
  | 3 | 4 | 5 | 6 | 7 | 8 | 9 | 10 | 11 | 12 | 13 | 14 | 15 | 16 => ⟨fun _ => rfl, fun h => absurd hR h⟩
  | 17 | 18 => ⟨fun h => bad_st h, fun h => absurd hR h⟩
  | 19 => ⟨fun _ => rfl, fun h => absurd hR h⟩
  | 20 => ⟨fun _ => rfl, fun h => absurd (by show (R.jump _).ek = 0; unfold Run.jump; split <;> exact hR) h⟩
  | 21 => ⟨fun _ => rfl, fun h => absurd (by show (R.jump _).ek = 0; unfold Run.jump; split <;> exact hR) h⟩
  | 22 => ⟨fun h => bad_st (R := { R with nx := R.nx.set 15 (w64 (R.c.r 15 - 8)) }) h, fun h => absurd hR h⟩
  | 23 => ⟨fun h => bad_st (R := { R with nx := R.nx.set 15 (w64 (R.c.r 15 - 8)) }) h, fun h => absurd hR h⟩
  | 24 => let h := slot_kind R M true hR; ⟨h.1, fun h' => ⟨(h.2 h').1, .inr (.inr (h.2 h').2)⟩⟩
  | 25 => let h := slot_kind R M false hR; ⟨h.1, fun h' => ⟨(h.2 h').1, .inr (.inr (h.2 h').2)⟩⟩
  | 26 => ⟨fun _ => rfl, fun h => absurd hR h⟩
  | 27 => ⟨fun h => bad_st (R := { R with nx := R.nx.set 15 (w64 (R.c.r 15 - 8)) }) h, fun h => absurd hR h⟩
  | 28 => ⟨fun _ => rfl, fun h => absurd hR h⟩
  | 29 => ⟨fun _ => rfl, fun _ => ⟨rfl, .inr (.inl rfl)⟩⟩
  | 30 => ⟨fun _ => rfl, fun _ => ⟨rfl, .inr (.inl rfl)⟩⟩
  | _ + 31 => ⟨fun _ => rfl, fun h => absurd hR h⟩
theorem step_kind (M : Mem) (c : Cpu) (h : (stepM M c).2.1.1 ≠ 0) : (stepM M c).2.2 = M ∧ ((stepM M c).2.1.1 = 1 ∨ (stepM M c).2.1.1 = 2 ∨ (stepM M c).1 = c) := by
  unfold stepM at h ⊢
  split at h
  · rename_i h0; rw [if_pos h0]; exact ⟨rfl, .inr (.inr rfl)⟩
  · rename_i h0
    rw [if_neg h0]
    split at h
    · exact ⟨rfl, .inr (.inr rfl)⟩
    · rename_i i e hf
      obtain ⟨k1, k2⟩ := exec_kind (run0 0 i c) M rfl i.op
      split at h
      · rename_i hb; rw [if_pos hb]; exact ⟨k1 hb, .inr (.inr rfl)⟩
      · rename_i hb
        rw [if_neg hb]
        obtain ⟨g1, g2⟩ := k2 h
        exact ⟨g1, g2.imp id (Or.imp id fun x => x.2)⟩
end Go.Lp
namespace Go.Proofs.YtpgcoceggacplaaGreatDoor
open Go.RowKit Go.Lp Go.Sy
theorem fetch_fn (p : Nat) (M : Mem) (at_ : Int) (hat : I64 at_) : Con Tryz.prog 25 [.pointer (some ⟨p, 0, none⟩), .int .i64 at_] [formsAt] [SpR p M]
    fun r ps' hp' => r = .tuple #[.agg (insV ((fetchM M at_).1.getD ins0)).toArray, .int .i64 (fetchM M at_).2] ∧ ps' = [] ∧ hp' = [SpR p M] := by
  have hlen := readM_len M at_ 8
  have e8 : (at_.tmod 8 = 0) ↔ at_ % 8 = 0 := by rw [← Int.dvd_iff_tmod_eq_zero, Int.dvd_iff_emod_eq_zero]
  have hoff : (ofBytes (readM M at_ 8).1).data.toList = (readM M at_ 8).1 := rfl
  refine Con.enter Tryz.func25 rfl (by simp [Tryz.ntmps25]) ?_
  show awp _ _ _ _ ⟨[(0, true, _), (1, true, _)], _, _⟩
  refine awp_seq (awp_region ?_)
  refine aL_eff (q := true) rfl (e_alloc (zs := [.int .i64 0, .int .i64 0, .int .i64 0, .int .i64 0, .int .i64 0]) (by kernel_rfl) rfl (fun b0_0 => ?_))
  simp only [nM, nN]
  refine aL_s true rfl rfl (fun _ => q_assign rfl) (aL_nil (thn_n (awp_seq (awp_region (aL_s true rfl rfl (fun _ => q_move rfl) (aL_s true rfl rfl (fun _ => q_move rfl) ?_))))))
  refine aL_s true rfl rfl (fun _ => q_call (by kernel_rfl) rfl (fun w S fp hst => q_sparea hst 0 rfl at_ hat)) ?_
  refine aL_s true rfl rfl (fun _ => q_move rfl) (aL_s true rfl rfl (fun _ => q_extract rfl rfl) (aL_s true rfl rfl (fun _ => q_extract rfl rfl) ?_))
  refine aL_eff (q := true) rfl (e_alloc (zs := [.int .i64 0, .int .i64 0, .int .i64 0, .int .i64 0, .int .i64 0]) (by kernel_rfl) rfl (fun b1_6 => ?_))
  simp only [nM, nN]
  refine aL_eff rfl (e_store 2 tk58 rfl rfl rfl rfl ?_)
  simp only [nK, nL]
  refine aL_s true rfl rfl (fun _ => q_assign rfl) (aL_nil (thn_n (awp_seq (awp_region (aL_s true rfl rfl (fun _ => q_move rfl) (aL_s true rfl rfl (fun _ => q_move rfl) ?_))))))
  refine aL_s true rfl rfl (fun _ => q_call (by kernel_rfl) rfl (fun w S fp hst => q_spread hst 0 rfl at_ 8 hat)) ?_
  refine aL_s true rfl rfl (fun _ => q_move rfl) (aL_s true rfl rfl (fun _ => q_extract rfl rfl) (aL_s true rfl rfl (fun _ => q_extract rfl rfl) (aL_s true rfl rfl (fun _ => q_assign rfl) (aL_s true rfl rfl (fun _ => q_assign rfl) (aL_nil (thn_n (awp_seq ?_)))))))
  refine awp_seq (awp_region (aL_s true rfl rfl (fun _ => q_move rfl) (aL_s true rfl rfl (fun _ => q_not rfl) (aL_s true rfl rfl (fun _ => q_move rfl) ?_))))
  refine aL_s _ rfl rfl (fun hc => q_fieldAddr (off := 2) (by kernel_rfl) rfl) ?_
  refine aL_s _ rfl rfl (fun hc => q_load 2 tk3 (ev_yes rfl hc) rfl rfl) (aL_s _ rfl rfl (fun hc => q_neq (ev_yes rfl hc) rfl) (aL_s true rfl rfl (fun _ => q_or rfl rfl (fun h => gf rfl h)) (aL_s true rfl rfl (fun _ => q_move rfl) (aL_s _ rfl rfl (fun hc => q_move rfl) (aL_s _ rfl rfl (fun hc => q_neq (ev_yes rfl hc) rfl) (aL_s true rfl rfl (fun _ => q_or rfl rfl (fun h => gf rfl h)) (aL_s true rfl rfl (fun _ => q_move rfl) ?_)))))))
  refine aL_s _ rfl rfl (fun hc => q_move rfl) ?_
  refine aL_s _ rfl rfl (fun hc => q_rem (ev_yes rfl hc) rfl (by decide)) ?_
  refine aL_s _ rfl rfl (fun hc => q_neq (ev_yes rfl hc) rfl) (aL_s true rfl rfl (fun _ => q_or rfl rfl (fun h => gf rfl h)) (aL_nil (thn_n ?_)))
  refine awp_cond _ rfl (fun h1 => ?_) (fun h1 => ?_)
  ·skip
   refine awp_seq (awp_region ?_)
   refine aL_s true rfl rfl (fun _ => q_bld (l := []) (zs := [.int .i64 0, .int .i64 0, .int .i64 0, .int .i64 0, .int .i64 0]) (pl := [(0, 1), (1, 1), (2, 1), (3, 1), (4, 1)]) (by kernel_rfl) (by kernel_rfl) (by kernel_rfl) rfl rfl rfl) ?_
   refine aL_eff rfl (e_store 1 tk46 rfl rfl rfl rfl ?_)
   simp only [nK, nL]
   refine aL_s true rfl rfl (fun _ => q_assign rfl) (aL_nil (thn_n (awp_ret (thn_r ?_))))
   refine finR2 [] [0] rfl Tryz.results25 (rv_cell 1 tk46 rfl rfl rfl) (rv_tmp rfl) ?_ (.inr rfl)
   have e : fetchM M at_ = (none, 6) := by
     unfold fetchM
     rw [if_pos]
     simp only [Bool.or_eq_true, Bool.not_eq_true', decide_eq_false_iff_not] at h1
     rcases h1 with ((h | h) | h) | h
     · exact .inl h
     · exact .inr (.inl h)
     · exact .inr (.inr (.inl h))
     · exact .inr (.inr (.inr (fun h' => h (e8.2 h'))))
   rw [e]; exact ⟨rfl, rfl, rfl⟩
  ·skip
   have hno : ¬ ((areaM M at_).2 = false ∨ (areaM M at_).1.kind ≠ 0 ∨ (readM M at_ 8).2 ≠ 0 ∨ at_ % 8 ≠ 0) := by
     simp only [Bool.or_eq_false_iff, Bool.not_eq_false', decide_eq_true_eq] at h1
     obtain ⟨⟨⟨g1, g2⟩, g3⟩, g4⟩ := h1
     rintro (h | h | h | h)
     · rw [g1] at h; cases h
     · exact h g2
     · exact h g3
     · exact h (e8.1 g4)
   refine awp_skip (thn_n (awp_seq (awp_region (aL_s true rfl rfl (fun _ => q_move rfl) ?_))))
   refine aL_s true rfl rfl (fun _ => q_call (by kernel_rfl) rfl (fun w S fp hst => (decode_fn (ofBytes (readM M at_ 8).1) (by rw [ofBytes_size]; unfold maxLen; omega)).quiet1 (psAt 0 rfl) hst)) ?_
   refine aL_s true rfl rfl (fun _ => q_move rfl) (aL_s true rfl rfl (fun _ => q_extract rfl rfl) (aL_s true rfl rfl (fun _ => q_extract rfl rfl) ?_))
   refine aL_eff (q := true) rfl (e_alloc (zs := [.int .i64 0, .int .i64 0, .int .i64 0, .int .i64 0, .int .i64 0]) (by kernel_rfl) rfl (fun b5_5 => ?_))
   simp only [nM, nN]
   refine aL_eff rfl (e_store 3 tk46 rfl rfl rfl rfl ?_)
   simp only [nK, nL]
   refine aL_s true rfl rfl (fun _ => q_assign rfl) (aL_nil (thn_n (awp_seq (awp_seq (awp_region (aL_s true rfl rfl (fun _ => q_move rfl) (aL_s true rfl rfl (fun _ => q_not rfl) ?_)))))))
   refine aL_nil (thn_n ?_)
   refine awp_cond _ rfl (fun h2 => ?_) (fun h2 => ?_)
   ·skip
    refine awp_seq (awp_region ?_)
    refine aL_s true rfl rfl (fun _ => q_bld (l := []) (zs := [.int .i64 0, .int .i64 0, .int .i64 0, .int .i64 0, .int .i64 0]) (pl := [(0, 1), (1, 1), (2, 1), (3, 1), (4, 1)]) (by kernel_rfl) (by kernel_rfl) (by kernel_rfl) rfl rfl rfl) ?_
    refine aL_eff rfl (e_store 1 tk46 rfl rfl rfl rfl ?_)
    simp only [nK, nL]
    refine aL_s true rfl rfl (fun _ => q_assign rfl) (aL_nil (thn_n (awp_ret (thn_r ?_))))
    refine finR2 [] [0] rfl Tryz.results25 (rv_cell 1 tk46 rfl rfl rfl) (rv_tmp rfl) ?_ (.inr rfl)
    have e : fetchM M at_ = (none, 2) := by
      unfold fetchM
      rw [if_neg hno]
      rw [hoff] at h2
      cases hd : decI (readM M at_ 8).1 with
      | none => rfl
      | some i => rw [hd] at h2; simp at h2
    rw [e]; exact ⟨rfl, rfl, rfl⟩
   ·skip
    refine awp_skip (thn_n (awp_seq (awp_region (aL_s true rfl rfl (fun _ => q_load 3 tk46 rfl rfl rfl) ?_))))
    refine aL_eff rfl (e_store 1 tk46 rfl rfl rfl rfl ?_)
    simp only [nK, nL]
    refine aL_s true rfl rfl (fun _ => q_assign rfl) (aL_nil (thn_n (awp_ret ?_)))
    refine finR2 [] [0] rfl Tryz.results25 (rv_cell 1 tk46 rfl rfl rfl) (rv_tmp rfl) ?_ (.inr rfl)
    rw [hoff] at h2 ⊢
    cases hd : decI (readM M at_ 8).1 with
    | none => rw [hd] at h2; simp at h2
    | some i =>
      have e : fetchM M at_ = (some i, 0) := by
        unfold fetchM
        rw [if_neg hno, hd]
      rw [e]; exact ⟨rfl, rfl, rfl⟩
/-- the functions of the instructions -/
def opF : Nat → FuncId
  | 1 => 44
  | 2 => 45
  | 3 => 46
  | 4 => 48
  | 5 => 49
  | 6 => 51
  | 7 => 53
  | 8 => 54
  | 9 => 55
  | 10 => 56
  | 11 => 57
  | 12 => 59
  | 13 => 60
  | 14 => 61
  | 15 => 62
  | 16 => 64
  | 17 => 65
  | 18 => 67
  | 19 => 68
  | 20 => 70
  | 21 => 71
  | 22 => 72
  | 23 => 74
  | 24 => 75
  | 25 => 77
  | 26 => 78
  | 27 => 80
  | 28 => 81
  | 29 => 82
  | 30 => 83
  | _ => 0
def opV (k : Nat) : Value := .func (.func (opF k)) #[] #[]
def opsV : List Value := [.nilFunc, opV 1, opV 2, opV 3, opV 4, opV 5, opV 6, opV 7, opV 8, opV 9, opV 10, opV 11, opV 12, opV 13, opV 14, opV 15, opV 16, opV 17, opV 18, opV 19, opV 20, opV 21, opV 22, opV 23, opV 24, opV 25, opV 26, opV 27, opV 28, opV 29, opV 30]
theorem opsV_get {k : Nat} (h1 : 1 ≤ k) (h : k < 31) : opsV.toArray[k]? = some (opV k) := by
  rcases thirtyone h with rfl | rfl | rfl | rfl | rfl | rfl | rfl | rfl | rfl | rfl | rfl | rfl | rfl | rfl | rfl | rfl | rfl | rfl | rfl | rfl | rfl | rfl | rfl | rfl | rfl | rfl | rfl | rfl | rfl | rfl | rfl
  · omega
  all_goals rfl
theorem opF_ok {k : Nat} (h1 : 1 ≤ k) (h : k < 31) : callOk Tryz.prog (opF k) = true := by
  rcases thirtyone h with rfl | rfl | rfl | rfl | rfl | rfl | rfl | rfl | rfl | rfl | rfl | rfl | rfl | rfl | rfl | rfl | rfl | rfl | rfl | rfl | rfl | rfl | rfl | rfl | rfl | rfl | rfl | rfl | rfl | rfl | rfl
  · omega
  all_goals kernel_rfl
theorem op_all {k : Nat} (h1 : 1 ≤ k) (h : k < 31) (R : Run) (M : Mem) (b : Nat) (hok : RunOk R) : Con Tryz.prog (opF k) [.pointer (some ⟨b, 0, none⟩)] [] [Box b 65 (rcells R), SpR R.p M]
    fun r ps' hp' => r = .tuple #[] ∧ ps' = [] ∧ hp' = [Box b 65 (rcells (R.exec M k).1), SpR R.p (R.exec M k).2] := by
  rcases thirtyone h with rfl | rfl | rfl | rfl | rfl | rfl | rfl | rfl | rfl | rfl | rfl | rfl | rfl | rfl | rfl | rfl | rfl | rfl | rfl | rfl | rfl | rfl | rfl | rfl | rfl | rfl | rfl | rfl | rfl | rfl | rfl
  · omega
  · exact op1_fn R M b hok
  · exact op2_fn R M b hok
  · exact op3_fn R M b hok
  · exact op4_fn R M b hok
  · exact op5_fn R M b hok
  · exact op6_fn R M b hok
  · exact op7_fn R M b hok
  · exact op8_fn R M b hok
  · exact op9_fn R M b hok
  · exact op10_fn R M b hok
  · exact op11_fn R M b hok
  · exact op12_fn R M b hok
  · exact op13_fn R M b hok
  · exact op14_fn R M b hok
  · exact op15_fn R M b hok
  · exact op16_fn R M b hok
  · exact op17_fn R M b hok
  · exact op18_fn R M b hok
  · exact op19_fn R M b hok
  · exact op20_fn R M b hok
  · exact op21_fn R M b hok
  · exact op22_fn R M b hok
  · exact op23_fn R M b hok
  · exact op24_fn R M b hok
  · exact op25_fn R M b hok
  · exact op26_fn R M b hok
  · exact op27_fn R M b hok
  · exact op28_fn R M b hok
  · exact op29_fn R M b hok
  · exact op30_fn R M b hok
theorem ops_fn : Con Tryz.prog 26 [] [] [] fun r _ _ => r = .agg opsV.toArray := by
  refine Con.enter Tryz.func26 rfl (by simp [Tryz.ntmps26]) ?_
  show awp _ _ _ _ ⟨[], _, _⟩
  refine awp_seq (awp_region ?_)
  refine aL_eff (q := true) rfl (e_alloc (zs := [.nilFunc, .nilFunc, .nilFunc, .nilFunc, .nilFunc, .nilFunc, .nilFunc, .nilFunc, .nilFunc, .nilFunc, .nilFunc, .nilFunc, .nilFunc, .nilFunc, .nilFunc, .nilFunc, .nilFunc, .nilFunc, .nilFunc, .nilFunc, .nilFunc, .nilFunc, .nilFunc, .nilFunc, .nilFunc, .nilFunc, .nilFunc, .nilFunc, .nilFunc, .nilFunc, .nilFunc]) (by kernel_rfl) rfl (fun b0_0 => ?_))
  simp only [nM, nN]
  refine aL_nil (thn_n (awp_seq (awp_region ?_)))
  refine aL_s true rfl rfl (fun _ => q_bldA (l := [(1, .func 44), (2, .func 45), (3, .func 46), (4, .func 48), (5, .func 49), (6, .func 51), (7, .func 53), (8, .func 54), (9, .func 55), (10, .func 56), (11, .func 57), (12, .func 59), (13, .func 60), (14, .func 61), (15, .func 62), (16, .func 64), (17, .func 65), (18, .func 67), (19, .func 68), (20, .func 70), (21, .func 71), (22, .func 72), (23, .func 74), (24, .func 75), (25, .func 77), (26, .func 78), (27, .func 80), (28, .func 81), (29, .func 82), (30, .func 83)]) (zs := [.nilFunc, .nilFunc, .nilFunc, .nilFunc, .nilFunc, .nilFunc, .nilFunc, .nilFunc, .nilFunc, .nilFunc, .nilFunc, .nilFunc, .nilFunc, .nilFunc, .nilFunc, .nilFunc, .nilFunc, .nilFunc, .nilFunc, .nilFunc, .nilFunc, .nilFunc, .nilFunc, .nilFunc, .nilFunc, .nilFunc, .nilFunc, .nilFunc, .nilFunc, .nilFunc, .nilFunc]) (sz := 1) (m := 31) (by kernel_rfl) (by kernel_rfl) rfl rfl rfl) ?_
  refine aL_eff rfl (e_store 0 tk67 rfl rfl rfl rfl ?_)
  simp only [nK, nL]
  refine aL_nil (thn_n (awp_ret ?_))
  refine finR1 [] [] rfl Tryz.results26 (rv_cell 0 tk67 rfl rfl rfl) ?_ (.inr rfl)
  rfl
theorem step_fn (p : Nat) (M : Mem) (c : Cpu) (hc : CpuOk c) : Con Tryz.prog 10 [.pointer (some ⟨p, 0, none⟩), .agg (cpuV c).toArray] [formsAt] [SpR p M]
    fun r ps' hp' => r = .tuple #[.agg (cpuV (stepM M c).1).toArray, .agg (evV (stepM M c).2.1.1 (stepM M c).2.1.2).toArray] ∧ ps' = [] ∧ hp' = [SpR p (stepM M c).2.2] := by
  have HC := Lib.hid hc
  clear hc
  refine Con.enter Tryz.func10 rfl (by simp [Tryz.ntmps10]) ?_
  show awp _ _ _ _ ⟨[(0, true, _), (1, true, _)], _, _⟩
  refine awp_seq (awp_region ?_)
  refine aL_eff (q := true) rfl (e_box rfl rfl rfl (fun b0_0 => ?_))
  simp only [nM, nN]
  refine aL_eff (q := true) rfl (e_alloc (zs := [.int .i64 0, .int .i64 0, .int .i64 0, .int .i64 0, .int .i64 0, .int .i64 0, .int .i64 0, .int .i64 0, .int .i64 0, .int .i64 0, .int .i64 0, .int .i64 0, .int .i64 0, .int .i64 0, .int .i64 0, .int .i64 0, .int .i64 0]) (by kernel_rfl) rfl (fun b0_1 => ?_))
  simp only [nM, nN]
  refine aL_eff (q := true) rfl (e_alloc (zs := [.int .i64 0, .int .i64 0]) (by kernel_rfl) rfl (fun b0_2 => ?_))
  simp only [nM, nN]
  refine aL_nil (thn_n (awp_seq (awp_seq (awp_region ?_))))
  refine aL_s true rfl rfl (fun _ => q_fieldAddr (off := 16) (by kernel_rfl) rfl) ?_
  refine aL_s true rfl rfl (fun _ => q_load 1 tk3 rfl rfl rfl) (aL_s true rfl rfl (fun _ => q_eql rfl rfl) (aL_nil (thn_n ?_)))
  refine awp_cond _ rfl (fun h1 => ?_) (fun h1 => ?_)
  ·skip
   refine awp_seq (awp_region (aL_s true rfl rfl (fun _ => q_load 1 tk33 rfl rfl rfl) ?_))
   refine aL_s true rfl rfl (fun _ => q_bld (l := [(0, .const (.int .i64 4))]) (zs := [.int .i64 0, .int .i64 0]) (pl := [(0, 1), (1, 1)]) (by kernel_rfl) (by kernel_rfl) (by kernel_rfl) rfl rfl rfl) ?_
   refine aL_eff rfl (e_store 2 tk33 rfl rfl rfl rfl ?_)
   simp only [nK, nL]
   refine aL_eff rfl (e_store 3 tk36 rfl rfl rfl rfl ?_)
   simp only [nK, nL]
   refine aL_nil (thn_n (awp_ret (thn_r ?_)))
   refine finR2 [] [0] rfl Tryz.results10 (rv_cell 2 tk33 rfl rfl rfl) (rv_cell 3 tk36 rfl rfl rfl) ?_ (.inr rfl)
   have e : stepM M c = (c, (4, 0), M) := by unfold stepM; rw [if_pos (by simpa using h1)]
   rw [e]; exact ⟨rfl, rfl, rfl⟩
  ·skip
   refine awp_skip (thn_n (awp_seq (awp_region (aL_s true rfl rfl (fun _ => q_move rfl) ?_))))
   refine aL_s true rfl rfl (fun _ => q_fieldAddr (off := 16) (by kernel_rfl) rfl) ?_
   refine aL_s true rfl rfl (fun _ => q_load 1 tk3 rfl rfl rfl) ?_
   refine aL_eff (q := false) rfl (e_call [0] [0] (by kernel_rfl) rfl rfl rfl rfl (fetch_fn p M c.pc HC.out.pc) ?_)
   rintro v ps' hp' ⟨rfl, rfl, rfl⟩
   refine aL_s true rfl rfl (fun _ => q_move rfl) (aL_s true rfl rfl (fun _ => q_extract rfl rfl) (aL_s true rfl rfl (fun _ => q_extract rfl rfl) ?_))
   refine aL_eff (q := true) rfl (e_alloc (zs := [.int .i64 0, .int .i64 0, .int .i64 0, .int .i64 0, .int .i64 0]) (by kernel_rfl) rfl (fun b3_7 => ?_))
   simp only [nM, nN]
   refine aL_eff rfl (e_store 4 tk46 rfl rfl rfl rfl ?_)
   simp only [nK, nL]
   refine aL_s true rfl rfl (fun _ => q_assign rfl) (aL_nil (thn_n (awp_seq (awp_seq (awp_region (aL_s true rfl rfl (fun _ => q_move rfl) (aL_s true rfl rfl (fun _ => q_neq rfl rfl) ?_)))))))
   refine aL_nil (thn_n ?_)
   refine awp_cond _ rfl (fun h2 => ?_) (fun h2 => ?_)
   ·skip
    refine awp_seq (awp_region (aL_s true rfl rfl (fun _ => q_load 1 tk33 rfl rfl rfl) (aL_s true rfl rfl (fun _ => q_move rfl) ?_)))
    refine aL_s true rfl rfl (fun _ => q_bld (l := [(0, .const (.int .i64 5)), (1, .tmp 24)]) (zs := [.int .i64 0, .int .i64 0]) (pl := [(0, 1), (1, 1)]) (by kernel_rfl) (by kernel_rfl) (by kernel_rfl) rfl rfl rfl) ?_
    refine aL_eff rfl (e_store 2 tk33 rfl rfl rfl rfl ?_)
    simp only [nK, nL]
    refine aL_eff rfl (e_store 3 tk36 rfl rfl rfl rfl ?_)
    simp only [nK, nL]
    refine aL_nil (thn_n (awp_ret (thn_r ?_)))
    refine finR2 [] [0] rfl Tryz.results10 (rv_cell 2 tk33 rfl rfl rfl) (rv_cell 3 tk36 rfl rfl rfl) ?_ (.inr rfl)
    have e : stepM M c = (c, (5, (fetchM M c.pc).2), M) := by
      unfold stepM
      rw [if_neg (by simpa using h1)]
      cases hf : fetchM M c.pc with
      | mk o e =>
        cases o with
        | none => rfl
        | some i => have := (fetch_some hf).1; subst this; rw [hf] at h2; simp at h2
    rw [e]; exact ⟨rfl, rfl, rfl⟩
   ·skip
    obtain ⟨i, hi⟩ : ∃ i, fetchM M c.pc = (some i, 0) := by
      cases hf : fetchM M c.pc with
      | mk o e =>
        have he : e = 0 := by rw [hf] at h2; simpa using h2
        subst he
        cases o with
        | none => have := fetch_none hf; omega
        | some i => exact ⟨i, rfl⟩
    have hr := (fetch_some hi).2.1
    have hop1 : 1 ≤ i.op := (rightB_iff.1 hr).1.1
    have hop2 : i.op < 31 := by have := (rightB_iff.1 hr).1.2; omega
    have habc := right_abc hr
    have hst0 : stepM M c = if ((run0 0 i c).exec M i.op).1.bad then (c, (5, 6), ((run0 0 i c).exec M i.op).2) else (((run0 0 i c).exec M i.op).1.nx, (((run0 0 i c).exec M i.op).1.ek, ((run0 0 i c).exec M i.op).1.en), ((run0 0 i c).exec M i.op).2) := by
      unfold stepM
      rw [if_neg (by simpa using h1), hi]
    have hep : (run0 p i c).exec M i.op = ({ ((run0 0 i c).exec M i.op).1 with p := p }, ((run0 0 i c).exec M i.op).2) := exec_p (run0 0 i c) M p i.op
    rw [hi]
    refine awp_skip (thn_n (awp_seq (awp_region (aL_s true rfl rfl (fun _ => q_move rfl) (aL_s true rfl rfl (fun _ => q_load 4 tk46 rfl rfl rfl) (aL_s true rfl rfl (fun _ => q_load 1 tk33 rfl rfl rfl) (aL_s true rfl rfl (fun _ => q_load 1 tk33 rfl rfl rfl) ?_)))))))
    refine aL_s true rfl rfl (fun _ => q_bld (l := [(0, .tmp 26), (1, .tmp 27), (2, .tmp 28), (3, .tmp 29)]) (zs := [.pointer none, .int .i64 0, .int .i64 0, .int .i64 0, .int .i64 0, .int .i64 0, .int .i64 0, .int .i64 0, .int .i64 0, .int .i64 0, .int .i64 0, .int .i64 0, .int .i64 0, .int .i64 0, .int .i64 0, .int .i64 0, .int .i64 0, .int .i64 0, .int .i64 0, .int .i64 0, .int .i64 0, .int .i64 0, .int .i64 0, .int .i64 0, .int .i64 0, .int .i64 0, .int .i64 0, .int .i64 0, .int .i64 0, .int .i64 0, .int .i64 0, .int .i64 0, .int .i64 0, .int .i64 0, .int .i64 0, .int .i64 0, .int .i64 0, .int .i64 0, .int .i64 0, .int .i64 0, .int .i64 0, .int .i64 0, .bool false]) (pl := [(0, 1), (1, 5), (6, 17), (23, 17), (40, 2), (42, 1)]) (by kernel_rfl) (by kernel_rfl) (by kernel_rfl) rfl rfl rfl) ?_
    refine aL_eff (q := true) rfl (e_box rfl rfl rfl (fun b6_5 => ?_))
    simp only [nM, nN]
    refine aL_s true rfl rfl (fun _ => q_assign rfl) (aL_nil (thn_n (awp_seq (awp_region (aL_s true rfl rfl (fun _ => q_move rfl) (aL_s true rfl rfl (fun _ => q_nilCheck rfl) ?_))))))
    refine aL_s true rfl rfl (fun _ => q_fieldAddr (off := 23) (by kernel_rfl) rfl) ?_
    refine aL_s true rfl rfl (fun _ => q_fieldAddr (off := 16) (by kernel_rfl) rfl) ?_
    refine aL_s true rfl rfl (fun _ => q_load 5 tk3 rfl rfl rfl) (aL_s true rfl rfl (fun _ => q_add rfl rfl) (aL_s true rfl rfl (fun _ => q_nilCheck rfl) ?_))
    refine aL_s true rfl rfl (fun _ => q_fieldAddr (off := 23) (by kernel_rfl) rfl) ?_
    refine aL_s true rfl rfl (fun _ => q_fieldAddr (off := 16) (by kernel_rfl) rfl) ?_
    refine aL_eff rfl (e_store 5 tk3 rfl rfl rfl rfl ?_)
    simp only [nK, nL]
    refine aL_nil (thn_n (awp_seq ?_))
    refine awp_drawn [5] (by kernel_rfl) ?_
    show aB _ _ _ _ _ 6 #[false, false, false, false, false, false] _
    refine aB_s 0 rfl (by kernel_rfl) true rfl rfl (fun _ => q_call (by kernel_rfl) rfl (fun w S fp hst => ops_fn.quiet0 hst)) ?_
    simp only [nO, nK, nL]
    refine aB_s 1 rfl (by kernel_rfl) true rfl rfl (fun _ => q_fieldAddr (off := 0) (by kernel_rfl) rfl) ?_
    simp only [nO, nK, nL]
    refine aB_s 2 rfl (by kernel_rfl) true rfl rfl (fun _ => q_load 4 tk3 rfl rfl rfl) ?_
    simp only [nO, nK, nL]
    refine aB_s 3 rfl (by kernel_rfl) true rfl rfl (fun _ => q_idxAgg (i.op) Tryz.underlying67 (by kernel_rfl) rfl rfl (rfl) (hop2) (opsV_get hop1 hop2)) ?_
    simp only [nO, nK, nL]
    refine aB_s 4 rfl (by kernel_rfl) true rfl rfl (fun _ => q_move rfl) ?_
    simp only [nO, nK, nL]
    refine aB_eff (q := false) 5 rfl (by kernel_rfl) rfl rfl (e_callC (caps := []) [] [5, 0] (opF_ok hop1 hop2) rfl rfl rfl rfl rfl (op_all hop1 hop2 (run0 p i c) M b6_5 ⟨habc.1, habc.2.1, habc.2.2, HC.out.r, rfl⟩) ?_)
    rintro v ps' hp' ⟨rfl, rfl, rfl⟩
    rw [hep]
    simp only [nO, nK, nL]
    refine aB_nil (by kernel_rfl) ?_
    refine thn_n (awp_seq (awp_seq (awp_region (aL_s true rfl rfl (fun _ => q_move rfl) (aL_s true rfl rfl (fun _ => q_nilCheck rfl) ?_)))))
    refine aL_s true rfl rfl (fun _ => q_fieldAddr (off := 42) (by kernel_rfl) rfl) ?_
    refine aL_s true rfl rfl (fun _ => q_load 5 tk4 rfl rfl rfl) (aL_nil (thn_n ?_))
    refine awp_cond _ rfl (fun h3 => ?_) (fun h3 => ?_)
    ·skip
     refine awp_seq (awp_region (aL_s true rfl rfl (fun _ => q_load 1 tk33 rfl rfl rfl) ?_))
     refine aL_s true rfl rfl (fun _ => q_bld (l := [(0, .const (.int .i64 5)), (1, .const (.int .i64 6))]) (zs := [.int .i64 0, .int .i64 0]) (pl := [(0, 1), (1, 1)]) (by kernel_rfl) (by kernel_rfl) (by kernel_rfl) rfl rfl rfl) ?_
     refine aL_eff rfl (e_store 2 tk33 rfl rfl rfl rfl ?_)
     simp only [nK, nL]
     refine aL_eff rfl (e_store 3 tk36 rfl rfl rfl rfl ?_)
     simp only [nK, nL]
     refine aL_nil (thn_n (awp_ret (thn_r ?_)))
     refine finR2 [] [0] rfl Tryz.results10 (rv_cell 2 tk33 rfl rfl rfl) (rv_cell 3 tk36 rfl rfl rfl) ?_ (.inr rfl)
     rw [hst0, if_pos h3]; exact ⟨rfl, rfl, rfl⟩
    ·skip
     refine awp_skip (thn_n (awp_seq ?_))
     refine awp_drawn [8, 9] (by kernel_rfl) ?_
     show aB _ _ _ _ _ 10 #[false, false, false, false, false, false, false, false, false, false] _
     refine aB_s 0 rfl (by kernel_rfl) true rfl rfl (fun _ => q_move rfl) ?_
     simp only [nO, nK, nL]
     refine aB_s 1 rfl (by kernel_rfl) true rfl rfl (fun _ => q_nilCheck rfl) ?_
     simp only [nO, nK, nL]
     refine aB_s 2 rfl (by kernel_rfl) true rfl rfl (fun _ => q_fieldAddr (off := 23) (by kernel_rfl) rfl) ?_
     simp only [nO, nK, nL]
     refine aB_s 3 rfl (by kernel_rfl) true rfl rfl (fun _ => q_load 5 tk33 rfl rfl rfl) ?_
     simp only [nO, nK, nL]
     refine aB_p 4 rfl (by kernel_rfl) true rfl rfl (fun _ => q_move rfl) ?_
     simp only [nO, nK, nL]
     refine aB_p 5 rfl (by kernel_rfl) true rfl rfl (fun _ => q_nilCheck rfl) ?_
     simp only [nO, nK, nL]
     refine aB_p 6 rfl (by kernel_rfl) true rfl rfl (fun _ => q_fieldAddr (off := 40) (by kernel_rfl) rfl) ?_
     simp only [nO, nK, nL]
     refine aB_or (qi := true) (qj := false) 7 8 (by kernel_rfl) rfl rfl rfl rfl rfl rfl ?_ ?_
     ·skip
      refine Quiet.eff (q_load 5 tk36 rfl rfl rfl) rfl ?_
      simp only [nO, nK, nL]
      refine aB_eff 8 rfl (by kernel_rfl) rfl rfl (e_store 2 tk33 rfl rfl rfl rfl ?_)
      simp only [nO, nK, nL]
      refine aB_eff 9 rfl (by kernel_rfl) rfl rfl (e_store 3 tk36 rfl rfl rfl rfl ?_)
      simp only [nO, nK, nL]
      refine aB_nil (by kernel_rfl) ?_
      refine thn_n (awp_ret ?_)
      refine finR2 [] [0] rfl Tryz.results10 (rv_cell 2 tk33 rfl rfl rfl) (rv_cell 3 tk36 rfl rfl rfl) ?_ (.inr rfl)
      rw [hst0, if_neg (by rw [h3]; decide)]; exact ⟨rfl, rfl, rfl⟩
     ·skip
      refine id (e_store 2 tk33 rfl rfl rfl rfl ?_)
      simp only [nO, nK, nL]
      refine aB_s 7 rfl (by kernel_rfl) true rfl rfl (fun _ => q_load 5 tk36 rfl rfl rfl) ?_
      simp only [nO, nK, nL]
      refine aB_eff 9 rfl (by kernel_rfl) rfl rfl (e_store 3 tk36 rfl rfl rfl rfl ?_)
      simp only [nO, nK, nL]
      refine aB_nil (by kernel_rfl) ?_
      refine thn_n (awp_ret ?_)
      refine finR2 [] [0] rfl Tryz.results10 (rv_cell 2 tk33 rfl rfl rfl) (rv_cell 3 tk36 rfl rfl rfl) ?_ (.inr rfl)
      rw [hst0, if_neg (by rw [h3]; decide)]; exact ⟨rfl, rfl, rfl⟩
end Go.Proofs.YtpgcoceggacplaaGreatDoor
