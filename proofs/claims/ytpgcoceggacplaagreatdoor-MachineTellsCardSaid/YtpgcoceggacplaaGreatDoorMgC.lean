/- What the machine laws are handed: a setting; the table of instructions. -/
import Derived.Test.YtpgcoceggacplaaGreatDoorMgB
import Derived.Test.YtpgcoceggacplaaGreatDoorMgA
import Derived.Test.YtpgcoceggacplaaGreatDoorSyTab
import Derived.Deep.Slices
import Derived.OpenShut
import Derived.Test.YtpgcoceggacplaaGreatDoorRows
import Derived.WalkKit
import Derived.ProofKit
import Derived.ShutString
import Derived.ChangeOld
import Derived.Below
import Derived.LaidMore
import Derived.Stop.Joined
set_option linter.unusedVariables false
set_option linter.unusedSimpArgs false
set_option maxRecDepth 20000
namespace Go.Sy
open Go.RowKit Go.Lp
section
variable {P : Program} {n : Nat} {s : Sta} {d : Option Tmp} {ty : TypeId} {pos : String} {af : Array Edge} {gd : Option (Nat × Bool)} {v : Value}
/-- an int as a byte -/
theorem q_convB {x : Operand} {S D : TypeId} {z : Int} (hS : (P.underlying S).isSome = true) (hD : P.underlying D = some (.int .u8)) (hx : ev s.env x = some (true, .int .i64 z)) : Quiet P n ⟨d, .convert S D x, ty, pos, af, gd⟩ s (.int .u8 (byteI z).toNat) := by
  have := q_convI (P := P) (n := n) (d := d) (ty := ty) (pos := pos) (af := af) (gd := gd) hS hD hx
  rwa [show IntKind.u8.wrap z = (byteI z).toNat by rw [byteI_nat]; rfl] at this
end
section
variable {P : Program} {n : Nat} {env : Env} {ps : List Per} {hp : List Res} {d : Option Tmp} {ty : TypeId} {pos : String} {af : Array Edge} {gd : Option (Nat × Bool)} {v : Value}
theorem push_fold (bs : List UInt8) : ∀ (r : ByteArray), (bs.map fun b => (b.toNat : Int)).foldl (fun r n => r.push (UInt8.ofNat n.toNat)) r = ⟨r.data ++ bs.toArray⟩ := by
  induction bs with
  | nil => intro r; simp
  | cons b bs ih =>
    intro r
    rw [List.map_cons, List.foldl_cons, ih]
    simp [ByteArray.push]
/-- bytes as a string -/
theorem q_bytesStr {x : Operand} {T E T2 : TypeId} {m c : Nat} {ad : Option Addr} {rows : List (List D)} (i : Nat) (bs : List UInt8) (hT : P.underlying T = some (.slice E)) (hE : P.underlying E = some (.int .u8)) (hD : P.underlying T2 = some .string) (hx : ev env x = some (true, .slice ad m c))
    (hi : hp[i]? = some (OwnS (.slice ad m c) E 1 rows)) (hr : rows = bs.map fun b => [.v (.int .u8 b.toNat)]) (h0 : bs ≠ []) :
    Quiet P n ⟨d, .convert T T2 x, ty, pos, af, gd⟩ ⟨env, ps, hp⟩ (.string (ofBytes bs)) := fun w S fp a hst he hn => by
  have h1 := he.val hx rfl
  subst hr
  rcases hst.res i _ hi with ⟨_, h, _⟩ | ⟨b, cap, hv, ⟨cs, sp, hb, hrows, hcap, _, _⟩, _⟩
  · simp at h; exact absurd h h0
  · injection hv with hv1 hv2 hv3
    subst hv1; subst hv2; subst hv3
    have hl : cs.length = bs.length := by have := hrows.len; simpa using this
    have hcs : cs = bs.map fun b => (.int .u8 b.toNat : Value) := by
      apply List.ext_getElem?
      intro k
      cases hk : bs[k]? with
      | none => rw [List.getElem?_eq_none (by have := List.getElem?_eq_none_iff.1 hk; omega)]; simp [hk]
      | some u =>
        obtain ⟨y, hy, hrep⟩ := hrows.rep k 0 [.v (.int .u8 u.toNat)] (.v (.int .u8 u.toNat)) (by simp [hk]) rfl
        rw [Nat.mul_one, Nat.add_zero] at hy
        rw [hy, repD_v hrep]; simp [hk]
    have hload : (loadCells ⟨b, 0, none⟩ bs.length).run P w = .ok ((bs.map fun b => (b.toNat : Int)).map (Value.int .u8)).toArray w := by
      rw [run_loadCells w ⟨b, 0, none⟩ bs.length (fun k => cs.getD k undef) (fun k hk => by
        have : (Addr.mk b 0 none).add k = ⟨b, k, none⟩ := by
          unfold Addr.add; split
          · rename_i h; rw [h]
          · simp
        rw [this, cell_box hb, List.getElem?_append_left (by omega)]
        simp [List.getD, show k < cs.length by omega])]
      congr 2
      rw [hcs, List.map_map]
      apply List.ext_getElem
      · simp
      · intro k h1 h2
        simp at h1 h2 ⊢
        simp [List.getD, h2]
    have : (convert T T2 (.slice (some ⟨b, 0, none⟩) (bs.map fun b => [D.v (.int .u8 b.toNat)]).length c)).run P w = .ok (.string (ofBytes bs)) w := by
      rw [List.length_map, run_convert_bytes_string w T T2 E _ _ _ hT hE hD, run_bytesToString w ⟨b, 0, none⟩ bs.length c (bs.map fun b => (b.toNat : Int)) hload]
      congr 2
      rw [push_fold]; simp [ofBytes]
    have hx2 : (execOp a.eval ⟨d, .convert T T2 x, ty, pos, af, gd⟩).run P w = .ok (.value (.string (ofBytes bs))) w := by
      unfold execOp; dsimp only; rw [h1]
      show ((convert T T2 _).bind fun r => Sem.pure (Next.value r)).run P w = _
      rw [Sem.run_bind', this]; rfl
    rw [hx2]; exact uponQ_ok _ _
end
end Go.Sy
namespace Go.Proofs.YtpgcoceggacplaaGreatDoor
open Go.RowKit Go.Lp Go.Sy
def irows (l : List Int) : List (List D) := l.map fun k => [.v (.int .i64 k)]
theorem get9_fn (i : InsZ) (k : Int) : Con Tryz.prog 113 [.agg (insZ i).toArray, .int .i64 k] [] [] fun r _ _ => r = .int .i64 (get9 i k) := by
  refine Con.enter Tryz.func113 rfl (by simp [Tryz.ntmps113]) ?_
  show awp _ _ _ _ ⟨[(0, true, _), (1, true, _)], _, _⟩
  refine awp_seq (awp_region ?_)
  refine aL_eff (q := true) rfl (e_box rfl rfl rfl (fun b0_0 => ?_))
  simp only [nM, nN]
  refine aL_s true rfl rfl (fun _ => q_assign rfl) (aL_nil (thn_n (awp_seq (awp_seq (awp_region (aL_s true rfl rfl (fun _ => q_move rfl) (aL_nil ?_)))))))
  refine thn_n (awp_block (awp_seq (awp_region (aL_s true rfl rfl (fun _ => q_eql rfl rfl) (aL_s true rfl rfl (fun _ => q_assign rfl) (aL_nil (thn_n ?_)))))))
  refine awp_cond _ rfl (fun h1 => ?_) (fun h1 => ?_)
  ·skip
   refine awp_seq (awp_region ?_)
   refine aL_s true rfl rfl (fun _ => q_fieldAddr (off := 1) (by kernel_rfl) rfl) ?_
   refine aL_s true rfl rfl (fun _ => q_load 0 tk3 rfl rfl rfl) (aL_s true rfl rfl (fun _ => q_assign rfl) (aL_nil (thn_n (awp_ret (blk_r (thn_r ?_))))))
   refine fin1 [] [] rfl Tryz.results113 rfl ?_ (.inr rfl)
   simp only [decide_eq_true_eq, decide_eq_false_iff_not] at *
   unfold get9
   first | rw [if_pos h1] | rw [if_neg h1, if_pos h2] | rw [if_neg h1, if_neg h2, if_pos h3] | rw [if_neg h1, if_neg h2, if_neg h3]
  ·skip
   refine awp_seq (awp_region (aL_s true rfl rfl (fun _ => q_eql rfl rfl) (aL_s true rfl rfl (fun _ => q_assign rfl) (aL_nil (thn_n ?_)))))
   refine awp_cond _ rfl (fun h2 => ?_) (fun h2 => ?_)
   ·skip
    refine awp_seq (awp_region ?_)
    refine aL_s true rfl rfl (fun _ => q_fieldAddr (off := 2) (by kernel_rfl) rfl) ?_
    refine aL_s true rfl rfl (fun _ => q_load 0 tk3 rfl rfl rfl) (aL_s true rfl rfl (fun _ => q_assign rfl) (aL_nil (thn_n (awp_ret (blk_r (thn_r ?_))))))
    refine fin1 [] [] rfl Tryz.results113 rfl ?_ (.inr rfl)
    simp only [decide_eq_true_eq, decide_eq_false_iff_not] at *
    unfold get9
    first | rw [if_pos h1] | rw [if_neg h1, if_pos h2] | rw [if_neg h1, if_neg h2, if_pos h3] | rw [if_neg h1, if_neg h2, if_neg h3]
   ·skip
    refine awp_seq (awp_region (aL_s true rfl rfl (fun _ => q_eql rfl rfl) (aL_s true rfl rfl (fun _ => q_assign rfl) (aL_nil (thn_n ?_)))))
    refine awp_cond _ rfl (fun h3 => ?_) (fun h3 => ?_)
    ·skip
     refine awp_seq (awp_region ?_)
     refine aL_s true rfl rfl (fun _ => q_fieldAddr (off := 3) (by kernel_rfl) rfl) ?_
     refine aL_s true rfl rfl (fun _ => q_load 0 tk3 rfl rfl rfl) (aL_s true rfl rfl (fun _ => q_assign rfl) (aL_nil (thn_n (awp_ret (blk_r (thn_r ?_))))))
     refine fin1 [] [] rfl Tryz.results113 rfl ?_ (.inr rfl)
     simp only [decide_eq_true_eq, decide_eq_false_iff_not] at *
     unfold get9
     first | rw [if_pos h1] | rw [if_neg h1, if_pos h2] | rw [if_neg h1, if_neg h2, if_pos h3] | rw [if_neg h1, if_neg h2, if_neg h3]
    ·skip
     refine awp_skip (blk_n (thn_n (awp_seq (awp_region ?_))))
     refine aL_s true rfl rfl (fun _ => q_fieldAddr (off := 4) (by kernel_rfl) rfl) ?_
     refine aL_s true rfl rfl (fun _ => q_load 0 tk3 rfl rfl rfl) (aL_s true rfl rfl (fun _ => q_assign rfl) (aL_nil (thn_n (awp_ret ?_))))
     refine fin1 [] [] rfl Tryz.results113 rfl ?_ (.inr rfl)
     simp only [decide_eq_true_eq, decide_eq_false_iff_not] at *
     unfold get9
     first | rw [if_pos h1] | rw [if_neg h1, if_pos h2] | rw [if_neg h1, if_neg h2, if_pos h3] | rw [if_neg h1, if_neg h2, if_neg h3]
theorem has9_fn (l : List Int) (k : Int) (ad : Option Addr) (c : Nat) : Con Tryz.prog 114 [.slice ad l.length c, .int .i64 k] [Sh (.slice ad l.length c) (.sl (irows l))] [] fun r _ _ => r = .bool (l.contains k) := by
  refine Con.enter Tryz.func114 rfl (by simp [Tryz.ntmps114]) ?_
  show awp _ _ _ _ ⟨[(0, true, _), (1, true, _)], _, _⟩
  refine awp_len 0 rfl (fun hlen => ?_)
  have hlen : l.length ≤ 9223372036854775807 := by simpa [irows] using hlen
  refine awp_seq (awp_region (aL_s true rfl rfl (fun _ => q_assign rfl) (aL_nil (thn_n (awp_seq (awp_seq (awp_region ?_)))))))
  refine aL_s true rfl rfl (fun _ => q_assign rfl) (aL_nil (thn_n (awp_block ?_)))
  refine awp_loopK [0, 1, 5] [0] [] (fun (j : Nat) s => (j ≤ l.length ∧ (l.take j).contains k = false) ∧ s = ⟨[(0, true, .slice ad l.length c), (1, true, .int .i64 k), (5, true, .int .i64 j)], [Sh (.slice ad l.length c) (.sl (irows l))], []⟩) (fun j => l.length - j) rfl (⟨0, ⟨Nat.zero_le _, by simp⟩, rfl⟩) ?_
  rintro j s ⟨⟨hj, hno⟩, rfl⟩
  refine awp_seq (awp_seq (awp_region (aL_s true rfl rfl (fun _ => q_move rfl) (aL_s true rfl rfl (fun _ => q_move rfl) (aL_s true rfl rfl (fun _ => q_lenS Tryz.underlying22 rfl) (aL_s true rfl rfl (fun _ => q_lss rfl rfl) (aL_nil ?_)))))))
  refine thn_n ?_
  refine awp_cond _ rfl (fun h1 => ?_) (fun h1 => ?_)
  ·skip
   have hj' : j < l.length := by simp at h1; omega
   obtain ⟨z, hz⟩ : ∃ z, l[j]? = some z := ⟨l[j]'hj', by simp⟩
   refine awp_skip (thn_n (awp_seq (awp_block (awp_seq (awp_region (aL_s true rfl rfl (fun _ => q_move rfl) (aL_s true rfl rfl (fun _ => q_move rfl) ?_)))))))
   refine aL_E true rfl rfl (fun _ => q_indexAddr Tryz.underlying22 tk3 rfl (psAt 0 rfl) rfl (row := [.v (.int .i64 z)]) (by simp [irows, hz]) rfl rfl) (fun h => absurd h (by decide)) (fun ⟨b4_2, o4_2⟩ => ?_)
   refine aL_s true rfl rfl (fun _ => q_loadD (o := 0) (v := .int .i64 z) tk3 rfl (psAt 0 rfl) rfl rfl) (aL_s true rfl rfl (fun _ => q_move rfl) (aL_s true rfl rfl (fun _ => q_eql rfl rfl) (aL_nil (thn_n ?_))))
   refine awp_cond _ rfl (fun h2 => ?_) (fun h2 => ?_)
   ·skip
    refine awp_seq (awp_region (aL_s true rfl rfl (fun _ => q_assign rfl) (aL_nil (thn_n (awp_ret (blk_r (thn_r ?_)))))))
    refine thn_r (blk_r (thn_r ?_))
    refine fin1 [] [] rfl Tryz.results114 rfl ?_ (.inr rfl)
    refine congrArg Value.bool (Eq.symm ?_)
    have : z = k := by simpa using h2
    rw [List.contains_iff_mem, ← this]; exact List.mem_of_getElem? hz
   ·skip
    refine awp_skip (blk_n (thn_n (awp_region (aL_s true rfl rfl (fun _ => q_move rfl) ?_))))
    refine aL_s true rfl rfl (fun _ => q_addi rfl rfl (by omega)) ?_
    refine aL_s true rfl rfl (fun _ => q_assign rfl) (aL_nil (thn_n ?_))
    refine ⟨[0, 1, 5], [0], [], rfl, ?_⟩
    refine ⟨j + 1, ⟨⟨by omega, ?_⟩, rfl⟩, by omega⟩
    have hne : ¬ z = k := by simpa using h2
    have hno' : ¬ k ∈ l.take j := by simpa using hno
    rw [List.take_add_one, hz]
    simp; exact ⟨by simpa using hno', fun e => hne e.symm⟩
  ·skip
   refine awp_exit (thn_e (thn_e (blk_hit (thn_n (awp_seq (awp_region (aL_s true rfl rfl (fun _ => q_assign rfl) ?_)))))))
   refine aL_nil (thn_n (awp_ret ?_))
   refine fin1 [] [] rfl Tryz.results114 rfl ?_ (.inr rfl)
   refine congrArg Value.bool (Eq.symm ?_)
   have e : l.take j = l := List.take_of_length_le (by simp at h1; omega)
   rw [e] at hno; exact hno
theorem opnd9_fn (op : Int) : Con Tryz.prog 112 [.int .i64 op] [] [] fun r ps' hp' => ps' = [] ∧ ∃ ad c, r = .slice ad (ops9 op).length c ∧ hp' = [OwnS (.slice ad (ops9 op).length c) 3 1 (irows (ops9 op))] := by
  refine Con.enter Tryz.func112 rfl (by simp [Tryz.ntmps112]) ?_
  show awp _ _ _ _ ⟨[(0, true, _)], _, _⟩
  refine awp_seq (awp_region (aL_s true rfl rfl (fun _ => q_assign rfl) (aL_nil (thn_n (awp_seq (awp_seq (awp_region ?_)))))))
  refine aL_s true rfl rfl (fun _ => q_move rfl) (aL_nil (thn_n (awp_block (awp_seq (awp_seq (awp_region (aL_s true rfl rfl (fun _ => q_eql rfl rfl) ?_)))))))
  refine aL_s true rfl rfl (fun _ => q_assign rfl) (aL_nil (thn_n ?_))
  refine awp_cond _ rfl (fun h1 => ?_) (fun h1 => ?_)
  ·skip
   refine awp_skip (thn_n ?_)
   refine awp_cond _ rfl (fun _ => ?_) (fun h => absurd (h1.symm.trans h) (by decide))
   refine awp_seq (awp_region ?_)
   refine aL_eff (q := true) rfl (w_lit (zs := [.int .i64 0]) (l := [(0, .const (.int .i64 1)), (1, .const (.int .i64 4))]) el22 (by kernel_rfl) (by decide) (by decide) (by decide) rfl rfl rfl (.more rfl (.v rfl .nil) (.more rfl (.v rfl .nil) .nil)) rfl rfl (fun v7_0 => ?_))
   simp only [nM, nN]
   refine aL_s true rfl rfl (fun _ => q_assign rfl) (aL_nil (thn_n (awp_ret (blk_r (thn_r ?_)))))
   refine fin1 [] [0] rfl Tryz.results112 rfl ?_ (.inr rfl)
   simp only [decide_eq_true_eq, decide_eq_false_iff_not] at *
   first
     | (rw [ops9_1 (by omega)]; exact ⟨rfl, _, _, rfl, rfl⟩)
     | (rw [ops9_2 (by omega)]; exact ⟨rfl, _, _, rfl, rfl⟩)
     | (rw [ops9_3 (by omega)]; exact ⟨rfl, _, _, rfl, rfl⟩)
     | (rw [ops9_4 (by omega)]; exact ⟨rfl, _, _, rfl, rfl⟩)
     | (rw [ops9_5 (by omega)]; exact ⟨rfl, _, _, rfl, rfl⟩)
     | (rw [ops9_6 (by omega)]; exact ⟨rfl, _, _, rfl, rfl⟩)
     | (rw [ops9_7 (by omega) (by omega) (by omega) (by omega) (by omega) (by omega)]; exact ⟨rfl, _, _, rfl, rfl⟩)
  ·skip
   refine awp_seq (awp_region (aL_s true rfl rfl (fun _ => q_eql rfl rfl) (aL_s true rfl rfl (fun _ => q_assign rfl) (aL_nil (thn_n ?_)))))
   refine awp_cond _ rfl (fun h2 => ?_) (fun h2 => ?_)
   ·skip
    refine awp_skip (thn_n ?_)
    refine awp_cond _ rfl (fun _ => ?_) (fun h => absurd (h2.symm.trans h) (by decide))
    refine awp_seq (awp_region ?_)
    refine aL_eff (q := true) rfl (w_lit (zs := [.int .i64 0]) (l := [(0, .const (.int .i64 1)), (1, .const (.int .i64 4))]) el22 (by kernel_rfl) (by decide) (by decide) (by decide) rfl rfl rfl (.more rfl (.v rfl .nil) (.more rfl (.v rfl .nil) .nil)) rfl rfl (fun v7_0 => ?_))
    simp only [nM, nN]
    refine aL_s true rfl rfl (fun _ => q_assign rfl) (aL_nil (thn_n (awp_ret (blk_r (thn_r ?_)))))
    refine fin1 [] [0] rfl Tryz.results112 rfl ?_ (.inr rfl)
    simp only [decide_eq_true_eq, decide_eq_false_iff_not] at *
    first
      | (rw [ops9_1 (by omega)]; exact ⟨rfl, _, _, rfl, rfl⟩)
      | (rw [ops9_2 (by omega)]; exact ⟨rfl, _, _, rfl, rfl⟩)
      | (rw [ops9_3 (by omega)]; exact ⟨rfl, _, _, rfl, rfl⟩)
      | (rw [ops9_4 (by omega)]; exact ⟨rfl, _, _, rfl, rfl⟩)
      | (rw [ops9_5 (by omega)]; exact ⟨rfl, _, _, rfl, rfl⟩)
      | (rw [ops9_6 (by omega)]; exact ⟨rfl, _, _, rfl, rfl⟩)
      | (rw [ops9_7 (by omega) (by omega) (by omega) (by omega) (by omega) (by omega)]; exact ⟨rfl, _, _, rfl, rfl⟩)
   ·skip
    refine awp_seq (awp_region (aL_s true rfl rfl (fun _ => q_eql rfl rfl) (aL_s true rfl rfl (fun _ => q_assign rfl) (aL_nil (thn_n ?_)))))
    refine awp_cond _ rfl (fun h3 => ?_) (fun h3 => ?_)
    ·skip
     refine awp_skip (thn_n ?_)
     refine awp_cond _ rfl (fun _ => ?_) (fun h => absurd (h3.symm.trans h) (by decide))
     refine awp_seq (awp_region ?_)
     refine aL_eff (q := true) rfl (w_lit (zs := [.int .i64 0]) (l := [(0, .const (.int .i64 1)), (1, .const (.int .i64 4))]) el22 (by kernel_rfl) (by decide) (by decide) (by decide) rfl rfl rfl (.more rfl (.v rfl .nil) (.more rfl (.v rfl .nil) .nil)) rfl rfl (fun v7_0 => ?_))
     simp only [nM, nN]
     refine aL_s true rfl rfl (fun _ => q_assign rfl) (aL_nil (thn_n (awp_ret (blk_r (thn_r ?_)))))
     refine fin1 [] [0] rfl Tryz.results112 rfl ?_ (.inr rfl)
     simp only [decide_eq_true_eq, decide_eq_false_iff_not] at *
     first
       | (rw [ops9_1 (by omega)]; exact ⟨rfl, _, _, rfl, rfl⟩)
       | (rw [ops9_2 (by omega)]; exact ⟨rfl, _, _, rfl, rfl⟩)
       | (rw [ops9_3 (by omega)]; exact ⟨rfl, _, _, rfl, rfl⟩)
       | (rw [ops9_4 (by omega)]; exact ⟨rfl, _, _, rfl, rfl⟩)
       | (rw [ops9_5 (by omega)]; exact ⟨rfl, _, _, rfl, rfl⟩)
       | (rw [ops9_6 (by omega)]; exact ⟨rfl, _, _, rfl, rfl⟩)
       | (rw [ops9_7 (by omega) (by omega) (by omega) (by omega) (by omega) (by omega)]; exact ⟨rfl, _, _, rfl, rfl⟩)
    ·skip
     refine awp_seq (awp_region (aL_s true rfl rfl (fun _ => q_eql rfl rfl) (aL_s true rfl rfl (fun _ => q_assign rfl) (aL_nil (thn_n ?_)))))
     refine awp_cond _ rfl (fun h4 => ?_) (fun h4 => ?_)
     ·skip
      refine awp_skip (thn_n ?_)
      refine awp_cond _ rfl (fun _ => ?_) (fun h => absurd (h4.symm.trans h) (by decide))
      refine awp_seq (awp_region ?_)
      refine aL_eff (q := true) rfl (w_lit (zs := [.int .i64 0]) (l := [(0, .const (.int .i64 1)), (1, .const (.int .i64 4))]) el22 (by kernel_rfl) (by decide) (by decide) (by decide) rfl rfl rfl (.more rfl (.v rfl .nil) (.more rfl (.v rfl .nil) .nil)) rfl rfl (fun v7_0 => ?_))
      simp only [nM, nN]
      refine aL_s true rfl rfl (fun _ => q_assign rfl) (aL_nil (thn_n (awp_ret (blk_r (thn_r ?_)))))
      refine fin1 [] [0] rfl Tryz.results112 rfl ?_ (.inr rfl)
      simp only [decide_eq_true_eq, decide_eq_false_iff_not] at *
      first
        | (rw [ops9_1 (by omega)]; exact ⟨rfl, _, _, rfl, rfl⟩)
        | (rw [ops9_2 (by omega)]; exact ⟨rfl, _, _, rfl, rfl⟩)
        | (rw [ops9_3 (by omega)]; exact ⟨rfl, _, _, rfl, rfl⟩)
        | (rw [ops9_4 (by omega)]; exact ⟨rfl, _, _, rfl, rfl⟩)
        | (rw [ops9_5 (by omega)]; exact ⟨rfl, _, _, rfl, rfl⟩)
        | (rw [ops9_6 (by omega)]; exact ⟨rfl, _, _, rfl, rfl⟩)
        | (rw [ops9_7 (by omega) (by omega) (by omega) (by omega) (by omega) (by omega)]; exact ⟨rfl, _, _, rfl, rfl⟩)
     ·skip
      refine awp_region (aL_s true rfl rfl (fun _ => q_eql rfl rfl) (aL_s true rfl rfl (fun _ => q_assign rfl) (aL_nil (thn_n ?_))))
      refine awp_cond _ rfl (fun h5 => ?_) (fun h5 => ?_)
      ·skip
       refine awp_seq (awp_region ?_)
       refine aL_eff (q := true) rfl (w_lit (zs := [.int .i64 0]) (l := [(0, .const (.int .i64 1)), (1, .const (.int .i64 4))]) el22 (by kernel_rfl) (by decide) (by decide) (by decide) rfl rfl rfl (.more rfl (.v rfl .nil) (.more rfl (.v rfl .nil) .nil)) rfl rfl (fun v7_0 => ?_))
       simp only [nM, nN]
       refine aL_s true rfl rfl (fun _ => q_assign rfl) (aL_nil (thn_n (awp_ret (blk_r (thn_r ?_)))))
       refine fin1 [] [0] rfl Tryz.results112 rfl ?_ (.inr rfl)
       simp only [decide_eq_true_eq, decide_eq_false_iff_not] at *
       first
         | (rw [ops9_1 (by omega)]; exact ⟨rfl, _, _, rfl, rfl⟩)
         | (rw [ops9_2 (by omega)]; exact ⟨rfl, _, _, rfl, rfl⟩)
         | (rw [ops9_3 (by omega)]; exact ⟨rfl, _, _, rfl, rfl⟩)
         | (rw [ops9_4 (by omega)]; exact ⟨rfl, _, _, rfl, rfl⟩)
         | (rw [ops9_5 (by omega)]; exact ⟨rfl, _, _, rfl, rfl⟩)
         | (rw [ops9_6 (by omega)]; exact ⟨rfl, _, _, rfl, rfl⟩)
         | (rw [ops9_7 (by omega) (by omega) (by omega) (by omega) (by omega) (by omega)]; exact ⟨rfl, _, _, rfl, rfl⟩)
      ·skip
       refine awp_seq (awp_seq (awp_region (aL_s true rfl rfl (fun _ => q_eql rfl rfl) (aL_s true rfl rfl (fun _ => q_assign rfl) (aL_nil (thn_n ?_))))))
       refine awp_cond _ rfl (fun h6 => ?_) (fun h6 => ?_)
       ·skip
        refine awp_skip (thn_n ?_)
        refine awp_cond _ rfl (fun _ => ?_) (fun h => absurd (h6.symm.trans h) (by decide))
        refine awp_seq (awp_region ?_)
        refine aL_eff (q := true) rfl (w_lit (zs := [.int .i64 0]) (l := [(0, .const (.int .i64 1)), (1, .const (.int .i64 2))]) el22 (by kernel_rfl) (by decide) (by decide) (by decide) rfl rfl rfl (.more rfl (.v rfl .nil) (.more rfl (.v rfl .nil) .nil)) rfl rfl (fun v10_0 => ?_))
        simp only [nM, nN]
        refine aL_s true rfl rfl (fun _ => q_assign rfl) (aL_nil (thn_n (awp_ret (blk_r (thn_r ?_)))))
        refine fin1 [] [0] rfl Tryz.results112 rfl ?_ (.inr rfl)
        simp only [decide_eq_true_eq, decide_eq_false_iff_not] at *
        first
          | (rw [ops9_1 (by omega)]; exact ⟨rfl, _, _, rfl, rfl⟩)
          | (rw [ops9_2 (by omega)]; exact ⟨rfl, _, _, rfl, rfl⟩)
          | (rw [ops9_3 (by omega)]; exact ⟨rfl, _, _, rfl, rfl⟩)
          | (rw [ops9_4 (by omega)]; exact ⟨rfl, _, _, rfl, rfl⟩)
          | (rw [ops9_5 (by omega)]; exact ⟨rfl, _, _, rfl, rfl⟩)
          | (rw [ops9_6 (by omega)]; exact ⟨rfl, _, _, rfl, rfl⟩)
          | (rw [ops9_7 (by omega) (by omega) (by omega) (by omega) (by omega) (by omega)]; exact ⟨rfl, _, _, rfl, rfl⟩)
       ·skip
        refine awp_region (aL_s true rfl rfl (fun _ => q_eql rfl rfl) (aL_s true rfl rfl (fun _ => q_assign rfl) (aL_nil (thn_n ?_))))
        refine awp_cond _ rfl (fun h7 => ?_) (fun h7 => ?_)
        ·skip
         refine awp_seq (awp_region ?_)
         refine aL_eff (q := true) rfl (w_lit (zs := [.int .i64 0]) (l := [(0, .const (.int .i64 1)), (1, .const (.int .i64 2))]) el22 (by kernel_rfl) (by decide) (by decide) (by decide) rfl rfl rfl (.more rfl (.v rfl .nil) (.more rfl (.v rfl .nil) .nil)) rfl rfl (fun v10_0 => ?_))
         simp only [nM, nN]
         refine aL_s true rfl rfl (fun _ => q_assign rfl) (aL_nil (thn_n (awp_ret (blk_r (thn_r ?_)))))
         refine fin1 [] [0] rfl Tryz.results112 rfl ?_ (.inr rfl)
         simp only [decide_eq_true_eq, decide_eq_false_iff_not] at *
         first
           | (rw [ops9_1 (by omega)]; exact ⟨rfl, _, _, rfl, rfl⟩)
           | (rw [ops9_2 (by omega)]; exact ⟨rfl, _, _, rfl, rfl⟩)
           | (rw [ops9_3 (by omega)]; exact ⟨rfl, _, _, rfl, rfl⟩)
           | (rw [ops9_4 (by omega)]; exact ⟨rfl, _, _, rfl, rfl⟩)
           | (rw [ops9_5 (by omega)]; exact ⟨rfl, _, _, rfl, rfl⟩)
           | (rw [ops9_6 (by omega)]; exact ⟨rfl, _, _, rfl, rfl⟩)
           | (rw [ops9_7 (by omega) (by omega) (by omega) (by omega) (by omega) (by omega)]; exact ⟨rfl, _, _, rfl, rfl⟩)
        ·skip
         refine awp_seq (awp_seq (awp_region (aL_s true rfl rfl (fun _ => q_eql rfl rfl) (aL_s true rfl rfl (fun _ => q_assign rfl) (aL_nil (thn_n ?_))))))
         refine awp_cond _ rfl (fun h8 => ?_) (fun h8 => ?_)
         ·skip
          refine awp_skip (thn_n ?_)
          refine awp_cond _ rfl (fun _ => ?_) (fun h => absurd (h8.symm.trans h) (by decide))
          refine awp_seq (awp_region ?_)
          refine aL_eff (q := true) rfl (w_lit (zs := [.int .i64 0]) (l := [(0, .const (.int .i64 1)), (1, .const (.int .i64 2)), (2, .const (.int .i64 3))]) el22 (by kernel_rfl) (by decide) (by decide) (by decide) rfl rfl rfl (.more rfl (.v rfl .nil) (.more rfl (.v rfl .nil) (.more rfl (.v rfl .nil) .nil))) rfl rfl (fun v18_0 => ?_))
          simp only [nM, nN]
          refine aL_s true rfl rfl (fun _ => q_assign rfl) (aL_nil (thn_n (awp_ret (blk_r (thn_r ?_)))))
          refine fin1 [] [0] rfl Tryz.results112 rfl ?_ (.inr rfl)
          simp only [decide_eq_true_eq, decide_eq_false_iff_not] at *
          first
            | (rw [ops9_1 (by omega)]; exact ⟨rfl, _, _, rfl, rfl⟩)
            | (rw [ops9_2 (by omega)]; exact ⟨rfl, _, _, rfl, rfl⟩)
            | (rw [ops9_3 (by omega)]; exact ⟨rfl, _, _, rfl, rfl⟩)
            | (rw [ops9_4 (by omega)]; exact ⟨rfl, _, _, rfl, rfl⟩)
            | (rw [ops9_5 (by omega)]; exact ⟨rfl, _, _, rfl, rfl⟩)
            | (rw [ops9_6 (by omega)]; exact ⟨rfl, _, _, rfl, rfl⟩)
            | (rw [ops9_7 (by omega) (by omega) (by omega) (by omega) (by omega) (by omega)]; exact ⟨rfl, _, _, rfl, rfl⟩)
         ·skip
          refine awp_seq (awp_region (aL_s true rfl rfl (fun _ => q_eql rfl rfl) (aL_s true rfl rfl (fun _ => q_assign rfl) (aL_nil (thn_n ?_)))))
          refine awp_cond _ rfl (fun h9 => ?_) (fun h9 => ?_)
          ·skip
           refine awp_skip (thn_n ?_)
           refine awp_cond _ rfl (fun _ => ?_) (fun h => absurd (h9.symm.trans h) (by decide))
           refine awp_seq (awp_region ?_)
           refine aL_eff (q := true) rfl (w_lit (zs := [.int .i64 0]) (l := [(0, .const (.int .i64 1)), (1, .const (.int .i64 2)), (2, .const (.int .i64 3))]) el22 (by kernel_rfl) (by decide) (by decide) (by decide) rfl rfl rfl (.more rfl (.v rfl .nil) (.more rfl (.v rfl .nil) (.more rfl (.v rfl .nil) .nil))) rfl rfl (fun v18_0 => ?_))
           simp only [nM, nN]
           refine aL_s true rfl rfl (fun _ => q_assign rfl) (aL_nil (thn_n (awp_ret (blk_r (thn_r ?_)))))
           refine fin1 [] [0] rfl Tryz.results112 rfl ?_ (.inr rfl)
           simp only [decide_eq_true_eq, decide_eq_false_iff_not] at *
           first
             | (rw [ops9_1 (by omega)]; exact ⟨rfl, _, _, rfl, rfl⟩)
             | (rw [ops9_2 (by omega)]; exact ⟨rfl, _, _, rfl, rfl⟩)
             | (rw [ops9_3 (by omega)]; exact ⟨rfl, _, _, rfl, rfl⟩)
             | (rw [ops9_4 (by omega)]; exact ⟨rfl, _, _, rfl, rfl⟩)
             | (rw [ops9_5 (by omega)]; exact ⟨rfl, _, _, rfl, rfl⟩)
             | (rw [ops9_6 (by omega)]; exact ⟨rfl, _, _, rfl, rfl⟩)
             | (rw [ops9_7 (by omega) (by omega) (by omega) (by omega) (by omega) (by omega)]; exact ⟨rfl, _, _, rfl, rfl⟩)
          ·skip
           refine awp_seq (awp_region (aL_s true rfl rfl (fun _ => q_eql rfl rfl) (aL_s true rfl rfl (fun _ => q_assign rfl) (aL_nil (thn_n ?_)))))
           refine awp_cond _ rfl (fun h10 => ?_) (fun h10 => ?_)
           ·skip
            refine awp_skip (thn_n ?_)
            refine awp_cond _ rfl (fun _ => ?_) (fun h => absurd (h10.symm.trans h) (by decide))
            refine awp_seq (awp_region ?_)
            refine aL_eff (q := true) rfl (w_lit (zs := [.int .i64 0]) (l := [(0, .const (.int .i64 1)), (1, .const (.int .i64 2)), (2, .const (.int .i64 3))]) el22 (by kernel_rfl) (by decide) (by decide) (by decide) rfl rfl rfl (.more rfl (.v rfl .nil) (.more rfl (.v rfl .nil) (.more rfl (.v rfl .nil) .nil))) rfl rfl (fun v18_0 => ?_))
            simp only [nM, nN]
            refine aL_s true rfl rfl (fun _ => q_assign rfl) (aL_nil (thn_n (awp_ret (blk_r (thn_r ?_)))))
            refine fin1 [] [0] rfl Tryz.results112 rfl ?_ (.inr rfl)
            simp only [decide_eq_true_eq, decide_eq_false_iff_not] at *
            first
              | (rw [ops9_1 (by omega)]; exact ⟨rfl, _, _, rfl, rfl⟩)
              | (rw [ops9_2 (by omega)]; exact ⟨rfl, _, _, rfl, rfl⟩)
              | (rw [ops9_3 (by omega)]; exact ⟨rfl, _, _, rfl, rfl⟩)
              | (rw [ops9_4 (by omega)]; exact ⟨rfl, _, _, rfl, rfl⟩)
              | (rw [ops9_5 (by omega)]; exact ⟨rfl, _, _, rfl, rfl⟩)
              | (rw [ops9_6 (by omega)]; exact ⟨rfl, _, _, rfl, rfl⟩)
              | (rw [ops9_7 (by omega) (by omega) (by omega) (by omega) (by omega) (by omega)]; exact ⟨rfl, _, _, rfl, rfl⟩)
           ·skip
            refine awp_seq (awp_region (aL_s true rfl rfl (fun _ => q_eql rfl rfl) (aL_s true rfl rfl (fun _ => q_assign rfl) (aL_nil (thn_n ?_)))))
            refine awp_cond _ rfl (fun h11 => ?_) (fun h11 => ?_)
            ·skip
             refine awp_skip (thn_n ?_)
             refine awp_cond _ rfl (fun _ => ?_) (fun h => absurd (h11.symm.trans h) (by decide))
             refine awp_seq (awp_region ?_)
             refine aL_eff (q := true) rfl (w_lit (zs := [.int .i64 0]) (l := [(0, .const (.int .i64 1)), (1, .const (.int .i64 2)), (2, .const (.int .i64 3))]) el22 (by kernel_rfl) (by decide) (by decide) (by decide) rfl rfl rfl (.more rfl (.v rfl .nil) (.more rfl (.v rfl .nil) (.more rfl (.v rfl .nil) .nil))) rfl rfl (fun v18_0 => ?_))
             simp only [nM, nN]
             refine aL_s true rfl rfl (fun _ => q_assign rfl) (aL_nil (thn_n (awp_ret (blk_r (thn_r ?_)))))
             refine fin1 [] [0] rfl Tryz.results112 rfl ?_ (.inr rfl)
             simp only [decide_eq_true_eq, decide_eq_false_iff_not] at *
             first
               | (rw [ops9_1 (by omega)]; exact ⟨rfl, _, _, rfl, rfl⟩)
               | (rw [ops9_2 (by omega)]; exact ⟨rfl, _, _, rfl, rfl⟩)
               | (rw [ops9_3 (by omega)]; exact ⟨rfl, _, _, rfl, rfl⟩)
               | (rw [ops9_4 (by omega)]; exact ⟨rfl, _, _, rfl, rfl⟩)
               | (rw [ops9_5 (by omega)]; exact ⟨rfl, _, _, rfl, rfl⟩)
               | (rw [ops9_6 (by omega)]; exact ⟨rfl, _, _, rfl, rfl⟩)
               | (rw [ops9_7 (by omega) (by omega) (by omega) (by omega) (by omega) (by omega)]; exact ⟨rfl, _, _, rfl, rfl⟩)
            ·skip
             refine awp_seq (awp_region (aL_s true rfl rfl (fun _ => q_eql rfl rfl) (aL_s true rfl rfl (fun _ => q_assign rfl) (aL_nil (thn_n ?_)))))
             refine awp_cond _ rfl (fun h12 => ?_) (fun h12 => ?_)
             ·skip
              refine awp_skip (thn_n ?_)
              refine awp_cond _ rfl (fun _ => ?_) (fun h => absurd (h12.symm.trans h) (by decide))
              refine awp_seq (awp_region ?_)
              refine aL_eff (q := true) rfl (w_lit (zs := [.int .i64 0]) (l := [(0, .const (.int .i64 1)), (1, .const (.int .i64 2)), (2, .const (.int .i64 3))]) el22 (by kernel_rfl) (by decide) (by decide) (by decide) rfl rfl rfl (.more rfl (.v rfl .nil) (.more rfl (.v rfl .nil) (.more rfl (.v rfl .nil) .nil))) rfl rfl (fun v18_0 => ?_))
              simp only [nM, nN]
              refine aL_s true rfl rfl (fun _ => q_assign rfl) (aL_nil (thn_n (awp_ret (blk_r (thn_r ?_)))))
              refine fin1 [] [0] rfl Tryz.results112 rfl ?_ (.inr rfl)
              simp only [decide_eq_true_eq, decide_eq_false_iff_not] at *
              first
                | (rw [ops9_1 (by omega)]; exact ⟨rfl, _, _, rfl, rfl⟩)
                | (rw [ops9_2 (by omega)]; exact ⟨rfl, _, _, rfl, rfl⟩)
                | (rw [ops9_3 (by omega)]; exact ⟨rfl, _, _, rfl, rfl⟩)
                | (rw [ops9_4 (by omega)]; exact ⟨rfl, _, _, rfl, rfl⟩)
                | (rw [ops9_5 (by omega)]; exact ⟨rfl, _, _, rfl, rfl⟩)
                | (rw [ops9_6 (by omega)]; exact ⟨rfl, _, _, rfl, rfl⟩)
                | (rw [ops9_7 (by omega) (by omega) (by omega) (by omega) (by omega) (by omega)]; exact ⟨rfl, _, _, rfl, rfl⟩)
             ·skip
              refine awp_seq (awp_region (aL_s true rfl rfl (fun _ => q_eql rfl rfl) (aL_s true rfl rfl (fun _ => q_assign rfl) (aL_nil (thn_n ?_)))))
              refine awp_cond _ rfl (fun h13 => ?_) (fun h13 => ?_)
              ·skip
               refine awp_skip (thn_n ?_)
               refine awp_cond _ rfl (fun _ => ?_) (fun h => absurd (h13.symm.trans h) (by decide))
               refine awp_seq (awp_region ?_)
               refine aL_eff (q := true) rfl (w_lit (zs := [.int .i64 0]) (l := [(0, .const (.int .i64 1)), (1, .const (.int .i64 2)), (2, .const (.int .i64 3))]) el22 (by kernel_rfl) (by decide) (by decide) (by decide) rfl rfl rfl (.more rfl (.v rfl .nil) (.more rfl (.v rfl .nil) (.more rfl (.v rfl .nil) .nil))) rfl rfl (fun v18_0 => ?_))
               simp only [nM, nN]
               refine aL_s true rfl rfl (fun _ => q_assign rfl) (aL_nil (thn_n (awp_ret (blk_r (thn_r ?_)))))
               refine fin1 [] [0] rfl Tryz.results112 rfl ?_ (.inr rfl)
               simp only [decide_eq_true_eq, decide_eq_false_iff_not] at *
               first
                 | (rw [ops9_1 (by omega)]; exact ⟨rfl, _, _, rfl, rfl⟩)
                 | (rw [ops9_2 (by omega)]; exact ⟨rfl, _, _, rfl, rfl⟩)
                 | (rw [ops9_3 (by omega)]; exact ⟨rfl, _, _, rfl, rfl⟩)
                 | (rw [ops9_4 (by omega)]; exact ⟨rfl, _, _, rfl, rfl⟩)
                 | (rw [ops9_5 (by omega)]; exact ⟨rfl, _, _, rfl, rfl⟩)
                 | (rw [ops9_6 (by omega)]; exact ⟨rfl, _, _, rfl, rfl⟩)
                 | (rw [ops9_7 (by omega) (by omega) (by omega) (by omega) (by omega) (by omega)]; exact ⟨rfl, _, _, rfl, rfl⟩)
              ·skip
               refine awp_region (aL_s true rfl rfl (fun _ => q_eql rfl rfl) (aL_s true rfl rfl (fun _ => q_assign rfl) (aL_nil (thn_n ?_))))
               refine awp_cond _ rfl (fun h14 => ?_) (fun h14 => ?_)
               ·skip
                refine awp_seq (awp_region ?_)
                refine aL_eff (q := true) rfl (w_lit (zs := [.int .i64 0]) (l := [(0, .const (.int .i64 1)), (1, .const (.int .i64 2)), (2, .const (.int .i64 3))]) el22 (by kernel_rfl) (by decide) (by decide) (by decide) rfl rfl rfl (.more rfl (.v rfl .nil) (.more rfl (.v rfl .nil) (.more rfl (.v rfl .nil) .nil))) rfl rfl (fun v18_0 => ?_))
                simp only [nM, nN]
                refine aL_s true rfl rfl (fun _ => q_assign rfl) (aL_nil (thn_n (awp_ret (blk_r (thn_r ?_)))))
                refine fin1 [] [0] rfl Tryz.results112 rfl ?_ (.inr rfl)
                simp only [decide_eq_true_eq, decide_eq_false_iff_not] at *
                first
                  | (rw [ops9_1 (by omega)]; exact ⟨rfl, _, _, rfl, rfl⟩)
                  | (rw [ops9_2 (by omega)]; exact ⟨rfl, _, _, rfl, rfl⟩)
                  | (rw [ops9_3 (by omega)]; exact ⟨rfl, _, _, rfl, rfl⟩)
                  | (rw [ops9_4 (by omega)]; exact ⟨rfl, _, _, rfl, rfl⟩)
                  | (rw [ops9_5 (by omega)]; exact ⟨rfl, _, _, rfl, rfl⟩)
                  | (rw [ops9_6 (by omega)]; exact ⟨rfl, _, _, rfl, rfl⟩)
                  | (rw [ops9_7 (by omega) (by omega) (by omega) (by omega) (by omega) (by omega)]; exact ⟨rfl, _, _, rfl, rfl⟩)
               ·skip
                refine awp_seq (awp_seq (awp_region (aL_s true rfl rfl (fun _ => q_eql rfl rfl) (aL_s true rfl rfl (fun _ => q_assign rfl) (aL_nil (thn_n ?_))))))
                refine awp_cond _ rfl (fun h15 => ?_) (fun h15 => ?_)
                ·skip
                 refine awp_skip (thn_n ?_)
                 refine awp_cond _ rfl (fun _ => ?_) (fun h => absurd (h15.symm.trans h) (by decide))
                 refine awp_seq (awp_region ?_)
                 refine aL_eff (q := true) rfl (w_lit (zs := [.int .i64 0]) (l := [(0, .const (.int .i64 1)), (1, .const (.int .i64 2)), (2, .const (.int .i64 4))]) el22 (by kernel_rfl) (by decide) (by decide) (by decide) rfl rfl rfl (.more rfl (.v rfl .nil) (.more rfl (.v rfl .nil) (.more rfl (.v rfl .nil) .nil))) rfl rfl (fun v24_0 => ?_))
                 simp only [nM, nN]
                 refine aL_s true rfl rfl (fun _ => q_assign rfl) (aL_nil (thn_n (awp_ret (blk_r (thn_r ?_)))))
                 refine fin1 [] [0] rfl Tryz.results112 rfl ?_ (.inr rfl)
                 simp only [decide_eq_true_eq, decide_eq_false_iff_not] at *
                 first
                   | (rw [ops9_1 (by omega)]; exact ⟨rfl, _, _, rfl, rfl⟩)
                   | (rw [ops9_2 (by omega)]; exact ⟨rfl, _, _, rfl, rfl⟩)
                   | (rw [ops9_3 (by omega)]; exact ⟨rfl, _, _, rfl, rfl⟩)
                   | (rw [ops9_4 (by omega)]; exact ⟨rfl, _, _, rfl, rfl⟩)
                   | (rw [ops9_5 (by omega)]; exact ⟨rfl, _, _, rfl, rfl⟩)
                   | (rw [ops9_6 (by omega)]; exact ⟨rfl, _, _, rfl, rfl⟩)
                   | (rw [ops9_7 (by omega) (by omega) (by omega) (by omega) (by omega) (by omega)]; exact ⟨rfl, _, _, rfl, rfl⟩)
                ·skip
                 refine awp_seq (awp_region (aL_s true rfl rfl (fun _ => q_eql rfl rfl) (aL_s true rfl rfl (fun _ => q_assign rfl) (aL_nil (thn_n ?_)))))
                 refine awp_cond _ rfl (fun h16 => ?_) (fun h16 => ?_)
                 ·skip
                  refine awp_skip (thn_n ?_)
                  refine awp_cond _ rfl (fun _ => ?_) (fun h => absurd (h16.symm.trans h) (by decide))
                  refine awp_seq (awp_region ?_)
                  refine aL_eff (q := true) rfl (w_lit (zs := [.int .i64 0]) (l := [(0, .const (.int .i64 1)), (1, .const (.int .i64 2)), (2, .const (.int .i64 4))]) el22 (by kernel_rfl) (by decide) (by decide) (by decide) rfl rfl rfl (.more rfl (.v rfl .nil) (.more rfl (.v rfl .nil) (.more rfl (.v rfl .nil) .nil))) rfl rfl (fun v24_0 => ?_))
                  simp only [nM, nN]
                  refine aL_s true rfl rfl (fun _ => q_assign rfl) (aL_nil (thn_n (awp_ret (blk_r (thn_r ?_)))))
                  refine fin1 [] [0] rfl Tryz.results112 rfl ?_ (.inr rfl)
                  simp only [decide_eq_true_eq, decide_eq_false_iff_not] at *
                  first
                    | (rw [ops9_1 (by omega)]; exact ⟨rfl, _, _, rfl, rfl⟩)
                    | (rw [ops9_2 (by omega)]; exact ⟨rfl, _, _, rfl, rfl⟩)
                    | (rw [ops9_3 (by omega)]; exact ⟨rfl, _, _, rfl, rfl⟩)
                    | (rw [ops9_4 (by omega)]; exact ⟨rfl, _, _, rfl, rfl⟩)
                    | (rw [ops9_5 (by omega)]; exact ⟨rfl, _, _, rfl, rfl⟩)
                    | (rw [ops9_6 (by omega)]; exact ⟨rfl, _, _, rfl, rfl⟩)
                    | (rw [ops9_7 (by omega) (by omega) (by omega) (by omega) (by omega) (by omega)]; exact ⟨rfl, _, _, rfl, rfl⟩)
                 ·skip
                  refine awp_seq (awp_region (aL_s true rfl rfl (fun _ => q_eql rfl rfl) (aL_s true rfl rfl (fun _ => q_assign rfl) (aL_nil (thn_n ?_)))))
                  refine awp_cond _ rfl (fun h17 => ?_) (fun h17 => ?_)
                  ·skip
                   refine awp_skip (thn_n ?_)
                   refine awp_cond _ rfl (fun _ => ?_) (fun h => absurd (h17.symm.trans h) (by decide))
                   refine awp_seq (awp_region ?_)
                   refine aL_eff (q := true) rfl (w_lit (zs := [.int .i64 0]) (l := [(0, .const (.int .i64 1)), (1, .const (.int .i64 2)), (2, .const (.int .i64 4))]) el22 (by kernel_rfl) (by decide) (by decide) (by decide) rfl rfl rfl (.more rfl (.v rfl .nil) (.more rfl (.v rfl .nil) (.more rfl (.v rfl .nil) .nil))) rfl rfl (fun v24_0 => ?_))
                   simp only [nM, nN]
                   refine aL_s true rfl rfl (fun _ => q_assign rfl) (aL_nil (thn_n (awp_ret (blk_r (thn_r ?_)))))
                   refine fin1 [] [0] rfl Tryz.results112 rfl ?_ (.inr rfl)
                   simp only [decide_eq_true_eq, decide_eq_false_iff_not] at *
                   first
                     | (rw [ops9_1 (by omega)]; exact ⟨rfl, _, _, rfl, rfl⟩)
                     | (rw [ops9_2 (by omega)]; exact ⟨rfl, _, _, rfl, rfl⟩)
                     | (rw [ops9_3 (by omega)]; exact ⟨rfl, _, _, rfl, rfl⟩)
                     | (rw [ops9_4 (by omega)]; exact ⟨rfl, _, _, rfl, rfl⟩)
                     | (rw [ops9_5 (by omega)]; exact ⟨rfl, _, _, rfl, rfl⟩)
                     | (rw [ops9_6 (by omega)]; exact ⟨rfl, _, _, rfl, rfl⟩)
                     | (rw [ops9_7 (by omega) (by omega) (by omega) (by omega) (by omega) (by omega)]; exact ⟨rfl, _, _, rfl, rfl⟩)
                  ·skip
                   refine awp_seq (awp_region (aL_s true rfl rfl (fun _ => q_eql rfl rfl) (aL_s true rfl rfl (fun _ => q_assign rfl) (aL_nil (thn_n ?_)))))
                   refine awp_cond _ rfl (fun h18 => ?_) (fun h18 => ?_)
                   ·skip
                    refine awp_skip (thn_n ?_)
                    refine awp_cond _ rfl (fun _ => ?_) (fun h => absurd (h18.symm.trans h) (by decide))
                    refine awp_seq (awp_region ?_)
                    refine aL_eff (q := true) rfl (w_lit (zs := [.int .i64 0]) (l := [(0, .const (.int .i64 1)), (1, .const (.int .i64 2)), (2, .const (.int .i64 4))]) el22 (by kernel_rfl) (by decide) (by decide) (by decide) rfl rfl rfl (.more rfl (.v rfl .nil) (.more rfl (.v rfl .nil) (.more rfl (.v rfl .nil) .nil))) rfl rfl (fun v24_0 => ?_))
                    simp only [nM, nN]
                    refine aL_s true rfl rfl (fun _ => q_assign rfl) (aL_nil (thn_n (awp_ret (blk_r (thn_r ?_)))))
                    refine fin1 [] [0] rfl Tryz.results112 rfl ?_ (.inr rfl)
                    simp only [decide_eq_true_eq, decide_eq_false_iff_not] at *
                    first
                      | (rw [ops9_1 (by omega)]; exact ⟨rfl, _, _, rfl, rfl⟩)
                      | (rw [ops9_2 (by omega)]; exact ⟨rfl, _, _, rfl, rfl⟩)
                      | (rw [ops9_3 (by omega)]; exact ⟨rfl, _, _, rfl, rfl⟩)
                      | (rw [ops9_4 (by omega)]; exact ⟨rfl, _, _, rfl, rfl⟩)
                      | (rw [ops9_5 (by omega)]; exact ⟨rfl, _, _, rfl, rfl⟩)
                      | (rw [ops9_6 (by omega)]; exact ⟨rfl, _, _, rfl, rfl⟩)
                      | (rw [ops9_7 (by omega) (by omega) (by omega) (by omega) (by omega) (by omega)]; exact ⟨rfl, _, _, rfl, rfl⟩)
                   ·skip
                    refine awp_region (aL_s true rfl rfl (fun _ => q_eql rfl rfl) (aL_s true rfl rfl (fun _ => q_assign rfl) (aL_nil (thn_n ?_))))
                    refine awp_cond _ rfl (fun h19 => ?_) (fun h19 => ?_)
                    ·skip
                     refine awp_seq (awp_region ?_)
                     refine aL_eff (q := true) rfl (w_lit (zs := [.int .i64 0]) (l := [(0, .const (.int .i64 1)), (1, .const (.int .i64 2)), (2, .const (.int .i64 4))]) el22 (by kernel_rfl) (by decide) (by decide) (by decide) rfl rfl rfl (.more rfl (.v rfl .nil) (.more rfl (.v rfl .nil) (.more rfl (.v rfl .nil) .nil))) rfl rfl (fun v24_0 => ?_))
                     simp only [nM, nN]
                     refine aL_s true rfl rfl (fun _ => q_assign rfl) (aL_nil (thn_n (awp_ret (blk_r (thn_r ?_)))))
                     refine fin1 [] [0] rfl Tryz.results112 rfl ?_ (.inr rfl)
                     simp only [decide_eq_true_eq, decide_eq_false_iff_not] at *
                     first
                       | (rw [ops9_1 (by omega)]; exact ⟨rfl, _, _, rfl, rfl⟩)
                       | (rw [ops9_2 (by omega)]; exact ⟨rfl, _, _, rfl, rfl⟩)
                       | (rw [ops9_3 (by omega)]; exact ⟨rfl, _, _, rfl, rfl⟩)
                       | (rw [ops9_4 (by omega)]; exact ⟨rfl, _, _, rfl, rfl⟩)
                       | (rw [ops9_5 (by omega)]; exact ⟨rfl, _, _, rfl, rfl⟩)
                       | (rw [ops9_6 (by omega)]; exact ⟨rfl, _, _, rfl, rfl⟩)
                       | (rw [ops9_7 (by omega) (by omega) (by omega) (by omega) (by omega) (by omega)]; exact ⟨rfl, _, _, rfl, rfl⟩)
                    ·skip
                     refine awp_seq (awp_seq (awp_region (aL_s true rfl rfl (fun _ => q_eql rfl rfl) (aL_s true rfl rfl (fun _ => q_assign rfl) (aL_nil (thn_n ?_))))))
                     refine awp_cond _ rfl (fun h20 => ?_) (fun h20 => ?_)
                     ·skip
                      refine awp_skip (thn_n ?_)
                      refine awp_cond _ rfl (fun _ => ?_) (fun h => absurd (h20.symm.trans h) (by decide))
                      refine awp_seq (awp_region ?_)
                      refine aL_eff (q := true) rfl (w_lit (zs := [.int .i64 0]) (l := [(0, .const (.int .i64 4))]) el22 (by kernel_rfl) (by decide) (by decide) (by decide) rfl rfl rfl (.more rfl (.v rfl .nil) .nil) rfl rfl (fun v30_0 => ?_))
                      simp only [nM, nN]
                      refine aL_s true rfl rfl (fun _ => q_assign rfl) (aL_nil (thn_n (awp_ret (blk_r (thn_r ?_)))))
                      refine fin1 [] [0] rfl Tryz.results112 rfl ?_ (.inr rfl)
                      simp only [decide_eq_true_eq, decide_eq_false_iff_not] at *
                      first
                        | (rw [ops9_1 (by omega)]; exact ⟨rfl, _, _, rfl, rfl⟩)
                        | (rw [ops9_2 (by omega)]; exact ⟨rfl, _, _, rfl, rfl⟩)
                        | (rw [ops9_3 (by omega)]; exact ⟨rfl, _, _, rfl, rfl⟩)
                        | (rw [ops9_4 (by omega)]; exact ⟨rfl, _, _, rfl, rfl⟩)
                        | (rw [ops9_5 (by omega)]; exact ⟨rfl, _, _, rfl, rfl⟩)
                        | (rw [ops9_6 (by omega)]; exact ⟨rfl, _, _, rfl, rfl⟩)
                        | (rw [ops9_7 (by omega) (by omega) (by omega) (by omega) (by omega) (by omega)]; exact ⟨rfl, _, _, rfl, rfl⟩)
                     ·skip
                      refine awp_seq (awp_region (aL_s true rfl rfl (fun _ => q_eql rfl rfl) (aL_s true rfl rfl (fun _ => q_assign rfl) (aL_nil (thn_n ?_)))))
                      refine awp_cond _ rfl (fun h21 => ?_) (fun h21 => ?_)
                      ·skip
                       refine awp_skip (thn_n ?_)
                       refine awp_cond _ rfl (fun _ => ?_) (fun h => absurd (h21.symm.trans h) (by decide))
                       refine awp_seq (awp_region ?_)
                       refine aL_eff (q := true) rfl (w_lit (zs := [.int .i64 0]) (l := [(0, .const (.int .i64 4))]) el22 (by kernel_rfl) (by decide) (by decide) (by decide) rfl rfl rfl (.more rfl (.v rfl .nil) .nil) rfl rfl (fun v30_0 => ?_))
                       simp only [nM, nN]
                       refine aL_s true rfl rfl (fun _ => q_assign rfl) (aL_nil (thn_n (awp_ret (blk_r (thn_r ?_)))))
                       refine fin1 [] [0] rfl Tryz.results112 rfl ?_ (.inr rfl)
                       simp only [decide_eq_true_eq, decide_eq_false_iff_not] at *
                       first
                         | (rw [ops9_1 (by omega)]; exact ⟨rfl, _, _, rfl, rfl⟩)
                         | (rw [ops9_2 (by omega)]; exact ⟨rfl, _, _, rfl, rfl⟩)
                         | (rw [ops9_3 (by omega)]; exact ⟨rfl, _, _, rfl, rfl⟩)
                         | (rw [ops9_4 (by omega)]; exact ⟨rfl, _, _, rfl, rfl⟩)
                         | (rw [ops9_5 (by omega)]; exact ⟨rfl, _, _, rfl, rfl⟩)
                         | (rw [ops9_6 (by omega)]; exact ⟨rfl, _, _, rfl, rfl⟩)
                         | (rw [ops9_7 (by omega) (by omega) (by omega) (by omega) (by omega) (by omega)]; exact ⟨rfl, _, _, rfl, rfl⟩)
                      ·skip
                       refine awp_seq (awp_region (aL_s true rfl rfl (fun _ => q_eql rfl rfl) (aL_s true rfl rfl (fun _ => q_assign rfl) (aL_nil (thn_n ?_)))))
                       refine awp_cond _ rfl (fun h22 => ?_) (fun h22 => ?_)
                       ·skip
                        refine awp_skip (thn_n ?_)
                        refine awp_cond _ rfl (fun _ => ?_) (fun h => absurd (h22.symm.trans h) (by decide))
                        refine awp_seq (awp_region ?_)
                        refine aL_eff (q := true) rfl (w_lit (zs := [.int .i64 0]) (l := [(0, .const (.int .i64 4))]) el22 (by kernel_rfl) (by decide) (by decide) (by decide) rfl rfl rfl (.more rfl (.v rfl .nil) .nil) rfl rfl (fun v30_0 => ?_))
                        simp only [nM, nN]
                        refine aL_s true rfl rfl (fun _ => q_assign rfl) (aL_nil (thn_n (awp_ret (blk_r (thn_r ?_)))))
                        refine fin1 [] [0] rfl Tryz.results112 rfl ?_ (.inr rfl)
                        simp only [decide_eq_true_eq, decide_eq_false_iff_not] at *
                        first
                          | (rw [ops9_1 (by omega)]; exact ⟨rfl, _, _, rfl, rfl⟩)
                          | (rw [ops9_2 (by omega)]; exact ⟨rfl, _, _, rfl, rfl⟩)
                          | (rw [ops9_3 (by omega)]; exact ⟨rfl, _, _, rfl, rfl⟩)
                          | (rw [ops9_4 (by omega)]; exact ⟨rfl, _, _, rfl, rfl⟩)
                          | (rw [ops9_5 (by omega)]; exact ⟨rfl, _, _, rfl, rfl⟩)
                          | (rw [ops9_6 (by omega)]; exact ⟨rfl, _, _, rfl, rfl⟩)
                          | (rw [ops9_7 (by omega) (by omega) (by omega) (by omega) (by omega) (by omega)]; exact ⟨rfl, _, _, rfl, rfl⟩)
                       ·skip
                        refine awp_seq (awp_region (aL_s true rfl rfl (fun _ => q_eql rfl rfl) (aL_s true rfl rfl (fun _ => q_assign rfl) (aL_nil (thn_n ?_)))))
                        refine awp_cond _ rfl (fun h23 => ?_) (fun h23 => ?_)
                        ·skip
                         refine awp_skip (thn_n ?_)
                         refine awp_cond _ rfl (fun _ => ?_) (fun h => absurd (h23.symm.trans h) (by decide))
                         refine awp_seq (awp_region ?_)
                         refine aL_eff (q := true) rfl (w_lit (zs := [.int .i64 0]) (l := [(0, .const (.int .i64 4))]) el22 (by kernel_rfl) (by decide) (by decide) (by decide) rfl rfl rfl (.more rfl (.v rfl .nil) .nil) rfl rfl (fun v30_0 => ?_))
                         simp only [nM, nN]
                         refine aL_s true rfl rfl (fun _ => q_assign rfl) (aL_nil (thn_n (awp_ret (blk_r (thn_r ?_)))))
                         refine fin1 [] [0] rfl Tryz.results112 rfl ?_ (.inr rfl)
                         simp only [decide_eq_true_eq, decide_eq_false_iff_not] at *
                         first
                           | (rw [ops9_1 (by omega)]; exact ⟨rfl, _, _, rfl, rfl⟩)
                           | (rw [ops9_2 (by omega)]; exact ⟨rfl, _, _, rfl, rfl⟩)
                           | (rw [ops9_3 (by omega)]; exact ⟨rfl, _, _, rfl, rfl⟩)
                           | (rw [ops9_4 (by omega)]; exact ⟨rfl, _, _, rfl, rfl⟩)
                           | (rw [ops9_5 (by omega)]; exact ⟨rfl, _, _, rfl, rfl⟩)
                           | (rw [ops9_6 (by omega)]; exact ⟨rfl, _, _, rfl, rfl⟩)
                           | (rw [ops9_7 (by omega) (by omega) (by omega) (by omega) (by omega) (by omega)]; exact ⟨rfl, _, _, rfl, rfl⟩)
                        ·skip
                         refine awp_region (aL_s true rfl rfl (fun _ => q_eql rfl rfl) (aL_s true rfl rfl (fun _ => q_assign rfl) (aL_nil (thn_n ?_))))
                         refine awp_cond _ rfl (fun h24 => ?_) (fun h24 => ?_)
                         ·skip
                          refine awp_seq (awp_region ?_)
                          refine aL_eff (q := true) rfl (w_lit (zs := [.int .i64 0]) (l := [(0, .const (.int .i64 4))]) el22 (by kernel_rfl) (by decide) (by decide) (by decide) rfl rfl rfl (.more rfl (.v rfl .nil) .nil) rfl rfl (fun v30_0 => ?_))
                          simp only [nM, nN]
                          refine aL_s true rfl rfl (fun _ => q_assign rfl) (aL_nil (thn_n (awp_ret (blk_r (thn_r ?_)))))
                          refine fin1 [] [0] rfl Tryz.results112 rfl ?_ (.inr rfl)
                          simp only [decide_eq_true_eq, decide_eq_false_iff_not] at *
                          first
                            | (rw [ops9_1 (by omega)]; exact ⟨rfl, _, _, rfl, rfl⟩)
                            | (rw [ops9_2 (by omega)]; exact ⟨rfl, _, _, rfl, rfl⟩)
                            | (rw [ops9_3 (by omega)]; exact ⟨rfl, _, _, rfl, rfl⟩)
                            | (rw [ops9_4 (by omega)]; exact ⟨rfl, _, _, rfl, rfl⟩)
                            | (rw [ops9_5 (by omega)]; exact ⟨rfl, _, _, rfl, rfl⟩)
                            | (rw [ops9_6 (by omega)]; exact ⟨rfl, _, _, rfl, rfl⟩)
                            | (rw [ops9_7 (by omega) (by omega) (by omega) (by omega) (by omega) (by omega)]; exact ⟨rfl, _, _, rfl, rfl⟩)
                         ·skip
                          refine awp_seq (awp_seq (awp_region (aL_s true rfl rfl (fun _ => q_eql rfl rfl) (aL_s true rfl rfl (fun _ => q_assign rfl) (aL_nil (thn_n ?_))))))
                          refine awp_cond _ rfl (fun h25 => ?_) (fun h25 => ?_)
                          ·skip
                           refine awp_skip (thn_n ?_)
                           refine awp_cond _ rfl (fun _ => ?_) (fun h => absurd (h25.symm.trans h) (by decide))
                           refine awp_seq (awp_region ?_)
                           refine aL_eff (q := true) rfl (w_lit (zs := [.int .i64 0]) (l := [(0, .const (.int .i64 1))]) el22 (by kernel_rfl) (by decide) (by decide) (by decide) rfl rfl rfl (.more rfl (.v rfl .nil) .nil) rfl rfl (fun v34_0 => ?_))
                           simp only [nM, nN]
                           refine aL_s true rfl rfl (fun _ => q_assign rfl) (aL_nil (thn_n (awp_ret (blk_r (thn_r ?_)))))
                           refine fin1 [] [0] rfl Tryz.results112 rfl ?_ (.inr rfl)
                           simp only [decide_eq_true_eq, decide_eq_false_iff_not] at *
                           first
                             | (rw [ops9_1 (by omega)]; exact ⟨rfl, _, _, rfl, rfl⟩)
                             | (rw [ops9_2 (by omega)]; exact ⟨rfl, _, _, rfl, rfl⟩)
                             | (rw [ops9_3 (by omega)]; exact ⟨rfl, _, _, rfl, rfl⟩)
                             | (rw [ops9_4 (by omega)]; exact ⟨rfl, _, _, rfl, rfl⟩)
                             | (rw [ops9_5 (by omega)]; exact ⟨rfl, _, _, rfl, rfl⟩)
                             | (rw [ops9_6 (by omega)]; exact ⟨rfl, _, _, rfl, rfl⟩)
                             | (rw [ops9_7 (by omega) (by omega) (by omega) (by omega) (by omega) (by omega)]; exact ⟨rfl, _, _, rfl, rfl⟩)
                          ·skip
                           refine awp_seq (awp_region (aL_s true rfl rfl (fun _ => q_eql rfl rfl) (aL_s true rfl rfl (fun _ => q_assign rfl) (aL_nil (thn_n ?_)))))
                           refine awp_cond _ rfl (fun h26 => ?_) (fun h26 => ?_)
                           ·skip
                            refine awp_skip (thn_n ?_)
                            refine awp_cond _ rfl (fun _ => ?_) (fun h => absurd (h26.symm.trans h) (by decide))
                            refine awp_seq (awp_region ?_)
                            refine aL_eff (q := true) rfl (w_lit (zs := [.int .i64 0]) (l := [(0, .const (.int .i64 1))]) el22 (by kernel_rfl) (by decide) (by decide) (by decide) rfl rfl rfl (.more rfl (.v rfl .nil) .nil) rfl rfl (fun v34_0 => ?_))
                            simp only [nM, nN]
                            refine aL_s true rfl rfl (fun _ => q_assign rfl) (aL_nil (thn_n (awp_ret (blk_r (thn_r ?_)))))
                            refine fin1 [] [0] rfl Tryz.results112 rfl ?_ (.inr rfl)
                            simp only [decide_eq_true_eq, decide_eq_false_iff_not] at *
                            first
                              | (rw [ops9_1 (by omega)]; exact ⟨rfl, _, _, rfl, rfl⟩)
                              | (rw [ops9_2 (by omega)]; exact ⟨rfl, _, _, rfl, rfl⟩)
                              | (rw [ops9_3 (by omega)]; exact ⟨rfl, _, _, rfl, rfl⟩)
                              | (rw [ops9_4 (by omega)]; exact ⟨rfl, _, _, rfl, rfl⟩)
                              | (rw [ops9_5 (by omega)]; exact ⟨rfl, _, _, rfl, rfl⟩)
                              | (rw [ops9_6 (by omega)]; exact ⟨rfl, _, _, rfl, rfl⟩)
                              | (rw [ops9_7 (by omega) (by omega) (by omega) (by omega) (by omega) (by omega)]; exact ⟨rfl, _, _, rfl, rfl⟩)
                           ·skip
                            refine awp_region (aL_s true rfl rfl (fun _ => q_eql rfl rfl) (aL_s true rfl rfl (fun _ => q_assign rfl) (aL_nil (thn_n ?_))))
                            refine awp_cond _ rfl (fun h27 => ?_) (fun h27 => ?_)
                            ·skip
                             refine awp_seq (awp_region ?_)
                             refine aL_eff (q := true) rfl (w_lit (zs := [.int .i64 0]) (l := [(0, .const (.int .i64 1))]) el22 (by kernel_rfl) (by decide) (by decide) (by decide) rfl rfl rfl (.more rfl (.v rfl .nil) .nil) rfl rfl (fun v34_0 => ?_))
                             simp only [nM, nN]
                             refine aL_s true rfl rfl (fun _ => q_assign rfl) (aL_nil (thn_n (awp_ret (blk_r (thn_r ?_)))))
                             refine fin1 [] [0] rfl Tryz.results112 rfl ?_ (.inr rfl)
                             simp only [decide_eq_true_eq, decide_eq_false_iff_not] at *
                             first
                               | (rw [ops9_1 (by omega)]; exact ⟨rfl, _, _, rfl, rfl⟩)
                               | (rw [ops9_2 (by omega)]; exact ⟨rfl, _, _, rfl, rfl⟩)
                               | (rw [ops9_3 (by omega)]; exact ⟨rfl, _, _, rfl, rfl⟩)
                               | (rw [ops9_4 (by omega)]; exact ⟨rfl, _, _, rfl, rfl⟩)
                               | (rw [ops9_5 (by omega)]; exact ⟨rfl, _, _, rfl, rfl⟩)
                               | (rw [ops9_6 (by omega)]; exact ⟨rfl, _, _, rfl, rfl⟩)
                               | (rw [ops9_7 (by omega) (by omega) (by omega) (by omega) (by omega) (by omega)]; exact ⟨rfl, _, _, rfl, rfl⟩)
                            ·skip
                             refine awp_skip (blk_n (thn_n (awp_seq (awp_nil 3 1 (awp_region (aL_s true rfl rfl (fun _ => q_assign rfl) (aL_nil ?_)))))))
                             refine thn_n (awp_ret ?_)
                             refine fin1 [] [0] rfl Tryz.results112 rfl ?_ (.inr rfl)
                             simp only [decide_eq_true_eq, decide_eq_false_iff_not] at *
                             first
                               | (rw [ops9_1 (by omega)]; exact ⟨rfl, _, _, rfl, rfl⟩)
                               | (rw [ops9_2 (by omega)]; exact ⟨rfl, _, _, rfl, rfl⟩)
                               | (rw [ops9_3 (by omega)]; exact ⟨rfl, _, _, rfl, rfl⟩)
                               | (rw [ops9_4 (by omega)]; exact ⟨rfl, _, _, rfl, rfl⟩)
                               | (rw [ops9_5 (by omega)]; exact ⟨rfl, _, _, rfl, rfl⟩)
                               | (rw [ops9_6 (by omega)]; exact ⟨rfl, _, _, rfl, rfl⟩)
                               | (rw [ops9_7 (by omega) (by omega) (by omega) (by omega) (by omega) (by omega)]; exact ⟨rfl, _, _, rfl, rfl⟩)
theorem imm9_1 {op n : Int} (h : op = 19 ∨ op = 20 ∨ op = 21 ∨ op = 24 ∨ op = 25) : imm9 op n = (decide (n % 8 = 0) && fitsB n) := by unfold imm9; rw [if_pos h]
theorem imm9_2 {op n : Int} (h : op = 22) : imm9 op n = (decide (n % 8 = 0) && (decide (-512 ≤ n) && decide (n ≤ 504))) := by unfold imm9; rw [if_neg (by omega), if_pos h]
theorem imm9_3 {op n : Int} (h : op = 30) : imm9 op n = (decide (0 ≤ n) && decide (n ≤ 7)) := by unfold imm9; rw [if_neg (by omega), if_neg (by omega), if_pos h]
theorem imm9_4 {op n : Int} (h : ¬ (op = 19 ∨ op = 20 ∨ op = 21 ∨ op = 24 ∨ op = 25 ∨ op = 22 ∨ op = 30)) : imm9 op n = fitsB n := by unfold imm9; rw [if_neg (by omega), if_neg (by omega), if_neg (by omega)]
theorem right9_fn (i : InsZ) (hn : I64 i.imm) : Con Tryz.prog 96 [.agg (insZ i).toArray] [] [] fun r _ _ => r = .bool (right9 i) := by
  have e8 : (i.imm.tmod 8 = 0) ↔ i.imm % 8 = 0 := by rw [← Int.dvd_iff_tmod_eq_zero, Int.dvd_iff_emod_eq_zero]
  have hno : ∀ (k : Nat), 1 ≤ k → k ≤ 4 → bad9 i k = true → right9 i = false := fun k h1 h4 h => by
    have : k = 1 ∨ k = 2 ∨ k = 3 ∨ k = 4 := by omega
    rcases this with rfl | rfl | rfl | rfl
    · have h' : bad9 i 1 = true := h
      unfold right9; simp [h']
    · have h' : bad9 i 2 = true := h
      unfold right9; simp [h']
    · have h' : bad9 i 3 = true := h
      unfold right9; simp [h']
    · have h' : bad9 i 4 = true := h
      unfold right9; simp [h']
  have hyes : (∀ (k : Nat), 1 ≤ k → k < 5 → bad9 i k = false) → 1 ≤ i.op → i.op ≤ 30 → right9 i = imm9 i.op i.imm := fun h g1 g2 => by
    have h1 : bad9 i 1 = false := h 1 (by omega) (by omega)
    have h2 : bad9 i 2 = false := h 2 (by omega) (by omega)
    have h3 : bad9 i 3 = false := h 3 (by omega) (by omega)
    have h4 : bad9 i 4 = false := h 4 (by omega) (by omega)
    unfold right9; simp [h1, h2, h3, h4, g1, g2]
  refine Con.enter Tryz.func96 rfl (by simp [Tryz.ntmps96]) ?_
  show awp _ _ _ _ ⟨[(0, true, _)], _, _⟩
  refine awp_seq (awp_region ?_)
  refine aL_eff (q := true) rfl (e_box rfl rfl rfl (fun b0_0 => ?_))
  simp only [nM, nN]
  refine aL_s true rfl rfl (fun _ => q_assign rfl) (aL_nil (thn_n (awp_seq (awp_seq (awp_region ?_)))))
  refine aL_s true rfl rfl (fun _ => q_fieldAddr (off := 0) (by kernel_rfl) rfl) ?_
  refine aL_s true rfl rfl (fun _ => q_load 0 tk3 rfl rfl rfl) (aL_s true rfl rfl (fun _ => q_lss rfl rfl) (aL_s true rfl rfl (fun _ => q_move rfl) ?_))
  refine aL_s _ rfl rfl (fun hc => q_fieldAddr (off := 0) (by kernel_rfl) rfl) ?_
  refine aL_s _ rfl rfl (fun hc => q_load 0 tk3 (ev_yes rfl hc) rfl rfl) (aL_s _ rfl rfl (fun hc => q_gtr (ev_yes rfl hc) rfl) (aL_s true rfl rfl (fun _ => q_or rfl rfl (fun h => gf rfl h)) (aL_nil (thn_n ?_))))
  refine awp_cond _ rfl (fun h1 => ?_) (fun h1 => ?_)
  ·skip
   refine awp_seq (awp_region (aL_s true rfl rfl (fun _ => q_assign rfl) (aL_nil (thn_n (awp_ret (thn_r ?_))))))
   refine fin1 [] [] rfl Tryz.results96 rfl ?_ (.inr rfl)
   refine congrArg Value.bool (Eq.symm ?_)
   unfold right9
   simp only [Bool.or_eq_true, decide_eq_true_eq] at h1
   have : (decide (1 ≤ i.op) && decide (i.op ≤ 30)) = false := by rw [Bool.and_eq_false_iff, decide_eq_false_iff_not, decide_eq_false_iff_not]; omega
   rw [this]; rfl
  ·skip
   have hop : 1 ≤ i.op ∧ i.op ≤ 30 := by simp at h1; omega
   refine awp_skip (thn_n (awp_seq (awp_region ?_)))
   refine aL_s true rfl rfl (fun _ => q_fieldAddr (off := 0) (by kernel_rfl) rfl) ?_
   refine aL_s true rfl rfl (fun _ => q_load 0 tk3 rfl rfl rfl) ?_
   refine aL_eff (q := true) rfl (e_call [] [] (by kernel_rfl) rfl rfl rfl rfl (opnd9_fn i.op) ?_)
   rintro v ps' hp' ⟨rfl, ad, c, rfl, rfl⟩
   refine aL_s true rfl rfl (fun _ => q_assign rfl) (aL_nil (thn_n (awp_seq (awp_seq (awp_share 1 rfl (awp_region (aL_s true rfl rfl (fun _ => q_assign rfl) ?_)))))))
   refine aL_nil (thn_n (awp_block ?_))
   refine awp_loopK [1, 3, 4] [0] [0] (fun (k : Nat) s => (1 ≤ k ∧ k ≤ 5 ∧ ∀ j : Nat, 1 ≤ j → j < k → bad9 i j = false) ∧ s = ⟨[(1, true, .pointer (some ⟨b0_0, 0, none⟩)), (3, true, .slice ad (ops9 i.op).length c), (4, true, .int .i64 k)], [Sh (.slice ad (ops9 i.op).length c) (.sl (irows (ops9 i.op)))], [Box b0_0 46 (insZ i)]⟩) (fun k => 5 - k) rfl (⟨1, ⟨by omega, by omega, fun j h1 h2 => by omega⟩, rfl⟩) ?_
   rintro k s ⟨⟨hk1, hk5, hok⟩, rfl⟩
   refine awp_seq (awp_seq (awp_region (aL_s true rfl rfl (fun _ => q_move rfl) (aL_s true rfl rfl (fun _ => q_leq rfl rfl) (aL_nil (thn_n ?_))))))
   refine awp_cond _ rfl (fun h2 => ?_) (fun h2 => ?_)
   ·skip
    have hk' : k ≤ 4 := by simp at h2; omega
    refine awp_skip (thn_n (awp_seq (awp_block (awp_seq (awp_region (aL_s true rfl rfl (fun _ => q_load 0 tk46 rfl rfl rfl) (aL_s true rfl rfl (fun _ => q_move rfl) ?_)))))))
    refine aL_s true rfl rfl (fun _ => q_call (by kernel_rfl) rfl (fun w S fp hst => (get9_fn i k).quiet0 hst)) ?_
    refine aL_s true rfl rfl (fun _ => q_assign rfl) (aL_nil (thn_n (awp_seq (awp_region (aL_s true rfl rfl (fun _ => q_move rfl) (aL_s true rfl rfl (fun _ => q_move rfl) ?_))))))
    refine aL_s true rfl rfl (fun _ => q_call (by kernel_rfl) rfl (fun w S fp hst => (has9_fn (ops9 i.op) k ad c).quiet1 (psAt 0 rfl) hst)) ?_
    refine aL_s true rfl rfl (fun _ => q_not rfl) (aL_s true rfl rfl (fun _ => q_move rfl) (aL_s _ rfl rfl (fun hc => q_move rfl) (aL_s _ rfl rfl (fun hc => q_neq (ev_yes rfl hc) rfl) (aL_s true rfl rfl (fun _ => q_and rfl rfl (fun h => gt rfl h)) (aL_s true rfl rfl (fun _ => q_move rfl) (aL_s _ rfl rfl (fun hc => q_move rfl) (aL_s _ rfl rfl (fun hc => q_lss (ev_yes rfl hc) rfl) ?_)))))))
    refine aL_s _ rfl rfl (fun hc => q_move (ev_yes rfl hc)) (aL_s _ rfl rfl (fun hc => q_move rfl) (aL_s _ rfl rfl (fun hc => q_lss (ev_yes rfl hc) rfl) (aL_s _ rfl rfl (fun hc => q_move (ev_yes rfl hc)) (aL_s _ rfl rfl (fun hc => q_move rfl) (aL_s _ rfl rfl (fun hc => q_gtr (ev_yes rfl hc) rfl) (aL_s _ rfl rfl (fun hc => q_or (ev_yes rfl hc) rfl (fun h => gf hc h)) (aL_s _ rfl rfl (fun hc => q_and (ev_yes rfl hc) rfl (fun h => gt hc h)) ?_)))))))
    refine aL_s true rfl rfl (fun _ => q_or rfl rfl (fun h => gf rfl h)) (aL_nil (thn_n ?_))
    refine awp_cond _ rfl (fun h3 => ?_) (fun h3 => ?_)
    ·skip
     refine awp_seq (awp_region (aL_s true rfl rfl (fun _ => q_assign rfl) (aL_nil (thn_n (awp_ret (blk_r (thn_r ?_)))))))
     refine thn_r (blk_r (thn_r ?_))
     refine fin1 [] [] rfl Tryz.results96 rfl ?_ (.inr rfl)
     exact congrArg Value.bool (hno k hk1 hk' h3).symm
    ·skip
     refine awp_skip (blk_n (thn_n (awp_region (aL_s true rfl rfl (fun _ => q_move rfl) ?_))))
     refine aL_s true rfl rfl (fun _ => q_addi rfl rfl (by omega)) ?_
     refine aL_s true rfl rfl (fun _ => q_assign rfl) (aL_nil (thn_n ?_))
     refine ⟨[1, 3, 4], [0], [0], rfl, ?_⟩
     refine ⟨k + 1, ⟨⟨by omega, by omega, fun j hj1 hj => ?_⟩, rfl⟩, by omega⟩
     by_cases hjk : j = k
     · subst hjk; exact h3
     · exact hok j hj1 (by omega)
   ·skip
    have hr9 : right9 i = imm9 i.op i.imm := hyes (fun j h1 h4 => hok j h1 (by simp at h2; omega)) hop.1 hop.2
    refine awp_exit (thn_e (thn_e (blk_hit (thn_n (awp_seq (awp_seq (awp_region ?_)))))))
    refine aL_s true rfl rfl (fun _ => q_fieldAddr (off := 0) (by kernel_rfl) rfl) ?_
    refine aL_s true rfl rfl (fun _ => q_load 0 tk3 rfl rfl rfl) (aL_nil (thn_n (awp_block (awp_seq (awp_seq (awp_region (aL_s true rfl rfl (fun _ => q_eql rfl rfl) ?_)))))))
    refine aL_s true rfl rfl (fun _ => q_assign rfl) (aL_nil (thn_n ?_))
    refine awp_cond _ rfl (fun h4 => ?_) (fun h4 => ?_)
    ·skip
     refine awp_skip (thn_n ?_)
     refine awp_cond _ rfl (fun _ => ?_) (fun h => absurd (h4.symm.trans h) (by decide))
     refine awp_seq (awp_region ?_)
     refine aL_s true rfl rfl (fun _ => q_fieldAddr (off := 4) (by kernel_rfl) rfl) ?_
     refine aL_s true rfl rfl (fun _ => q_load 0 tk3 rfl rfl rfl) ?_
     refine aL_s true rfl rfl (fun _ => q_rem rfl rfl (by decide)) ?_
     refine aL_s true rfl rfl (fun _ => q_neq rfl rfl) (aL_nil (thn_n ?_))
     refine awp_cond _ rfl (fun h5 => ?_) (fun h5 => ?_)
     ·skip
      refine awp_seq (awp_region (aL_s true rfl rfl (fun _ => q_assign rfl) (aL_nil (thn_n (awp_ret (blk_r (thn_r ?_)))))))
      refine fin1 [] [] rfl Tryz.results96 rfl ?_ (.inr rfl)
      rw [hr9]
      refine congrArg Value.bool ?_
      simp only [decide_eq_true_eq, decide_eq_false_iff_not, Bool.or_eq_true, Bool.or_eq_false_iff, Bool.not_eq_true', Bool.not_eq_false', e8] at *
      first
        | (exfalso; omega)
        | (rw [imm9_1 (by omega), Eq.comm, Bool.and_eq_false_iff]; left; simpa using (by assumption))
        | (rw [imm9_1 (by omega)]; unfold fitsB; simp_all)
        | (rw [imm9_2 (by omega)]; rw [Bool.eq_iff_iff]; simp [fitsB]; omega)
        | (rw [imm9_3 (by omega)])
        | (rw [imm9_4 (by omega)]; rfl)
     ·skip
      refine awp_skip (blk_n (thn_n (awp_seq (awp_region ?_))))
      refine aL_s true rfl rfl (fun _ => q_fieldAddr (off := 4) (by kernel_rfl) rfl) ?_
      refine aL_s true rfl rfl (fun _ => q_load 0 tk3 rfl rfl rfl) (aL_s true rfl rfl (fun _ => q_geq rfl rfl) (aL_s true rfl rfl (fun _ => q_move rfl) ?_))
      refine aL_s _ rfl rfl (fun hc => q_fieldAddr (off := 4) (by kernel_rfl) rfl) ?_
      refine aL_s _ rfl rfl (fun hc => q_load 0 tk3 (ev_yes rfl hc) rfl rfl) (aL_s _ rfl rfl (fun hc => q_leq (ev_yes rfl hc) rfl) (aL_s true rfl rfl (fun _ => q_and rfl rfl (fun h => gt rfl h)) (aL_s true rfl rfl (fun _ => q_assign rfl) (aL_nil (thn_n (awp_ret ?_))))))
      refine fin1 [] [] rfl Tryz.results96 rfl ?_ (.inr rfl)
      rw [hr9]
      refine congrArg Value.bool ?_
      simp only [decide_eq_true_eq, decide_eq_false_iff_not, Bool.or_eq_true, Bool.or_eq_false_iff, Bool.not_eq_true', Bool.not_eq_false', e8] at *
      first
        | (exfalso; omega)
        | (rw [imm9_1 (by omega), Eq.comm, Bool.and_eq_false_iff]; left; simpa using (by assumption))
        | (rw [imm9_1 (by omega)]; unfold fitsB; simp_all)
        | (rw [imm9_2 (by omega)]; rw [Bool.eq_iff_iff]; simp [fitsB]; omega)
        | (rw [imm9_3 (by omega)])
        | (rw [imm9_4 (by omega)]; rfl)
    ·skip
     refine awp_seq (awp_region (aL_s true rfl rfl (fun _ => q_eql rfl rfl) (aL_s true rfl rfl (fun _ => q_assign rfl) (aL_nil (thn_n ?_)))))
     refine awp_cond _ rfl (fun h6 => ?_) (fun h6 => ?_)
     ·skip
      refine awp_skip (thn_n ?_)
      refine awp_cond _ rfl (fun _ => ?_) (fun h => absurd (h6.symm.trans h) (by decide))
      refine awp_seq (awp_region ?_)
      refine aL_s true rfl rfl (fun _ => q_fieldAddr (off := 4) (by kernel_rfl) rfl) ?_
      refine aL_s true rfl rfl (fun _ => q_load 0 tk3 rfl rfl rfl) ?_
      refine aL_s true rfl rfl (fun _ => q_rem rfl rfl (by decide)) ?_
      refine aL_s true rfl rfl (fun _ => q_neq rfl rfl) (aL_nil (thn_n ?_))
      refine awp_cond _ rfl (fun h7 => ?_) (fun h7 => ?_)
      ·skip
       refine awp_seq (awp_region (aL_s true rfl rfl (fun _ => q_assign rfl) (aL_nil (thn_n (awp_ret (blk_r (thn_r ?_)))))))
       refine fin1 [] [] rfl Tryz.results96 rfl ?_ (.inr rfl)
       rw [hr9]
       refine congrArg Value.bool ?_
       simp only [decide_eq_true_eq, decide_eq_false_iff_not, Bool.or_eq_true, Bool.or_eq_false_iff, Bool.not_eq_true', Bool.not_eq_false', e8] at *
       first
         | (exfalso; omega)
         | (rw [imm9_1 (by omega), Eq.comm, Bool.and_eq_false_iff]; left; simpa using (by assumption))
         | (rw [imm9_1 (by omega)]; unfold fitsB; simp_all)
         | (rw [imm9_2 (by omega)]; rw [Bool.eq_iff_iff]; simp [fitsB]; omega)
         | (rw [imm9_3 (by omega)])
         | (rw [imm9_4 (by omega)]; rfl)
      ·skip
       refine awp_skip (blk_n (thn_n (awp_seq (awp_region ?_))))
       refine aL_s true rfl rfl (fun _ => q_fieldAddr (off := 4) (by kernel_rfl) rfl) ?_
       refine aL_s true rfl rfl (fun _ => q_load 0 tk3 rfl rfl rfl) (aL_s true rfl rfl (fun _ => q_geq rfl rfl) (aL_s true rfl rfl (fun _ => q_move rfl) ?_))
       refine aL_s _ rfl rfl (fun hc => q_fieldAddr (off := 4) (by kernel_rfl) rfl) ?_
       refine aL_s _ rfl rfl (fun hc => q_load 0 tk3 (ev_yes rfl hc) rfl rfl) (aL_s _ rfl rfl (fun hc => q_leq (ev_yes rfl hc) rfl) (aL_s true rfl rfl (fun _ => q_and rfl rfl (fun h => gt rfl h)) (aL_s true rfl rfl (fun _ => q_assign rfl) (aL_nil (thn_n (awp_ret ?_))))))
       refine fin1 [] [] rfl Tryz.results96 rfl ?_ (.inr rfl)
       rw [hr9]
       refine congrArg Value.bool ?_
       simp only [decide_eq_true_eq, decide_eq_false_iff_not, Bool.or_eq_true, Bool.or_eq_false_iff, Bool.not_eq_true', Bool.not_eq_false', e8] at *
       first
         | (exfalso; omega)
         | (rw [imm9_1 (by omega), Eq.comm, Bool.and_eq_false_iff]; left; simpa using (by assumption))
         | (rw [imm9_1 (by omega)]; unfold fitsB; simp_all)
         | (rw [imm9_2 (by omega)]; rw [Bool.eq_iff_iff]; simp [fitsB]; omega)
         | (rw [imm9_3 (by omega)])
         | (rw [imm9_4 (by omega)]; rfl)
     ·skip
      refine awp_seq (awp_region (aL_s true rfl rfl (fun _ => q_eql rfl rfl) (aL_s true rfl rfl (fun _ => q_assign rfl) (aL_nil (thn_n ?_)))))
      refine awp_cond _ rfl (fun h8 => ?_) (fun h8 => ?_)
      ·skip
       refine awp_skip (thn_n ?_)
       refine awp_cond _ rfl (fun _ => ?_) (fun h => absurd (h8.symm.trans h) (by decide))
       refine awp_seq (awp_region ?_)
       refine aL_s true rfl rfl (fun _ => q_fieldAddr (off := 4) (by kernel_rfl) rfl) ?_
       refine aL_s true rfl rfl (fun _ => q_load 0 tk3 rfl rfl rfl) ?_
       refine aL_s true rfl rfl (fun _ => q_rem rfl rfl (by decide)) ?_
       refine aL_s true rfl rfl (fun _ => q_neq rfl rfl) (aL_nil (thn_n ?_))
       refine awp_cond _ rfl (fun h9 => ?_) (fun h9 => ?_)
       ·skip
        refine awp_seq (awp_region (aL_s true rfl rfl (fun _ => q_assign rfl) (aL_nil (thn_n (awp_ret (blk_r (thn_r ?_)))))))
        refine fin1 [] [] rfl Tryz.results96 rfl ?_ (.inr rfl)
        rw [hr9]
        refine congrArg Value.bool ?_
        simp only [decide_eq_true_eq, decide_eq_false_iff_not, Bool.or_eq_true, Bool.or_eq_false_iff, Bool.not_eq_true', Bool.not_eq_false', e8] at *
        first
          | (exfalso; omega)
          | (rw [imm9_1 (by omega), Eq.comm, Bool.and_eq_false_iff]; left; simpa using (by assumption))
          | (rw [imm9_1 (by omega)]; unfold fitsB; simp_all)
          | (rw [imm9_2 (by omega)]; rw [Bool.eq_iff_iff]; simp [fitsB]; omega)
          | (rw [imm9_3 (by omega)])
          | (rw [imm9_4 (by omega)]; rfl)
       ·skip
        refine awp_skip (blk_n (thn_n (awp_seq (awp_region ?_))))
        refine aL_s true rfl rfl (fun _ => q_fieldAddr (off := 4) (by kernel_rfl) rfl) ?_
        refine aL_s true rfl rfl (fun _ => q_load 0 tk3 rfl rfl rfl) (aL_s true rfl rfl (fun _ => q_geq rfl rfl) (aL_s true rfl rfl (fun _ => q_move rfl) ?_))
        refine aL_s _ rfl rfl (fun hc => q_fieldAddr (off := 4) (by kernel_rfl) rfl) ?_
        refine aL_s _ rfl rfl (fun hc => q_load 0 tk3 (ev_yes rfl hc) rfl rfl) (aL_s _ rfl rfl (fun hc => q_leq (ev_yes rfl hc) rfl) (aL_s true rfl rfl (fun _ => q_and rfl rfl (fun h => gt rfl h)) (aL_s true rfl rfl (fun _ => q_assign rfl) (aL_nil (thn_n (awp_ret ?_))))))
        refine fin1 [] [] rfl Tryz.results96 rfl ?_ (.inr rfl)
        rw [hr9]
        refine congrArg Value.bool ?_
        simp only [decide_eq_true_eq, decide_eq_false_iff_not, Bool.or_eq_true, Bool.or_eq_false_iff, Bool.not_eq_true', Bool.not_eq_false', e8] at *
        first
          | (exfalso; omega)
          | (rw [imm9_1 (by omega), Eq.comm, Bool.and_eq_false_iff]; left; simpa using (by assumption))
          | (rw [imm9_1 (by omega)]; unfold fitsB; simp_all)
          | (rw [imm9_2 (by omega)]; rw [Bool.eq_iff_iff]; simp [fitsB]; omega)
          | (rw [imm9_3 (by omega)])
          | (rw [imm9_4 (by omega)]; rfl)
      ·skip
       refine awp_seq (awp_region (aL_s true rfl rfl (fun _ => q_eql rfl rfl) (aL_s true rfl rfl (fun _ => q_assign rfl) (aL_nil (thn_n ?_)))))
       refine awp_cond _ rfl (fun h10 => ?_) (fun h10 => ?_)
       ·skip
        refine awp_skip (thn_n ?_)
        refine awp_cond _ rfl (fun _ => ?_) (fun h => absurd (h10.symm.trans h) (by decide))
        refine awp_seq (awp_region ?_)
        refine aL_s true rfl rfl (fun _ => q_fieldAddr (off := 4) (by kernel_rfl) rfl) ?_
        refine aL_s true rfl rfl (fun _ => q_load 0 tk3 rfl rfl rfl) ?_
        refine aL_s true rfl rfl (fun _ => q_rem rfl rfl (by decide)) ?_
        refine aL_s true rfl rfl (fun _ => q_neq rfl rfl) (aL_nil (thn_n ?_))
        refine awp_cond _ rfl (fun h11 => ?_) (fun h11 => ?_)
        ·skip
         refine awp_seq (awp_region (aL_s true rfl rfl (fun _ => q_assign rfl) (aL_nil (thn_n (awp_ret (blk_r (thn_r ?_)))))))
         refine fin1 [] [] rfl Tryz.results96 rfl ?_ (.inr rfl)
         rw [hr9]
         refine congrArg Value.bool ?_
         simp only [decide_eq_true_eq, decide_eq_false_iff_not, Bool.or_eq_true, Bool.or_eq_false_iff, Bool.not_eq_true', Bool.not_eq_false', e8] at *
         first
           | (exfalso; omega)
           | (rw [imm9_1 (by omega), Eq.comm, Bool.and_eq_false_iff]; left; simpa using (by assumption))
           | (rw [imm9_1 (by omega)]; unfold fitsB; simp_all)
           | (rw [imm9_2 (by omega)]; rw [Bool.eq_iff_iff]; simp [fitsB]; omega)
           | (rw [imm9_3 (by omega)])
           | (rw [imm9_4 (by omega)]; rfl)
        ·skip
         refine awp_skip (blk_n (thn_n (awp_seq (awp_region ?_))))
         refine aL_s true rfl rfl (fun _ => q_fieldAddr (off := 4) (by kernel_rfl) rfl) ?_
         refine aL_s true rfl rfl (fun _ => q_load 0 tk3 rfl rfl rfl) (aL_s true rfl rfl (fun _ => q_geq rfl rfl) (aL_s true rfl rfl (fun _ => q_move rfl) ?_))
         refine aL_s _ rfl rfl (fun hc => q_fieldAddr (off := 4) (by kernel_rfl) rfl) ?_
         refine aL_s _ rfl rfl (fun hc => q_load 0 tk3 (ev_yes rfl hc) rfl rfl) (aL_s _ rfl rfl (fun hc => q_leq (ev_yes rfl hc) rfl) (aL_s true rfl rfl (fun _ => q_and rfl rfl (fun h => gt rfl h)) (aL_s true rfl rfl (fun _ => q_assign rfl) (aL_nil (thn_n (awp_ret ?_))))))
         refine fin1 [] [] rfl Tryz.results96 rfl ?_ (.inr rfl)
         rw [hr9]
         refine congrArg Value.bool ?_
         simp only [decide_eq_true_eq, decide_eq_false_iff_not, Bool.or_eq_true, Bool.or_eq_false_iff, Bool.not_eq_true', Bool.not_eq_false', e8] at *
         first
           | (exfalso; omega)
           | (rw [imm9_1 (by omega), Eq.comm, Bool.and_eq_false_iff]; left; simpa using (by assumption))
           | (rw [imm9_1 (by omega)]; unfold fitsB; simp_all)
           | (rw [imm9_2 (by omega)]; rw [Bool.eq_iff_iff]; simp [fitsB]; omega)
           | (rw [imm9_3 (by omega)])
           | (rw [imm9_4 (by omega)]; rfl)
       ·skip
        refine awp_region (aL_s true rfl rfl (fun _ => q_eql rfl rfl) (aL_s true rfl rfl (fun _ => q_assign rfl) (aL_nil (thn_n ?_))))
        refine awp_cond _ rfl (fun h12 => ?_) (fun h12 => ?_)
        ·skip
         refine awp_seq (awp_region ?_)
         refine aL_s true rfl rfl (fun _ => q_fieldAddr (off := 4) (by kernel_rfl) rfl) ?_
         refine aL_s true rfl rfl (fun _ => q_load 0 tk3 rfl rfl rfl) ?_
         refine aL_s true rfl rfl (fun _ => q_rem rfl rfl (by decide)) ?_
         refine aL_s true rfl rfl (fun _ => q_neq rfl rfl) (aL_nil (thn_n ?_))
         refine awp_cond _ rfl (fun h13 => ?_) (fun h13 => ?_)
         ·skip
          refine awp_seq (awp_region (aL_s true rfl rfl (fun _ => q_assign rfl) (aL_nil (thn_n (awp_ret (blk_r (thn_r ?_)))))))
          refine fin1 [] [] rfl Tryz.results96 rfl ?_ (.inr rfl)
          rw [hr9]
          refine congrArg Value.bool ?_
          simp only [decide_eq_true_eq, decide_eq_false_iff_not, Bool.or_eq_true, Bool.or_eq_false_iff, Bool.not_eq_true', Bool.not_eq_false', e8] at *
          first
            | (exfalso; omega)
            | (rw [imm9_1 (by omega), Eq.comm, Bool.and_eq_false_iff]; left; simpa using (by assumption))
            | (rw [imm9_1 (by omega)]; unfold fitsB; simp_all)
            | (rw [imm9_2 (by omega)]; rw [Bool.eq_iff_iff]; simp [fitsB]; omega)
            | (rw [imm9_3 (by omega)])
            | (rw [imm9_4 (by omega)]; rfl)
         ·skip
          refine awp_skip (blk_n (thn_n (awp_seq (awp_region ?_))))
          refine aL_s true rfl rfl (fun _ => q_fieldAddr (off := 4) (by kernel_rfl) rfl) ?_
          refine aL_s true rfl rfl (fun _ => q_load 0 tk3 rfl rfl rfl) (aL_s true rfl rfl (fun _ => q_geq rfl rfl) (aL_s true rfl rfl (fun _ => q_move rfl) ?_))
          refine aL_s _ rfl rfl (fun hc => q_fieldAddr (off := 4) (by kernel_rfl) rfl) ?_
          refine aL_s _ rfl rfl (fun hc => q_load 0 tk3 (ev_yes rfl hc) rfl rfl) (aL_s _ rfl rfl (fun hc => q_leq (ev_yes rfl hc) rfl) (aL_s true rfl rfl (fun _ => q_and rfl rfl (fun h => gt rfl h)) (aL_s true rfl rfl (fun _ => q_assign rfl) (aL_nil (thn_n (awp_ret ?_))))))
          refine fin1 [] [] rfl Tryz.results96 rfl ?_ (.inr rfl)
          rw [hr9]
          refine congrArg Value.bool ?_
          simp only [decide_eq_true_eq, decide_eq_false_iff_not, Bool.or_eq_true, Bool.or_eq_false_iff, Bool.not_eq_true', Bool.not_eq_false', e8] at *
          first
            | (exfalso; omega)
            | (rw [imm9_1 (by omega), Eq.comm, Bool.and_eq_false_iff]; left; simpa using (by assumption))
            | (rw [imm9_1 (by omega)]; unfold fitsB; simp_all)
            | (rw [imm9_2 (by omega)]; rw [Bool.eq_iff_iff]; simp [fitsB]; omega)
            | (rw [imm9_3 (by omega)])
            | (rw [imm9_4 (by omega)]; rfl)
        ·skip
         refine awp_seq (awp_region (aL_s true rfl rfl (fun _ => q_eql rfl rfl) (aL_s true rfl rfl (fun _ => q_assign rfl) (aL_nil (thn_n ?_)))))
         refine awp_cond _ rfl (fun h14 => ?_) (fun h14 => ?_)
         ·skip
          refine awp_seq (awp_region ?_)
          refine aL_s true rfl rfl (fun _ => q_fieldAddr (off := 4) (by kernel_rfl) rfl) ?_
          refine aL_s true rfl rfl (fun _ => q_load 0 tk3 rfl rfl rfl) ?_
          refine aL_s true rfl rfl (fun _ => q_rem rfl rfl (by decide)) ?_
          refine aL_s true rfl rfl (fun _ => q_neq rfl rfl) (aL_s true rfl rfl (fun _ => q_move rfl) ?_)
          refine aL_s _ rfl rfl (fun hc => q_fieldAddr (off := 4) (by kernel_rfl) rfl) ?_
          refine aL_s _ rfl rfl (fun hc => q_load 0 tk3 (ev_yes rfl hc) rfl rfl) (aL_s _ rfl rfl (fun hc => q_lss (ev_yes rfl hc) rfl) (aL_s true rfl rfl (fun _ => q_or rfl rfl (fun h => gf rfl h)) (aL_s true rfl rfl (fun _ => q_move rfl) ?_)))
          refine aL_s _ rfl rfl (fun hc => q_fieldAddr (off := 4) (by kernel_rfl) rfl) ?_
          refine aL_s _ rfl rfl (fun hc => q_load 0 tk3 (ev_yes rfl hc) rfl rfl) (aL_s _ rfl rfl (fun hc => q_gtr (ev_yes rfl hc) rfl) (aL_s true rfl rfl (fun _ => q_or rfl rfl (fun h => gf rfl h)) (aL_nil (thn_n ?_))))
          refine awp_cond _ rfl (fun h15 => ?_) (fun h15 => ?_)
          ·skip
           refine awp_seq (awp_region (aL_s true rfl rfl (fun _ => q_assign rfl) (aL_nil (thn_n (awp_ret (blk_r (thn_r ?_)))))))
           refine fin1 [] [] rfl Tryz.results96 rfl ?_ (.inr rfl)
           rw [hr9]
           refine congrArg Value.bool ?_
           simp only [decide_eq_true_eq, decide_eq_false_iff_not, Bool.or_eq_true, Bool.or_eq_false_iff, Bool.not_eq_true', Bool.not_eq_false', e8] at *
           first
             | (exfalso; omega)
             | (rw [imm9_1 (by omega), Eq.comm, Bool.and_eq_false_iff]; left; simpa using (by assumption))
             | (rw [imm9_1 (by omega)]; unfold fitsB; simp_all)
             | (rw [imm9_2 (by omega)]; rw [Bool.eq_iff_iff]; simp [fitsB]; omega)
             | (rw [imm9_3 (by omega)])
             | (rw [imm9_4 (by omega)]; rfl)
          ·skip
           refine awp_skip (blk_n (thn_n (awp_seq (awp_region ?_))))
           refine aL_s true rfl rfl (fun _ => q_fieldAddr (off := 4) (by kernel_rfl) rfl) ?_
           refine aL_s true rfl rfl (fun _ => q_load 0 tk3 rfl rfl rfl) (aL_s true rfl rfl (fun _ => q_geq rfl rfl) (aL_s true rfl rfl (fun _ => q_move rfl) ?_))
           refine aL_s _ rfl rfl (fun hc => q_fieldAddr (off := 4) (by kernel_rfl) rfl) ?_
           refine aL_s _ rfl rfl (fun hc => q_load 0 tk3 (ev_yes rfl hc) rfl rfl) (aL_s _ rfl rfl (fun hc => q_leq (ev_yes rfl hc) rfl) (aL_s true rfl rfl (fun _ => q_and rfl rfl (fun h => gt rfl h)) (aL_s true rfl rfl (fun _ => q_assign rfl) (aL_nil (thn_n (awp_ret ?_))))))
           refine fin1 [] [] rfl Tryz.results96 rfl ?_ (.inr rfl)
           rw [hr9]
           refine congrArg Value.bool ?_
           simp only [decide_eq_true_eq, decide_eq_false_iff_not, Bool.or_eq_true, Bool.or_eq_false_iff, Bool.not_eq_true', Bool.not_eq_false', e8] at *
           first
             | (exfalso; omega)
             | (rw [imm9_1 (by omega), Eq.comm, Bool.and_eq_false_iff]; left; simpa using (by assumption))
             | (rw [imm9_1 (by omega)]; unfold fitsB; simp_all)
             | (rw [imm9_2 (by omega)]; rw [Bool.eq_iff_iff]; simp [fitsB]; omega)
             | (rw [imm9_3 (by omega)])
             | (rw [imm9_4 (by omega)]; rfl)
         ·skip
          refine awp_seq (awp_region (aL_s true rfl rfl (fun _ => q_eql rfl rfl) (aL_s true rfl rfl (fun _ => q_assign rfl) (aL_nil (thn_n ?_)))))
          refine awp_cond _ rfl (fun h16 => ?_) (fun h16 => ?_)
          ·skip
           refine awp_seq (awp_region ?_)
           refine aL_s true rfl rfl (fun _ => q_fieldAddr (off := 4) (by kernel_rfl) rfl) ?_
           refine aL_s true rfl rfl (fun _ => q_load 0 tk3 rfl rfl rfl) (aL_s true rfl rfl (fun _ => q_geq rfl rfl) (aL_s true rfl rfl (fun _ => q_move rfl) ?_))
           refine aL_s _ rfl rfl (fun hc => q_fieldAddr (off := 4) (by kernel_rfl) rfl) ?_
           refine aL_s _ rfl rfl (fun hc => q_load 0 tk3 (ev_yes rfl hc) rfl rfl) (aL_s _ rfl rfl (fun hc => q_leq (ev_yes rfl hc) rfl) (aL_s true rfl rfl (fun _ => q_and rfl rfl (fun h => gt rfl h)) (aL_s true rfl rfl (fun _ => q_assign rfl) (aL_nil (thn_n (awp_ret (blk_r ?_)))))))
           refine thn_r ?_
           refine fin1 [] [] rfl Tryz.results96 rfl ?_ (.inr rfl)
           rw [hr9]
           refine congrArg Value.bool ?_
           simp only [decide_eq_true_eq, decide_eq_false_iff_not, Bool.or_eq_true, Bool.or_eq_false_iff, Bool.not_eq_true', Bool.not_eq_false', e8] at *
           first
             | (exfalso; omega)
             | (rw [imm9_1 (by omega), Eq.comm, Bool.and_eq_false_iff]; left; simpa using (by assumption))
             | (rw [imm9_1 (by omega)]; unfold fitsB; simp_all)
             | (rw [imm9_2 (by omega)]; rw [Bool.eq_iff_iff]; simp [fitsB]; omega)
             | (rw [imm9_3 (by omega)])
             | (rw [imm9_4 (by omega)]; rfl)
          ·skip
           refine awp_skip (blk_n (thn_n (awp_seq (awp_region ?_))))
           refine aL_s true rfl rfl (fun _ => q_fieldAddr (off := 4) (by kernel_rfl) rfl) ?_
           refine aL_s true rfl rfl (fun _ => q_load 0 tk3 rfl rfl rfl) (aL_s true rfl rfl (fun _ => q_geq rfl rfl) (aL_s true rfl rfl (fun _ => q_move rfl) ?_))
           refine aL_s _ rfl rfl (fun hc => q_fieldAddr (off := 4) (by kernel_rfl) rfl) ?_
           refine aL_s _ rfl rfl (fun hc => q_load 0 tk3 (ev_yes rfl hc) rfl rfl) (aL_s _ rfl rfl (fun hc => q_leq (ev_yes rfl hc) rfl) (aL_s true rfl rfl (fun _ => q_and rfl rfl (fun h => gt rfl h)) (aL_s true rfl rfl (fun _ => q_assign rfl) (aL_nil (thn_n (awp_ret ?_))))))
           refine fin1 [] [] rfl Tryz.results96 rfl ?_ (.inr rfl)
           rw [hr9]
           refine congrArg Value.bool ?_
           simp only [decide_eq_true_eq, decide_eq_false_iff_not, Bool.or_eq_true, Bool.or_eq_false_iff, Bool.not_eq_true', Bool.not_eq_false', e8] at *
           first
             | (exfalso; omega)
             | (rw [imm9_1 (by omega), Eq.comm, Bool.and_eq_false_iff]; left; simpa using (by assumption))
             | (rw [imm9_1 (by omega)]; unfold fitsB; simp_all)
             | (rw [imm9_2 (by omega)]; rw [Bool.eq_iff_iff]; simp [fitsB]; omega)
             | (rw [imm9_3 (by omega)])
             | (rw [imm9_4 (by omega)]; rfl)
theorem encode_fn (i : InsZ) (hn : I64 i.imm) : Con Tryz.prog 38 [.agg (insZ i).toArray] [] [] fun r _ _ => r = .tuple #[.string (ofBytes (encB i)), .bool (right9 i)] := by
  refine Con.enter Tryz.func38 rfl (by simp [Tryz.ntmps38]) ?_
  show awp _ _ _ _ ⟨[(0, true, _)], _, _⟩
  refine awp_seq (awp_region ?_)
  refine aL_eff (q := true) rfl (e_box rfl rfl rfl (fun b0_0 => ?_))
  simp only [nM, nN]
  refine aL_s true rfl rfl (fun _ => q_assign rfl) (aL_s true rfl rfl (fun _ => q_assign rfl) (aL_nil (thn_n (awp_seq (awp_seq (awp_region (aL_s true rfl rfl (fun _ => q_load 0 tk46 rfl rfl rfl) ?_)))))))
  refine aL_s true rfl rfl (fun _ => q_call (by kernel_rfl) rfl (fun w S fp hst => (right9_fn i hn).quiet0 hst)) ?_
  refine aL_s true rfl rfl (fun _ => q_not rfl) (aL_nil (thn_n ?_))
  refine awp_cond _ rfl (fun h1 => ?_) (fun h1 => ?_)
  ·skip
   refine awp_seq (awp_region (aL_s true rfl rfl (fun _ => q_assign rfl) (aL_s true rfl rfl (fun _ => q_assign rfl) (aL_nil (thn_n (awp_ret (thn_r ?_)))))))
   refine fin2 [] [] rfl Tryz.results38 rfl rfl ?_ (.inr rfl)
   have hr : right9 i = false := by simpa using h1
   unfold encB; rw [hr]; rfl
  ·skip
   refine awp_skip (thn_n (awp_seq (awp_region ?_)))
   refine aL_s true rfl rfl (fun _ => q_fieldAddr (off := 4) (by kernel_rfl) rfl) ?_
   refine aL_s true rfl rfl (fun _ => q_load 0 tk3 rfl rfl rfl) (aL_s true rfl rfl (fun _ => q_assign rfl) (aL_nil (thn_n (awp_seq (awp_seq (awp_region (aL_s true rfl rfl (fun _ => q_move rfl) ?_)))))))
   refine aL_s true rfl rfl (fun _ => q_lss rfl rfl) (aL_nil (thn_n ?_))
   refine awp_cond _ rfl (fun h2 => ?_) (fun h2 => ?_)
   ·skip
    obtain ⟨ZZ, hZ⟩ : ∃ z, z = IntKind.i64.wrap (i.imm + 4294967296) := ⟨_, rfl⟩
    have hz : ZZ = n9 i.imm := by unfold n9; rw [if_pos (by simpa using h2)]; exact hZ
    refine awp_region (aL_s true rfl rfl (fun _ => q_move rfl) (aL_s true rfl rfl (fun _ => q_add rfl rfl) (aL_s true rfl rfl (fun _ => q_assign rfl) (aL_nil (thn_n (awp_seq ?_))))))
    rw [← hZ]
    refine awp_region ?_
    refine aL_s true rfl rfl (fun _ => q_fieldAddr (off := 0) (by kernel_rfl) rfl) ?_
    refine aL_s true rfl rfl (fun _ => q_load 0 tk3 rfl rfl rfl) ?_
    refine aL_s true rfl rfl (fun _ => q_convB (by kernel_rfl) Tryz.underlying5 rfl) ?_
    refine aL_s true rfl rfl (fun _ => q_fieldAddr (off := 1) (by kernel_rfl) rfl) ?_
    refine aL_s true rfl rfl (fun _ => q_load 0 tk3 rfl rfl rfl) ?_
    refine aL_s true rfl rfl (fun _ => q_convB (by kernel_rfl) Tryz.underlying5 rfl) ?_
    refine aL_s true rfl rfl (fun _ => q_fieldAddr (off := 2) (by kernel_rfl) rfl) ?_
    refine aL_s true rfl rfl (fun _ => q_load 0 tk3 rfl rfl rfl) ?_
    refine aL_s true rfl rfl (fun _ => q_convB (by kernel_rfl) Tryz.underlying5 rfl) ?_
    refine aL_s true rfl rfl (fun _ => q_fieldAddr (off := 3) (by kernel_rfl) rfl) ?_
    refine aL_s true rfl rfl (fun _ => q_load 0 tk3 rfl rfl rfl) ?_
    refine aL_s true rfl rfl (fun _ => q_convB (by kernel_rfl) Tryz.underlying5 rfl) ?_
    refine aL_s true rfl rfl (fun _ => q_move rfl) ?_
    refine aL_s true rfl rfl (fun _ => q_rem rfl rfl (by decide)) ?_
    refine aL_s true rfl rfl (fun _ => q_convB (by kernel_rfl) Tryz.underlying5 rfl) ?_
    refine aL_s true rfl rfl (fun _ => q_move rfl) ?_
    refine aL_s true rfl rfl (fun _ => q_quo rfl rfl (by decide)) ?_
    refine aL_s true rfl rfl (fun _ => q_rem rfl rfl (by decide)) ?_
    refine aL_s true rfl rfl (fun _ => q_convB (by kernel_rfl) Tryz.underlying5 rfl) ?_
    refine aL_s true rfl rfl (fun _ => q_move rfl) ?_
    refine aL_s true rfl rfl (fun _ => q_quo rfl rfl (by decide)) ?_
    refine aL_s true rfl rfl (fun _ => q_rem rfl rfl (by decide)) ?_
    refine aL_s true rfl rfl (fun _ => q_convB (by kernel_rfl) Tryz.underlying5 rfl) ?_
    refine aL_s true rfl rfl (fun _ => q_move rfl) ?_
    refine aL_s true rfl rfl (fun _ => q_quo rfl rfl (by decide)) ?_
    refine aL_s true rfl rfl (fun _ => q_convB (by kernel_rfl) Tryz.underlying5 rfl) ?_
    refine aL_eff (q := true) rfl (w_lit (zs := [.int .u8 0]) (l := [(0, .tmp 16), (1, .tmp 19), (2, .tmp 22), (3, .tmp 25), (4, .tmp 28), (5, .tmp 32), (6, .tmp 36), (7, .tmp 39)]) el81 (by kernel_rfl) (by decide) (by decide) (by decide) rfl rfl rfl (.more rfl (.v rfl .nil) (.more rfl (.v rfl .nil) (.more rfl (.v rfl .nil) (.more rfl (.v rfl .nil) (.more rfl (.v rfl .nil) (.more rfl (.v rfl .nil) (.more rfl (.v rfl .nil) (.more rfl (.v rfl .nil) .nil)))))))) rfl rfl (fun v6_26 => ?_))
    simp only [nM, nN]
    refine aL_s true rfl rfl (fun _ => q_bytesStr 1 [byteI i.op, byteI i.a, byteI i.b, byteI i.c, byteI (ZZ.tmod 256), byteI ((w64 (ZZ.tdiv 256)).tmod 256), byteI ((w64 (ZZ.tdiv 65536)).tmod 256), byteI (w64 (ZZ.tdiv 16777216))] Tryz.underlying81 Tryz.underlying5 Tryz.underlying9 rfl rfl rfl (by simp)) ?_
    refine aL_s true rfl rfl (fun _ => q_assign rfl) (aL_s true rfl rfl (fun _ => q_assign rfl) (aL_nil (thn_n (awp_ret ?_))))
    refine fin2 [] [] rfl Tryz.results38 rfl rfl ?_ (.inr rfl)
    have hr : right9 i = true := by simpa using h1
    unfold encB enc9; rw [hr, ← hz]; rfl
   ·skip
    obtain ⟨ZZ, hZ⟩ : ∃ z, z = i.imm := ⟨_, rfl⟩
    have hz : ZZ = n9 i.imm := by unfold n9; rw [if_neg (by simpa using h2)]; exact hZ
    refine awp_skip (thn_n (awp_seq ?_))
    rw [← hZ]
    refine awp_region ?_
    refine aL_s true rfl rfl (fun _ => q_fieldAddr (off := 0) (by kernel_rfl) rfl) ?_
    refine aL_s true rfl rfl (fun _ => q_load 0 tk3 rfl rfl rfl) ?_
    refine aL_s true rfl rfl (fun _ => q_convB (by kernel_rfl) Tryz.underlying5 rfl) ?_
    refine aL_s true rfl rfl (fun _ => q_fieldAddr (off := 1) (by kernel_rfl) rfl) ?_
    refine aL_s true rfl rfl (fun _ => q_load 0 tk3 rfl rfl rfl) ?_
    refine aL_s true rfl rfl (fun _ => q_convB (by kernel_rfl) Tryz.underlying5 rfl) ?_
    refine aL_s true rfl rfl (fun _ => q_fieldAddr (off := 2) (by kernel_rfl) rfl) ?_
    refine aL_s true rfl rfl (fun _ => q_load 0 tk3 rfl rfl rfl) ?_
    refine aL_s true rfl rfl (fun _ => q_convB (by kernel_rfl) Tryz.underlying5 rfl) ?_
    refine aL_s true rfl rfl (fun _ => q_fieldAddr (off := 3) (by kernel_rfl) rfl) ?_
    refine aL_s true rfl rfl (fun _ => q_load 0 tk3 rfl rfl rfl) ?_
    refine aL_s true rfl rfl (fun _ => q_convB (by kernel_rfl) Tryz.underlying5 rfl) ?_
    refine aL_s true rfl rfl (fun _ => q_move rfl) ?_
    refine aL_s true rfl rfl (fun _ => q_rem rfl rfl (by decide)) ?_
    refine aL_s true rfl rfl (fun _ => q_convB (by kernel_rfl) Tryz.underlying5 rfl) ?_
    refine aL_s true rfl rfl (fun _ => q_move rfl) ?_
    refine aL_s true rfl rfl (fun _ => q_quo rfl rfl (by decide)) ?_
    refine aL_s true rfl rfl (fun _ => q_rem rfl rfl (by decide)) ?_
    refine aL_s true rfl rfl (fun _ => q_convB (by kernel_rfl) Tryz.underlying5 rfl) ?_
    refine aL_s true rfl rfl (fun _ => q_move rfl) ?_
    refine aL_s true rfl rfl (fun _ => q_quo rfl rfl (by decide)) ?_
    refine aL_s true rfl rfl (fun _ => q_rem rfl rfl (by decide)) ?_
    refine aL_s true rfl rfl (fun _ => q_convB (by kernel_rfl) Tryz.underlying5 rfl) ?_
    refine aL_s true rfl rfl (fun _ => q_move rfl) ?_
    refine aL_s true rfl rfl (fun _ => q_quo rfl rfl (by decide)) ?_
    refine aL_s true rfl rfl (fun _ => q_convB (by kernel_rfl) Tryz.underlying5 rfl) ?_
    refine aL_eff (q := true) rfl (w_lit (zs := [.int .u8 0]) (l := [(0, .tmp 16), (1, .tmp 19), (2, .tmp 22), (3, .tmp 25), (4, .tmp 28), (5, .tmp 32), (6, .tmp 36), (7, .tmp 39)]) el81 (by kernel_rfl) (by decide) (by decide) (by decide) rfl rfl rfl (.more rfl (.v rfl .nil) (.more rfl (.v rfl .nil) (.more rfl (.v rfl .nil) (.more rfl (.v rfl .nil) (.more rfl (.v rfl .nil) (.more rfl (.v rfl .nil) (.more rfl (.v rfl .nil) (.more rfl (.v rfl .nil) .nil)))))))) rfl rfl (fun v6_26 => ?_))
    simp only [nM, nN]
    refine aL_s true rfl rfl (fun _ => q_bytesStr 1 [byteI i.op, byteI i.a, byteI i.b, byteI i.c, byteI (ZZ.tmod 256), byteI ((w64 (ZZ.tdiv 256)).tmod 256), byteI ((w64 (ZZ.tdiv 65536)).tmod 256), byteI (w64 (ZZ.tdiv 16777216))] Tryz.underlying81 Tryz.underlying5 Tryz.underlying9 rfl rfl rfl (by simp)) ?_
    refine aL_s true rfl rfl (fun _ => q_assign rfl) (aL_s true rfl rfl (fun _ => q_assign rfl) (aL_nil (thn_n (awp_ret ?_))))
    refine fin2 [] [] rfl Tryz.results38 rfl rfl ?_ (.inr rfl)
    have hr : right9 i = true := by simpa using h1
    unfold encB enc9; rw [hr, ← hz]; rfl
end Go.Proofs.YtpgcoceggacplaaGreatDoor
namespace Go.Proofs.YtpgcoceggacplaaGreatDoor
open Go.RowKit Go.Lp Go.Sy
theorem few29_fn (x : Stg) (ad : Option Addr) (c : Nat) : Con Tryz.prog 6 [.agg (stgV x ad c).toArray] [] [] fun r _ _ => r = .bool (fewS x) := by
  refine Con.enter Tryz.func6 rfl (by simp [Tryz.ntmps6]) ?_
  show awp _ _ _ _ ⟨[(0, true, _)], _, _⟩
  refine awp_seq (awp_region ?_)
  refine aL_eff (q := true) rfl (e_box rfl rfl rfl (fun b0_0 => ?_))
  simp only [nM, nN]
  refine aL_s true rfl rfl (fun _ => q_assign rfl) (aL_nil (thn_n (awp_seq (awp_region ?_))))
  refine aL_s true rfl rfl (fun _ => q_fieldAddr (off := 0) (by kernel_rfl) rfl) ?_
  refine aL_s true rfl rfl (fun _ => q_load 0 tk9 rfl rfl rfl) (aL_s true rfl rfl (fun _ => q_lenStr Tryz.underlying9 rfl) (aL_s true rfl rfl (fun _ => q_leq rfl rfl) (aL_s true rfl rfl (fun _ => q_move rfl) ?_)))
  refine aL_s _ rfl rfl (fun hc => q_fieldAddr (off := 1) (by kernel_rfl) rfl) ?_
  refine aL_s _ rfl rfl (fun hc => q_load 0 tk9 (ev_yes rfl hc) rfl rfl) (aL_s _ rfl rfl (fun hc => q_lenStr Tryz.underlying9 (ev_yes rfl hc)) (aL_s _ rfl rfl (fun hc => q_leq (ev_yes rfl hc) rfl) (aL_s true rfl rfl (fun _ => q_and rfl rfl (fun h => gt rfl h)) (aL_s true rfl rfl (fun _ => q_move rfl) ?_))))
  refine aL_s _ rfl rfl (fun hc => q_fieldAddr (off := 2) (by kernel_rfl) rfl) ?_
  refine aL_s _ rfl rfl (fun hc => q_load 0 tk3 (ev_yes rfl hc) rfl rfl) (aL_s _ rfl rfl (fun hc => q_leq (ev_yes rfl hc) rfl) (aL_s true rfl rfl (fun _ => q_and rfl rfl (fun h => gt rfl h)) (aL_s true rfl rfl (fun _ => q_move rfl) ?_)))
  refine aL_s _ rfl rfl (fun hc => q_fieldAddr (off := 3) (by kernel_rfl) rfl) ?_
  refine aL_s _ rfl rfl (fun hc => q_load 0 tk22 (ev_yes rfl hc) rfl rfl) (aL_s _ rfl rfl (fun hc => q_lenS Tryz.underlying22 (ev_yes rfl hc)) (aL_s _ rfl rfl (fun hc => q_leq (ev_yes rfl hc) rfl) (aL_s true rfl rfl (fun _ => q_and rfl rfl (fun h => gt rfl h)) (aL_s true rfl rfl (fun _ => q_assign rfl) (aL_nil (thn_n (awp_ret ?_)))))))
  refine fin1 [] [] rfl Tryz.results6 rfl ?_ (.inr rfl)
  refine congrArg Value.bool ?_
  unfold fewS; rw [Bool.eq_iff_iff]; simp; omega
theorem cpuK_set (x : Stg) {k : Nat} (hk : k < 16) : wrC (cpuV (cpuK x k)) k [.int .i64 (x.regs.getD k 0)] = cpuV (cpuK x (k + 1)) := by
  have h := cpuV_set (cpuK x k) (x.regs.getD k 0) hk
  have e : (cpuK x k).set k (x.regs.getD k 0) = cpuK x (k + 1) := by
    unfold Cpu.set cpuK upd
    dsimp only
    congr 1
    funext j
    by_cases h1 : j = k
    · subst h1; simp
    · by_cases h2 : j < k
      · simp [h1, h2, show j < k + 1 by omega]
      · simp [h1, h2, show ¬ j < k + 1 by omega]
  rw [← e, ← h]
  unfold wrC
  rw [List.set_eq_take_append_cons_drop, if_pos (show k < (cpuV (cpuK x k)).length by rw [show (cpuV (cpuK x k)).length = 17 from rfl]; omega)]
  rfl
theorem cpu_fn (x : Stg) (ad : Option Addr) (c : Nat) : Con Tryz.prog 9 [.agg (stgV x ad c).toArray] [Sh (.slice ad x.regs.length c) (.sl (irows x.regs))] [] fun r _ _ => r = .agg (cpuV (cpuS x)).toArray := by
  refine Con.enter Tryz.func9 rfl (by simp [Tryz.ntmps9]) ?_
  show awp _ _ _ _ ⟨[(0, true, _)], _, _⟩
  refine awp_seq (awp_region ?_)
  refine aL_eff (q := true) rfl (e_box rfl rfl rfl (fun b0_0 => ?_))
  simp only [nM, nN]
  refine aL_eff (q := true) rfl (e_alloc (zs := [.int .i64 0, .int .i64 0, .int .i64 0, .int .i64 0, .int .i64 0, .int .i64 0, .int .i64 0, .int .i64 0, .int .i64 0, .int .i64 0, .int .i64 0, .int .i64 0, .int .i64 0, .int .i64 0, .int .i64 0, .int .i64 0, .int .i64 0]) (by kernel_rfl) rfl (fun b0_1 => ?_))
  simp only [nM, nN]
  refine aL_nil (thn_n (awp_seq (awp_region ?_)))
  refine aL_s true rfl rfl (fun _ => q_fieldAddr (off := 4) (by kernel_rfl) rfl) ?_
  refine aL_s true rfl rfl (fun _ => q_load 0 tk3 rfl rfl rfl) ?_
  refine aL_s true rfl rfl (fun _ => q_bld (l := [(1, .tmp 6)]) (zs := [.int .i64 0, .int .i64 0, .int .i64 0, .int .i64 0, .int .i64 0, .int .i64 0, .int .i64 0, .int .i64 0, .int .i64 0, .int .i64 0, .int .i64 0, .int .i64 0, .int .i64 0, .int .i64 0, .int .i64 0, .int .i64 0, .int .i64 0]) (pl := [(0, 16), (16, 1)]) (by kernel_rfl) (by kernel_rfl) (by kernel_rfl) rfl rfl rfl) ?_
  refine aL_eff (q := true) rfl (e_alloc (zs := [.int .i64 0, .int .i64 0, .int .i64 0, .int .i64 0, .int .i64 0, .int .i64 0, .int .i64 0, .int .i64 0, .int .i64 0, .int .i64 0, .int .i64 0, .int .i64 0, .int .i64 0, .int .i64 0, .int .i64 0, .int .i64 0, .int .i64 0]) (by kernel_rfl) rfl (fun b1_3 => ?_))
  simp only [nM, nN]
  refine aL_eff rfl (e_store 2 tk33 rfl rfl rfl rfl ?_)
  simp only [nK, nL]
  refine aL_nil (thn_n (awp_seq (awp_seq (awp_region (aL_s true rfl rfl (fun _ => q_assign rfl) (aL_nil (thn_n ?_)))))))
  refine awp_block (awp_loopK [1, 2, 3, 4] [0] [0, 1, 2] (fun (k : Nat) s => (k ≤ x.regs.length ∧ k ≤ 16) ∧ s = ⟨[(1, true, .pointer (some ⟨b0_0, 0, none⟩)), (2, true, .pointer (some ⟨b0_1, 0, none⟩)), (3, true, .pointer (some ⟨b1_3, 0, none⟩)), (4, true, .int .i64 k)], [Sh (.slice ad x.regs.length c) (.sl (irows x.regs))], [Box b0_0 24 (stgV x ad c), Box b0_1 33 [.int .i64 0, .int .i64 0, .int .i64 0, .int .i64 0, .int .i64 0, .int .i64 0, .int .i64 0, .int .i64 0, .int .i64 0, .int .i64 0, .int .i64 0, .int .i64 0, .int .i64 0, .int .i64 0, .int .i64 0, .int .i64 0, .int .i64 0], Box b1_3 33 (cpuV (cpuK x k))]⟩) (fun k => 16 - k) rfl (⟨0, ⟨Nat.zero_le _, Nat.zero_le _⟩, rfl⟩) ?_)
  rintro k s ⟨⟨hk1, hk2⟩, rfl⟩
  refine awp_seq (awp_seq (awp_region (aL_s true rfl rfl (fun _ => q_move rfl) ?_)))
  refine aL_s true rfl rfl (fun _ => q_fieldAddr (off := 3) (by kernel_rfl) rfl) ?_
  refine aL_s true rfl rfl (fun _ => q_load 0 tk22 rfl rfl rfl) (aL_s true rfl rfl (fun _ => q_lenS Tryz.underlying22 rfl) (aL_s true rfl rfl (fun _ => q_lss rfl rfl) (aL_s true rfl rfl (fun _ => q_move rfl) (aL_s _ rfl rfl (fun hc => q_move rfl) (aL_s _ rfl rfl (fun hc => q_lss (ev_yes rfl hc) rfl) (aL_s true rfl rfl (fun _ => q_and rfl rfl (fun h => gt rfl h)) (aL_nil ?_)))))))
  refine thn_n ?_
  refine awp_cond _ rfl (fun h1 => ?_) (fun h1 => ?_)
  ·skip
   have hk' : k < x.regs.length ∧ k < 16 := by simp at h1; omega
   refine awp_skip (thn_n (awp_seq (awp_block (awp_region (aL_s true rfl rfl (fun _ => q_move rfl) ?_)))))
   refine aL_s true rfl rfl (fun _ => q_fieldAddr (off := 3) (by kernel_rfl) rfl) ?_
   refine aL_s true rfl rfl (fun _ => q_load 0 tk22 rfl rfl rfl) (aL_s true rfl rfl (fun _ => q_move rfl) ?_)
   refine aL_E true rfl rfl (fun _ => q_indexAddr Tryz.underlying22 tk3 rfl (psAt 0 rfl) rfl (row := [.v (.int .i64 (x.regs.getD k 0))]) (by simp [irows, List.getD, hk'.1]) rfl rfl) (fun h => absurd h (by decide)) (fun ⟨b5_4, o5_4⟩ => ?_)
   refine aL_s true rfl rfl (fun _ => q_loadD (o := 0) (v := .int .i64 (x.regs.getD k 0)) tk3 rfl (psAt 0 rfl) rfl rfl) ?_
   refine aL_s true rfl rfl (fun _ => q_fieldAddr (off := 0) (by kernel_rfl) rfl) ?_
   refine aL_s true rfl rfl (fun _ => q_idxArr (k) Tryz.underlying31 tk3 rfl rfl (rfl) (hk'.2)) ?_
   refine aL_eff rfl (e_storeW 2 ([.int .i64 (x.regs.getD k 0)]) (cpuV (cpuK x (k + 1))) tk3 rfl rfl rfl rfl rfl (fun v hv => by rw [List.mem_singleton.1 hv]; rfl) (by show _ ≤ 17; omega) (by rw [show 0 + 0 + k * 1 = k by omega]; exact cpuK_set x hk'.2) ?_)
   simp only [nK, nL]
   refine aL_nil (blk_n (thn_n (awp_region (aL_s true rfl rfl (fun _ => q_move rfl) ?_))))
   refine aL_s true rfl rfl (fun _ => q_addi rfl rfl (by omega)) ?_
   refine aL_s true rfl rfl (fun _ => q_assign rfl) (aL_nil (thn_n ?_))
   refine ⟨[1, 2, 3, 4], [0], [0, 1, 2], rfl, ?_⟩
   refine ⟨k + 1, ⟨⟨by omega, by omega⟩, rfl⟩, by omega⟩
  ·skip
   refine awp_exit (thn_e (thn_e (blk_hit (thn_n (awp_seq (awp_region (aL_s true rfl rfl (fun _ => q_load 2 tk33 rfl rfl rfl) ?_)))))))
   refine aL_eff rfl (e_store 1 tk33 rfl rfl rfl rfl ?_)
   simp only [nK, nL]
   refine aL_nil (thn_n (awp_ret ?_))
   refine finR1 [] [] rfl Tryz.results9 (rv_cell 1 tk33 rfl rfl rfl) ?_ (.inr rfl)
   have e : cpuS x = cpuK x k := by unfold cpuS; congr 1; simp at h1; omega
   rw [e]; rfl
theorem memory_fn (x : Stg) (ad : Option Addr) (c : Nat) (hc : x.code.size ≤ 9223372036854775807) (hd : x.data.size ≤ 9223372036854775807) : Con Tryz.prog 7 [.agg (stgV x ad c).toArray] [] [] fun r ps' hp' => ps' = [] ∧ ∃ p, r = .pointer (some ⟨p, 0, none⟩) ∧ hp' = [SpR p (memS x)] := by
  have l1 := mapM_len [] ⟨512, x.code.size, 0, 0, 0⟩
  have l2 := mapM_len (mapM [] ⟨512, x.code.size, 0, 0, 0⟩).1 ⟨1024, x.data.size, 1, 0, 0⟩
  simp only [List.length_nil] at l1
  refine Con.enter Tryz.func7 rfl (by simp [Tryz.ntmps7]) ?_
  show awp _ _ _ _ ⟨[(0, true, _)], _, _⟩
  refine awp_seq (awp_region ?_)
  refine aL_eff (q := true) rfl (e_box rfl rfl rfl (fun b0_0 => ?_))
  simp only [nM, nN]
  refine aL_s true rfl rfl (fun _ => q_assign rfl) (aL_nil (thn_n (awp_seq (awp_region ?_))))
  refine aL_eff (q := true) rfl (e_call [] [] (by kernel_rfl) rfl rfl rfl rfl (new_fn) ?_)
  rintro v ps' hp' ⟨rfl, p, rfl, rfl⟩
  refine aL_s true rfl rfl (fun _ => q_assign rfl) (aL_nil (thn_n (awp_seq (awp_seq (awp_conv 1 (SpR p []) rfl sp_new (awp_region (aL_s true rfl rfl (fun _ => q_move rfl) ?_)))))))
  refine aL_s true rfl rfl (fun _ => q_ptrNil (by kernel_rfl) rfl) ?_
  refine aL_nil (thn_n ?_)
  refine awp_cond _ rfl (fun h1 => ?_) (fun h1 => ?_)
  ·skip
   exact absurd h1 (by simp)
  ·skip
   refine awp_skip (thn_n (awp_seq (awp_region (aL_s true rfl rfl (fun _ => q_move rfl) ?_))))
   refine aL_s true rfl rfl (fun _ => q_fieldAddr (off := 0) (by kernel_rfl) rfl) ?_
   refine aL_s true rfl rfl (fun _ => q_load 0 tk9 rfl rfl rfl) (aL_s true rfl rfl (fun _ => q_lenStr Tryz.underlying9 rfl) ?_)
   refine aL_s true rfl rfl (fun _ => q_bld (l := [(0, .const (.int .i64 512)), (1, .tmp 10), (2, .const (.int .i64 0))]) (zs := [.int .i64 0, .int .i64 0, .int .i64 0, .int .i64 0, .int .i64 0]) (pl := [(0, 1), (1, 1), (2, 1), (3, 1), (4, 1)]) (by kernel_rfl) (by kernel_rfl) (by kernel_rfl) rfl rfl rfl) ?_
   refine aL_eff (q := false) rfl (e_call [] [1] (by kernel_rfl) rfl rfl rfl rfl (map_con ⟨512, x.code.size, 0, 0, 0⟩ (by simp)) ?_)
   rintro v ps' hp' ⟨rfl, rfl, rfl⟩
   refine aL_nil (thn_n (awp_seq (awp_region (aL_s true rfl rfl (fun _ => q_move rfl) ?_))))
   refine aL_s true rfl rfl (fun _ => q_fieldAddr (off := 1) (by kernel_rfl) rfl) ?_
   refine aL_s true rfl rfl (fun _ => q_load 0 tk9 rfl rfl rfl) (aL_s true rfl rfl (fun _ => q_lenStr Tryz.underlying9 rfl) ?_)
   refine aL_s true rfl rfl (fun _ => q_bld (l := [(0, .const (.int .i64 1024)), (1, .tmp 16), (2, .const (.int .i64 1))]) (zs := [.int .i64 0, .int .i64 0, .int .i64 0, .int .i64 0, .int .i64 0]) (pl := [(0, 1), (1, 1), (2, 1), (3, 1), (4, 1)]) (by kernel_rfl) (by kernel_rfl) (by kernel_rfl) rfl rfl rfl) ?_
   refine aL_eff (q := false) rfl (e_call [] [1] (by kernel_rfl) rfl rfl rfl rfl (map_con ⟨1024, x.data.size, 1, 0, 0⟩ (by omega)) ?_)
   rintro v ps' hp' ⟨rfl, rfl, rfl⟩
   refine aL_nil (thn_n (awp_seq (awp_region (aL_s true rfl rfl (fun _ => q_move rfl) ?_))))
   refine aL_s true rfl rfl (fun _ => q_fieldAddr (off := 2) (by kernel_rfl) rfl) ?_
   refine aL_s true rfl rfl (fun _ => q_load 0 tk3 rfl rfl rfl) ?_
   refine aL_s true rfl rfl (fun _ => q_bld (l := [(0, .const (.int .i64 2048)), (1, .tmp 21), (2, .const (.int .i64 2))]) (zs := [.int .i64 0, .int .i64 0, .int .i64 0, .int .i64 0, .int .i64 0]) (pl := [(0, 1), (1, 1), (2, 1), (3, 1), (4, 1)]) (by kernel_rfl) (by kernel_rfl) (by kernel_rfl) rfl rfl rfl) ?_
   refine aL_eff (q := false) rfl (e_call [] [1] (by kernel_rfl) rfl rfl rfl rfl (map_con ⟨2048, x.stack, 2, 0, 0⟩ (by omega)) ?_)
   rintro v ps' hp' ⟨rfl, rfl, rfl⟩
   refine aL_nil (thn_n (awp_seq (awp_region (aL_s true rfl rfl (fun _ => q_move rfl) ?_))))
   refine aL_s true rfl rfl (fun _ => q_fieldAddr (off := 0) (by kernel_rfl) rfl) ?_
   refine aL_s true rfl rfl (fun _ => q_load 0 tk9 rfl rfl rfl) ?_
   refine aL_eff (q := false) rfl (e_call [] [1] (by kernel_rfl) rfl rfl rfl rfl (write_con 512 x.code hc (by omega)) ?_)
   rintro v ps' hp' ⟨rfl, rfl, rfl⟩
   refine aL_nil (thn_n (awp_seq (awp_region (aL_s true rfl rfl (fun _ => q_move rfl) ?_))))
   refine aL_s true rfl rfl (fun _ => q_fieldAddr (off := 1) (by kernel_rfl) rfl) ?_
   refine aL_s true rfl rfl (fun _ => q_load 0 tk9 rfl rfl rfl) ?_
   refine aL_eff (q := false) rfl (e_call [] [1] (by kernel_rfl) rfl rfl rfl rfl (write_con 1024 x.data hd (by omega)) ?_)
   rintro v ps' hp' ⟨rfl, rfl, rfl⟩
   refine aL_nil (thn_n (awp_seq (awp_region (aL_s true rfl rfl (fun _ => q_move rfl) (aL_s true rfl rfl (fun _ => q_assign rfl) (aL_nil (thn_n ?_)))))))
   refine awp_ret ?_
   refine fin1 [] [1] rfl Tryz.results7 rfl ?_ (.inr rfl)
   exact ⟨rfl, p, rfl, rfl⟩
theorem bytes_fn (x : Stg) (ad : Option Addr) (c p : Nat) (M : Mem) (hc : x.code.size ≤ 400) (hd : x.data.size ≤ 400) (hs : x.stack ≤ 200) : Con Tryz.prog 13 [.pointer (some ⟨p, 0, none⟩), .agg (stgV x ad c).toArray] [] [SpR p M]
    fun r ps' hp' => r = .string (ofBytes (bytesM M x)) ∧ ps' = [] ∧ hp' = [SpR p M] := by
  have r1 := readM_len M 512 x.code.size
  have r2 := readM_len M 1024 x.data.size
  have r3 := readM_len M 2048 x.stack
  refine Con.enter Tryz.func13 rfl (by simp [Tryz.ntmps13]) ?_
  show awp _ _ _ _ ⟨[(0, true, _), (1, true, _)], _, _⟩
  refine awp_seq (awp_region ?_)
  refine aL_eff (q := true) rfl (e_box rfl rfl rfl (fun b0_0 => ?_))
  simp only [nM, nN]
  refine aL_s true rfl rfl (fun _ => q_assign rfl) (aL_nil (thn_n (awp_seq (awp_region (aL_s true rfl rfl (fun _ => q_move rfl) ?_)))))
  refine aL_s true rfl rfl (fun _ => q_fieldAddr (off := 0) (by kernel_rfl) rfl) ?_
  refine aL_s true rfl rfl (fun _ => q_load 1 tk9 rfl rfl rfl) (aL_s true rfl rfl (fun _ => q_lenStr Tryz.underlying9 rfl) ?_)
  refine aL_s true rfl rfl (fun _ => q_call (by kernel_rfl) rfl (fun w S fp hst => q_spread hst 0 rfl 512 x.code.size (by omega))) ?_
  refine aL_s true rfl rfl (fun _ => q_move rfl) (aL_s true rfl rfl (fun _ => q_extract rfl rfl) (aL_s true rfl rfl (fun _ => q_extract rfl rfl) (aL_s true rfl rfl (fun _ => q_assign rfl) (aL_s true rfl rfl (fun _ => q_assign rfl) (aL_nil (thn_n (awp_seq ?_)))))))
  refine awp_region (aL_s true rfl rfl (fun _ => q_move rfl) ?_)
  refine aL_s true rfl rfl (fun _ => q_fieldAddr (off := 1) (by kernel_rfl) rfl) ?_
  refine aL_s true rfl rfl (fun _ => q_load 1 tk9 rfl rfl rfl) (aL_s true rfl rfl (fun _ => q_lenStr Tryz.underlying9 rfl) ?_)
  refine aL_s true rfl rfl (fun _ => q_call (by kernel_rfl) rfl (fun w S fp hst => q_spread hst 0 rfl 1024 x.data.size (by omega))) ?_
  refine aL_s true rfl rfl (fun _ => q_move rfl) (aL_s true rfl rfl (fun _ => q_extract rfl rfl) (aL_s true rfl rfl (fun _ => q_extract rfl rfl) (aL_s true rfl rfl (fun _ => q_assign rfl) (aL_s true rfl rfl (fun _ => q_assign rfl) (aL_nil (thn_n (awp_seq ?_)))))))
  refine awp_region (aL_s true rfl rfl (fun _ => q_move rfl) ?_)
  refine aL_s true rfl rfl (fun _ => q_fieldAddr (off := 2) (by kernel_rfl) rfl) ?_
  refine aL_s true rfl rfl (fun _ => q_load 1 tk3 rfl rfl rfl) ?_
  refine aL_s true rfl rfl (fun _ => q_call (by kernel_rfl) rfl (fun w S fp hst => q_spread hst 0 rfl 2048 x.stack (by omega))) ?_
  refine aL_s true rfl rfl (fun _ => q_move rfl) (aL_s true rfl rfl (fun _ => q_extract rfl rfl) (aL_s true rfl rfl (fun _ => q_extract rfl rfl) (aL_s true rfl rfl (fun _ => q_assign rfl) (aL_s true rfl rfl (fun _ => q_assign rfl) (aL_nil (thn_n (awp_seq ?_)))))))
  refine awp_region (aL_s true rfl rfl (fun _ => q_move rfl) (aL_s true rfl rfl (fun _ => q_move rfl) ?_))
  refine aL_s true rfl rfl (fun _ => qs_add rfl rfl (by rw [ofBytes_size, ofBytes_size]; omega)) ?_
  refine aL_s true rfl rfl (fun _ => q_move rfl) ?_
  refine aL_s true rfl rfl (fun _ => qs_add rfl rfl (by rw [ByteArray.size_append, ofBytes_size, ofBytes_size, ofBytes_size]; omega)) ?_
  refine aL_s true rfl rfl (fun _ => q_assign rfl) (aL_nil (thn_n (awp_ret ?_)))
  refine fin1 [] [0] rfl Tryz.results13 rfl ?_ (.inr rfl)
  refine ⟨congrArg Value.string ?_, rfl, rfl⟩
  unfold bytesM ofBytes
  apply ByteArray.ext
  simp
def insRow (i : InsZ) : List D := (insZ i).map D.v
theorem code_fn (l : List InsZ) (ad : Option Addr) (c : Nat) (hl : ∀ i ∈ l, I64 i.imm) (hlen : l.length ≤ 1000) : Con Tryz.prog 18 [.slice ad l.length c] [Sh (.slice ad l.length c) (.sl (l.map insRow))] [] fun r _ _ => r = .string (ofBytes (codeB l)) := by
  have HL := Lib.hid hl
  clear hl
  refine Con.enter Tryz.func18 rfl (by simp [Tryz.ntmps18]) ?_
  show awp _ _ _ _ ⟨[(0, true, _)], _, _⟩
  refine awp_seq (awp_region (aL_s true rfl rfl (fun _ => q_assign rfl) (aL_nil (thn_n (awp_seq (awp_region (aL_s true rfl rfl (fun _ => q_assign rfl) ?_)))))))
  refine aL_nil (thn_n (awp_seq (awp_seq (awp_region (aL_s true rfl rfl (fun _ => q_assign rfl) (aL_nil (thn_n ?_)))))))
  refine awp_block (awp_loopK [0, 3, 4] [0] [] (fun (k : Nat) s => k ≤ l.length ∧ s = ⟨[(0, true, .slice ad l.length c), (3, true, .string (ofBytes (codeB (l.take k)))), (4, true, .int .i64 k)], [Sh (.slice ad l.length c) (.sl (l.map insRow))], []⟩) (fun k => l.length - k) rfl (⟨0, Nat.zero_le _, rfl⟩) ?_)
  rintro k s ⟨hk, rfl⟩
  refine awp_seq (awp_seq (awp_region (aL_s true rfl rfl (fun _ => q_move rfl) (aL_s true rfl rfl (fun _ => q_move rfl) (aL_s true rfl rfl (fun _ => q_lenS Tryz.underlying54 rfl) (aL_s true rfl rfl (fun _ => q_lss rfl rfl) (aL_nil ?_)))))))
  refine thn_n ?_
  refine awp_cond _ rfl (fun h1 => ?_) (fun h1 => ?_)
  ·skip
   have hk' : k < l.length := by simpa using h1
   obtain ⟨x, hx⟩ : ∃ x, l[k]? = some x := ⟨l[k]'hk', by simp⟩
   have hcl := codeB_len (l.take k)
   have htl : (l.take k).length ≤ l.length := List.length_take_le' _ _
   have hel := encB_len x
   refine awp_skip (thn_n (awp_seq (awp_block (awp_seq (awp_region (aL_s true rfl rfl (fun _ => q_move rfl) (aL_s true rfl rfl (fun _ => q_move rfl) ?_)))))))
   refine aL_E true rfl rfl (fun _ => q_indexAddr Tryz.underlying54 tk46 rfl (psAt 0 rfl) rfl (row := insRow x) (by simp [hx]) rfl rfl) (fun h => absurd h (by decide)) (fun ⟨b5_2, o5_2⟩ => ?_)
   refine aL_s true rfl rfl (fun _ => q_loadD (o := 0) (v := .agg (insZ x).toArray) tk46 rfl (psAt 0 rfl) rfl rfl) ?_
   refine aL_s true rfl rfl (fun _ => q_call (by kernel_rfl) rfl (fun w S fp hst => (encode_fn x (HL.out x (List.mem_of_getElem? hx))).quiet0 hst)) ?_
   refine aL_s true rfl rfl (fun _ => q_move rfl) (aL_s true rfl rfl (fun _ => q_extract rfl rfl) (aL_s true rfl rfl (fun _ => q_extract rfl rfl) (aL_s true rfl rfl (fun _ => q_assign rfl) (aL_s true rfl rfl (fun _ => q_assign rfl) (aL_nil (thn_n (awp_region ?_)))))))
   refine aL_s true rfl rfl (fun _ => q_move rfl) (aL_s true rfl rfl (fun _ => q_move rfl) ?_)
   refine aL_s true rfl rfl (fun _ => qs_add rfl rfl (by rw [ofBytes_size, ofBytes_size]; omega)) ?_
   refine aL_s true rfl rfl (fun _ => q_assign rfl) (aL_nil (blk_n (thn_n (awp_region (aL_s true rfl rfl (fun _ => q_move rfl) ?_)))))
   refine aL_s true rfl rfl (fun _ => q_addi rfl rfl (by omega)) ?_
   refine aL_s true rfl rfl (fun _ => q_assign rfl) (aL_nil (thn_n ?_))
   refine ⟨[0, 3, 4], [0], [], rfl, ?_⟩
   refine ⟨k + 1, ⟨by omega, ?_⟩, by omega⟩
   have e : ofBytes (codeB (l.take (k + 1))) = ofBytes (codeB (l.take k)) ++ ofBytes (encB x) := by
     rw [List.take_add_one, hx]
     unfold codeB ofBytes
     apply ByteArray.ext
     simp
   rw [e]; rfl
  ·skip
   refine awp_exit (thn_e (thn_e (blk_hit (thn_n (awp_seq (awp_region (aL_s true rfl rfl (fun _ => q_move rfl) ?_)))))))
   refine aL_s true rfl rfl (fun _ => q_assign rfl) (aL_nil (thn_n (awp_ret ?_)))
   refine fin1 [] [] rfl Tryz.results18 rfl ?_ (.inr rfl)
   have e : l.take k = l := List.take_of_length_le (by simp at h1; omega)
   rw [e]
end Go.Proofs.YtpgcoceggacplaaGreatDoor
namespace Go.Sy
open Go.RowKit Go.Lp
/-- an own slice, looked at as shared -/
theorem st_share {w : World} {S : Blks} {fp : Nat → Blks} {ps : List Per} {hp : List Res} {v : Value} {T : TypeId} {sz : Nat} {rows : List (List D)} (hst : St w S fp ps hp) (i : Nat) (hi : hp[i]? = some (OwnS v T sz rows)) :
    St w (fun b => S b ∨ fp i b) (fun k => if k = i then (fun _ => False) else fp k) (Sh v (.sl rows) :: ps) (hp.set i emp) := by
  have hil := (List.getElem?_eq_some_iff.1 hi).1
  have hr := hst.res i _ hi
  have hst0 := hst.drop i
  have hS : ∀ b, S b → (S b ∨ fp i b) := fun _ h => .inl h
  refine ⟨fun p hp' => ?_, fun j R hj => R.mono (hst0.res j R hj) (fun _ _ => rfl) (fun _ _ => rfl) hS, fun j hj b hb => ?_, hst0.dj, fun b hb => hb.elim (hst.slt b) (fun h => (hst.lt i hil b h).1)⟩
  · rcases List.mem_cons.1 hp' with rfl | h2
    · rcases hr with ⟨rfl, rfl, _⟩ | ⟨b, cap, rfl, ⟨cs, sp, hb, hrows, hl, hle, hcap⟩, hF⟩
      · exact .e none 0 (by unfold maxLen; omega)
      · refine .sl b 0 cap sz rows (fun i j => cs.getD (i * sz + j) undef) (.inr ((hF b).2 rfl)) hle hcap hrows.row (fun i j r d h1 h2 => ?_) (fun i j r d h1 h2 => ?_)
        · obtain ⟨u, hu, _⟩ := hrows.rep i j r d h1 h2
          have e : cs.getD (i * sz + j) undef = u := by simp [List.getD, hu]
          rw [e]
          refine ⟨?_, hrows.one u (List.mem_of_getElem? hu)⟩
          rw [Nat.zero_add, cell_box hb, List.getElem?_append_left (List.getElem?_eq_some_iff.1 hu).1]; exact hu
        · obtain ⟨u, hu, hr⟩ := hrows.rep i j r d h1 h2
          have e : cs.getD (i * sz + j) undef = u := by simp [List.getD, hu]
          rw [e]
          exact hr.mono (fun _ _ => rfl) hS
    · exact p.mono (hst.per p h2) (fun _ _ => rfl) hS
  · have hj' : j < hp.length := by simpa using hj
    by_cases hji : j = i
    · rw [if_pos hji] at hb; exact hb.elim
    · rw [if_neg hji] at hb
      exact ⟨(hst.lt j hj' b hb).1, fun h => h.elim (hst.lt j hj' b hb).2 (hst.dj j i hj' hil hji b hb)⟩
end Go.Sy
namespace Go.Lp
open Go.RowKit Go.Proofs.YtpgcoceggacplaaGreatDoor
theorem mapM_add {M : Mem} {A : Ar} (hr : rightA A = true) (hb : ∀ x ∈ M, 1 ≤ x.1.size ∧ x.1.at_ + x.1.size ≤ A.at_) (hl : M.length < 4096) : mapM M A = (M ++ [(A, List.replicate A.size.toNat 0)], 0) := by
  have hs := rightA_iff.1 hr
  unfold mapM
  rw [if_neg (by rw [hr]; decide), if_neg, if_neg (by omega)]
  · have e1 : M.filter (fun x => decide (x.1.at_ < A.at_)) = M := List.filter_eq_self.2 fun x hx => by have := hb x hx; exact decide_eq_true (by omega)
    have e2 : M.filter (fun x => !decide (x.1.at_ < A.at_)) = [] := List.filter_eq_nil_iff.2 fun x hx => by
      have := hb x hx
      have : decide (x.1.at_ < A.at_) = true := decide_eq_true (by omega)
      rw [this]; decide
    rw [e1, e2, List.append_nil]
  · intro h
    obtain ⟨x, hx, hm⟩ := List.any_eq_true.1 h
    have := hb x hx
    unfold meets at hm
    simp only [Bool.and_eq_true, decide_eq_true_eq] at hm
    omega
theorem mapM_not {M : Mem} {A : Ar} (hr : rightA A = false) : mapM M A = (M, 1) := by unfold mapM; rw [if_pos hr]
theorem rightS {at_ n k : Int} (ha : at_ = 512 ∨ at_ = 1024 ∨ at_ = 2048) (hn : n ≤ 400) (hk : 0 ≤ k ∧ k < 5) : rightA ⟨at_, n, k, 0, 0⟩ = decide (1 ≤ n) := by
  rw [Bool.eq_iff_iff, rightA_iff, decide_eq_true_eq]
  dsimp only
  omega
theorem splice_all {l b : List UInt8} (h : b.length = l.length) : splice l 0 b = b := by
  unfold splice; simp [h]
/-- a write over a whole area -/
theorem writeM_all {M : Mem} (hI : MInv M) {x : Cell} (hx : x ∈ M) {b : List UInt8} (hb : (b.length : Int) = x.1.size) : writeM M x.1.at_ b = (updM M x.1.at_ b, 0) := by
  have hs := inv_span hI hx
  unfold writeM
  rw [if_neg (by intro h; subst h; simp at hb; omega), mfind_of hI hx (by omega) (by omega) (by omega)]
  dsimp only
  have hl := hI.len x hx
  rw [show x.1.at_ - x.1.at_ = 0 by omega, show (0 : Int).toNat = 0 from rfl, splice_all (by omega)]
def arC (x : Stg) : Ar := ⟨512, x.code.size, 0, 0, 0⟩
def arD (x : Stg) : Ar := ⟨1024, x.data.size, 1, 0, 0⟩
def arS (x : Stg) : Ar := ⟨2048, x.stack, 2, 0, 0⟩
def lst (b : Bool) (c : Cell) : Mem := if b then [c] else []
def three (x : Stg) (bc bd : List UInt8) : Mem := lst (decide (1 ≤ (x.code.size : Int))) (arC x, bc) ++ (lst (decide (1 ≤ (x.data.size : Int))) (arD x, bd) ++ lst (decide (1 ≤ x.stack)) (arS x, List.replicate x.stack.toNat 0))
theorem lst_mem {b : Bool} {c x : Cell} (h : x ∈ lst b c) : b = true ∧ x = c := by unfold lst at h; split at h <;> simp_all
theorem few_of {x : Stg} (h : fewS x = true) : x.code.size ≤ 400 ∧ x.data.size ≤ 400 ∧ x.stack ≤ 200 ∧ x.regs.length ≤ 16 := by
  unfold fewS at h; simp at h; omega
theorem three_inv {x : Stg} (hf : fewS x = true) {bc bd : List UInt8} (hc : bc.length = x.code.size) (hd : bd.length = x.data.size) : MInv (three x bc bd) := by
  obtain ⟨f1, f2, f3, _⟩ := few_of hf
  have hmem : ∀ y ∈ three x bc bd, (1 ≤ (x.code.size : Int) ∧ y = (arC x, bc)) ∨ (1 ≤ (x.data.size : Int) ∧ y = (arD x, bd)) ∨ (1 ≤ x.stack ∧ y = (arS x, List.replicate x.stack.toNat 0)) := fun y hy => by
    unfold three at hy
    rcases List.mem_append.1 hy with h | h
    · obtain ⟨h1, h2⟩ := lst_mem h; exact .inl ⟨by simpa using h1, h2⟩
    · rcases List.mem_append.1 h with h | h
      · obtain ⟨h1, h2⟩ := lst_mem h; exact .inr (.inl ⟨by simpa using h1, h2⟩)
      · obtain ⟨h1, h2⟩ := lst_mem h; exact .inr (.inr ⟨by simpa using h1, h2⟩)
  refine ⟨fun y hy => ?_, ?_, fun y hy => ?_⟩
  · rcases hmem y hy with ⟨h, rfl⟩ | ⟨h, rfl⟩ | ⟨h, rfl⟩
    · exact (rightS (.inl rfl) (by omega) (by omega)).trans (decide_eq_true h)
    · exact (rightS (.inr (.inl rfl)) (by omega) (by omega)).trans (decide_eq_true h)
    · exact (rightS (.inr (.inr rfl)) (by omega) (by omega)).trans (decide_eq_true h)
  · have one : ∀ b c, (lst b c).Pairwise fun x y => x.1.at_ + x.1.size ≤ y.1.at_ := fun b c => by unfold lst; split <;> simp
    unfold three
    rw [List.pairwise_append, List.pairwise_append]
    refine ⟨one _ _, ⟨one _ _, one _ _, fun a ha b hb => ?_⟩, fun a ha b hb => ?_⟩
    · obtain ⟨_, rfl⟩ := lst_mem ha; obtain ⟨_, rfl⟩ := lst_mem hb; show (1024 : Int) + x.data.size ≤ 2048; omega
    · obtain ⟨_, rfl⟩ := lst_mem ha
      rcases List.mem_append.1 hb with hb | hb
      · obtain ⟨_, rfl⟩ := lst_mem hb; show (512 : Int) + x.code.size ≤ 1024; omega
      · obtain ⟨_, rfl⟩ := lst_mem hb; show (512 : Int) + x.code.size ≤ 2048; omega
  · rcases hmem y hy with ⟨h, rfl⟩ | ⟨h, rfl⟩ | ⟨h, rfl⟩
    · show (bc.length : Int) = x.code.size; omega
    · show (bd.length : Int) = x.data.size; omega
    · show ((List.replicate x.stack.toNat (0 : UInt8)).length : Int) = x.stack; simp; omega
theorem lst_upd (b : Bool) (a : Ar) (l bs : List UInt8) (t : Int) : updM (lst b (a, l)) t bs = lst b (a, if a.at_ = t then bs else l) := by
  unfold lst updM
  cases b
  · rfl
  · simp only [if_true, List.map_cons, List.map_nil]; split <;> rfl
theorem three_upd (x : Stg) (bc bd bs : List UInt8) (t : Int) (ht : t ≠ 2048) : updM (three x bc bd) t bs = three x (if 512 = t then bs else bc) (if 1024 = t then bs else bd) := by
  have e : ∀ (A B : Mem), updM (A ++ B) t bs = updM A t bs ++ updM B t bs := fun A B => by simp [updM]
  unfold three
  rw [e, e, lst_upd, lst_upd, lst_upd]
  congr 3
  show (arS x, if (2048 : Int) = t then bs else _) = _
  rw [if_neg (Ne.symm ht)]
theorem memS_eq {x : Stg} (hf : fewS x = true) : memS x = three x x.code.data.toList x.data.data.toList := by
  obtain ⟨f1, f2, f3, _⟩ := few_of hf
  have hz : ∀ n : Nat, (List.replicate ((n : Int).toNat) (0 : UInt8)).length = n := fun n => by simp
  have h3 : (mapM (mapM (mapM [] ⟨512, x.code.size, 0, 0, 0⟩).1 ⟨1024, x.data.size, 1, 0, 0⟩).1 ⟨2048, x.stack, 2, 0, 0⟩).1 = three x (List.replicate (x.code.size : Int).toNat 0) (List.replicate (x.data.size : Int).toNat 0) := by
    have s1 : (mapM [] ⟨512, x.code.size, 0, 0, 0⟩).1 = lst (decide (1 ≤ (x.code.size : Int))) (arC x, List.replicate (x.code.size : Int).toNat 0) := by
      have hr := rightS (at_ := 512) (n := x.code.size) (k := 0) (.inl rfl) (by omega) (by omega)
      cases hd : decide (1 ≤ (x.code.size : Int)) with
      | true => rw [hd] at hr; rw [mapM_add hr (by simp) (by simp)]; rfl
      | false => rw [hd] at hr; rw [mapM_not hr]; rfl
    have s2 : (mapM (mapM [] ⟨512, x.code.size, 0, 0, 0⟩).1 ⟨1024, x.data.size, 1, 0, 0⟩).1 = lst (decide (1 ≤ (x.code.size : Int))) (arC x, List.replicate (x.code.size : Int).toNat 0) ++ lst (decide (1 ≤ (x.data.size : Int))) (arD x, List.replicate (x.data.size : Int).toNat 0) := by
      rw [s1]
      have hr := rightS (at_ := 1024) (n := x.data.size) (k := 1) (.inr (.inl rfl)) (by omega) (by omega)
      cases hd : decide (1 ≤ (x.data.size : Int)) with
      | true =>
        rw [hd] at hr
        rw [mapM_add hr (fun y hy => by obtain ⟨h1, rfl⟩ := lst_mem hy; simp at h1; exact ⟨by show 1 ≤ (x.code.size : Int); omega, by show (512 : Int) + x.code.size ≤ 1024; omega⟩) (by unfold lst; split <;> simp)]; rfl
      | false => rw [hd] at hr; rw [mapM_not hr]; simp [lst]
    rw [s2]
    have hr := rightS (at_ := 2048) (n := x.stack) (k := 2) (.inr (.inr rfl)) (by omega) (by omega)
    unfold three
    cases hd : decide (1 ≤ x.stack) with
    | true =>
      rw [hd] at hr
      rw [mapM_add hr (fun y hy => by
        rcases List.mem_append.1 hy with hy | hy
        · obtain ⟨h1, rfl⟩ := lst_mem hy; simp at h1; exact ⟨by show 1 ≤ (x.code.size : Int); omega, by show (512 : Int) + x.code.size ≤ 2048; omega⟩
        · obtain ⟨h1, rfl⟩ := lst_mem hy; simp at h1; exact ⟨by show 1 ≤ (x.data.size : Int); omega, by show (1024 : Int) + x.data.size ≤ 2048; omega⟩) (by unfold lst; split <;> split <;> simp), List.append_assoc]; rfl
    | false => rw [hd] at hr; rw [mapM_not hr]; simp [lst]
  unfold memS
  rw [h3]
  have hcl : (x.code.data.toList.length : Int) = x.code.size := by simp
  have hdl : (x.data.data.toList.length : Int) = x.data.size := by simp
  have w1 : (writeM (three x (List.replicate (x.code.size : Int).toNat 0) (List.replicate (x.data.size : Int).toNat 0)) 512 x.code.data.toList).1 = three x x.code.data.toList (List.replicate (x.data.size : Int).toNat 0) := by
    by_cases h0 : 1 ≤ x.code.size
    · have hm : ((arC x, List.replicate (x.code.size : Int).toNat 0) : Cell) ∈ three x (List.replicate (x.code.size : Int).toNat 0) (List.replicate (x.data.size : Int).toNat 0) := by
        unfold three lst; rw [if_pos (decide_eq_true (by omega))]; simp
      have hw : writeM (three x (List.replicate (x.code.size : Int).toNat 0) (List.replicate (x.data.size : Int).toNat 0)) 512 x.code.data.toList = (updM (three x (List.replicate (x.code.size : Int).toNat 0) (List.replicate (x.data.size : Int).toNat 0)) 512 x.code.data.toList, 0) := writeM_all (three_inv hf (hz _) (hz _)) hm hcl
      rw [hw, three_upd _ _ _ _ _ (by decide)]
      rfl
    · have e0 : x.code.data.toList = [] := List.eq_nil_of_length_eq_zero (by omega)
      rw [e0]
      unfold writeM
      rw [if_pos rfl]
      unfold three
      rw [show decide (1 ≤ (x.code.size : Int)) = false from decide_eq_false (by omega)]
      rfl
  rw [w1]
  by_cases h0 : 1 ≤ x.data.size
  · have hm : ((arD x, List.replicate (x.data.size : Int).toNat 0) : Cell) ∈ three x x.code.data.toList (List.replicate (x.data.size : Int).toNat 0) := by
      unfold three lst; rw [if_pos (c := decide (1 ≤ (x.data.size : Int)) = true) (decide_eq_true (by omega))]; simp
    have hw : writeM (three x x.code.data.toList (List.replicate (x.data.size : Int).toNat 0)) 1024 x.data.data.toList = (updM (three x x.code.data.toList (List.replicate (x.data.size : Int).toNat 0)) 1024 x.data.data.toList, 0) := writeM_all (three_inv hf (by omega) (hz _)) hm hdl
    rw [hw, three_upd _ _ _ _ _ (by decide)]
    rfl
  · have e0 : x.data.data.toList = [] := List.eq_nil_of_length_eq_zero (by omega)
    rw [e0]
    unfold writeM
    rw [if_pos rfl]
    unfold three
    rw [show decide (1 ≤ (x.data.size : Int)) = false from decide_eq_false (by omega)]
    rfl
theorem memS_inv {x : Stg} (hf : fewS x = true) : MInv (memS x) := by rw [memS_eq hf]; exact three_inv hf (by simp) (by simp)
/-- the code in memory -/
def CodeIn (M : Mem) (l : List UInt8) : Prop := ∃ y ∈ M, y.1.at_ = 512 ∧ y.1.size = l.length ∧ y.1.kind = 0 ∧ y.2 = l
theorem memS_code {x : Stg} (hf : fewS x = true) (h0 : 1 ≤ x.code.size) : CodeIn (memS x) x.code.data.toList := by
  rw [memS_eq hf]
  refine ⟨(arC x, x.code.data.toList), ?_, rfl, by simp [arC], rfl, rfl⟩
  unfold three lst; rw [if_pos (decide_eq_true (by omega))]; simp
/-- a part of the code is read -/
theorem code_read {M : Mem} (hI : MInv M) {l : List UInt8} (h : CodeIn M l) (o n : Nat) (hn : 1 ≤ n) (ho : o + n ≤ l.length) : readM M (512 + o) n = ((l.drop o).take n, 0) ∧ (areaM M (512 + o)).2 = true ∧ (areaM M (512 + o)).1.kind = 0 := by
  obtain ⟨y, hy, h1, h2, h3, h4⟩ := h
  have hm : ∀ k : Int, 1 ≤ k → k ≤ n → mfind M (512 + o) k = some y := fun k hk hk' => mfind_of hI hy (by omega) (by omega) (by omega)
  refine ⟨?_, ?_, ?_⟩
  · unfold readM
    rw [if_neg (by omega), if_neg (by omega), hm n (by omega) (by omega)]
    dsimp only
    unfold rng
    rw [h4, show (512 + (o : Int) - y.1.at_).toNat = o by omega]
    rfl
  · unfold areaM; rw [hm 1 (by omega) (by omega)]
  · unfold areaM; rw [hm 1 (by omega) (by omega)]; exact h3
/-- a store leaves the code as it is -/
theorem code_kept {M M' : Mem} (hI : MInv M) {l : List UInt8} (h : CodeIn M l) (hM : MemAs M M') : CodeIn M' l := by
  rcases hM with rfl | ⟨a, s, n, rfl, hok⟩
  · exact h
  · obtain ⟨y, hy, h1, h2, h3, h4⟩ := h
    unfold storeM at hok ⊢
    split
    · exact ⟨y, hy, h1, h2, h3, h4⟩
    · rename_i hacc
      rw [if_neg hacc] at hok
      split
      · rename_i x hx
        rw [hx] at hok
        dsimp only at hok
        split
        · exact ⟨y, hy, h1, h2, h3, h4⟩
        · rename_i hk
          refine ⟨y, ?_, h1, h2, h3, h4⟩
          have hxm := (mfind_holds hx).1
          have hne : ¬ y.1.at_ = x.1.at_ := fun e => hk (by rw [← hI.pair hy hxm e]; exact h3)
          unfold updM
          refine List.mem_map.2 ⟨y, hy, ?_⟩
          rw [if_neg hne]
      · exact ⟨y, hy, h1, h2, h3, h4⟩
theorem updM_inv {M : Mem} (hI : MInv M) {x : Cell} (hx : x ∈ M) {bs : List UInt8} (hb : (bs.length : Int) = x.1.size) : MInv (updM M x.1.at_ bs) := by
  refine ⟨fun y hy => ?_, ?_, fun y hy => ?_⟩
  · obtain ⟨z, hz, rfl⟩ := List.mem_map.1 hy
    split
    · exact hI.right z hz
    · exact hI.right z hz
  · unfold updM
    rw [List.pairwise_map]
    refine hI.asc.imp fun {a b} h => ?_
    split <;> split <;> exact h
  · obtain ⟨z, hz, rfl⟩ := List.mem_map.1 hy
    split
    · rename_i e
      obtain rfl := hI.pair hz hx e
      exact hb
    · exact hI.len z hz
theorem memAs_inv {M M' : Mem} (hI : MInv M) (hM : MemAs M M') : MInv M' := by
  rcases hM with rfl | ⟨a, s, n, rfl, hok⟩
  · exact hI
  · obtain ⟨_, x, hx, h1, h2, h3, e⟩ := store_ok hok
    rw [e]
    have hl := hI.len x hx
    exact updM_inv hI hx (by unfold splice; simp; omega)
end Go.Lp
namespace Go.Lp
open Go.RowKit Go.Proofs.YtpgcoceggacplaaGreatDoor
def l3 : List InsZ := [⟨13, 1, 2, 0, -3⟩, ⟨30, 0, 0, 0, 1⟩, ⟨15, 1, 4, 0, 0⟩]
def xs : Stg := ⟨ofBytes (codeB l3), ⟨#[]⟩, 16, [0, 0, 5, 0, 4], 512⟩
def sm1 := stepM (memS xs) (cpuS xs)
def sm2 := stepM sm1.2.2 sm1.1
def sm3 := stepM sm2.2.2 sm2.1
def c00 : Cpu := ⟨fun _ => 0, 0⟩
def sm4 := stepM sm3.2.2 c00
def regsL (c : Cpu) : List Int := (List.range 16).map c.r ++ [c.pc]
theorem sm1_eq : regsL sm1.1 = [0, 2, 5, 0, 4, 0, 0, 0, 0, 0, 0, 0, 0, 0, 0, 0, 520] ∧ sm1.2.1 = (0, 0) := by decide +kernel
theorem sm2_eq : regsL sm2.1 = [0, 2, 5, 0, 4, 0, 0, 0, 0, 0, 0, 0, 0, 0, 0, 0, 528] ∧ sm2.2.1 = (2, 1) := by decide +kernel
theorem sm3_eq : regsL sm3.1 = [0, 2, 5, 0, 4, 0, 0, 0, 0, 0, 0, 0, 0, 0, 0, 0, 528] ∧ sm3.2.1 = (5, 6) := by decide +kernel
theorem sm4_eq : regsL sm4.1 = [0, 0, 0, 0, 0, 0, 0, 0, 0, 0, 0, 0, 0, 0, 0, 0, 0] ∧ sm4.2.1 = (4, 0) := by decide +kernel
end Go.Lp
namespace Go.Proofs.YtpgcoceggacplaaGreatDoor
open Go.RowKit Go.Lp Go.Sy
theorem regs_of {c : Cpu} {a0 a1 a2 a3 a4 a5 a6 a7 a8 a9 a10 a11 a12 a13 a14 a15 a16 : Int} (h : regsL c = [a0, a1, a2, a3, a4, a5, a6, a7, a8, a9, a10, a11, a12, a13, a14, a15, a16]) :
    c.r 0 = a0 ∧ c.r 1 = a1 ∧ c.r 2 = a2 ∧ c.r 3 = a3 ∧ c.r 4 = a4 ∧ c.r 5 = a5 ∧ c.r 6 = a6 ∧ c.r 7 = a7 ∧ c.r 8 = a8 ∧ c.r 9 = a9 ∧ c.r 10 = a10 ∧ c.r 11 = a11 ∧ c.r 12 = a12 ∧ c.r 13 = a13 ∧ c.r 14 = a14 ∧ c.r 15 = a15 ∧ c.pc = a16 := by
  have e : regsL c = [c.r 0, c.r 1, c.r 2, c.r 3, c.r 4, c.r 5, c.r 6, c.r 7, c.r 8, c.r 9, c.r 10, c.r 11, c.r 12, c.r 13, c.r 14, c.r 15, c.pc] := rfl
  rw [e] at h
  simpa using h
theorem cpuK_ok (x : Stg) (k : Nat) (hr : ∀ z ∈ x.regs, I64 z) (hp : I64 x.pc) : CpuOk (cpuK x k) := by
  have h0 : I64 0 := by unfold I64; omega
  refine ⟨fun j => ?_, hp⟩
  show I64 (if j < k then x.regs.getD j 0 else 0)
  split
  · rw [List.getD_eq_getElem?_getD]
    cases hj : x.regs[j]? with
    | none => exact h0
    | some z => exact hr z (List.mem_of_getElem? hj)
  · exact h0
theorem c00_ok : CpuOk c00 := ⟨fun _ => (by show I64 0; unfold I64; omega), (by show I64 0; unfold I64; omega)⟩
set_option maxHeartbeats 4000000 in
theorem small29_fn : Con Tryz.prog 5 [] [formsAt] [] fun r _ _ => r = .bool true := by
  have hl3 : ∀ i ∈ l3, I64 i.imm := fun i hi => by
    simp only [l3, List.mem_cons, List.not_mem_nil, or_false] at hi
    unfold I64
    rcases hi with rfl | rfl | rfl <;> decide
  have hcl := codeB_len l3
  have hcs : xs.code.size ≤ 400 := Nat.le_trans (show xs.code.size ≤ 8 * l3.length from hcl) (by decide)
  obtain ⟨g1, e1⟩ := sm1_eq
  obtain ⟨g2, e2⟩ := sm2_eq
  obtain ⟨g3, e3⟩ := sm3_eq
  obtain ⟨g4, e4⟩ := sm4_eq
  have ok0 : CpuOk (cpuS xs) := cpuK_ok xs _ (fun z hz => by
    simp only [xs, List.mem_cons, List.not_mem_nil, or_false] at hz
    unfold I64
    rcases hz with rfl | rfl | rfl | rfl | rfl <;> decide) (by unfold I64 xs; decide)
  have d1 : sm1 = stepM (memS xs) (cpuS xs) := rfl
  have d2 : sm2 = stepM sm1.2.2 sm1.1 := rfl
  have d3 : sm3 = stepM sm2.2.2 sm2.1 := rfl
  have d4 : sm4 = stepM sm3.2.2 c00 := rfl
  have ok1 : CpuOk sm1.1 := by rw [d1]; exact step_ok ok0 _
  have ok2 : CpuOk sm2.1 := by rw [d2]; exact step_ok ok1 _
  generalize sm4 = S4 at *
  generalize sm3 = S3 at *
  generalize sm2 = S2 at *
  generalize sm1 = S1 at *
  obtain ⟨a1_0, a1_1, a1_2, a1_3, a1_4, a1_5, a1_6, a1_7, a1_8, a1_9, a1_10, a1_11, a1_12, a1_13, a1_14, a1_15, a1_16⟩ := regs_of g1
  obtain ⟨a2_0, a2_1, a2_2, a2_3, a2_4, a2_5, a2_6, a2_7, a2_8, a2_9, a2_10, a2_11, a2_12, a2_13, a2_14, a2_15, a2_16⟩ := regs_of g2
  obtain ⟨a3_0, a3_1, a3_2, a3_3, a3_4, a3_5, a3_6, a3_7, a3_8, a3_9, a3_10, a3_11, a3_12, a3_13, a3_14, a3_15, a3_16⟩ := regs_of g3
  obtain ⟨a4_0, a4_1, a4_2, a4_3, a4_4, a4_5, a4_6, a4_7, a4_8, a4_9, a4_10, a4_11, a4_12, a4_13, a4_14, a4_15, a4_16⟩ := regs_of g4
  refine Con.enter Tryz.func5 rfl (by simp [Tryz.ntmps5]) ?_
  show awp _ _ _ _ ⟨[], _, _⟩
  refine awp_seq (awp_region (aL_s true rfl rfl (fun _ => q_assign rfl) (aL_nil (thn_n (awp_seq (awp_region ?_))))))
  refine aL_s true rfl rfl (fun _ => q_bld (l := [(0, .const (.int .i64 13)), (1, .const (.int .i64 1)), (2, .const (.int .i64 2)), (4, .const (.int .i64 (-3)))]) (zs := [.int .i64 0, .int .i64 0, .int .i64 0, .int .i64 0, .int .i64 0]) (pl := [(0, 1), (1, 1), (2, 1), (3, 1), (4, 1)]) (by kernel_rfl) (by kernel_rfl) (by kernel_rfl) rfl rfl rfl) ?_
  refine aL_s true rfl rfl (fun _ => q_bld (l := [(0, .const (.int .i64 30)), (4, .const (.int .i64 1))]) (zs := [.int .i64 0, .int .i64 0, .int .i64 0, .int .i64 0, .int .i64 0]) (pl := [(0, 1), (1, 1), (2, 1), (3, 1), (4, 1)]) (by kernel_rfl) (by kernel_rfl) (by kernel_rfl) rfl rfl rfl) ?_
  refine aL_s true rfl rfl (fun _ => q_bld (l := [(0, .const (.int .i64 15)), (1, .const (.int .i64 1)), (2, .const (.int .i64 4))]) (zs := [.int .i64 0, .int .i64 0, .int .i64 0, .int .i64 0, .int .i64 0]) (pl := [(0, 1), (1, 1), (2, 1), (3, 1), (4, 1)]) (by kernel_rfl) (by kernel_rfl) (by kernel_rfl) rfl rfl rfl) ?_
  refine aL_eff (q := true) rfl (w_lit (zs := [.int .i64 0, .int .i64 0, .int .i64 0, .int .i64 0, .int .i64 0]) (l := [(0, .tmp 12), (1, .tmp 13), (2, .tmp 14)]) el54 (by kernel_rfl) (by decide) (by decide) (by decide) rfl rfl rfl (.more rfl (.v rfl (.v rfl (.v rfl (.v rfl (.v rfl .nil))))) (.more rfl (.v rfl (.v rfl (.v rfl (.v rfl (.v rfl .nil))))) (.more rfl (.v rfl (.v rfl (.v rfl (.v rfl (.v rfl .nil))))) .nil))) rfl rfl (fun v1_3 => ?_))
  refine aL_hp (by (try simp only [nM, nN]); rfl) ?_
  refine aL_s true rfl rfl (fun _ => q_call (by kernel_rfl) rfl (fun w S fp hst => (code_fn l3 v1_3 3 hl3 (by decide)).quiet1 (.head _) (st_share hst 0 rfl))) ?_
  refine aL_eff (q := true) rfl (w_lit (zs := [.int .i64 0]) (l := [(0, .const (.int .i64 0)), (1, .const (.int .i64 0)), (2, .const (.int .i64 5)), (3, .const (.int .i64 0)), (4, .const (.int .i64 4))]) el22 (by kernel_rfl) (by decide) (by decide) (by decide) rfl rfl rfl (.more rfl (.v rfl .nil) (.more rfl (.v rfl .nil) (.more rfl (.v rfl .nil) (.more rfl (.v rfl .nil) (.more rfl (.v rfl .nil) .nil))))) rfl rfl (fun v1_5 => ?_))
  refine aL_hp (by (try simp only [nM, nN]); rfl) ?_
  refine aL_s true rfl rfl (fun _ => q_bld (l := [(0, .tmp 16), (2, .const (.int .i64 16)), (3, .tmp 17), (4, .const (.int .i64 512))]) (zs := [.string .empty, .string .empty, .int .i64 0, .slice none 0 0, .int .i64 0]) (pl := [(0, 1), (1, 1), (2, 1), (3, 1), (4, 1)]) (by kernel_rfl) (by kernel_rfl) (by kernel_rfl) rfl rfl rfl) ?_
  refine aL_eff (q := true) rfl (x_alloc (zs := [.string .empty, .string .empty, .int .i64 0, .slice none 0 0, .int .i64 0]) (by kernel_rfl) rfl (fun b1_7 => ?_))
  refine aL_hp (by (try simp only [nM, nN]); rfl) ?_
  refine aL_eff rfl (x_store 2 tk24 rfl rfl rfl rfl ?_)
  refine aL_hp (by simp only [nK, nL]; rfl) ?_
  refine aL_nil (thn_n (awp_seq (awp_region (aL_s true rfl rfl (fun _ => q_load 2 tk24 rfl rfl rfl) ?_))))
  refine aL_eff (q := true) rfl (e_call [] [] (by kernel_rfl) rfl rfl rfl rfl (memory_fn xs v1_5 5 (by omega) (by decide)) ?_)
  rintro v ps' hp' ⟨rfl, p, rfl, rfl⟩
  refine aL_st (by (try simp only [nM, nN]); rfl) (by (try simp only [putB, place, Nat.reduceBEq, nA, if_true, if_false, reduceIte, nB, nC, nD, nE, nF, nG, nH, nI, Nat.reduceAdd, nJ, beq_self_eq_true, nK, nL, nM, nN]); rfl) ?_
  refine aL_s true rfl rfl (fun _ => q_assign rfl) (aL_nil (thn_n (awp_seq (awp_seq (awp_region (aL_s true rfl rfl (fun _ => q_move rfl) ?_))))))
  refine aL_s true rfl rfl (fun _ => q_ptrNil (by kernel_rfl) rfl) ?_
  refine aL_nil (thn_n ?_)
  refine awp_cond _ rfl (fun h1 => ?_) (fun h1 => ?_)
  ·skip
   exact absurd h1 (by simp)
  ·skip
   refine awp_skip (thn_n (awp_seq (awp_region (aL_s true rfl rfl (fun _ => q_move rfl) (aL_s true rfl rfl (fun _ => q_load 2 tk24 rfl rfl rfl) ?_)))))
   refine aL_s true rfl rfl (fun _ => q_call (by kernel_rfl) rfl (fun w S fp hst => (cpu_fn xs v1_5 5).quiet1 (.head _) (st_share hst 1 rfl))) ?_
   refine aL_eff (q := false) rfl (e_call [0] [3] (by kernel_rfl) rfl rfl rfl rfl (step_fn p (memS xs) (cpuS xs) ok0) ?_)
   rintro v ps' hp' ⟨rfl, rfl, rfl⟩; rw [← d1]
   refine aL_st (by (try simp only [nM, nN]); rfl) (by (try simp only [putB, place, Nat.reduceBEq, nA, if_true, if_false, reduceIte, nB, nC, nD, nE, nF, nG, nH, nI, Nat.reduceAdd, nJ, beq_self_eq_true, nK, nL, nM, nN]); rfl) ?_
   refine aL_s true rfl rfl (fun _ => q_move rfl) (aL_s true rfl rfl (fun _ => q_extract rfl rfl) (aL_s true rfl rfl (fun _ => q_extract rfl rfl) ?_))
   refine aL_eff (q := true) rfl (x_alloc (zs := [.int .i64 0, .int .i64 0, .int .i64 0, .int .i64 0, .int .i64 0, .int .i64 0, .int .i64 0, .int .i64 0, .int .i64 0, .int .i64 0, .int .i64 0, .int .i64 0, .int .i64 0, .int .i64 0, .int .i64 0, .int .i64 0, .int .i64 0]) (by kernel_rfl) rfl (fun b5_7 => ?_))
   refine aL_hp (by (try simp only [nM, nN]); rfl) ?_
   refine aL_eff (q := true) rfl (x_alloc (zs := [.int .i64 0, .int .i64 0]) (by kernel_rfl) rfl (fun b5_8 => ?_))
   refine aL_hp (by (try simp only [nM, nN]); rfl) ?_
   refine aL_eff rfl (x_store 4 tk33 rfl rfl rfl rfl ?_)
   refine aL_hp (by simp only [nK, nL]; rfl) ?_
   refine aL_eff rfl (x_store 5 tk36 rfl rfl rfl rfl ?_)
   refine aL_hp (by simp only [nK, nL]; rfl) ?_
   refine aL_nil (thn_n (awp_seq (awp_region (aL_s true rfl rfl (fun _ => q_move rfl) (aL_s true rfl rfl (fun _ => q_load 4 tk33 rfl rfl rfl) ?_)))))
   refine aL_eff (q := false) rfl (e_call [0] [3] (by kernel_rfl) rfl rfl rfl rfl (step_fn p S1.2.2 S1.1 ok1) ?_)
   rintro v ps' hp' ⟨rfl, rfl, rfl⟩; rw [← d2]
   refine aL_st (by (try simp only [nM, nN]); rfl) (by (try simp only [putB, place, Nat.reduceBEq, nA, if_true, if_false, reduceIte, nB, nC, nD, nE, nF, nG, nH, nI, Nat.reduceAdd, nJ, beq_self_eq_true, nK, nL, nM, nN]); rfl) ?_
   refine aL_s true rfl rfl (fun _ => q_move rfl) (aL_s true rfl rfl (fun _ => q_extract rfl rfl) (aL_s true rfl rfl (fun _ => q_extract rfl rfl) ?_))
   refine aL_eff (q := true) rfl (x_alloc (zs := [.int .i64 0, .int .i64 0, .int .i64 0, .int .i64 0, .int .i64 0, .int .i64 0, .int .i64 0, .int .i64 0, .int .i64 0, .int .i64 0, .int .i64 0, .int .i64 0, .int .i64 0, .int .i64 0, .int .i64 0, .int .i64 0, .int .i64 0]) (by kernel_rfl) rfl (fun b6_6 => ?_))
   refine aL_hp (by (try simp only [nM, nN]); rfl) ?_
   refine aL_eff (q := true) rfl (x_alloc (zs := [.int .i64 0, .int .i64 0]) (by kernel_rfl) rfl (fun b6_7 => ?_))
   refine aL_hp (by (try simp only [nM, nN]); rfl) ?_
   refine aL_eff rfl (x_store 6 tk33 rfl rfl rfl rfl ?_)
   refine aL_hp (by simp only [nK, nL]; rfl) ?_
   refine aL_eff rfl (x_store 7 tk36 rfl rfl rfl rfl ?_)
   refine aL_hp (by simp only [nK, nL]; rfl) ?_
   refine aL_nil (thn_n (awp_seq (awp_region (aL_s true rfl rfl (fun _ => q_move rfl) (aL_s true rfl rfl (fun _ => q_load 6 tk33 rfl rfl rfl) ?_)))))
   refine aL_eff (q := false) rfl (e_call [0] [3] (by kernel_rfl) rfl rfl rfl rfl (step_fn p S2.2.2 S2.1 ok2) ?_)
   rintro v ps' hp' ⟨rfl, rfl, rfl⟩; rw [← d3]
   refine aL_st (by (try simp only [nM, nN]); rfl) (by (try simp only [putB, place, Nat.reduceBEq, nA, if_true, if_false, reduceIte, nB, nC, nD, nE, nF, nG, nH, nI, Nat.reduceAdd, nJ, beq_self_eq_true, nK, nL, nM, nN]); rfl) ?_
   refine aL_s true rfl rfl (fun _ => q_move rfl) (aL_s true rfl rfl (fun _ => q_extract rfl rfl) (aL_s true rfl rfl (fun _ => q_extract rfl rfl) ?_))
   refine aL_eff (q := true) rfl (x_alloc (zs := [.int .i64 0, .int .i64 0, .int .i64 0, .int .i64 0, .int .i64 0, .int .i64 0, .int .i64 0, .int .i64 0, .int .i64 0, .int .i64 0, .int .i64 0, .int .i64 0, .int .i64 0, .int .i64 0, .int .i64 0, .int .i64 0, .int .i64 0]) (by kernel_rfl) rfl (fun b7_6 => ?_))
   refine aL_hp (by (try simp only [nM, nN]); rfl) ?_
   refine aL_eff (q := true) rfl (x_alloc (zs := [.int .i64 0, .int .i64 0]) (by kernel_rfl) rfl (fun b7_7 => ?_))
   refine aL_hp (by (try simp only [nM, nN]); rfl) ?_
   refine aL_eff rfl (x_store 8 tk33 rfl rfl rfl rfl ?_)
   refine aL_hp (by simp only [nK, nL]; rfl) ?_
   refine aL_eff rfl (x_store 9 tk36 rfl rfl rfl rfl ?_)
   refine aL_hp (by simp only [nK, nL]; rfl) ?_
   refine aL_nil (thn_n (awp_seq (awp_region (aL_s true rfl rfl (fun _ => q_move rfl) ?_))))
   refine aL_s true rfl rfl (fun _ => q_bld (l := []) (zs := [.int .i64 0, .int .i64 0, .int .i64 0, .int .i64 0, .int .i64 0, .int .i64 0, .int .i64 0, .int .i64 0, .int .i64 0, .int .i64 0, .int .i64 0, .int .i64 0, .int .i64 0, .int .i64 0, .int .i64 0, .int .i64 0, .int .i64 0]) (pl := [(0, 16), (16, 1)]) (by kernel_rfl) (by kernel_rfl) (by kernel_rfl) rfl rfl rfl) ?_
   refine aL_eff (q := false) rfl (e_call [0] [3] (by kernel_rfl) rfl rfl rfl rfl (step_fn p S3.2.2 c00 c00_ok) ?_)
   rintro v ps' hp' ⟨rfl, rfl, rfl⟩; rw [← d4]
   refine aL_st (by (try simp only [nM, nN]); rfl) (by (try simp only [putB, place, Nat.reduceBEq, nA, if_true, if_false, reduceIte, nB, nC, nD, nE, nF, nG, nH, nI, Nat.reduceAdd, nJ, beq_self_eq_true, nK, nL, nM, nN]); rfl) ?_
   refine aL_s true rfl rfl (fun _ => q_move rfl) (aL_s true rfl rfl (fun _ => q_extract rfl rfl) (aL_s true rfl rfl (fun _ => q_extract rfl rfl) ?_))
   refine aL_eff (q := true) rfl (x_alloc (zs := [.int .i64 0, .int .i64 0, .int .i64 0, .int .i64 0, .int .i64 0, .int .i64 0, .int .i64 0, .int .i64 0, .int .i64 0, .int .i64 0, .int .i64 0, .int .i64 0, .int .i64 0, .int .i64 0, .int .i64 0, .int .i64 0, .int .i64 0]) (by kernel_rfl) rfl (fun b8_6 => ?_))
   refine aL_hp (by (try simp only [nM, nN]); rfl) ?_
   refine aL_eff (q := true) rfl (x_alloc (zs := [.int .i64 0, .int .i64 0]) (by kernel_rfl) rfl (fun b8_7 => ?_))
   refine aL_hp (by (try simp only [nM, nN]); rfl) ?_
   refine aL_eff rfl (x_store 10 tk33 rfl rfl rfl rfl ?_)
   refine aL_hp (by simp only [nK, nL]; rfl) ?_
   refine aL_eff rfl (x_store 11 tk36 rfl rfl rfl rfl ?_)
   refine aL_hp (by simp only [nK, nL]; rfl) ?_
   refine aL_nil (thn_n (awp_seq (awp_region ?_)))
   refine aL_s true rfl rfl (fun _ => q_fieldAddr (off := 0) (by kernel_rfl) rfl) ?_
   refine aL_s true rfl rfl (fun _ => q_idxArr (1) Tryz.underlying31 tk3 rfl rfl (rfl) (by decide)) ?_
   refine aL_s true rfl rfl (fun _ => q_load 4 tk3 rfl rfl rfl) (aL_s true rfl rfl (fun _ => q_eql rfl rfl) (aL_s true rfl rfl (fun _ => q_move rfl) ?_))
   refine aL_s _ rfl rfl (fun hc => q_fieldAddr (off := 16) (by kernel_rfl) rfl) ?_
   refine aL_s _ rfl rfl (fun hc => q_load 4 tk3 (ev_yes rfl hc) rfl rfl) (aL_s _ rfl rfl (fun hc => q_eql (ev_yes rfl hc) rfl) (aL_s true rfl rfl (fun _ => q_and rfl rfl (fun h => gt rfl h)) (aL_s true rfl rfl (fun _ => q_move rfl) (aL_s _ rfl rfl (fun hc => q_load 5 tk36 rfl rfl rfl) ?_))))
   refine aL_s _ rfl rfl (fun hc => q_bld (l := []) (zs := [.int .i64 0, .int .i64 0]) (pl := [(0, 1), (1, 1)]) (by kernel_rfl) (by kernel_rfl) (by kernel_rfl) rfl rfl rfl) ?_
   refine aL_s _ rfl rfl (fun hc => qa_eql (by kernel_rfl) (by kernel_rfl) (by kernel_rfl) (fun w => eqFields_mix 9997 _ _ _ [0, 1] w (by kernel_rfl) (by kernel_rfl) rfl rfl) (ev_yes rfl hc) (ev_yes rfl hc)) ?_
   refine aL_s true rfl rfl (fun _ => q_and rfl rfl (fun h => gt rfl h)) (aL_s true rfl rfl (fun _ => q_move rfl) ?_)
   refine aL_s _ rfl rfl (fun hc => q_fieldAddr (off := 16) (by kernel_rfl) rfl) ?_
   refine aL_s _ rfl rfl (fun hc => q_load 6 tk3 (ev_yes rfl hc) rfl rfl) (aL_s _ rfl rfl (fun hc => q_eql (ev_yes rfl hc) rfl) (aL_s true rfl rfl (fun _ => q_and rfl rfl (fun h => gt rfl h)) (aL_s true rfl rfl (fun _ => q_move rfl) (aL_s _ rfl rfl (fun hc => q_load 7 tk36 rfl rfl rfl) ?_))))
   refine aL_s _ rfl rfl (fun hc => q_bld (l := [(0, .const (.int .i64 2)), (1, .const (.int .i64 1))]) (zs := [.int .i64 0, .int .i64 0]) (pl := [(0, 1), (1, 1)]) (by kernel_rfl) (by kernel_rfl) (by kernel_rfl) rfl rfl rfl) ?_
   refine aL_s _ rfl rfl (fun hc => qa_eql (by kernel_rfl) (by kernel_rfl) (by kernel_rfl) (fun w => eqFields_mix 9997 _ _ _ [0, 1] w (by kernel_rfl) (by kernel_rfl) rfl rfl) (ev_yes rfl hc) (ev_yes rfl hc)) ?_
   refine aL_s true rfl rfl (fun _ => q_and rfl rfl (fun h => gt rfl h)) (aL_s true rfl rfl (fun _ => q_assign rfl) (aL_nil (thn_n (awp_seq (awp_region (aL_s true rfl rfl (fun _ => q_move rfl) (aL_s true rfl rfl (fun _ => q_move rfl) ?_)))))))
   refine aL_s _ rfl rfl (fun hc => q_load 8 tk33 rfl rfl rfl) (aL_s _ rfl rfl (fun hc => q_load 6 tk33 rfl rfl rfl) ?_)
   refine aL_s _ rfl rfl (fun hc => qa_eql (by kernel_rfl) (by kernel_rfl) (by kernel_rfl) (fun w => eqFields_mix 9997 _ _ _ [0, 1, 2, 3, 4, 5, 6, 7, 8, 9, 10, 11, 12, 13, 14, 15, 16] w (by kernel_rfl) (by kernel_rfl) rfl rfl) (ev_yes rfl hc) (ev_yes rfl hc)) ?_
   refine aL_s true rfl rfl (fun _ => q_and rfl rfl (fun h => gt rfl h)) (aL_s true rfl rfl (fun _ => q_move rfl) (aL_s _ rfl rfl (fun hc => q_load 9 tk36 rfl rfl rfl) ?_))
   refine aL_s _ rfl rfl (fun hc => q_bld (l := [(0, .const (.int .i64 5)), (1, .const (.int .i64 6))]) (zs := [.int .i64 0, .int .i64 0]) (pl := [(0, 1), (1, 1)]) (by kernel_rfl) (by kernel_rfl) (by kernel_rfl) rfl rfl rfl) ?_
   refine aL_s _ rfl rfl (fun hc => qa_eql (by kernel_rfl) (by kernel_rfl) (by kernel_rfl) (fun w => eqFields_mix 9997 _ _ _ [0, 1] w (by kernel_rfl) (by kernel_rfl) rfl rfl) (ev_yes rfl hc) (ev_yes rfl hc)) ?_
   refine aL_s true rfl rfl (fun _ => q_and rfl rfl (fun h => gt rfl h)) (aL_s true rfl rfl (fun _ => q_move rfl) (aL_s _ rfl rfl (fun hc => q_load 10 tk33 rfl rfl rfl) ?_))
   refine aL_s _ rfl rfl (fun hc => q_bld (l := []) (zs := [.int .i64 0, .int .i64 0, .int .i64 0, .int .i64 0, .int .i64 0, .int .i64 0, .int .i64 0, .int .i64 0, .int .i64 0, .int .i64 0, .int .i64 0, .int .i64 0, .int .i64 0, .int .i64 0, .int .i64 0, .int .i64 0, .int .i64 0]) (pl := [(0, 16), (16, 1)]) (by kernel_rfl) (by kernel_rfl) (by kernel_rfl) rfl rfl rfl) ?_
   refine aL_s _ rfl rfl (fun hc => qa_eql (by kernel_rfl) (by kernel_rfl) (by kernel_rfl) (fun w => eqFields_mix 9997 _ _ _ [0, 1, 2, 3, 4, 5, 6, 7, 8, 9, 10, 11, 12, 13, 14, 15, 16] w (by kernel_rfl) (by kernel_rfl) rfl rfl) (ev_yes rfl hc) (ev_yes rfl hc)) ?_
   refine aL_s true rfl rfl (fun _ => q_and rfl rfl (fun h => gt rfl h)) (aL_s true rfl rfl (fun _ => q_move rfl) (aL_s _ rfl rfl (fun hc => q_load 11 tk36 rfl rfl rfl) ?_))
   refine aL_s _ rfl rfl (fun hc => q_bld (l := [(0, .const (.int .i64 4))]) (zs := [.int .i64 0, .int .i64 0]) (pl := [(0, 1), (1, 1)]) (by kernel_rfl) (by kernel_rfl) (by kernel_rfl) rfl rfl rfl) ?_
   refine aL_s _ rfl rfl (fun hc => qa_eql (by kernel_rfl) (by kernel_rfl) (by kernel_rfl) (fun w => eqFields_mix 9997 _ _ _ [0, 1] w (by kernel_rfl) (by kernel_rfl) rfl rfl) (ev_yes rfl hc) (ev_yes rfl hc)) ?_
   refine aL_s true rfl rfl (fun _ => q_and rfl rfl (fun h => gt rfl h)) (aL_s true rfl rfl (fun _ => q_assign rfl) (aL_nil (thn_n (awp_ret ?_))))
   refine fin1 [] [] rfl Tryz.results5 rfl ?_ (.inr rfl)
   simp only [e1, e2, e3, e4, a1_0, a1_1, a1_2, a1_3, a1_4, a1_5, a1_6, a1_7, a1_8, a1_9, a1_10, a1_11, a1_12, a1_13, a1_14, a1_15, a1_16, a2_0, a2_1, a2_2, a2_3, a2_4, a2_5, a2_6, a2_7, a2_8, a2_9, a2_10, a2_11, a2_12, a2_13, a2_14, a2_15, a2_16, a3_0, a3_1, a3_2, a3_3, a3_4, a3_5, a3_6, a3_7, a3_8, a3_9, a3_10, a3_11, a3_12, a3_13, a3_14, a3_15, a3_16, a4_0, a4_1, a4_2, a4_3, a4_4, a4_5, a4_6, a4_7, a4_8, a4_9, a4_10, a4_11, a4_12, a4_13, a4_14, a4_15, a4_16]
   rfl
end Go.Proofs.YtpgcoceggacplaaGreatDoor
namespace Go.Sy
open Go.RowKit Go.Deep
section
variable (P : Program)
def consB : Nat → List Field → Nat → Bool
  | off, [], tot => off == tot
  | off, f :: fs, tot => f.offset == off && decide (off + P.cellsOf f.type ≤ tot) && consB (off + P.cellsOf f.type) fs tot
/-- a type of plain data -/
def rdT : Nat → TypeId → Bool
  | 0, _ => false
  | k + 1, t => match P.underlying t with
    | some .bool => true
    | some (.int _) => true
    | some .string => true
    | some (.slice e) => decide (0 < P.cellsOf e) && rdT k e
    | some (.struct fs) => consB P 0 fs.toList (P.cellsOf t) && fs.toList.all (fun f => rdT k f.type)
    | _ => false
def okF (ok : TypeId → List D → Prop) : List Field → List D → Prop
  | [], ds => ds = []
  | f :: fs, ds => ∃ d1 d2, ds = d1 ++ d2 ∧ ok f.type d1 ∧ okF ok fs d2
/-- data of a type -/
def okD : Nat → TypeId → List D → Prop
  | 0, _, _ => False
  | k + 1, t, ds => match P.underlying t with
    | some .bool => ∃ b, ds = [.v (.bool b)]
    | some (.int i) => ∃ n, ds = [.v (.int i n)] ∧ (Lit.int i n).wf = true
    | some .string => ∃ s, ds = [.v (.string s)] ∧ s.size ≤ maxLen
    | some (.slice e) => ∃ rows, ds = [.sl rows] ∧ rows.length ≤ maxLen ∧ ∀ r ∈ rows, okD k e r
    | some (.struct fs) => okF (okD k) fs.toList ds
    | _ => False
end
variable {P : Program} {H : Type} {enc : TypeId × Value → H} {w : World} {base : Nat} {spare : Nat → Bool} {held : Bool}
/-- cells that read as data -/
def Rds (w : World) (cs : List Value) (off : Nat) (ds : List D) : Prop := ∀ (j : Nat) (d : D), ds[j]? = some d → ∃ u, cs[off + j]? = some u ∧ u.oneCell' = true ∧ RepD w (fun b => b < w.heap.size) u d
section
theorem one_rds {u : Value} {d : D} (h1 : u.oneCell' = true) (h : RepD w (fun b => b < w.heap.size) u d) : Rds w [u] 0 [d] := fun j e hj => by
  cases j with
  | zero => simp at hj; subst hj; exact ⟨u, rfl, h1, h⟩
  | succ j => simp at hj
theorem struct_rep {k fuel : Nat} {cs : List Value} {tot : Nat} (hcs : cs.length = tot)
    (ih : ∀ (t : TypeId) (cs : List Value) (x : DataW H × List MemPlace), rdT P k t = true → DataW.trod enc P w base spare held fuel t cs = some x → ∃ ds, ds.length = cs.length ∧ okD P k t ds ∧ Rds w cs 0 ds) :
    ∀ (fs : List Field) (off : Nat), consB P off fs tot = true → fs.all (fun f => rdT P k f.type) = true →
      (∀ f ∈ fs, ∃ y, DataW.trod enc P w base spare held fuel f.type ((cs.drop f.offset).take (P.cellsOf f.type)) = some y) → ∃ ds, off + ds.length = tot ∧ okF (okD P k) fs ds ∧ Rds w cs off ds
  | [], off, hc, _, _ => ⟨[], by simpa [consB] using hc, rfl, fun j d hj => by cases hj⟩
  | f :: fs, off, hc, hr, ht => by
    simp only [consB, Bool.and_eq_true, beq_iff_eq, decide_eq_true_eq] at hc
    obtain ⟨⟨hc1, hc2⟩, hc3⟩ := hc
    simp only [List.all_cons, Bool.and_eq_true] at hr
    obtain ⟨y, hy⟩ := ht f (List.mem_cons_self ..)
    obtain ⟨d1, l1, o1, r1⟩ := ih _ _ _ hr.1 hy
    obtain ⟨d2, l2, o2, r2⟩ := struct_rep hcs ih fs _ hc3 hr.2 (fun g hg => ht g (List.mem_cons_of_mem _ hg))
    rw [List.length_take, List.length_drop, hc1, hcs] at l1
    have l1 : d1.length = P.cellsOf f.type := by omega
    refine ⟨d1 ++ d2, by rw [List.length_append]; omega, ⟨d1, d2, rfl, o1, o2⟩, fun j d hj => ?_⟩
    by_cases hjl : j < d1.length
    · rw [List.getElem?_append_left hjl] at hj
      obtain ⟨u, hu, h1, h2⟩ := r1 j d hj
      rw [Nat.zero_add, List.getElem?_take, if_pos (by omega), List.getElem?_drop, hc1] at hu
      exact ⟨u, hu, h1, h2⟩
    · rw [List.getElem?_append_right (by omega)] at hj
      obtain ⟨u, hu, h1, h2⟩ := r2 _ d hj
      rw [show off + P.cellsOf f.type + (j - d1.length) = off + j by omega] at hu
      exact ⟨u, hu, h1, h2⟩
theorem spot_none {a : Addr} {u : Value} (h : w.cell? a = some u) : a = ⟨a.block, a.off, none⟩ ∧ a.block < w.heap.size := by
  obtain ⟨b, o, sp⟩ := a
  unfold World.cell? at h
  split at h
  · rename_i hb
    refine ⟨?_, (Array.getElem?_eq_some_iff.1 hb).1⟩
    cases sp with
    | none => rfl
    | some z => simp at h
  · cases h
theorem trod_rep : ∀ (k fuel : Nat) (t : TypeId) (cs : List Value) (x : DataW H × List MemPlace), rdT P k t = true → DataW.trod enc P w base spare held fuel t cs = some x → ∃ ds, ds.length = cs.length ∧ okD P k t ds ∧ Rds w cs 0 ds
  | 0, _, _, _, _, h, _ => by cases h
  | k + 1, fuel, t, cs, x, hr, h => by
    unfold rdT at hr
    unfold okD
    split at hr
    · rename_i hu
      obtain ⟨b, rfl, _⟩ := DataW.trod_bool hu h
      exact ⟨[.v (.bool b)], rfl, ⟨b, rfl⟩, one_rds rfl (.v _)⟩
    · rename_i i hu
      obtain ⟨n, rfl, _, hw⟩ := DataW.trod_int hu h
      exact ⟨[.v (.int i n)], rfl, ⟨n, rfl, hw⟩, one_rds rfl (.v _)⟩
    · rename_i hu
      obtain ⟨s, rfl, _, hs⟩ := DataW.trod_string hu h
      exact ⟨[.v (.string s)], rfl, ⟨s, rfl, hs⟩, one_rds rfl (.v _)⟩
    · rename_i e hu
      rw [Bool.and_eq_true, decide_eq_true_eq] at hr
      obtain ⟨hp, hr⟩ := hr
      rcases open_slice hu h with ⟨rfl, _⟩ | ⟨a, len, cap, m, n, _, _, rfl, _, hl, hm, hmm, _, hx⟩
      · exact ⟨[.sl []], rfl, ⟨[], rfl, by simp, fun r hr => by cases hr⟩, one_rds rfl (.e none 0 (by simp))⟩
      · have hlm : len ≤ m := by rw [hmm]; split <;> omega
        by_cases hl0 : len = 0
        · subst hl0
          exact ⟨[.sl []], rfl, ⟨[], rfl, by simp, fun r hr => by cases hr⟩, one_rds rfl (.e (some a) cap hm)⟩
        · have each : ∀ i, ∃ r : List D, i < len → r.length = P.cellsOf e ∧ okD P k e r ∧ ∀ (j : Nat) (d : D), r[j]? = some d → ∃ u, w.cell? ((a.add (i * P.cellsOf e)).add j) = some u ∧ u.oneCell' = true ∧ RepD w (fun b => b < w.heap.size) u d := fun i => by
            by_cases hi : i < len
            · obtain ⟨cs', h1, h2⟩ := hx i (by omega)
              obtain ⟨ds, l1, o1, r1⟩ := trod_rep k _ _ _ _ hr h2
              obtain ⟨_, hcl, hc⟩ := World.cells?_some h1
              refine ⟨ds, fun _ => ⟨by omega, o1, fun j d hj => ?_⟩⟩
              obtain ⟨u, hu, q1, q2⟩ := r1 j d hj
              have := (List.getElem?_eq_some_iff.1 hj).1
              rw [hc j (by omega)]
              exact ⟨u, by rw [← hu, Nat.zero_add], q1, q2⟩
            · exact ⟨[], fun h => absurd h hi⟩
          obtain ⟨R, hR⟩ := Classical.skolem.1 each
          have ha : a = ⟨a.block, a.off, none⟩ ∧ a.block < w.heap.size := by
            obtain ⟨e1, _, e3⟩ := hR 0 (by omega)
            obtain ⟨d, hd⟩ : ∃ d, (R 0)[0]? = some d := ⟨(R 0)[0]'(by omega), by simp⟩
            obtain ⟨u, hu, _⟩ := e3 0 d hd
            have : (a.add (0 * P.cellsOf e)).add 0 = a := by simp [Addr.add]
            rw [this] at hu
            exact spot_none hu
          obtain ⟨ha, hb⟩ := ha
          have hadd : ∀ i j, (a.add (i * P.cellsOf e)).add j = ⟨a.block, a.off + i * P.cellsOf e + j, none⟩ := fun i j => by
            rw [ha]; unfold Addr.add
            by_cases h1 : i * P.cellsOf e = 0 <;> by_cases h2 : j = 0 <;> simp [h1, h2]
          have hrow : ∀ (i : Nat) (r : List D), ((List.range len).map R)[i]? = some r → i < len ∧ r = R i := fun i r hi => by
            have := (List.getElem?_eq_some_iff.1 hi).1
            simp at this
            rw [List.getElem?_map, List.getElem?_range this] at hi
            exact ⟨this, by simpa using hi.symm⟩
          refine ⟨[.sl ((List.range len).map R)], rfl, ⟨_, rfl, by simp; omega, fun r hr => ?_⟩, one_rds rfl ?_⟩
          · obtain ⟨i, hi, rfl⟩ := List.mem_map.1 hr
            exact (hR i (List.mem_range.1 hi)).2.1
          · have := RepD.sl (w := w) (S := fun b => b < w.heap.size) a.block a.off cap (P.cellsOf e) ((List.range len).map R) (fun i j => (w.cell? ⟨a.block, a.off + i * P.cellsOf e + j, none⟩).getD (.bool false)) hb (by simpa using hl) hm
              (fun i r hi => by obtain ⟨h1, rfl⟩ := hrow i r hi; exact (hR i h1).1)
              (fun i j r d hi hj => by
                obtain ⟨h1, rfl⟩ := hrow i r hi
                obtain ⟨u, hu, q1, q2⟩ := (hR i h1).2.2 j d hj
                rw [hadd] at hu
                rw [hu]; exact ⟨rfl, q1⟩)
              (fun i j r d hi hj => by
                obtain ⟨h1, rfl⟩ := hrow i r hi
                obtain ⟨u, hu, q1, q2⟩ := (hR i h1).2.2 j d hj
                rw [hadd] at hu
                rw [hu]; exact q2)
            rw [← ha] at this
            simpa using this
    · rename_i fs hu
      rw [Bool.and_eq_true] at hr
      obtain ⟨xs, n, _, _, hcl, hxl, hf⟩ := DataW.trod_struct hu h
      obtain ⟨ds, l1, o1, r1⟩ := struct_rep (tot := P.cellsOf t) hcl (fun t cs x h1 h2 => trod_rep k n t cs x h1 h2) fs.toList 0 hr.1 hr.2 (fun f hff => by
        obtain ⟨i, hi, rfl⟩ := List.getElem_of_mem hff
        rw [hf i _ (by simp at hi ⊢)]
        simp at hi
        exact ⟨xs[i]'(by omega), by simp [hxl, hi]⟩)
      exact ⟨ds, by omega, o1, r1⟩
    · cases hr
theorem okD_int {k : Nat} {t : TypeId} {ds : List D} {i : IntKind} (hu : P.underlying t = some (.int i)) (h : okD P (k + 1) t ds) : ∃ n, ds = [.v (.int i n)] ∧ (Lit.int i n).wf = true := by unfold okD at h; rw [hu] at h; exact h
theorem okD_bool {k : Nat} {t : TypeId} {ds : List D} (hu : P.underlying t = some .bool) (h : okD P (k + 1) t ds) : ∃ b, ds = [.v (.bool b)] := by unfold okD at h; rw [hu] at h; exact h
theorem okD_string {k : Nat} {t : TypeId} {ds : List D} (hu : P.underlying t = some .string) (h : okD P (k + 1) t ds) : ∃ s, ds = [.v (.string s)] ∧ s.size ≤ maxLen := by unfold okD at h; rw [hu] at h; exact h
theorem okD_slice {k : Nat} {t e : TypeId} {ds : List D} (hu : P.underlying t = some (.slice e)) (h : okD P (k + 1) t ds) : ∃ rows, ds = [.sl rows] ∧ rows.length ≤ maxLen ∧ ∀ r ∈ rows, okD P k e r := by unfold okD at h; rw [hu] at h; exact h
theorem okD_struct {k : Nat} {t : TypeId} {ds : List D} {fs : Array Field} (hu : P.underlying t = some (.struct fs)) (h : okD P (k + 1) t ds) : okF (okD P k) fs.toList ds := by unfold okD at h; rw [hu] at h; exact h
/-- the fields that are integers, one after the other -/
theorem okF_one {ok : TypeId → List D → Prop} {f : Field} {fs : List Field} {ds : List D} (h : okF ok (f :: fs) ds) : ∃ d1 d2, ds = d1 ++ d2 ∧ ok f.type d1 ∧ okF ok fs d2 := h
theorem wf64 {n : Int} (h : (Lit.int .i64 n).wf = true) : -9223372036854775808 ≤ n ∧ n ≤ 9223372036854775807 := by
  simp only [Lit.wf, Bool.and_eq_true, decide_eq_true_eq] at h
  have e1 : IntKind.i64.min = -9223372036854775808 := by decide +kernel
  have e2 : IntKind.i64.max = 9223372036854775807 := by decide +kernel
  rw [e1, e2] at h
  exact h
/-- rows of a kind -/
theorem rows_of {α : Type} {f : α → List D} {Q : α → Prop} : ∀ {rows : List (List D)}, (∀ r ∈ rows, ∃ d, r = f d ∧ Q d) → ∃ l : List α, rows = l.map f ∧ ∀ d ∈ l, Q d
  | [], _ => ⟨[], rfl, fun d hd => by cases hd⟩
  | r :: rows, h => by
    obtain ⟨d, rfl, hd⟩ := h r (List.mem_cons_self ..)
    obtain ⟨l, rfl, hl⟩ := rows_of fun r hr => h r (List.mem_cons_of_mem _ hr)
    exact ⟨d :: l, rfl, fun x hx => by
      rcases List.mem_cons.1 hx with rfl | hx
      · exact hd
      · exact hl x hx⟩
/-- a slice that came in, of elements of a kind -/
theorem slice_in {α : Type} {f : α → List D} {Q : α → Prop} {t e : TypeId} {k fuel len cap : Nat} {a : Option Addr} {x : DataW H × List MemPlace} (hu : P.underlying t = some (.slice e)) (hr : rdT P (k + 1) t = true)
    (hf : ∀ r, okD P k e r → ∃ d, r = f d ∧ Q d) (h : DataW.trod enc P w base spare held fuel t [.slice a len cap] = some x) :
    ∃ l : List α, len = l.length ∧ (∀ d ∈ l, Q d) ∧ RepD w (fun b => b < w.heap.size) (.slice a l.length cap) (.sl (l.map f)) := by
  obtain ⟨ds, _, ho, hR⟩ := trod_rep (k + 1) fuel t _ x hr h
  obtain ⟨rows, rfl, _, hrows⟩ := okD_slice hu ho
  obtain ⟨l, rfl, hl⟩ := rows_of fun r hr => hf r (hrows r hr)
  obtain ⟨u, hu, _, hrep⟩ := hR 0 _ rfl
  simp at hu
  subst hu
  have e : len = l.length := by
    rw [← List.length_map (f := f)]
    generalize l.map f = rows at hrep
    cases hrep with
    | e a c hc => rfl
    | sl => rfl
  subst e
  exact ⟨l, rfl, hl, hrep⟩
/-- a world that has what came in -/
theorem st_in {ps : List Per} (h : ∀ p ∈ ps, p.holds w fun b => b < w.heap.size) : St w (fun b => b < w.heap.size) (fun _ _ => False) ps [] :=
  ⟨h, fun i R hR => by simp at hR, fun i hi => by simp at hi, fun i j hi => by simp at hi, fun _ h => h⟩
end
end Go.Sy
namespace Go.Sy
open Go.RowKit
mutual
/-- the cells of a datum of bools, integers, strings, arrays and structs -/
def litCells {H : Type} : DataW H → Option (List Value)
  | .lit (.string bs) => some [.string ⟨bs.toArray⟩]
  | .lit (.int k n) => some [.int k n]
  | .lit (.bool b) => some [.bool b]
  | .agg ps => litAll ps
  | _ => none
def litAll {H : Type} : List (DataW H) → Option (List Value)
  | [] => some []
  | d :: ds => match litCells d, litAll ds with
    | some a, some b => some (a ++ b)
    | _, _ => none
end
section
variable (P : Program)
/-- a type of such data -/
def rdA : Nat → TypeId → Bool
  | 0, _ => false
  | k + 1, t => match P.underlying t with
    | some .bool => true
    | some (.int _) => true
    | some .string => true
    | some (.array n e) => decide (P.cellsOf t = n * P.cellsOf e) && rdA k e
    | some (.struct fs) => consB P 0 fs.toList (P.cellsOf t) && fs.toList.all (fun f => rdA k f.type)
    | _ => false
end
variable {P : Program} {H : Type} {enc : TypeId × Value → H} {w : World} {base : Nat} {spare : Nat → Bool} {held : Bool}
theorem lit_array {cs : List Value} {c : Nat} {F : Nat → Option (DataW H × List MemPlace)} (ih : ∀ i x, F i = some x → litCells x.1 = some ((cs.drop (i * c)).take c)) :
    ∀ (n o : Nat) (xs : List (DataW H × List MemPlace)), xs.length = n → (∀ i, i < n → F (o + i) = xs[i]?) → (o + n) * c ≤ cs.length → litAll (xs.map (·.1)) = some ((cs.drop (o * c)).take (n * c))
  | 0, o, xs, hl, _, _ => by
    have : xs = [] := List.eq_nil_of_length_eq_zero hl
    subst this; simp [litAll]
  | n + 1, o, xs, hl, hx, hc => by
    cases xs with
    | nil => simp at hl
    | cons x xs =>
      have h0 := ih _ x (by rw [hx 0 (by omega)]; rfl)
      have h1 := lit_array ih n (o + 1) xs (by simpa using hl) (fun i hi => by rw [show o + 1 + i = o + (i + 1) by omega, hx (i + 1) (by omega)]; rfl) (by rw [show o + 1 + n = o + (n + 1) by omega]; exact hc)
      rw [Nat.add_zero] at h0
      rw [List.map_cons, litAll, h0, h1]
      simp only [Option.some.injEq]
      have e : (n + 1) * c = c + n * c := by rw [Nat.add_mul]; omega
      rw [e, List.take_add, List.drop_drop, show o * c + c = (o + 1) * c by rw [Nat.add_mul]; omega]
theorem lit_struct {cs : List Value} {fuel : Nat} {ok : TypeId → Bool} (ih : ∀ (t : TypeId) (cs : List Value) (x : DataW H × List MemPlace), ok t = true → DataW.trod enc P w base spare held fuel t cs = some x → litCells x.1 = some cs) :
    ∀ (fs : List Field) (off : Nat) (xs : List (DataW H × List MemPlace)), consB P off fs cs.length = true → fs.all (fun f => ok f.type) = true → xs.length = fs.length →
      (∀ (i : Nat) (f : Field), fs[i]? = some f → DataW.trod enc P w base spare held fuel f.type ((cs.drop f.offset).take (P.cellsOf f.type)) = xs[i]?) → litAll (xs.map (·.1)) = some (cs.drop off)
  | [], off, xs, hc, _, hl, _ => by
    have : xs = [] := List.eq_nil_of_length_eq_zero hl
    subst this
    have : off = cs.length := by simpa [consB] using hc
    simp [litAll, this]
  | f :: fs, off, xs, hc, hr, hl, hx => by
    cases xs with
    | nil => simp at hl
    | cons x xs =>
      simp only [consB, Bool.and_eq_true, beq_iff_eq, decide_eq_true_eq] at hc
      obtain ⟨⟨hc1, hc2⟩, hc3⟩ := hc
      simp only [List.all_cons, Bool.and_eq_true] at hr
      have h0 := ih _ _ x hr.1 (by rw [hx 0 f rfl]; rfl)
      have h1 := lit_struct ih fs _ xs hc3 hr.2 (by simpa using hl) (fun i g hg => by rw [hx (i + 1) g (by simpa using hg)]; rfl)
      rw [List.map_cons, litAll, h0, h1]
      simp only [Option.some.injEq]
      rw [hc1, ← List.drop_drop, List.take_append_drop]
theorem lit_rep : ∀ (k fuel : Nat) (t : TypeId) (cs : List Value) (x : DataW H × List MemPlace), rdA P k t = true → DataW.trod enc P w base spare held fuel t cs = some x → litCells x.1 = some cs
  | 0, _, _, _, _, h, _ => by cases h
  | k + 1, fuel, t, cs, x, hr, h => by
    unfold rdA at hr
    split at hr
    · rename_i hu; obtain ⟨b, rfl, rfl⟩ := DataW.trod_bool hu h; rfl
    · rename_i i hu; obtain ⟨n, rfl, rfl, _⟩ := DataW.trod_int hu h; rfl
    · rename_i hu; obtain ⟨s, rfl, rfl, _⟩ := DataW.trod_string hu h; rfl
    · rename_i n e hu
      rw [Bool.and_eq_true, decide_eq_true_eq] at hr
      obtain ⟨xs, m, _, rfl, hl, hn, hx⟩ := DataW.trod_array hu h
      have := lit_array (c := P.cellsOf e) (F := fun i => DataW.trod enc P w base spare held m e ((cs.drop (i * P.cellsOf e)).take (P.cellsOf e))) (cs := cs) (fun i x hx => lit_rep k m e _ x hr.2 hx) n 0 xs hn (fun i hi => by rw [Nat.zero_add]; exact hx i hi) (by rw [Nat.zero_add, hl, hr.1]; exact Nat.le_refl _)
      show litAll (xs.map (·.1)) = some cs
      rw [this, Nat.zero_mul, List.drop_zero, List.take_of_length_le (by rw [hl, hr.1]; exact Nat.le_refl _)]
    · rename_i fs hu
      rw [Bool.and_eq_true] at hr
      obtain ⟨xs, n, _, rfl, hl, hxl, hf⟩ := DataW.trod_struct hu h
      have := lit_struct (ok := rdA P k) (cs := cs) (fun t cs x h1 h2 => lit_rep k n t cs x h1 h2) fs.toList 0 xs (by rw [hl]; exact hr.1) hr.2 (by simpa using hxl) (fun i f hi => hf i f (by simpa using hi))
      show litAll (xs.map (·.1)) = some cs
      rw [this, List.drop_zero]
    · cases hr
end Go.Sy
namespace Go.Proofs.YtpgcoceggacplaaGreatDoor
open Go.ChangeShapes Go.WideShapes Go.ChangeAt Go.RowKit
open Go.Lp Go.Sy
theorem own : ownKnob Tryz.prog.godebug = none := by kernel_rfl
theorem laidOut : laidOutB Tryz.prog = true := by kernel_rfl
section
variable {H : Type} {enc : TypeId × Value → H} {W : World} {base : Nat} {spare : Nat → Bool} {held : Bool}
theorem int_of {r : List D} (h : okD Tryz.prog 1 3 r) : ∃ z : Int, r = [.v (.int .i64 z)] ∧ I64 z := by
  obtain ⟨n, rfl, w⟩ := okD_int (i := .i64) (by kernel_rfl) h
  exact ⟨n, rfl, wf64 w⟩
theorem sl_shape {w : World} {S : Blks} {u : Value} {rows : List (List D)} (h : RepD w S u (.sl rows)) : ∃ ad c, u = .slice ad rows.length c := by
  cases h with
  | e a c hc => exact ⟨a, c, rfl⟩
  | sl b o c sz _ us hb hn hc hr hcell hd => exact ⟨_, c, rfl⟩
theorem stg_of {fuel : Nat} {cs : Array Value} {y : DataW H × List MemPlace} (h : DataW.trod enc Tryz.prog W base spare held fuel 24 cs.toList = some y) :
    ∃ (x : Stg) (ad : Option Addr) (c : Nat), cs = (stgV x ad c).toArray ∧ x.code.size ≤ maxLen ∧ x.data.size ≤ maxLen ∧ I64 x.stack ∧ I64 x.pc ∧ (∀ z ∈ x.regs, I64 z) ∧ RepD W (fun b => b < W.heap.size) (.slice ad x.regs.length c) (.sl (irows x.regs)) := by
  obtain ⟨ds, hlen, ho, hR⟩ := trod_rep 3 fuel 24 _ _ (by kernel_rfl) h
  have ho := okD_struct Tryz.underlying24 ho
  obtain ⟨d1, _, rfl, h1, d2, _, rfl, h2, d3, _, rfl, h3, d4, _, rfl, h4, d5, _, rfl, h5, rfl⟩ := ho
  obtain ⟨s1, rfl, w1⟩ := okD_string (by kernel_rfl) h1
  obtain ⟨s2, rfl, w2⟩ := okD_string (by kernel_rfl) h2
  obtain ⟨n3, rfl, w3⟩ := okD_int (i := .i64) (by kernel_rfl) h3
  obtain ⟨rows, rfl, _, hrows⟩ := okD_slice Tryz.underlying22 h4
  obtain ⟨n5, rfl, w5⟩ := okD_int (i := .i64) (by kernel_rfl) h5
  obtain ⟨l, rfl, hl⟩ := rows_of (f := fun z : Int => [D.v (.int .i64 z)]) (Q := fun z => I64 z) fun r hr => int_of (hrows r hr)
  obtain ⟨u0, g0, _, r0⟩ := hR 0 (.v (.string s1)) rfl
  obtain ⟨u1, g1, _, r1⟩ := hR 1 (.v (.string s2)) rfl
  obtain ⟨u2, g2, _, r2⟩ := hR 2 (.v (.int .i64 n3)) rfl
  obtain ⟨u3, g3, _, r3⟩ := hR 3 (.sl (l.map fun z => [D.v (.int .i64 z)])) rfl
  obtain ⟨u4, g4, _, r4⟩ := hR 4 (.v (.int .i64 n5)) rfl
  rw [repD_v r0] at g0
  rw [repD_v r1] at g1
  rw [repD_v r2] at g2
  rw [repD_v r4] at g4
  obtain ⟨ad, c, rfl⟩ := sl_shape r3
  rw [List.length_map] at g3 r3
  refine ⟨⟨s1, s2, n3, l, n5⟩, ad, c, ?_, w1, w2, wf64 w3, wf64 w5, hl, r3⟩
  have hl5 : cs.toList.length = 5 := by simpa using hlen.symm
  apply Array.ext'
  apply List.ext_getElem?
  intro k
  show cs.toList[k]? = (stgV ⟨s1, s2, n3, l, n5⟩ ad c)[k]?
  have : k = 0 ∨ k = 1 ∨ k = 2 ∨ k = 3 ∨ k = 4 ∨ 5 ≤ k := by omega
  rcases this with rfl | rfl | rfl | rfl | rfl | h5
  · exact g0
  · exact g1
  · exact g2
  · exact g3
  · exact g4
  · rw [List.getElem?_eq_none (by omega), List.getElem?_eq_none (by show 5 ≤ k; exact h5)]
end
theorem gForms : Tryz.prog.globalNamed "linchpin/isa.forms" = some 1 := by kernel_rfl
theorem tForms : (Tryz.prog.globals[1]?).map (·.type) = some 93 := by kernel_rfl
theorem forms_lit : litCells (Rows.laid_linchpin_isa_forms (H := Unit)) = some formsV := by kernel_rfl
theorem forms_one : formsV.all (·.oneCell') = true := by kernel_rfl
theorem cells_at {W : World} {g : Nat} {l : List Value} (h0 : l ≠ []) (h : ∀ i, W.cell? ⟨g, i, none⟩ = l[i]?) (h1 : l.all (·.oneCell') = true) : (At g 0 (l.map D.v)).holds W (fun b => b < W.heap.size) := by
  obtain ⟨v, hv⟩ : ∃ v, l[0]? = some v := by cases l with
    | nil => exact absurd rfl h0
    | cons v l => exact ⟨v, rfl⟩
  refine ⟨(spot_none ((h 0).trans hv)).2, fun j d hj => ?_⟩
  rw [List.getElem?_map] at hj
  cases hl : l[j]? with
  | none => rw [hl] at hj; cases hj
  | some u =>
    rw [hl] at hj
    simp only [Option.map_some, Option.some.injEq] at hj
    exact ⟨u, by rw [Nat.zero_add, h, hl], List.all_eq_true.1 h1 u (List.mem_of_getElem? hl), by rw [← hj]; exact .v u⟩
end Go.Proofs.YtpgcoceggacplaaGreatDoor
