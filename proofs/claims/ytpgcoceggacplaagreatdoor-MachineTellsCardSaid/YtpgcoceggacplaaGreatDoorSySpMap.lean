/- Map's contract over states. -/
import Derived.Test.YtpgcoceggacplaaGreatDoorLpSp9
import Derived.Test.YtpgcoceggacplaaGreatDoorLpMapA
import Derived.Test.YtpgcoceggacplaaGreatDoorSySpA
set_option linter.unusedVariables false
set_option linter.unusedSimpArgs false
set_option maxRecDepth 20000
namespace Go.Proofs.YtpgcoceggacplaaGreatDoor
open Go.RowKit Go.Lp Go.Sy
theorem search_k {w : World} {p : Nat} {a : Option Nat} {c : Nat} {S : List Pt} (h : SpAt w p a c S) (t : Int) (k : Nat) (hlo : Lo (ptKey S) S.length t k) :
    Calls Tryz.prog 40 #[.pointer (some ⟨p, 0, none⟩), .int .i64 t] w fun e w' => e = .returned (.tuple #[.int .i64 k, .bool (decide (k < S.length ∧ ptKey S k = t))]) ∧ Below w.heap.size w w' :=
  (h.search t).mono fun e w' ⟨k', hlo', he, hb'⟩ => by
    have hk : k' = k := by
      obtain ⟨a1, a2, a3⟩ := hlo
      obtain ⟨b1, b2, b3⟩ := hlo'
      rcases Nat.lt_trichotomy k k' with hlt | rfl | hlt
      · have := b2 k hlt; have := a3 k (Nat.le_refl _) (by omega); omega
      · rfl
      · have := a2 k' hlt; have := b3 k' (Nat.le_refl _) (by omega); omega
    subst hk
    exact ⟨he, hb'⟩
section
variable {n : Nat} {env : Env} {ps : List Per} {hp : List Res} {d : Option Tmp} {ty : TypeId} {pos : String} {af : Array Edge} {gd : Option (Nat × Bool)} {p : Nat} {M : Mem} {X : SpX}
/-- a field of a part -/
theorem qa_fld {x : Operand} {o : Nat} {q : Pt} {v : Value} (k j : Nat) (hi : SpP p M X ∈ ps) (hx : ev env x = some (true, .pointer (some ⟨X.a.getD 0, o, none⟩))) (ho : o = k * 6 + j) (hk : X.S[k]? = some q) (hv : q.vals[j]? = some v) :
    Quiet Tryz.prog n ⟨d, .load 3 x, ty, pos, af, gd⟩ ⟨env, ps, hp⟩ v := fun w S fp a hst he hn => by
  subst ho
  obtain ⟨h, _⟩ := spA_facts hst hi
  have hkl := (List.getElem?_eq_some_iff.1 hk).1
  obtain ⟨B, hB, hBl, hc⟩ := h.cells hkl
  have hq : X.S.getD k default = q := by simp [List.getD, hk]
  rw [hq] at hc
  have h1 := he.val hx rfl
  rw [hB] at h1
  have : (execOp a.eval ⟨d, .load 3 x, ty, pos, af, gd⟩).run Tryz.prog w = .ok (.value v) w := by
    unfold execOp; dsimp only; rw [h1]
    have := rdC_run (P := Tryz.prog) (w := w) tk3 (o := j) (cs := q.vals) (v := v) hv (b := B) (p := k * 6) (fun j u hu => by
      have hj : j < 6 := (List.getElem?_eq_some_iff.1 hu).1
      rw [hc j hj]; exact hu)
    show ((loadVar 3 ⟨B, k * 6 + j, none⟩).bind fun r => Sem.pure (Next.value r)).run Tryz.prog w = _
    rw [Sem.run_bind', this]; rfl
  rw [this]; exact uponQ_ok _ _
end
theorem getD_some {S : List Pt} {k : Nat} (h : k < S.length) : S[k]? = some (S.getD k default) := by simp [List.getD, h]
theorem map_no (p : Nat) (M : Mem) (X : SpX) (A : Ar) (hinv : Inv X.S) (hX : mem X.S = M) (hfew : X.S.length ≤ 4096) (hno : rightA A = true → (mem X.S).any (meets A) = true) :
    Con Tryz.prog 20 [.pointer (some ⟨p, 0, none⟩), .agg #[.int .i64 A.at_, .int .i64 A.size, .int .i64 A.kind, .int .i64 A.owner, .int .i64 A.mod]] [SpP p M X] []
      fun r _ _ => r = .int .i64 (if rightA A = true then 4 else 1) := by
  obtain ⟨k, hlo⟩ := lo_ex (ptKey X.S) A.at_ X.S.length hinv.key_le
  have HNO := Lib.hid (fun hr => (meets_iff hinv hr hlo).1 (hno hr))
  have HI := Lib.hid hinv
  have hkn := hlo.1
  have HLO := Lib.hid hlo
  have hAr : rightA A = true → 256 ≤ A.at_ ∧ A.at_ < 1099511627776 ∧ A.at_ % 256 = 0 ∧ 1 ≤ A.size ∧ A.size ≤ 1048576 ∧ A.at_ + A.size ≤ 1099511627776 := fun h => by
    obtain ⟨r1, r2, r3, r4, r5, r6, r7, r8⟩ := rightA_iff.1 h; exact ⟨r1, r2, r3, r4, r5, r6⟩
  clear hno hinv hlo
  refine Con.enter Tryz.func20 rfl (by simp [Tryz.ntmps20]) ?_
  show awp _ _ _ _ ⟨[(0, true, _), (1, true, _)], _, _⟩
  refine awp_seq (awp_region ?_)
  refine aL_eff (q := true) rfl (e_box rfl rfl rfl (fun b0_0 => ?_))
  simp only [nM, nN]
  refine aL_s true rfl rfl (fun _ => q_assign rfl) (aL_nil (thn_n (awp_seq (awp_seq (awp_region (aL_s true rfl rfl (fun _ => q_load 0 tk58 rfl rfl rfl) ?_))))))
  refine aL_s true rfl rfl (fun _ => q_call (by kernel_rfl) rfl (fun w S fp hst => right_any _ _ _ _ _ w)) ?_
  refine aL_s true rfl rfl (fun _ => q_not rfl) (aL_nil (thn_n ?_))
  refine awp_cond _ rfl (fun h1 => ?_) (fun h1 => ?_)
  ·skip
   refine awp_seq (awp_region (aL_s true rfl rfl (fun _ => q_assign rfl) (aL_nil (thn_n (awp_ret (thn_r ?_))))))
   refine fin1 [] [] rfl Tryz.results20 rfl ?_ (.inr rfl)
   rw [if_neg (by simpa using h1)]
  ·skip
   have hr : rightA A = true := by simpa using h1
   obtain ⟨r1, r2, r3, r4, r5, r6⟩ := hAr hr
   have hqb : ∀ j, j < X.S.length → 256 ≤ (X.S.getD j default).ar.at_ ∧ (X.S.getD j default).ar.at_ + (X.S.getD j default).ar.size ≤ 1099511627776 ∧ 1 ≤ (X.S.getD j default).ar.size := fun j hj => by
     obtain ⟨s1, s2, s3, s4, s5, s6, s7, s8⟩ := rightA_iff.1 (HI.out.rightAt hj); exact ⟨s1, s6, s4⟩
   refine awp_skip (thn_n (awp_seq (awp_region (aL_s true rfl rfl (fun _ => q_move rfl) ?_))))
   refine aL_s true rfl rfl (fun _ => q_fieldAddr (off := 0) (by kernel_rfl) rfl) ?_
   refine aL_s true rfl rfl (fun _ => q_load 0 tk3 rfl rfl rfl) ?_
   refine aL_s true rfl rfl (fun _ => q_call (by kernel_rfl) rfl (fun w S fp hst => search_k (spA_facts hst (psAt 0 rfl)).1 _ k HLO.out)) ?_
   refine aL_s true rfl rfl (fun _ => q_move rfl) (aL_s true rfl rfl (fun _ => q_extract rfl rfl) (aL_s true rfl rfl (fun _ => q_extract rfl rfl) (aL_s true rfl rfl (fun _ => q_assign rfl) (aL_s true rfl rfl (fun _ => q_assign rfl) (aL_nil (thn_n (awp_seq ?_)))))))
   refine awp_seq ?_
   refine awp_drawn [] (by kernel_rfl) ?_
   show aB _ _ _ _ _ 57 #[false, false, false, false, false, false, false, false, false, false, false, false, false, false, false, false, false, false, false, false, false, false, false, false, false, false, false, false, false, false, false, false, false, false, false, false, false, false, false, false, false, false, false, false, false, false, false, false, false, false, false, false, false, false, false, false, false] _
   refine aB_s 0 rfl (by kernel_rfl) true rfl rfl (fun _ => q_move rfl) ?_
   simp only [nO, nK, nL]
   refine aB_s 1 rfl (by kernel_rfl) true rfl rfl (fun _ => q_move rfl) ?_
   simp only [nO, nK, nL]
   refine aB_s 2 rfl (by kernel_rfl) _ rfl rfl (fun hc => q_move rfl) ?_
   simp only [nO, nK, nL]
   refine aB_s 3 rfl (by kernel_rfl) _ rfl rfl (fun hc => q_move rfl) ?_
   simp only [nO, nK, nL]
   refine aB_s 4 rfl (by kernel_rfl) _ rfl rfl (fun hc => q_nilCheck (ev_yes rfl hc)) ?_
   simp only [nO, nK, nL]
   refine aB_s 5 rfl (by kernel_rfl) _ rfl rfl (fun hc => q_fieldAddr (off := 0) (by kernel_rfl) (ev_yes rfl hc)) ?_
   simp only [nO, nK, nL]
   refine aB_s 6 rfl (by kernel_rfl) _ rfl rfl (fun hc => qa_head (psAt 0 rfl) (ev_yes rfl hc) rfl) ?_
   simp only [nO, nK, nL]
   refine aB_s 7 rfl (by kernel_rfl) _ rfl rfl (fun hc => q_lenS Tryz.underlying96 (ev_yes rfl hc)) ?_
   simp only [nO, nK, nL]
   refine aB_s 8 rfl (by kernel_rfl) _ rfl rfl (fun hc => q_lss (ev_yes rfl hc) (ev_yes rfl hc)) ?_
   simp only [nO, nK, nL]
   refine aB_s 9 rfl (by kernel_rfl) _ rfl rfl (fun hc => q_move (ev_yes rfl hc)) ?_
   simp only [nO, nK, nL]
   refine aB_s 10 rfl (by kernel_rfl) _ rfl rfl (fun hc => q_move rfl) ?_
   simp only [nO, nK, nL]
   refine aB_s 11 rfl (by kernel_rfl) _ rfl rfl (fun hc => q_nilCheck (ev_yes rfl hc)) ?_
   simp only [nO, nK, nL]
   refine aB_s 12 rfl (by kernel_rfl) _ rfl rfl (fun hc => q_fieldAddr (off := 0) (by kernel_rfl) (ev_yes rfl hc)) ?_
   simp only [nO, nK, nL]
   refine aB_s 13 rfl (by kernel_rfl) _ rfl rfl (fun hc => qa_head (psAt 0 rfl) (ev_yes rfl hc) rfl) ?_
   simp only [nO, nK, nL]
   refine aB_s 14 rfl (by kernel_rfl) _ rfl rfl (fun hc => q_move rfl) ?_
   simp only [nO, nK, nL]
   refine aB_s 15 rfl (by kernel_rfl) _ rfl rfl (fun hc => qa_idx k (psAt 0 rfl) (ev_yes rfl hc) (ev_yes rfl hc) rfl (by have h := gT hc; simp at h; omega)) ?_
   simp only [nO, nK, nL]
   refine aB_s 16 rfl (by kernel_rfl) _ rfl rfl (fun hc => q_fieldAddr (off := 0) (by kernel_rfl) (ev_yes rfl hc)) ?_
   simp only [nO, nK, nL]
   refine aB_s 17 rfl (by kernel_rfl) _ rfl rfl (fun hc => q_fieldAddr (off := 0) (by kernel_rfl) (ev_yes rfl hc)) ?_
   simp only [nO, nK, nL]
   refine aB_s 18 rfl (by kernel_rfl) _ rfl rfl (fun hc => qa_fld k 0 (psAt 0 rfl) (ev_yes rfl hc) rfl (getD_some (by have h := gT hc; simp at h; omega)) rfl) ?_
   simp only [nO, nK, nL]
   refine aB_s 19 rfl (by kernel_rfl) _ rfl rfl (fun hc => q_fieldAddr (off := 0) (by kernel_rfl) rfl) ?_
   simp only [nO, nK, nL]
   refine aB_s 20 rfl (by kernel_rfl) _ rfl rfl (fun hc => q_load 0 tk3 (ev_yes rfl hc) rfl rfl) ?_
   simp only [nO, nK, nL]
   refine aB_s 21 rfl (by kernel_rfl) _ rfl rfl (fun hc => q_fieldAddr (off := 1) (by kernel_rfl) rfl) ?_
   simp only [nO, nK, nL]
   refine aB_s 22 rfl (by kernel_rfl) _ rfl rfl (fun hc => q_load 0 tk3 (ev_yes rfl hc) rfl rfl) ?_
   simp only [nO, nK, nL]
   refine aB_s 23 rfl (by kernel_rfl) _ rfl rfl (fun hc => q_addi (ev_yes rfl hc) (ev_yes rfl hc) (by (first | omega | (simp at hc; omega)))) ?_
   simp only [nO, nK, nL]
   refine aB_s 24 rfl (by kernel_rfl) _ rfl rfl (fun hc => q_lss (ev_yes rfl hc) (ev_yes rfl hc)) ?_
   simp only [nO, nK, nL]
   refine aB_s 25 rfl (by kernel_rfl) _ rfl rfl (fun hc => q_and (ev_yes rfl hc) rfl (fun h => gt hc h)) ?_
   simp only [nO, nK, nL]
   refine aB_s 26 rfl (by kernel_rfl) true rfl rfl (fun _ => q_or rfl rfl (fun h => gf rfl h)) ?_
   simp only [nO, nK, nL]
   refine aB_s 27 rfl (by kernel_rfl) true rfl rfl (fun _ => q_move rfl) ?_
   simp only [nO, nK, nL]
   refine aB_s 28 rfl (by kernel_rfl) _ rfl rfl (fun hc => q_move rfl) ?_
   simp only [nO, nK, nL]
   refine aB_s 29 rfl (by kernel_rfl) _ rfl rfl (fun hc => q_gtr (ev_yes rfl hc) rfl) ?_
   simp only [nO, nK, nL]
   refine aB_s 30 rfl (by kernel_rfl) _ rfl rfl (fun hc => q_move (ev_yes rfl hc)) ?_
   simp only [nO, nK, nL]
   refine aB_s 31 rfl (by kernel_rfl) _ rfl rfl (fun hc => q_move rfl) ?_
   simp only [nO, nK, nL]
   refine aB_s 32 rfl (by kernel_rfl) _ rfl rfl (fun hc => q_nilCheck (ev_yes rfl hc)) ?_
   simp only [nO, nK, nL]
   refine aB_s 33 rfl (by kernel_rfl) _ rfl rfl (fun hc => q_fieldAddr (off := 0) (by kernel_rfl) (ev_yes rfl hc)) ?_
   simp only [nO, nK, nL]
   refine aB_s 34 rfl (by kernel_rfl) _ rfl rfl (fun hc => qa_head (psAt 0 rfl) (ev_yes rfl hc) rfl) ?_
   simp only [nO, nK, nL]
   refine aB_s 35 rfl (by kernel_rfl) _ rfl rfl (fun hc => q_move rfl) ?_
   simp only [nO, nK, nL]
   refine aB_s 36 rfl (by kernel_rfl) _ rfl rfl (fun hc => q_subi (ev_yes rfl hc) rfl (by have h := gT hc; simp at h; omega)) ?_
   simp only [nO, nK, nL]
   refine aB_s 37 rfl (by kernel_rfl) _ rfl rfl (fun hc => qa_idx (k - 1) (psAt 0 rfl) (ev_yes rfl hc) (ev_yes rfl hc) (by have h := gT hc; simp at h; omega) (by have h := gT hc; simp at h; omega)) ?_
   simp only [nO, nK, nL]
   refine aB_s 38 rfl (by kernel_rfl) _ rfl rfl (fun hc => q_fieldAddr (off := 0) (by kernel_rfl) (ev_yes rfl hc)) ?_
   simp only [nO, nK, nL]
   refine aB_s 39 rfl (by kernel_rfl) _ rfl rfl (fun hc => q_fieldAddr (off := 0) (by kernel_rfl) (ev_yes rfl hc)) ?_
   simp only [nO, nK, nL]
   refine aB_s 40 rfl (by kernel_rfl) _ rfl rfl (fun hc => qa_fld (k - 1) 0 (psAt 0 rfl) (ev_yes rfl hc) rfl (getD_some (by have h := gT hc; simp at h; omega)) rfl) ?_
   simp only [nO, nK, nL]
   refine aB_s 41 rfl (by kernel_rfl) _ rfl rfl (fun hc => q_move rfl) ?_
   simp only [nO, nK, nL]
   refine aB_s 42 rfl (by kernel_rfl) _ rfl rfl (fun hc => q_nilCheck (ev_yes rfl hc)) ?_
   simp only [nO, nK, nL]
   refine aB_s 43 rfl (by kernel_rfl) _ rfl rfl (fun hc => q_fieldAddr (off := 0) (by kernel_rfl) (ev_yes rfl hc)) ?_
   simp only [nO, nK, nL]
   refine aB_s 44 rfl (by kernel_rfl) _ rfl rfl (fun hc => qa_head (psAt 0 rfl) (ev_yes rfl hc) rfl) ?_
   simp only [nO, nK, nL]
   refine aB_s 45 rfl (by kernel_rfl) _ rfl rfl (fun hc => q_move rfl) ?_
   simp only [nO, nK, nL]
   refine aB_s 46 rfl (by kernel_rfl) _ rfl rfl (fun hc => q_subi (ev_yes rfl hc) rfl (by have h := gT hc; simp at h; omega)) ?_
   simp only [nO, nK, nL]
   refine aB_s 47 rfl (by kernel_rfl) _ rfl rfl (fun hc => qa_idx (k - 1) (psAt 0 rfl) (ev_yes rfl hc) (ev_yes rfl hc) (by have h := gT hc; simp at h; omega) (by have h := gT hc; simp at h; omega)) ?_
   simp only [nO, nK, nL]
   refine aB_s 48 rfl (by kernel_rfl) _ rfl rfl (fun hc => q_fieldAddr (off := 0) (by kernel_rfl) (ev_yes rfl hc)) ?_
   simp only [nO, nK, nL]
   refine aB_s 49 rfl (by kernel_rfl) _ rfl rfl (fun hc => q_fieldAddr (off := 1) (by kernel_rfl) (ev_yes rfl hc)) ?_
   simp only [nO, nK, nL]
   refine aB_s 50 rfl (by kernel_rfl) _ rfl rfl (fun hc => qa_fld (k - 1) 1 (psAt 0 rfl) (ev_yes rfl hc) rfl (getD_some (by have h := gT hc; simp at h; omega)) rfl) ?_
   simp only [nO, nK, nL]
   refine aB_s 51 rfl (by kernel_rfl) _ rfl rfl (fun hc => q_addi (ev_yes rfl hc) (ev_yes rfl hc) (by have h := gT hc; simp at h; have := hqb (k - 1) (by omega); omega)) ?_
   simp only [nO, nK, nL]
   refine aB_s 52 rfl (by kernel_rfl) _ rfl rfl (fun hc => q_fieldAddr (off := 0) (by kernel_rfl) rfl) ?_
   simp only [nO, nK, nL]
   refine aB_s 53 rfl (by kernel_rfl) _ rfl rfl (fun hc => q_load 0 tk3 (ev_yes rfl hc) rfl rfl) ?_
   simp only [nO, nK, nL]
   refine aB_s 54 rfl (by kernel_rfl) _ rfl rfl (fun hc => q_gtr (ev_yes rfl hc) (ev_yes rfl hc)) ?_
   simp only [nO, nK, nL]
   refine aB_s 55 rfl (by kernel_rfl) _ rfl rfl (fun hc => q_and (ev_yes rfl hc) rfl (fun h => gt hc h)) ?_
   simp only [nO, nK, nL]
   refine aB_s 56 rfl (by kernel_rfl) true rfl rfl (fun _ => q_or rfl rfl (fun h => gf rfl h)) ?_
   simp only [nO, nK, nL]
   refine aB_nil (by kernel_rfl) ?_
   refine thn_n ?_
   refine awp_cond _ rfl (fun h2 => ?_) (fun h2 => ?_)
   ·skip
    refine awp_seq (awp_region (aL_s true rfl rfl (fun _ => q_assign rfl) (aL_nil (thn_n (awp_ret (thn_r ?_))))))
    refine fin1 [] [] rfl Tryz.results20 rfl ?_ (.inr rfl)
    rw [if_pos hr]
   ·skip
    exfalso
    rcases HNO.out hr with ⟨g1, g2⟩ | ⟨g1, g2⟩ | ⟨j, g1, g2⟩
    · simp [g1, g2] at h2
    · simp [List.getD, g1] at h2 g2; omega
    · have hj : j = k - 1 := by omega
      subst hj
      simp at h2 g2; omega
theorem map_con {p : Nat} {M : Mem} (A : Ar) (hM : M.length < 4096) :
    Con Tryz.prog 20 [.pointer (some ⟨p, 0, none⟩), .agg #[.int .i64 A.at_, .int .i64 A.size, .int .i64 A.kind, .int .i64 A.owner, .int .i64 A.mod]] [] [SpR p M] fun r ps' hp' => r = .int .i64 (mapM M A).2 ∧ ps' = [] ∧ hp' = [SpR p (mapM M A).1] := fun w S fp hst => by
  obtain ⟨X, hinv, hXM, hfew0, hst2⟩ := sp_lend hst 0 rfl
  have hfew : X.S.length < 4096 := by rw [← hXM] at hM; simpa using hM
  by_cases hno : rightA A = true → (mem X.S).any (meets A) = true
  · have e1 : mapM M A = (M, if rightA A = true then 4 else 1) := by
      unfold mapM
      by_cases hr : rightA A = true
      · rw [if_neg (by rw [hr]; decide), if_pos hr, ← hXM, if_pos (hno hr)]
      · rw [if_pos (by simpa using hr), if_neg hr]
    rw [e1]
    refine ((map_no p M X A hinv hXM (by omega) hno).quiet (fun _ h => h) hst2).mono fun e w' ⟨h1, h2⟩ => ?_
    exact ⟨_, [], [SpR p M], S, fp, h1, ⟨rfl, rfl, rfl⟩, hst.below h2, Evo.of_below _ _ h2, fun b hb => .inl hb⟩
  · have hr : rightA A = true := by
      cases h : rightA A with
      | true => rfl
      | false => exact absurd (fun h' => by rw [h] at h'; cases h') hno
    have hm : ¬ (mem X.S).any (meets A) = true := fun h => hno fun _ => h
    refine con_done (M' := (mapM M A).1) (v := .int .i64 (mapM M A).2) (fun w L hsp => ?_) w S fp hst
    obtain ⟨a, c, T, h, rfl, rfl⟩ := hsp
    rw [hXM] at hm
    obtain ⟨k, hlo⟩ := lo_ex (ptKey T) A.at_ T.length h.inv.key_le
    have hmi := meets_iff h.inv hr hlo
    have hno' := fun hx => hm (hmi.2 hx)
    have e1 : mapM (mem T) A = ((mem T).take k ++ [(A, List.replicate A.size.toNat 0)] ++ (mem T).drop k, 0) := by
      unfold mapM
      rw [if_neg (by rw [hr]; decide), if_neg hm, if_neg (by omega)]
      have hfil := filter_take (fun x : Cell => decide (x.1.at_ < A.at_)) (mem T) k (fun i hi hik => by
        have hi' : i < T.length := by simpa using hi
        have e := mem_at hi'
        rw [List.getElem?_eq_getElem hi] at e
        injection e with e
        rw [e]
        have := hlo.2.1 i hik
        unfold ptKey at this
        show decide ((T.getD i default).ar.at_ < A.at_) = true
        exact decide_eq_true (by omega)) (fun i hi hik => by
        have hi' : i < T.length := by simpa using hi
        have e := mem_at hi'
        rw [List.getElem?_eq_getElem hi] at e
        injection e with e
        rw [e]
        have := hlo.2.2 i hik hi'
        unfold ptKey at this
        show decide ((T.getD i default).ar.at_ < A.at_) = false
        exact decide_eq_false (by omega))
      rw [hfil.1, hfil.2]
    rw [e1]
    exact map_fresh h A hr k hlo (fun hx => hno' (.inl hx)) (by simpa using hM) (fun hk hx => hno' (.inr (.inl ⟨hk, hx⟩))) (fun j hj hx => hno' (.inr (.inr ⟨j, hj, hx⟩))) (fit_mem h.inv hr hlo hno')
end Go.Proofs.YtpgcoceggacplaaGreatDoor
