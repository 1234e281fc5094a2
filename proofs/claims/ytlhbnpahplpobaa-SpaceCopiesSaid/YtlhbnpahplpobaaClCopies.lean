/- Proved: for all two lists of deeds, every address and every size the law SpaceCopies of the given program answers true and leaves what it was handed as it was. Conditions: none but those in the given statement itself. -/
import Derived.Test.YtlhbnpahplpobaaSyWrap
import Derived.Laws.Cover3
import Derived.Test.YtlhbnpahplpobaaSyTab
import Derived.Test.YtlhbnpahplpobaaSySpA
import Derived.Test.YtlhbnpahplpobaaLpByt
import Derived.Test.YtlhbnpahplpobaaSyBytes
import Derived.Laws.Strings
import Derived.Test.YtlhbnpahplpobaaRows
import Derived.Test.YtlhbnpahplpobaaSyOut
import Derived.WalkKit
import Derived.ProofKit
import Derived.OpenShut
import Derived.ShutString
import Derived.ChangeOld
import Derived.Below
set_option linter.unusedVariables false
set_option linter.unusedSimpArgs false
namespace Go.Sy
open Go.RowKit
section
variable {P : Program} {n : Nat} {s : Sta} {d : Option Tmp} {ty : TypeId} {pos : String} {af : Array Edge} {gd : Option (Nat × Bool)} {x : Operand} {T t' : TypeId}
theorem qn_eql {E : TypeId} {ad : Option Addr} {k c : Nat} (hT : P.underlying T = some (.slice E)) (hx : ev s.env x = some (true, .slice ad k c)) : Quiet P n ⟨d, .binOp .eql T x (.const (.slice none 0 0)) t', ty, pos, af, gd⟩ s (.bool ad.isNone) :=
  .run2 (vy := .slice none 0 0) hx rfl fun ρ w h1 h2 => by
    unfold execOp; dsimp only; rw [h1, h2]
    simp only [eqGuard_at_slice, binOp, Sem.run_bind, Sem.run_pure, run_equal_slice_nil w T E ad k c hT, Result.andThen_ok]
end
section
variable {P : Program} {n : Nat} {env : Env} {ps : List Per} {hp : List Res} {ty : TypeId} {pos : String} {af : Array Edge} {gd : Option (Nat × Bool)} {q : Bool} {K : Sta → Prop}
/-- a slice literal of no element -/
theorem w_lit0 {t : Nat} {T E : TypeId} {sz : Nat} (hel : elB P T E sz = true) (ht : fits n (some t) = true)
    (hK : ∀ ad, K ⟨(t, true, .slice ad 0 0) :: env, ps, hp ++ [OwnS (.slice ad 0 0) E sz []]⟩) :
    Eff P n ⟨some t, .buildSlice T 0 #[], ty, pos, af, gd⟩ ⟨env, ps, hp⟩ q K := .push fun w S fp a hst he hn => by
  obtain ⟨hT, it, hi, h3, h4, h5⟩ := elB_spec hel
  have : (execOp a.eval ⟨some t, .buildSlice T 0 #[], ty, pos, af, gd⟩).run P w = .ok (.value (.slice (some ⟨w.heap.size, 0, none⟩) 0 0)) (w.alloc (.cells #[] E)) := by
    show ((Instr.buildSlice T 0 ((#[] : Array (Nat × Operand)).map fun (i, x) => (i, a.eval x))).bind fun r => Sem.pure (Next.value r)).run P w = _
    have hrun : (Instr.buildSlice T 0 #[]).run P w = .ok (.slice (some ⟨w.heap.size, 0, none⟩) 0 0) (w.alloc (.cells #[] E)) := by
      simp [Instr.buildSlice, run_underlying hT, sizeOf, typeInfo, hi, newRow, Instr.fill, show Array.range 0 = #[] by decide]
    rw [Array.map_empty, Sem.run_bind', hrun]; rfl
  rw [this]
  refine ⟨_, fun b => b = w.heap.size, _, hK (some ⟨w.heap.size, 0, none⟩), rfl, rfl, he.put (g := true) (by rw [hn]; simpa [fits] using ht) _, below_new _ _, own_new (cs := []) (RCs.rows .nil hst.per) hst.slt rfl (by unfold maxLen; omega), fun b hb => ?_⟩
  subst hb; simp
end
/-- a fact that follows from the others -/
theorem awp_fact {P : Program} {n : Nat} {env : Env} {ps : List Per} {hp : List Res} {c : Code} {Q : Exit → Sta → Prop} (p : Per) (hf : ∀ w S, (∀ q ∈ ps, q.holds w S) → p.holds w S) (h : awp P n c Q ⟨env, p :: ps, hp⟩) : awp P n c Q ⟨env, ps, hp⟩ := fun w S fp a hst he hn hd =>
  h w S fp a ⟨fun q hq => by
    rcases List.mem_cons.1 hq with rfl | hq
    · exact hf w S hst.per
    · exact hst.per q hq, hst.res, hst.lt, hst.dj, hst.slt⟩ he hn hd
end Go.Sy
namespace Go.Sy
open Go.RowKit Go.Lp
/-- the block of a slice value -/
def blkOf : Value → Nat
  | .slice (some a) _ _ => a.block
  | _ => 0
theorem wrC_get {cs vs : List Value} {o : Nat} (h : o + vs.length ≤ cs.length) (k : Nat) : (wrC cs o vs)[k]? = if k < o then cs[k]? else if k < o + vs.length then vs[k - o]? else cs[k]? := by
  unfold wrC
  simp only [List.getElem?_append, List.length_take, List.getElem?_take, List.getElem?_drop]
  rw [Nat.min_eq_left (by omega)]
  by_cases h1 : k < o
  · simp [h1]
  · by_cases h2 : k < o + vs.length
    · rw [if_neg h1, if_pos (by omega), if_neg h1, if_pos h2]
    · rw [if_neg h1, if_neg (by omega), if_neg h1, if_neg h2]; congr 1; omega
theorem wrC_len {cs vs : List Value} {o : Nat} (h : o + vs.length ≤ cs.length) : (wrC cs o vs).length = cs.length := by
  unfold wrC; simp; omega
theorem wrC_append {cs sp vs : List Value} {o : Nat} (h : o + vs.length ≤ cs.length) : wrC (cs ++ sp) o vs = wrC cs o vs ++ sp := by
  unfold wrC
  rw [List.take_append_of_le_length (by omega), List.drop_append_of_le_length (by omega)]
  simp
/-- a row, partly new -/
def setD (row : List D) (j : Nat) (ds : List D) : List D := row.take j ++ (ds ++ row.drop (j + ds.length))
theorem setD_len {row ds : List D} {j : Nat} (h : j + ds.length ≤ row.length) : (setD row j ds).length = row.length := by
  unfold setD; simp; omega
theorem setD_get {row ds : List D} {j : Nat} (h : j + ds.length ≤ row.length) (k : Nat) : (setD row j ds)[k]? = if k < j then row[k]? else if k < j + ds.length then ds[k - j]? else row[k]? := by
  unfold setD
  simp only [List.getElem?_append, List.length_take, List.getElem?_take, List.getElem?_drop]
  rw [Nat.min_eq_left (by omega)]
  by_cases h1 : k < j
  · simp [h1]
  · by_cases h2 : k < j + ds.length
    · rw [if_neg h1, if_pos (by omega), if_neg h1, if_pos h2]
    · rw [if_neg h1, if_neg (by omega), if_neg h1, if_neg h2]; congr 1; omega
theorem RowsAt.set {w : World} {S : Blks} {sz : Nat} {cs : List Value} {rows : List (List D)} (h : RowsAt w S sz cs rows) {r j : Nat} {row ds : List D} {vs : List Value} (hr : rows[r]? = some row) (hl : vs.length = ds.length) (hj : j + ds.length ≤ sz)
    (h1 : ∀ v ∈ vs, v.oneCell' = true) (hd : ∀ (k : Nat) (d : D), ds[k]? = some d → ∃ u, vs[k]? = some u ∧ RepD w S u d) : RowsAt w S sz (wrC cs (r * sz + j) vs) (rows.set r (setD row j ds)) := by
  have hrl := (List.getElem?_eq_some_iff.1 hr).1
  have hrow := h.row r row hr
  have hle : r * sz + j + vs.length ≤ cs.length := by
    have := Nat.mul_le_mul_right sz (show r + 1 ≤ rows.length by omega)
    rw [Nat.add_mul] at this
    have := h.len; omega
  refine ⟨by rw [wrC_len hle, h.len]; simp, fun i r' hi => ?_, fun v hv => ?_, fun i k r' d hi hk => ?_⟩
  · by_cases hir : r = i
    · subst hir
      rw [List.getElem?_set_self hrl] at hi
      simp only [Option.some.injEq] at hi
      rw [← hi, setD_len (by omega)]; exact hrow
    · rw [List.getElem?_set_ne hir] at hi; exact h.row i r' hi
  · unfold wrC at hv
    rcases List.mem_append.1 hv with hv | hv
    · exact h.one v (List.mem_of_mem_take hv)
    · rcases List.mem_append.1 hv with hv | hv
      · exact h1 v hv
      · exact h.one v (List.mem_of_mem_drop hv)
  · rw [wrC_get hle]
    by_cases hir : r = i
    · subst hir
      rw [List.getElem?_set_self hrl] at hi
      simp only [Option.some.injEq] at hi
      subst hi
      rw [setD_get (by omega)] at hk
      by_cases c1 : k < j
      · rw [if_pos c1] at hk
        rw [if_pos (by omega)]
        exact h.rep r k row d hr hk
      · rw [if_neg c1] at hk
        rw [if_neg (by omega)]
        by_cases c2 : k < j + ds.length
        · rw [if_pos c2] at hk
          rw [if_pos (by omega), show r * sz + k - (r * sz + j) = k - j by omega]
          exact hd _ d hk
        · rw [if_neg c2] at hk
          rw [if_neg (by omega)]
          exact h.rep r k row d hr hk
    · rw [List.getElem?_set_ne hir] at hi
      have hks : k < sz := by rw [← h.row i r' hi]; exact (List.getElem?_eq_some_iff.1 hk).1
      have hno : i * sz + k < r * sz + j ∨ r * sz + j + vs.length ≤ i * sz + k := by
        rcases Nat.lt_or_gt_of_ne hir with hlt | hlt
        · have := Nat.mul_le_mul_right sz (show r + 1 ≤ i by omega)
          rw [Nat.add_mul] at this; omega
        · have := Nat.mul_le_mul_right sz (show i + 1 ≤ r by omega)
          rw [Nat.add_mul] at this; omega
      obtain ⟨u, hu, hr'⟩ := h.rep i k r' d hi hk
      refine ⟨u, ?_, hr'⟩
      rcases hno with hno | hno
      · rw [if_pos hno]; exact hu
      · rw [if_neg (by omega), if_neg (by omega)]; exact hu
section
variable {P : Program} {n : Nat} {env : Env} {ps : List Per} {hp : List Res} {ty : TypeId} {pos : String} {af : Array Edge} {gd : Option (Nat × Bool)} {K : Sta → Prop} {d : Option Tmp} {v : Value} {E T U : TypeId} {sz : Nat} {rows : List (List D)} {x y : Operand}
/-- the place of an element of an own slice -/
theorem q_idxO (i k : Nat) (hel : elB P T E sz = true) (hx : ev env x = some (true, v)) (hi : hp[i]? = some (OwnS v E sz rows)) {z : Int} (hy : ev env y = some (true, .int .i64 z)) (hz : z = (k : Int)) (hk : k < rows.length) :
    Quiet P n ⟨d, .indexAddr T x y, ty, pos, af, gd⟩ ⟨env, ps, hp⟩ (.pointer (some ⟨blkOf v, k * sz, none⟩)) := fun w S fp a hst he hn => by
  subst hz
  obtain ⟨hT, it, hit, _, hsz, _⟩ := elB_spec hel
  have h1 := he.val hx rfl
  have h2 := he.val hy rfl
  rcases hst.res i _ hi with ⟨_, rfl, _⟩ | ⟨B, c, rfl, _⟩
  · simp at hk
  · have : (execOp a.eval ⟨d, .indexAddr T x y, ty, pos, af, gd⟩).run P w = .ok (.value (.pointer (some ⟨B, k * sz, none⟩))) w := by
      unfold execOp; dsimp only; rw [h1, h2]
      show ((Instr.indexAt T (.slice (some ⟨B, 0, none⟩) rows.length c) (.int .i64 k)).bind fun r => Sem.pure (Next.value r)).run P w = _
      have hE : P.elem T = E := by unfold Program.elem; rw [hT]
      rw [Sem.run_bind', run_indexAt_slice _ _ _ _ _ _ _ (by rw [hE]; exact hT), if_pos (by omega), hE, run_sizeOf' hit, hsz]
      simp only [Result.andThen, Int.toNat_natCast]
      unfold Addr.add
      split
      · rename_i h0; rw [h0]; rfl
      · simp only [Nat.zero_add]; rfl
    rw [this]; exact uponQ_ok _ _
theorem own_cell {w : World} {S F : Blks} (h : (OwnS v E sz rows).holds w S F) {r : Nat} {row : List D} (hr : rows[r]? = some row) {j : Nat} {dd : D} (hj : row[j]? = some dd) : ∃ u, w.cell? ⟨blkOf v, r * sz + j, none⟩ = some u ∧ RepD w S u dd ∧ u.oneCell' = true := by
  rcases h with ⟨_, rfl, _⟩ | ⟨b, cap, rfl, ⟨cs, sp, h1, h2, _⟩, _⟩
  · simp at hr
  · obtain ⟨u, hu, hrep⟩ := h2.rep r j row dd hr hj
    refine ⟨u, ?_, hrep, h2.one u (List.mem_of_getElem? hu)⟩
    show w.cell? ⟨b, r * sz + j, none⟩ = _
    rw [cell_box h1, List.getElem?_append_left (List.getElem?_eq_some_iff.1 hu).1]; exact hu
/-- a load out of an own slice: known values -/
theorem q_loadO {ag : Bool} {kk o : Nat} {row : List D} {u : Value} (i r j : Nat) (hk : tyk P U = some (ag, kk)) (hx : ev env x = some (true, .pointer (some ⟨blkOf v, o, none⟩))) (hi : hp[i]? = some (OwnS v E sz rows)) (hr : rows[r]? = some row) (ho : o = r * sz + j) (hv : rdD ag kk row j = some u) :
    Quiet P n ⟨d, .load U x, ty, pos, af, gd⟩ ⟨env, ps, hp⟩ u := fun w S fp a hst he hn => by
  subst ho
  have h1 := he.val hx rfl
  have hres := hst.res i _ hi
  have hat : (At (blkOf v) (r * sz) row).holds w (fun _ => True) := ⟨trivial, fun j dd hj => by
    obtain ⟨u, hu, hrep, h1⟩ := own_cell hres hr hj
    exact ⟨u, hu, h1, hrep.mono (fun _ _ => rfl) (fun _ _ => trivial)⟩⟩
  have : (execOp a.eval ⟨d, .load U x, ty, pos, af, gd⟩).run P w = .ok (.value u) w := by
    unfold execOp; dsimp only; rw [h1]
    have := rdD_run (P := P) hk hv hat
    show ((loadVar U ⟨blkOf v, r * sz + j, none⟩).bind fun r => Sem.pure (Next.value r)).run P w = _
    rw [Sem.run_bind', this]; rfl
  rw [this]; exact uponQ_ok _ _
/-- a store into an own slice -/
theorem e_storeO {ag : Bool} {kk o : Nat} {row ds : List D} {vy : Value} (i r j : Nat) (hk : tyk P U = some (ag, kk)) (hx : ev env x = some (true, .pointer (some ⟨blkOf v, o, none⟩))) (hy : ev env y = some (true, vy)) (hi : hp[i]? = some (OwnS v E sz rows)) (hr : rows[r]? = some row) (ho : o = r * sz + j)
    (hc : RC ps vy.cells.toList ds) (hl : ds.length = kk) (hj : j + kk ≤ sz) (hK : K ⟨env, ps, hp.set i (OwnS v E sz (rows.set r (setD row j ds)))⟩) :
    Eff P n ⟨none, .store U x y, ty, pos, af, gd⟩ ⟨env, ps, hp⟩ false K := .change i hi fun w S fp a hst he hn hR => by
  subst ho
  have e1 := he.val hx rfl
  have e2 := he.val hy rfl
  obtain ⟨_, it, _, hit, _, hjk⟩ := tyk_parts hk
  obtain ⟨hvl, hv1, hvd⟩ := hc.get
  generalize hv : vy.cells.toList = vs at hvl hv1 hvd
  rcases hR with ⟨_, rfl, _⟩ | ⟨b, cap, rfl, ⟨cs, sp, hb, hrows, hcap, hrc, hcm⟩, hF⟩
  · simp at hr
  · have hrl := (List.getElem?_eq_some_iff.1 hr).1
    have hle : r * sz + j + vs.length ≤ cs.length := by
      have := Nat.mul_le_mul_right sz (show r + 1 ≤ rows.length by omega)
      rw [Nat.add_mul] at this
      have := hrows.len; omega
    have : (execOp a.eval ⟨none, .store U x y, ty, pos, af, gd⟩).run P w = .ok .skip (w.setRow b (wrC (cs ++ sp) (r * sz + j) vs).toArray) := by
      show ((Instr.storeAt U (a.eval x) (a.eval y)).bind fun _ => Sem.pure Next.skip).run P w = _
      rw [e1, e2, Sem.run_bind']
      have : (Instr.storeAt U (.pointer (some ⟨b, r * sz + j, none⟩)) vy).run P w = .ok () (w.setRow b (wrC (cs ++ sp) (r * sz + j) vs).toArray) := by
        show (storeVar U ⟨b, r * sz + j, none⟩ vy).run P w = _
        unfold storeVar
        simp only [Sem.run_bind, run_sizeOf' hit, Result.andThen]
        have hsz : vy.cells.size = it.size := by rw [hjk, ← hl, ← hvl, ← hv]; simp
        rw [if_neg (by simpa using hsz), hv]
        exact storeCells_run b E (r * sz + j) vs 0 (cs ++ sp) w hb hv1 (by simp; omega)
      show (Result.andThen ((Instr.storeAt U (.pointer (some ⟨b, r * sz + j, none⟩)) vy).run P w) _) = _
      rw [this]; rfl
    rw [this]
    have hbS : ¬ S b := (hst.lt i (List.getElem?_eq_some_iff.1 hi).1 b ((hF b).2 rfl)).2
    refine ⟨OwnS _ E sz (rows.set r (setD row j ds)), _, hK, rfl, rfl, he, ?_, rfl, rfl, rfl, by simp [World.setRow], fun b' hb' hne => setRow_other _ _ _ _ (fun h => hne ((hF b').2 h))⟩
    refine .inr ⟨b, cap, by simp, ⟨wrC cs (r * sz + j) vs, sp, ?_, ?_, ?_, by simpa using hrc, hcm⟩, hF⟩
    · rw [← wrC_append hle]; exact setRow_heap _ _ _ _ _ _ hb
    · refine (hrows.set hr hvl (by omega) hv1 (fun k dd hk => ?_)).mono (fun b' hb' => setRow_other _ _ _ _ (fun h => hbS (h ▸ hb'))) (fun _ h => h)
      obtain ⟨u, hu, hd⟩ := hvd k dd hk
      refine ⟨u, hu, ?_⟩
      rcases hd with rfl | hd
      · exact .v u
      · exact hst.per _ hd
    · rw [List.length_append, wrC_len hle, ← List.length_append]; exact hcap
end
end Go.Sy
namespace Go.Sy
open Go.RowKit Go.Lp
/-- both, on blocks of their own -/
def Star (R R' : Res) : Res :=
  ⟨fun w S F => ∃ G H : Blks, R.holds w S G ∧ R'.holds w S H ∧ (∀ b, G b → ¬ H b) ∧ ∀ b, F b ↔ G b ∨ H b,
   fun ⟨G, H, h1, h2, h3, h4⟩ k1 k2 k3 => ⟨G, H, R.mono h1 (fun b hb => k1 b ((h4 b).2 (.inl hb))) k2 k3, R'.mono h2 (fun b hb => k1 b ((h4 b).2 (.inr hb))) k2 k3, h3, h4⟩⟩
section
variable {w : World} {S : Blks} {fp : Nat → Blks} {ps : List Per} {hp : List Res}
theorem St.star (h : St w S fp ps hp) {i j : Nat} {R R' : Res} (hi : hp[i]? = some R) (hj : hp[j]? = some R') (hne : i ≠ j) :
    St w S (fun k => if k = i then (fun b => fp i b ∨ fp j b) else if k = j then (fun _ => False) else fp k) ps ((hp.set i (Star R R')).set j emp) := by
  have hil := (List.getElem?_eq_some_iff.1 hi).1
  have hjl := (List.getElem?_eq_some_iff.1 hj).1
  refine ⟨h.per, fun k T hk => ?_, fun k hk b hb => ?_, fun k l hk hl hkl b hb hb' => ?_, h.slt⟩
  · by_cases hkj : k = j
    · subst hkj
      rw [List.getElem?_set_self (by simpa using hjl)] at hk
      simp only [Option.some.injEq] at hk
      subst hk
      rw [if_neg (Ne.symm hne), if_pos rfl]
      exact fun b hb => hb
    · rw [List.getElem?_set_ne (Ne.symm hkj)] at hk
      by_cases hki : k = i
      · subst hki
        rw [List.getElem?_set_self hil] at hk
        simp only [Option.some.injEq] at hk
        subst hk
        rw [if_pos rfl]
        exact ⟨fp k, fp j, h.res k R hi, h.res j R' hj, h.dj k j hil hjl hne, fun b => Iff.rfl⟩
      · rw [List.getElem?_set_ne (Ne.symm hki)] at hk
        rw [if_neg hki, if_neg hkj]
        exact h.res k T hk
  · have hk' : k < hp.length := by simpa using hk
    by_cases hki : k = i
    · rw [if_pos hki] at hb
      rcases hb with hb | hb
      · exact h.lt i hil b hb
      · exact h.lt j hjl b hb
    · rw [if_neg hki] at hb
      by_cases hkj : k = j
      · rw [if_pos hkj] at hb; exact hb.elim
      · rw [if_neg hkj] at hb; exact h.lt k hk' b hb
  · have hk' : k < hp.length := by simpa using hk
    have hl' : l < hp.length := by simpa using hl
    by_cases hki : k = i
    · rw [if_pos hki] at hb
      rw [if_neg (by omega)] at hb'
      by_cases hlj : l = j
      · rw [if_pos hlj] at hb'; exact hb'
      · rw [if_neg hlj] at hb'
        rcases hb with hb | hb
        · exact h.dj i l hil hl' (by omega) b hb hb'
        · exact h.dj j l hjl hl' (by omega) b hb hb'
    · rw [if_neg hki] at hb
      by_cases hkj : k = j
      · rw [if_pos hkj] at hb; exact hb
      · rw [if_neg hkj] at hb
        by_cases hli : l = i
        · rw [if_pos hli] at hb'
          rcases hb' with hb' | hb'
          · exact h.dj k i hk' hil hki b hb hb'
          · exact h.dj k j hk' hjl hkj b hb hb'
        · rw [if_neg hli] at hb'
          by_cases hlj : l = j
          · rw [if_pos hlj] at hb'; exact hb'
          · rw [if_neg hlj] at hb'; exact h.dj k l hk' hl' hkl b hb hb'
end
section
variable {P : Program} {n : Nat} {env : Env} {ps : List Per} {hp : List Res} {c : Code} {Q : Exit → Sta → Prop}
/-- the states of the same world -/
theorem awp_st {hp' : List Res} {ps' : List Per} (h0 : ∀ w S fp, St w S fp ps hp → ∃ fp', St w S fp' ps' hp' ∧ ∀ b, tot fp' hp'.length b → tot fp hp.length b) (h : awp P n c Q ⟨env, ps', hp'⟩) : awp P n c Q ⟨env, ps, hp⟩ := fun w S fp a hst he hn hd => by
  obtain ⟨fp', h1, h2⟩ := h0 w S fp hst
  exact Code.wp_mono (fun e a' w' hp' => PostA.trans (Evo.refl _ _ _) (fun b hb => .inl (h2 b hb)) hp') (h w S fp' a h1 he hn hd)
/-- two resources become one -/
theorem awp_star (i j : Nat) {R R' : Res} (hi : hp[i]? = some R) (hj : hp[j]? = some R') (hne : (i == j) = false) (h : awp P n c Q ⟨env, ps, (hp.set i (Star R R')).set j emp⟩) : awp P n c Q ⟨env, ps, hp⟩ := by
  have hil := (List.getElem?_eq_some_iff.1 hi).1
  have hjl := (List.getElem?_eq_some_iff.1 hj).1
  refine awp_st (fun w S fp hst => ⟨_, hst.star hi hj (by simpa using hne), fun b ⟨k, hk, hb⟩ => ?_⟩) h
  have hk' : k < hp.length := by simpa using hk
  dsimp only at hb
  split at hb
  · exact hb.elim (fun h => ⟨i, hil, h⟩) (fun h => ⟨j, hjl, h⟩)
  · split at hb
    · exact hb.elim
    · exact ⟨k, hk', hb⟩
/-- a resource of no block -/
theorem awp_void (R : Res) (hR : ∀ w S, R.holds w S (fun _ => False)) (h : awp P n c Q ⟨env, ps, hp ++ [R]⟩) : awp P n c Q ⟨env, ps, hp⟩ := awp_st (fun w S fp hst => ⟨_, hst.push (Below.refl _ _) R (fun _ => False) (hR w S) (fun b h => h.elim), fun b hb => by
  have hb' : tot (fun i => if i = hp.length then (fun _ => False) else fp i) (hp.length + 1) b := by simpa using hb
  exact (tot_push hb').elim id (fun h => h.elim)⟩) h
/-- a fact out of one resource -/
theorem awp_knowR (i : Nat) {R : Res} {φ : Prop} (hi : hp[i]? = some R) (h0 : ∀ w S F, R.holds w S F → φ) (h : φ → awp P n c Q ⟨env, ps, hp⟩) : awp P n c Q ⟨env, ps, hp⟩ := awp_know (fun w S fp hst => h0 w S _ (hst.res i R hi)) h
end
end Go.Sy
namespace Go.Proofs.Ytlhbnpahplpobaa
open Go.RowKit Go.Lp Go.Sy
theorem cloneB_fn (rows : List (List D)) (a : Addr) (c : Nat) (hrl : ∀ r ∈ rows, r.length = 1) (h0 : rows ≠ []) (hle : rows.length ≤ 1000000000) :
    Con Try.prog 37 [.slice (some a) rows.length c] [Sh (.slice (some a) rows.length c) (.sl rows)] [] fun r ps' hp' => ps' = [] ∧ ∃ ad' c', r = .slice ad' rows.length c' ∧ hp' = [OwnS (.slice ad' rows.length c') 5 1 rows] := by
  refine Con.enter Try.func37 rfl (by simp [Try.ntmps37]) ?_
  show awp _ _ _ _ ⟨[(0, true, _)], _, _⟩
  refine awp_seq ?_
  refine awp_region ?_
  refine aL_s true rfl rfl (fun _ => q_assign rfl) ?_
  refine aL_nil ?_
  refine thn_n ?_
  refine awp_seq ?_
  refine awp_seq ?_
  refine awp_region ?_
  refine aL_s true rfl rfl (fun _ => q_move rfl) ?_
  refine aL_s true rfl rfl (fun _ => qn_eql Try.underlying54 rfl) ?_
  refine aL_nil ?_
  refine thn_n ?_
  refine awp_cond _ rfl (fun h1 => ?_) (fun h1 => ?_)
  · skip
    exact absurd h1 (by simp)
  · skip
    refine awp_skip ?_
    refine thn_n ?_
    refine awp_seq ?_
    refine awp_region ?_
    refine aL_eff (q := true) rfl (w_lit0 el54 rfl (fun v3_0 => ?_))
    simp only [List.cons_append, List.nil_append]
    refine aL_s true rfl rfl (fun _ => q_move rfl) ?_
    refine aL_eff rfl (w_append 0 el54 rfl rfl rfl rfl (w_srcS el54 (psAt 0 rfl) hrl h0) (by first | assumption | simp) (by simp; omega) (rows.length) (by simp) (fun v3_2 c3_2 => ?_))
    simp only [List.set_cons_succ, List.set_cons_zero]
    refine aL_s true rfl rfl (fun _ => q_assign rfl) ?_
    refine aL_nil ?_
    refine thn_n ?_
    refine awp_ret ?_
    refine fin1 [] [0] rfl Try.results37 rfl ?_ (.inr rfl)
    exact ⟨rfl, v3_2, c3_2, rfl, rfl⟩
theorem cloneP_fn (rows : List (List D)) (a : Addr) (c : Nat) (hrl : ∀ r ∈ rows, r.length = 6) (h0 : rows ≠ []) (hle : rows.length ≤ 1000000000) :
    Con Try.prog 36 [.slice (some a) rows.length c] [Sh (.slice (some a) rows.length c) (.sl rows)] [] fun r ps' hp' => ps' = [] ∧ ∃ ad' c', r = .slice ad' rows.length c' ∧ hp' = [OwnS (.slice ad' rows.length c') 56 6 rows] := by
  refine Con.enter Try.func36 rfl (by simp [Try.ntmps36]) ?_
  show awp _ _ _ _ ⟨[(0, true, _)], _, _⟩
  refine awp_seq ?_
  refine awp_region ?_
  refine aL_s true rfl rfl (fun _ => q_assign rfl) ?_
  refine aL_nil ?_
  refine thn_n ?_
  refine awp_seq ?_
  refine awp_seq ?_
  refine awp_region ?_
  refine aL_s true rfl rfl (fun _ => q_move rfl) ?_
  refine aL_s true rfl rfl (fun _ => qn_eql Try.underlying68 rfl) ?_
  refine aL_nil ?_
  refine thn_n ?_
  refine awp_cond _ rfl (fun h1 => ?_) (fun h1 => ?_)
  · skip
    exact absurd h1 (by simp)
  · skip
    refine awp_skip ?_
    refine thn_n ?_
    refine awp_seq ?_
    refine awp_region ?_
    refine aL_eff (q := true) rfl (w_lit0 el68 rfl (fun v3_0 => ?_))
    simp only [List.cons_append, List.nil_append]
    refine aL_s true rfl rfl (fun _ => q_move rfl) ?_
    refine aL_eff rfl (w_append 0 el68 rfl rfl rfl rfl (w_srcS el68 (psAt 0 rfl) hrl h0) (by first | assumption | simp) (by simp; omega) (rows.length) (by simp) (fun v3_2 c3_2 => ?_))
    simp only [List.set_cons_succ, List.set_cons_zero]
    refine aL_s true rfl rfl (fun _ => q_assign rfl) ?_
    refine aL_nil ?_
    refine thn_n ?_
    refine awp_ret ?_
    refine fin1 [] [0] rfl Try.results36 rfl ?_ (.inr rfl)
    exact ⟨rfl, v3_2, c3_2, rfl, rfl⟩
theorem cloneP_nil : Con Try.prog 36 [.slice none 0 0] [] [] fun r ps' hp' => r = .slice none 0 0 ∧ ps' = [] ∧ hp' = [] := by
  refine Con.enter Try.func36 rfl (by simp [Try.ntmps36]) ?_
  show awp _ _ _ _ ⟨[(0, true, _)], _, _⟩
  refine awp_seq ?_
  refine awp_region ?_
  refine aL_s true rfl rfl (fun _ => q_assign rfl) ?_
  refine aL_nil ?_
  refine thn_n ?_
  refine awp_seq ?_
  refine awp_seq ?_
  refine awp_region ?_
  refine aL_s true rfl rfl (fun _ => q_move rfl) ?_
  refine aL_s true rfl rfl (fun _ => qn_eql Try.underlying68 rfl) ?_
  refine aL_nil ?_
  refine thn_n ?_
  refine awp_cond _ rfl (fun h1 => ?_) (fun h1 => ?_)
  · skip
    refine awp_seq ?_
    refine awp_region ?_
    refine aL_s true rfl rfl (fun _ => q_assign rfl) ?_
    refine aL_nil ?_
    refine thn_n ?_
    refine awp_ret ?_
    refine thn_r ?_
    refine fin1 [] [] rfl Try.results36 rfl ?_ (.inr rfl)
    exact ⟨rfl, rfl, rfl⟩
  · skip
    exact absurd h1 (by simp)
end Go.Proofs.Ytlhbnpahplpobaa
namespace Go.Sy
open Go.RowKit
section
variable {P : Program} {n : Nat} {s : Sta} {d : Option Tmp} {ty : TypeId} {pos : String} {af : Array Edge} {gd : Option (Nat × Bool)} {x y : Operand}
theorem q_append0 {T tx E E2 : TypeId} {sz sz2 : Nat} {ad ay : Option Addr} {k c cy : Nat} (hel : elB P T E sz = true) (hel2 : elB P tx E2 sz2 = true) (hx : ev s.env x = some (true, .slice ad k c)) (hy : ev s.env y = some (true, .slice ay 0 cy)) (hk : k ≤ c) :
    Quiet P n ⟨d, .call ⟨.builtin .append, #[x, y], #[T, tx]⟩, ty, pos, af, gd⟩ s (.slice ad k c) :=
  .run2 hx hy fun ρ w h1 h2 => by
    obtain ⟨hT, it, hi, h3, h4, h5⟩ := elB_spec hel
    obtain ⟨hT2, it2, hi2, _⟩ := elB_spec hel2
    have hrun : (Builtin.append_ #[T, tx] ty #[.slice ad k c, .slice ay 0 cy]).run P w = .ok (.slice ad k c) w := by
      simp [Builtin.append_, run_underlying hT, run_underlying hT2, sizeOf, typeInfo, hi, Builtin.lenOf, Builtin.firstCells, hk]
      cases ay <;> cases ad <;> simp [loadCells, loadCellsFrom, storeCells]
    have e : (execOp ρ ⟨d, .call ⟨.builtin .append, #[x, y], #[T, tx]⟩, ty, pos, af, gd⟩) = (Builtin.append_ #[T, tx] ty (#[x, y].map ρ)).bind fun r => Sem.pure (Next.value r) := rfl
    rw [e, show #[x, y].map ρ = #[.slice ad k c, .slice ay 0 cy] by simp [h1, h2], Sem.run_bind', hrun]; rfl
end
end Go.Sy
namespace Go.Proofs.Ytlhbnpahplpobaa
open Go.RowKit Go.Lp Go.Sy
theorem cloneP_zero (a : Addr) (c : Nat) :
    Con Try.prog 36 [.slice (some a) 0 c] [] [] fun r ps' hp' => ps' = [] ∧ ∃ ad', r = .slice ad' 0 0 ∧ hp' = [OwnS (.slice ad' 0 0) 56 6 []] := by
  refine Con.enter Try.func36 rfl (by simp [Try.ntmps36]) ?_
  show awp _ _ _ _ ⟨[(0, true, _)], _, _⟩
  refine awp_seq ?_
  refine awp_region ?_
  refine aL_s true rfl rfl (fun _ => q_assign rfl) ?_
  refine aL_nil ?_
  refine thn_n ?_
  refine awp_seq ?_
  refine awp_seq ?_
  refine awp_region ?_
  refine aL_s true rfl rfl (fun _ => q_move rfl) ?_
  refine aL_s true rfl rfl (fun _ => qn_eql Try.underlying68 rfl) ?_
  refine aL_nil ?_
  refine thn_n ?_
  refine awp_cond _ rfl (fun h1 => ?_) (fun h1 => ?_)
  · skip
    exact absurd h1 (by simp)
  · skip
    refine awp_skip ?_
    refine thn_n ?_
    refine awp_seq ?_
    refine awp_region ?_
    refine aL_eff (q := true) rfl (w_lit0 el68 rfl (fun v3_0 => ?_))
    simp only [List.cons_append, List.nil_append]
    refine aL_s true rfl rfl (fun _ => q_move rfl) ?_
    refine aL_s true rfl rfl (fun _ => q_append0 el68 el68 rfl rfl (Nat.le_refl _)) ?_
    refine aL_s true rfl rfl (fun _ => q_assign rfl) ?_
    refine aL_nil ?_
    refine thn_n ?_
    refine awp_ret ?_
    refine fin1 [] [0] rfl Try.results36 rfl ?_ (.inr rfl)
    exact ⟨rfl, v3_0, rfl, rfl⟩
end Go.Proofs.Ytlhbnpahplpobaa
namespace Go.Proofs.Ytlhbnpahplpobaa
open Go.RowKit Go.Lp Go.Sy
def prow (q : Pt) : List D := q.vals.map D.v
def brows (q : Pt) : List (List D) := q.bytes.map fun b => [D.v (bv b)]
theorem bytes_sh {w : World} {S : Blks} {q : Pt} (h : ByteAt w q) (hS : S q.blk) : RepD w S q.sl (.sl (brows q)) := by
  obtain ⟨sp, hb, hl, hc⟩ := h
  have e : q.sl = .slice (some ⟨q.blk, 0, none⟩) (brows q).length q.cap := by simp [Pt.sl, brows]
  rw [e]
  have hget : ∀ (i j : Nat) (r : List D) (d : D), (brows q)[i]? = some r → r[j]? = some d → ∃ b, j = 0 ∧ q.bytes[i]? = some b ∧ d = .v (bv b) := fun i j r d h1 h2 => by
    unfold brows at h1
    rw [List.getElem?_map] at h1
    cases hb : q.bytes[i]? with
    | none => rw [hb] at h1; cases h1
    | some b =>
      rw [hb] at h1
      simp only [Option.map_some, Option.some.injEq] at h1
      subst h1
      cases j with
      | zero => simp only [List.getElem?_cons_zero, Option.some.injEq] at h2; exact ⟨b, rfl, rfl, h2.symm⟩
      | succ j => simp at h2
  refine .sl q.blk 0 q.cap 1 _ (fun i _ => (q.bytes.map bv).getD i undef) hS (by simp [brows]; omega) hc (fun i r h1 => ?_) (fun i j r d h1 h2 => ?_) (fun i j r d h1 h2 => ?_)
  · unfold brows at h1
    rw [List.getElem?_map] at h1
    cases hb : q.bytes[i]? with
    | none => rw [hb] at h1; cases h1
    | some b => rw [hb] at h1; simp only [Option.map_some, Option.some.injEq] at h1; rw [← h1]; rfl
  · obtain ⟨b, rfl, hb', _⟩ := hget i j r d h1 h2
    have hm : (q.bytes.map bv)[i]? = some (bv b) := by simp [hb']
    have hg : (q.bytes.map bv).getD i undef = bv b := by simp [List.getD, hb']
    rw [hg]
    refine ⟨?_, rfl⟩
    rw [cell_box hb, Nat.zero_add, Nat.mul_one, Nat.add_zero, List.getElem?_append_left (List.getElem?_eq_some_iff.1 hm).1]; exact hm
  · obtain ⟨b, rfl, hb', rfl⟩ := hget i j r d h1 h2
    have hg : (q.bytes.map bv).getD i undef = bv b := by simp [List.getD, hb']
    rw [hg]; exact .v _
theorem prows_get {U : List Pt} {i j : Nat} {r : List D} {d : D} (h1 : (U.map prow)[i]? = some r) (h2 : r[j]? = some d) : ∃ q u, U[i]? = some q ∧ q.vals[j]? = some u ∧ d = .v u ∧ i < U.length ∧ j < 6 ∧ (flat U)[i * 6 + j]? = some u := by
  rw [List.getElem?_map] at h1
  cases hq : U[i]? with
  | none => rw [hq] at h1; cases h1
  | some q =>
    rw [hq] at h1
    simp only [Option.map_some, Option.some.injEq] at h1
    subst h1
    unfold prow at h2
    rw [List.getElem?_map] at h2
    cases hu : q.vals[j]? with
    | none => rw [hu] at h2; cases h2
    | some u =>
      rw [hu] at h2
      simp only [Option.map_some, Option.some.injEq] at h2
      have hi := (List.getElem?_eq_some_iff.1 hq).1
      have hj : j < 6 := (List.getElem?_eq_some_iff.1 hu).1
      refine ⟨q, u, rfl, hu, h2.symm, hi, hj, ?_⟩
      rw [flat_get U i j hi hj]
      simp [List.getD, hq, hu]
theorem parts_sh {w : World} {S : Blks} {p : Nat} {M : Mem} {X : SpX} (h : (SpP p M X).holds w S) : RepD w S (.slice (adr X.a) X.S.length X.c) (.sl (X.S.map prow)) := by
  obtain ⟨h, _, hF⟩ := h
  have hr := h.row
  cases ha : X.a with
  | none =>
    rw [ha] at hr
    obtain ⟨h1, h2⟩ := hr
    rw [h1, h2]
    exact .e none 0 (by unfold maxLen; omega)
  | some B =>
    rw [ha] at hr
    obtain ⟨cur, hB, hl, hS, hc, ht⟩ := hr
    rw [adr_some]
    have e : X.S.length = (X.S.map prow).length := by simp
    rw [e]
    refine .sl B 0 X.c 6 _ (fun i j => (flat X.S).getD (i * 6 + j) undef) (hF B (by simp [foot, ha])) (by simpa using hS) hc (fun i r h1 => ?_) (fun i j r d h1 h2 => ?_) (fun i j r d h1 h2 => ?_)
    · rw [List.getElem?_map] at h1
      cases hq : X.S[i]? with
      | none => rw [hq] at h1; cases h1
      | some q => rw [hq] at h1; simp only [Option.map_some, Option.some.injEq] at h1; rw [← h1]; rfl
    · obtain ⟨q, u, _, _, rfl, hi, hj, hf⟩ := prows_get h1 h2
      have hg : (flat X.S).getD (i * 6 + j) undef = u := by simp [List.getD, hf]
      rw [hg]
      refine ⟨?_, one_flat X.S u (List.mem_of_getElem? hf)⟩
      rw [cell_box hB, Nat.zero_add]
      have := hf
      rw [← ht, List.getElem?_take] at this
      split at this
      · exact this
      · cases this
    · obtain ⟨q, u, _, _, rfl, hi, hj, hf⟩ := prows_get h1 h2
      have hg : (flat X.S).getD (i * 6 + j) undef = u := by simp [List.getD, hf]
      rw [hg]; exact .v _
/-- facts stated otherwise -/
theorem Con.facts {f : FuncId} {args : List Value} {ps ps1 : List Per} {hp : List Res} {R : Value → List Per → List Res → Prop} (h : Con Try.prog f args ps1 hp R) (hf : ∀ w S, (∀ p ∈ ps, p.holds w S) → ∀ p ∈ ps1, p.holds w S) : Con Try.prog f args ps hp R := fun w S fp hst =>
  h w S fp ⟨hf w S hst.per, hst.res, hst.lt, hst.dj, hst.slt⟩
theorem clone_parts (p : Nat) (M : Mem) (X : SpX) (hfew : X.S.length ≤ 4096) :
    Con Try.prog 36 [.slice (adr X.a) X.S.length X.c] [SpP p M X] [] fun r ps' hp' => ps' = [] ∧ ∃ ad c, r = .slice ad X.S.length c ∧ hp' = [OwnS (.slice ad X.S.length c) 56 6 (X.S.map prow)] := fun w S fp hst => by
  have hP := hst.per _ (List.mem_singleton.2 rfl)
  have hr := hP.1.row
  cases ha : X.a with
  | none =>
    rw [ha] at hr
    obtain ⟨h1, h2⟩ := hr
    rw [h1, h2]
    refine (cloneP_nil w S fp ⟨fun p h => (by cases h), hst.res, hst.lt, hst.dj, hst.slt⟩).mono fun e w' ⟨v, ps', hp', S', fp', g1, ⟨g2, g3, g4⟩, g5, g6, g7⟩ => ?_
    subst g2; subst g3; subst g4
    have := g5.push (Below.refl _ _) (OwnS (.slice none 0 0) 56 6 []) (fun _ => False) (.inl ⟨rfl, rfl, fun b h => h⟩) (fun b h => h.elim)
    refine ⟨_, [], _, S', _, g1, ⟨rfl, none, 0, rfl, rfl⟩, this, g6, fun b hb => ?_⟩
    exact (tot_push (m := 0) (fp := fp') hb).elim (fun h => absurd h (tot_nil _ b)) (fun h => h.elim)
  | some B =>
    rw [adr_some]
    by_cases h0 : X.S = []
    · rw [h0]
      refine (cloneP_zero ⟨B, 0, none⟩ X.c w S fp ⟨fun p h => (by cases h), hst.res, hst.lt, hst.dj, hst.slt⟩).mono fun e w' ⟨v, ps', hp', S', fp', g1, ⟨g2, ad, g3, g4⟩, g⟩ => ?_
      exact ⟨v, ps', hp', S', fp', g1, ⟨g2, ad, 0, g3, g4⟩, g⟩
    · have hsh := parts_sh hP
      rw [ha, adr_some] at hsh
      have h1 : X.S.map prow ≠ [] := by simpa using h0
      have := cloneP_fn (X.S.map prow) ⟨B, 0, none⟩ X.c (fun r hr => by obtain ⟨q, _, rfl⟩ := List.mem_map.1 hr; rfl) h1 (by simp; omega) w S fp ⟨fun p h => (by rw [List.mem_singleton.1 h]; simpa [Sh] using hsh), hst.res, hst.lt, hst.dj, hst.slt⟩
      rw [List.length_map] at this
      exact this
theorem clone_bytes (p : Nat) (M : Mem) (X : SpX) (q : Pt) (hq : q ∈ X.S) (hinv : Inv X.S) :
    Con Try.prog 37 [q.sl] [SpP p M X] [] fun r ps' hp' => ps' = [] ∧ ∃ ad c, r = .slice ad q.bytes.length c ∧ hp' = [OwnS (.slice ad q.bytes.length c) 5 1 (brows q)] := by
  have hl := hinv.len q hq
  obtain ⟨_, _, _, r4, r5, _⟩ := rightA_iff.1 (hinv.right q hq)
  have e : (brows q).length = q.bytes.length := by simp [brows]
  have := cloneB_fn (brows q) ⟨q.blk, 0, none⟩ q.cap (fun r hr => by obtain ⟨b, _, rfl⟩ := List.mem_map.1 hr; rfl) (fun h => by rw [h] at e; simp at e; omega) (by omega)
  rw [e] at this
  refine Con.facts this (fun w S hp p hpm => ?_)
  rw [List.mem_singleton.1 hpm]
  obtain ⟨h, _, hF⟩ := hp _ (List.mem_singleton.2 rfl)
  exact bytes_sh (h.bytes q hq) (hF _ (by simp only [foot, List.mem_cons, List.mem_append, List.mem_map]; exact .inr (.inr ⟨q, hq, rfl⟩)))
/-- the bytes of parts -/
def ByS (U : List Pt) : Res :=
  ⟨fun w _ F => (∀ q ∈ U, ByteAt w q) ∧ (U.map Pt.blk).Nodup ∧ ∀ b, F b ↔ b ∈ U.map Pt.blk, fun ⟨h1, h2, h3⟩ k1 _ _ =>
    ⟨fun q hq => let ⟨sp, hb, r⟩ := h1 q hq; ⟨sp, (k1 q.blk ((h3 _).2 (List.mem_map.2 ⟨q, hq, rfl⟩))).trans hb, r⟩, h2, h3⟩⟩
theorem byS_none (w : World) (S : Blks) : (ByS []).holds w S (fun _ => False) := ⟨fun _ h => (by cases h), by simp, by simp⟩
theorem rows_cells {w : World} {S : Blks} {q : Pt} {cs : List Value} (h : RowsAt w S 1 cs (brows q)) : cs = q.bytes.map bv := by
  have hl := h.len
  apply List.ext_getElem?
  intro k
  cases hb : q.bytes[k]? with
  | none =>
    rw [List.getElem?_eq_none (by have := List.getElem?_eq_none_iff.1 hb; rw [hl]; simp [brows]; omega)]; simp [hb]
  | some b =>
    obtain ⟨u, hu, hr⟩ := h.rep k 0 [.v (bv b)] (.v (bv b)) (by simp [brows, hb]) rfl
    rw [Nat.mul_one, Nat.add_zero] at hu
    rw [hu, repD_v hr]; simp [hb]
theorem flat_cells {w : World} {S : Blks} {U : List Pt} {cs : List Value} (h : RowsAt w S 6 cs (U.map prow)) : cs = flat U := by
  have hl := h.len
  rw [List.length_map] at hl
  apply List.ext_getElem?
  intro k
  by_cases hk : k < U.length * 6
  · have hi : k / 6 < U.length := by omega
    have hj : k % 6 < 6 := by omega
    have hk' : k = k / 6 * 6 + k % 6 := by omega
    have hv : (U[k / 6]).vals.length = 6 := rfl
    have h1 : (U.map prow)[k / 6]? = some (prow U[k / 6]) := by simp [hi]
    have h2 : (prow U[k / 6])[k % 6]? = some (.v ((U[k / 6]).vals[k % 6]'(by omega))) := by
      unfold prow; rw [List.getElem?_map, List.getElem?_eq_getElem (by omega)]; rfl
    obtain ⟨u, hu, hr⟩ := h.rep _ _ _ _ h1 h2
    rw [← hk'] at hu
    obtain ⟨q, u', _, _, hd, _, _, hf⟩ := prows_get h1 h2
    rw [← hk'] at hf
    rw [hu, hf, repD_v hr]
    injection hd with hd
    rw [hd]
  · rw [List.getElem?_eq_none (by omega), List.getElem?_eq_none (by rw [flat_length]; omega)]
theorem byS_join {w : World} {S F : Blks} {U : List Pt} {q : Pt} {ad : Option Addr} {c : Nat} (h0 : q.bytes ≠ []) (h : (Star (ByS U) (OwnS (.slice ad q.bytes.length c) 5 1 (brows q))).holds w S F) :
    (ByS (U ++ [⟨q.ar, q.bytes, blkOf (.slice ad q.bytes.length c), c⟩])).holds w S F ∧ (.slice ad q.bytes.length c : Value) = Pt.sl ⟨q.ar, q.bytes, blkOf (.slice ad q.bytes.length c), c⟩ := by
  obtain ⟨G, H, ⟨h1, h2, h3⟩, h4, h5, h6⟩ := h
  rcases h4 with ⟨_, h4, _⟩ | ⟨b, cap, hv, ⟨cs, sp, g1, g2, g3, g4, g5⟩, hF⟩
  · have : (brows q).length = 0 := by rw [h4]; rfl
    simp [brows] at this; exact absurd this h0
  · injection hv with hv1 hv2 hv3
    subst hv1; subst hv3
    have hcs := rows_cells g2
    subst hcs
    refine ⟨⟨fun x hx => ?_, ?_, fun k => ?_⟩, rfl⟩
    · rcases List.mem_append.1 hx with hx | hx
      · exact h1 x hx
      · rw [List.mem_singleton.1 hx]
        exact ⟨sp, g1, by simpa using g3, g5⟩
    · rw [List.map_append, List.nodup_append]
      refine ⟨h2, by simp, fun x hx y hy => ?_⟩
      have hy' : y = b := by simpa [blkOf] using hy
      subst hy'
      intro he
      subst he
      exact h5 x ((h3 x).2 hx) ((hF x).2 rfl)
    · rw [h6 k, h3 k, hF k, List.map_append, List.mem_append]
      simp [blkOf]
theorem sp_made {w : World} {S F : Blks} {b : Nat} {U : List Pt} {ad : Option Addr} {c : Nat} (hinv : Inv U) (hfew : U.length ≤ 4096) (h : (Star (Star (ByS U) (OwnS (.slice ad U.length c) 56 6 (U.map prow))) (Box b 70 [.slice ad U.length c])).holds w S F) : (SpR b (mem U)).holds w S F := by
  obtain ⟨G, H, ⟨G1, H1, ⟨h1, h2, h3⟩, h4, h5, h6⟩, ⟨k1, k2⟩, k3, k4⟩ := h
  have hbH : H b := (k2 b).2 rfl
  have hq : ∀ q ∈ U, G1 q.blk := fun q hq => (h3 _).2 (List.mem_map.2 ⟨q, hq, rfl⟩)
  have hnb : ∀ x, G1 x → x ≠ b := fun x hx e => k3 b ((h6 b).2 (.inl (e ▸ hx))) hbH
  rcases h4 with ⟨hv, hU, hH1⟩ | ⟨B, cap, hv, ⟨cs, sp, g1, g2, g3, g4, g5⟩, hF⟩
  · injection hv with hv1 hv2 hv3
    subst hv1; subst hv3
    have hU' : U = [] := by simpa using hU
    subst hU'
    refine ⟨[b], ⟨none, 0, [], ⟨k1, ⟨rfl, rfl⟩, by simp, by simp, by simp, by simp, hinv, by simp⟩, rfl, rfl⟩, fun x => ?_⟩
    rw [k4 x, h6 x, h3 x, k2 x]
    simp [hH1 x]
  · injection hv with hv1 hv2 hv3
    subst hv1; subst hv3
    have hcs := flat_cells g2
    subst hcs
    refine ⟨foot b (some B) U, ⟨some B, c, U, ⟨k1, ⟨_, g1, by simpa using g3, by simpa using g4, g5, ?_⟩, h1, h2, fun q hqU => ⟨hnb _ (hq q hqU), fun e => ?_⟩, fun e => ?_, hinv, hfew⟩, rfl, rfl⟩, fun x => ?_⟩
    · rw [List.take_append_of_le_length (by rw [flat_length]; omega), List.take_of_length_le (by rw [flat_length]; omega)]
    · injection e with e
      exact h5 q.blk (hq q hqU) ((hF _).2 e.symm)
    · injection e with e
      exact k3 b ((h6 b).2 (.inr ((hF b).2 e.symm))) hbH
    · rw [k4 x, h6 x, h3 x, k2 x, hF x]
      simp only [foot, List.mem_cons, List.mem_append, Option.mem_toList, Option.mem_some_iff]
      constructor
      · rintro ((h | h) | h)
        · exact .inr (.inr h)
        · exact .inr (.inl (by rw [h]))
        · exact .inl h
      · rintro (h | h | h)
        · exact .inr h
        · exact .inl (.inr (by injection h with h; exact h.symm))
        · exact .inl (.inl h)
end Go.Proofs.Ytlhbnpahplpobaa
namespace Go.Proofs.Ytlhbnpahplpobaa
open Go.RowKit Go.Lp Go.Sy
def same (U T : List Pt) : Prop := U.map (fun q => (q.ar, q.bytes)) = T.map fun q => (q.ar, q.bytes)
theorem same_len {U T : List Pt} (h : same U T) : U.length = T.length := by simpa using congrArg List.length h
theorem copy_fn (p : Nat) (M : Mem) (X : SpX) (hinv : Inv X.S) (hX : mem X.S = M) (hfew : X.S.length ≤ 4096) : Con Try.prog 21 [.pointer (some ⟨p, 0, none⟩)] [SpP p M X] []
    fun r ps' hp' => ps' = [] ∧ ∃ q, r = .pointer (some ⟨q, 0, none⟩) ∧ hp' = [SpR q M] := by
  have HI := Lib.hid hinv
  clear hinv
  refine Con.enter Try.func21 rfl (by simp [Try.ntmps21]) ?_
  show awp _ _ _ _ ⟨[(0, true, _)], _, _⟩
  refine awp_void (ByS []) byS_none ?_
  refine awp_seq ?_
  refine awp_region ?_
  refine aL_s true rfl rfl (fun _ => q_assign rfl) ?_
  refine aL_nil ?_
  refine thn_n ?_
  refine awp_seq ?_
  refine awp_region ?_
  refine aL_s true rfl rfl (fun _ => q_move rfl) ?_
  refine aL_s true rfl rfl (fun _ => q_nilCheck rfl) ?_
  refine aL_s true rfl rfl (fun _ => q_fieldAddr (off := 0) (by kernel_rfl) rfl) ?_
  refine aL_s true rfl rfl (fun _ => qa_head (psAt 0 rfl) rfl rfl) ?_
  refine aL_eff (q := true) rfl (e_call [0] [] (by kernel_rfl) rfl rfl rfl rfl (clone_parts p M X hfew) ?_)
  rintro v ps' hp' ⟨rfl, ad, c, rfl, rfl⟩
  refine aL_s true rfl rfl (fun _ => q_bld (l := [(0, .tmp 10)]) (zs := [.slice none 0 0]) (pl := [(0, 1)]) (by kernel_rfl) (by kernel_rfl) (by kernel_rfl) rfl rfl rfl) ?_
  refine aL_eff (q := true) rfl (e_box rfl rfl rfl (fun b1_6 => ?_))
  simp only [List.cons_append, List.nil_append]
  refine aL_s true rfl rfl (fun _ => q_assign rfl) ?_
  refine aL_nil ?_
  refine thn_n ?_
  refine awp_seq ?_
  refine awp_seq ?_
  refine awp_region ?_
  refine aL_s true rfl rfl (fun _ => q_move rfl) ?_
  refine aL_s true rfl rfl (fun _ => q_nilCheck rfl) ?_
  refine aL_s true rfl rfl (fun _ => q_fieldAddr (off := 0) (by kernel_rfl) rfl) ?_
  refine aL_s true rfl rfl (fun _ => q_load 2 tk68 rfl rfl rfl) ?_
  refine aL_s true rfl rfl (fun _ => q_lenS Try.underlying68 rfl) ?_
  refine aL_s true rfl rfl (fun _ => q_move rfl) ?_
  refine aL_nil ?_
  refine thn_n ?_
  refine awp_block ?_
  refine awp_loopK [3, 16, 17, 18] [0] [0, 1, 2] (fun (k : Nat) s => k ≤ X.S.length ∧ ∃ U, same U (X.S.take k) ∧ s = ⟨[(3, true, .pointer (some ⟨b1_6, 0, none⟩)), (16, true, .slice ad X.S.length c), (17, true, .int .i64 X.S.length), (18, true, .int .i64 k)], [SpP p M X], [ByS U, OwnS (.slice ad X.S.length c) 56 6 ((U ++ X.S.drop k).map prow), Box b1_6 70 [.slice ad X.S.length c]]⟩) (fun k => X.S.length - k) rfl (⟨0, Nat.zero_le _, [], rfl, by rfl⟩) ?_
  rintro k s ⟨hk, U, hU, rfl⟩
  refine awp_seq ?_
  refine awp_region ?_
  refine aL_s true rfl rfl (fun _ => q_lss rfl rfl) ?_
  refine aL_nil ?_
  refine thn_n ?_
  refine awp_seq ?_
  refine awp_cond _ rfl (fun h1 => ?_) (fun h1 => ?_)
  · skip
    have hk' : k < X.S.length := by simpa using h1
    obtain ⟨q, hq⟩ : ∃ q, X.S[k]? = some q := ⟨X.S[k]'hk', by simp⟩
    have hUl : U.length = k := by rw [same_len hU, List.length_take]; omega
    have hdr : X.S.drop k = q :: X.S.drop (k + 1) := by rw [List.drop_eq_getElem_cons hk']; congr 1; rw [List.getElem?_eq_getElem hk'] at hq; injection hq
    have hrow : ((U ++ X.S.drop k).map prow)[k]? = some (prow q) := by rw [hdr, List.getElem?_map, List.getElem?_append_right (by omega), hUl, Nat.sub_self]; rfl
    have hqm : q ∈ X.S := List.mem_of_getElem? hq
    have hlen : k < ((U ++ X.S.drop k).map prow).length := by simp; omega
    refine awp_skip ?_
    refine thn_n ?_
    refine awp_seq ?_
    refine awp_block ?_
    refine awp_seq ?_
    refine awp_region ?_
    refine aL_s true rfl rfl (fun _ => q_move rfl) ?_
    refine aL_s true rfl rfl (fun _ => q_idxO 1 k el68 rfl rfl rfl rfl hlen) ?_
    refine aL_s true rfl rfl (fun _ => q_loadO 1 k 0 tk56 rfl rfl hrow (Nat.add_zero _).symm rfl) ?_
    refine aL_eff (q := true) rfl (e_alloc (zs := [.int .i64 0, .int .i64 0, .int .i64 0, .int .i64 0, .int .i64 0, .slice none 0 0]) (by kernel_rfl) rfl (fun b4_3 => ?_))
    simp only [List.cons_append, List.nil_append]
    refine aL_s true rfl rfl (fun _ => q_assign rfl) ?_
    refine aL_eff rfl (e_store 3 tk56 rfl rfl rfl rfl ?_)
    simp only [List.set_cons_succ, List.set_cons_zero]
    refine aL_nil ?_
    refine thn_n ?_
    refine awp_drawn [10] (by kernel_rfl) ?_
    show aB _ _ _ _ _ 11 #[false, false, false, false, false, false, false, false, false, false, false] _
    refine aB_s 0 rfl (by kernel_rfl) true rfl rfl (fun _ => q_move rfl) ?_
    simp only [List.setIfInBounds_toArray, List.set_cons_succ, List.set_cons_zero]
    refine aB_s 1 rfl (by kernel_rfl) true rfl rfl (fun _ => q_nilCheck rfl) ?_
    simp only [List.setIfInBounds_toArray, List.set_cons_succ, List.set_cons_zero]
    refine aB_s 2 rfl (by kernel_rfl) true rfl rfl (fun _ => q_fieldAddr (off := 0) (by kernel_rfl) rfl) ?_
    simp only [List.setIfInBounds_toArray, List.set_cons_succ, List.set_cons_zero]
    refine aB_s 3 rfl (by kernel_rfl) true rfl rfl (fun _ => q_load 2 tk68 rfl rfl rfl) ?_
    simp only [List.setIfInBounds_toArray, List.set_cons_succ, List.set_cons_zero]
    refine aB_s 4 rfl (by kernel_rfl) true rfl rfl (fun _ => q_move rfl) ?_
    simp only [List.setIfInBounds_toArray, List.set_cons_succ, List.set_cons_zero]
    refine aB_s 5 rfl (by kernel_rfl) true rfl rfl (fun _ => q_fieldAddr (off := 5) (by kernel_rfl) rfl) ?_
    simp only [List.setIfInBounds_toArray, List.set_cons_succ, List.set_cons_zero]
    refine aB_s 6 rfl (by kernel_rfl) true rfl rfl (fun _ => q_load 3 tk54 rfl rfl rfl) ?_
    simp only [List.setIfInBounds_toArray, List.set_cons_succ, List.set_cons_zero]
    refine aB_eff (q := true) 7 rfl (by kernel_rfl) rfl rfl (e_call [0] [] (by kernel_rfl) rfl rfl rfl rfl (clone_bytes p M X q hqm HI.out) ?_)
    rintro v ps' hp' ⟨rfl, ad2, c2, rfl, rfl⟩
    simp only [List.setIfInBounds_toArray, List.set_cons_succ, List.set_cons_zero]
    refine aB_s 8 rfl (by kernel_rfl) true rfl rfl (fun _ => q_idxO 1 k el68 rfl rfl rfl rfl hlen) ?_
    simp only [List.setIfInBounds_toArray, List.set_cons_succ, List.set_cons_zero]
    refine aB_s 9 rfl (by kernel_rfl) true rfl rfl (fun _ => q_fieldAddr (off := 5) (by kernel_rfl) rfl) ?_
    simp only [List.setIfInBounds_toArray, List.set_cons_succ, List.set_cons_zero]
    refine aB_eff 10 rfl (by kernel_rfl) rfl rfl (e_storeO 1 k 5 tk54 rfl rfl rfl hrow rfl (.v rfl .nil) rfl (by decide) ?_)
    simp only [List.setIfInBounds_toArray, List.set_cons_succ, List.set_cons_zero]
    refine aB_nil (by kernel_rfl) ?_
    refine blk_n ?_
    refine thn_n ?_
    have h0 : q.bytes ≠ [] := fun h => by have := HI.out.len q hqm; obtain ⟨_, _, _, r4, _⟩ := rightA_iff.1 (HI.out.right q hqm); rw [h] at this; simp at this; omega
    refine awp_star 0 4 rfl rfl rfl ?_
    refine awp_knowR 0 rfl (fun w S F h => (byS_join h0 h).2) (fun hsl => ?_)
    refine awp_conv 0 _ rfl (fun w S F h => (byS_join h0 h).1) ?_
    refine awp_region ?_
    refine aL_s true rfl rfl (fun _ => q_addi rfl rfl (by omega)) ?_
    refine aL_s true rfl rfl (fun _ => q_move rfl) ?_
    refine aL_nil ?_
    refine thn_n ?_
    refine ⟨[3, 16, 17, 18], [0], [0, 1, 2], rfl, ?_⟩
    refine ⟨k + 1, ⟨by omega, U ++ [⟨q.ar, q.bytes, blkOf (.slice ad2 q.bytes.length c2), c2⟩], ?_, ?_⟩, by omega⟩
    · unfold same at hU ⊢
      rw [List.take_add_one, hq, List.map_append, hU]; simp
    · have hrows : ((U ++ X.S.drop k).map prow).set k (setD (prow q) 5 [.v (.slice ad2 q.bytes.length c2)]) = ((U ++ [(⟨q.ar, q.bytes, blkOf (.slice ad2 q.bytes.length c2), c2⟩ : Pt)]) ++ X.S.drop (k + 1)).map prow := by
        rw [hdr, List.map_append, List.set_append_right _ _ (by simp; omega), List.length_map, hUl, Nat.sub_self, hsl]; simp; rfl
      rw [← hrows]; rfl
  · skip
    refine awp_exit ?_
    refine thn_e ?_
    refine thn_e ?_
    refine blk_hit ?_
    refine thn_n ?_
    refine awp_seq ?_
    have hke : k = X.S.length := by simp at h1; omega
    subst hke
    have hUl : U.length = X.S.length := by rw [same_len hU, List.take_length]
    have hme : mem U = M := by rw [← hX]; unfold same at hU; rw [List.take_length] at hU; exact hU
    have hUi : Inv U := inv_mem.2 (by rw [hme, ← hX]; exact inv_mem.1 HI.out)
    rw [List.drop_length, List.append_nil]
    refine awp_star 0 1 rfl rfl rfl ?_
    refine awp_star 0 2 rfl rfl rfl ?_
    refine awp_conv 0 (SpR b1_6 M) rfl (fun w S F h => by rw [← hUl] at h; have := sp_made hUi (by omega) h; rwa [hme] at this) ?_
    refine awp_region ?_
    refine aL_s true rfl rfl (fun _ => q_move rfl) ?_
    refine aL_s true rfl rfl (fun _ => q_assign rfl) ?_
    refine aL_nil ?_
    refine thn_n ?_
    refine awp_ret ?_
    refine fin1 [] [0] rfl Try.results21 rfl ?_ (.inr rfl)
    exact ⟨rfl, b1_6, rfl, rfl⟩
theorem copy_con (p : Nat) (M : Mem) : Con Try.prog 21 [.pointer (some ⟨p, 0, none⟩)] [] [SpR p M] fun r ps' hp' => ps' = [] ∧ ∃ q, r = .pointer (some ⟨q, 0, none⟩) ∧ hp' = [SpR p M, SpR q M] := fun w S fp hst => by
  obtain ⟨X, hinv, hXM, hfew, hst2⟩ := sp_lend hst 0 rfl
  refine (copy_fn p M X hinv hXM hfew w _ _ hst2).mono fun e w' ⟨v, ps', hp', S', fp', h1, ⟨h2, q, h3, h4⟩, h5, h6, h7⟩ => ?_
  subst h2; subst h4
  have hb : Below w.heap.size w w' := h6.toX (fun b hb => tot_nil _ b hb)
  obtain ⟨L, hsp, hL⟩ := h5.res 0 _ rfl
  have hst3 := hst.push hb (SpR q M) (fp' 0) ⟨L, hsp, hL⟩ (fun b hb' => ⟨(h7 b ⟨0, by simp, hb'⟩).elim (fun h => absurd h (tot_nil _ b)) id, (h5.lt 0 (by simp) b hb').1⟩)
  refine ⟨v, [], [SpR p M, SpR q M], S, _, h1, ⟨rfl, q, h3, rfl⟩, hst3, Evo.of_below _ _ hb, fun b hb' => ?_⟩
  rcases tot_push (fp := fp) (m := 1) hb' with h | h
  · exact .inl h
  · exact .inr ((h7 b ⟨0, by simp, h⟩).elim (fun h => absurd h (tot_nil _ b)) id)
end Go.Proofs.Ytlhbnpahplpobaa
namespace Go.Proofs.Ytlhbnpahplpobaa
open Go.RowKit Go.Lp Go.Sy
theorem splice_get {l b : List UInt8} {o : Nat} (h : o + b.length ≤ l.length) (i : Nat) : (splice l o b)[i]? = if i < o then l[i]? else if i < o + b.length then b[i - o]? else l[i]? := by
  unfold splice
  have e : (l.take o).length = o := by rw [List.length_take]; omega
  by_cases h1 : i < o
  · rw [if_pos h1, List.getElem?_append_left (by omega), List.getElem?_take, if_pos h1]
  · rw [if_neg h1, List.getElem?_append_right (by omega), e]
    by_cases h2 : i < o + b.length
    · rw [if_pos h2, List.getElem?_append_left (by omega)]
    · rw [if_neg h2, List.getElem?_append_right (by omega), List.getElem?_drop]
      congr 1; omega
theorem mfind_upd {M : Mem} {t : Int} {bs : List UInt8} (a s : Int) : mfind (updM M t bs) a s = (mfind M a s).map fun x => if x.1.at_ = t then (x.1, bs) else x := by
  unfold mfind updM
  rw [List.find?_map]
  congr 2
  funext x
  simp only [Function.comp]
  split <;> rfl
theorem rng_get (x : Cell) (q s : Int) (i : Nat) : (rng x q s)[i]? = if i < s.toNat then x.2[(q - x.1.at_).toNat + i]? else none := by
  unfold rng
  rw [List.getElem?_take]
  split
  · rw [List.getElem?_drop]
  · rfl
theorem rng_same {x : Cell} (hl : (x.2.length : Int) = x.1.size) {a q s : Int} {b : List UInt8} (h1 : x.1.at_ ≤ a) (h2 : a + b.length ≤ x.1.at_ + x.1.size) (h3 : x.1.at_ ≤ q) (hap : q + s ≤ a ∨ a + b.length ≤ q) :
    rng (x.1, splice x.2 (a - x.1.at_).toNat b) q s = rng x q s := by
  apply List.ext_getElem?
  intro i
  rw [rng_get, rng_get]
  split
  · dsimp only
    rw [splice_get (by omega)]
    split
    · rfl
    · rw [if_neg (by omega)]
  · rfl
theorem rng_back {x : Cell} (hl : (x.2.length : Int) = x.1.size) {a : Int} {b : List UInt8} (h1 : x.1.at_ ≤ a) (h2 : a + b.length ≤ x.1.at_ + x.1.size) :
    rng (x.1, splice x.2 (a - x.1.at_).toNat b) a b.length = b := by
  apply List.ext_getElem?
  intro i
  rw [rng_get]
  dsimp only
  split
  · rw [splice_get (by omega), if_neg (by omega), if_pos (by omega)]
    congr 1; omega
  · rw [List.getElem?_eq_none (by omega)]
/-- a memory, and what it is behind a write of bytes at a place -/
def Wrote (M M' : Mem) (a : Int) (b : List UInt8) : Prop := ∃ x ∈ M, x.1.at_ ≤ a ∧ a < x.1.at_ + x.1.size ∧ a + b.length ≤ x.1.at_ + x.1.size ∧ M' = updM M x.1.at_ (splice x.2 (a - x.1.at_).toNat b)
theorem wrote_err {M M' : Mem} {a : Int} {b : List UInt8} (h : Wrote M M' a b) (q s : Int) : (readM M q s).2 = (readM M' q s).2 := by
  obtain ⟨x, _, _, _, _, rfl⟩ := h
  unfold readM
  split
  · rfl
  · split
    · rfl
    · rw [mfind_upd]; cases mfind M q s <;> rfl
theorem wrote_apart {M M' : Mem} (hI : MInv M) {a : Int} {b : List UInt8} (h : Wrote M M' a b) {q s : Int} (hap : s ≤ 0 ∨ q + s ≤ a ∨ a + b.length ≤ q) : (readM M q s).1 = (readM M' q s).1 := by
  obtain ⟨x, hx, h1, _, h2, rfl⟩ := h
  unfold readM
  split
  · rfl
  · split
    · rfl
    · rw [mfind_upd]
      cases hm : mfind M q s with
      | none => rfl
      | some y =>
        obtain ⟨hy, h3, h4, h5⟩ := mfind_holds hm
        show rng y q s = rng (if y.1.at_ = x.1.at_ then (y.1, _) else y) q s
        split
        · rename_i e
          obtain rfl := hI.pair hy hx e
          exact (rng_same (hI.len y hy) h1 h2 h3 (by omega)).symm
        · rfl
theorem wrote_read {M M' : Mem} (hI : MInv M) {a : Int} {b : List UInt8} (hb : 1 ≤ b.length) (h : Wrote M M' a b) : readM M' a b.length = (b, 0) := by
  obtain ⟨x, hx, h1, h3, h2, rfl⟩ := h
  unfold readM
  rw [if_neg (by omega), if_neg (by omega), mfind_upd, mfind_of hI hx h1 h3 h2]
  show (rng (if x.1.at_ = x.1.at_ then (x.1, _) else x) a b.length, (0 : Int)) = _
  rw [if_pos rfl, rng_back (hI.len x hx) h1 h2]
theorem write_ok {M : Mem} {a : Int} {b : List UInt8} (hb : b ≠ []) (h : (writeM M a b).2 = 0) : Wrote M (writeM M a b).1 a b := by
  unfold writeM at h ⊢
  rw [if_neg hb] at h ⊢
  cases hm : mfind M a b.length with
  | none => rw [hm] at h; cases h
  | some x =>
    obtain ⟨hx, h1, h2, h3⟩ := mfind_holds hm
    exact ⟨x, hx, h1, h2, h3, rfl⟩
theorem writeM_no {M : Mem} {a : Int} {b : List UInt8} (h : (writeM M a b).2 ≠ 0) : (writeM M a b).1 = M := by
  unfold writeM at h ⊢
  split
  · rfl
  · split
    · rename_i h1 _ _ h2
      rw [if_neg h1, h2] at h; exact absurd rfl h
    · rfl
theorem store_ok {M : Mem} {a s n : Int} (h : (storeM M a s n).2 = 0) : (s = 1 ∨ s = 8 ∧ a % 8 = 0) ∧ Wrote M (storeM M a s n).1 a (numBytes n s.toNat) := by
  unfold storeM at h ⊢
  split at h
  · rename_i h1; exact absurd h h1
  · rename_i h1
    rw [if_neg h1]
    have h1 : accM M a s = 0 := Classical.not_not.1 h1
    unfold accM at h1
    split at h1
    · cases h1
    · rename_i h2
      split at h1
      · cases h1
      · rename_i h3
        cases hm : mfind M a s with
        | none => rw [hm] at h; cases h
        | some x =>
          rw [hm] at h
          dsimp only at h ⊢
          obtain ⟨hx, g1, g2, g3⟩ := mfind_holds hm
          by_cases hk : x.1.kind = 0
          · rw [if_pos hk] at h; cases h
          · rw [if_neg hk]
            have hs : s = 1 ∨ s = 8 := by omega
            exact ⟨by omega, x, hx, g1, g2, by rw [numBytes_length]; omega, rfl⟩
theorem storeM_no {M : Mem} {a s n : Int} (h : (storeM M a s n).2 ≠ 0) : (storeM M a s n).1 = M := by
  unfold storeM at h ⊢
  split
  · rfl
  · rename_i h1
    rw [if_neg h1] at h
    split
    · rename_i h2
      rw [h2] at h
      dsimp only at h
      split
      · rfl
      · rename_i h3; rw [if_neg h3] at h; exact absurd rfl h
    · rfl
theorem nth_toNat (n : Int) (k : Nat) : ((nthByte n k).toNat : Int) = (n / 256 ^ k) % 256 := by
  have h1 := Int.emod_nonneg (n / 256 ^ k) (show (256 : Int) ≠ 0 by omega)
  have h2 := Int.emod_lt_of_pos (n / 256 ^ k) (show (0 : Int) < 256 by omega)
  unfold nthByte
  rw [UInt8.toNat_ofNat']
  omega
theorem emod_two (n P : Int) (hP : 0 < P) : n % (P * 256) = n % P + P * (n / P % 256) := by
  have e1 := Int.emod_add_mul_ediv n P
  have e2 := Int.emod_add_mul_ediv (n / P) 256
  have h1 := Int.emod_nonneg n (show P ≠ 0 by omega)
  have h2 := Int.emod_lt_of_pos n hP
  have h3 := Int.emod_nonneg (n / P) (show (256 : Int) ≠ 0 by omega)
  have h4 := Int.emod_lt_of_pos (n / P) (show (0 : Int) < 256 by omega)
  have h5 : P * (n / P % 256) ≤ P * 255 := Int.mul_le_mul_of_nonneg_left (by omega) (by omega)
  have h6 : 0 ≤ P * (n / P % 256) := Int.mul_nonneg (by omega) h3
  have e3 : n = n % P + P * (n / P % 256) + P * 256 * (n / P / 256) := by
    rw [Int.mul_assoc, Int.add_assoc, ← Int.mul_add, e2, e1]
  conv => lhs; rw [e3]
  rw [Int.add_mul_emod_self_left]
  exact Int.emod_eq_of_lt (by omega) (by omega)
theorem num_nat (n : Int) : ∀ k, ((leNat (numBytes n k) : Nat) : Int) = n % 256 ^ k
  | 0 => by simp [numBytes, leNat]
  | k + 1 => by
    rw [numBytes_succ, leNat_snoc, numBytes_length]
    have ih := num_nat n k
    have hb := nth_toNat n k
    rw [Int.natCast_add, Int.natCast_mul, ih, hb, Int.natCast_pow]
    have e2 : n % 256 ^ (k + 1) = n % 256 ^ k + 256 ^ k * (n / 256 ^ k % 256) := by
      rw [Int.pow_succ]; exact emod_two n (256 ^ k) (Int.pow_pos (by omega))
    rw [e2]; rfl
theorem load_back {M M' : Mem} (hI : MInv M) {a n s : Int} (hn : I64 n) (hs : s = 1 ∨ s = 8 ∧ a % 8 = 0) (h : Wrote M M' a (numBytes n s.toNat)) : loadM M' a s = (if s = 1 then n % 256 else n, 0) := by
  obtain ⟨x, hx, h1, h3, h2, rfl⟩ := h
  rw [numBytes_length] at h2
  have hm := mfind_of hI hx (a := a) (s := s) h1 h3 (by omega)
  have hm2 : mfind (updM M x.1.at_ (splice x.2 (a - x.1.at_).toNat (numBytes n s.toNat))) a s = some (x.1, splice x.2 (a - x.1.at_).toNat (numBytes n s.toNat)) := by
    rw [mfind_upd, hm]
    show some (if x.1.at_ = x.1.at_ then _ else x) = _
    rw [if_pos rfl]
  have hr : rng (x.1, splice x.2 (a - x.1.at_).toNat (numBytes n s.toNat)) a s = numBytes n s.toNat := by
    have := rng_back (hI.len x hx) (b := numBytes n s.toNat) h1 (by rw [numBytes_length]; omega)
    rw [numBytes_length, show ((s.toNat : Nat) : Int) = s by omega] at this
    exact this
  unfold I64 at hn
  rcases hs with rfl | ⟨rfl, h8⟩
  · rw [load1, hm2]
    dsimp only
    rw [hr, if_pos rfl]
    have := num_nat n 1
    have e : ((1 : Int)).toNat = 1 := rfl
    rw [e]
    unfold toI64
    have e2 : (256 : Int) ^ 1 = 256 := by decide
    rw [e2] at this
    split
    · rw [this]
    · omega
  · rw [load8, if_neg (by omega), hm2]
    dsimp only
    rw [hr, if_neg (by omega)]
    have := num_nat n 8
    have e : ((8 : Int)).toNat = 8 := rfl
    rw [e]
    have e2 : (256 : Int) ^ 8 = 18446744073709551616 := by decide
    rw [e2] at this
    show ((if 2 * leNat (numBytes n 8) < 18446744073709551616 then ((leNat (numBytes n 8) : Nat) : Int) else ((leNat (numBytes n 8) : Nat) : Int) - 18446744073709551616), (0 : Int)) = (n, 0)
    rw [this]
    split <;> (congr 1; omega)
end Go.Proofs.Ytlhbnpahplpobaa
namespace Go.Sy
open Go.RowKit
section
variable {P : Program} {n : Nat} {s : Sta} {d : Option Tmp} {ty : TypeId} {pos : String} {af : Array Edge} {gd : Option (Nat × Bool)} {x y : Operand} {t t' : TypeId}
theorem qs_eql {a b : ByteArray} (hx : ev s.env x = some (true, .string a)) (hy : ev s.env y = some (true, .string b)) : Quiet P n ⟨d, .binOp .eql t x y t', ty, pos, af, gd⟩ s (.bool (a.toList == b.toList)) :=
  .run2 hx hy fun ρ w h1 h2 => by
    unfold execOp; dsimp only; rw [h1, h2]
    simp only [eqGuard_at_string, Sem.run_bind, Sem.run_pure, binOp_string_eql, Result.andThen_ok]
theorem qs_neq {a b : ByteArray} (hx : ev s.env x = some (true, .string a)) (hy : ev s.env y = some (true, .string b)) : Quiet P n ⟨d, .binOp .neq t x y t', ty, pos, af, gd⟩ s (.bool (!(a.toList == b.toList))) :=
  .run2 hx hy fun ρ w h1 h2 => by
    unfold execOp; dsimp only; rw [h1, h2]
    simp only [eqGuard_at_string, Sem.run_bind, Sem.run_pure, binOp_string_neq, Result.andThen_ok]
end
/-- an own slice, looked at as shared -/
theorem st_share {w : World} {S : Blks} {fp : Nat → Blks} {ps : List Per} {hp : List Res} {v : Value} {T : TypeId} {sz : Nat} {rows : List (List D)} (hst : St w S fp ps hp) (i : Nat) (hi : hp[i]? = some (OwnS v T sz rows)) :
    St w (fun b => S b ∨ fp i b) (fun k => if k = i then (fun _ => False) else fp k) (Sh v (.sl rows) :: ps) (hp.set i emp) := by
  have hil := (List.getElem?_eq_some_iff.1 hi).1
  have hr := hst.res i _ hi
  have hst0 := hst.drop i
  have hS : ∀ b, S b → (S b ∨ fp i b) := fun _ h => .inl h
  refine ⟨fun p hp' => ?_, fun j R hj => R.mono (hst0.res j R hj) (fun _ _ => rfl) (fun _ _ => rfl) hS, fun j hj b hb => ?_, hst0.dj, fun b hb => hb.elim (hst.slt b) (fun h => (hst.lt i hil b h).1)⟩
  · rcases List.mem_cons.1 hp' with rfl | h2
    · rcases hr with ⟨rfl, rfl, _⟩ | ⟨b, cap, rfl, ⟨cs, sp, hb, hrows, hl, hle, hcap⟩, hF⟩
      · exact .e none 0 (by unfold maxLen; omega)
      · refine .sl b 0 cap sz rows (fun i j => cs.getD (i * sz + j) undef) (.inr ((hF b).2 rfl)) hle hcap hrows.row (fun i j r d h1 h2 => ?_) (fun i j r d h1 h2 => ?_)
        · obtain ⟨u, hu, _⟩ := hrows.rep i j r d h1 h2
          have e : cs.getD (i * sz + j) undef = u := by simp [List.getD, hu]
          rw [e]
          refine ⟨?_, hrows.one u (List.mem_of_getElem? hu)⟩
          rw [Nat.zero_add, cell_box hb, List.getElem?_append_left (List.getElem?_eq_some_iff.1 hu).1]; exact hu
        · obtain ⟨u, hu, hr⟩ := hrows.rep i j r d h1 h2
          have e : cs.getD (i * sz + j) undef = u := by simp [List.getD, hu]
          rw [e]
          exact hr.mono (fun _ _ => rfl) hS
    · exact p.mono (hst.per p h2) (fun _ _ => rfl) hS
  · have hj' : j < hp.length := by simpa using hj
    by_cases hji : j = i
    · rw [if_pos hji] at hb; exact hb.elim
    · rw [if_neg hji] at hb
      exact ⟨(hst.lt j hj' b hb).1, fun h => h.elim (hst.lt j hj' b hb).2 (hst.dj j i hj' hil hji b hb)⟩
end Go.Sy
namespace Go.Proofs.Ytlhbnpahplpobaa
open Go.RowKit Go.Lp Go.Sy
def deedV (d : Deed) : List Value := [.int .i64 d.do_, .int .i64 d.a.at_, .int .i64 d.a.size, .int .i64 d.a.kind, .int .i64 d.a.owner, .int .i64 d.a.mod, .int .i64 d.at_, .int .i64 d.size, .int .i64 d.n, .string d.b]
def apartB (a len q s : Int) : Bool := decide (s ≤ 0) || decide (len ≤ 0) || (decide (a ≤ q) && decide (len ≤ IntKind.i64.wrap (q - a))) || (decide (q < a) && decide (s ≤ IntKind.i64.wrap (a - q)))
theorem apart_of {a len q s : Int} (ha : I64 a) (hq : I64 q) (h : apartB a len q s = true) : s ≤ 0 ∨ len ≤ 0 ∨ a + len ≤ q ∨ q + s ≤ a := by
  unfold I64 at ha hq
  unfold apartB at h
  rw [IntKind.wrap_i64, IntKind.wrap_i64] at h
  simp only [Bool.or_eq_true, Bool.and_eq_true, decide_eq_true_eq] at h
  omega
theorem bytes_eq {a b : List UInt8} : ((ofBytes a).toList == (ofBytes b).toList) = decide (a = b) := by
  have e : ∀ l, (ofBytes l).toList = l := fun l => by rw [ByteArray.toList_eq]; rfl
  rw [e, e, Bool.eq_iff_iff]; simp
theorem bytes_eq2 {a : List UInt8} {b : ByteArray} (h : a = b.data.toList) : ((ofBytes a).toList == b.toList) = true := by
  rw [ByteArray.toList_eq, ByteArray.toList_eq, h]
  simp [ofBytes]
theorem and255 {n : Int} (h : I64 n) : IntKind.i64.wrap (BitVec.ofInt IntKind.i64.bits n &&& BitVec.ofInt IntKind.i64.bits 255).toNat = n % 256 := by
  have e1 : (BitVec.ofInt 64 255).toNat = 255 := by decide
  have e2 : (BitVec.ofInt 64 n).toNat = (n % 18446744073709551616).toNat := by rw [BitVec.toNat_ofInt]; rfl
  show IntKind.i64.wrap (BitVec.ofInt 64 n &&& BitVec.ofInt 64 255).toNat = n % 256
  rw [BitVec.toNat_and, e1, e2, show (255 : Nat) = 2 ^ 8 - 1 from rfl, Nat.and_two_pow_sub_one_eq_mod, IntKind.wrap_i64]
  omega
theorem store_facts {M M' : Mem} (hI : MInv M) {a s n e : Int} (ha : I64 a) (hn : I64 n) (hM : (storeM M a s n).1 = M') (he : (storeM M a s n).2 = e) :
    (∀ q z, (readM M q z).2 = (readM M' q z).2) ∧ (∀ q z, I64 q → (apartB a s q z || !decide (e = 0)) = true → (readM M q z).1 = (readM M' q z).1) ∧ (e = 0 → loadM M' a s = (if s = 1 then n % 256 else n, 0)) := by
  by_cases h0 : e = 0
  · obtain ⟨hs, hw⟩ := store_ok (he.trans h0)
    rw [hM] at hw
    refine ⟨wrote_err hw, fun q z hq h => ?_, fun _ => load_back hI hn hs hw⟩
    simp only [h0, decide_true, Bool.not_true, Bool.or_false] at h
    have := apart_of ha hq h
    exact wrote_apart hI hw (by rw [numBytes_length]; omega)
  · have := storeM_no (by rw [he]; exact h0)
    rw [hM] at this
    subst this
    exact ⟨fun _ _ => rfl, fun _ _ _ _ => rfl, fun h => absurd h h0⟩
theorem write_facts {M M' : Mem} (hI : MInv M) {a e : Int} {b : List UInt8} (ha : I64 a) (hM : (writeM M a b).1 = M') (he : (writeM M a b).2 = e) :
    (∀ q z, (readM M q z).2 = (readM M' q z).2) ∧ (∀ q z, I64 q → (apartB a b.length q z || !decide (e = 0)) = true → (readM M q z).1 = (readM M' q z).1) ∧ (e = 0 → readM M' a b.length = (b, 0)) := by
  by_cases hb : b = []
  · subst hb
    have : M = M' := by rw [← hM]; rfl
    subst this
    exact ⟨fun _ _ => rfl, fun _ _ _ _ => rfl, fun _ => rfl⟩
  · by_cases h0 : e = 0
    · have hw := write_ok hb (he.trans h0)
      rw [hM] at hw
      have hb1 : 1 ≤ b.length := by cases b with
        | nil => exact absurd rfl hb
        | cons x b => simp
      refine ⟨wrote_err hw, fun q z hq h => ?_, fun _ => wrote_read hI hb1 hw⟩
      simp only [h0, decide_true, Bool.not_true, Bool.or_false] at h
      have := apart_of ha hq h
      exact wrote_apart hI hw (by omega)
    · have := writeM_no (by rw [he]; exact h0)
      rw [hM] at this
      subst this
      exact ⟨fun _ _ => rfl, fun _ _ _ _ => rfl, fun h => absurd h h0⟩
theorem holds_A (l : List Deed) (ad : Option Addr) (c : Nat) (hl : ∀ d ∈ l, DeedOk d) (d : Deed) (hd : DeedOk d) (hd4 : I64 d.size) (hd5 : I64 d.n) (at_ : Int) (hat : I64 at_) (size : Int) (hs : I64 size) (hf : fewB l = false) :
    Con Try.prog 3 [.slice ad l.length c, .agg #[.int .i64 d.do_, .int .i64 d.a.at_, .int .i64 d.a.size, .int .i64 d.a.kind, .int .i64 d.a.owner, .int .i64 d.a.mod, .int .i64 d.at_, .int .i64 d.size, .int .i64 d.n, .string d.b], .int .i64 at_, .int .i64 size]
      [Sh (.slice ad l.length c) (.sl (l.map deedRow))] [] fun r _ _ => r = .bool true := by
  have HL := Lib.hid hl
  clear hl
  have HD := Lib.hid hd
  clear hd
  refine Con.enter Try.func3 rfl (by simp [Try.ntmps3]) ?_
  show awp _ _ _ _ ⟨[(0, true, _), (1, true, _), (2, true, _), (3, true, _)], _, _⟩
  refine awp_len 0 rfl (fun hlen => ?_)
  refine awp_seq ?_
  refine awp_region ?_
  refine aL_eff (q := true) rfl (e_box rfl rfl rfl (fun b0_0 => ?_))
  simp only [List.cons_append, List.nil_append]
  refine aL_s true rfl rfl (fun _ => q_assign rfl) ?_
  refine aL_nil ?_
  refine thn_n ?_
  refine awp_seq ?_
  refine awp_region ?_
  refine aL_s true rfl rfl (fun _ => q_call (by kernel_rfl) rfl (fun w S fp hst => small_fn.quiet0 hst)) ?_
  refine aL_s true rfl rfl (fun _ => q_assign rfl) ?_
  refine aL_nil ?_
  refine thn_n ?_
  refine awp_seq ?_
  refine awp_seq ?_
  refine awp_region ?_
  refine aL_s true rfl rfl (fun _ => q_move rfl) ?_
  refine aL_s true rfl rfl (fun _ => q_call (by kernel_rfl) rfl (fun w S fp hst => ret_eq ((few_fn l ad c).quiet1 (psAt 0 rfl) hst) (congrArg Value.bool hf))) ?_
  refine aL_s true rfl rfl (fun _ => q_not rfl) ?_
  refine aL_s true rfl rfl (fun _ => q_move rfl) ?_
  refine aL_s (v := .bool false) false rfl rfl (fun h => (by cases h)) ?_
  refine aL_s (v := .bool false) false rfl rfl (fun h => (by cases h)) ?_
  refine aL_s (v := .bool false) false rfl rfl (fun h => (by cases h)) ?_
  refine aL_s (v := .bool false) false rfl rfl (fun h => (by cases h)) ?_
  refine aL_s true rfl rfl (fun _ => q_or rfl rfl (fun h => gf rfl h)) ?_
  refine aL_s true rfl rfl (fun _ => q_move rfl) ?_
  refine aL_s _ rfl rfl (fun hc => q_move rfl) ?_
  refine aL_s _ rfl rfl (fun hc => q_gtr (ev_yes rfl hc) rfl) ?_
  refine aL_s true rfl rfl (fun _ => q_or rfl rfl (fun h => gf rfl h)) ?_
  refine aL_nil ?_
  refine thn_n ?_
  refine awp_cond _ rfl (fun h1 => ?_) (fun h1 => ?_)
  · skip
    refine awp_seq ?_
    refine awp_region ?_
    refine aL_s true rfl rfl (fun _ => q_move rfl) ?_
    refine aL_s true rfl rfl (fun _ => q_assign rfl) ?_
    refine aL_nil ?_
    refine thn_n ?_
    refine awp_ret ?_
    refine thn_r ?_
    refine fin1 [] [] rfl Try.results3 rfl ?_ (.inr rfl)
    rfl
  · skip
    exact absurd h1 (by simp)
theorem holds_B3 (l : List Deed) (ad : Option Addr) (c : Nat) (hl : ∀ d ∈ l, DeedOk d) (d : Deed) (hd : DeedOk d) (hd4 : I64 d.size) (hd5 : I64 d.n) (at_ : Int) (hat : I64 at_) (size : Int) (hs : I64 size) (hf : fewB l = true) (hk : d.do_ % 2 = 0) :
    Con Try.prog 3 [.slice ad l.length c, .agg #[.int .i64 d.do_, .int .i64 d.a.at_, .int .i64 d.a.size, .int .i64 d.a.kind, .int .i64 d.a.owner, .int .i64 d.a.mod, .int .i64 d.at_, .int .i64 d.size, .int .i64 d.n, .string d.b], .int .i64 at_, .int .i64 size]
      [Sh (.slice ad l.length c) (.sl (l.map deedRow))] [] fun r _ _ => r = .bool true := by
  have HL := Lib.hid hl
  clear hl
  have HD := Lib.hid hd
  clear hd
  refine Con.enter Try.func3 rfl (by simp [Try.ntmps3]) ?_
  show awp _ _ _ _ ⟨[(0, true, _), (1, true, _), (2, true, _), (3, true, _)], _, _⟩
  refine awp_len 0 rfl (fun hlen => ?_)
  refine awp_seq ?_
  refine awp_region ?_
  refine aL_eff (q := true) rfl (e_box rfl rfl rfl (fun b0_0 => ?_))
  simp only [List.cons_append, List.nil_append]
  refine aL_s true rfl rfl (fun _ => q_assign rfl) ?_
  refine aL_nil ?_
  refine thn_n ?_
  refine awp_seq ?_
  refine awp_region ?_
  refine aL_s true rfl rfl (fun _ => q_call (by kernel_rfl) rfl (fun w S fp hst => small_fn.quiet0 hst)) ?_
  refine aL_s true rfl rfl (fun _ => q_assign rfl) ?_
  refine aL_nil ?_
  refine thn_n ?_
  refine awp_seq ?_
  refine awp_seq ?_
  refine awp_region ?_
  refine aL_s true rfl rfl (fun _ => q_move rfl) ?_
  refine aL_s true rfl rfl (fun _ => q_call (by kernel_rfl) rfl (fun w S fp hst => ret_eq ((few_fn l ad c).quiet1 (psAt 0 rfl) hst) (congrArg Value.bool hf))) ?_
  refine aL_s true rfl rfl (fun _ => q_not rfl) ?_
  refine aL_s true rfl rfl (fun _ => q_move rfl) ?_
  refine aL_s _ rfl rfl (fun hc => q_load 0 tk26 rfl rfl rfl) ?_
  refine aL_eff (q := true) rfl (w_lit (zs := [.int .i64 0, .int .i64 0, .int .i64 0, .int .i64 0, .int .i64 0, .int .i64 0, .int .i64 0, .int .i64 0, .int .i64 0, .string .empty]) (l := [(0, .tmp 30)]) el22 (by kernel_rfl) (by decide) (by decide) (by decide) rfl rfl rfl (.more rfl (.v rfl (.v rfl (.v rfl (.v rfl (.v rfl (.v rfl (.v rfl (.v rfl (.v rfl (.v rfl .nil)))))))))) .nil) rfl rfl (fun v2_5 => ?_))
  simp only [List.cons_append, List.nil_append]
  refine aL_s _ rfl rfl (fun hc => q_call (by kernel_rfl) (evs_cons (ev_yes rfl hc) rfl) (fun w S fp hst => (few_fn [d] v2_5 1).quiet1 (List.mem_cons_self ..) (st_share hst 1 rfl))) ?_
  refine aL_s _ rfl rfl (fun hc => q_not (ev_yes rfl hc)) ?_
  refine aL_s true rfl rfl (fun _ => q_or rfl rfl (fun h => gf rfl h)) ?_
  refine aL_s true rfl rfl (fun _ => q_move rfl) ?_
  refine aL_s _ rfl rfl (fun hc => q_move rfl) ?_
  refine aL_s _ rfl rfl (fun hc => q_gtr (ev_yes rfl hc) rfl) ?_
  refine aL_s true rfl rfl (fun _ => q_or rfl rfl (fun h => gf rfl h)) ?_
  refine aL_nil ?_
  refine thn_n ?_
  refine awp_cond _ rfl (fun h1 => ?_) (fun h1 => ?_)
  · skip
    refine awp_seq ?_
    refine awp_region ?_
    refine aL_s true rfl rfl (fun _ => q_move rfl) ?_
    refine aL_s true rfl rfl (fun _ => q_assign rfl) ?_
    refine aL_nil ?_
    refine thn_n ?_
    refine awp_ret ?_
    refine thn_r ?_
    refine fin1 [] [] rfl Try.results3 rfl ?_ (.inr rfl)
    rfl
  · skip
    have hll : l.length ≤ 4000 := few_len hf
    refine awp_skip ?_
    refine thn_n ?_
    refine awp_seq ?_
    refine awp_region ?_
    refine aL_s true rfl rfl (fun _ => q_move rfl) ?_
    refine aL_eff (q := true) rfl (e_call [0] [] (by kernel_rfl) rfl rfl rfl rfl (fill_fn l ad c HL.out hll) ?_)
    rintro v ps' hp' ⟨rfl, p, rfl, rfl⟩
    refine aL_s true rfl rfl (fun _ => q_assign rfl) ?_
    refine aL_nil ?_
    refine thn_n ?_
    refine awp_seq ?_
    have hMl : (fillM l).length ≤ 4000 := Nat.le_trans (fillM_len l) hll
    generalize fillM l = M at hMl ⊢
    refine awp_spinv 2 rfl (fun hI => ?_)
    have hat_d := HD.out.at_
    refine awp_region ?_
    refine aL_s true rfl rfl (fun _ => q_fieldAddr (off := 0) (by kernel_rfl) rfl) ?_
    refine aL_s true rfl rfl (fun _ => q_load 0 tk3 rfl rfl rfl) ?_
    refine aL_s true rfl rfl (fun _ => q_call (by kernel_rfl) rfl (fun w S fp hst => (pick_fn d.do_ 2 HD.out.do_ (by omega)).quiet0 hst)) ?_
    refine aL_s true rfl rfl (fun _ => q_muli rfl rfl (by omega)) ?_
    refine aL_s true rfl rfl (fun _ => q_addi rfl rfl (by omega)) ?_
    refine aL_s true rfl rfl (fun _ => q_fieldAddr (off := 0) (by kernel_rfl) rfl) ?_
    refine aL_eff rfl (e_store 0 tk3 rfl rfl rfl rfl ?_)
    simp only [List.set_cons_succ, List.set_cons_zero]
    refine aL_nil ?_
    refine thn_n ?_
    refine awp_seq ?_
    generalize hE : 3 + 2 * (d.do_ % 2) = E
    have hE' : E = 3 := by omega
    refine awp_region ?_
    refine aL_s true rfl rfl (fun _ => q_fieldAddr (off := 7) (by kernel_rfl) rfl) ?_
    refine aL_s true rfl rfl (fun _ => q_load 0 tk3 rfl rfl rfl) ?_
    refine aL_s true rfl rfl (fun _ => q_assign rfl) ?_
    refine aL_nil ?_
    refine thn_n ?_
    refine awp_seq ?_
    refine awp_seq ?_
    refine awp_region ?_
    refine aL_s true rfl rfl (fun _ => q_fieldAddr (off := 0) (by kernel_rfl) rfl) ?_
    refine aL_s true rfl rfl (fun _ => q_load 0 tk3 rfl rfl rfl) ?_
    refine aL_s true rfl rfl (fun _ => q_eql rfl rfl) ?_
    refine aL_nil ?_
    refine thn_n ?_
    refine awp_cond _ rfl (fun h2 => ?_) (fun h2 => ?_)
    · skip
      exact absurd h2 (by rw [hE']; decide)
    · skip
      refine awp_skip ?_
      refine thn_n ?_
      refine awp_seq ?_
      refine awp_region ?_
      refine aL_s true rfl rfl (fun _ => q_move rfl) ?_
      refine aL_s true rfl rfl (fun _ => q_move rfl) ?_
      refine aL_s true rfl rfl (fun _ => q_move rfl) ?_
      refine aL_s true rfl rfl (fun _ => q_call (by kernel_rfl) rfl (fun w S fp hst => q_spread hst 2 rfl at_ size hat)) ?_
      refine aL_s true rfl rfl (fun _ => q_move rfl) ?_
      refine aL_s true rfl rfl (fun _ => q_extract rfl rfl) ?_
      refine aL_s true rfl rfl (fun _ => q_extract rfl rfl) ?_
      refine aL_s true rfl rfl (fun _ => q_assign rfl) ?_
      refine aL_s true rfl rfl (fun _ => q_assign rfl) ?_
      refine aL_nil ?_
      refine thn_n ?_
      refine awp_seq ?_
      have hdo : doM M ⟨E, d.a, d.at_, d.size, d.n, d.b⟩ = ((storeM M d.at_ d.size d.n).1, 0, [], (storeM M d.at_ d.size d.n).2) := by unfold doM; simp [hE']
      have hdok : DeedOk ⟨E, d.a, d.at_, d.size, d.n, d.b⟩ := ⟨by show I64 E; unfold I64; omega, HD.out.at_, HD.out.b⟩
      refine awp_region ?_
      refine aL_s true rfl rfl (fun _ => q_move rfl) ?_
      refine aL_s true rfl rfl (fun _ => q_load 0 tk26 rfl rfl rfl) ?_
      refine aL_eff (q := false) rfl (e_call [] [2] (by kernel_rfl) rfl rfl rfl rfl (do_fn p M ⟨E, d.a, d.at_, d.size, d.n, d.b⟩ hdok (by omega)) ?_)
      rintro v ps' hp' ⟨rfl, rfl, rfl⟩; rw [hdo]
      refine aL_s true rfl rfl (fun _ => q_move rfl) ?_
      refine aL_s true rfl rfl (fun _ => q_extract rfl rfl) ?_
      refine aL_s true rfl rfl (fun _ => q_extract rfl rfl) ?_
      refine aL_s true rfl rfl (fun _ => q_extract rfl rfl) ?_
      refine aL_s true rfl rfl (fun _ => q_assign rfl) ?_
      refine aL_s true rfl rfl (fun _ => q_assign rfl) ?_
      refine aL_s true rfl rfl (fun _ => q_assign rfl) ?_
      refine aL_nil ?_
      refine thn_n ?_
      refine awp_seq ?_
      generalize hM' : (storeM M d.at_ d.size d.n).1 = M'
      generalize he : (storeM M d.at_ d.size d.n).2 = e
      obtain ⟨g1, g2, g3⟩ := store_facts hI hat_d hd5 hM' he
      refine awp_region ?_
      refine aL_s true rfl rfl (fun _ => q_move rfl) ?_
      refine aL_s true rfl rfl (fun _ => q_move rfl) ?_
      refine aL_s true rfl rfl (fun _ => q_move rfl) ?_
      refine aL_s true rfl rfl (fun _ => q_call (by kernel_rfl) rfl (fun w S fp hst => q_spread hst 2 rfl at_ size hat)) ?_
      refine aL_s true rfl rfl (fun _ => q_move rfl) ?_
      refine aL_s true rfl rfl (fun _ => q_extract rfl rfl) ?_
      refine aL_s true rfl rfl (fun _ => q_extract rfl rfl) ?_
      refine aL_s true rfl rfl (fun _ => q_assign rfl) ?_
      refine aL_s true rfl rfl (fun _ => q_assign rfl) ?_
      refine aL_nil ?_
      refine thn_n ?_
      refine awp_seq ?_
      refine awp_seq ?_
      refine awp_region ?_
      refine aL_s true rfl rfl (fun _ => q_move rfl) ?_
      refine aL_s true rfl rfl (fun _ => q_move rfl) ?_
      refine aL_s true rfl rfl (fun _ => q_neq rfl rfl) ?_
      refine aL_nil ?_
      refine thn_n ?_
      refine awp_cond _ rfl (fun h3 => ?_) (fun h3 => ?_)
      · skip
        refine awp_seq ?_
        refine awp_region ?_
        refine aL_s true rfl rfl (fun _ => q_assign rfl) ?_
        refine aL_nil ?_
        refine thn_n ?_
        refine awp_ret ?_
        refine thn_r ?_
        refine fin1 [] [] rfl Try.results3 rfl ?_ (.inr rfl)
        exact absurd h3 (by rw [g1]; simp)
      · skip
        refine awp_skip ?_
        refine thn_n ?_
        refine awp_seq ?_
        refine awp_region ?_
        refine aL_s true rfl rfl (fun _ => q_move rfl) ?_
        refine aL_s true rfl rfl (fun _ => q_leq rfl rfl) ?_
        refine aL_s true rfl rfl (fun _ => q_move rfl) ?_
        refine aL_s _ rfl rfl (fun hc => q_move rfl) ?_
        refine aL_s _ rfl rfl (fun hc => q_leq (ev_yes rfl hc) rfl) ?_
        refine aL_s true rfl rfl (fun _ => q_or rfl rfl (fun h => gf rfl h)) ?_
        refine aL_s true rfl rfl (fun _ => q_move rfl) ?_
        refine aL_s _ rfl rfl (fun hc => q_move rfl) ?_
        refine aL_s _ rfl rfl (fun hc => q_fieldAddr (off := 6) (by kernel_rfl) rfl) ?_
        refine aL_s _ rfl rfl (fun hc => q_load 0 tk3 (ev_yes rfl hc) rfl rfl) ?_
        refine aL_s _ rfl rfl (fun hc => q_geq (ev_yes rfl hc) (ev_yes rfl hc)) ?_
        refine aL_s _ rfl rfl (fun hc => q_move (ev_yes rfl hc)) ?_
        refine aL_s _ rfl rfl (fun hc => q_move rfl) ?_
        refine aL_s _ rfl rfl (fun hc => q_fieldAddr (off := 6) (by kernel_rfl) rfl) ?_
        refine aL_s _ rfl rfl (fun hc => q_load 0 tk3 (ev_yes rfl hc) rfl rfl) ?_
        refine aL_s _ rfl rfl (fun hc => q_sub (ev_yes rfl hc) (ev_yes rfl hc)) ?_
        refine aL_s _ rfl rfl (fun hc => q_move rfl) ?_
        refine aL_s _ rfl rfl (fun hc => q_geq (ev_yes rfl hc) (ev_yes rfl hc)) ?_
        refine aL_s _ rfl rfl (fun hc => q_and (ev_yes rfl hc) rfl (fun h => gt hc h)) ?_
        refine aL_s true rfl rfl (fun _ => q_or rfl rfl (fun h => gf rfl h)) ?_
        refine aL_s true rfl rfl (fun _ => q_move rfl) ?_
        refine aL_s _ rfl rfl (fun hc => q_move rfl) ?_
        refine aL_s _ rfl rfl (fun hc => q_fieldAddr (off := 6) (by kernel_rfl) rfl) ?_
        refine aL_s _ rfl rfl (fun hc => q_load 0 tk3 (ev_yes rfl hc) rfl rfl) ?_
        refine aL_s _ rfl rfl (fun hc => q_lss (ev_yes rfl hc) (ev_yes rfl hc)) ?_
        refine aL_s _ rfl rfl (fun hc => q_move (ev_yes rfl hc)) ?_
        refine aL_s _ rfl rfl (fun hc => q_move rfl) ?_
        refine aL_s _ rfl rfl (fun hc => q_fieldAddr (off := 6) (by kernel_rfl) rfl) ?_
        refine aL_s _ rfl rfl (fun hc => q_load 0 tk3 (ev_yes rfl hc) rfl rfl) ?_
        refine aL_s _ rfl rfl (fun hc => q_move rfl) ?_
        refine aL_s _ rfl rfl (fun hc => q_sub (ev_yes rfl hc) (ev_yes rfl hc)) ?_
        refine aL_s _ rfl rfl (fun hc => q_leq (ev_yes rfl hc) (ev_yes rfl hc)) ?_
        refine aL_s _ rfl rfl (fun hc => q_and (ev_yes rfl hc) rfl (fun h => gt hc h)) ?_
        refine aL_s true rfl rfl (fun _ => q_or rfl rfl (fun h => gf rfl h)) ?_
        refine aL_s true rfl rfl (fun _ => q_assign rfl) ?_
        refine aL_nil ?_
        refine thn_n ?_
        refine awp_seq ?_
        refine awp_seq ?_
        refine awp_region ?_
        refine aL_s true rfl rfl (fun _ => q_move rfl) ?_
        refine aL_s true rfl rfl (fun _ => q_move rfl) ?_
        refine aL_s _ rfl rfl (fun hc => q_move rfl) ?_
        refine aL_s _ rfl rfl (fun hc => q_neq (ev_yes rfl hc) rfl) ?_
        refine aL_s true rfl rfl (fun _ => q_or rfl rfl (fun h => gf rfl h)) ?_
        refine aL_s true rfl rfl (fun _ => q_move rfl) ?_
        refine aL_s _ rfl rfl (fun hc => q_move rfl) ?_
        refine aL_s _ rfl rfl (fun hc => q_move rfl) ?_
        refine aL_s _ rfl rfl (fun hc => qs_neq (ev_yes rfl hc) (ev_yes rfl hc)) ?_
        refine aL_s true rfl rfl (fun _ => q_and rfl rfl (fun h => gt rfl h)) ?_
        refine aL_nil ?_
        refine thn_n ?_
        refine awp_cond _ rfl (fun h4 => ?_) (fun h4 => ?_)
        · skip
          refine awp_seq ?_
          refine awp_region ?_
          refine aL_s true rfl rfl (fun _ => q_assign rfl) ?_
          refine aL_nil ?_
          refine thn_n ?_
          refine awp_ret ?_
          refine thn_r ?_
          refine fin1 [] [] rfl Try.results3 rfl ?_ (.inr rfl)
          rw [bytes_eq, Bool.and_eq_true] at h4
          have h5 := g2 at_ size hat h4.1
          rw [h5] at h4
          exact absurd h4.2 (by simp)
        · skip
          refine awp_skip ?_
          refine thn_n ?_
          refine awp_seq ?_
          refine awp_seq ?_
          refine awp_region ?_
          refine aL_s true rfl rfl (fun _ => q_move rfl) ?_
          refine aL_s true rfl rfl (fun _ => q_neq rfl rfl) ?_
          refine aL_nil ?_
          refine thn_n ?_
          refine awp_cond _ rfl (fun h5 => ?_) (fun h5 => ?_)
          · skip
            refine awp_seq ?_
            refine awp_region ?_
            refine aL_s true rfl rfl (fun _ => q_move rfl) ?_
            refine aL_s true rfl rfl (fun _ => q_assign rfl) ?_
            refine aL_nil ?_
            refine thn_n ?_
            refine awp_ret ?_
            refine thn_r ?_
            refine fin1 [] [] rfl Try.results3 rfl ?_ (.inr rfl)
            rfl
          · skip
            refine awp_skip ?_
            refine thn_n ?_
            refine awp_seq ?_
            refine awp_seq ?_
            refine awp_region ?_
            refine aL_s true rfl rfl (fun _ => q_fieldAddr (off := 0) (by kernel_rfl) rfl) ?_
            refine aL_s true rfl rfl (fun _ => q_load 0 tk3 rfl rfl rfl) ?_
            refine aL_s true rfl rfl (fun _ => q_eql rfl rfl) ?_
            refine aL_nil ?_
            refine thn_n ?_
            refine awp_cond _ rfl (fun h6 => ?_) (fun h6 => ?_)
            · skip
              exact absurd h6 (by rw [hE']; decide)
            · skip
              refine awp_skip ?_
              refine thn_n ?_
              refine awp_seq ?_
              refine awp_region ?_
              refine aL_s true rfl rfl (fun _ => q_move rfl) ?_
              refine aL_s true rfl rfl (fun _ => q_fieldAddr (off := 6) (by kernel_rfl) rfl) ?_
              refine aL_s true rfl rfl (fun _ => q_load 0 tk3 rfl rfl rfl) ?_
              refine aL_s true rfl rfl (fun _ => q_fieldAddr (off := 7) (by kernel_rfl) rfl) ?_
              refine aL_s true rfl rfl (fun _ => q_load 0 tk3 rfl rfl rfl) ?_
              refine aL_s true rfl rfl (fun _ => q_call (by kernel_rfl) rfl (fun w S fp hst => q_spload hst 2 rfl d.at_ d.size hat_d)) ?_
              refine aL_s true rfl rfl (fun _ => q_move rfl) ?_
              refine aL_s true rfl rfl (fun _ => q_extract rfl rfl) ?_
              refine aL_s true rfl rfl (fun _ => q_extract rfl rfl) ?_
              refine aL_s true rfl rfl (fun _ => q_assign rfl) ?_
              refine aL_s true rfl rfl (fun _ => q_assign rfl) ?_
              refine aL_nil ?_
              refine thn_n ?_
              refine awp_seq ?_
              refine awp_region ?_
              refine aL_s true rfl rfl (fun _ => q_fieldAddr (off := 8) (by kernel_rfl) rfl) ?_
              refine aL_s true rfl rfl (fun _ => q_load 0 tk3 rfl rfl rfl) ?_
              refine aL_s true rfl rfl (fun _ => q_assign rfl) ?_
              refine aL_nil ?_
              refine thn_n ?_
              refine awp_seq ?_
              refine awp_seq ?_
              refine awp_region ?_
              refine aL_s true rfl rfl (fun _ => q_fieldAddr (off := 7) (by kernel_rfl) rfl) ?_
              refine aL_s true rfl rfl (fun _ => q_load 0 tk3 rfl rfl rfl) ?_
              refine aL_s true rfl rfl (fun _ => q_eql rfl rfl) ?_
              refine aL_nil ?_
              refine thn_n ?_
              refine awp_cond _ rfl (fun h7 => ?_) (fun h7 => ?_)
              · skip
                refine awp_region ?_
                refine aL_s true rfl rfl (fun _ => q_fieldAddr (off := 8) (by kernel_rfl) rfl) ?_
                refine aL_s true rfl rfl (fun _ => q_load 0 tk3 rfl rfl rfl) ?_
                refine aL_s true rfl rfl (fun _ => q_andB rfl rfl) ?_
                refine aL_s true rfl rfl (fun _ => q_assign rfl) ?_
                refine aL_nil ?_
                refine thn_n ?_
                refine awp_seq ?_
                refine awp_region ?_
                refine aL_s true rfl rfl (fun _ => q_move rfl) ?_
                refine aL_s true rfl rfl (fun _ => q_move rfl) ?_
                refine aL_s _ rfl rfl (fun hc => q_move rfl) ?_
                refine aL_s _ rfl rfl (fun hc => q_eql (ev_yes rfl hc) rfl) ?_
                refine aL_s true rfl rfl (fun _ => q_and rfl rfl (fun h => gt rfl h)) ?_
                refine aL_s true rfl rfl (fun _ => q_move rfl) ?_
                refine aL_s _ rfl rfl (fun hc => q_move rfl) ?_
                refine aL_s _ rfl rfl (fun hc => q_move rfl) ?_
                refine aL_s _ rfl rfl (fun hc => q_eql (ev_yes rfl hc) (ev_yes rfl hc)) ?_
                refine aL_s true rfl rfl (fun _ => q_and rfl rfl (fun h => gt rfl h)) ?_
                refine aL_s true rfl rfl (fun _ => q_assign rfl) ?_
                refine aL_nil ?_
                refine thn_n ?_
                refine awp_ret ?_
                refine fin1 [] [] rfl Try.results3 rfl ?_ (.inr rfl)
                have g := g3 (by simpa using h5)
                rw [g, if_pos (of_decide_eq_true h7), and255 hd5]; simp
              · skip
                refine awp_skip ?_
                refine thn_n ?_
                refine awp_seq ?_
                refine awp_region ?_
                refine aL_s true rfl rfl (fun _ => q_move rfl) ?_
                refine aL_s true rfl rfl (fun _ => q_move rfl) ?_
                refine aL_s _ rfl rfl (fun hc => q_move rfl) ?_
                refine aL_s _ rfl rfl (fun hc => q_eql (ev_yes rfl hc) rfl) ?_
                refine aL_s true rfl rfl (fun _ => q_and rfl rfl (fun h => gt rfl h)) ?_
                refine aL_s true rfl rfl (fun _ => q_move rfl) ?_
                refine aL_s _ rfl rfl (fun hc => q_move rfl) ?_
                refine aL_s _ rfl rfl (fun hc => q_move rfl) ?_
                refine aL_s _ rfl rfl (fun hc => q_eql (ev_yes rfl hc) (ev_yes rfl hc)) ?_
                refine aL_s true rfl rfl (fun _ => q_and rfl rfl (fun h => gt rfl h)) ?_
                refine aL_s true rfl rfl (fun _ => q_assign rfl) ?_
                refine aL_nil ?_
                refine thn_n ?_
                refine awp_ret ?_
                refine fin1 [] [] rfl Try.results3 rfl ?_ (.inr rfl)
                have g := g3 (by simpa using h5)
                rw [g, if_neg (of_decide_eq_false h7)]; simp
theorem holds_B5 (l : List Deed) (ad : Option Addr) (c : Nat) (hl : ∀ d ∈ l, DeedOk d) (d : Deed) (hd : DeedOk d) (hd4 : I64 d.size) (hd5 : I64 d.n) (at_ : Int) (hat : I64 at_) (size : Int) (hs : I64 size) (hf : fewB l = true) (hk : d.do_ % 2 = 1) :
    Con Try.prog 3 [.slice ad l.length c, .agg #[.int .i64 d.do_, .int .i64 d.a.at_, .int .i64 d.a.size, .int .i64 d.a.kind, .int .i64 d.a.owner, .int .i64 d.a.mod, .int .i64 d.at_, .int .i64 d.size, .int .i64 d.n, .string d.b], .int .i64 at_, .int .i64 size]
      [Sh (.slice ad l.length c) (.sl (l.map deedRow))] [] fun r _ _ => r = .bool true := by
  have HL := Lib.hid hl
  clear hl
  have HD := Lib.hid hd
  clear hd
  refine Con.enter Try.func3 rfl (by simp [Try.ntmps3]) ?_
  show awp _ _ _ _ ⟨[(0, true, _), (1, true, _), (2, true, _), (3, true, _)], _, _⟩
  refine awp_len 0 rfl (fun hlen => ?_)
  refine awp_seq ?_
  refine awp_region ?_
  refine aL_eff (q := true) rfl (e_box rfl rfl rfl (fun b0_0 => ?_))
  simp only [List.cons_append, List.nil_append]
  refine aL_s true rfl rfl (fun _ => q_assign rfl) ?_
  refine aL_nil ?_
  refine thn_n ?_
  refine awp_seq ?_
  refine awp_region ?_
  refine aL_s true rfl rfl (fun _ => q_call (by kernel_rfl) rfl (fun w S fp hst => small_fn.quiet0 hst)) ?_
  refine aL_s true rfl rfl (fun _ => q_assign rfl) ?_
  refine aL_nil ?_
  refine thn_n ?_
  refine awp_seq ?_
  refine awp_seq ?_
  refine awp_region ?_
  refine aL_s true rfl rfl (fun _ => q_move rfl) ?_
  refine aL_s true rfl rfl (fun _ => q_call (by kernel_rfl) rfl (fun w S fp hst => ret_eq ((few_fn l ad c).quiet1 (psAt 0 rfl) hst) (congrArg Value.bool hf))) ?_
  refine aL_s true rfl rfl (fun _ => q_not rfl) ?_
  refine aL_s true rfl rfl (fun _ => q_move rfl) ?_
  refine aL_s _ rfl rfl (fun hc => q_load 0 tk26 rfl rfl rfl) ?_
  refine aL_eff (q := true) rfl (w_lit (zs := [.int .i64 0, .int .i64 0, .int .i64 0, .int .i64 0, .int .i64 0, .int .i64 0, .int .i64 0, .int .i64 0, .int .i64 0, .string .empty]) (l := [(0, .tmp 30)]) el22 (by kernel_rfl) (by decide) (by decide) (by decide) rfl rfl rfl (.more rfl (.v rfl (.v rfl (.v rfl (.v rfl (.v rfl (.v rfl (.v rfl (.v rfl (.v rfl (.v rfl .nil)))))))))) .nil) rfl rfl (fun v2_5 => ?_))
  simp only [List.cons_append, List.nil_append]
  refine aL_s _ rfl rfl (fun hc => q_call (by kernel_rfl) (evs_cons (ev_yes rfl hc) rfl) (fun w S fp hst => (few_fn [d] v2_5 1).quiet1 (List.mem_cons_self ..) (st_share hst 1 rfl))) ?_
  refine aL_s _ rfl rfl (fun hc => q_not (ev_yes rfl hc)) ?_
  refine aL_s true rfl rfl (fun _ => q_or rfl rfl (fun h => gf rfl h)) ?_
  refine aL_s true rfl rfl (fun _ => q_move rfl) ?_
  refine aL_s _ rfl rfl (fun hc => q_move rfl) ?_
  refine aL_s _ rfl rfl (fun hc => q_gtr (ev_yes rfl hc) rfl) ?_
  refine aL_s true rfl rfl (fun _ => q_or rfl rfl (fun h => gf rfl h)) ?_
  refine aL_nil ?_
  refine thn_n ?_
  refine awp_cond _ rfl (fun h1 => ?_) (fun h1 => ?_)
  · skip
    refine awp_seq ?_
    refine awp_region ?_
    refine aL_s true rfl rfl (fun _ => q_move rfl) ?_
    refine aL_s true rfl rfl (fun _ => q_assign rfl) ?_
    refine aL_nil ?_
    refine thn_n ?_
    refine awp_ret ?_
    refine thn_r ?_
    refine fin1 [] [] rfl Try.results3 rfl ?_ (.inr rfl)
    rfl
  · skip
    have hll : l.length ≤ 4000 := few_len hf
    refine awp_skip ?_
    refine thn_n ?_
    refine awp_seq ?_
    refine awp_region ?_
    refine aL_s true rfl rfl (fun _ => q_move rfl) ?_
    refine aL_eff (q := true) rfl (e_call [0] [] (by kernel_rfl) rfl rfl rfl rfl (fill_fn l ad c HL.out hll) ?_)
    rintro v ps' hp' ⟨rfl, p, rfl, rfl⟩
    refine aL_s true rfl rfl (fun _ => q_assign rfl) ?_
    refine aL_nil ?_
    refine thn_n ?_
    refine awp_seq ?_
    have hMl : (fillM l).length ≤ 4000 := Nat.le_trans (fillM_len l) hll
    generalize fillM l = M at hMl ⊢
    refine awp_spinv 2 rfl (fun hI => ?_)
    have hat_d := HD.out.at_
    refine awp_region ?_
    refine aL_s true rfl rfl (fun _ => q_fieldAddr (off := 0) (by kernel_rfl) rfl) ?_
    refine aL_s true rfl rfl (fun _ => q_load 0 tk3 rfl rfl rfl) ?_
    refine aL_s true rfl rfl (fun _ => q_call (by kernel_rfl) rfl (fun w S fp hst => (pick_fn d.do_ 2 HD.out.do_ (by omega)).quiet0 hst)) ?_
    refine aL_s true rfl rfl (fun _ => q_muli rfl rfl (by omega)) ?_
    refine aL_s true rfl rfl (fun _ => q_addi rfl rfl (by omega)) ?_
    refine aL_s true rfl rfl (fun _ => q_fieldAddr (off := 0) (by kernel_rfl) rfl) ?_
    refine aL_eff rfl (e_store 0 tk3 rfl rfl rfl rfl ?_)
    simp only [List.set_cons_succ, List.set_cons_zero]
    refine aL_nil ?_
    refine thn_n ?_
    refine awp_seq ?_
    generalize hE : 3 + 2 * (d.do_ % 2) = E
    have hE' : E = 5 := by omega
    refine awp_region ?_
    refine aL_s true rfl rfl (fun _ => q_fieldAddr (off := 7) (by kernel_rfl) rfl) ?_
    refine aL_s true rfl rfl (fun _ => q_load 0 tk3 rfl rfl rfl) ?_
    refine aL_s true rfl rfl (fun _ => q_assign rfl) ?_
    refine aL_nil ?_
    refine thn_n ?_
    refine awp_seq ?_
    refine awp_seq ?_
    refine awp_region ?_
    refine aL_s true rfl rfl (fun _ => q_fieldAddr (off := 0) (by kernel_rfl) rfl) ?_
    refine aL_s true rfl rfl (fun _ => q_load 0 tk3 rfl rfl rfl) ?_
    refine aL_s true rfl rfl (fun _ => q_eql rfl rfl) ?_
    refine aL_nil ?_
    refine thn_n ?_
    refine awp_cond _ rfl (fun h2 => ?_) (fun h2 => ?_)
    · skip
      refine awp_region ?_
      refine aL_s true rfl rfl (fun _ => q_fieldAddr (off := 9) (by kernel_rfl) rfl) ?_
      refine aL_s true rfl rfl (fun _ => q_load 0 tk9 rfl rfl rfl) ?_
      refine aL_s true rfl rfl (fun _ => q_lenStr Try.underlying9 rfl) ?_
      refine aL_s true rfl rfl (fun _ => q_assign rfl) ?_
      refine aL_nil ?_
      refine thn_n ?_
      refine awp_seq ?_
      refine awp_region ?_
      refine aL_s true rfl rfl (fun _ => q_move rfl) ?_
      refine aL_s true rfl rfl (fun _ => q_move rfl) ?_
      refine aL_s true rfl rfl (fun _ => q_move rfl) ?_
      refine aL_s true rfl rfl (fun _ => q_call (by kernel_rfl) rfl (fun w S fp hst => q_spread hst 2 rfl at_ size hat)) ?_
      refine aL_s true rfl rfl (fun _ => q_move rfl) ?_
      refine aL_s true rfl rfl (fun _ => q_extract rfl rfl) ?_
      refine aL_s true rfl rfl (fun _ => q_extract rfl rfl) ?_
      refine aL_s true rfl rfl (fun _ => q_assign rfl) ?_
      refine aL_s true rfl rfl (fun _ => q_assign rfl) ?_
      refine aL_nil ?_
      refine thn_n ?_
      refine awp_seq ?_
      have hdo : doM M ⟨E, d.a, d.at_, d.size, d.n, d.b⟩ = ((writeM M d.at_ d.b.data.toList).1, 0, [], (writeM M d.at_ d.b.data.toList).2) := by unfold doM; simp [hE']
      have hdok : DeedOk ⟨E, d.a, d.at_, d.size, d.n, d.b⟩ := ⟨by show I64 E; unfold I64; omega, HD.out.at_, HD.out.b⟩
      refine awp_region ?_
      refine aL_s true rfl rfl (fun _ => q_move rfl) ?_
      refine aL_s true rfl rfl (fun _ => q_load 0 tk26 rfl rfl rfl) ?_
      refine aL_eff (q := false) rfl (e_call [] [2] (by kernel_rfl) rfl rfl rfl rfl (do_fn p M ⟨E, d.a, d.at_, d.size, d.n, d.b⟩ hdok (by omega)) ?_)
      rintro v ps' hp' ⟨rfl, rfl, rfl⟩; rw [hdo]
      refine aL_s true rfl rfl (fun _ => q_move rfl) ?_
      refine aL_s true rfl rfl (fun _ => q_extract rfl rfl) ?_
      refine aL_s true rfl rfl (fun _ => q_extract rfl rfl) ?_
      refine aL_s true rfl rfl (fun _ => q_extract rfl rfl) ?_
      refine aL_s true rfl rfl (fun _ => q_assign rfl) ?_
      refine aL_s true rfl rfl (fun _ => q_assign rfl) ?_
      refine aL_s true rfl rfl (fun _ => q_assign rfl) ?_
      refine aL_nil ?_
      refine thn_n ?_
      refine awp_seq ?_
      generalize hM' : (writeM M d.at_ d.b.data.toList).1 = M'
      generalize he : (writeM M d.at_ d.b.data.toList).2 = e
      obtain ⟨g1, g2, g3⟩ := write_facts hI hat_d hM' he
      refine awp_region ?_
      refine aL_s true rfl rfl (fun _ => q_move rfl) ?_
      refine aL_s true rfl rfl (fun _ => q_move rfl) ?_
      refine aL_s true rfl rfl (fun _ => q_move rfl) ?_
      refine aL_s true rfl rfl (fun _ => q_call (by kernel_rfl) rfl (fun w S fp hst => q_spread hst 2 rfl at_ size hat)) ?_
      refine aL_s true rfl rfl (fun _ => q_move rfl) ?_
      refine aL_s true rfl rfl (fun _ => q_extract rfl rfl) ?_
      refine aL_s true rfl rfl (fun _ => q_extract rfl rfl) ?_
      refine aL_s true rfl rfl (fun _ => q_assign rfl) ?_
      refine aL_s true rfl rfl (fun _ => q_assign rfl) ?_
      refine aL_nil ?_
      refine thn_n ?_
      refine awp_seq ?_
      refine awp_seq ?_
      refine awp_region ?_
      refine aL_s true rfl rfl (fun _ => q_move rfl) ?_
      refine aL_s true rfl rfl (fun _ => q_move rfl) ?_
      refine aL_s true rfl rfl (fun _ => q_neq rfl rfl) ?_
      refine aL_nil ?_
      refine thn_n ?_
      refine awp_cond _ rfl (fun h3 => ?_) (fun h3 => ?_)
      · skip
        refine awp_seq ?_
        refine awp_region ?_
        refine aL_s true rfl rfl (fun _ => q_assign rfl) ?_
        refine aL_nil ?_
        refine thn_n ?_
        refine awp_ret ?_
        refine thn_r ?_
        refine fin1 [] [] rfl Try.results3 rfl ?_ (.inr rfl)
        exact absurd h3 (by rw [g1]; simp)
      · skip
        refine awp_skip ?_
        refine thn_n ?_
        refine awp_seq ?_
        refine awp_region ?_
        refine aL_s true rfl rfl (fun _ => q_move rfl) ?_
        refine aL_s true rfl rfl (fun _ => q_leq rfl rfl) ?_
        refine aL_s true rfl rfl (fun _ => q_move rfl) ?_
        refine aL_s _ rfl rfl (fun hc => q_move rfl) ?_
        refine aL_s _ rfl rfl (fun hc => q_leq (ev_yes rfl hc) rfl) ?_
        refine aL_s true rfl rfl (fun _ => q_or rfl rfl (fun h => gf rfl h)) ?_
        refine aL_s true rfl rfl (fun _ => q_move rfl) ?_
        refine aL_s _ rfl rfl (fun hc => q_move rfl) ?_
        refine aL_s _ rfl rfl (fun hc => q_fieldAddr (off := 6) (by kernel_rfl) rfl) ?_
        refine aL_s _ rfl rfl (fun hc => q_load 0 tk3 (ev_yes rfl hc) rfl rfl) ?_
        refine aL_s _ rfl rfl (fun hc => q_geq (ev_yes rfl hc) (ev_yes rfl hc)) ?_
        refine aL_s _ rfl rfl (fun hc => q_move (ev_yes rfl hc)) ?_
        refine aL_s _ rfl rfl (fun hc => q_move rfl) ?_
        refine aL_s _ rfl rfl (fun hc => q_fieldAddr (off := 6) (by kernel_rfl) rfl) ?_
        refine aL_s _ rfl rfl (fun hc => q_load 0 tk3 (ev_yes rfl hc) rfl rfl) ?_
        refine aL_s _ rfl rfl (fun hc => q_sub (ev_yes rfl hc) (ev_yes rfl hc)) ?_
        refine aL_s _ rfl rfl (fun hc => q_move rfl) ?_
        refine aL_s _ rfl rfl (fun hc => q_geq (ev_yes rfl hc) (ev_yes rfl hc)) ?_
        refine aL_s _ rfl rfl (fun hc => q_and (ev_yes rfl hc) rfl (fun h => gt hc h)) ?_
        refine aL_s true rfl rfl (fun _ => q_or rfl rfl (fun h => gf rfl h)) ?_
        refine aL_s true rfl rfl (fun _ => q_move rfl) ?_
        refine aL_s _ rfl rfl (fun hc => q_move rfl) ?_
        refine aL_s _ rfl rfl (fun hc => q_fieldAddr (off := 6) (by kernel_rfl) rfl) ?_
        refine aL_s _ rfl rfl (fun hc => q_load 0 tk3 (ev_yes rfl hc) rfl rfl) ?_
        refine aL_s _ rfl rfl (fun hc => q_lss (ev_yes rfl hc) (ev_yes rfl hc)) ?_
        refine aL_s _ rfl rfl (fun hc => q_move (ev_yes rfl hc)) ?_
        refine aL_s _ rfl rfl (fun hc => q_move rfl) ?_
        refine aL_s _ rfl rfl (fun hc => q_fieldAddr (off := 6) (by kernel_rfl) rfl) ?_
        refine aL_s _ rfl rfl (fun hc => q_load 0 tk3 (ev_yes rfl hc) rfl rfl) ?_
        refine aL_s _ rfl rfl (fun hc => q_move rfl) ?_
        refine aL_s _ rfl rfl (fun hc => q_sub (ev_yes rfl hc) (ev_yes rfl hc)) ?_
        refine aL_s _ rfl rfl (fun hc => q_leq (ev_yes rfl hc) (ev_yes rfl hc)) ?_
        refine aL_s _ rfl rfl (fun hc => q_and (ev_yes rfl hc) rfl (fun h => gt hc h)) ?_
        refine aL_s true rfl rfl (fun _ => q_or rfl rfl (fun h => gf rfl h)) ?_
        refine aL_s true rfl rfl (fun _ => q_assign rfl) ?_
        refine aL_nil ?_
        refine thn_n ?_
        refine awp_seq ?_
        refine awp_seq ?_
        refine awp_region ?_
        refine aL_s true rfl rfl (fun _ => q_move rfl) ?_
        refine aL_s true rfl rfl (fun _ => q_move rfl) ?_
        refine aL_s _ rfl rfl (fun hc => q_move rfl) ?_
        refine aL_s _ rfl rfl (fun hc => q_neq (ev_yes rfl hc) rfl) ?_
        refine aL_s true rfl rfl (fun _ => q_or rfl rfl (fun h => gf rfl h)) ?_
        refine aL_s true rfl rfl (fun _ => q_move rfl) ?_
        refine aL_s _ rfl rfl (fun hc => q_move rfl) ?_
        refine aL_s _ rfl rfl (fun hc => q_move rfl) ?_
        refine aL_s _ rfl rfl (fun hc => qs_neq (ev_yes rfl hc) (ev_yes rfl hc)) ?_
        refine aL_s true rfl rfl (fun _ => q_and rfl rfl (fun h => gt rfl h)) ?_
        refine aL_nil ?_
        refine thn_n ?_
        refine awp_cond _ rfl (fun h4 => ?_) (fun h4 => ?_)
        · skip
          refine awp_seq ?_
          refine awp_region ?_
          refine aL_s true rfl rfl (fun _ => q_assign rfl) ?_
          refine aL_nil ?_
          refine thn_n ?_
          refine awp_ret ?_
          refine thn_r ?_
          refine fin1 [] [] rfl Try.results3 rfl ?_ (.inr rfl)
          rw [bytes_eq, Bool.and_eq_true] at h4
          have h5 := g2 at_ size hat h4.1
          rw [h5] at h4
          exact absurd h4.2 (by simp)
        · skip
          refine awp_skip ?_
          refine thn_n ?_
          refine awp_seq ?_
          refine awp_seq ?_
          refine awp_region ?_
          refine aL_s true rfl rfl (fun _ => q_move rfl) ?_
          refine aL_s true rfl rfl (fun _ => q_neq rfl rfl) ?_
          refine aL_nil ?_
          refine thn_n ?_
          refine awp_cond _ rfl (fun h5 => ?_) (fun h5 => ?_)
          · skip
            refine awp_seq ?_
            refine awp_region ?_
            refine aL_s true rfl rfl (fun _ => q_move rfl) ?_
            refine aL_s true rfl rfl (fun _ => q_assign rfl) ?_
            refine aL_nil ?_
            refine thn_n ?_
            refine awp_ret ?_
            refine thn_r ?_
            refine fin1 [] [] rfl Try.results3 rfl ?_ (.inr rfl)
            rfl
          · skip
            refine awp_skip ?_
            refine thn_n ?_
            refine awp_seq ?_
            refine awp_seq ?_
            refine awp_region ?_
            refine aL_s true rfl rfl (fun _ => q_fieldAddr (off := 0) (by kernel_rfl) rfl) ?_
            refine aL_s true rfl rfl (fun _ => q_load 0 tk3 rfl rfl rfl) ?_
            refine aL_s true rfl rfl (fun _ => q_eql rfl rfl) ?_
            refine aL_nil ?_
            refine thn_n ?_
            refine awp_cond _ rfl (fun h6 => ?_) (fun h6 => ?_)
            · skip
              refine awp_seq ?_
              refine awp_region ?_
              refine aL_s true rfl rfl (fun _ => q_move rfl) ?_
              refine aL_s true rfl rfl (fun _ => q_fieldAddr (off := 6) (by kernel_rfl) rfl) ?_
              refine aL_s true rfl rfl (fun _ => q_load 0 tk3 rfl rfl rfl) ?_
              refine aL_s true rfl rfl (fun _ => q_move rfl) ?_
              refine aL_s true rfl rfl (fun _ => q_call (by kernel_rfl) rfl (fun w S fp hst => q_spread hst 2 rfl d.at_ d.b.size hat_d)) ?_
              refine aL_s true rfl rfl (fun _ => q_move rfl) ?_
              refine aL_s true rfl rfl (fun _ => q_extract rfl rfl) ?_
              refine aL_s true rfl rfl (fun _ => q_extract rfl rfl) ?_
              refine aL_s true rfl rfl (fun _ => q_assign rfl) ?_
              refine aL_s true rfl rfl (fun _ => q_assign rfl) ?_
              refine aL_nil ?_
              refine thn_n ?_
              refine awp_seq ?_
              refine awp_region ?_
              refine aL_s true rfl rfl (fun _ => q_move rfl) ?_
              refine aL_s true rfl rfl (fun _ => q_move rfl) ?_
              refine aL_s _ rfl rfl (fun hc => q_move rfl) ?_
              refine aL_s _ rfl rfl (fun hc => q_eql (ev_yes rfl hc) rfl) ?_
              refine aL_s true rfl rfl (fun _ => q_and rfl rfl (fun h => gt rfl h)) ?_
              refine aL_s true rfl rfl (fun _ => q_move rfl) ?_
              refine aL_s _ rfl rfl (fun hc => q_move rfl) ?_
              refine aL_s _ rfl rfl (fun hc => q_fieldAddr (off := 9) (by kernel_rfl) rfl) ?_
              refine aL_s _ rfl rfl (fun hc => q_load 0 tk9 (ev_yes rfl hc) rfl rfl) ?_
              refine aL_s _ rfl rfl (fun hc => qs_eql (ev_yes rfl hc) (ev_yes rfl hc)) ?_
              refine aL_s true rfl rfl (fun _ => q_and rfl rfl (fun h => gt rfl h)) ?_
              refine aL_s true rfl rfl (fun _ => q_assign rfl) ?_
              refine aL_nil ?_
              refine thn_n ?_
              refine awp_ret ?_
              refine thn_r ?_
              refine fin1 [] [] rfl Try.results3 rfl ?_ (.inr rfl)
              have g : readM M' d.at_ d.b.size = (d.b.data.toList, 0) := g3 (by simpa using h5)
              rw [g, bytes_eq2 rfl]; rfl
            · skip
              exact absurd h6 (by rw [hE']; decide)
    · skip
      exact absurd h2 (by rw [hE']; decide)
theorem spaceHolds_con (l : List Deed) (ad : Option Addr) (c : Nat) (hl : ∀ d ∈ l, DeedOk d) (d : Deed) (hd : DeedOk d) (hd4 : I64 d.size) (hd5 : I64 d.n) (at_ : Int) (hat : I64 at_) (size : Int) (hs : I64 size) :
    Con Try.prog 3 [.slice ad l.length c, .agg (deedV d).toArray, .int .i64 at_, .int .i64 size] [Sh (.slice ad l.length c) (.sl (l.map deedRow))] [] fun r _ _ => r = .bool true := by
  cases hf : fewB l with
  | false => exact holds_A l ad c hl d hd hd4 hd5 at_ hat size hs hf
  | true =>
    have h2 : d.do_ % 2 = 0 ∨ d.do_ % 2 = 1 := by omega
    rcases h2 with h2 | h2
    · exact holds_B3 l ad c hl d hd hd4 hd5 at_ hat size hs hf h2
    · exact holds_B5 l ad c hl d hd hd4 hd5 at_ hat size hs hf h2
end Go.Proofs.Ytlhbnpahplpobaa
namespace Go.Proofs.Ytlhbnpahplpobaa
open Go.RowKit Go.Lp Go.Sy
theorem same_fn (L K : List Ar) (a1 a2 : Option Addr) (c1 c2 : Nat) :
    Con Try.prog 22 [.slice a1 L.length c1, .slice a2 K.length c2] [Sh (.slice a1 L.length c1) (.sl (L.map arRow)), Sh (.slice a2 K.length c2) (.sl (K.map arRow))] [] fun r _ _ => r = .bool (decide (L = K)) := by
  refine Con.enter Try.func22 rfl (by simp [Try.ntmps22]) ?_
  show awp _ _ _ _ ⟨[(0, true, _), (1, true, _)], _, _⟩
  refine awp_len 0 rfl (fun hlen => ?_)
  rw [List.length_map] at hlen
  refine awp_seq ?_
  refine awp_region ?_
  refine aL_s true rfl rfl (fun _ => q_assign rfl) ?_
  refine aL_nil ?_
  refine thn_n ?_
  refine awp_seq ?_
  refine awp_seq ?_
  refine awp_region ?_
  refine aL_s true rfl rfl (fun _ => q_move rfl) ?_
  refine aL_s true rfl rfl (fun _ => q_lenS Try.underlying47 rfl) ?_
  refine aL_s true rfl rfl (fun _ => q_move rfl) ?_
  refine aL_s true rfl rfl (fun _ => q_lenS Try.underlying47 rfl) ?_
  refine aL_s true rfl rfl (fun _ => q_neq rfl rfl) ?_
  refine aL_nil ?_
  refine thn_n ?_
  refine awp_cond _ rfl (fun h1 => ?_) (fun h1 => ?_)
  · skip
    refine awp_seq ?_
    refine awp_region ?_
    refine aL_s true rfl rfl (fun _ => q_assign rfl) ?_
    refine aL_nil ?_
    refine thn_n ?_
    refine awp_ret ?_
    refine thn_r ?_
    refine fin1 [] [] rfl Try.results22 rfl ?_ (.inr rfl)
    refine congrArg Value.bool ?_
    symm; rw [decide_eq_false_iff_not]
    intro e; rw [e] at h1; simp at h1
  · skip
    refine awp_skip ?_
    refine thn_n ?_
    refine awp_seq ?_
    refine awp_seq ?_
    refine awp_region ?_
    refine aL_s true rfl rfl (fun _ => q_assign rfl) ?_
    refine aL_nil ?_
    refine thn_n ?_
    refine awp_block ?_
    have hlk : L.length = K.length := by simp at h1; omega
    refine awp_loopK [0, 1, 4, 5] [1, 0] [] (fun (k : Nat) s => (k ≤ L.length ∧ L.take k = K.take k) ∧ s = ⟨[(0, true, .slice a1 L.length c1), (1, true, .slice a2 K.length c2), (4, true, .bool false), (5, true, .int .i64 k)], [Sh (.slice a1 L.length c1) (.sl (L.map arRow)), Sh (.slice a2 K.length c2) (.sl (K.map arRow))], []⟩) (fun k => L.length - k) rfl (⟨0, ⟨Nat.zero_le _, rfl⟩, rfl⟩) ?_
    rintro k s ⟨⟨hk, hok⟩, rfl⟩
    refine awp_seq ?_
    refine awp_seq ?_
    refine awp_region ?_
    refine aL_s true rfl rfl (fun _ => q_move rfl) ?_
    refine aL_s true rfl rfl (fun _ => q_move rfl) ?_
    refine aL_s true rfl rfl (fun _ => q_lenS Try.underlying47 rfl) ?_
    refine aL_s true rfl rfl (fun _ => q_lss rfl rfl) ?_
    refine aL_nil ?_
    refine thn_n ?_
    refine awp_cond _ rfl (fun h2 => ?_) (fun h2 => ?_)
    · skip
      have hk' : k < L.length := by simpa using h2
      obtain ⟨x, hx⟩ : ∃ x, L[k]? = some x := ⟨L[k]'hk', by simp⟩
      obtain ⟨y, hy⟩ : ∃ y, K[k]? = some y := ⟨K[k]'(by omega), by simp⟩
      refine awp_skip ?_
      refine thn_n ?_
      refine awp_seq ?_
      refine awp_block ?_
      refine awp_seq ?_
      refine awp_drawn [] (by kernel_rfl) ?_
      show aB _ _ _ _ _ 9 #[false, false, false, false, false, false, false, false, false] _
      refine aB_s 0 rfl (by kernel_rfl) true rfl rfl (fun _ => q_move rfl) ?_
      simp only [List.setIfInBounds_toArray, List.set_cons_succ, List.set_cons_zero]
      refine aB_s 1 rfl (by kernel_rfl) true rfl rfl (fun _ => q_move rfl) ?_
      simp only [List.setIfInBounds_toArray, List.set_cons_succ, List.set_cons_zero]
      refine aB_E 2 rfl (by kernel_rfl) true rfl rfl (fun _ => q_indexAddr Try.underlying47 tk24 rfl (psAt 0 rfl) rfl (row := arRow x) (by simp [hx]) rfl rfl) (fun h => absurd h (by decide)) (fun ⟨b6_2, o6_2⟩ => ?_)
      simp only [List.setIfInBounds_toArray, List.set_cons_succ, List.set_cons_zero]
      refine aB_s 3 rfl (by kernel_rfl) true rfl rfl (fun _ => q_loadD (o := 0) (v := .agg #[.int .i64 x.at_, .int .i64 x.size, .int .i64 x.kind, .int .i64 x.owner, .int .i64 x.mod]) tk24 rfl (psAt 0 rfl) rfl rfl) ?_
      simp only [List.setIfInBounds_toArray, List.set_cons_succ, List.set_cons_zero]
      refine aB_s 4 rfl (by kernel_rfl) true rfl rfl (fun _ => q_move rfl) ?_
      simp only [List.setIfInBounds_toArray, List.set_cons_succ, List.set_cons_zero]
      refine aB_s 5 rfl (by kernel_rfl) true rfl rfl (fun _ => q_move rfl) ?_
      simp only [List.setIfInBounds_toArray, List.set_cons_succ, List.set_cons_zero]
      refine aB_E 6 rfl (by kernel_rfl) true rfl rfl (fun _ => q_indexAddr Try.underlying47 tk24 rfl (psAt 2 rfl) rfl (row := arRow y) (by simp [hy]) rfl rfl) (fun h => absurd h (by decide)) (fun ⟨b6_6, o6_6⟩ => ?_)
      simp only [List.setIfInBounds_toArray, List.set_cons_succ, List.set_cons_zero]
      refine aB_s 7 rfl (by kernel_rfl) true rfl rfl (fun _ => q_loadD (o := 0) (v := .agg #[.int .i64 y.at_, .int .i64 y.size, .int .i64 y.kind, .int .i64 y.owner, .int .i64 y.mod]) tk24 rfl (psAt 0 rfl) rfl rfl) ?_
      simp only [List.setIfInBounds_toArray, List.set_cons_succ, List.set_cons_zero]
      refine aB_s 8 rfl (by kernel_rfl) true rfl rfl (fun _ => qa_neq (by kernel_rfl) (by kernel_rfl) (by kernel_rfl) (fun w => ar_fields (a := x) (b := y) w) rfl rfl) ?_
      simp only [List.setIfInBounds_toArray, List.set_cons_succ, List.set_cons_zero]
      refine aB_nil (by kernel_rfl) ?_
      refine thn_n ?_
      refine awp_cond _ rfl (fun h3 => ?_) (fun h3 => ?_)
      · skip
        refine awp_seq ?_
        refine awp_region ?_
        refine aL_s true rfl rfl (fun _ => q_assign rfl) ?_
        refine aL_nil ?_
        refine thn_n ?_
        refine awp_ret ?_
        refine blk_r ?_
        refine thn_r ?_
        refine thn_r ?_
        refine blk_r ?_
        refine thn_r ?_
        refine fin1 [] [] rfl Try.results22 rfl ?_ (.inr rfl)
        refine congrArg Value.bool ?_
        symm; rw [decide_eq_false_iff_not]
        intro e
        rw [e, hy] at hx
        injection hx with hx
        rw [hx] at h3; simp at h3
      · skip
        refine awp_skip ?_
        refine blk_n ?_
        refine thn_n ?_
        refine awp_region ?_
        refine aL_s true rfl rfl (fun _ => q_move rfl) ?_
        refine aL_s true rfl rfl (fun _ => q_addi rfl rfl (by omega)) ?_
        refine aL_s true rfl rfl (fun _ => q_assign rfl) ?_
        refine aL_nil ?_
        refine thn_n ?_
        refine ⟨[0, 1, 4, 5], [1, 0], [], rfl, ?_⟩
        refine ⟨k + 1, ⟨⟨by omega, ?_⟩, rfl⟩, by omega⟩
        have e : x = y := by simpa using h3
        rw [List.take_add_one, List.take_add_one, hx, hy, hok, e]
    · skip
      refine awp_exit ?_
      refine thn_e ?_
      refine thn_e ?_
      refine blk_hit ?_
      refine thn_n ?_
      refine awp_seq ?_
      refine awp_region ?_
      refine aL_s true rfl rfl (fun _ => q_assign rfl) ?_
      refine aL_nil ?_
      refine thn_n ?_
      refine awp_ret ?_
      refine fin1 [] [] rfl Try.results22 rfl ?_ (.inr rfl)
      refine congrArg Value.bool ?_
      symm; rw [decide_eq_true_eq]
      rw [List.take_of_length_le (by simp at h2; omega), List.take_of_length_le (by simp at h2; omega)] at hok
      exact hok
end Go.Proofs.Ytlhbnpahplpobaa
namespace Go.Proofs.Ytlhbnpahplpobaa
open Go.RowKit Go.Lp Go.Sy
section
variable {P : Program} {n : Nat} {s : Sta} {d : Option Tmp} {ty : TypeId} {pos : String} {af : Array Edge} {gd : Option (Nat × Bool)} {x y : Operand} {t t' : TypeId}
theorem qs_eqlS {a : ByteArray} (h : ev s.env x = some (true, .string a) ∧ ev s.env y = some (true, .string a)) : Quiet P n ⟨d, .binOp .eql t x y t', ty, pos, af, gd⟩ s (.bool true) := by
  have := qs_eql (P := P) (n := n) (d := d) (ty := ty) (pos := pos) (af := af) (gd := gd) (t := t) (t' := t') h.1 h.2
  rwa [show (a.toList == a.toList) = true by simp] at this
theorem q_eqlS {a : Int} {k : IntKind} (h : ev s.env x = some (true, .int k a) ∧ ev s.env y = some (true, .int k a)) : Quiet P n ⟨d, .binOp .eql t x y t', ty, pos, af, gd⟩ s (.bool true) := by
  have := q_eql (P := P) (n := n) (d := d) (ty := ty) (pos := pos) (af := af) (gd := gd) (t := t) (t' := t') h.1 h.2
  rwa [show decide (a = a) = true by simp] at this
end
theorem few_len30' {l : List Deed} (h : fewB l = true) : l.length ≤ 30 := by
  unfold fewB at h
  simp only [Bool.and_eq_true, Bool.not_eq_true', decide_eq_false_iff_not] at h
  omega
def runM (M : Mem) (l : List Deed) : Mem := l.foldl (fun M d => (doM M d).1) M
theorem runM_succ {M : Mem} {l : List Deed} {k : Nat} {d : Deed} (h : l[k]? = some d) : runM M (l.take (k + 1)) = (doM (runM M (l.take k)) d).1 := by
  unfold runM; rw [List.take_add_one, h]; simp
theorem runM_len (l : List Deed) (M : Mem) : (runM M l).length ≤ M.length + l.length := by
  induction l generalizing M with
  | nil => simp [runM]
  | cons d l ih => have := ih (doM M d).1; have := doM_len M d; simp only [runM, List.foldl_cons, List.length_cons] at *; omega
theorem copies_C (l m : List Deed) (ad am : Option Addr) (c cm : Nat) (hl : ∀ d ∈ l, DeedOk d) (hm : ∀ d ∈ m, DeedOk d) (at_ : Int) (hat : I64 at_) (size : Int) (hs : I64 size) (hf : fewB l = true) (hfm : fewB m = true) :
    Con Try.prog 7 [.slice ad l.length c, .slice am m.length cm, .int .i64 at_, .int .i64 size] [Sh (.slice ad l.length c) (.sl (l.map deedRow)), Sh (.slice am m.length cm) (.sl (m.map deedRow))] [] fun r _ _ => r = .bool true := by
  have HL := Lib.hid hl
  have HM := Lib.hid hm
  clear hl hm
  refine Con.enter Try.func7 rfl (by simp [Try.ntmps7]) ?_
  show awp _ _ _ _ ⟨[(0, true, _), (1, true, _), (2, true, _), (3, true, _)], _, _⟩
  refine awp_len 0 rfl (fun hla => awp_len 1 rfl (fun hlb => ?_))
  refine awp_seq ?_
  refine awp_region ?_
  refine aL_s true rfl rfl (fun _ => q_assign rfl) ?_
  refine aL_nil ?_
  refine thn_n ?_
  refine awp_seq ?_
  refine awp_region ?_
  refine aL_s true rfl rfl (fun _ => q_call (by kernel_rfl) rfl (fun w S fp hst => small_fn.quiet0 hst)) ?_
  refine aL_s true rfl rfl (fun _ => q_assign rfl) ?_
  refine aL_nil ?_
  refine thn_n ?_
  refine awp_seq ?_
  refine awp_seq ?_
  refine awp_region ?_
  refine aL_s true rfl rfl (fun _ => q_move rfl) ?_
  refine aL_s true rfl rfl (fun _ => q_call (by kernel_rfl) rfl (fun w S fp hst => ret_eq ((few_fn l ad c).quiet1 (psAt 0 rfl) hst) (congrArg Value.bool hf))) ?_
  refine aL_s true rfl rfl (fun _ => q_not rfl) ?_
  refine aL_s true rfl rfl (fun _ => q_move rfl) ?_
  refine aL_s _ rfl rfl (fun hc => q_move rfl) ?_
  refine aL_s _ rfl rfl (fun hc => q_call (by kernel_rfl) (evs_cons (ev_yes rfl hc) rfl) (fun w S fp hst => ret_eq ((few_fn m am cm).quiet1 (psAt 1 rfl) hst) (congrArg Value.bool hfm))) ?_
  refine aL_s _ rfl rfl (fun hc => q_not (ev_yes rfl hc)) ?_
  refine aL_s true rfl rfl (fun _ => q_or rfl rfl (fun h => gf rfl h)) ?_
  refine aL_s true rfl rfl (fun _ => q_move rfl) ?_
  refine aL_s _ rfl rfl (fun hc => q_move rfl) ?_
  refine aL_s _ rfl rfl (fun hc => q_lenS Try.underlying22 (ev_yes rfl hc)) ?_
  refine aL_s _ rfl rfl (fun hc => q_gtr (ev_yes rfl hc) rfl) ?_
  refine aL_s true rfl rfl (fun _ => q_or rfl rfl (fun h => gf rfl h)) ?_
  refine aL_s true rfl rfl (fun _ => q_move rfl) ?_
  refine aL_s _ rfl rfl (fun hc => q_move rfl) ?_
  refine aL_s _ rfl rfl (fun hc => q_lenS Try.underlying22 (ev_yes rfl hc)) ?_
  refine aL_s _ rfl rfl (fun hc => q_gtr (ev_yes rfl hc) rfl) ?_
  refine aL_s true rfl rfl (fun _ => q_or rfl rfl (fun h => gf rfl h)) ?_
  refine aL_s true rfl rfl (fun _ => q_move rfl) ?_
  refine aL_s _ rfl rfl (fun hc => q_move rfl) ?_
  refine aL_s _ rfl rfl (fun hc => q_gtr (ev_yes rfl hc) rfl) ?_
  refine aL_s true rfl rfl (fun _ => q_or rfl rfl (fun h => gf rfl h)) ?_
  refine aL_nil ?_
  refine thn_n ?_
  refine awp_cond _ rfl (fun h1 => ?_) (fun h1 => ?_)
  · skip
    refine awp_seq ?_
    refine awp_region ?_
    refine aL_s true rfl rfl (fun _ => q_move rfl) ?_
    refine aL_s true rfl rfl (fun _ => q_assign rfl) ?_
    refine aL_nil ?_
    refine thn_n ?_
    refine awp_ret ?_
    refine thn_r ?_
    refine fin1 [] [] rfl Try.results7 rfl ?_ (.inr rfl)
    rfl
  · skip
    have hlen : l.length ≤ 15 := by simp at h1; omega
    have hlenm : m.length ≤ 15 := by simp at h1; omega
    refine awp_skip ?_
    refine thn_n ?_
    refine awp_seq ?_
    refine awp_region ?_
    refine aL_s true rfl rfl (fun _ => q_move rfl) ?_
    refine aL_eff (q := true) rfl (e_call [1] [] (by kernel_rfl) rfl rfl rfl rfl (fill_fn l ad c HL.out (by omega)) ?_)
    rintro v ps' hp' ⟨rfl, p, rfl, rfl⟩
    refine aL_s true rfl rfl (fun _ => q_assign rfl) ?_
    refine aL_nil ?_
    refine thn_n ?_
    refine awp_seq ?_
    have hMl : (fillM l).length ≤ 15 := Nat.le_trans (fillM_len l) hlen
    refine awp_region ?_
    refine aL_s true rfl rfl (fun _ => q_move rfl) ?_
    refine aL_eff (q := false) rfl (e_call [] [0] (by kernel_rfl) rfl rfl rfl rfl (copy_con p (fillM l)) ?_)
    rintro v ps' hp' ⟨rfl, q, rfl, rfl⟩
    refine aL_s true rfl rfl (fun _ => q_assign rfl) ?_
    refine aL_nil ?_
    refine thn_n ?_
    refine awp_seq ?_
    refine awp_seq ?_
    refine awp_region ?_
    refine aL_s true rfl rfl (fun _ => q_move rfl) ?_
    refine aL_s true rfl rfl (fun _ => q_ptrNil (by kernel_rfl) rfl) ?_
    refine aL_nil ?_
    refine thn_n ?_
    refine awp_cond _ rfl (fun h2 => ?_) (fun h2 => ?_)
    · skip
      exact absurd h2 (by simp)
    · skip
      refine awp_skip ?_
      refine thn_n ?_
      refine awp_seq ?_
      refine awp_region ?_
      refine aL_s true rfl rfl (fun _ => q_move rfl) ?_
      refine aL_eff (q := true) rfl (e_call [1] [] (by kernel_rfl) rfl rfl rfl rfl (fill_fn l ad c HL.out (by omega)) ?_)
      rintro v ps' hp' ⟨rfl, t, rfl, rfl⟩
      refine aL_s true rfl rfl (fun _ => q_assign rfl) ?_
      refine aL_nil ?_
      refine thn_n ?_
      refine awp_seq ?_
      refine awp_seq ?_
      refine awp_region ?_
      refine aL_s true rfl rfl (fun _ => q_assign rfl) ?_
      refine aL_nil ?_
      refine thn_n ?_
      refine awp_block ?_
      refine awp_loopK [0, 1, 2, 3, 8, 9, 10, 11, 12, 13] [1, 0] [0, 1, 2] (fun (k : Nat) s => k ≤ m.length ∧ s = ⟨[(0, true, .slice ad l.length c), (1, true, .slice am m.length cm), (2, true, .int .i64 at_), (3, true, .int .i64 size), (8, true, .bool false), (9, true, .bool true), (10, true, .pointer (some ⟨p, 0, none⟩)), (11, true, .pointer (some ⟨q, 0, none⟩)), (12, true, .pointer (some ⟨t, 0, none⟩)), (13, true, .int .i64 k)], [Sh (.slice ad l.length c) (.sl (l.map deedRow)), Sh (.slice am m.length cm) (.sl (m.map deedRow))], [SpR p (runM (fillM l) (m.take k)), SpR q (fillM l), SpR t (runM (fillM l) (m.take k))]⟩) (fun k => m.length - k) rfl (⟨0, Nat.zero_le _, rfl⟩) ?_
      rintro k s ⟨hk, rfl⟩
      refine awp_seq ?_
      refine awp_seq ?_
      refine awp_region ?_
      refine aL_s true rfl rfl (fun _ => q_move rfl) ?_
      refine aL_s true rfl rfl (fun _ => q_move rfl) ?_
      refine aL_s true rfl rfl (fun _ => q_lenS Try.underlying22 rfl) ?_
      refine aL_s true rfl rfl (fun _ => q_lss rfl rfl) ?_
      refine aL_nil ?_
      refine thn_n ?_
      refine awp_cond _ rfl (fun h3 => ?_) (fun h3 => ?_)
      · skip
        have hk' : k < m.length := by simpa using h3
        obtain ⟨x, hx⟩ : ∃ x, m[k]? = some x := ⟨m[k]'hk', by simp⟩
        have hrl := runM_len (m.take k) (fillM l)
        have htl : (m.take k).length ≤ m.length := List.length_take_le' _ _
        have hok := HM.out x (List.mem_of_getElem? hx)
        refine awp_skip ?_
        refine thn_n ?_
        refine awp_seq ?_
        refine awp_block ?_
        refine awp_seq ?_
        refine awp_region ?_
        refine aL_s true rfl rfl (fun _ => q_move rfl) ?_
        refine aL_s true rfl rfl (fun _ => q_move rfl) ?_
        refine aL_s true rfl rfl (fun _ => q_move rfl) ?_
        refine aL_E true rfl rfl (fun _ => q_indexAddr Try.underlying22 tk26 rfl (psAt 1 rfl) rfl (row := deedRow x) (by simp [hx]) rfl rfl) (fun h => absurd h (by decide)) (fun ⟨b12_3, o12_3⟩ => ?_)
        refine aL_s true rfl rfl (fun _ => q_loadD (o := 0) (v := .agg #[.int .i64 x.do_, .int .i64 x.a.at_, .int .i64 x.a.size, .int .i64 x.a.kind, .int .i64 x.a.owner, .int .i64 x.a.mod, .int .i64 x.at_, .int .i64 x.size, .int .i64 x.n, .string x.b]) tk26 rfl (psAt 0 rfl) rfl rfl) ?_
        refine aL_eff (q := false) rfl (e_call [] [0] (by kernel_rfl) rfl rfl rfl rfl (do_fn p _ x hok (by omega)) ?_)
        rintro v ps' hp' ⟨rfl, rfl, rfl⟩
        refine aL_s true rfl rfl (fun _ => q_move rfl) ?_
        refine aL_s true rfl rfl (fun _ => q_extract rfl rfl) ?_
        refine aL_s true rfl rfl (fun _ => q_extract rfl rfl) ?_
        refine aL_s true rfl rfl (fun _ => q_extract rfl rfl) ?_
        refine aL_s true rfl rfl (fun _ => q_assign rfl) ?_
        refine aL_s true rfl rfl (fun _ => q_assign rfl) ?_
        refine aL_s true rfl rfl (fun _ => q_assign rfl) ?_
        refine aL_nil ?_
        refine thn_n ?_
        refine awp_seq ?_
        refine awp_region ?_
        refine aL_s true rfl rfl (fun _ => q_move rfl) ?_
        refine aL_s true rfl rfl (fun _ => q_move rfl) ?_
        refine aL_s true rfl rfl (fun _ => q_move rfl) ?_
        refine aL_E true rfl rfl (fun _ => q_indexAddr Try.underlying22 tk26 rfl (psAt 2 rfl) rfl (row := deedRow x) (by simp [hx]) rfl rfl) (fun h => absurd h (by decide)) (fun ⟨b13_3, o13_3⟩ => ?_)
        refine aL_s true rfl rfl (fun _ => q_loadD (o := 0) (v := .agg #[.int .i64 x.do_, .int .i64 x.a.at_, .int .i64 x.a.size, .int .i64 x.a.kind, .int .i64 x.a.owner, .int .i64 x.a.mod, .int .i64 x.at_, .int .i64 x.size, .int .i64 x.n, .string x.b]) tk26 rfl (psAt 0 rfl) rfl rfl) ?_
        refine aL_eff (q := false) rfl (e_call [] [2] (by kernel_rfl) rfl rfl rfl rfl (do_fn t _ x hok (by omega)) ?_)
        rintro v ps' hp' ⟨rfl, rfl, rfl⟩
        refine aL_s true rfl rfl (fun _ => q_move rfl) ?_
        refine aL_s true rfl rfl (fun _ => q_extract rfl rfl) ?_
        refine aL_s true rfl rfl (fun _ => q_extract rfl rfl) ?_
        refine aL_s true rfl rfl (fun _ => q_extract rfl rfl) ?_
        refine aL_s true rfl rfl (fun _ => q_assign rfl) ?_
        refine aL_s true rfl rfl (fun _ => q_assign rfl) ?_
        refine aL_s true rfl rfl (fun _ => q_assign rfl) ?_
        refine aL_nil ?_
        refine thn_n ?_
        refine awp_seq ?_
        refine awp_region ?_
        refine aL_s true rfl rfl (fun _ => q_move rfl) ?_
        refine aL_s true rfl rfl (fun _ => q_move rfl) ?_
        refine aL_s true rfl rfl (fun _ => q_neq rfl rfl) ?_
        refine aL_s true rfl rfl (fun _ => q_move rfl) ?_
        refine aL_s _ rfl rfl (fun hc => q_move rfl) ?_
        refine aL_s _ rfl rfl (fun hc => q_move rfl) ?_
        refine aL_s _ rfl rfl (fun hc => qs_neq (ev_yes rfl hc) (ev_yes rfl hc)) ?_
        refine aL_s true rfl rfl (fun _ => q_or rfl rfl (fun h => gf rfl h)) ?_
        refine aL_s true rfl rfl (fun _ => q_move rfl) ?_
        refine aL_s _ rfl rfl (fun hc => q_move rfl) ?_
        refine aL_s _ rfl rfl (fun hc => q_move rfl) ?_
        refine aL_s _ rfl rfl (fun hc => q_neq (ev_yes rfl hc) (ev_yes rfl hc)) ?_
        refine aL_s true rfl rfl (fun _ => q_or rfl rfl (fun h => gf rfl h)) ?_
        refine aL_nil ?_
        refine thn_n ?_
        refine awp_cond _ rfl (fun h4 => ?_) (fun h4 => ?_)
        · skip
          refine awp_seq ?_
          refine awp_region ?_
          refine aL_s true rfl rfl (fun _ => q_assign rfl) ?_
          refine aL_nil ?_
          refine thn_n ?_
          refine awp_ret ?_
          refine blk_r ?_
          refine thn_r ?_
          refine thn_r ?_
          refine blk_r ?_
          refine thn_r ?_
          refine fin1 [] [] rfl Try.results7 rfl ?_ (.inr rfl)
          exact absurd h4 (by simp)
        · skip
          refine awp_skip ?_
          refine blk_n ?_
          refine thn_n ?_
          refine awp_region ?_
          refine aL_s true rfl rfl (fun _ => q_move rfl) ?_
          refine aL_s true rfl rfl (fun _ => q_addi rfl rfl (by omega)) ?_
          refine aL_s true rfl rfl (fun _ => q_assign rfl) ?_
          refine aL_nil ?_
          refine thn_n ?_
          refine ⟨[0, 1, 2, 3, 8, 9, 10, 11, 12, 13], [1, 0], [0, 1, 2], rfl, ?_⟩
          refine ⟨k + 1, ⟨by omega, ?_⟩, by omega⟩
          rw [runM_succ hx]; rfl
      · skip
        refine awp_exit ?_
        refine thn_e ?_
        refine thn_e ?_
        refine blk_hit ?_
        refine thn_n ?_
        refine awp_seq ?_
        refine awp_region ?_
        refine aL_s true rfl rfl (fun _ => q_move rfl) ?_
        refine aL_eff (q := true) rfl (e_call [1] [] (by kernel_rfl) rfl rfl rfl rfl (fill_fn l ad c HL.out (by omega)) ?_)
        rintro v ps' hp' ⟨rfl, u, rfl, rfl⟩
        refine aL_s true rfl rfl (fun _ => q_assign rfl) ?_
        refine aL_nil ?_
        refine thn_n ?_
        refine awp_seq ?_
        refine awp_region ?_
        refine aL_s true rfl rfl (fun _ => q_move rfl) ?_
        refine aL_s true rfl rfl (fun _ => q_move rfl) ?_
        refine aL_s true rfl rfl (fun _ => q_move rfl) ?_
        refine aL_s true rfl rfl (fun _ => q_call (by kernel_rfl) rfl (fun w S fp hst => q_spread hst 1 rfl at_ size hat)) ?_
        refine aL_s true rfl rfl (fun _ => q_move rfl) ?_
        refine aL_s true rfl rfl (fun _ => q_extract rfl rfl) ?_
        refine aL_s true rfl rfl (fun _ => q_extract rfl rfl) ?_
        refine aL_s true rfl rfl (fun _ => q_assign rfl) ?_
        refine aL_s true rfl rfl (fun _ => q_assign rfl) ?_
        refine aL_nil ?_
        refine thn_n ?_
        refine awp_seq ?_
        refine awp_region ?_
        refine aL_s true rfl rfl (fun _ => q_move rfl) ?_
        refine aL_s true rfl rfl (fun _ => q_move rfl) ?_
        refine aL_s true rfl rfl (fun _ => q_move rfl) ?_
        refine aL_s true rfl rfl (fun _ => q_call (by kernel_rfl) rfl (fun w S fp hst => q_spread hst 3 rfl at_ size hat)) ?_
        refine aL_s true rfl rfl (fun _ => q_move rfl) ?_
        refine aL_s true rfl rfl (fun _ => q_extract rfl rfl) ?_
        refine aL_s true rfl rfl (fun _ => q_extract rfl rfl) ?_
        refine aL_s true rfl rfl (fun _ => q_assign rfl) ?_
        refine aL_s true rfl rfl (fun _ => q_assign rfl) ?_
        refine aL_nil ?_
        refine thn_n ?_
        refine awp_seq ?_
        refine awp_region ?_
        refine aL_s true rfl rfl (fun _ => q_move rfl) ?_
        refine aL_s true rfl rfl (fun _ => q_move rfl) ?_
        refine aL_s _ rfl rfl (fun hc => q_move rfl) ?_
        refine aL_s _ rfl rfl (fun hc => q_move rfl) ?_
        refine aL_s _ rfl rfl (fun hc => qs_eqlS ⟨rfl, rfl⟩) ?_
        refine aL_s true rfl rfl (fun _ => q_and rfl rfl (fun h => gt rfl h)) ?_
        refine aL_s true rfl rfl (fun _ => q_move rfl) ?_
        refine aL_s _ rfl rfl (fun hc => q_move rfl) ?_
        refine aL_s _ rfl rfl (fun hc => q_move rfl) ?_
        refine aL_s _ rfl rfl (fun hc => q_eqlS ⟨rfl, rfl⟩) ?_
        refine aL_s true rfl rfl (fun _ => q_and rfl rfl (fun h => gt rfl h)) ?_
        refine aL_s true rfl rfl (fun _ => q_move rfl) ?_
        refine aL_s _ rfl rfl (fun hc => q_move rfl) ?_
        refine aL_eff (q := false) rfl (e_call [] [1] (by kernel_rfl) rfl rfl rfl rfl (areas_con q (fillM l)) ?_)
        rintro v ps' hp' ⟨rfl, a1, c1, rfl, rfl⟩
        refine aL_s _ rfl rfl (fun hc => q_move rfl) ?_
        refine aL_eff (q := false) rfl (e_call [] [3] (by kernel_rfl) rfl rfl rfl rfl (areas_con u (fillM l)) ?_)
        rintro v ps' hp' ⟨rfl, a2, c2, rfl, rfl⟩
        refine aL_s _ rfl rfl (fun hc => q_call (by kernel_rfl) (evs_cons (ev_yes rfl hc) (evs_cons (ev_yes rfl hc) rfl)) (fun w S fp hst => ret_eq (v := .bool _) ((same_fn _ _ a1 a2 c1 c2).quiet (fun z hz => by rcases List.mem_cons.1 hz with rfl | hz; exact .tail _ (.head _); rw [List.mem_singleton.1 hz]; exact .head _) (st_share (st_share hst 4 rfl) 5 rfl)) (congrArg Value.bool (decide_eq_true rfl)))) ?_
        refine aL_s true rfl rfl (fun _ => q_and rfl rfl (fun h => gt rfl h)) ?_
        refine aL_s true rfl rfl (fun _ => q_move rfl) ?_
        refine aL_s _ rfl rfl (fun hc => q_move rfl) ?_
        refine aL_eff (q := false) rfl (e_call [] [0] (by kernel_rfl) rfl rfl rfl rfl (areas_con p (runM (fillM l) (m.take k))) ?_)
        rintro v ps' hp' ⟨rfl, a3, c3, rfl, rfl⟩
        refine aL_s _ rfl rfl (fun hc => q_move rfl) ?_
        refine aL_eff (q := false) rfl (e_call [] [2] (by kernel_rfl) rfl rfl rfl rfl (areas_con t (runM (fillM l) (m.take k))) ?_)
        rintro v ps' hp' ⟨rfl, a4, c4, rfl, rfl⟩
        refine aL_s _ rfl rfl (fun hc => q_call (by kernel_rfl) (evs_cons (ev_yes rfl hc) (evs_cons (ev_yes rfl hc) rfl)) (fun w S fp hst => ret_eq (v := .bool _) ((same_fn _ _ a3 a4 c3 c4).quiet (fun z hz => by rcases List.mem_cons.1 hz with rfl | hz; exact .tail _ (.head _); rw [List.mem_singleton.1 hz]; exact .head _) (st_share (st_share hst 6 rfl) 7 rfl)) (congrArg Value.bool (decide_eq_true rfl)))) ?_
        refine aL_s true rfl rfl (fun _ => q_and rfl rfl (fun h => gt rfl h)) ?_
        refine aL_s true rfl rfl (fun _ => q_assign rfl) ?_
        refine aL_nil ?_
        refine thn_n ?_
        refine awp_ret ?_
        refine fin1 [] [] rfl Try.results7 rfl ?_ (.inr rfl)
        rfl
theorem copies_A (l m : List Deed) (ad am : Option Addr) (c cm : Nat) (at_ size : Int) (hf : fewB l = false) :
    Con Try.prog 7 [.slice ad l.length c, .slice am m.length cm, .int .i64 at_, .int .i64 size] [Sh (.slice ad l.length c) (.sl (l.map deedRow)), Sh (.slice am m.length cm) (.sl (m.map deedRow))] [] fun r _ _ => r = .bool true := by
  refine Con.enter Try.func7 rfl (by simp [Try.ntmps7]) ?_
  show awp _ _ _ _ ⟨[(0, true, _), (1, true, _), (2, true, _), (3, true, _)], _, _⟩
  refine awp_len 0 rfl (fun hla => awp_len 1 rfl (fun hlb => ?_))
  refine awp_seq ?_
  refine awp_region ?_
  refine aL_s true rfl rfl (fun _ => q_assign rfl) ?_
  refine aL_nil ?_
  refine thn_n ?_
  refine awp_seq ?_
  refine awp_region ?_
  refine aL_s true rfl rfl (fun _ => q_call (by kernel_rfl) rfl (fun w S fp hst => small_fn.quiet0 hst)) ?_
  refine aL_s true rfl rfl (fun _ => q_assign rfl) ?_
  refine aL_nil ?_
  refine thn_n ?_
  refine awp_seq ?_
  refine awp_seq ?_
  refine awp_region ?_
  refine aL_s true rfl rfl (fun _ => q_move rfl) ?_
  refine aL_s true rfl rfl (fun _ => q_call (by kernel_rfl) rfl (fun w S fp hst => ret_eq ((few_fn l ad c).quiet1 (psAt 0 rfl) hst) (congrArg Value.bool hf))) ?_
  refine aL_s true rfl rfl (fun _ => q_not rfl) ?_
  refine aL_s true rfl rfl (fun _ => q_move rfl) ?_
  refine aL_s (v := .bool false) false rfl rfl (fun h => (by cases h)) ?_
  refine aL_s (v := .bool false) false rfl rfl (fun h => (by cases h)) ?_
  refine aL_s (v := .bool false) false rfl rfl (fun h => (by cases h)) ?_
  refine aL_s true rfl rfl (fun _ => q_or rfl rfl (fun h => gf rfl h)) ?_
  refine aL_s true rfl rfl (fun _ => q_move rfl) ?_
  refine aL_s (v := .bool false) false rfl rfl (fun h => (by cases h)) ?_
  refine aL_s (v := .bool false) false rfl rfl (fun h => (by cases h)) ?_
  refine aL_s (v := .bool false) false rfl rfl (fun h => (by cases h)) ?_
  refine aL_s true rfl rfl (fun _ => q_or rfl rfl (fun h => gf rfl h)) ?_
  refine aL_s true rfl rfl (fun _ => q_move rfl) ?_
  refine aL_s (v := .bool false) false rfl rfl (fun h => (by cases h)) ?_
  refine aL_s (v := .bool false) false rfl rfl (fun h => (by cases h)) ?_
  refine aL_s (v := .bool false) false rfl rfl (fun h => (by cases h)) ?_
  refine aL_s true rfl rfl (fun _ => q_or rfl rfl (fun h => gf rfl h)) ?_
  refine aL_s true rfl rfl (fun _ => q_move rfl) ?_
  refine aL_s (v := .bool false) false rfl rfl (fun h => (by cases h)) ?_
  refine aL_s (v := .bool false) false rfl rfl (fun h => (by cases h)) ?_
  refine aL_s true rfl rfl (fun _ => q_or rfl rfl (fun h => gf rfl h)) ?_
  refine aL_nil ?_
  refine thn_n ?_
  refine awp_cond _ rfl (fun h1 => ?_) (fun h1 => ?_)
  · skip
    refine awp_seq ?_
    refine awp_region ?_
    refine aL_s true rfl rfl (fun _ => q_move rfl) ?_
    refine aL_s true rfl rfl (fun _ => q_assign rfl) ?_
    refine aL_nil ?_
    refine thn_n ?_
    refine awp_ret ?_
    refine thn_r ?_
    refine fin1 [] [] rfl Try.results7 rfl ?_ (.inr rfl)
    rfl
  · skip
    exact absurd h1 (by simp)
theorem copies_B (l m : List Deed) (ad am : Option Addr) (c cm : Nat) (at_ size : Int) (hf : fewB l = true) (hfm : fewB m = false) :
    Con Try.prog 7 [.slice ad l.length c, .slice am m.length cm, .int .i64 at_, .int .i64 size] [Sh (.slice ad l.length c) (.sl (l.map deedRow)), Sh (.slice am m.length cm) (.sl (m.map deedRow))] [] fun r _ _ => r = .bool true := by
  refine Con.enter Try.func7 rfl (by simp [Try.ntmps7]) ?_
  show awp _ _ _ _ ⟨[(0, true, _), (1, true, _), (2, true, _), (3, true, _)], _, _⟩
  refine awp_len 0 rfl (fun hla => awp_len 1 rfl (fun hlb => ?_))
  refine awp_seq ?_
  refine awp_region ?_
  refine aL_s true rfl rfl (fun _ => q_assign rfl) ?_
  refine aL_nil ?_
  refine thn_n ?_
  refine awp_seq ?_
  refine awp_region ?_
  refine aL_s true rfl rfl (fun _ => q_call (by kernel_rfl) rfl (fun w S fp hst => small_fn.quiet0 hst)) ?_
  refine aL_s true rfl rfl (fun _ => q_assign rfl) ?_
  refine aL_nil ?_
  refine thn_n ?_
  refine awp_seq ?_
  refine awp_seq ?_
  refine awp_region ?_
  refine aL_s true rfl rfl (fun _ => q_move rfl) ?_
  refine aL_s true rfl rfl (fun _ => q_call (by kernel_rfl) rfl (fun w S fp hst => ret_eq ((few_fn l ad c).quiet1 (psAt 0 rfl) hst) (congrArg Value.bool hf))) ?_
  refine aL_s true rfl rfl (fun _ => q_not rfl) ?_
  refine aL_s true rfl rfl (fun _ => q_move rfl) ?_
  refine aL_s _ rfl rfl (fun hc => q_move rfl) ?_
  refine aL_s _ rfl rfl (fun hc => q_call (by kernel_rfl) (evs_cons (ev_yes rfl hc) rfl) (fun w S fp hst => ret_eq ((few_fn m am cm).quiet1 (psAt 1 rfl) hst) (congrArg Value.bool hfm))) ?_
  refine aL_s _ rfl rfl (fun hc => q_not (ev_yes rfl hc)) ?_
  refine aL_s true rfl rfl (fun _ => q_or rfl rfl (fun h => gf rfl h)) ?_
  refine aL_s true rfl rfl (fun _ => q_move rfl) ?_
  refine aL_s (v := .bool false) false rfl rfl (fun h => (by cases h)) ?_
  refine aL_s (v := .bool false) false rfl rfl (fun h => (by cases h)) ?_
  refine aL_s (v := .bool false) false rfl rfl (fun h => (by cases h)) ?_
  refine aL_s true rfl rfl (fun _ => q_or rfl rfl (fun h => gf rfl h)) ?_
  refine aL_s true rfl rfl (fun _ => q_move rfl) ?_
  refine aL_s (v := .bool false) false rfl rfl (fun h => (by cases h)) ?_
  refine aL_s (v := .bool false) false rfl rfl (fun h => (by cases h)) ?_
  refine aL_s (v := .bool false) false rfl rfl (fun h => (by cases h)) ?_
  refine aL_s true rfl rfl (fun _ => q_or rfl rfl (fun h => gf rfl h)) ?_
  refine aL_s true rfl rfl (fun _ => q_move rfl) ?_
  refine aL_s (v := .bool false) false rfl rfl (fun h => (by cases h)) ?_
  refine aL_s (v := .bool false) false rfl rfl (fun h => (by cases h)) ?_
  refine aL_s true rfl rfl (fun _ => q_or rfl rfl (fun h => gf rfl h)) ?_
  refine aL_nil ?_
  refine thn_n ?_
  refine awp_cond _ rfl (fun h1 => ?_) (fun h1 => ?_)
  · skip
    refine awp_seq ?_
    refine awp_region ?_
    refine aL_s true rfl rfl (fun _ => q_move rfl) ?_
    refine aL_s true rfl rfl (fun _ => q_assign rfl) ?_
    refine aL_nil ?_
    refine thn_n ?_
    refine awp_ret ?_
    refine thn_r ?_
    refine fin1 [] [] rfl Try.results7 rfl ?_ (.inr rfl)
    rfl
  · skip
    exact absurd h1 (by simp)
theorem spaceCopies_con (l m : List Deed) (ad am : Option Addr) (c cm : Nat) (hl : ∀ d ∈ l, DeedOk d) (hm : ∀ d ∈ m, DeedOk d) (at_ : Int) (hat : I64 at_) (size : Int) (hs : I64 size) :
    Con Try.prog 7 [.slice ad l.length c, .slice am m.length cm, .int .i64 at_, .int .i64 size] [Sh (.slice ad l.length c) (.sl (l.map deedRow)), Sh (.slice am m.length cm) (.sl (m.map deedRow))] [] fun r _ _ => r = .bool true := by
  cases hf : fewB l with
  | false => exact copies_A l m ad am c cm at_ size hf
  | true =>
    cases hfm : fewB m with
    | false => exact copies_B l m ad am c cm at_ size hf hfm
    | true => exact copies_C l m ad am c cm hl hm at_ hat size hs hf hfm
end Go.Proofs.Ytlhbnpahplpobaa
namespace Go.Proofs.Ytlhbnpahplpobaa.spaceCopies
open Go.ChangeShapes Go.WideShapes Go.ChangeAt Go.RowKit
open Go.Lp Go.Sy
open Go.ChangeMaps (open_string shut_string)
theorem own : ownKnob Try.prog.godebug = none := by kernel_rfl
theorem laidOut : laidOutB Try.prog = true := by kernel_rfl
set_option maxRecDepth 100000 in
theorem lifted (os : Os) (started : os.Started) (H : Type) (enc : TypeId × Value → H) :
    ReturnsInHanded {} Try.checked os 7 .any (Rows.spaceCopiesSpec.pre6 enc Try.prog Try.f7 Rows.spaceCopiesRow.domain false) (Rows.spaceCopiesSpec.post enc Try.prog Try.f7 false true false false) := by
  refine returnsInHanded_of_change (C := Try.checked) own started (by kernel_rfl) Try.func7
    (ChangeSpec.witness6 (enc := enc) (C := Try.checked) false ⟨#[], #[.slice none 0 0, .slice none 0 0, .int .i64 0, .int .i64 0], []⟩ 8 (by kernel_rfl) (by kernel_rfl) (by kernel_rfl) (by kernel_rfl)) ?_
  intro W base args ds gs before hval0 hW hcnd _
  have hval : ∀ (j : Nat) t v, Try.f7.params[j]? = some t → args[j]? = some v → Value.okWide Try.prog W .any base t v := hval0
  have hW' := hW
  obtain ⟨p, q, hA0, hV, rfl, hfz, hnd⟩ := hW
  have hA : DataW.TrodAll enc Try.prog W 0 (fun _ => true) true Try.f7.params.toList args.toList ds p := hA0
  rw [Try.params7] at hA hval
  obtain ⟨v0, vs0, d0, ds0, p0, q0, hargs, rfl, rfl, h0, r0⟩ := trodAll_cons hA
  obtain ⟨v1, vs1, d1, ds1, p1, q1, rfl, rfl, rfl, h1, r1⟩ := trodAll_cons r0
  obtain ⟨v2, vs2, d2, ds2, p2, q2, rfl, rfl, rfl, h2, r2⟩ := trodAll_cons r1
  obtain ⟨v3, vs3, d3, ds3, p3, q3, rfl, rfl, rfl, h3, r3⟩ := trodAll_cons r2
  obtain ⟨rfl, rfl, rfl⟩ := trodAll_nil r3
  obtain rfl : args = #[v0, v1, v2, v3] := by cases args; simp_all
  obtain ⟨rfl, rfl⟩ := trodVars_none hV
  obtain ⟨a0, len0, cap0, rfl⟩ := okWide_slice Try.underlying22 (hval 0 22 v0 rfl rfl)
  have k0 := h0
  have lt0 : ∀ x ∈ p0, x.block < W.heap.size := by obtain ⟨m, hm⟩ := k0; exact DataW.trod_lt m _ _ _ hm
  obtain ⟨l, rfl, hl, hrep⟩ : ∃ l : List Deed, len0 = l.length ∧ (∀ d ∈ l, DeedOk d) ∧ RepD W (fun b => b < W.heap.size) (.slice a0 l.length cap0) (.sl (l.map deedRow)) := by
    obtain ⟨fuel, hf⟩ := h0
    exact slice_in (k := 3) Try.underlying22 (by kernel_rfl) (fun r => deed_of) (by simpa [Value.cells] using hf)
  obtain ⟨a1, len1, cap1, rfl⟩ := okWide_slice Try.underlying22 (hval 1 22 v1 rfl rfl)
  have k1 := h1
  have lt1 : ∀ x ∈ p1, x.block < W.heap.size := by obtain ⟨m, hm⟩ := k1; exact DataW.trod_lt m _ _ _ hm
  obtain ⟨m, rfl, hm, hrep1⟩ : ∃ l : List Deed, len1 = l.length ∧ (∀ d ∈ l, DeedOk d) ∧ RepD W (fun b => b < W.heap.size) (.slice a1 l.length cap1) (.sl (l.map deedRow)) := by
    obtain ⟨fuel, hf⟩ := h1
    exact slice_in (k := 3) Try.underlying22 (by kernel_rfl) (fun r => deed_of) (by simpa [Value.cells] using hf)
  obtain ⟨a2, rfl, rfl, rfl, w2⟩ := open_int Try.underlying3 (hval 2 3 v2 rfl rfl) h2
  obtain ⟨a3, rfl, rfl, rfl, w3⟩ := open_int Try.underlying3 (hval 3 3 v3 rfl rfl) h3
  clear hA0 hval0
  have hc := (spaceCopies_con l m a0 a1 cap0 cap1 hl hm a2 (wf64 w2) a3 (wf64 w3)).quiet (fun _ h => h) (st_in (w := W) (ps := [Sh (.slice a0 l.length cap0) (.sl (l.map deedRow)), Sh (.slice a1 m.length cap1) (.sl (m.map deedRow))]) fun p hp => by
    rcases List.mem_cons.1 hp with rfl | hp
    · exact hrep
    · rw [List.mem_singleton.1 hp]; exact hrep1)
  refine hc.mono fun e W' ⟨he, bel⟩ => ?_
  subst he
  exact ⟨_, rfl, _, _, _, [], _, [], hW', trodAll_mk1 (shut_bool Try.underlying4 _), (trodAll_cons_mk (Below.trod laidOut (by kernel_rfl) (of_decide_eq_true (by kernel_rfl)) k0 bel lt0) (trodAll_cons_mk (Below.trod laidOut (by kernel_rfl) (of_decide_eq_true (by kernel_rfl)) k1 bel lt1) (trodAll_cons_mk (shut_int Try.underlying3 w2) (trodAll_cons_mk (shut_int Try.underlying3 w3) trodAll_mk0)))), rfl, bel.frame _, fun h => by cases h⟩
theorem over : Rows.spaceCopiesRow.holds Try.pinned (OpenSpec.ofChange Rows.spaceCopiesSpec) :=
  OpenClaim.holds_of_wide 7 Try.f7 rfl rfl rfl rfl rfl rfl rfl ⟨rfl, rfl, rfl, rfl, rfl⟩ rfl rfl rfl rfl rfl (by kernel_rfl) Try.func7 (by kernel_rfl)
    (of_decide_eq_true (by kernel_rfl)) (by unfold Func.isWrapper; first | (rw [if_pos (by decide +kernel)]; kernel_rfl) | (rw [if_neg (by decide +kernel)]; exact ⟨rfl, rfl⟩))
    (fun os started H enc _ => lifted os started H enc)
theorem proved : Rows.SpaceCopiesSaid := over
end Go.Proofs.Ytlhbnpahplpobaa.spaceCopies
