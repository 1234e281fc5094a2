/- The machine's instructions: their contracts. Printed by mkmach.py. -/
import Derived.Test.YtpgcoceggacplaaGreatDoorSyWrap
import Derived.Laws.Cover3
import Derived.Lib.Bytealg
import Derived.Laws.Externs
import Derived.Laws.Concat
import Derived.Laws.Slices
import Derived.Laws.BytesString
import Derived.Laws.StructEq
import Derived.Laws.Small
import Derived.ChangeKeysEq
import Derived.Test.YtpgcoceggacplaaGreatDoorLpMem
import Derived.Test.YtpgcoceggacplaaGreatDoorSySpMap
set_option linter.unusedVariables false
set_option linter.unusedSimpArgs false
set_option maxRecDepth 20000
namespace Go.Sy
open Go.RowKit
section
variable {P : Program} {n : Nat} {s : Sta} {d : Option Tmp} {ty : TypeId} {pos : String} {af : Array Edge} {gd : Option (Nat × Bool)} {x : Operand} {T t' : TypeId}
theorem qn_eql {E : TypeId} {ad : Option Addr} {k c : Nat} (hT : P.underlying T = some (.slice E)) (hx : ev s.env x = some (true, .slice ad k c)) : Quiet P n ⟨d, .binOp .eql T x (.const (.slice none 0 0)) t', ty, pos, af, gd⟩ s (.bool ad.isNone) :=
  .run2 (vy := .slice none 0 0) hx rfl fun ρ w h1 h2 => by
    unfold execOp; dsimp only; rw [h1, h2]
    simp only [eqGuard_at_slice, binOp, Sem.run_bind, Sem.run_pure, run_equal_slice_nil w T E ad k c hT, Result.andThen_ok]
end
section
variable {P : Program} {n : Nat} {env : Env} {ps : List Per} {hp : List Res} {ty : TypeId} {pos : String} {af : Array Edge} {gd : Option (Nat × Bool)} {q : Bool} {K : Sta → Prop}
/-- a slice literal of no element -/
theorem w_lit0 {t : Nat} {T E : TypeId} {sz : Nat} (hel : elB P T E sz = true) (ht : fits n (some t) = true)
    (hK : ∀ ad, K ⟨(t, true, .slice ad 0 0) :: env, ps, hp ++ [OwnS (.slice ad 0 0) E sz []]⟩) :
    Eff P n ⟨some t, .buildSlice T 0 #[], ty, pos, af, gd⟩ ⟨env, ps, hp⟩ q K := .push fun w S fp a hst he hn => by
  obtain ⟨hT, it, hi, h3, h4, h5⟩ := elB_spec hel
  have : (execOp a.eval ⟨some t, .buildSlice T 0 #[], ty, pos, af, gd⟩).run P w = .ok (.value (.slice (some ⟨w.heap.size, 0, none⟩) 0 0)) (w.alloc (.cells #[] E)) := by
    show ((Instr.buildSlice T 0 ((#[] : Array (Nat × Operand)).map fun (i, x) => (i, a.eval x))).bind fun r => Sem.pure (Next.value r)).run P w = _
    have hrun : (Instr.buildSlice T 0 #[]).run P w = .ok (.slice (some ⟨w.heap.size, 0, none⟩) 0 0) (w.alloc (.cells #[] E)) := by
      simp [Instr.buildSlice, run_underlying hT, sizeOf, typeInfo, hi, newRow, Instr.fill, show Array.range 0 = #[] by decide]
    rw [Array.map_empty, Sem.run_bind', hrun]; rfl
  rw [this]
  refine ⟨_, fun b => b = w.heap.size, _, hK (some ⟨w.heap.size, 0, none⟩), rfl, rfl, he.put (g := true) (by rw [hn]; simpa [fits] using ht) _, below_new _ _, own_new (cs := []) (RCs.rows .nil hst.per) hst.slt rfl (by unfold maxLen; omega), fun b hb => ?_⟩
  subst hb; simp
end
/-- a fact that follows from the others -/
theorem awp_fact {P : Program} {n : Nat} {env : Env} {ps : List Per} {hp : List Res} {c : Code} {Q : Exit → Sta → Prop} (p : Per) (hf : ∀ w S, (∀ q ∈ ps, q.holds w S) → p.holds w S) (h : awp P n c Q ⟨env, p :: ps, hp⟩) : awp P n c Q ⟨env, ps, hp⟩ := fun w S fp a hst he hn hd =>
  h w S fp a ⟨fun q hq => by
    rcases List.mem_cons.1 hq with rfl | hq
    · exact hf w S hst.per
    · exact hst.per q hq, hst.res, hst.lt, hst.dj, hst.slt⟩ he hn hd
end Go.Sy
namespace Go.Sy
open Go.RowKit Go.Lp
/-- the block of a slice value -/
def blkOf : Value → Nat
  | .slice (some a) _ _ => a.block
  | _ => 0
theorem wrC_get {cs vs : List Value} {o : Nat} (h : o + vs.length ≤ cs.length) (k : Nat) : (wrC cs o vs)[k]? = if k < o then cs[k]? else if k < o + vs.length then vs[k - o]? else cs[k]? := by
  unfold wrC
  simp only [List.getElem?_append, List.length_take, List.getElem?_take, List.getElem?_drop]
  rw [Nat.min_eq_left (by omega)]
  by_cases h1 : k < o
  · simp [h1]
  · by_cases h2 : k < o + vs.length
    · rw [if_neg h1, if_pos (by omega), if_neg h1, if_pos h2]
    · rw [if_neg h1, if_neg (by omega), if_neg h1, if_neg h2]; congr 1; omega
theorem wrC_len {cs vs : List Value} {o : Nat} (h : o + vs.length ≤ cs.length) : (wrC cs o vs).length = cs.length := by
  unfold wrC; simp; omega
theorem wrC_append {cs sp vs : List Value} {o : Nat} (h : o + vs.length ≤ cs.length) : wrC (cs ++ sp) o vs = wrC cs o vs ++ sp := by
  unfold wrC
  rw [List.take_append_of_le_length (by omega), List.drop_append_of_le_length (by omega)]
  simp
/-- a row, partly new -/
def setD (row : List D) (j : Nat) (ds : List D) : List D := row.take j ++ (ds ++ row.drop (j + ds.length))
theorem setD_len {row ds : List D} {j : Nat} (h : j + ds.length ≤ row.length) : (setD row j ds).length = row.length := by
  unfold setD; simp; omega
theorem setD_get {row ds : List D} {j : Nat} (h : j + ds.length ≤ row.length) (k : Nat) : (setD row j ds)[k]? = if k < j then row[k]? else if k < j + ds.length then ds[k - j]? else row[k]? := by
  unfold setD
  simp only [List.getElem?_append, List.length_take, List.getElem?_take, List.getElem?_drop]
  rw [Nat.min_eq_left (by omega)]
  by_cases h1 : k < j
  · simp [h1]
  · by_cases h2 : k < j + ds.length
    · rw [if_neg h1, if_pos (by omega), if_neg h1, if_pos h2]
    · rw [if_neg h1, if_neg (by omega), if_neg h1, if_neg h2]; congr 1; omega
theorem RowsAt.set {w : World} {S : Blks} {sz : Nat} {cs : List Value} {rows : List (List D)} (h : RowsAt w S sz cs rows) {r j : Nat} {row ds : List D} {vs : List Value} (hr : rows[r]? = some row) (hl : vs.length = ds.length) (hj : j + ds.length ≤ sz)
    (h1 : ∀ v ∈ vs, v.oneCell' = true) (hd : ∀ (k : Nat) (d : D), ds[k]? = some d → ∃ u, vs[k]? = some u ∧ RepD w S u d) : RowsAt w S sz (wrC cs (r * sz + j) vs) (rows.set r (setD row j ds)) := by
  have hrl := (List.getElem?_eq_some_iff.1 hr).1
  have hrow := h.row r row hr
  have hle : r * sz + j + vs.length ≤ cs.length := by
    have := Nat.mul_le_mul_right sz (show r + 1 ≤ rows.length by omega)
    rw [Nat.add_mul] at this
    have := h.len; omega
  refine ⟨by rw [wrC_len hle, h.len]; simp, fun i r' hi => ?_, fun v hv => ?_, fun i k r' d hi hk => ?_⟩
  · by_cases hir : r = i
    · subst hir
      rw [List.getElem?_set_self hrl] at hi
      simp only [Option.some.injEq] at hi
      rw [← hi, setD_len (by omega)]; exact hrow
    · rw [List.getElem?_set_ne hir] at hi; exact h.row i r' hi
  · unfold wrC at hv
    rcases List.mem_append.1 hv with hv | hv
    · exact h.one v (List.mem_of_mem_take hv)
    · rcases List.mem_append.1 hv with hv | hv
      · exact h1 v hv
      · exact h.one v (List.mem_of_mem_drop hv)
  · rw [wrC_get hle]
    by_cases hir : r = i
    · subst hir
      rw [List.getElem?_set_self hrl] at hi
      simp only [Option.some.injEq] at hi
      subst hi
      rw [setD_get (by omega)] at hk
      by_cases c1 : k < j
      · rw [if_pos c1] at hk
        rw [if_pos (by omega)]
        exact h.rep r k row d hr hk
      · rw [if_neg c1] at hk
        rw [if_neg (by omega)]
        by_cases c2 : k < j + ds.length
        · rw [if_pos c2] at hk
          rw [if_pos (by omega), show r * sz + k - (r * sz + j) = k - j by omega]
          exact hd _ d hk
        · rw [if_neg c2] at hk
          rw [if_neg (by omega)]
          exact h.rep r k row d hr hk
    · rw [List.getElem?_set_ne hir] at hi
      have hks : k < sz := by rw [← h.row i r' hi]; exact (List.getElem?_eq_some_iff.1 hk).1
      have hno : i * sz + k < r * sz + j ∨ r * sz + j + vs.length ≤ i * sz + k := by
        rcases Nat.lt_or_gt_of_ne hir with hlt | hlt
        · have := Nat.mul_le_mul_right sz (show r + 1 ≤ i by omega)
          rw [Nat.add_mul] at this; omega
        · have := Nat.mul_le_mul_right sz (show i + 1 ≤ r by omega)
          rw [Nat.add_mul] at this; omega
      obtain ⟨u, hu, hr'⟩ := h.rep i k r' d hi hk
      refine ⟨u, ?_, hr'⟩
      rcases hno with hno | hno
      · rw [if_pos hno]; exact hu
      · rw [if_neg (by omega), if_neg (by omega)]; exact hu
section
variable {P : Program} {n : Nat} {env : Env} {ps : List Per} {hp : List Res} {ty : TypeId} {pos : String} {af : Array Edge} {gd : Option (Nat × Bool)} {K : Sta → Prop} {d : Option Tmp} {v : Value} {E T U : TypeId} {sz : Nat} {rows : List (List D)} {x y : Operand}
/-- the place of an element of an own slice -/
theorem q_idxO (i k : Nat) (hel : elB P T E sz = true) (hx : ev env x = some (true, v)) (hi : hp[i]? = some (OwnS v E sz rows)) {z : Int} (hy : ev env y = some (true, .int .i64 z)) (hz : z = (k : Int)) (hk : k < rows.length) :
    Quiet P n ⟨d, .indexAddr T x y, ty, pos, af, gd⟩ ⟨env, ps, hp⟩ (.pointer (some ⟨blkOf v, k * sz, none⟩)) := fun w S fp a hst he hn => by
  subst hz
  obtain ⟨hT, it, hit, _, hsz, _⟩ := elB_spec hel
  have h1 := he.val hx rfl
  have h2 := he.val hy rfl
  rcases hst.res i _ hi with ⟨_, rfl, _⟩ | ⟨B, c, rfl, _⟩
  · simp at hk
  · have : (execOp a.eval ⟨d, .indexAddr T x y, ty, pos, af, gd⟩).run P w = .ok (.value (.pointer (some ⟨B, k * sz, none⟩))) w := by
      unfold execOp; dsimp only; rw [h1, h2]
      show ((Instr.indexAt T (.slice (some ⟨B, 0, none⟩) rows.length c) (.int .i64 k)).bind fun r => Sem.pure (Next.value r)).run P w = _
      have hE : P.elem T = E := by unfold Program.elem; rw [hT]
      rw [Sem.run_bind', run_indexAt_slice _ _ _ _ _ _ _ (by rw [hE]; exact hT), if_pos (by omega), hE, run_sizeOf' hit, hsz]
      simp only [Result.andThen, Int.toNat_natCast]
      unfold Addr.add
      split
      · rename_i h0; rw [h0]; rfl
      · simp only [Nat.zero_add]; rfl
    rw [this]; exact uponQ_ok _ _
theorem own_cell {w : World} {S F : Blks} (h : (OwnS v E sz rows).holds w S F) {r : Nat} {row : List D} (hr : rows[r]? = some row) {j : Nat} {dd : D} (hj : row[j]? = some dd) : ∃ u, w.cell? ⟨blkOf v, r * sz + j, none⟩ = some u ∧ RepD w S u dd ∧ u.oneCell' = true := by
  rcases h with ⟨_, rfl, _⟩ | ⟨b, cap, rfl, ⟨cs, sp, h1, h2, _⟩, _⟩
  · simp at hr
  · obtain ⟨u, hu, hrep⟩ := h2.rep r j row dd hr hj
    refine ⟨u, ?_, hrep, h2.one u (List.mem_of_getElem? hu)⟩
    show w.cell? ⟨b, r * sz + j, none⟩ = _
    rw [cell_box h1, List.getElem?_append_left (List.getElem?_eq_some_iff.1 hu).1]; exact hu
/-- a load out of an own slice: known values -/
theorem q_loadO {ag : Bool} {kk o : Nat} {row : List D} {u : Value} (i r j : Nat) (hk : tyk P U = some (ag, kk)) (hx : ev env x = some (true, .pointer (some ⟨blkOf v, o, none⟩))) (hi : hp[i]? = some (OwnS v E sz rows)) (hr : rows[r]? = some row) (ho : o = r * sz + j) (hv : rdD ag kk row j = some u) :
    Quiet P n ⟨d, .load U x, ty, pos, af, gd⟩ ⟨env, ps, hp⟩ u := fun w S fp a hst he hn => by
  subst ho
  have h1 := he.val hx rfl
  have hres := hst.res i _ hi
  have hat : (At (blkOf v) (r * sz) row).holds w (fun _ => True) := ⟨trivial, fun j dd hj => by
    obtain ⟨u, hu, hrep, h1⟩ := own_cell hres hr hj
    exact ⟨u, hu, h1, hrep.mono (fun _ _ => rfl) (fun _ _ => trivial)⟩⟩
  have : (execOp a.eval ⟨d, .load U x, ty, pos, af, gd⟩).run P w = .ok (.value u) w := by
    unfold execOp; dsimp only; rw [h1]
    have := rdD_run (P := P) hk hv hat
    show ((loadVar U ⟨blkOf v, r * sz + j, none⟩).bind fun r => Sem.pure (Next.value r)).run P w = _
    rw [Sem.run_bind', this]; rfl
  rw [this]; exact uponQ_ok _ _
/-- a store into an own slice -/
theorem e_storeO {ag : Bool} {kk o : Nat} {row ds : List D} {vy : Value} (i r j : Nat) (hk : tyk P U = some (ag, kk)) (hx : ev env x = some (true, .pointer (some ⟨blkOf v, o, none⟩))) (hy : ev env y = some (true, vy)) (hi : hp[i]? = some (OwnS v E sz rows)) (hr : rows[r]? = some row) (ho : o = r * sz + j)
    (hc : RC ps vy.cells.toList ds) (hl : ds.length = kk) (hj : j + kk ≤ sz) (hK : K ⟨env, ps, hp.set i (OwnS v E sz (rows.set r (setD row j ds)))⟩) :
    Eff P n ⟨none, .store U x y, ty, pos, af, gd⟩ ⟨env, ps, hp⟩ false K := .change i hi fun w S fp a hst he hn hR => by
  subst ho
  have e1 := he.val hx rfl
  have e2 := he.val hy rfl
  obtain ⟨_, it, _, hit, _, hjk⟩ := tyk_parts hk
  obtain ⟨hvl, hv1, hvd⟩ := hc.get
  generalize hv : vy.cells.toList = vs at hvl hv1 hvd
  rcases hR with ⟨_, rfl, _⟩ | ⟨b, cap, rfl, ⟨cs, sp, hb, hrows, hcap, hrc, hcm⟩, hF⟩
  · simp at hr
  · have hrl := (List.getElem?_eq_some_iff.1 hr).1
    have hle : r * sz + j + vs.length ≤ cs.length := by
      have := Nat.mul_le_mul_right sz (show r + 1 ≤ rows.length by omega)
      rw [Nat.add_mul] at this
      have := hrows.len; omega
    have : (execOp a.eval ⟨none, .store U x y, ty, pos, af, gd⟩).run P w = .ok .skip (w.setRow b (wrC (cs ++ sp) (r * sz + j) vs).toArray) := by
      show ((Instr.storeAt U (a.eval x) (a.eval y)).bind fun _ => Sem.pure Next.skip).run P w = _
      rw [e1, e2, Sem.run_bind']
      have : (Instr.storeAt U (.pointer (some ⟨b, r * sz + j, none⟩)) vy).run P w = .ok () (w.setRow b (wrC (cs ++ sp) (r * sz + j) vs).toArray) := by
        show (storeVar U ⟨b, r * sz + j, none⟩ vy).run P w = _
        unfold storeVar
        simp only [Sem.run_bind, run_sizeOf' hit, Result.andThen]
        have hsz : vy.cells.size = it.size := by rw [hjk, ← hl, ← hvl, ← hv]; simp
        rw [if_neg (by simpa using hsz), hv]
        exact storeCells_run b E (r * sz + j) vs 0 (cs ++ sp) w hb hv1 (by simp; omega)
      show (Result.andThen ((Instr.storeAt U (.pointer (some ⟨b, r * sz + j, none⟩)) vy).run P w) _) = _
      rw [this]; rfl
    rw [this]
    have hbS : ¬ S b := (hst.lt i (List.getElem?_eq_some_iff.1 hi).1 b ((hF b).2 rfl)).2
    refine ⟨OwnS _ E sz (rows.set r (setD row j ds)), _, hK, rfl, rfl, he, ?_, rfl, rfl, rfl, by simp [World.setRow], fun b' hb' hne => setRow_other _ _ _ _ (fun h => hne ((hF b').2 h))⟩
    refine .inr ⟨b, cap, by simp, ⟨wrC cs (r * sz + j) vs, sp, ?_, ?_, ?_, by simpa using hrc, hcm⟩, hF⟩
    · rw [← wrC_append hle]; exact setRow_heap _ _ _ _ _ _ hb
    · refine (hrows.set hr hvl (by omega) hv1 (fun k dd hk => ?_)).mono (fun b' hb' => setRow_other _ _ _ _ (fun h => hbS (h ▸ hb'))) (fun _ h => h)
      obtain ⟨u, hu, hd⟩ := hvd k dd hk
      refine ⟨u, hu, ?_⟩
      rcases hd with rfl | hd
      · exact .v u
      · exact hst.per _ hd
    · rw [List.length_append, wrC_len hle, ← List.length_append]; exact hcap
end
end Go.Sy
namespace Go.Sy
open Go.RowKit Go.Lp
/-- both, on blocks of their own -/
def Star (R R' : Res) : Res :=
  ⟨fun w S F => ∃ G H : Blks, R.holds w S G ∧ R'.holds w S H ∧ (∀ b, G b → ¬ H b) ∧ ∀ b, F b ↔ G b ∨ H b,
   fun ⟨G, H, h1, h2, h3, h4⟩ k1 k2 k3 => ⟨G, H, R.mono h1 (fun b hb => k1 b ((h4 b).2 (.inl hb))) k2 k3, R'.mono h2 (fun b hb => k1 b ((h4 b).2 (.inr hb))) k2 k3, h3, h4⟩⟩
section
variable {w : World} {S : Blks} {fp : Nat → Blks} {ps : List Per} {hp : List Res}
theorem St.star (h : St w S fp ps hp) {i j : Nat} {R R' : Res} (hi : hp[i]? = some R) (hj : hp[j]? = some R') (hne : i ≠ j) :
    St w S (fun k => if k = i then (fun b => fp i b ∨ fp j b) else if k = j then (fun _ => False) else fp k) ps ((hp.set i (Star R R')).set j emp) := by
  have hil := (List.getElem?_eq_some_iff.1 hi).1
  have hjl := (List.getElem?_eq_some_iff.1 hj).1
  refine ⟨h.per, fun k T hk => ?_, fun k hk b hb => ?_, fun k l hk hl hkl b hb hb' => ?_, h.slt⟩
  · by_cases hkj : k = j
    · subst hkj
      rw [List.getElem?_set_self (by simpa using hjl)] at hk
      simp only [Option.some.injEq] at hk
      subst hk
      rw [if_neg (Ne.symm hne), if_pos rfl]
      exact fun b hb => hb
    · rw [List.getElem?_set_ne (Ne.symm hkj)] at hk
      by_cases hki : k = i
      · subst hki
        rw [List.getElem?_set_self hil] at hk
        simp only [Option.some.injEq] at hk
        subst hk
        rw [if_pos rfl]
        exact ⟨fp k, fp j, h.res k R hi, h.res j R' hj, h.dj k j hil hjl hne, fun b => Iff.rfl⟩
      · rw [List.getElem?_set_ne (Ne.symm hki)] at hk
        rw [if_neg hki, if_neg hkj]
        exact h.res k T hk
  · have hk' : k < hp.length := by simpa using hk
    by_cases hki : k = i
    · rw [if_pos hki] at hb
      rcases hb with hb | hb
      · exact h.lt i hil b hb
      · exact h.lt j hjl b hb
    · rw [if_neg hki] at hb
      by_cases hkj : k = j
      · rw [if_pos hkj] at hb; exact hb.elim
      · rw [if_neg hkj] at hb; exact h.lt k hk' b hb
  · have hk' : k < hp.length := by simpa using hk
    have hl' : l < hp.length := by simpa using hl
    by_cases hki : k = i
    · rw [if_pos hki] at hb
      rw [if_neg (by omega)] at hb'
      by_cases hlj : l = j
      · rw [if_pos hlj] at hb'; exact hb'
      · rw [if_neg hlj] at hb'
        rcases hb with hb | hb
        · exact h.dj i l hil hl' (by omega) b hb hb'
        · exact h.dj j l hjl hl' (by omega) b hb hb'
    · rw [if_neg hki] at hb
      by_cases hkj : k = j
      · rw [if_pos hkj] at hb; exact hb
      · rw [if_neg hkj] at hb
        by_cases hli : l = i
        · rw [if_pos hli] at hb'
          rcases hb' with hb' | hb'
          · exact h.dj k i hk' hil hki b hb hb'
          · exact h.dj k j hk' hjl hkj b hb hb'
        · rw [if_neg hli] at hb'
          by_cases hlj : l = j
          · rw [if_pos hlj] at hb'; exact hb'
          · rw [if_neg hlj] at hb'; exact h.dj k l hk' hl' hkl b hb hb'
end
section
variable {P : Program} {n : Nat} {env : Env} {ps : List Per} {hp : List Res} {c : Code} {Q : Exit → Sta → Prop}
/-- the states of the same world -/
theorem awp_st {hp' : List Res} {ps' : List Per} (h0 : ∀ w S fp, St w S fp ps hp → ∃ fp', St w S fp' ps' hp' ∧ ∀ b, tot fp' hp'.length b → tot fp hp.length b) (h : awp P n c Q ⟨env, ps', hp'⟩) : awp P n c Q ⟨env, ps, hp⟩ := fun w S fp a hst he hn hd => by
  obtain ⟨fp', h1, h2⟩ := h0 w S fp hst
  exact Code.wp_mono (fun e a' w' hp' => PostA.trans (Evo.refl _ _ _) (fun b hb => .inl (h2 b hb)) hp') (h w S fp' a h1 he hn hd)
/-- two resources become one -/
theorem awp_star (i j : Nat) {R R' : Res} (hi : hp[i]? = some R) (hj : hp[j]? = some R') (hne : (i == j) = false) (h : awp P n c Q ⟨env, ps, (hp.set i (Star R R')).set j emp⟩) : awp P n c Q ⟨env, ps, hp⟩ := by
  have hil := (List.getElem?_eq_some_iff.1 hi).1
  have hjl := (List.getElem?_eq_some_iff.1 hj).1
  refine awp_st (fun w S fp hst => ⟨_, hst.star hi hj (by simpa using hne), fun b ⟨k, hk, hb⟩ => ?_⟩) h
  have hk' : k < hp.length := by simpa using hk
  dsimp only at hb
  split at hb
  · exact hb.elim (fun h => ⟨i, hil, h⟩) (fun h => ⟨j, hjl, h⟩)
  · split at hb
    · exact hb.elim
    · exact ⟨k, hk', hb⟩
/-- a resource of no block -/
theorem awp_void (R : Res) (hR : ∀ w S, R.holds w S (fun _ => False)) (h : awp P n c Q ⟨env, ps, hp ++ [R]⟩) : awp P n c Q ⟨env, ps, hp⟩ := awp_st (fun w S fp hst => ⟨_, hst.push (Below.refl _ _) R (fun _ => False) (hR w S) (fun b h => h.elim), fun b hb => by
  have hb' : tot (fun i => if i = hp.length then (fun _ => False) else fp i) (hp.length + 1) b := by simpa using hb
  exact (tot_push hb').elim id (fun h => h.elim)⟩) h
/-- a fact out of one resource -/
theorem awp_knowR (i : Nat) {R : Res} {φ : Prop} (hi : hp[i]? = some R) (h0 : ∀ w S F, R.holds w S F → φ) (h : φ → awp P n c Q ⟨env, ps, hp⟩) : awp P n c Q ⟨env, ps, hp⟩ := awp_know (fun w S fp hst => h0 w S _ (hst.res i R hi)) h
end
end Go.Sy
namespace Go.Sy
open Go.RowKit Go.Lp
section
variable {P : Program} {n : Nat} {s : Sta} {d : Option Tmp} {ty : TypeId} {pos : String} {af : Array Edge} {gd : Option (Nat × Bool)} {v : Value}
/-- an element of an array behind a pointer: its place -/
theorem q_idxArr {x y : Operand} {T E : TypeId} {ag : Bool} {sz b o m : Nat} {kk : IntKind} {z : Int} (k : Nat) (hT : P.underlying T = some (.array m E)) (hk : tyk P E = some (ag, sz)) (hx : ev s.env x = some (true, .pointer (some ⟨b, o, none⟩)))
    (hy : ev s.env y = some (true, .int kk z)) (hz : z = (k : Int)) (hlt : k < m) : Quiet P n ⟨d, .indexAddr T x y, ty, pos, af, gd⟩ s (.pointer (some ⟨b, o + k * sz, none⟩)) :=
  .run2 hx hy fun ρ w h1 h2 => by
    subst hz
    obtain ⟨de, ie, _, hie, _, hsz⟩ := tyk_parts hk
    unfold execOp; dsimp only; rw [h1, h2]
    show ((Instr.indexAt T (.pointer (some ⟨b, o, none⟩)) (.int kk k)).bind fun r => Sem.pure (Next.value r)).run P w = _
    have hL : P.arrayLen T = m := by unfold Program.arrayLen; rw [hT]
    have hE : P.elem T = E := by unfold Program.elem; rw [hT]
    have hadd : (Addr.mk b o none).add (k * sz) = ⟨b, o + k * sz, none⟩ := by
      unfold Addr.add; split
      · rename_i h; rw [h]; rfl
      · rfl
    rw [Sem.run_bind', run_indexAt_array _ _ _ _ _ (by rw [hL, hE]; exact hT), hL, if_pos (by omega), hE, run_sizeOf' hie, hsz]
    simp only [Result.andThen, Int.toNat_natCast, hadd]; rfl
/-- a byte of a string -/
theorem q_idxStr {x y : Operand} {T : TypeId} {kk : IntKind} {z : Int} {b : ByteArray} {u : UInt8} (k : Nat) (hT : P.underlying T = some .string) (hx : ev s.env x = some (true, .string b)) (hy : ev s.env y = some (true, .int kk z)) (hz : z = (k : Int)) (hu : b.data.toList[k]? = some u) :
    Quiet P n ⟨d, .index T x y, ty, pos, af, gd⟩ s (.int .u8 u.toNat) := .run2 hx hy fun ρ w h1 h2 => by
  subst hz
  obtain ⟨hlt, hu⟩ := List.getElem?_eq_some_iff.1 hu
  have hlt' : k < b.size := by simpa using hlt
  unfold execOp; dsimp only; rw [h1, h2]
  show ((Instr.index T (.string b) (.int kk k)).bind fun r => Sem.pure (Next.value r)).run P w = _
  rw [Sem.run_bind', run_index_string _ _ _ _ _ hT, dif_pos (by omega)]
  have : b[(k : Int).toNat]'(by simpa using hlt') = u := by rw [← hu]; rfl
  rw [this]; rfl
/-- an element of an array value -/
theorem q_idxAgg {x y : Operand} {T E : TypeId} {m : Nat} {kk : IntKind} {z : Int} {cs : Array Value} (k : Nat) (hT : P.underlying T = some (.array m E)) (hk : tyk P E = some (false, 1)) (hx : ev s.env x = some (true, .agg cs)) (hy : ev s.env y = some (true, .int kk z)) (hz : z = (k : Int)) (hlt : k < m) (hv : cs[k]? = some v) :
    Quiet P n ⟨d, .index T x y, ty, pos, af, gd⟩ s v := .run2 hx hy fun ρ w h1 h2 => by
  subst hz
  obtain ⟨de, ie, hde, hie, hag, hsz⟩ := tyk_parts hk
  unfold execOp; dsimp only; rw [h1, h2]
  show ((Instr.index T (.agg cs) (.int kk k)).bind fun r => Sem.pure (Next.value r)).run P w = _
  have : (Instr.index T (.agg cs) (.int kk k)).run P w = .ok v w := by
    simp [Instr.index, asIntOf, run_underlying hT, hlt, run_sizeOf' hie, hsz, part, run_isAgg' hde, hag, hv, Result.andThen]
  rw [Sem.run_bind', this]; rfl
theorem q_convI {x : Operand} {S D : TypeId} {k kd : IntKind} {z : Int} (hS : (P.underlying S).isSome = true) (hD : P.underlying D = some (.int kd)) (hx : ev s.env x = some (true, .int k z)) : Quiet P n ⟨d, .convert S D x, ty, pos, af, gd⟩ s (.int kd (kd.wrap z)) :=
  .run1 hx fun ρ w h => by
    unfold execOp; dsimp only; rw [h]
    show ((convert S D (.int k z)).bind fun r => Sem.pure (Next.value r)).run P w = _
    have hk : P.intKind D = kd := by unfold Program.intKind; rw [hD]
    rw [Sem.run_bind', run_convert_int w S D k z hS (by rw [hk]; exact hD), hk]; rfl
theorem qs_add {x y : Operand} {t t' : TypeId} {a b : ByteArray} (hx : ev s.env x = some (true, .string a)) (hy : ev s.env y = some (true, .string b)) (h : a.size + b.size ≤ 9223372036854775807) : Quiet P n ⟨d, .binOp .add t x y t', ty, pos, af, gd⟩ s (.string (a ++ b)) :=
  .run2 hx hy fun ρ w h1 h2 => by
    unfold execOp; dsimp only; rw [h1, h2]
    show ((do eqGuard .add t x y (.string a) (.string b); binOp .add t (.string a) (.string b)) |>.bind fun r => Sem.pure (Next.value r)).run P w = _
    have : (do eqGuard BinOp.add t x y (.string a) (.string b); binOp .add t (.string a) (.string b) : Sem Value) = Op.stringOp .add a b := by rw [binOp_string_add]; rfl
    rw [this, Sem.run_bind', run_string_add_sum w a b h]; rfl
theorem qs_eql {x y : Operand} {t t' : TypeId} {a b : ByteArray} (hx : ev s.env x = some (true, .string a)) (hy : ev s.env y = some (true, .string b)) : Quiet P n ⟨d, .binOp .eql t x y t', ty, pos, af, gd⟩ s (.bool (a.toList == b.toList)) :=
  .run2 hx hy fun ρ w h1 h2 => by
    unfold execOp; dsimp only; rw [h1, h2]
    simp only [eqGuard_at_string, Sem.run_bind, Sem.run_pure, binOp_string_eql, Result.andThen_ok]
theorem qs_neq {x y : Operand} {t t' : TypeId} {a b : ByteArray} (hx : ev s.env x = some (true, .string a)) (hy : ev s.env y = some (true, .string b)) : Quiet P n ⟨d, .binOp .neq t x y t', ty, pos, af, gd⟩ s (.bool (!(a.toList == b.toList))) :=
  .run2 hx hy fun ρ w h1 h2 => by
    unfold execOp; dsimp only; rw [h1, h2]
    simp only [eqGuard_at_string, Sem.run_bind, Sem.run_pure, binOp_string_neq, Result.andThen_ok]
/-- the first bytes of a string -/
theorem q_strHi {x y : Operand} {T : TypeId} {kk : IntKind} {z : Int} {b : ByteArray} (hT : P.underlying T = some .string) (hx : ev s.env x = some (true, .string b)) (hy : ev s.env y = some (true, .int kk z)) (h0 : 0 ≤ z) (h1 : z ≤ b.size) :
    Quiet P n ⟨d, .slice T x none (some y) none, ty, pos, af, gd⟩ s (.string (b.extract 0 z.toNat)) := .run2 hx hy fun ρ w e1 e2 => by
  unfold execOp; dsimp only; simp only [Option.map_some, Option.map_none]; rw [e1, e2]
  show ((Instr.sliceAt T (.string b) none (some (.int kk z)) none).bind fun r => Sem.pure (Next.value r)).run P w = _
  have : (Instr.sliceAt T (.string b) none (some (.int kk z)) none).run P w = .ok (.string (b.extract 0 z.toNat)) w := by
    rw [run_sliceAt_string w T _ _ _ _ hT]
    exact run_slice_string_h w T b hT kk z h0 h1
  rw [Sem.run_bind', this]; rfl
/-- a call of a function of the library that the model answers itself -/
def extOk (P : Program) (f : FuncId) : Bool :=
  match P.funcs[f]? with
  | some fn => !(fn.name == "runtime.NumGoroutine") && fn.body.isNone && (Extern.findNext fn).isNone
  | none => false
theorem q_ext {f : FuncId} {fn : Func} {en : Array Value → Sem Value} {l : List Operand} {ts : Array TypeId} {vs : List Value} (hf : P.funcs[f]? = some fn) (h1 : (fn.name == "runtime.NumGoroutine") = false) (h2 : fn.body.isNone = true) (h3 : Extern.findNext fn = none) (h4 : Extern.find fn = some en)
    (hx : evs s.env l = some vs) (hr : ∀ w, (en vs.toArray).run P w = .ok v w) : Quiet P n ⟨d, .call ⟨.value (.func f), l.toArray, ts⟩, ty, pos, af, gd⟩ s v := fun w S fp a hst he hn => by
  have hv := evs_map he l vs hx
  have : (execOp a.eval ⟨d, .call ⟨.value (.func f), l.toArray, ts⟩, ty, pos, af, gd⟩).run P w = .ok (.value v) w := by
    unfold execOp
    show ((resolve a.eval ⟨.value (.func f), l.toArray, ts⟩ ty).bind fun x => invoke x.target x.args).run P w = _
    have : resolve a.eval ⟨.value (.func f), l.toArray, ts⟩ ty = Sem.pure { target := .fn (.func f) #[], args := vs.toArray } := by
      have hg : a.eval (.func f) = .func (.func f) #[] #[] := rfl
      unfold resolve
      dsimp only
      rw [hg]
      show Deferred.ofValue _ _ = _
      unfold Deferred.ofValue
      dsimp only
      rw [List.map_toArray, hv, Array.empty_append]
      rfl
    rw [this]
    show (callFunc f (vs.toArray ++ #[])).run P w = _
    rw [Array.append_empty, run_callFunc_extern hf h1 h2 h3 h4, hr w]; rfl
  rw [this]; exact uponQ_ok _ _
end
section
variable {P : Program} {ops : Array Oper} {md : Region.Mode} {V : Nat → Bool} {Q : Act → World → Prop}
/-- what an operation hands back that touches no memory -/
def YieldsP (P : Program) (ops : Array Oper) (o : Oper) (v : Value) (a : Act) : Prop :=
  (Region.wanted o (yielded ops a.tmps) = true ∧ ∀ w1, uponQ P v w1 ((execOp a.eval o).run P w1)) ∨ (Region.wanted o (yielded ops a.tmps) = false ∧ v = undef)
theorem YieldsP.of_same {o : Oper} {v : Value} {a a' : Act} (hy : YieldsP P ops o v a) (he : execOp a'.eval o = execOp a.eval o)
    (hw : Region.wanted o (yielded ops a'.tmps) = Region.wanted o (yielded ops a.tmps)) : YieldsP P ops o v a' := by
  unfold YieldsP at *
  rw [he, hw]; exact hy
theorem YieldsP.op {o : Oper} {i : Nat} {v : Value} {a : Act} {w : World} (hi : ops[i]? = some o) (hy : YieldsP P ops o v a) {K : Act → World → Prop} (h : ∀ w', Below w.heap.size w w' → K (a.put o.dst v) w') : opB P ops i K a w := by
  refine ⟨o, hi, ?_⟩
  rcases hy with ⟨h1, h2⟩ | ⟨h1, rfl⟩
  · rw [if_pos h1]
    exact uponU_mono (fun u w' ⟨hu, hb⟩ => by subst hu; exact h w' hb) (h2 w)
  · rw [if_neg (by rw [h1]; exact Bool.false_ne_true)]
    exact h w (Below.refl _ _)
theorem wpB_firstP {i : Nat} {oi : Oper} {v : Value} (hi : ops[i]? = some oi) (hsel : ∀ (j : Nat) (o : Oper) cs b, ops[j]? = some o → o.op ≠ .select cs b) :
    ∀ (n : Nat) (L : Array Bool) (a : Act) (w : World),
      (∀ j oj, ops[j]? = some oj → j ≠ i → L.getD j true = false → (∀ e ∈ oj.after, Region.binds md e = true → e.on ≠ i) → oi.apart ops oj = true) →
      i ∈ Region.ready md ops L → YieldsP P ops oi v a →
      wpB P md ops V Q n (L.setIfInBounds i true) (a.put oi.dst v) w → wpB P md ops V Q (n + 1) L a w := by
  intro n
  induction n with
  | zero =>
    intro L a w _ hr hy H w1 hb
    refine ⟨fun h => (by rw [h] at hr; cases hr), fun j hj => ?_⟩
    by_cases hji : j = i
    · subst hji
      exact hy.op hi fun w' hb' => ⟨fun _ => hb', wpB_up H (bel_trans hb hb')⟩
    · have := ready_mono hj hji
      rw [(H w1 hb).1] at this
      cases this
  | succ n ih =>
    intro L a w hfree hr hy H w1 hb
    refine ⟨fun h => (by rw [h] at hr; cases hr), fun j hj => ?_⟩
    by_cases hji : j = i
    · subst hji
      exact hy.op hi fun w' hb' => ⟨fun _ => hb', wpB_up H (bel_trans hb hb')⟩
    · obtain ⟨oj, hoj, hrun⟩ := (H w1 hb).2 j (ready_mono hj hji)
      obtain ⟨hjun, oj', hoj', hall⟩ := mem_ready.1 hj
      obtain rfl : oj = oj' := Option.some.inj (hoj.symm.trans hoj')
      have hnot : ∀ e ∈ oj.after, Region.binds md e = true → e.on ≠ i := fun e he hb heq => by
        have h1 := hall e he hb
        have h0 := (mem_ready.1 hr).1
        rw [heq] at h1
        rw [getD_tf h1] at h0; cases h0
      obtain ⟨p1, p2, p3⟩ := Oper.apart_spec (hfree j oj hoj hji hjun hnot)
      rw [execOp_put oj (fun cs b => hsel j oj cs b hoj) a oi.dst v p1, wanted_put oj a oi.dst v p1] at hrun
      have hfree' : ∀ k ok, ops[k]? = some ok → k ≠ i → (L.setIfInBounds j true).getD k true = false →
          (∀ e ∈ ok.after, Region.binds md e = true → e.on ≠ i) → oi.apart ops ok = true := fun k ok hk hki hun hno => by
        refine hfree k ok hk hki ?_ hno
        by_cases hjk : j = k
        · subst hjk; exact hjun
        · rw [getD_set_ne true hjk] at hun; exact hun
      have step : ∀ u w', wpB P md ops V Q n ((L.setIfInBounds i true).setIfInBounds j true) ((a.put oi.dst v).put oj.dst u) w' → wpB P md ops V Q (n + 1) (L.setIfInBounds j true) (a.put oj.dst u) w' := fun u w' h => by
        refine ih (L.setIfInBounds j true) (a.put oj.dst u) w' hfree' (ready_mono hr (Ne.symm hji)) ?_ ?_
        · exact hy.of_same (execOp_put oi (fun cs b => hsel i oi cs b hi) a oj.dst u p3) (wanted_put oi a oj.dst u p3)
        · rw [Array.setIfInBounds_comm _ _ hji, Act.put_comm a u v (fun d hd hd' => p2 d hd' hd)]
          exact h
      refine ⟨oj, hoj, ?_⟩
      split
      · rename_i hw
        rw [if_pos hw] at hrun
        exact uponU_mono (fun u w' h => ⟨h.1, step u w' h.2⟩) hrun
      · rename_i hw
        rw [if_neg hw] at hrun
        exact ⟨hrun.1, step undef w1 hrun.2⟩
end
section
variable {P : Program} {n : Nat} {ops : Array Oper} {Q : Exit → Sta → Prop} {env : Env} {ps : List Per} {hp : List Res} {d : Nat} {op : Op} {ty : TypeId} {pos : String} {af : Array Edge} {gd : Option (Nat × Bool)} {v : Value} {V : List Nat} {k : Nat} {L : Array Bool}
def canFirstP (ops : Array Oper) (V : List Nat) (L : Array Bool) (i : Nat) : Bool :=
  Region.noSelect ops && Region.free .any ops L i && (Region.ready .any ops L).contains i
/-- an operation that touches no memory may be taken first -/
theorem aB_p (i : Nat) (hi : ops[i]? = some ⟨some d, op, ty, pos, af, gd⟩) (hf : canFirstP ops V L i = true) (c : Bool) (hc : guardOf ops env ⟨some d, op, ty, pos, af, gd⟩ = some c) (hd : fits n (some d) = true)
    (hq : c = true → Quiet P n ⟨some d, op, ty, pos, af, gd⟩ ⟨env, [], []⟩ v) (h : aB P n ops V Q k (L.setIfInBounds i true) ⟨(d, c, v) :: env, ps, hp⟩) : aB P n ops V Q (k + 1) L ⟨env, ps, hp⟩ := fun w S fp a hst he hn hdf => by
  simp only [canFirstP, Bool.and_eq_true] at hf
  obtain ⟨⟨f1, f4⟩, f5⟩ := hf
  have hw := wanted_guard (ops := ops) hc he
  have htriv : ∀ w, St w (fun _ => False) (fun _ _ => False) [] [] := fun w => ⟨fun p h => (by cases h), fun i R h => (by simp at h), fun i h => (by simp at h), fun i j h => (by simp at h), fun b h => h.elim⟩
  refine wpB_firstP hi (Region.noSelect_spec f1) k L a w (Region.free_spec hi f4) (by simpa using f5) (v := bif c then v else undef) ?_ ?_
  · cases c with
    | true => exact .inl ⟨hw, fun w1 => hq rfl w1 _ _ a (htriv w1) he hn⟩
    | false => exact .inr ⟨hw, rfl⟩
  · exact h w S fp (a.put (some d) (bif c then v else undef)) hst (he.set (dst := some d) (by rw [hn]; exact hd) c v) (by rw [put_size]; exact hn) (by rw [put_defers]; exact hdf)
end
section
variable {P : Program} {n : Nat} {ops : Array Oper} {Q : Exit → Sta → Prop} {s : Sta} {o : Oper} {K : Sta → Prop}
theorem Quiet.eff {v : Value} {q : Bool} (h : Quiet P n o s v) (hd : fits n o.dst = true) (hK : K ⟨setEnv s.env o.dst true v, s.ps, s.hp⟩) : Eff P n o s q K := fun w S fp a hst he hn => by
  refine uponU_mono (fun u w' ⟨hu, hb⟩ => ?_) (h w S fp a hst he hn)
  subst hu
  exact ⟨_, S, fp, hK, hst.below hb, he.set (c := true) (by rw [hn]; exact hd) u, Evo.of_below _ _ hb, fun b hb => .inl hb, fun _ => hb⟩
/-- two operations can come up: each in its turn -/
theorem aB_or {V : List Nat} {k : Nat} {L : Array Bool} {qi qj : Bool} {oi oj : Oper} (i j : Nat) (hr : Region.ready .any ops L = [i, j]) (hi : ops[i]? = some oi) (hj : ops[j]? = some oj) (hqi : (qi || V.contains i) = true) (hqj : (qj || V.contains j) = true)
    (hci : guardOf ops s.env oi = some true) (hcj : guardOf ops s.env oj = some true) (h1 : Eff P n oi s qi (aB P n ops V Q k (L.setIfInBounds i true))) (h2 : Eff P n oj s qj (aB P n ops V Q k (L.setIfInBounds j true))) : aB P n ops V Q (k + 1) L s := fun w S fp a hst he hn hdf w1 hb => by
  refine ⟨fun h0 => (by rw [hr] at h0; cases h0), fun m hm => ?_⟩
  rw [hr] at hm
  have key : ∀ (m : Nat) (o : Oper) (q : Bool), ops[m]? = some o → (q || V.contains m) = true → guardOf ops s.env o = some true → Eff P n o s q (aB P n ops V Q k (L.setIfInBounds m true)) →
      opB P ops m (fun a' w' => ((fun i => V.contains i) m = false → Below w1.heap.size w1 w') ∧ wpB P .any ops (fun i => V.contains i) (PostA Q n w S (tot fp s.hp.length) .normal) k (L.setIfInBounds m true) a' w') a w1 := fun m o q ho hq hc h => by
    refine ⟨o, ho, ?_⟩
    rw [if_pos (wanted_guard (ops := ops) hc he)]
    refine uponU_mono (fun u w' ⟨s', S', fp', hK, hst', he', hE, hg, hqb⟩ => ⟨fun hVj => hqb (by have h0 : V.contains m = false := hVj; rw [h0, Bool.or_false] at hq; exact hq), ?_⟩) (h w1 S fp a (hst.below hb) he hn)
    refine wpB_mono (fun a2 w2 hp => (hp.trans hE hg).trans (Evo.of_below _ _ hb) (fun _ h => .inl h)) _ _ _ _ (hK w' S' fp' _ hst' he' (by rw [put_size]; exact hn) (by rw [put_defers]; exact hdf))
  rcases List.mem_cons.1 hm with rfl | hm
  · exact key _ _ _ hi hqi hci h1
  · obtain rfl := List.mem_singleton.1 hm
    exact key _ _ _ hj hqj hcj h2
end
section
variable {P : Program} {n : Nat} {ops : Array Oper} {Q : Exit → Sta → Prop} {env : Env} {ps : List Per} {hp hp' : List Res} {rest : List Oper}
/-- the resources written otherwise -/
theorem aL_hp (h0 : hp = hp') (h : aL P n ops Q rest ⟨env, ps, hp'⟩) : aL P n ops Q rest ⟨env, ps, hp⟩ := h0 ▸ h
theorem aL_st {ps' : List Per} (h1 : ps = ps') (h0 : hp = hp') (h : aL P n ops Q rest ⟨env, ps', hp'⟩) : aL P n ops Q rest ⟨env, ps, hp⟩ := h1 ▸ h0 ▸ h
theorem aB_st {V : List Nat} {k : Nat} {L L' : Array Bool} {ps' : List Per} (hL : L = L') (h1 : ps = ps') (h0 : hp = hp') (h : aB P n ops V Q k L' ⟨env, ps', hp'⟩) : aB P n ops V Q k L ⟨env, ps, hp⟩ := hL ▸ h1 ▸ h0 ▸ h
theorem aB_hp {V : List Nat} {k : Nat} {L L' : Array Bool} (hL : L = L') (h0 : hp = hp') (h : aB P n ops V Q k L' ⟨env, ps, hp'⟩) : aB P n ops V Q k L ⟨env, ps, hp⟩ := hL ▸ h0 ▸ h
end
section
variable {P : Program} {n : Nat} {env : Env} {ps : List Per} {hp : List Res} {ty : TypeId} {pos : String} {af : Array Edge} {gd : Option (Nat × Bool)} {K : Sta → Prop} {q : Bool}
theorem x_alloc {t : Nat} {T : TypeId} {zs : List Value} (hz : zcells P T = some zs) (ht : fits n (some t) = true) (hK : ∀ b, K ⟨(t, true, .pointer (some ⟨b, 0, none⟩)) :: env, ps, hp ++ [Box b T zs]⟩) :
    Eff P n ⟨some t, .alloc T, ty, pos, af, gd⟩ ⟨env, ps, hp⟩ q K := e_alloc hz ht hK
theorem x_box {t : Nat} {T : TypeId} {x : Operand} {vx : Value} {cs : List Value} (hx : ev env x = some (true, vx)) (hc0 : cpL vx.cells.toList = some cs) (ht : fits n (some t) = true) (hK : ∀ b, K ⟨(t, true, .pointer (some ⟨b, 0, none⟩)) :: env, ps, hp ++ [Box b T cs]⟩) :
    Eff P n ⟨some t, .box T x, ty, pos, af, gd⟩ ⟨env, ps, hp⟩ q K := e_box hx hc0 ht hK
theorem x_store {x y : Operand} {U T : TypeId} {ag : Bool} {k b o : Nat} {cs cs' : List Value} {vy : Value} (i : Nat) (hk : tyk P U = some (ag, k)) (hx : ev env x = some (true, .pointer (some ⟨b, o, none⟩))) (hy : ev env y = some (true, vy)) (hi : hp[i]? = some (Box b T cs))
    (hw : wrL k cs o vy.cells.toList = some cs') (hK : K ⟨env, ps, hp.set i (Box b T cs')⟩) :
    Eff P n ⟨none, .store U x y, ty, pos, af, gd⟩ ⟨env, ps, hp⟩ false K := e_store i hk hx hy hi hw hK
end
/-! results that stand in cells -/
section
variable {P : Program} {Q : Exit → Sta → Prop} {s : Sta}
/-- the value of a result -/
def RV (P : Program) (s : Sta) (r : ResultVar) (v : Value) : Prop := ∀ a w S fp, St w S fp s.ps s.hp → EnvOk a s.env →
  match r with
  | .tmp t => a.tmps.getD t undef = v
  | .cell b t => ∃ ad, a.tmps.getD b undef = .pointer (some ad) ∧ (loadVar t ad).run P w = .ok v w
theorem rv_tmp {t : Nat} {v : Value} (hl : look s.env t = some (true, v)) : RV P s (.tmp t) v := fun a w S fp hst henv => henv t true v hl
theorem rv_cell {t : Nat} {T U : TypeId} {ag : Bool} {k b o : Nat} {cs : List Value} {v : Value} (i : Nat) (hk : tyk P U = some (ag, k)) (hl : look s.env t = some (true, .pointer (some ⟨b, o, none⟩))) (hi : s.hp[i]? = some (Box b T cs)) (hv : rdC ag k cs o = some v) : RV P s (.cell t U) v := fun a w S fp hst henv => by
  have hb := (hst.res i _ hi).1
  have hr := rdC_run (w := w) hk hv (b := b) (p := 0) (fun j u hu => by rw [Nat.zero_add, cell_box hb]; exact hu)
  rw [Nat.zero_add] at hr
  exact ⟨_, henv t true _ hl, hr⟩
theorem asAddr_run (ad : Addr) (w : World) : (asAddr (.pointer (some ad))).run P w = .ok ad w := rfl
theorem finR1 {fn : Func} {r : ResultVar} {v : Value} {R : Value → List Per → List Res → Prop} {e : Exit} (lp lh : List Nat) (ok : okH s.hp lh = true) (hr : fn.results = #[r]) (h1 : RV P s r v) (h : R v (keepP s.ps lp) (keepH s.hp lh)) (he : e = .normal ∨ e = .ret) : PostF P fn R e s :=
  ⟨he, v, lp, lh, ok, fun a w S fp hst henv => by
    have h1 := h1 a w S fp hst henv
    cases r with
    | tmp t => dsimp only at h1; rw [results_tmp hr, h1]
    | cell b t => obtain ⟨ad, g1, g2⟩ := h1; simp only [results, hr]; simp at g1; simp [g1, g2, asAddr_run], h⟩
theorem finR2 {fn : Func} {r r' : ResultVar} {v v' : Value} {R : Value → List Per → List Res → Prop} {e : Exit} (lp lh : List Nat) (ok : okH s.hp lh = true) (hr : fn.results = #[r, r']) (h1 : RV P s r v) (h2 : RV P s r' v') (h : R (.tuple #[v, v']) (keepP s.ps lp) (keepH s.hp lh)) (he : e = .normal ∨ e = .ret) : PostF P fn R e s :=
  ⟨he, .tuple #[v, v'], lp, lh, ok, fun a w S fp hst henv => by
    have h1 := h1 a w S fp hst henv
    have h2 := h2 a w S fp hst henv
    cases r with
    | tmp t =>
      cases r' with
      | tmp u => dsimp only at h1 h2; rw [results_tmp2 hr, h1, h2]
      | cell b t => obtain ⟨ad, g1, g2⟩ := h2; simp only [results, hr]; simp at g1 h1; simp [g1, g2, h1, asAddr_run]
    | cell b t =>
      obtain ⟨ad, g1, g2⟩ := h1
      cases r' with
      | tmp u => simp only [results, hr]; simp at g1 h2; simp [g1, g2, h2, asAddr_run]
      | cell b' t' => obtain ⟨ad', g1', g2'⟩ := h2; simp only [results, hr]; simp at g1 g1'; simp [g1, g2, g1', g2', asAddr_run], h⟩
end
section
variable {P : Program} {n : Nat} {env : Env} {ps : List Per} {hp : List Res} {ty : TypeId} {pos : String} {af : Array Edge} {gd : Option (Nat × Bool)} {K : Sta → Prop} {q : Bool}
/-- a box of a value that is not spelled out -/
theorem e_boxV {t : Nat} {T : TypeId} {x : Operand} {vx : Value} (cs : List Value) (hx : ev env x = some (true, vx)) (hc : vx.cells.toList = cs) (ht : fits n (some t) = true) (hK : ∀ b, K ⟨(t, true, .pointer (some ⟨b, 0, none⟩)) :: env, ps, hp ++ [Box b T cs]⟩) :
    Eff P n ⟨some t, .box T x, ty, pos, af, gd⟩ ⟨env, ps, hp⟩ q K := e_box hx (by rw [hc]; induction cs with | nil => rfl | cons c cs ih => skip; exact (show ∀ l : List Value, cpL l = some l from fun l => by induction l with | nil => rfl | cons a l ih => simp [cpL, ih]) _) ht hK
/-- a store into a box at any place -/
theorem e_storeW {x y : Operand} {U T : TypeId} {ag : Bool} {k b o : Nat} {cs : List Value} {vy : Value} (i : Nat) (vs cs' : List Value) (hk : tyk P U = some (ag, k)) (hx : ev env x = some (true, .pointer (some ⟨b, o, none⟩))) (hy : ev env y = some (true, vy)) (hi : hp[i]? = some (Box b T cs))
    (hv : vy.cells.toList = vs) (hl : vs.length = k) (h1 : ∀ v ∈ vs, v.oneCell' = true) (ho : o + k ≤ cs.length) (hcs : wrC cs o vs = cs') (hK : K ⟨env, ps, hp.set i (Box b T cs')⟩) :
    Eff P n ⟨none, .store U x y, ty, pos, af, gd⟩ ⟨env, ps, hp⟩ false K := by
  have key : ∀ (cs : List Value) (o : Nat) (vs : List Value), (∀ v ∈ vs, v.oneCell' = true) → o + vs.length ≤ cs.length → wrL vs.length cs o vs = some (wrC cs o vs) := by
    intro cs
    induction cs with
    | nil => intro o vs h1 h2
             cases vs with
             | nil => have : o = 0 := by simpa using h2
                      subst this; simp [wrL, wrC]
             | cons v vs => simp at h2
    | cons c cs ih =>
      intro o vs h1 h2
      cases o with
      | zero =>
        cases vs with
        | nil => simp [wrL, wrC]
        | cons v vs =>
          have := ih 0 vs (fun u hu => h1 u (by simp [hu])) (by simpa using h2)
          simp only [List.length_cons, wrL, h1 v (by simp), this]
          simp [wrC]
      | succ o =>
        have := ih o vs h1 (by simp at h2; omega)
        have e : wrL vs.length (c :: cs) (o + 1) vs = match wrL vs.length cs o vs with | some l => some (c :: l) | none => none := by cases hn : vs.length <;> rfl
        rw [e, this]
        simp [wrC, show o + 1 + vs.length = (o + vs.length) + 1 by omega]
  subst hl hcs
  refine e_store i hk hx hy hi ?_ hK
  rw [hv]
  exact key cs o vs h1 ho
/-- a conversion of bytes to their own type: they are shared from now on -/
theorem e_convB {t : Nat} {T E : TypeId} {x : Operand} {v : Value} {rows : List (List D)} (i : Nat) (hT : P.underlying T = some (.slice E)) (hE : P.underlying E = some (.int .u8)) (hx : ev env x = some (true, v)) (ht : fits n (some t) = true) (hi : hp[i]? = some (OwnS v E 1 rows)) (hne : rows ≠ [])
    (hK : K ⟨(t, true, v) :: env, Sh v (.sl rows) :: ps, hp.set i emp⟩) : Eff P n ⟨some t, .convert T T x, ty, pos, af, gd⟩ ⟨env, ps, hp⟩ false K := fun w S fp a hst he hn => by
  have e1 := he.val hx rfl
  have hil := (List.getElem?_eq_some_iff.1 hi).1
  rcases hst.res i _ hi with ⟨_, h0, _⟩ | ⟨b, cap, rfl, ⟨cs, sp, hb, hrows, hl, hle, hcap⟩, hF⟩
  · exact absurd h0 hne
  · have hbl := lt_of_heap hb
    let N := (cs ++ sp).length
    have hfr : (w.freeze ⟨b, N, none⟩ 1).heap[b]? = some (.cells (cs ++ sp).toArray E (N, N + 1)) := by
      unfold World.freeze
      rw [if_neg (by decide)]
      simp only [Array.getElem?_modify, hb, if_true, Option.map_some]
      simp
    have hof : ∀ k, k ≠ b → (w.freeze ⟨b, N, none⟩ 1).heap[k]? = w.heap[k]? := fun k hk => by
      unfold World.freeze
      rw [if_neg (by decide)]
      simp only [Array.getElem?_modify, if_neg (Ne.symm hk)]
    have hsz : (w.freeze ⟨b, N, none⟩ 1).heap.size = w.heap.size := by unfold World.freeze; rw [if_neg (by decide)]; simp
    have hsh : w.shape? b = some (E, N) := by unfold World.shape?; rw [hb]; simp [N]
    have hrun : (convert T T (.slice (some ⟨b, 0, none⟩) rows.length cap)).run P w = .ok (.slice (some ⟨b, 0, none⟩) rows.length cap) (w.freeze ⟨b, N, none⟩ 1) := by
      simp [convert, run_underlying hT, run_underlying hE, markStringish, hsh]
    have hexec : (execOp a.eval ⟨some t, .convert T T x, ty, pos, af, gd⟩).run P w = .ok (.value (.slice (some ⟨b, 0, none⟩) rows.length cap)) (w.freeze ⟨b, N, none⟩ 1) := by
      unfold execOp; dsimp only; rw [e1]
      show ((convert T T (.slice (some ⟨b, 0, none⟩) rows.length cap)).bind fun r => Sem.pure (Next.value r)).run P w = _
      rw [Sem.run_bind', hrun]; rfl
    rw [hexec]
    have hcell : ∀ j, (w.freeze ⟨b, N, none⟩ 1).cell? ⟨b, j, none⟩ = (cs ++ sp)[j]? := fun j => by
      unfold World.cell?; simp only [hfr]; simp
    have hst0 := hst.drop i
    have hSb : ∀ k, S k → k ≠ b := fun k hk e => (hst.lt i hil b ((hF b).2 rfl)).2 (e ▸ hk)
    have hS : ∀ k, S k → (S k ∨ k = b) := fun _ h => .inl h
    refine ⟨_, (fun k => S k ∨ k = b), (fun k => if k = i then (fun _ => False) else fp k), hK, ⟨fun p hp' => ?_, fun j R hj => ?_, fun j hj k hk => ?_, hst0.dj, fun k hk => ?_⟩, he.put (g := true) (by rw [hn]; simpa [fits] using ht) _, ⟨rfl, rfl, rfl, by rw [hsz]; exact Nat.le_refl _, fun k hk hx' => hof k (fun e => hx' ⟨i, hil, (hF k).2 e⟩), hS, fun k hk => hk.elim .inl (fun e => .inr (.inl ⟨i, hil, (hF k).2 e⟩))⟩, fun k ⟨j, hj, hk⟩ => ?_, fun h => by cases h⟩
    · rcases List.mem_cons.1 hp' with rfl | h2
      · refine .sl b 0 cap 1 rows (fun i j => cs.getD (i * 1 + j) undef) (.inr rfl) hle hcap hrows.row (fun ii j r d h1 h2 => ?_) (fun ii j r d h1 h2 => ?_)
        · obtain ⟨u, hu, _⟩ := hrows.rep ii j r d h1 h2
          have e : cs.getD (ii * 1 + j) undef = u := by rw [List.getD, hu]; rfl
          rw [e]
          refine ⟨?_, hrows.one u (List.mem_of_getElem? hu)⟩
          rw [Nat.zero_add, hcell, List.getElem?_append_left (List.getElem?_eq_some_iff.1 hu).1]; exact hu
        · obtain ⟨u, hu, hr⟩ := hrows.rep ii j r d h1 h2
          have e : cs.getD (ii * 1 + j) undef = u := by rw [List.getD, hu]; rfl
          rw [e]
          exact hr.mono (fun k hk => hof k (hSb k hk)) hS
      · exact p.mono (hst.per p h2) (fun k hk => hof k (hSb k hk)) hS
    · have hj' : j < hp.length := by have := (List.getElem?_eq_some_iff.1 hj).1; simpa using this
      refine R.mono (hst0.res j R hj) (fun k hk => hof k (fun e => ?_)) (fun k hk => hof k (hSb k hk)) hS
      by_cases hji : j = i
      · rw [if_pos hji] at hk; exact hk
      · rw [if_neg hji] at hk; exact hst.dj j i hj' hil hji k hk ((hF k).2 e)
    · have hj' : j < hp.length := by simpa using hj
      by_cases hji : j = i
      · rw [if_pos hji] at hk; exact hk.elim
      · rw [if_neg hji] at hk
        refine ⟨by rw [hsz]; exact (hst.lt j hj' k hk).1, fun h => h.elim (hst.lt j hj' k hk).2 (fun e => hst.dj j i hj' hil hji k hk ((hF k).2 e))⟩
    · rw [hsz]; exact hk.elim (hst.slt k) (fun e => e ▸ hbl)
    · have hj' : j < hp.length := by simpa using hj
      by_cases hji : j = i
      · simp only [hji, if_true] at hk
      · simp only [if_neg hji] at hk
        exact .inl ⟨j, hj', hk⟩
end
end Go.Sy
namespace Go.Sy
open Go.RowKit
section
variable {P : Program} {n : Nat} {s : Sta} {d : Option Tmp} {ty : TypeId} {pos : String} {af : Array Edge} {gd : Option (Nat × Bool)} {x y : Operand} {t t' : TypeId}
theorem qb_eql {b1 b2 : Bool} (hT : P.underlying t = some .bool) (hx : ev s.env x = some (true, .bool b1)) (hy : ev s.env y = some (true, .bool b2)) : Quiet P n ⟨d, .binOp .eql t x y t', ty, pos, af, gd⟩ s (.bool (b1 == b2)) :=
  .run2 hx hy fun ρ w h1 h2 => by
    unfold execOp; dsimp only; rw [h1, h2]
    simp only [eqGuard_at_bool, binOp, Sem.run_bind, Sem.run_pure, run_equal_bool w t b1 b2 hT, Result.andThen_ok]
theorem qb_neq {b1 b2 : Bool} (hT : P.underlying t = some .bool) (hx : ev s.env x = some (true, .bool b1)) (hy : ev s.env y = some (true, .bool b2)) : Quiet P n ⟨d, .binOp .neq t x y t', ty, pos, af, gd⟩ s (.bool (!(b1 == b2))) :=
  .run2 hx hy fun ρ w h1 h2 => by
    unfold execOp; dsimp only; rw [h1, h2]
    simp only [eqGuard_at_bool, binOp, Sem.run_bind, Sem.run_pure, run_equal_bool w t b1 b2 hT, Result.andThen_ok]
theorem qa_eql {xs ys : Array Value} {b : Bool} (hT : P.underlying t = some (.struct (P.fieldsOf t))) (hp : P.stoodInHeld t = false) (hm : P.eqGuardType P.depth t = false)
    (hr : ∀ w, (Op.eqFields 9999 xs ys (P.fieldsOf t).toList).run P w = .ok b w) (hx : ev s.env x = some (true, .agg xs)) (hy : ev s.env y = some (true, .agg ys)) : Quiet P n ⟨d, .binOp .eql t x y t', ty, pos, af, gd⟩ s (.bool b) :=
  .run2 hx hy fun ρ w h1 h2 => by
    unfold execOp; dsimp only; rw [h1, h2]
    simp only [Sem.run_bind, run_eqGuard_agg w _ t _ _ xs ys hm, Result.andThen_ok, run_eql_struct, run_equalIn_struct w 9999 t xs ys hT hp, hr w]
    rfl
theorem qa_neq {xs ys : Array Value} {b : Bool} (hT : P.underlying t = some (.struct (P.fieldsOf t))) (hp : P.stoodInHeld t = false) (hm : P.eqGuardType P.depth t = false)
    (hr : ∀ w, (Op.eqFields 9999 xs ys (P.fieldsOf t).toList).run P w = .ok b w) (hx : ev s.env x = some (true, .agg xs)) (hy : ev s.env y = some (true, .agg ys)) : Quiet P n ⟨d, .binOp .neq t x y t', ty, pos, af, gd⟩ s (.bool (!b)) :=
  .run2 hx hy fun ρ w h1 h2 => by
    unfold execOp; dsimp only; rw [h1, h2]
    simp only [Sem.run_bind, run_eqGuard_agg w _ t _ _ xs ys hm, Result.andThen_ok, run_neq_struct, run_equalIn_struct w 9999 t xs ys hT hp, hr w]
    rfl
theorem q_shl {k yk : IntKind} {a b : Int} (hx : ev s.env x = some (true, .int k a)) (hy : ev s.env y = some (true, .int yk b)) (hb : 0 ≤ b) : Quiet P n ⟨d, .binOp .shl t x y t', ty, pos, af, gd⟩ s (.int k (k.wrap (a * 2 ^ min b.toNat k.bits))) :=
  .run2 hx hy fun ρ w h1 h2 => by
    have e : Op.shift .shl k a yk b = pure (.int k (k.wrap (a * 2 ^ min b.toNat k.bits))) := by unfold Op.shift; rw [if_neg (by omega)]
    unfold execOp; dsimp only; rw [h1, h2]
    have e2 : (do eqGuard BinOp.shl t x y (Value.int k a) (Value.int yk b); binOp BinOp.shl t (Value.int k a) (Value.int yk b)) = Op.shift .shl k a yk b := by cases k <;> cases yk <;> rfl
    rw [e2, e]; rfl
theorem q_shr {k yk : IntKind} {a b : Int} (hx : ev s.env x = some (true, .int k a)) (hy : ev s.env y = some (true, .int yk b)) (hb : 0 ≤ b) : Quiet P n ⟨d, .binOp .shr t x y t', ty, pos, af, gd⟩ s (.int k (a.fdiv (2 ^ min b.toNat k.bits))) :=
  .run2 hx hy fun ρ w h1 h2 => by
    have e : Op.shift .shr k a yk b = pure (.int k (a.fdiv (2 ^ min b.toNat k.bits))) := by unfold Op.shift; rw [if_neg (by omega)]
    unfold execOp; dsimp only; rw [h1, h2]
    have e2 : (do eqGuard BinOp.shr t x y (Value.int k a) (Value.int yk b); binOp BinOp.shr t (Value.int k a) (Value.int yk b)) = Op.shift .shr k a yk b := by cases k <;> cases yk <;> rfl
    rw [e2, e]; rfl
theorem q_orB {k : IntKind} {a b : Int} (hx : ev s.env x = some (true, .int k a)) (hy : ev s.env y = some (true, .int k b)) : Quiet P n ⟨d, .binOp .or t x y t', ty, pos, af, gd⟩ s (.int k (k.wrap (BitVec.ofInt k.bits a ||| BitVec.ofInt k.bits b).toNat)) :=
  .run2 hx hy fun ρ w h1 h2 => by
    unfold execOp; dsimp only; rw [h1, h2]; cases k <;> rfl
theorem q_andB {k : IntKind} {a b : Int} (hx : ev s.env x = some (true, .int k a)) (hy : ev s.env y = some (true, .int k b)) : Quiet P n ⟨d, .binOp .and t x y t', ty, pos, af, gd⟩ s (.int k (k.wrap (BitVec.ofInt k.bits a &&& BitVec.ofInt k.bits b).toNat)) :=
  .run2 hx hy fun ρ w h1 h2 => by
    unfold execOp; dsimp only; rw [h1, h2]; cases k <;> rfl
end
end Go.Sy
namespace Go.Sy
open Go.RowKit
def isIntB (P : Program) (t : TypeId) : Bool := match P.underlying t with
  | some (.int _) => true
  | _ => false
def intAt (xs : Array Value) (o : Nat) : Option Int := match xs[o]? with
  | some (.int .i64 a) => some a
  | _ => none
def eqInts (xs ys : Array Value) (l : List Nat) : Bool := l.all fun o => match intAt xs o, intAt ys o with
  | some a, some b => a == b
  | _, _ => true
def allInts (xs : Array Value) (l : List Nat) : Bool := l.all fun o => (intAt xs o).isSome
theorem eqFields_ints {P : Program} (d : Nat) (xs ys : Array Value) : ∀ (fs : List Field) (w : World), fs.all (fun f => decide (f.name ≠ "_") && isIntB P f.type) = true → allInts xs (fs.map (·.offset)) = true → allInts ys (fs.map (·.offset)) = true →
    (Op.eqFields (d + 1) xs ys fs).run P w = .ok (eqInts xs ys (fs.map (·.offset))) w
  | [], w, _, _, _ => rfl
  | f :: fs, w, h, hx, hy => by
    simp only [List.all_cons, Bool.and_eq_true, decide_eq_true_eq] at h
    obtain ⟨⟨h1, h2⟩, h3⟩ := h
    simp only [allInts, List.map_cons, List.all_cons, Bool.and_eq_true] at hx hy
    have ih := eqFields_ints d xs ys fs w h3 hx.2 hy.2
    obtain ⟨k, hk⟩ : ∃ k, P.underlying f.type = some (.int k) := by
      unfold isIntB at h2; split at h2
      · exact ⟨_, by assumption⟩
      · cases h2
    have hp : P.plainKey f.type = true := by unfold Program.plainKey; rw [hk]
    have key : ∀ zs : Array Value, (intAt zs f.offset).isSome = true → ∃ a, zs[f.offset]? = some (.int .i64 a) ∧ intAt zs f.offset = some a := fun zs hz => by
      unfold intAt at hz ⊢
      split at hz
      · rename_i a hh; exact ⟨a, hh, rfl⟩
      · cases hz
    obtain ⟨a, ha, ha'⟩ := key xs hx.1
    obtain ⟨b, hb, hb'⟩ := key ys hy.1
    simp only [Op.eqFields, if_pos h1, Sem.run_bind, run_part_plain w hp ha, run_part_plain w hp hb, Result.andThen_ok, run_equalIn_int w d f.type .i64 k a b hk, Sem.run_ite, Sem.run_pure, ih]
    simp only [eqInts, List.map_cons, List.all_cons, ha', hb']
    cases h : (a == b) <;> simp
end Go.Sy
namespace Go.Sy
open Go.RowKit Go.Lp
section
variable {P : Program}
theorem eqItems_ints (d : Nat) {e : TypeId} (he : isIntB P e = true) (hc : P.cellsOf e = 1) (xs ys : Array Value) : ∀ (is : List Nat) (w : World), allInts xs is = true → allInts ys is = true →
    (Op.eqItems (d + 1) e (P.cellsOf e) xs ys is).run P w = .ok (eqInts xs ys is) w
  | [], w, _, _ => rfl
  | i :: is, w, hx, hy => by
    simp only [allInts, List.all_cons, Bool.and_eq_true] at hx hy
    have ih := eqItems_ints d he hc xs ys is w hx.2 hy.2
    obtain ⟨k, hk⟩ : ∃ k, P.underlying e = some (.int k) := by
      unfold isIntB at he; split at he
      · exact ⟨_, by assumption⟩
      · cases he
    have hp : P.plainKey e = true := by unfold Program.plainKey; rw [hk]
    have key : ∀ zs : Array Value, (intAt zs i).isSome = true → ∃ a, zs[i]? = some (.int .i64 a) ∧ intAt zs i = some a := fun zs hz => by
      unfold intAt at hz ⊢
      split at hz
      · rename_i a hh; exact ⟨a, hh, rfl⟩
      · cases hz
    obtain ⟨a, ha, ha'⟩ := key xs hx.1
    obtain ⟨b, hb, hb'⟩ := key ys hy.1
    rw [hc] at ih ⊢
    simp only [Op.eqItems, Sem.run_bind, Nat.mul_one, run_part_plain w hp ha, run_part_plain w hp hb, Result.andThen_ok, run_equalIn_int w d e .i64 k a b hk, Sem.run_ite, Sem.run_pure, ih]
    simp only [eqInts, List.all_cons, ha', hb']
    cases h : (a == b) <;> simp
/-- the cells of a field of an integer, or of an array of integers -/
def offsF (P : Program) (f : Field) : Option (List Nat) :=
  match P.underlying f.type with
  | some (.int _) => some [f.offset]
  | some (.array n e) => if isIntB P e && P.cellsOf e == 1 && (P.info? f.type).any (fun i => i.size == n) then some ((List.range n).map (f.offset + ·)) else none
  | _ => none
theorem eqFields_mix (d : Nat) (xs ys : Array Value) : ∀ (fs : List Field) (os : List Nat) (w : World), fs.all (fun f => decide (f.name ≠ "_")) = true → (fs.mapM (offsF P)).map List.flatten = some os → allInts xs os = true → allInts ys os = true →
    (Op.eqFields (d + 2) xs ys fs).run P w = .ok (eqInts xs ys os) w
  | [], os, w, _, h, _, _ => by
    have : os = [] := by simpa using h.symm
    subst this; rfl
  | f :: fs, os, w, hn, h, hx, hy => by
    simp only [List.all_cons, Bool.and_eq_true, decide_eq_true_eq] at hn
    cases h1 : offsF P f with
    | none => simp [List.mapM_cons, h1] at h
    | some o1 =>
      cases h2 : fs.mapM (offsF P) with
      | none => simp [List.mapM_cons, h1, h2] at h
      | some o2 =>
        have ho : os = o1 ++ o2.flatten := by simpa [List.mapM_cons, h1, h2] using h.symm
        subst ho
        have hx' : allInts xs o1 = true ∧ allInts xs o2.flatten = true := by simpa [allInts, List.all_append] using hx
        have hy' : allInts ys o1 = true ∧ allInts ys o2.flatten = true := by simpa [allInts, List.all_append] using hy
        have ih := eqFields_mix d xs ys fs o2.flatten w hn.2 (by rw [h2]; rfl) hx'.2 hy'.2
        have he : eqInts xs ys (o1 ++ o2.flatten) = (eqInts xs ys o1 && eqInts xs ys o2.flatten) := by simp [eqInts, List.all_append]
        have fin : ∀ (a b : Value), (part f.type xs f.offset).run P w = .ok a w → (part f.type ys f.offset).run P w = .ok b w → (Op.equalIn (d + 2) f.type a b).run P w = .ok (eqInts xs ys o1) w → (Op.eqFields (d + 2) xs ys (f :: fs)).run P w = .ok (eqInts xs ys (o1 ++ o2.flatten)) w := fun a b g1 g2 g3 => by
          simp only [Op.eqFields, if_pos hn.1, Sem.run_bind, g1, g2, g3, Result.andThen_ok, Sem.run_ite, Sem.run_pure, ih, he]
          cases eqInts xs ys o1 <;> simp
        unfold offsF at h1
        split at h1
        · rename_i k hk
          simp only [Option.some.injEq] at h1
          subst h1
          have hp : P.plainKey f.type = true := by unfold Program.plainKey; rw [hk]
          have key : ∀ zs : Array Value, allInts zs [f.offset] = true → ∃ a, zs[f.offset]? = some (.int .i64 a) ∧ intAt zs f.offset = some a := fun zs hz => by
            have hz : (intAt zs f.offset).isSome = true := by simpa [allInts] using hz
            unfold intAt at hz ⊢
            split at hz
            · rename_i a hh; exact ⟨a, hh, rfl⟩
            · cases hz
          obtain ⟨a, ha, ha'⟩ := key xs hx'.1
          obtain ⟨b, hb, hb'⟩ := key ys hy'.1
          refine fin _ _ (run_part_plain w hp ha) (run_part_plain w hp hb) ?_
          rw [run_equalIn_int w (d + 1) f.type .i64 k a b hk]
          simp [eqInts, ha', hb']
        · rename_i n e hk
          split at h1
          · rename_i hc
            simp only [Bool.and_eq_true, beq_iff_eq] at hc
            obtain ⟨⟨c1, c2⟩, c3⟩ := hc
            simp only [Option.some.injEq] at h1
            subst h1
            obtain ⟨it, hit, hsz⟩ : ∃ it, P.info? f.type = some it ∧ it.size = n := by
              cases hi : P.info? f.type with
              | none => rw [hi] at c3; cases c3
              | some it => rw [hi] at c3; exact ⟨it, rfl, by simpa using c3⟩
            have hpart : ∀ zs : Array Value, (part f.type zs f.offset).run P w = .ok (.agg (zs.extract f.offset (f.offset + n))) w := fun zs => by
              simp [part, run_isAgg' hk, aggB, run_sizeOf' hit, hsz, Sem.run_bind, Result.andThen]
            obtain ⟨ie, hie⟩ : ∃ ie, P.info? e = some ie := by
              unfold isIntB at c1
              split at c1
              · rename_i q hq; exact info_of_underlying hq
              · cases c1
            have hsub : ∀ zs : Array Value, allInts zs ((List.range n).map (f.offset + ·)) = true → allInts (zs.extract f.offset (f.offset + n)) (List.range n) = true ∧ ∀ i, i < n → intAt (zs.extract f.offset (f.offset + n)) i = intAt zs (f.offset + i) := fun zs hz => by
              have hii : ∀ i, i < n → intAt (zs.extract f.offset (f.offset + n)) i = intAt zs (f.offset + i) := fun i hi => by
                have hs : (intAt zs (f.offset + i)).isSome = true := by
                  have := List.all_eq_true.1 hz (f.offset + i) (List.mem_map.2 ⟨i, List.mem_range.2 hi, rfl⟩)
                  exact this
                have hlt : f.offset + i < zs.size := by
                  rcases Nat.lt_or_ge (f.offset + i) zs.size with h | h
                  · exact h
                  · unfold intAt at hs; rw [Array.getElem?_eq_none h] at hs; cases hs
                unfold intAt
                rw [Array.getElem?_extract]
                rw [if_pos (by omega)]
              refine ⟨List.all_eq_true.2 fun i hi => ?_, hii⟩
              rw [hii i (List.mem_range.1 hi)]
              exact List.all_eq_true.1 hz (f.offset + i) (List.mem_map.2 ⟨i, hi, rfl⟩)
            obtain ⟨a1, a2⟩ := hsub xs hx'.1
            obtain ⟨b1, b2⟩ := hsub ys hy'.1
            refine fin _ _ (hpart xs) (hpart ys) ?_
            rw [show d + 2 = (d + 1) + 1 from rfl, run_equalIn_array w (d + 1) _ _ hk hie, eqItems_ints d c1 c2 _ _ _ w a1 b1]
            congr 1
            unfold eqInts
            rw [List.all_map]
            apply Bool.eq_iff_iff.2
            simp only [List.all_eq_true, List.mem_range, Function.comp]
            constructor
            · intro h i hi; have := h i hi; rwa [a2 i hi, b2 i hi] at this
            · intro h i hi; have := h i hi; rwa [← a2 i hi, ← b2 i hi] at this
          · cases h1
        · cases h1
end
section
variable {P : Program} {n : Nat} {env : Env} {ps : List Per} {hp : List Res} {ty : TypeId} {pos : String} {af : Array Edge} {gd : Option (Nat × Bool)} {d : Option Tmp}
def arrSz (P : Program) (T : TypeId) : Option (Nat × Nat) := match P.underlying T with
  | some (.array m e) => (P.info? e).map fun i => (i.size, m)
  | _ => none
/-- an array literal -/
theorem q_bldA {T : TypeId} {l : List (Nat × Operand)} {xs : List Operand} {vs : List Value} {zs cells : List Value} {sz m : Nat} (hst : arrSz P T = some (sz, m)) (hz : zcells P T = some zs) (hxs : l.map (·.2) = xs) (hx : evs env xs = some vs)
    (hb : bld (fun i => some (i * sz, sz)) zs ((l.map (·.1)).zip vs) = some cells) :
    Quiet P n ⟨d, .build T l.toArray, ty, pos, af, gd⟩ ⟨env, ps, hp⟩ (.agg cells.toArray) := fun w S fp a hs he hn => by
  have hm := evs_map he xs vs hx
  have hf := bld_fill _ _ _ _ hb
  have hbuilt : P.built T ((l.map (·.1)).zip vs) = some cells.toArray := by
    unfold arrSz at hst
    unfold zcells at hz
    unfold Program.built
    cases hi : P.info? T with
    | none => rw [hi] at hz; cases hz
    | some it =>
      rw [hi] at hz
      cases hzz : it.zero with
      | none => rw [Option.bind_some, hzz] at hz; cases hz
      | some z =>
        rw [Option.bind_some, hzz] at hz
        simp only [Option.map_some, Option.some.injEq] at hz
        cases hu : P.underlying T with
        | none => rw [hu] at hst; cases hst
        | some dd =>
          rw [hu] at hst
          cases dd with
          | array m' e =>
            simp only at hst
            cases hie : P.info? e with
            | none => rw [hie] at hst; cases hst
            | some ie =>
              rw [hie] at hst
              simp only [Option.map_some, Option.some.injEq, Prod.mk.injEq] at hst
              simp only [hzz, hie]
              have e1 : z.cells = zs.toArray := by rw [← hz]
              rw [e1, hst.1]
              simpa using hf
          | _ => cases hst
  have : (execOp a.eval ⟨d, .build T l.toArray, ty, pos, af, gd⟩).run P w = .ok (.value (.agg cells.toArray)) w := by
    have e : (execOp a.eval ⟨d, .build T l.toArray, ty, pos, af, gd⟩) = (Instr.build T (l.toArray.map fun (i, x) => (i, a.eval x))).bind fun r => Sem.pure (Next.value r) := rfl
    have e2 : l.toArray.map (fun (i, x) => (i, a.eval x)) = ((l.map (·.1)).zip vs).toArray := by
      rw [← hm, ← hxs]
      simp only [List.map_toArray, List.map_map]
      congr 1
      rw [List.zip_map']
      rfl
    rw [e, e2, Sem.run_bind', run_build w T _ cells.toArray (by simpa using hbuilt)]; rfl
  rw [this]; exact uponQ_ok _ _
end
end Go.Sy
namespace Go.Lp
open Go.RowKit
/-- a processor -/
structure Cpu where
  r : Nat → Int
  pc : Int
/-- an instruction -/
structure Ins where
  op : Nat
  a : Nat
  b : Nat
  c : Nat
  imm : Int
/-- an instruction in execution -/
structure Run where
  p : Nat
  i : Ins
  c : Cpu
  nx : Cpu
  ek : Int
  en : Int
  bad : Bool
def cpuV (c : Cpu) : List Value := [.int .i64 (c.r 0), .int .i64 (c.r 1), .int .i64 (c.r 2), .int .i64 (c.r 3), .int .i64 (c.r 4), .int .i64 (c.r 5), .int .i64 (c.r 6), .int .i64 (c.r 7), .int .i64 (c.r 8), .int .i64 (c.r 9), .int .i64 (c.r 10), .int .i64 (c.r 11), .int .i64 (c.r 12), .int .i64 (c.r 13), .int .i64 (c.r 14), .int .i64 (c.r 15), .int .i64 c.pc]
def insV (i : Ins) : List Value := [.int .i64 i.op, .int .i64 i.a, .int .i64 i.b, .int .i64 i.c, .int .i64 i.imm]
def evV (k n : Int) : List Value := [.int .i64 k, .int .i64 n]
def rcells (R : Run) : List Value := .pointer (some ⟨R.p, 0, none⟩) :: (insV R.i ++ (cpuV R.c ++ (cpuV R.nx ++ (evV R.ek R.en ++ [.bool R.bad]))))
def upd (r : Nat → Int) (k : Nat) (n : Int) : Nat → Int := fun j => if j = k then n else r j
def Cpu.set (c : Cpu) (k : Nat) (n : Int) : Cpu := ⟨upd c.r k n, c.pc⟩
theorem sixteen {a : Nat} (h : a < 16) : a = 0 ∨ a = 1 ∨ a = 2 ∨ a = 3 ∨ a = 4 ∨ a = 5 ∨ a = 6 ∨ a = 7 ∨ a = 8 ∨ a = 9 ∨ a = 10 ∨ a = 11 ∨ a = 12 ∨ a = 13 ∨ a = 14 ∨ a = 15 := by omega
theorem cpuV_get (c : Cpu) {a : Nat} (h : a < 16) : (cpuV c)[a]? = some (.int .i64 (c.r a)) := by
  rcases sixteen h with rfl | rfl | rfl | rfl | rfl | rfl | rfl | rfl | rfl | rfl | rfl | rfl | rfl | rfl | rfl | rfl <;> rfl
theorem cpuV_set (c : Cpu) {a : Nat} (n : Int) (h : a < 16) : (cpuV c).set a (.int .i64 n) = cpuV (c.set a n) := by
  rcases sixteen h with rfl | rfl | rfl | rfl | rfl | rfl | rfl | rfl | rfl | rfl | rfl | rfl | rfl | rfl | rfl | rfl <;> rfl
theorem rcells_c (R : Run) {o a : Nat} (ho : o = 6 + a) (h : a < 16) : (rcells R)[o]? = some (.int .i64 (R.c.r a)) := by
  subst ho
  rcases sixteen h with rfl | rfl | rfl | rfl | rfl | rfl | rfl | rfl | rfl | rfl | rfl | rfl | rfl | rfl | rfl | rfl <;> rfl
theorem rcells_one (R : Run) : ∀ v ∈ rcells R, v.oneCell' = true := by
  intro v hv
  simp only [rcells, insV, cpuV, evV, List.mem_cons, List.mem_append, List.not_mem_nil, or_false] at hv
  rcases hv with rfl | (rfl | rfl | rfl | rfl | rfl) | (rfl | rfl | rfl | rfl | rfl | rfl | rfl | rfl | rfl | rfl | rfl | rfl | rfl | rfl | rfl | rfl | rfl) | (rfl | rfl | rfl | rfl | rfl | rfl | rfl | rfl | rfl | rfl | rfl | rfl | rfl | rfl | rfl | rfl | rfl) | (rfl | rfl) | rfl <;> rfl
/-- the result goes into register A -/
def Run.put (R : Run) (n : Int) : Run := { R with nx := R.nx.set R.i.a n }
theorem rcells_put (R : Run) (n : Int) {o : Nat} (ho : o = 23 + R.i.a) (h : R.i.a < 16) : (rcells R).take o ++ ([.int .i64 n] ++ (rcells R).drop (o + 1)) = rcells (R.put n) := by
  subst ho
  obtain ⟨p, ⟨op, a, b, c, imm⟩, c0, c1, ek, en, bad⟩ := R
  dsimp only at h ⊢
  rcases sixteen h with rfl | rfl | rfl | rfl | rfl | rfl | rfl | rfl | rfl | rfl | rfl | rfl | rfl | rfl | rfl | rfl <;> rfl
abbrev w64 (n : Int) : Int := IntKind.i64.wrap n
def andI (a b : Int) : Int := IntKind.i64.wrap (BitVec.ofInt IntKind.i64.bits a &&& BitVec.ofInt IntKind.i64.bits b).toNat
def orI (a b : Int) : Int := IntKind.i64.wrap (BitVec.ofInt IntKind.i64.bits a ||| BitVec.ofInt IntKind.i64.bits b).toNat
def truthI (b : Bool) : Int := if b then 1 else 0
def Run.b (R : Run) : Int := R.c.r R.i.b
def Run.cc (R : Run) : Int := R.c.r R.i.c
def Run.a (R : Run) : Int := R.c.r R.i.a
/-- loads, stores -/
def Run.ld (R : Run) (M : Mem) (at_ size : Int) : Run := { R with bad := !decide ((loadM M at_ size).2 = 0) }
def Run.st (R : Run) (M : Mem) (at_ size n : Int) : Run := { R with bad := !decide ((storeM M at_ size n).2 = 0) }
def Run.push (R : Run) (M : Mem) (n : Int) : Run × Mem :=
  (Run.st { R with nx := R.nx.set 15 (w64 (R.c.r 15 - 8)) } M (w64 (R.c.r 15 - 8)) 8 n, (storeM M (w64 (R.c.r 15 - 8)) 8 n).1)
def Run.pop (R : Run) (M : Mem) : Run := Run.ld { R with nx := R.nx.set 15 (w64 (R.c.r 15 + 8)) } M (R.c.r 15) 8
def Run.to (R : Run) (n : Int) : Run := { R with nx := ⟨R.nx.r, n⟩ }
def Run.jump (R : Run) (ok : Bool) : Run := if ok then R.to (w64 (R.c.pc + R.i.imm)) else R
def Run.slot (R : Run) (M : Mem) (call : Bool) : Run × Mem :=
  let at_ := w64 (R.c.pc + R.i.imm)
  let R1 := R.ld M at_ 8
  if R1.bad then (R1, M) else if (loadM M at_ 8).1 = 0 then ({ R1 with nx := R1.c, ek := 3, en := at_ }, M)
  else if call then ((Run.push R1 M (w64 (R1.c.pc + 8))).1.to (loadM M at_ 8).1, (Run.push R1 M (w64 (R1.c.pc + 8))).2) else (R1.to (loadM M at_ 8).1, M)
/-- what the instructions do, by their Op -/
def Run.exec (R : Run) (M : Mem) : Nat → Run × Mem
  | 1 => (R, M)
  | 2 => ({ R with ek := 1 }, M)
  | 3 => (R.put R.i.imm, M)
  | 4 => (R.put (orI (andI R.a 4294967295) (w64 (R.i.imm * 2 ^ min 32 64))), M)
  | 5 => (R.put R.b, M)
  | 6 => (R.put (w64 (R.b + R.cc)), M)
  | 7 => (R.put (w64 (R.b - R.cc)), M)
  | 8 => (R.put (w64 (R.b * R.cc)), M)
  | 9 => (R.put (andI R.b R.cc), M)
  | 10 => (R.put (orI R.b R.cc), M)
  | 11 => (R.put (truthI (decide (R.b < R.cc))), M)
  | 12 => (R.put (truthI (decide (R.b = R.cc))), M)
  | 13 => (R.put (w64 (R.b + R.i.imm)), M)
  | 14 => (R.put (w64 (R.c.pc + R.i.imm)), M)
  | 15 => ((R.ld M (w64 (R.b + R.i.imm)) 8).put (loadM M (w64 (R.b + R.i.imm)) 8).1, M)
  | 16 => ((R.ld M (w64 (R.b + R.i.imm)) 1).put (loadM M (w64 (R.b + R.i.imm)) 1).1, M)
  | 17 => (R.st M (w64 (R.b + R.i.imm)) 8 R.a, (storeM M (w64 (R.b + R.i.imm)) 8 R.a).1)
  | 18 => (R.st M (w64 (R.b + R.i.imm)) 1 R.a, (storeM M (w64 (R.b + R.i.imm)) 1 R.a).1)
  | 19 => (R.jump true, M)
  | 20 => (R.jump (decide (R.a = 0)), M)
  | 21 => (R.jump (!decide (R.a = 0)), M)
  | 22 => ((R.push M (w64 (R.c.pc + 8))).1.jump true, (R.push M (w64 (R.c.pc + 8))).2)
  | 23 => ((R.push M (w64 (R.c.pc + 8))).1.to R.a, (R.push M (w64 (R.c.pc + 8))).2)
  | 24 => R.slot M true
  | 25 => R.slot M false
  | 26 => ((R.pop M).to (loadM M (R.c.r 15) 8).1, M)
  | 27 => R.push M R.a
  | 28 => ((R.pop M).put (loadM M (R.c.r 15) 8).1, M)
  | 29 => ({ R.put R.b with ek := 2, en := w64 (8 + R.i.a) }, M)
  | 30 => ({ R with ek := 2, en := R.i.imm }, M)
  | _ => (R, M)
end Go.Lp
namespace Go.Sy
open Go.RowKit Go.Lp
section
variable {P : Program} {n : Nat} {s : Sta} {d : Option Tmp} {ty : TypeId} {pos : String} {af : Array Edge} {gd : Option (Nat × Bool)} {v : Value}
/-- a load out of cells that are only looked at -/
theorem q_loadP {x : Operand} {U : TypeId} {ag : Bool} {k b p q : Nat} {row : List D} (o : Nat) (hk : tyk P U = some (ag, k)) (hx : ev s.env x = some (true, .pointer (some ⟨b, q, none⟩))) (hi : At b p row ∈ s.ps) (ho : q = p + o) (hv : rdD ag k row o = some v) :
    Quiet P n ⟨d, .load U x, ty, pos, af, gd⟩ s v := fun w S fp a hst he hn => by
  subst ho
  have h1 := he.val hx rfl
  have : (execOp a.eval ⟨d, .load U x, ty, pos, af, gd⟩).run P w = .ok (.value v) w := by
    unfold execOp; dsimp only; rw [h1]
    have := rdD_run (P := P) hk hv (hst.per _ hi)
    show ((loadVar U ⟨b, p + o, none⟩).bind fun r => Sem.pure (Next.value r)).run P w = _
    rw [Sem.run_bind', this]; rfl
  rw [this]; exact uponQ_ok _ _
theorem rdD_cell {cs : List Value} {o : Nat} {k : Nat} (h : cs[o]? = some v) : rdD false k (cs.map D.v) o = some v := by
  unfold rdD; simp [h]
/-- a box that is only looked at -/
theorem q_lendB {f : FuncId} {args : List Value} {b : Nat} {T : TypeId} {cs : List Value} (h : Con P f args [At b 0 (cs.map D.v)] [] fun r _ _ => r = v) (h1 : ∀ v ∈ cs, v.oneCell' = true)
    {w : World} {S : Blks} {fp : Nat → Blks} {ps : List Per} {hp : List Res} (hst : St w S fp ps hp) (i : Nat) (hi : hp[i]? = some (Box b T cs)) : Calls P f args.toArray w fun e w' => e = .returned v ∧ Below w.heap.size w w' := by
  obtain ⟨hb, hF⟩ := hst.res i _ hi
  have hst2 : St w (fun k => k = b) (fun _ _ => False) [At b 0 (cs.map D.v)] [] := by
    refine ⟨fun p hp => ?_, fun j R hR => by simp at hR, fun j hj => by simp at hj, fun j k hj => by simp at hj, fun k hk => by rw [hk]; exact lt_of_heap hb⟩
    rw [List.mem_singleton.1 hp]
    refine ⟨rfl, fun j dd hj => ?_⟩
    rw [List.getElem?_map] at hj
    cases hc : cs[j]? with
    | none => rw [hc] at hj; cases hj
    | some u =>
      rw [hc] at hj
      simp only [Option.map_some, Option.some.injEq] at hj
      refine ⟨u, by rw [Nat.zero_add, cell_box hb]; exact hc, h1 u (List.mem_of_getElem? hc), by rw [← hj]; exact .v u⟩
  exact h.quiet (fun _ h => h) hst2
end
end Go.Sy
namespace Go.Proofs.YtpgcoceggacplaaGreatDoor
open Go.RowKit Go.Lp Go.Sy
theorem truth_fn (b : Bool) : Con Tryz.prog 58 [.bool b] [] [] fun r _ _ => r = .int .i64 (truthI b) := by
  refine Con.enter Tryz.func58 rfl (by simp [Tryz.ntmps58]) ?_
  show awp _ _ _ _ ⟨[(0, true, _)], _, _⟩
  refine awp_seq (awp_region (aL_s true rfl rfl (fun _ => q_assign rfl) (aL_nil (thn_n (awp_seq (awp_seq (awp_region ?_)))))))
  refine aL_s true rfl rfl (fun _ => q_move rfl) (aL_nil (thn_n ?_))
  refine awp_cond _ rfl (fun h1 => ?_) (fun h1 => ?_)
  ·skip
   refine awp_seq (awp_region (aL_s true rfl rfl (fun _ => q_assign rfl) (aL_nil (thn_n (awp_ret (thn_r ?_))))))
   refine fin1 [] [] rfl Tryz.results58 rfl ?_ (.inr rfl)
   rw [h1]; rfl
  ·skip
   refine awp_skip (thn_n (awp_seq (awp_region (aL_s true rfl rfl (fun _ => q_assign rfl) (aL_nil (thn_n (awp_ret ?_)))))))
   refine fin1 [] [] rfl Tryz.results58 rfl ?_ (.inr rfl)
   rw [h1]; rfl
theorem b_fn (R : Run) (b : Nat) (ha : R.i.b < 16) : Con Tryz.prog 50 [.pointer (some ⟨b, 0, none⟩)] [At b 0 ((rcells R).map D.v)] [] fun r _ _ => r = .int .i64 R.b := by
  refine Con.enter Tryz.func50 rfl (by simp [Tryz.ntmps50]) ?_
  show awp _ _ _ _ ⟨[(0, true, _)], _, _⟩
  refine awp_seq (awp_region (aL_s true rfl rfl (fun _ => q_assign rfl) (aL_nil (thn_n (awp_seq ?_)))))
  refine awp_drawn [] (by kernel_rfl) ?_
  show aB _ _ _ _ _ 12 #[false, false, false, false, false, false, false, false, false, false, false, false] _
  refine aB_s 0 rfl (by kernel_rfl) true rfl rfl (fun _ => q_move rfl) ?_
  simp only [nO, nK, nL]
  refine aB_s 1 rfl (by kernel_rfl) true rfl rfl (fun _ => q_move rfl) ?_
  simp only [nO, nK, nL]
  refine aB_s 2 rfl (by kernel_rfl) true rfl rfl (fun _ => q_nilCheck rfl) ?_
  simp only [nO, nK, nL]
  refine aB_s 3 rfl (by kernel_rfl) true rfl rfl (fun _ => q_fieldAddr (off := 1) (by kernel_rfl) rfl) ?_
  simp only [nO, nK, nL]
  refine aB_s 4 rfl (by kernel_rfl) true rfl rfl (fun _ => q_fieldAddr (off := 2) (by kernel_rfl) rfl) ?_
  simp only [nO, nK, nL]
  refine aB_s 5 rfl (by kernel_rfl) true rfl rfl (fun _ => q_loadP 3 tk3 rfl (psAt 0 rfl) rfl rfl) ?_
  simp only [nO, nK, nL]
  refine aB_s 6 rfl (by kernel_rfl) true rfl rfl (fun _ => q_nilCheck rfl) ?_
  simp only [nO, nK, nL]
  refine aB_s 7 rfl (by kernel_rfl) true rfl rfl (fun _ => q_fieldAddr (off := 6) (by kernel_rfl) rfl) ?_
  simp only [nO, nK, nL]
  refine aB_s 8 rfl (by kernel_rfl) true rfl rfl (fun _ => q_fieldAddr (off := 0) (by kernel_rfl) rfl) ?_
  simp only [nO, nK, nL]
  refine aB_s 9 rfl (by kernel_rfl) true rfl rfl (fun _ => q_idxArr (R.i.b) Tryz.underlying31 tk3 rfl rfl (rfl) (ha)) ?_
  simp only [nO, nK, nL]
  refine aB_s 10 rfl (by kernel_rfl) true rfl rfl (fun _ => q_loadP (6 + R.i.b) tk3 rfl (psAt 0 rfl) (by omega) (rdD_cell (rcells_c R rfl ha))) ?_
  simp only [nO, nK, nL]
  refine aB_s 11 rfl (by kernel_rfl) true rfl rfl (fun _ => q_assign rfl) ?_
  simp only [nO, nK, nL]
  refine aB_nil (by kernel_rfl) ?_
  refine thn_n (awp_ret ?_)
  refine fin1 [] [] rfl Tryz.results50 rfl ?_ (.inr rfl)
  rfl
theorem cc_fn (R : Run) (b : Nat) (ha : R.i.c < 16) : Con Tryz.prog 52 [.pointer (some ⟨b, 0, none⟩)] [At b 0 ((rcells R).map D.v)] [] fun r _ _ => r = .int .i64 R.cc := by
  refine Con.enter Tryz.func52 rfl (by simp [Tryz.ntmps52]) ?_
  show awp _ _ _ _ ⟨[(0, true, _)], _, _⟩
  refine awp_seq (awp_region (aL_s true rfl rfl (fun _ => q_assign rfl) (aL_nil (thn_n (awp_seq ?_)))))
  refine awp_drawn [] (by kernel_rfl) ?_
  show aB _ _ _ _ _ 12 #[false, false, false, false, false, false, false, false, false, false, false, false] _
  refine aB_s 0 rfl (by kernel_rfl) true rfl rfl (fun _ => q_move rfl) ?_
  simp only [nO, nK, nL]
  refine aB_s 1 rfl (by kernel_rfl) true rfl rfl (fun _ => q_move rfl) ?_
  simp only [nO, nK, nL]
  refine aB_s 2 rfl (by kernel_rfl) true rfl rfl (fun _ => q_nilCheck rfl) ?_
  simp only [nO, nK, nL]
  refine aB_s 3 rfl (by kernel_rfl) true rfl rfl (fun _ => q_fieldAddr (off := 1) (by kernel_rfl) rfl) ?_
  simp only [nO, nK, nL]
  refine aB_s 4 rfl (by kernel_rfl) true rfl rfl (fun _ => q_fieldAddr (off := 3) (by kernel_rfl) rfl) ?_
  simp only [nO, nK, nL]
  refine aB_s 5 rfl (by kernel_rfl) true rfl rfl (fun _ => q_loadP 4 tk3 rfl (psAt 0 rfl) rfl rfl) ?_
  simp only [nO, nK, nL]
  refine aB_s 6 rfl (by kernel_rfl) true rfl rfl (fun _ => q_nilCheck rfl) ?_
  simp only [nO, nK, nL]
  refine aB_s 7 rfl (by kernel_rfl) true rfl rfl (fun _ => q_fieldAddr (off := 6) (by kernel_rfl) rfl) ?_
  simp only [nO, nK, nL]
  refine aB_s 8 rfl (by kernel_rfl) true rfl rfl (fun _ => q_fieldAddr (off := 0) (by kernel_rfl) rfl) ?_
  simp only [nO, nK, nL]
  refine aB_s 9 rfl (by kernel_rfl) true rfl rfl (fun _ => q_idxArr (R.i.c) Tryz.underlying31 tk3 rfl rfl (rfl) (ha)) ?_
  simp only [nO, nK, nL]
  refine aB_s 10 rfl (by kernel_rfl) true rfl rfl (fun _ => q_loadP (6 + R.i.c) tk3 rfl (psAt 0 rfl) (by omega) (rdD_cell (rcells_c R rfl ha))) ?_
  simp only [nO, nK, nL]
  refine aB_s 11 rfl (by kernel_rfl) true rfl rfl (fun _ => q_assign rfl) ?_
  simp only [nO, nK, nL]
  refine aB_nil (by kernel_rfl) ?_
  refine thn_n (awp_ret ?_)
  refine fin1 [] [] rfl Tryz.results52 rfl ?_ (.inr rfl)
  rfl
theorem set_fn (R : Run) (b : Nat) (n : Int) (ha : R.i.a < 16) : Con Tryz.prog 47 [.pointer (some ⟨b, 0, none⟩), .int .i64 n] [] [Box b 65 (rcells R)]
    fun r ps' hp' => r = .tuple #[] ∧ ps' = [] ∧ hp' = [Box b 65 (rcells (R.put n))] := by
  refine Con.enter Tryz.func47 rfl (by simp [Tryz.ntmps47]) ?_
  show awp _ _ _ _ ⟨[(0, true, _), (1, true, _)], _, _⟩
  refine awp_drawn [11] (by kernel_rfl) ?_
  show aB _ _ _ _ _ 12 #[false, false, false, false, false, false, false, false, false, false, false, false] _
  refine aB_s 0 rfl (by kernel_rfl) true rfl rfl (fun _ => q_move rfl) ?_
  simp only [nO, nK, nL]
  refine aB_s 1 rfl (by kernel_rfl) true rfl rfl (fun _ => q_move rfl) ?_
  simp only [nO, nK, nL]
  refine aB_s 2 rfl (by kernel_rfl) true rfl rfl (fun _ => q_nilCheck rfl) ?_
  simp only [nO, nK, nL]
  refine aB_s 3 rfl (by kernel_rfl) true rfl rfl (fun _ => q_fieldAddr (off := 1) (by kernel_rfl) rfl) ?_
  simp only [nO, nK, nL]
  refine aB_s 4 rfl (by kernel_rfl) true rfl rfl (fun _ => q_fieldAddr (off := 1) (by kernel_rfl) rfl) ?_
  simp only [nO, nK, nL]
  refine aB_s 5 rfl (by kernel_rfl) true rfl rfl (fun _ => q_load 0 tk3 rfl rfl rfl) ?_
  simp only [nO, nK, nL]
  refine aB_s 6 rfl (by kernel_rfl) true rfl rfl (fun _ => q_move rfl) ?_
  simp only [nO, nK, nL]
  refine aB_s 7 rfl (by kernel_rfl) true rfl rfl (fun _ => q_nilCheck rfl) ?_
  simp only [nO, nK, nL]
  refine aB_s 8 rfl (by kernel_rfl) true rfl rfl (fun _ => q_fieldAddr (off := 23) (by kernel_rfl) rfl) ?_
  simp only [nO, nK, nL]
  refine aB_s 9 rfl (by kernel_rfl) true rfl rfl (fun _ => q_fieldAddr (off := 0) (by kernel_rfl) rfl) ?_
  simp only [nO, nK, nL]
  refine aB_s 10 rfl (by kernel_rfl) true rfl rfl (fun _ => q_idxArr (R.i.a) Tryz.underlying31 tk3 rfl rfl (rfl) (ha)) ?_
  simp only [nO, nK, nL]
  refine aB_eff 11 rfl (by kernel_rfl) rfl rfl (e_storeW 0 ([.int .i64 n]) (rcells (R.put n)) tk3 rfl rfl rfl rfl rfl (fun v hv => by rw [List.mem_singleton.1 hv]; rfl) (by show _ ≤ 43; omega) (rcells_put R n (by omega) ha) ?_)
  simp only [nO, nK, nL]
  refine aB_nil (by kernel_rfl) ?_
  refine fin0 [] [0] rfl Tryz.results47 ?_ (.inl rfl)
  exact ⟨rfl, rfl, rfl⟩
theorem load_fn (R : Run) (M : Mem) (b : Nat) (at_ size : Int) (hat : I64 at_) (hb : R.bad = false) : Con Tryz.prog 63 [.pointer (some ⟨b, 0, none⟩), .int .i64 at_, .int .i64 size] [] [Box b 65 (rcells R), SpR R.p M]
    fun r ps' hp' => r = .int .i64 (loadM M at_ size).1 ∧ ps' = [] ∧ hp' = [Box b 65 (rcells (R.ld M at_ size)), SpR R.p M] := by
  obtain ⟨p, i, c, nx, ek, en, bad⟩ := R
  dsimp only at hb
  subst hb
  refine Con.enter Tryz.func63 rfl (by simp [Tryz.ntmps63]) ?_
  show awp _ _ _ _ ⟨[(0, true, _), (1, true, _), (2, true, _)], _, _⟩
  refine awp_seq (awp_region (aL_s true rfl rfl (fun _ => q_assign rfl) (aL_nil (thn_n (awp_seq (awp_region (aL_s true rfl rfl (fun _ => q_move rfl) ?_)))))))
  refine aL_s true rfl rfl (fun _ => q_nilCheck rfl) ?_
  refine aL_s true rfl rfl (fun _ => q_fieldAddr (off := 0) (by kernel_rfl) rfl) ?_
  refine aL_s true rfl rfl (fun _ => q_load 0 tk27 rfl rfl rfl) (aL_s true rfl rfl (fun _ => q_move rfl) (aL_s true rfl rfl (fun _ => q_move rfl) ?_))
  refine aL_s true rfl rfl (fun _ => q_call (by kernel_rfl) rfl (fun w S fp hst => q_spload hst 1 rfl at_ size hat)) ?_
  refine aL_s true rfl rfl (fun _ => q_move rfl) (aL_s true rfl rfl (fun _ => q_extract rfl rfl) (aL_s true rfl rfl (fun _ => q_extract rfl rfl) (aL_s true rfl rfl (fun _ => q_assign rfl) (aL_s true rfl rfl (fun _ => q_assign rfl) (aL_nil (thn_n (awp_seq ?_)))))))
  refine awp_region (aL_s true rfl rfl (fun _ => q_move rfl) (aL_s true rfl rfl (fun _ => q_move rfl) (aL_s true rfl rfl (fun _ => q_nilCheck rfl) ?_)))
  refine aL_s true rfl rfl (fun _ => q_fieldAddr (off := 42) (by kernel_rfl) rfl) ?_
  refine aL_s true rfl rfl (fun _ => q_load 0 tk4 rfl rfl rfl) (aL_s true rfl rfl (fun _ => q_move rfl) (aL_s _ rfl rfl (fun hc => q_move rfl) (aL_s _ rfl rfl (fun hc => q_neq (ev_yes rfl hc) rfl) (aL_s true rfl rfl (fun _ => q_or rfl rfl (fun h => gf rfl h)) (aL_s true rfl rfl (fun _ => q_nilCheck rfl) ?_)))))
  refine aL_s true rfl rfl (fun _ => q_fieldAddr (off := 42) (by kernel_rfl) rfl) ?_
  refine aL_eff rfl (e_store 0 tk4 rfl rfl rfl rfl ?_)
  simp only [nK, nL]
  refine aL_nil (thn_n (awp_seq (awp_region (aL_s true rfl rfl (fun _ => q_move rfl) (aL_s true rfl rfl (fun _ => q_assign rfl) (aL_nil (thn_n ?_)))))))
  refine awp_ret ?_
  refine fin1 [] [0, 1] rfl Tryz.results63 rfl ?_ (.inr rfl)
  exact ⟨rfl, rfl, rfl⟩
theorem store_fn (R : Run) (M : Mem) (b : Nat) (at_ size n : Int) (hat : I64 at_) (hb : R.bad = false) : Con Tryz.prog 66 [.pointer (some ⟨b, 0, none⟩), .int .i64 at_, .int .i64 size, .int .i64 n] [] [Box b 65 (rcells R), SpR R.p M]
    fun r ps' hp' => r = .tuple #[] ∧ ps' = [] ∧ hp' = [Box b 65 (rcells (R.st M at_ size n)), SpR R.p (storeM M at_ size n).1] := by
  obtain ⟨p, i, c, nx, ek, en, bad⟩ := R
  dsimp only at hb
  subst hb
  refine Con.enter Tryz.func66 rfl (by simp [Tryz.ntmps66]) ?_
  show awp _ _ _ _ ⟨[(0, true, _), (1, true, _), (2, true, _), (3, true, _)], _, _⟩
  refine awp_region (aL_s true rfl rfl (fun _ => q_move rfl) (aL_s true rfl rfl (fun _ => q_move rfl) (aL_s true rfl rfl (fun _ => q_nilCheck rfl) ?_)))
  refine aL_s true rfl rfl (fun _ => q_fieldAddr (off := 42) (by kernel_rfl) rfl) ?_
  refine aL_s true rfl rfl (fun _ => q_load 0 tk4 rfl rfl rfl) (aL_s true rfl rfl (fun _ => q_move rfl) (aL_s _ rfl rfl (fun hc => q_move rfl) (aL_s _ rfl rfl (fun hc => q_nilCheck (ev_yes rfl hc)) ?_)))
  refine aL_s _ rfl rfl (fun hc => q_fieldAddr (off := 0) (by kernel_rfl) (ev_yes rfl hc)) ?_
  refine aL_s _ rfl rfl (fun hc => q_load 0 tk27 (ev_yes rfl hc) rfl rfl) (aL_s _ rfl rfl (fun hc => q_move rfl) (aL_s _ rfl rfl (fun hc => q_move rfl) (aL_s _ rfl rfl (fun hc => q_move rfl) ?_)))
  refine aL_eff (q := false) rfl (e_call [] [1] (by kernel_rfl) rfl rfl rfl rfl (store_con at_ size n hat) ?_)
  rintro v ps' hp' ⟨rfl, rfl, rfl⟩
  refine aL_s _ rfl rfl (fun hc => q_neq (ev_yes rfl hc) rfl) (aL_s true rfl rfl (fun _ => q_or rfl rfl (fun h => gf rfl h)) (aL_s true rfl rfl (fun _ => q_nilCheck rfl) ?_))
  refine aL_s true rfl rfl (fun _ => q_fieldAddr (off := 42) (by kernel_rfl) rfl) ?_
  refine aL_eff rfl (e_store 0 tk4 rfl rfl rfl rfl ?_)
  simp only [nK, nL]
  refine aL_nil ?_
  refine fin0 [] [0, 1] rfl Tryz.results66 ?_ (.inl rfl)
  exact ⟨rfl, rfl, rfl⟩
theorem jump_fn (R : Run) (b : Nat) (ok : Bool) : Con Tryz.prog 69 [.pointer (some ⟨b, 0, none⟩), .bool ok] [] [Box b 65 (rcells R)]
    fun r ps' hp' => r = .tuple #[] ∧ ps' = [] ∧ hp' = [Box b 65 (rcells (R.jump ok))] := by
  refine Con.enter Tryz.func69 rfl (by simp [Tryz.ntmps69]) ?_
  show awp _ _ _ _ ⟨[(0, true, _), (1, true, _)], _, _⟩
  refine awp_seq (awp_region (aL_s true rfl rfl (fun _ => q_move rfl) (aL_nil (thn_n ?_))))
  refine awp_cond _ rfl (fun h1 => ?_) (fun h1 => ?_)
  ·skip
   refine awp_drawn [15] (by kernel_rfl) ?_
   show aB _ _ _ _ _ 16 #[false, false, false, false, false, false, false, false, false, false, false, false, false, false, false, false] _
   refine aB_s 0 rfl (by kernel_rfl) true rfl rfl (fun _ => q_move rfl) ?_
   simp only [nO, nK, nL]
   refine aB_s 1 rfl (by kernel_rfl) true rfl rfl (fun _ => q_move rfl) ?_
   simp only [nO, nK, nL]
   refine aB_s 2 rfl (by kernel_rfl) true rfl rfl (fun _ => q_nilCheck rfl) ?_
   simp only [nO, nK, nL]
   refine aB_s 3 rfl (by kernel_rfl) true rfl rfl (fun _ => q_fieldAddr (off := 6) (by kernel_rfl) rfl) ?_
   simp only [nO, nK, nL]
   refine aB_s 4 rfl (by kernel_rfl) true rfl rfl (fun _ => q_fieldAddr (off := 16) (by kernel_rfl) rfl) ?_
   simp only [nO, nK, nL]
   refine aB_s 5 rfl (by kernel_rfl) true rfl rfl (fun _ => q_load 0 tk3 rfl rfl rfl) ?_
   simp only [nO, nK, nL]
   refine aB_s 6 rfl (by kernel_rfl) true rfl rfl (fun _ => q_move rfl) ?_
   simp only [nO, nK, nL]
   refine aB_s 7 rfl (by kernel_rfl) true rfl rfl (fun _ => q_nilCheck rfl) ?_
   simp only [nO, nK, nL]
   refine aB_s 8 rfl (by kernel_rfl) true rfl rfl (fun _ => q_fieldAddr (off := 1) (by kernel_rfl) rfl) ?_
   simp only [nO, nK, nL]
   refine aB_s 9 rfl (by kernel_rfl) true rfl rfl (fun _ => q_fieldAddr (off := 4) (by kernel_rfl) rfl) ?_
   simp only [nO, nK, nL]
   refine aB_s 10 rfl (by kernel_rfl) true rfl rfl (fun _ => q_load 0 tk3 rfl rfl rfl) ?_
   simp only [nO, nK, nL]
   refine aB_s 11 rfl (by kernel_rfl) true rfl rfl (fun _ => q_add rfl rfl) ?_
   simp only [nO, nK, nL]
   refine aB_s 12 rfl (by kernel_rfl) true rfl rfl (fun _ => q_nilCheck rfl) ?_
   simp only [nO, nK, nL]
   refine aB_s 13 rfl (by kernel_rfl) true rfl rfl (fun _ => q_fieldAddr (off := 23) (by kernel_rfl) rfl) ?_
   simp only [nO, nK, nL]
   refine aB_s 14 rfl (by kernel_rfl) true rfl rfl (fun _ => q_fieldAddr (off := 16) (by kernel_rfl) rfl) ?_
   simp only [nO, nK, nL]
   refine aB_eff 15 rfl (by kernel_rfl) rfl rfl (e_store 0 tk3 rfl rfl rfl rfl ?_)
   simp only [nO, nK, nL]
   refine aB_nil (by kernel_rfl) ?_
   refine fin0 [] [0] rfl Tryz.results69 ?_ (.inl rfl)
   subst h1; exact ⟨rfl, rfl, rfl⟩
  ·skip
   refine awp_skip ?_
   refine fin0 [] [0] rfl Tryz.results69 ?_ (.inl rfl)
   subst h1; exact ⟨rfl, rfl, rfl⟩
theorem wrap_in (n : Int) : I64 (IntKind.i64.wrap n) := by
  unfold I64; rw [IntKind.wrap_i64]; omega
theorem push_fn (R : Run) (M : Mem) (b : Nat) (n : Int) (hb : R.bad = false) : Con Tryz.prog 73 [.pointer (some ⟨b, 0, none⟩), .int .i64 n] [] [Box b 65 (rcells R), SpR R.p M]
    fun r ps' hp' => r = .tuple #[] ∧ ps' = [] ∧ hp' = [Box b 65 (rcells (R.push M n).1), SpR R.p (R.push M n).2] := by
  refine Con.enter Tryz.func73 rfl (by simp [Tryz.ntmps73]) ?_
  show awp _ _ _ _ ⟨[(0, true, _), (1, true, _)], _, _⟩
  refine awp_seq ?_
  refine awp_drawn [12] (by kernel_rfl) ?_
  show aB _ _ _ _ _ 13 #[false, false, false, false, false, false, false, false, false, false, false, false, false] _
  refine aB_s 0 rfl (by kernel_rfl) true rfl rfl (fun _ => q_move rfl) ?_
  simp only [nO, nK, nL]
  refine aB_s 1 rfl (by kernel_rfl) true rfl rfl (fun _ => q_move rfl) ?_
  simp only [nO, nK, nL]
  refine aB_s 2 rfl (by kernel_rfl) true rfl rfl (fun _ => q_nilCheck rfl) ?_
  simp only [nO, nK, nL]
  refine aB_s 3 rfl (by kernel_rfl) true rfl rfl (fun _ => q_fieldAddr (off := 6) (by kernel_rfl) rfl) ?_
  simp only [nO, nK, nL]
  refine aB_s 4 rfl (by kernel_rfl) true rfl rfl (fun _ => q_fieldAddr (off := 0) (by kernel_rfl) rfl) ?_
  simp only [nO, nK, nL]
  refine aB_s 5 rfl (by kernel_rfl) true rfl rfl (fun _ => q_idxArr (15) Tryz.underlying31 tk3 rfl rfl (rfl) (by decide)) ?_
  simp only [nO, nK, nL]
  refine aB_s 6 rfl (by kernel_rfl) true rfl rfl (fun _ => q_load 0 tk3 rfl rfl rfl) ?_
  simp only [nO, nK, nL]
  refine aB_s 7 rfl (by kernel_rfl) true rfl rfl (fun _ => q_sub rfl rfl) ?_
  simp only [nO, nK, nL]
  refine aB_s 8 rfl (by kernel_rfl) true rfl rfl (fun _ => q_nilCheck rfl) ?_
  simp only [nO, nK, nL]
  refine aB_s 9 rfl (by kernel_rfl) true rfl rfl (fun _ => q_fieldAddr (off := 23) (by kernel_rfl) rfl) ?_
  simp only [nO, nK, nL]
  refine aB_s 10 rfl (by kernel_rfl) true rfl rfl (fun _ => q_fieldAddr (off := 0) (by kernel_rfl) rfl) ?_
  simp only [nO, nK, nL]
  refine aB_s 11 rfl (by kernel_rfl) true rfl rfl (fun _ => q_idxArr (15) Tryz.underlying31 tk3 rfl rfl (rfl) (by decide)) ?_
  simp only [nO, nK, nL]
  refine aB_eff 12 rfl (by kernel_rfl) rfl rfl (e_store 0 tk3 rfl rfl rfl rfl ?_)
  simp only [nO, nK, nL]
  refine aB_nil (by kernel_rfl) ?_
  refine thn_n (awp_region (aL_s true rfl rfl (fun _ => q_move rfl) (aL_s true rfl rfl (fun _ => q_move rfl) (aL_s true rfl rfl (fun _ => q_nilCheck rfl) ?_))))
  refine aL_s true rfl rfl (fun _ => q_fieldAddr (off := 23) (by kernel_rfl) rfl) ?_
  refine aL_s true rfl rfl (fun _ => q_fieldAddr (off := 0) (by kernel_rfl) rfl) ?_
  refine aL_s true rfl rfl (fun _ => q_idxArr (15) Tryz.underlying31 tk3 rfl rfl (rfl) (by decide)) ?_
  refine aL_s true rfl rfl (fun _ => q_load 0 tk3 rfl rfl rfl) (aL_s true rfl rfl (fun _ => q_move rfl) ?_)
  refine aL_eff (q := false) rfl (e_call [] [0, 1] (by kernel_rfl) rfl rfl rfl rfl (store_fn { R with nx := R.nx.set 15 (w64 (R.c.r 15 - 8)) } M b _ 8 n (wrap_in _) hb) ?_)
  rintro v ps' hp' ⟨rfl, rfl, rfl⟩
  refine aL_nil ?_
  refine fin0 [] [0, 1] rfl Tryz.results73 ?_ (.inl rfl)
  exact ⟨rfl, rfl, rfl⟩
theorem pop_fn (R : Run) (M : Mem) (b : Nat) (hr : I64 (R.c.r 15)) (hb : R.bad = false) : Con Tryz.prog 79 [.pointer (some ⟨b, 0, none⟩)] [] [Box b 65 (rcells R), SpR R.p M]
    fun r ps' hp' => r = .int .i64 (loadM M (R.c.r 15) 8).1 ∧ ps' = [] ∧ hp' = [Box b 65 (rcells (R.pop M)), SpR R.p M] := by
  refine Con.enter Tryz.func79 rfl (by simp [Tryz.ntmps79]) ?_
  show awp _ _ _ _ ⟨[(0, true, _)], _, _⟩
  refine awp_seq (awp_region (aL_s true rfl rfl (fun _ => q_assign rfl) (aL_nil (thn_n (awp_seq ?_)))))
  refine awp_drawn [12] (by kernel_rfl) ?_
  show aB _ _ _ _ _ 13 #[false, false, false, false, false, false, false, false, false, false, false, false, false] _
  refine aB_s 0 rfl (by kernel_rfl) true rfl rfl (fun _ => q_move rfl) ?_
  simp only [nO, nK, nL]
  refine aB_s 1 rfl (by kernel_rfl) true rfl rfl (fun _ => q_move rfl) ?_
  simp only [nO, nK, nL]
  refine aB_s 2 rfl (by kernel_rfl) true rfl rfl (fun _ => q_nilCheck rfl) ?_
  simp only [nO, nK, nL]
  refine aB_s 3 rfl (by kernel_rfl) true rfl rfl (fun _ => q_fieldAddr (off := 6) (by kernel_rfl) rfl) ?_
  simp only [nO, nK, nL]
  refine aB_s 4 rfl (by kernel_rfl) true rfl rfl (fun _ => q_fieldAddr (off := 0) (by kernel_rfl) rfl) ?_
  simp only [nO, nK, nL]
  refine aB_s 5 rfl (by kernel_rfl) true rfl rfl (fun _ => q_idxArr (15) Tryz.underlying31 tk3 rfl rfl (rfl) (by decide)) ?_
  simp only [nO, nK, nL]
  refine aB_s 6 rfl (by kernel_rfl) true rfl rfl (fun _ => q_load 0 tk3 rfl rfl rfl) ?_
  simp only [nO, nK, nL]
  refine aB_s 7 rfl (by kernel_rfl) true rfl rfl (fun _ => q_add rfl rfl) ?_
  simp only [nO, nK, nL]
  refine aB_s 8 rfl (by kernel_rfl) true rfl rfl (fun _ => q_nilCheck rfl) ?_
  simp only [nO, nK, nL]
  refine aB_s 9 rfl (by kernel_rfl) true rfl rfl (fun _ => q_fieldAddr (off := 23) (by kernel_rfl) rfl) ?_
  simp only [nO, nK, nL]
  refine aB_s 10 rfl (by kernel_rfl) true rfl rfl (fun _ => q_fieldAddr (off := 0) (by kernel_rfl) rfl) ?_
  simp only [nO, nK, nL]
  refine aB_s 11 rfl (by kernel_rfl) true rfl rfl (fun _ => q_idxArr (15) Tryz.underlying31 tk3 rfl rfl (rfl) (by decide)) ?_
  simp only [nO, nK, nL]
  refine aB_eff 12 rfl (by kernel_rfl) rfl rfl (e_store 0 tk3 rfl rfl rfl rfl ?_)
  simp only [nO, nK, nL]
  refine aB_nil (by kernel_rfl) ?_
  refine thn_n (awp_seq (awp_region (aL_s true rfl rfl (fun _ => q_move rfl) (aL_s true rfl rfl (fun _ => q_move rfl) (aL_s true rfl rfl (fun _ => q_nilCheck rfl) ?_)))))
  refine aL_s true rfl rfl (fun _ => q_fieldAddr (off := 6) (by kernel_rfl) rfl) ?_
  refine aL_s true rfl rfl (fun _ => q_fieldAddr (off := 0) (by kernel_rfl) rfl) ?_
  refine aL_s true rfl rfl (fun _ => q_idxArr (15) Tryz.underlying31 tk3 rfl rfl (rfl) (by decide)) ?_
  refine aL_s true rfl rfl (fun _ => q_load 0 tk3 rfl rfl rfl) ?_
  refine aL_eff (q := false) rfl (e_call [] [0, 1] (by kernel_rfl) rfl rfl rfl rfl (load_fn { R with nx := R.nx.set 15 (w64 (R.c.r 15 + 8)) } M b _ 8 hr hb) ?_)
  rintro v ps' hp' ⟨rfl, rfl, rfl⟩
  refine aL_s true rfl rfl (fun _ => q_assign rfl) (aL_nil (thn_n (awp_ret ?_)))
  refine fin1 [] [0, 1] rfl Tryz.results79 rfl ?_ (.inr rfl)
  exact ⟨rfl, rfl, rfl⟩
theorem slot_fn (R : Run) (M : Mem) (b : Nat) (call : Bool) (hb : R.bad = false) : Con Tryz.prog 76 [.pointer (some ⟨b, 0, none⟩), .bool call] [] [Box b 65 (rcells R), SpR R.p M]
    fun r ps' hp' => r = .tuple #[] ∧ ps' = [] ∧ hp' = [Box b 65 (rcells (R.slot M call).1), SpR R.p (R.slot M call).2] := by
  refine Con.enter Tryz.func76 rfl (by simp [Tryz.ntmps76]) ?_
  show awp _ _ _ _ ⟨[(0, true, _), (1, true, _)], _, _⟩
  refine awp_seq ?_
  refine awp_drawn [] (by kernel_rfl) ?_
  show aB _ _ _ _ _ 12 #[false, false, false, false, false, false, false, false, false, false, false, false] _
  refine aB_s 0 rfl (by kernel_rfl) true rfl rfl (fun _ => q_move rfl) ?_
  simp only [nO, nK, nL]
  refine aB_s 1 rfl (by kernel_rfl) true rfl rfl (fun _ => q_nilCheck rfl) ?_
  simp only [nO, nK, nL]
  refine aB_s 2 rfl (by kernel_rfl) true rfl rfl (fun _ => q_fieldAddr (off := 6) (by kernel_rfl) rfl) ?_
  simp only [nO, nK, nL]
  refine aB_s 3 rfl (by kernel_rfl) true rfl rfl (fun _ => q_fieldAddr (off := 16) (by kernel_rfl) rfl) ?_
  simp only [nO, nK, nL]
  refine aB_s 4 rfl (by kernel_rfl) true rfl rfl (fun _ => q_load 0 tk3 rfl rfl rfl) ?_
  simp only [nO, nK, nL]
  refine aB_s 5 rfl (by kernel_rfl) true rfl rfl (fun _ => q_move rfl) ?_
  simp only [nO, nK, nL]
  refine aB_s 6 rfl (by kernel_rfl) true rfl rfl (fun _ => q_nilCheck rfl) ?_
  simp only [nO, nK, nL]
  refine aB_s 7 rfl (by kernel_rfl) true rfl rfl (fun _ => q_fieldAddr (off := 1) (by kernel_rfl) rfl) ?_
  simp only [nO, nK, nL]
  refine aB_s 8 rfl (by kernel_rfl) true rfl rfl (fun _ => q_fieldAddr (off := 4) (by kernel_rfl) rfl) ?_
  simp only [nO, nK, nL]
  refine aB_s 9 rfl (by kernel_rfl) true rfl rfl (fun _ => q_load 0 tk3 rfl rfl rfl) ?_
  simp only [nO, nK, nL]
  refine aB_s 10 rfl (by kernel_rfl) true rfl rfl (fun _ => q_add rfl rfl) ?_
  simp only [nO, nK, nL]
  refine aB_s 11 rfl (by kernel_rfl) true rfl rfl (fun _ => q_assign rfl) ?_
  simp only [nO, nK, nL]
  refine aB_nil (by kernel_rfl) ?_
  refine thn_n (awp_seq (awp_region (aL_s true rfl rfl (fun _ => q_move rfl) (aL_s true rfl rfl (fun _ => q_move rfl) ?_))))
  refine aL_eff (q := false) rfl (e_call [] [0, 1] (by kernel_rfl) rfl rfl rfl rfl (load_fn R M b _ 8 (wrap_in _) hb) ?_)
  rintro v ps' hp' ⟨rfl, rfl, rfl⟩
  refine aL_s true rfl rfl (fun _ => q_assign rfl) (aL_nil (thn_n (awp_block (awp_seq (awp_region (aL_s true rfl rfl (fun _ => q_move rfl) (aL_s true rfl rfl (fun _ => q_nilCheck rfl) ?_)))))))
  refine aL_s true rfl rfl (fun _ => q_fieldAddr (off := 42) (by kernel_rfl) rfl) ?_
  refine aL_s true rfl rfl (fun _ => q_load 0 tk4 rfl rfl rfl) (aL_s true rfl rfl (fun _ => q_assign rfl) (aL_nil (thn_n ?_)))
  refine awp_cond _ rfl (fun h1 => ?_) (fun h1 => ?_)
  ·skip
   refine awp_skip (blk_n ?_)
   refine fin0 [] [0, 1] rfl Tryz.results76 ?_ (.inl rfl)
   have e : R.slot M call = (R.ld M (w64 (R.c.pc + R.i.imm)) 8, M) := by unfold Run.slot; dsimp only; rw [if_pos h1]
   rw [e]; exact ⟨rfl, rfl, rfl⟩
  ·skip
   refine awp_seq (awp_region (aL_s true rfl rfl (fun _ => q_move rfl) (aL_s true rfl rfl (fun _ => q_eql rfl rfl) (aL_s true rfl rfl (fun _ => q_assign rfl) (aL_nil (thn_n ?_))))))
   refine awp_cond _ rfl (fun h2 => ?_) (fun h2 => ?_)
   ·skip
    refine awp_region (aL_s true rfl rfl (fun _ => q_move rfl) (aL_s true rfl rfl (fun _ => q_move rfl) (aL_s true rfl rfl (fun _ => q_move rfl) (aL_s true rfl rfl (fun _ => q_nilCheck rfl) ?_))))
    refine aL_s true rfl rfl (fun _ => q_fieldAddr (off := 6) (by kernel_rfl) rfl) ?_
    refine aL_s true rfl rfl (fun _ => q_load 0 tk33 rfl rfl rfl) (aL_s true rfl rfl (fun _ => q_move rfl) ?_)
    refine aL_s true rfl rfl (fun _ => q_bld (l := [(0, .const (.int .i64 3)), (1, .tmp 48)]) (zs := [.int .i64 0, .int .i64 0]) (pl := [(0, 1), (1, 1)]) (by kernel_rfl) (by kernel_rfl) (by kernel_rfl) rfl rfl rfl) ?_
    refine aL_s true rfl rfl (fun _ => q_nilCheck rfl) ?_
    refine aL_s true rfl rfl (fun _ => q_fieldAddr (off := 23) (by kernel_rfl) rfl) ?_
    refine aL_eff rfl (e_store 0 tk33 rfl rfl rfl rfl ?_)
    simp only [nK, nL]
    refine aL_s true rfl rfl (fun _ => q_nilCheck rfl) ?_
    refine aL_s true rfl rfl (fun _ => q_fieldAddr (off := 40) (by kernel_rfl) rfl) ?_
    refine aL_eff rfl (e_store 0 tk36 rfl rfl rfl rfl ?_)
    simp only [nK, nL]
    refine aL_nil (blk_n ?_)
    refine fin0 [] [0, 1] rfl Tryz.results76 ?_ (.inl rfl)
    have e : R.slot M call = ({ R.ld M (w64 (R.c.pc + R.i.imm)) 8 with nx := R.c, ek := 3, en := w64 (R.c.pc + R.i.imm) }, M) := by unfold Run.slot; dsimp only; rw [if_neg (by rw [h1]; decide), if_pos (by simpa using h2)]; rfl
    rw [e]; exact ⟨rfl, rfl, rfl⟩
   ·skip
    refine awp_seq (awp_seq (awp_region (aL_s true rfl rfl (fun _ => q_move rfl) (aL_nil (thn_n ?_)))))
    refine awp_cond _ rfl (fun h3 => ?_) (fun h3 => ?_)
    ·skip
     refine awp_region (aL_s true rfl rfl (fun _ => q_move rfl) (aL_s true rfl rfl (fun _ => q_move rfl) (aL_s true rfl rfl (fun _ => q_nilCheck rfl) ?_)))
     refine aL_s true rfl rfl (fun _ => q_fieldAddr (off := 6) (by kernel_rfl) rfl) ?_
     refine aL_s true rfl rfl (fun _ => q_fieldAddr (off := 16) (by kernel_rfl) rfl) ?_
     refine aL_s true rfl rfl (fun _ => q_load 0 tk3 rfl rfl rfl) (aL_s true rfl rfl (fun _ => q_add rfl rfl) ?_)
     refine aL_eff (q := false) rfl (e_call [] [0, 1] (by kernel_rfl) rfl rfl rfl rfl (push_fn (R.ld M (w64 (R.c.pc + R.i.imm)) 8) M b _ h1) ?_)
     rintro v ps' hp' ⟨rfl, rfl, rfl⟩
     refine aL_nil (thn_n (awp_region (aL_s true rfl rfl (fun _ => q_move rfl) (aL_s true rfl rfl (fun _ => q_move rfl) (aL_s true rfl rfl (fun _ => q_nilCheck rfl) ?_)))))
     refine aL_s true rfl rfl (fun _ => q_fieldAddr (off := 23) (by kernel_rfl) rfl) ?_
     refine aL_s true rfl rfl (fun _ => q_fieldAddr (off := 16) (by kernel_rfl) rfl) ?_
     refine aL_eff rfl (e_store 0 tk3 rfl rfl rfl rfl ?_)
     simp only [nK, nL]
     refine aL_nil (blk_n ?_)
     refine fin0 [] [0, 1] rfl Tryz.results76 ?_ (.inl rfl)
     have e : R.slot M call = ((Run.push (R.ld M (w64 (R.c.pc + R.i.imm)) 8) M (w64 (R.c.pc + 8))).1.to (loadM M (w64 (R.c.pc + R.i.imm)) 8).1, (Run.push (R.ld M (w64 (R.c.pc + R.i.imm)) 8) M (w64 (R.c.pc + 8))).2) := by unfold Run.slot; dsimp only; rw [if_neg (by rw [h1]; decide), if_neg (by simpa using h2), if_pos h3]; rfl
     rw [e]; exact ⟨rfl, rfl, rfl⟩
    ·skip
     refine awp_skip (thn_n (awp_region (aL_s true rfl rfl (fun _ => q_move rfl) (aL_s true rfl rfl (fun _ => q_move rfl) (aL_s true rfl rfl (fun _ => q_nilCheck rfl) ?_)))))
     refine aL_s true rfl rfl (fun _ => q_fieldAddr (off := 23) (by kernel_rfl) rfl) ?_
     refine aL_s true rfl rfl (fun _ => q_fieldAddr (off := 16) (by kernel_rfl) rfl) ?_
     refine aL_eff rfl (e_store 0 tk3 rfl rfl rfl rfl ?_)
     simp only [nK, nL]
     refine aL_nil (blk_n ?_)
     refine fin0 [] [0, 1] rfl Tryz.results76 ?_ (.inl rfl)
     have e : R.slot M call = ((R.ld M (w64 (R.c.pc + R.i.imm)) 8).to (loadM M (w64 (R.c.pc + R.i.imm)) 8).1, M) := by unfold Run.slot; dsimp only; rw [if_neg (by rw [h1]; decide), if_neg (by simpa using h2), if_neg (by rw [h3]; decide)]
     rw [e]; exact ⟨rfl, rfl, rfl⟩
end Go.Proofs.YtpgcoceggacplaaGreatDoor
namespace Go.Proofs.YtpgcoceggacplaaGreatDoor
open Go.RowKit Go.Lp Go.Sy
structure RunOk (R : Run) : Prop where
  a : R.i.a < 16
  b : R.i.b < 16
  c : R.i.c < 16
  r : ∀ k, I64 (R.c.r k)
  bad : R.bad = false
theorem op1_fn (R : Run) (M : Mem) (b : Nat) (hok : RunOk R) : Con Tryz.prog 44 [.pointer (some ⟨b, 0, none⟩)] [] [Box b 65 (rcells R), SpR R.p M]
    fun r ps' hp' => r = .tuple #[] ∧ ps' = [] ∧ hp' = [Box b 65 (rcells (R.exec M 1).1), SpR R.p (R.exec M 1).2] := by
  refine Con.enter Tryz.func44 rfl (by simp [Tryz.ntmps44]) ?_
  show awp _ _ _ _ ⟨[(0, true, _)], _, _⟩
  refine awp_skip ?_
  refine fin0 [] [0, 1] rfl Tryz.results44 ?_ (.inl rfl)
  exact ⟨rfl, rfl, rfl⟩
theorem op2_fn (R : Run) (M : Mem) (b : Nat) (hok : RunOk R) : Con Tryz.prog 45 [.pointer (some ⟨b, 0, none⟩)] [] [Box b 65 (rcells R), SpR R.p M]
    fun r ps' hp' => r = .tuple #[] ∧ ps' = [] ∧ hp' = [Box b 65 (rcells (R.exec M 2).1), SpR R.p (R.exec M 2).2] := by
  refine Con.enter Tryz.func45 rfl (by simp [Tryz.ntmps45]) ?_
  show awp _ _ _ _ ⟨[(0, true, _)], _, _⟩
  refine awp_region (aL_s true rfl rfl (fun _ => q_move rfl) (aL_s true rfl rfl (fun _ => q_nilCheck rfl) ?_))
  refine aL_s true rfl rfl (fun _ => q_fieldAddr (off := 40) (by kernel_rfl) rfl) ?_
  refine aL_s true rfl rfl (fun _ => q_fieldAddr (off := 0) (by kernel_rfl) rfl) ?_
  refine aL_eff rfl (e_store 0 tk3 rfl rfl rfl rfl ?_)
  simp only [nK, nL]
  refine aL_nil ?_
  refine fin0 [] [0, 1] rfl Tryz.results45 ?_ (.inl rfl)
  exact ⟨rfl, rfl, rfl⟩
theorem op3_fn (R : Run) (M : Mem) (b : Nat) (hok : RunOk R) : Con Tryz.prog 46 [.pointer (some ⟨b, 0, none⟩)] [] [Box b 65 (rcells R), SpR R.p M]
    fun r ps' hp' => r = .tuple #[] ∧ ps' = [] ∧ hp' = [Box b 65 (rcells (R.exec M 3).1), SpR R.p (R.exec M 3).2] := by
  refine Con.enter Tryz.func46 rfl (by simp [Tryz.ntmps46]) ?_
  show awp _ _ _ _ ⟨[(0, true, _)], _, _⟩
  refine awp_region (aL_s true rfl rfl (fun _ => q_move rfl) (aL_s true rfl rfl (fun _ => q_move rfl) (aL_s true rfl rfl (fun _ => q_nilCheck rfl) ?_)))
  refine aL_s true rfl rfl (fun _ => q_fieldAddr (off := 1) (by kernel_rfl) rfl) ?_
  refine aL_s true rfl rfl (fun _ => q_fieldAddr (off := 4) (by kernel_rfl) rfl) ?_
  refine aL_s true rfl rfl (fun _ => q_load 0 tk3 rfl rfl rfl) ?_
  refine aL_eff (q := false) rfl (e_call [] [0] (by kernel_rfl) rfl rfl rfl rfl (set_fn R b _ hok.a) ?_)
  rintro v ps' hp' ⟨rfl, rfl, rfl⟩
  refine aL_nil ?_
  refine fin0 [] [0, 1] rfl Tryz.results46 ?_ (.inl rfl)
  exact ⟨rfl, rfl, rfl⟩
theorem op4_fn (R : Run) (M : Mem) (b : Nat) (hok : RunOk R) : Con Tryz.prog 48 [.pointer (some ⟨b, 0, none⟩)] [] [Box b 65 (rcells R), SpR R.p M]
    fun r ps' hp' => r = .tuple #[] ∧ ps' = [] ∧ hp' = [Box b 65 (rcells (R.exec M 4).1), SpR R.p (R.exec M 4).2] := by
  refine Con.enter Tryz.func48 rfl (by simp [Tryz.ntmps48]) ?_
  show awp _ _ _ _ ⟨[(0, true, _)], _, _⟩
  refine awp_drawn [20] (by kernel_rfl) ?_
  show aB _ _ _ _ _ 21 #[false, false, false, false, false, false, false, false, false, false, false, false, false, false, false, false, false, false, false, false, false] _
  refine aB_s 0 rfl (by kernel_rfl) true rfl rfl (fun _ => q_move rfl) ?_
  simp only [nO, nK, nL]
  refine aB_s 1 rfl (by kernel_rfl) true rfl rfl (fun _ => q_move rfl) ?_
  simp only [nO, nK, nL]
  refine aB_s 2 rfl (by kernel_rfl) true rfl rfl (fun _ => q_move rfl) ?_
  simp only [nO, nK, nL]
  refine aB_s 3 rfl (by kernel_rfl) true rfl rfl (fun _ => q_nilCheck rfl) ?_
  simp only [nO, nK, nL]
  refine aB_s 4 rfl (by kernel_rfl) true rfl rfl (fun _ => q_fieldAddr (off := 1) (by kernel_rfl) rfl) ?_
  simp only [nO, nK, nL]
  refine aB_s 5 rfl (by kernel_rfl) true rfl rfl (fun _ => q_fieldAddr (off := 1) (by kernel_rfl) rfl) ?_
  simp only [nO, nK, nL]
  refine aB_s 6 rfl (by kernel_rfl) true rfl rfl (fun _ => q_load 0 tk3 rfl rfl rfl) ?_
  simp only [nO, nK, nL]
  refine aB_s 7 rfl (by kernel_rfl) true rfl rfl (fun _ => q_nilCheck rfl) ?_
  simp only [nO, nK, nL]
  refine aB_s 8 rfl (by kernel_rfl) true rfl rfl (fun _ => q_fieldAddr (off := 6) (by kernel_rfl) rfl) ?_
  simp only [nO, nK, nL]
  refine aB_s 9 rfl (by kernel_rfl) true rfl rfl (fun _ => q_fieldAddr (off := 0) (by kernel_rfl) rfl) ?_
  simp only [nO, nK, nL]
  refine aB_s 10 rfl (by kernel_rfl) true rfl rfl (fun _ => q_idxArr (R.i.a) Tryz.underlying31 tk3 rfl rfl (rfl) (hok.a)) ?_
  simp only [nO, nK, nL]
  refine aB_s 11 rfl (by kernel_rfl) true rfl rfl (fun _ => q_load 0 tk3 rfl rfl (rcells_c R (by omega) hok.a)) ?_
  simp only [nO, nK, nL]
  refine aB_s 12 rfl (by kernel_rfl) true rfl rfl (fun _ => q_andB rfl rfl) ?_
  simp only [nO, nK, nL]
  refine aB_s 13 rfl (by kernel_rfl) true rfl rfl (fun _ => q_move rfl) ?_
  simp only [nO, nK, nL]
  refine aB_s 14 rfl (by kernel_rfl) true rfl rfl (fun _ => q_nilCheck rfl) ?_
  simp only [nO, nK, nL]
  refine aB_s 15 rfl (by kernel_rfl) true rfl rfl (fun _ => q_fieldAddr (off := 1) (by kernel_rfl) rfl) ?_
  simp only [nO, nK, nL]
  refine aB_s 16 rfl (by kernel_rfl) true rfl rfl (fun _ => q_fieldAddr (off := 4) (by kernel_rfl) rfl) ?_
  simp only [nO, nK, nL]
  refine aB_s 17 rfl (by kernel_rfl) true rfl rfl (fun _ => q_load 0 tk3 rfl rfl rfl) ?_
  simp only [nO, nK, nL]
  refine aB_s 18 rfl (by kernel_rfl) true rfl rfl (fun _ => q_shl rfl rfl (by decide)) ?_
  simp only [nO, nK, nL]
  refine aB_s 19 rfl (by kernel_rfl) true rfl rfl (fun _ => q_orB rfl rfl) ?_
  simp only [nO, nK, nL]
  refine aB_eff (q := false) 20 rfl (by kernel_rfl) rfl rfl (e_call [] [0] (by kernel_rfl) rfl rfl rfl rfl (set_fn R b _ hok.a) ?_)
  rintro v ps' hp' ⟨rfl, rfl, rfl⟩
  simp only [nO, nK, nL]
  refine aB_nil (by kernel_rfl) ?_
  refine fin0 [] [0, 1] rfl Tryz.results48 ?_ (.inl rfl)
  exact ⟨rfl, rfl, rfl⟩
theorem op5_fn (R : Run) (M : Mem) (b : Nat) (hok : RunOk R) : Con Tryz.prog 49 [.pointer (some ⟨b, 0, none⟩)] [] [Box b 65 (rcells R), SpR R.p M]
    fun r ps' hp' => r = .tuple #[] ∧ ps' = [] ∧ hp' = [Box b 65 (rcells (R.exec M 5).1), SpR R.p (R.exec M 5).2] := by
  refine Con.enter Tryz.func49 rfl (by simp [Tryz.ntmps49]) ?_
  show awp _ _ _ _ ⟨[(0, true, _)], _, _⟩
  refine awp_region (aL_s true rfl rfl (fun _ => q_move rfl) (aL_s true rfl rfl (fun _ => q_move rfl) ?_))
  refine aL_s true rfl rfl (fun _ => q_call (by kernel_rfl) rfl (fun w S fp hst => q_lendB (b_fn R b hok.b) (rcells_one R) hst 0 rfl)) ?_
  refine aL_eff (q := false) rfl (e_call [] [0] (by kernel_rfl) rfl rfl rfl rfl (set_fn R b _ hok.a) ?_)
  rintro v ps' hp' ⟨rfl, rfl, rfl⟩
  refine aL_nil ?_
  refine fin0 [] [0, 1] rfl Tryz.results49 ?_ (.inl rfl)
  exact ⟨rfl, rfl, rfl⟩
theorem op6_fn (R : Run) (M : Mem) (b : Nat) (hok : RunOk R) : Con Tryz.prog 51 [.pointer (some ⟨b, 0, none⟩)] [] [Box b 65 (rcells R), SpR R.p M]
    fun r ps' hp' => r = .tuple #[] ∧ ps' = [] ∧ hp' = [Box b 65 (rcells (R.exec M 6).1), SpR R.p (R.exec M 6).2] := by
  refine Con.enter Tryz.func51 rfl (by simp [Tryz.ntmps51]) ?_
  show awp _ _ _ _ ⟨[(0, true, _)], _, _⟩
  refine awp_region (aL_s true rfl rfl (fun _ => q_move rfl) (aL_s true rfl rfl (fun _ => q_move rfl) ?_))
  refine aL_s true rfl rfl (fun _ => q_call (by kernel_rfl) rfl (fun w S fp hst => q_lendB (b_fn R b hok.b) (rcells_one R) hst 0 rfl)) ?_
  refine aL_s true rfl rfl (fun _ => q_move rfl) ?_
  refine aL_s true rfl rfl (fun _ => q_call (by kernel_rfl) rfl (fun w S fp hst => q_lendB (cc_fn R b hok.c) (rcells_one R) hst 0 rfl)) ?_
  refine aL_s true rfl rfl (fun _ => q_add rfl rfl) ?_
  refine aL_eff (q := false) rfl (e_call [] [0] (by kernel_rfl) rfl rfl rfl rfl (set_fn R b _ hok.a) ?_)
  rintro v ps' hp' ⟨rfl, rfl, rfl⟩
  refine aL_nil ?_
  refine fin0 [] [0, 1] rfl Tryz.results51 ?_ (.inl rfl)
  exact ⟨rfl, rfl, rfl⟩
theorem op7_fn (R : Run) (M : Mem) (b : Nat) (hok : RunOk R) : Con Tryz.prog 53 [.pointer (some ⟨b, 0, none⟩)] [] [Box b 65 (rcells R), SpR R.p M]
    fun r ps' hp' => r = .tuple #[] ∧ ps' = [] ∧ hp' = [Box b 65 (rcells (R.exec M 7).1), SpR R.p (R.exec M 7).2] := by
  refine Con.enter Tryz.func53 rfl (by simp [Tryz.ntmps53]) ?_
  show awp _ _ _ _ ⟨[(0, true, _)], _, _⟩
  refine awp_region (aL_s true rfl rfl (fun _ => q_move rfl) (aL_s true rfl rfl (fun _ => q_move rfl) ?_))
  refine aL_s true rfl rfl (fun _ => q_call (by kernel_rfl) rfl (fun w S fp hst => q_lendB (b_fn R b hok.b) (rcells_one R) hst 0 rfl)) ?_
  refine aL_s true rfl rfl (fun _ => q_move rfl) ?_
  refine aL_s true rfl rfl (fun _ => q_call (by kernel_rfl) rfl (fun w S fp hst => q_lendB (cc_fn R b hok.c) (rcells_one R) hst 0 rfl)) ?_
  refine aL_s true rfl rfl (fun _ => q_sub rfl rfl) ?_
  refine aL_eff (q := false) rfl (e_call [] [0] (by kernel_rfl) rfl rfl rfl rfl (set_fn R b _ hok.a) ?_)
  rintro v ps' hp' ⟨rfl, rfl, rfl⟩
  refine aL_nil ?_
  refine fin0 [] [0, 1] rfl Tryz.results53 ?_ (.inl rfl)
  exact ⟨rfl, rfl, rfl⟩
theorem op8_fn (R : Run) (M : Mem) (b : Nat) (hok : RunOk R) : Con Tryz.prog 54 [.pointer (some ⟨b, 0, none⟩)] [] [Box b 65 (rcells R), SpR R.p M]
    fun r ps' hp' => r = .tuple #[] ∧ ps' = [] ∧ hp' = [Box b 65 (rcells (R.exec M 8).1), SpR R.p (R.exec M 8).2] := by
  refine Con.enter Tryz.func54 rfl (by simp [Tryz.ntmps54]) ?_
  show awp _ _ _ _ ⟨[(0, true, _)], _, _⟩
  refine awp_region (aL_s true rfl rfl (fun _ => q_move rfl) (aL_s true rfl rfl (fun _ => q_move rfl) ?_))
  refine aL_s true rfl rfl (fun _ => q_call (by kernel_rfl) rfl (fun w S fp hst => q_lendB (b_fn R b hok.b) (rcells_one R) hst 0 rfl)) ?_
  refine aL_s true rfl rfl (fun _ => q_move rfl) ?_
  refine aL_s true rfl rfl (fun _ => q_call (by kernel_rfl) rfl (fun w S fp hst => q_lendB (cc_fn R b hok.c) (rcells_one R) hst 0 rfl)) ?_
  refine aL_s true rfl rfl (fun _ => q_mul rfl rfl) ?_
  refine aL_eff (q := false) rfl (e_call [] [0] (by kernel_rfl) rfl rfl rfl rfl (set_fn R b _ hok.a) ?_)
  rintro v ps' hp' ⟨rfl, rfl, rfl⟩
  refine aL_nil ?_
  refine fin0 [] [0, 1] rfl Tryz.results54 ?_ (.inl rfl)
  exact ⟨rfl, rfl, rfl⟩
theorem op9_fn (R : Run) (M : Mem) (b : Nat) (hok : RunOk R) : Con Tryz.prog 55 [.pointer (some ⟨b, 0, none⟩)] [] [Box b 65 (rcells R), SpR R.p M]
    fun r ps' hp' => r = .tuple #[] ∧ ps' = [] ∧ hp' = [Box b 65 (rcells (R.exec M 9).1), SpR R.p (R.exec M 9).2] := by
  refine Con.enter Tryz.func55 rfl (by simp [Tryz.ntmps55]) ?_
  show awp _ _ _ _ ⟨[(0, true, _)], _, _⟩
  refine awp_region (aL_s true rfl rfl (fun _ => q_move rfl) (aL_s true rfl rfl (fun _ => q_move rfl) ?_))
  refine aL_s true rfl rfl (fun _ => q_call (by kernel_rfl) rfl (fun w S fp hst => q_lendB (b_fn R b hok.b) (rcells_one R) hst 0 rfl)) ?_
  refine aL_s true rfl rfl (fun _ => q_move rfl) ?_
  refine aL_s true rfl rfl (fun _ => q_call (by kernel_rfl) rfl (fun w S fp hst => q_lendB (cc_fn R b hok.c) (rcells_one R) hst 0 rfl)) ?_
  refine aL_s true rfl rfl (fun _ => q_andB rfl rfl) ?_
  refine aL_eff (q := false) rfl (e_call [] [0] (by kernel_rfl) rfl rfl rfl rfl (set_fn R b _ hok.a) ?_)
  rintro v ps' hp' ⟨rfl, rfl, rfl⟩
  refine aL_nil ?_
  refine fin0 [] [0, 1] rfl Tryz.results55 ?_ (.inl rfl)
  exact ⟨rfl, rfl, rfl⟩
theorem op10_fn (R : Run) (M : Mem) (b : Nat) (hok : RunOk R) : Con Tryz.prog 56 [.pointer (some ⟨b, 0, none⟩)] [] [Box b 65 (rcells R), SpR R.p M]
    fun r ps' hp' => r = .tuple #[] ∧ ps' = [] ∧ hp' = [Box b 65 (rcells (R.exec M 10).1), SpR R.p (R.exec M 10).2] := by
  refine Con.enter Tryz.func56 rfl (by simp [Tryz.ntmps56]) ?_
  show awp _ _ _ _ ⟨[(0, true, _)], _, _⟩
  refine awp_region (aL_s true rfl rfl (fun _ => q_move rfl) (aL_s true rfl rfl (fun _ => q_move rfl) ?_))
  refine aL_s true rfl rfl (fun _ => q_call (by kernel_rfl) rfl (fun w S fp hst => q_lendB (b_fn R b hok.b) (rcells_one R) hst 0 rfl)) ?_
  refine aL_s true rfl rfl (fun _ => q_move rfl) ?_
  refine aL_s true rfl rfl (fun _ => q_call (by kernel_rfl) rfl (fun w S fp hst => q_lendB (cc_fn R b hok.c) (rcells_one R) hst 0 rfl)) ?_
  refine aL_s true rfl rfl (fun _ => q_orB rfl rfl) ?_
  refine aL_eff (q := false) rfl (e_call [] [0] (by kernel_rfl) rfl rfl rfl rfl (set_fn R b _ hok.a) ?_)
  rintro v ps' hp' ⟨rfl, rfl, rfl⟩
  refine aL_nil ?_
  refine fin0 [] [0, 1] rfl Tryz.results56 ?_ (.inl rfl)
  exact ⟨rfl, rfl, rfl⟩
theorem op11_fn (R : Run) (M : Mem) (b : Nat) (hok : RunOk R) : Con Tryz.prog 57 [.pointer (some ⟨b, 0, none⟩)] [] [Box b 65 (rcells R), SpR R.p M]
    fun r ps' hp' => r = .tuple #[] ∧ ps' = [] ∧ hp' = [Box b 65 (rcells (R.exec M 11).1), SpR R.p (R.exec M 11).2] := by
  refine Con.enter Tryz.func57 rfl (by simp [Tryz.ntmps57]) ?_
  show awp _ _ _ _ ⟨[(0, true, _)], _, _⟩
  refine awp_region (aL_s true rfl rfl (fun _ => q_move rfl) (aL_s true rfl rfl (fun _ => q_move rfl) ?_))
  refine aL_s true rfl rfl (fun _ => q_call (by kernel_rfl) rfl (fun w S fp hst => q_lendB (b_fn R b hok.b) (rcells_one R) hst 0 rfl)) ?_
  refine aL_s true rfl rfl (fun _ => q_move rfl) ?_
  refine aL_s true rfl rfl (fun _ => q_call (by kernel_rfl) rfl (fun w S fp hst => q_lendB (cc_fn R b hok.c) (rcells_one R) hst 0 rfl)) ?_
  refine aL_s true rfl rfl (fun _ => q_lss rfl rfl) ?_
  refine aL_s true rfl rfl (fun _ => q_call (by kernel_rfl) rfl (fun w S fp hst => (truth_fn _).quiet0 hst)) ?_
  refine aL_eff (q := false) rfl (e_call [] [0] (by kernel_rfl) rfl rfl rfl rfl (set_fn R b _ hok.a) ?_)
  rintro v ps' hp' ⟨rfl, rfl, rfl⟩
  refine aL_nil ?_
  refine fin0 [] [0, 1] rfl Tryz.results57 ?_ (.inl rfl)
  exact ⟨rfl, rfl, rfl⟩
theorem op12_fn (R : Run) (M : Mem) (b : Nat) (hok : RunOk R) : Con Tryz.prog 59 [.pointer (some ⟨b, 0, none⟩)] [] [Box b 65 (rcells R), SpR R.p M]
    fun r ps' hp' => r = .tuple #[] ∧ ps' = [] ∧ hp' = [Box b 65 (rcells (R.exec M 12).1), SpR R.p (R.exec M 12).2] := by
  refine Con.enter Tryz.func59 rfl (by simp [Tryz.ntmps59]) ?_
  show awp _ _ _ _ ⟨[(0, true, _)], _, _⟩
  refine awp_region (aL_s true rfl rfl (fun _ => q_move rfl) (aL_s true rfl rfl (fun _ => q_move rfl) ?_))
  refine aL_s true rfl rfl (fun _ => q_call (by kernel_rfl) rfl (fun w S fp hst => q_lendB (b_fn R b hok.b) (rcells_one R) hst 0 rfl)) ?_
  refine aL_s true rfl rfl (fun _ => q_move rfl) ?_
  refine aL_s true rfl rfl (fun _ => q_call (by kernel_rfl) rfl (fun w S fp hst => q_lendB (cc_fn R b hok.c) (rcells_one R) hst 0 rfl)) ?_
  refine aL_s true rfl rfl (fun _ => q_eql rfl rfl) ?_
  refine aL_s true rfl rfl (fun _ => q_call (by kernel_rfl) rfl (fun w S fp hst => (truth_fn _).quiet0 hst)) ?_
  refine aL_eff (q := false) rfl (e_call [] [0] (by kernel_rfl) rfl rfl rfl rfl (set_fn R b _ hok.a) ?_)
  rintro v ps' hp' ⟨rfl, rfl, rfl⟩
  refine aL_nil ?_
  refine fin0 [] [0, 1] rfl Tryz.results59 ?_ (.inl rfl)
  exact ⟨rfl, rfl, rfl⟩
theorem op13_fn (R : Run) (M : Mem) (b : Nat) (hok : RunOk R) : Con Tryz.prog 60 [.pointer (some ⟨b, 0, none⟩)] [] [Box b 65 (rcells R), SpR R.p M]
    fun r ps' hp' => r = .tuple #[] ∧ ps' = [] ∧ hp' = [Box b 65 (rcells (R.exec M 13).1), SpR R.p (R.exec M 13).2] := by
  refine Con.enter Tryz.func60 rfl (by simp [Tryz.ntmps60]) ?_
  show awp _ _ _ _ ⟨[(0, true, _)], _, _⟩
  refine awp_drawn [9] (by kernel_rfl) ?_
  show aB _ _ _ _ _ 10 #[false, false, false, false, false, false, false, false, false, false] _
  refine aB_s 0 rfl (by kernel_rfl) true rfl rfl (fun _ => q_move rfl) ?_
  simp only [nO, nK, nL]
  refine aB_s 1 rfl (by kernel_rfl) true rfl rfl (fun _ => q_move rfl) ?_
  simp only [nO, nK, nL]
  refine aB_s 2 rfl (by kernel_rfl) true rfl rfl (fun _ => q_call (by kernel_rfl) rfl (fun w S fp hst => q_lendB (b_fn R b hok.b) (rcells_one R) hst 0 rfl)) ?_
  simp only [nO, nK, nL]
  refine aB_s 3 rfl (by kernel_rfl) true rfl rfl (fun _ => q_move rfl) ?_
  simp only [nO, nK, nL]
  refine aB_s 4 rfl (by kernel_rfl) true rfl rfl (fun _ => q_nilCheck rfl) ?_
  simp only [nO, nK, nL]
  refine aB_s 5 rfl (by kernel_rfl) true rfl rfl (fun _ => q_fieldAddr (off := 1) (by kernel_rfl) rfl) ?_
  simp only [nO, nK, nL]
  refine aB_s 6 rfl (by kernel_rfl) true rfl rfl (fun _ => q_fieldAddr (off := 4) (by kernel_rfl) rfl) ?_
  simp only [nO, nK, nL]
  refine aB_s 7 rfl (by kernel_rfl) true rfl rfl (fun _ => q_load 0 tk3 rfl rfl rfl) ?_
  simp only [nO, nK, nL]
  refine aB_s 8 rfl (by kernel_rfl) true rfl rfl (fun _ => q_add rfl rfl) ?_
  simp only [nO, nK, nL]
  refine aB_eff (q := false) 9 rfl (by kernel_rfl) rfl rfl (e_call [] [0] (by kernel_rfl) rfl rfl rfl rfl (set_fn R b _ hok.a) ?_)
  rintro v ps' hp' ⟨rfl, rfl, rfl⟩
  simp only [nO, nK, nL]
  refine aB_nil (by kernel_rfl) ?_
  refine fin0 [] [0, 1] rfl Tryz.results60 ?_ (.inl rfl)
  exact ⟨rfl, rfl, rfl⟩
theorem op14_fn (R : Run) (M : Mem) (b : Nat) (hok : RunOk R) : Con Tryz.prog 61 [.pointer (some ⟨b, 0, none⟩)] [] [Box b 65 (rcells R), SpR R.p M]
    fun r ps' hp' => r = .tuple #[] ∧ ps' = [] ∧ hp' = [Box b 65 (rcells (R.exec M 14).1), SpR R.p (R.exec M 14).2] := by
  refine Con.enter Tryz.func61 rfl (by simp [Tryz.ntmps61]) ?_
  show awp _ _ _ _ ⟨[(0, true, _)], _, _⟩
  refine awp_drawn [12] (by kernel_rfl) ?_
  show aB _ _ _ _ _ 13 #[false, false, false, false, false, false, false, false, false, false, false, false, false] _
  refine aB_s 0 rfl (by kernel_rfl) true rfl rfl (fun _ => q_move rfl) ?_
  simp only [nO, nK, nL]
  refine aB_s 1 rfl (by kernel_rfl) true rfl rfl (fun _ => q_move rfl) ?_
  simp only [nO, nK, nL]
  refine aB_s 2 rfl (by kernel_rfl) true rfl rfl (fun _ => q_nilCheck rfl) ?_
  simp only [nO, nK, nL]
  refine aB_s 3 rfl (by kernel_rfl) true rfl rfl (fun _ => q_fieldAddr (off := 6) (by kernel_rfl) rfl) ?_
  simp only [nO, nK, nL]
  refine aB_s 4 rfl (by kernel_rfl) true rfl rfl (fun _ => q_fieldAddr (off := 16) (by kernel_rfl) rfl) ?_
  simp only [nO, nK, nL]
  refine aB_s 5 rfl (by kernel_rfl) true rfl rfl (fun _ => q_load 0 tk3 rfl rfl rfl) ?_
  simp only [nO, nK, nL]
  refine aB_s 6 rfl (by kernel_rfl) true rfl rfl (fun _ => q_move rfl) ?_
  simp only [nO, nK, nL]
  refine aB_s 7 rfl (by kernel_rfl) true rfl rfl (fun _ => q_nilCheck rfl) ?_
  simp only [nO, nK, nL]
  refine aB_s 8 rfl (by kernel_rfl) true rfl rfl (fun _ => q_fieldAddr (off := 1) (by kernel_rfl) rfl) ?_
  simp only [nO, nK, nL]
  refine aB_s 9 rfl (by kernel_rfl) true rfl rfl (fun _ => q_fieldAddr (off := 4) (by kernel_rfl) rfl) ?_
  simp only [nO, nK, nL]
  refine aB_s 10 rfl (by kernel_rfl) true rfl rfl (fun _ => q_load 0 tk3 rfl rfl rfl) ?_
  simp only [nO, nK, nL]
  refine aB_s 11 rfl (by kernel_rfl) true rfl rfl (fun _ => q_add rfl rfl) ?_
  simp only [nO, nK, nL]
  refine aB_eff (q := false) 12 rfl (by kernel_rfl) rfl rfl (e_call [] [0] (by kernel_rfl) rfl rfl rfl rfl (set_fn R b _ hok.a) ?_)
  rintro v ps' hp' ⟨rfl, rfl, rfl⟩
  simp only [nO, nK, nL]
  refine aB_nil (by kernel_rfl) ?_
  refine fin0 [] [0, 1] rfl Tryz.results61 ?_ (.inl rfl)
  exact ⟨rfl, rfl, rfl⟩
theorem op15_fn (R : Run) (M : Mem) (b : Nat) (hok : RunOk R) : Con Tryz.prog 62 [.pointer (some ⟨b, 0, none⟩)] [] [Box b 65 (rcells R), SpR R.p M]
    fun r ps' hp' => r = .tuple #[] ∧ ps' = [] ∧ hp' = [Box b 65 (rcells (R.exec M 15).1), SpR R.p (R.exec M 15).2] := by
  refine Con.enter Tryz.func62 rfl (by simp [Tryz.ntmps62]) ?_
  show awp _ _ _ _ ⟨[(0, true, _)], _, _⟩
  refine awp_drawn [10, 11] (by kernel_rfl) ?_
  show aB _ _ _ _ _ 12 #[false, false, false, false, false, false, false, false, false, false, false, false] _
  refine aB_p 0 rfl (by kernel_rfl) true rfl rfl (fun _ => q_move rfl) ?_
  simp only [nO, nK, nL]
  refine aB_s 1 rfl (by kernel_rfl) true rfl rfl (fun _ => q_move rfl) ?_
  simp only [nO, nK, nL]
  refine aB_s 2 rfl (by kernel_rfl) true rfl rfl (fun _ => q_move rfl) ?_
  simp only [nO, nK, nL]
  refine aB_s 3 rfl (by kernel_rfl) true rfl rfl (fun _ => q_call (by kernel_rfl) rfl (fun w S fp hst => q_lendB (b_fn R b hok.b) (rcells_one R) hst 0 rfl)) ?_
  simp only [nO, nK, nL]
  refine aB_s 4 rfl (by kernel_rfl) true rfl rfl (fun _ => q_move rfl) ?_
  simp only [nO, nK, nL]
  refine aB_s 5 rfl (by kernel_rfl) true rfl rfl (fun _ => q_nilCheck rfl) ?_
  simp only [nO, nK, nL]
  refine aB_s 6 rfl (by kernel_rfl) true rfl rfl (fun _ => q_fieldAddr (off := 1) (by kernel_rfl) rfl) ?_
  simp only [nO, nK, nL]
  refine aB_s 7 rfl (by kernel_rfl) true rfl rfl (fun _ => q_fieldAddr (off := 4) (by kernel_rfl) rfl) ?_
  simp only [nO, nK, nL]
  refine aB_s 8 rfl (by kernel_rfl) true rfl rfl (fun _ => q_load 0 tk3 rfl rfl rfl) ?_
  simp only [nO, nK, nL]
  refine aB_s 9 rfl (by kernel_rfl) true rfl rfl (fun _ => q_add rfl rfl) ?_
  simp only [nO, nK, nL]
  refine aB_eff (q := false) 10 rfl (by kernel_rfl) rfl rfl (e_call [] [0, 1] (by kernel_rfl) rfl rfl rfl rfl (load_fn R M b _ 8 (wrap_in _) hok.bad) ?_)
  rintro v ps' hp' ⟨rfl, rfl, rfl⟩
  simp only [nO, nK, nL]
  refine aB_eff (q := false) 11 rfl (by kernel_rfl) rfl rfl (e_call [] [0] (by kernel_rfl) rfl rfl rfl rfl (set_fn (R.ld M (w64 (R.b + R.i.imm)) 8) b _ hok.a) ?_)
  rintro v ps' hp' ⟨rfl, rfl, rfl⟩
  simp only [nO, nK, nL]
  refine aB_nil (by kernel_rfl) ?_
  refine fin0 [] [0, 1] rfl Tryz.results62 ?_ (.inl rfl)
  exact ⟨rfl, rfl, rfl⟩
theorem op16_fn (R : Run) (M : Mem) (b : Nat) (hok : RunOk R) : Con Tryz.prog 64 [.pointer (some ⟨b, 0, none⟩)] [] [Box b 65 (rcells R), SpR R.p M]
    fun r ps' hp' => r = .tuple #[] ∧ ps' = [] ∧ hp' = [Box b 65 (rcells (R.exec M 16).1), SpR R.p (R.exec M 16).2] := by
  refine Con.enter Tryz.func64 rfl (by simp [Tryz.ntmps64]) ?_
  show awp _ _ _ _ ⟨[(0, true, _)], _, _⟩
  refine awp_drawn [10, 11] (by kernel_rfl) ?_
  show aB _ _ _ _ _ 12 #[false, false, false, false, false, false, false, false, false, false, false, false] _
  refine aB_p 0 rfl (by kernel_rfl) true rfl rfl (fun _ => q_move rfl) ?_
  simp only [nO, nK, nL]
  refine aB_s 1 rfl (by kernel_rfl) true rfl rfl (fun _ => q_move rfl) ?_
  simp only [nO, nK, nL]
  refine aB_s 2 rfl (by kernel_rfl) true rfl rfl (fun _ => q_move rfl) ?_
  simp only [nO, nK, nL]
  refine aB_s 3 rfl (by kernel_rfl) true rfl rfl (fun _ => q_call (by kernel_rfl) rfl (fun w S fp hst => q_lendB (b_fn R b hok.b) (rcells_one R) hst 0 rfl)) ?_
  simp only [nO, nK, nL]
  refine aB_s 4 rfl (by kernel_rfl) true rfl rfl (fun _ => q_move rfl) ?_
  simp only [nO, nK, nL]
  refine aB_s 5 rfl (by kernel_rfl) true rfl rfl (fun _ => q_nilCheck rfl) ?_
  simp only [nO, nK, nL]
  refine aB_s 6 rfl (by kernel_rfl) true rfl rfl (fun _ => q_fieldAddr (off := 1) (by kernel_rfl) rfl) ?_
  simp only [nO, nK, nL]
  refine aB_s 7 rfl (by kernel_rfl) true rfl rfl (fun _ => q_fieldAddr (off := 4) (by kernel_rfl) rfl) ?_
  simp only [nO, nK, nL]
  refine aB_s 8 rfl (by kernel_rfl) true rfl rfl (fun _ => q_load 0 tk3 rfl rfl rfl) ?_
  simp only [nO, nK, nL]
  refine aB_s 9 rfl (by kernel_rfl) true rfl rfl (fun _ => q_add rfl rfl) ?_
  simp only [nO, nK, nL]
  refine aB_eff (q := false) 10 rfl (by kernel_rfl) rfl rfl (e_call [] [0, 1] (by kernel_rfl) rfl rfl rfl rfl (load_fn R M b _ 1 (wrap_in _) hok.bad) ?_)
  rintro v ps' hp' ⟨rfl, rfl, rfl⟩
  simp only [nO, nK, nL]
  refine aB_eff (q := false) 11 rfl (by kernel_rfl) rfl rfl (e_call [] [0] (by kernel_rfl) rfl rfl rfl rfl (set_fn (R.ld M (w64 (R.b + R.i.imm)) 1) b _ hok.a) ?_)
  rintro v ps' hp' ⟨rfl, rfl, rfl⟩
  simp only [nO, nK, nL]
  refine aB_nil (by kernel_rfl) ?_
  refine fin0 [] [0, 1] rfl Tryz.results64 ?_ (.inl rfl)
  exact ⟨rfl, rfl, rfl⟩
theorem op17_fn (R : Run) (M : Mem) (b : Nat) (hok : RunOk R) : Con Tryz.prog 65 [.pointer (some ⟨b, 0, none⟩)] [] [Box b 65 (rcells R), SpR R.p M]
    fun r ps' hp' => r = .tuple #[] ∧ ps' = [] ∧ hp' = [Box b 65 (rcells (R.exec M 17).1), SpR R.p (R.exec M 17).2] := by
  refine Con.enter Tryz.func65 rfl (by simp [Tryz.ntmps65]) ?_
  show awp _ _ _ _ ⟨[(0, true, _)], _, _⟩
  refine awp_drawn [20] (by kernel_rfl) ?_
  show aB _ _ _ _ _ 21 #[false, false, false, false, false, false, false, false, false, false, false, false, false, false, false, false, false, false, false, false, false] _
  refine aB_s 0 rfl (by kernel_rfl) true rfl rfl (fun _ => q_move rfl) ?_
  simp only [nO, nK, nL]
  refine aB_s 1 rfl (by kernel_rfl) true rfl rfl (fun _ => q_move rfl) ?_
  simp only [nO, nK, nL]
  refine aB_s 2 rfl (by kernel_rfl) true rfl rfl (fun _ => q_call (by kernel_rfl) rfl (fun w S fp hst => q_lendB (b_fn R b hok.b) (rcells_one R) hst 0 rfl)) ?_
  simp only [nO, nK, nL]
  refine aB_s 3 rfl (by kernel_rfl) true rfl rfl (fun _ => q_move rfl) ?_
  simp only [nO, nK, nL]
  refine aB_s 4 rfl (by kernel_rfl) true rfl rfl (fun _ => q_nilCheck rfl) ?_
  simp only [nO, nK, nL]
  refine aB_s 5 rfl (by kernel_rfl) true rfl rfl (fun _ => q_fieldAddr (off := 1) (by kernel_rfl) rfl) ?_
  simp only [nO, nK, nL]
  refine aB_s 6 rfl (by kernel_rfl) true rfl rfl (fun _ => q_fieldAddr (off := 4) (by kernel_rfl) rfl) ?_
  simp only [nO, nK, nL]
  refine aB_s 7 rfl (by kernel_rfl) true rfl rfl (fun _ => q_load 0 tk3 rfl rfl rfl) ?_
  simp only [nO, nK, nL]
  refine aB_s 8 rfl (by kernel_rfl) true rfl rfl (fun _ => q_add rfl rfl) ?_
  simp only [nO, nK, nL]
  refine aB_s 9 rfl (by kernel_rfl) true rfl rfl (fun _ => q_move rfl) ?_
  simp only [nO, nK, nL]
  refine aB_s 10 rfl (by kernel_rfl) true rfl rfl (fun _ => q_move rfl) ?_
  simp only [nO, nK, nL]
  refine aB_s 11 rfl (by kernel_rfl) true rfl rfl (fun _ => q_nilCheck rfl) ?_
  simp only [nO, nK, nL]
  refine aB_s 12 rfl (by kernel_rfl) true rfl rfl (fun _ => q_fieldAddr (off := 1) (by kernel_rfl) rfl) ?_
  simp only [nO, nK, nL]
  refine aB_s 13 rfl (by kernel_rfl) true rfl rfl (fun _ => q_fieldAddr (off := 1) (by kernel_rfl) rfl) ?_
  simp only [nO, nK, nL]
  refine aB_s 14 rfl (by kernel_rfl) true rfl rfl (fun _ => q_load 0 tk3 rfl rfl rfl) ?_
  simp only [nO, nK, nL]
  refine aB_s 15 rfl (by kernel_rfl) true rfl rfl (fun _ => q_nilCheck rfl) ?_
  simp only [nO, nK, nL]
  refine aB_s 16 rfl (by kernel_rfl) true rfl rfl (fun _ => q_fieldAddr (off := 6) (by kernel_rfl) rfl) ?_
  simp only [nO, nK, nL]
  refine aB_s 17 rfl (by kernel_rfl) true rfl rfl (fun _ => q_fieldAddr (off := 0) (by kernel_rfl) rfl) ?_
  simp only [nO, nK, nL]
  refine aB_s 18 rfl (by kernel_rfl) true rfl rfl (fun _ => q_idxArr (R.i.a) Tryz.underlying31 tk3 rfl rfl (rfl) (hok.a)) ?_
  simp only [nO, nK, nL]
  refine aB_s 19 rfl (by kernel_rfl) true rfl rfl (fun _ => q_load 0 tk3 rfl rfl (rcells_c R (by omega) hok.a)) ?_
  simp only [nO, nK, nL]
  refine aB_eff (q := false) 20 rfl (by kernel_rfl) rfl rfl (e_call [] [0, 1] (by kernel_rfl) rfl rfl rfl rfl (store_fn R M b _ 8 _ (wrap_in _) hok.bad) ?_)
  rintro v ps' hp' ⟨rfl, rfl, rfl⟩
  simp only [nO, nK, nL]
  refine aB_nil (by kernel_rfl) ?_
  refine fin0 [] [0, 1] rfl Tryz.results65 ?_ (.inl rfl)
  exact ⟨rfl, rfl, rfl⟩
theorem op18_fn (R : Run) (M : Mem) (b : Nat) (hok : RunOk R) : Con Tryz.prog 67 [.pointer (some ⟨b, 0, none⟩)] [] [Box b 65 (rcells R), SpR R.p M]
    fun r ps' hp' => r = .tuple #[] ∧ ps' = [] ∧ hp' = [Box b 65 (rcells (R.exec M 18).1), SpR R.p (R.exec M 18).2] := by
  refine Con.enter Tryz.func67 rfl (by simp [Tryz.ntmps67]) ?_
  show awp _ _ _ _ ⟨[(0, true, _)], _, _⟩
  refine awp_drawn [20] (by kernel_rfl) ?_
  show aB _ _ _ _ _ 21 #[false, false, false, false, false, false, false, false, false, false, false, false, false, false, false, false, false, false, false, false, false] _
  refine aB_s 0 rfl (by kernel_rfl) true rfl rfl (fun _ => q_move rfl) ?_
  simp only [nO, nK, nL]
  refine aB_s 1 rfl (by kernel_rfl) true rfl rfl (fun _ => q_move rfl) ?_
  simp only [nO, nK, nL]
  refine aB_s 2 rfl (by kernel_rfl) true rfl rfl (fun _ => q_call (by kernel_rfl) rfl (fun w S fp hst => q_lendB (b_fn R b hok.b) (rcells_one R) hst 0 rfl)) ?_
  simp only [nO, nK, nL]
  refine aB_s 3 rfl (by kernel_rfl) true rfl rfl (fun _ => q_move rfl) ?_
  simp only [nO, nK, nL]
  refine aB_s 4 rfl (by kernel_rfl) true rfl rfl (fun _ => q_nilCheck rfl) ?_
  simp only [nO, nK, nL]
  refine aB_s 5 rfl (by kernel_rfl) true rfl rfl (fun _ => q_fieldAddr (off := 1) (by kernel_rfl) rfl) ?_
  simp only [nO, nK, nL]
  refine aB_s 6 rfl (by kernel_rfl) true rfl rfl (fun _ => q_fieldAddr (off := 4) (by kernel_rfl) rfl) ?_
  simp only [nO, nK, nL]
  refine aB_s 7 rfl (by kernel_rfl) true rfl rfl (fun _ => q_load 0 tk3 rfl rfl rfl) ?_
  simp only [nO, nK, nL]
  refine aB_s 8 rfl (by kernel_rfl) true rfl rfl (fun _ => q_add rfl rfl) ?_
  simp only [nO, nK, nL]
  refine aB_s 9 rfl (by kernel_rfl) true rfl rfl (fun _ => q_move rfl) ?_
  simp only [nO, nK, nL]
  refine aB_s 10 rfl (by kernel_rfl) true rfl rfl (fun _ => q_move rfl) ?_
  simp only [nO, nK, nL]
  refine aB_s 11 rfl (by kernel_rfl) true rfl rfl (fun _ => q_nilCheck rfl) ?_
  simp only [nO, nK, nL]
  refine aB_s 12 rfl (by kernel_rfl) true rfl rfl (fun _ => q_fieldAddr (off := 1) (by kernel_rfl) rfl) ?_
  simp only [nO, nK, nL]
  refine aB_s 13 rfl (by kernel_rfl) true rfl rfl (fun _ => q_fieldAddr (off := 1) (by kernel_rfl) rfl) ?_
  simp only [nO, nK, nL]
  refine aB_s 14 rfl (by kernel_rfl) true rfl rfl (fun _ => q_load 0 tk3 rfl rfl rfl) ?_
  simp only [nO, nK, nL]
  refine aB_s 15 rfl (by kernel_rfl) true rfl rfl (fun _ => q_nilCheck rfl) ?_
  simp only [nO, nK, nL]
  refine aB_s 16 rfl (by kernel_rfl) true rfl rfl (fun _ => q_fieldAddr (off := 6) (by kernel_rfl) rfl) ?_
  simp only [nO, nK, nL]
  refine aB_s 17 rfl (by kernel_rfl) true rfl rfl (fun _ => q_fieldAddr (off := 0) (by kernel_rfl) rfl) ?_
  simp only [nO, nK, nL]
  refine aB_s 18 rfl (by kernel_rfl) true rfl rfl (fun _ => q_idxArr (R.i.a) Tryz.underlying31 tk3 rfl rfl (rfl) (hok.a)) ?_
  simp only [nO, nK, nL]
  refine aB_s 19 rfl (by kernel_rfl) true rfl rfl (fun _ => q_load 0 tk3 rfl rfl (rcells_c R (by omega) hok.a)) ?_
  simp only [nO, nK, nL]
  refine aB_eff (q := false) 20 rfl (by kernel_rfl) rfl rfl (e_call [] [0, 1] (by kernel_rfl) rfl rfl rfl rfl (store_fn R M b _ 1 _ (wrap_in _) hok.bad) ?_)
  rintro v ps' hp' ⟨rfl, rfl, rfl⟩
  simp only [nO, nK, nL]
  refine aB_nil (by kernel_rfl) ?_
  refine fin0 [] [0, 1] rfl Tryz.results67 ?_ (.inl rfl)
  exact ⟨rfl, rfl, rfl⟩
theorem op19_fn (R : Run) (M : Mem) (b : Nat) (hok : RunOk R) : Con Tryz.prog 68 [.pointer (some ⟨b, 0, none⟩)] [] [Box b 65 (rcells R), SpR R.p M]
    fun r ps' hp' => r = .tuple #[] ∧ ps' = [] ∧ hp' = [Box b 65 (rcells (R.exec M 19).1), SpR R.p (R.exec M 19).2] := by
  refine Con.enter Tryz.func68 rfl (by simp [Tryz.ntmps68]) ?_
  show awp _ _ _ _ ⟨[(0, true, _)], _, _⟩
  refine awp_region (aL_s true rfl rfl (fun _ => q_move rfl) ?_)
  refine aL_eff (q := false) rfl (e_call [] [0] (by kernel_rfl) rfl rfl rfl rfl (jump_fn R b _) ?_)
  rintro v ps' hp' ⟨rfl, rfl, rfl⟩
  refine aL_nil ?_
  refine fin0 [] [0, 1] rfl Tryz.results68 ?_ (.inl rfl)
  exact ⟨rfl, rfl, rfl⟩
theorem op20_fn (R : Run) (M : Mem) (b : Nat) (hok : RunOk R) : Con Tryz.prog 70 [.pointer (some ⟨b, 0, none⟩)] [] [Box b 65 (rcells R), SpR R.p M]
    fun r ps' hp' => r = .tuple #[] ∧ ps' = [] ∧ hp' = [Box b 65 (rcells (R.exec M 20).1), SpR R.p (R.exec M 20).2] := by
  refine Con.enter Tryz.func70 rfl (by simp [Tryz.ntmps70]) ?_
  show awp _ _ _ _ ⟨[(0, true, _)], _, _⟩
  refine awp_drawn [13] (by kernel_rfl) ?_
  show aB _ _ _ _ _ 14 #[false, false, false, false, false, false, false, false, false, false, false, false, false, false] _
  refine aB_s 0 rfl (by kernel_rfl) true rfl rfl (fun _ => q_move rfl) ?_
  simp only [nO, nK, nL]
  refine aB_s 1 rfl (by kernel_rfl) true rfl rfl (fun _ => q_move rfl) ?_
  simp only [nO, nK, nL]
  refine aB_s 2 rfl (by kernel_rfl) true rfl rfl (fun _ => q_move rfl) ?_
  simp only [nO, nK, nL]
  refine aB_s 3 rfl (by kernel_rfl) true rfl rfl (fun _ => q_nilCheck rfl) ?_
  simp only [nO, nK, nL]
  refine aB_s 4 rfl (by kernel_rfl) true rfl rfl (fun _ => q_fieldAddr (off := 1) (by kernel_rfl) rfl) ?_
  simp only [nO, nK, nL]
  refine aB_s 5 rfl (by kernel_rfl) true rfl rfl (fun _ => q_fieldAddr (off := 1) (by kernel_rfl) rfl) ?_
  simp only [nO, nK, nL]
  refine aB_s 6 rfl (by kernel_rfl) true rfl rfl (fun _ => q_load 0 tk3 rfl rfl rfl) ?_
  simp only [nO, nK, nL]
  refine aB_s 7 rfl (by kernel_rfl) true rfl rfl (fun _ => q_nilCheck rfl) ?_
  simp only [nO, nK, nL]
  refine aB_s 8 rfl (by kernel_rfl) true rfl rfl (fun _ => q_fieldAddr (off := 6) (by kernel_rfl) rfl) ?_
  simp only [nO, nK, nL]
  refine aB_s 9 rfl (by kernel_rfl) true rfl rfl (fun _ => q_fieldAddr (off := 0) (by kernel_rfl) rfl) ?_
  simp only [nO, nK, nL]
  refine aB_s 10 rfl (by kernel_rfl) true rfl rfl (fun _ => q_idxArr (R.i.a) Tryz.underlying31 tk3 rfl rfl (rfl) (hok.a)) ?_
  simp only [nO, nK, nL]
  refine aB_s 11 rfl (by kernel_rfl) true rfl rfl (fun _ => q_load 0 tk3 rfl rfl (rcells_c R (by omega) hok.a)) ?_
  simp only [nO, nK, nL]
  refine aB_s 12 rfl (by kernel_rfl) true rfl rfl (fun _ => q_eql rfl rfl) ?_
  simp only [nO, nK, nL]
  refine aB_eff (q := false) 13 rfl (by kernel_rfl) rfl rfl (e_call [] [0] (by kernel_rfl) rfl rfl rfl rfl (jump_fn R b _) ?_)
  rintro v ps' hp' ⟨rfl, rfl, rfl⟩
  simp only [nO, nK, nL]
  refine aB_nil (by kernel_rfl) ?_
  refine fin0 [] [0, 1] rfl Tryz.results70 ?_ (.inl rfl)
  exact ⟨rfl, rfl, rfl⟩
theorem op21_fn (R : Run) (M : Mem) (b : Nat) (hok : RunOk R) : Con Tryz.prog 71 [.pointer (some ⟨b, 0, none⟩)] [] [Box b 65 (rcells R), SpR R.p M]
    fun r ps' hp' => r = .tuple #[] ∧ ps' = [] ∧ hp' = [Box b 65 (rcells (R.exec M 21).1), SpR R.p (R.exec M 21).2] := by
  refine Con.enter Tryz.func71 rfl (by simp [Tryz.ntmps71]) ?_
  show awp _ _ _ _ ⟨[(0, true, _)], _, _⟩
  refine awp_drawn [13] (by kernel_rfl) ?_
  show aB _ _ _ _ _ 14 #[false, false, false, false, false, false, false, false, false, false, false, false, false, false] _
  refine aB_s 0 rfl (by kernel_rfl) true rfl rfl (fun _ => q_move rfl) ?_
  simp only [nO, nK, nL]
  refine aB_s 1 rfl (by kernel_rfl) true rfl rfl (fun _ => q_move rfl) ?_
  simp only [nO, nK, nL]
  refine aB_s 2 rfl (by kernel_rfl) true rfl rfl (fun _ => q_move rfl) ?_
  simp only [nO, nK, nL]
  refine aB_s 3 rfl (by kernel_rfl) true rfl rfl (fun _ => q_nilCheck rfl) ?_
  simp only [nO, nK, nL]
  refine aB_s 4 rfl (by kernel_rfl) true rfl rfl (fun _ => q_fieldAddr (off := 1) (by kernel_rfl) rfl) ?_
  simp only [nO, nK, nL]
  refine aB_s 5 rfl (by kernel_rfl) true rfl rfl (fun _ => q_fieldAddr (off := 1) (by kernel_rfl) rfl) ?_
  simp only [nO, nK, nL]
  refine aB_s 6 rfl (by kernel_rfl) true rfl rfl (fun _ => q_load 0 tk3 rfl rfl rfl) ?_
  simp only [nO, nK, nL]
  refine aB_s 7 rfl (by kernel_rfl) true rfl rfl (fun _ => q_nilCheck rfl) ?_
  simp only [nO, nK, nL]
  refine aB_s 8 rfl (by kernel_rfl) true rfl rfl (fun _ => q_fieldAddr (off := 6) (by kernel_rfl) rfl) ?_
  simp only [nO, nK, nL]
  refine aB_s 9 rfl (by kernel_rfl) true rfl rfl (fun _ => q_fieldAddr (off := 0) (by kernel_rfl) rfl) ?_
  simp only [nO, nK, nL]
  refine aB_s 10 rfl (by kernel_rfl) true rfl rfl (fun _ => q_idxArr (R.i.a) Tryz.underlying31 tk3 rfl rfl (rfl) (hok.a)) ?_
  simp only [nO, nK, nL]
  refine aB_s 11 rfl (by kernel_rfl) true rfl rfl (fun _ => q_load 0 tk3 rfl rfl (rcells_c R (by omega) hok.a)) ?_
  simp only [nO, nK, nL]
  refine aB_s 12 rfl (by kernel_rfl) true rfl rfl (fun _ => q_neq rfl rfl) ?_
  simp only [nO, nK, nL]
  refine aB_eff (q := false) 13 rfl (by kernel_rfl) rfl rfl (e_call [] [0] (by kernel_rfl) rfl rfl rfl rfl (jump_fn R b _) ?_)
  rintro v ps' hp' ⟨rfl, rfl, rfl⟩
  simp only [nO, nK, nL]
  refine aB_nil (by kernel_rfl) ?_
  refine fin0 [] [0, 1] rfl Tryz.results71 ?_ (.inl rfl)
  exact ⟨rfl, rfl, rfl⟩
theorem op22_fn (R : Run) (M : Mem) (b : Nat) (hok : RunOk R) : Con Tryz.prog 72 [.pointer (some ⟨b, 0, none⟩)] [] [Box b 65 (rcells R), SpR R.p M]
    fun r ps' hp' => r = .tuple #[] ∧ ps' = [] ∧ hp' = [Box b 65 (rcells (R.exec M 22).1), SpR R.p (R.exec M 22).2] := by
  refine Con.enter Tryz.func72 rfl (by simp [Tryz.ntmps72]) ?_
  show awp _ _ _ _ ⟨[(0, true, _)], _, _⟩
  refine awp_seq (awp_region (aL_s true rfl rfl (fun _ => q_move rfl) (aL_s true rfl rfl (fun _ => q_move rfl) (aL_s true rfl rfl (fun _ => q_nilCheck rfl) ?_))))
  refine aL_s true rfl rfl (fun _ => q_fieldAddr (off := 6) (by kernel_rfl) rfl) ?_
  refine aL_s true rfl rfl (fun _ => q_fieldAddr (off := 16) (by kernel_rfl) rfl) ?_
  refine aL_s true rfl rfl (fun _ => q_load 0 tk3 rfl rfl rfl) (aL_s true rfl rfl (fun _ => q_add rfl rfl) ?_)
  refine aL_eff (q := false) rfl (e_call [] [0, 1] (by kernel_rfl) rfl rfl rfl rfl (push_fn R M b _ hok.bad) ?_)
  rintro v ps' hp' ⟨rfl, rfl, rfl⟩
  refine aL_nil (thn_n (awp_region (aL_s true rfl rfl (fun _ => q_move rfl) ?_)))
  refine aL_eff (q := false) rfl (e_call [] [0] (by kernel_rfl) rfl rfl rfl rfl (jump_fn (R.push M (w64 (R.c.pc + 8))).1 b _) ?_)
  rintro v ps' hp' ⟨rfl, rfl, rfl⟩
  refine aL_nil ?_
  refine fin0 [] [0, 1] rfl Tryz.results72 ?_ (.inl rfl)
  exact ⟨rfl, rfl, rfl⟩
theorem op23_fn (R : Run) (M : Mem) (b : Nat) (hok : RunOk R) : Con Tryz.prog 74 [.pointer (some ⟨b, 0, none⟩)] [] [Box b 65 (rcells R), SpR R.p M]
    fun r ps' hp' => r = .tuple #[] ∧ ps' = [] ∧ hp' = [Box b 65 (rcells (R.exec M 23).1), SpR R.p (R.exec M 23).2] := by
  refine Con.enter Tryz.func74 rfl (by simp [Tryz.ntmps74]) ?_
  show awp _ _ _ _ ⟨[(0, true, _)], _, _⟩
  refine awp_seq (awp_region (aL_s true rfl rfl (fun _ => q_move rfl) (aL_s true rfl rfl (fun _ => q_move rfl) (aL_s true rfl rfl (fun _ => q_nilCheck rfl) ?_))))
  refine aL_s true rfl rfl (fun _ => q_fieldAddr (off := 6) (by kernel_rfl) rfl) ?_
  refine aL_s true rfl rfl (fun _ => q_fieldAddr (off := 16) (by kernel_rfl) rfl) ?_
  refine aL_s true rfl rfl (fun _ => q_load 0 tk3 rfl rfl rfl) (aL_s true rfl rfl (fun _ => q_add rfl rfl) ?_)
  refine aL_eff (q := false) rfl (e_call [] [0, 1] (by kernel_rfl) rfl rfl rfl rfl (push_fn R M b _ hok.bad) ?_)
  rintro v ps' hp' ⟨rfl, rfl, rfl⟩
  refine aL_nil (thn_n ?_)
  refine awp_drawn [15] (by kernel_rfl) ?_
  show aB _ _ _ _ _ 16 #[false, false, false, false, false, false, false, false, false, false, false, false, false, false, false, false] _
  refine aB_s 0 rfl (by kernel_rfl) true rfl rfl (fun _ => q_move rfl) ?_
  simp only [nO, nK, nL]
  refine aB_s 1 rfl (by kernel_rfl) true rfl rfl (fun _ => q_move rfl) ?_
  simp only [nO, nK, nL]
  refine aB_s 2 rfl (by kernel_rfl) true rfl rfl (fun _ => q_move rfl) ?_
  simp only [nO, nK, nL]
  refine aB_s 3 rfl (by kernel_rfl) true rfl rfl (fun _ => q_nilCheck rfl) ?_
  simp only [nO, nK, nL]
  refine aB_s 4 rfl (by kernel_rfl) true rfl rfl (fun _ => q_fieldAddr (off := 1) (by kernel_rfl) rfl) ?_
  simp only [nO, nK, nL]
  refine aB_s 5 rfl (by kernel_rfl) true rfl rfl (fun _ => q_fieldAddr (off := 1) (by kernel_rfl) rfl) ?_
  simp only [nO, nK, nL]
  refine aB_s 6 rfl (by kernel_rfl) true rfl rfl (fun _ => q_load 0 tk3 rfl rfl rfl) ?_
  simp only [nO, nK, nL]
  refine aB_s 7 rfl (by kernel_rfl) true rfl rfl (fun _ => q_nilCheck rfl) ?_
  simp only [nO, nK, nL]
  refine aB_s 8 rfl (by kernel_rfl) true rfl rfl (fun _ => q_fieldAddr (off := 6) (by kernel_rfl) rfl) ?_
  simp only [nO, nK, nL]
  refine aB_s 9 rfl (by kernel_rfl) true rfl rfl (fun _ => q_fieldAddr (off := 0) (by kernel_rfl) rfl) ?_
  simp only [nO, nK, nL]
  refine aB_s 10 rfl (by kernel_rfl) true rfl rfl (fun _ => q_idxArr (R.i.a) Tryz.underlying31 tk3 rfl rfl (rfl) (hok.a)) ?_
  simp only [nO, nK, nL]
  refine aB_s 11 rfl (by kernel_rfl) true rfl rfl (fun _ => q_load 0 tk3 rfl rfl (rcells_c (R.push M (w64 (R.c.pc + 8))).1 (by omega) hok.a)) ?_
  simp only [nO, nK, nL]
  refine aB_s 12 rfl (by kernel_rfl) true rfl rfl (fun _ => q_nilCheck rfl) ?_
  simp only [nO, nK, nL]
  refine aB_s 13 rfl (by kernel_rfl) true rfl rfl (fun _ => q_fieldAddr (off := 23) (by kernel_rfl) rfl) ?_
  simp only [nO, nK, nL]
  refine aB_s 14 rfl (by kernel_rfl) true rfl rfl (fun _ => q_fieldAddr (off := 16) (by kernel_rfl) rfl) ?_
  simp only [nO, nK, nL]
  refine aB_eff 15 rfl (by kernel_rfl) rfl rfl (e_store 0 tk3 rfl rfl rfl rfl ?_)
  simp only [nO, nK, nL]
  refine aB_nil (by kernel_rfl) ?_
  refine fin0 [] [0, 1] rfl Tryz.results74 ?_ (.inl rfl)
  exact ⟨rfl, rfl, rfl⟩
theorem op24_fn (R : Run) (M : Mem) (b : Nat) (hok : RunOk R) : Con Tryz.prog 75 [.pointer (some ⟨b, 0, none⟩)] [] [Box b 65 (rcells R), SpR R.p M]
    fun r ps' hp' => r = .tuple #[] ∧ ps' = [] ∧ hp' = [Box b 65 (rcells (R.exec M 24).1), SpR R.p (R.exec M 24).2] := by
  refine Con.enter Tryz.func75 rfl (by simp [Tryz.ntmps75]) ?_
  show awp _ _ _ _ ⟨[(0, true, _)], _, _⟩
  refine awp_region (aL_s true rfl rfl (fun _ => q_move rfl) ?_)
  refine aL_eff (q := false) rfl (e_call [] [0, 1] (by kernel_rfl) rfl rfl rfl rfl (slot_fn R M b true hok.bad) ?_)
  rintro v ps' hp' ⟨rfl, rfl, rfl⟩
  refine aL_nil ?_
  refine fin0 [] [0, 1] rfl Tryz.results75 ?_ (.inl rfl)
  exact ⟨rfl, rfl, rfl⟩
theorem op25_fn (R : Run) (M : Mem) (b : Nat) (hok : RunOk R) : Con Tryz.prog 77 [.pointer (some ⟨b, 0, none⟩)] [] [Box b 65 (rcells R), SpR R.p M]
    fun r ps' hp' => r = .tuple #[] ∧ ps' = [] ∧ hp' = [Box b 65 (rcells (R.exec M 25).1), SpR R.p (R.exec M 25).2] := by
  refine Con.enter Tryz.func77 rfl (by simp [Tryz.ntmps77]) ?_
  show awp _ _ _ _ ⟨[(0, true, _)], _, _⟩
  refine awp_region (aL_s true rfl rfl (fun _ => q_move rfl) ?_)
  refine aL_eff (q := false) rfl (e_call [] [0, 1] (by kernel_rfl) rfl rfl rfl rfl (slot_fn R M b false hok.bad) ?_)
  rintro v ps' hp' ⟨rfl, rfl, rfl⟩
  refine aL_nil ?_
  refine fin0 [] [0, 1] rfl Tryz.results77 ?_ (.inl rfl)
  exact ⟨rfl, rfl, rfl⟩
theorem op26_fn (R : Run) (M : Mem) (b : Nat) (hok : RunOk R) : Con Tryz.prog 78 [.pointer (some ⟨b, 0, none⟩)] [] [Box b 65 (rcells R), SpR R.p M]
    fun r ps' hp' => r = .tuple #[] ∧ ps' = [] ∧ hp' = [Box b 65 (rcells (R.exec M 26).1), SpR R.p (R.exec M 26).2] := by
  refine Con.enter Tryz.func78 rfl (by simp [Tryz.ntmps78]) ?_
  show awp _ _ _ _ ⟨[(0, true, _)], _, _⟩
  refine awp_region (aL_s true rfl rfl (fun _ => q_move rfl) (aL_s true rfl rfl (fun _ => q_move rfl) ?_))
  refine aL_eff (q := false) rfl (e_call [] [0, 1] (by kernel_rfl) rfl rfl rfl rfl (pop_fn R M b (hok.r 15) hok.bad) ?_)
  rintro v ps' hp' ⟨rfl, rfl, rfl⟩
  refine aL_s true rfl rfl (fun _ => q_nilCheck rfl) ?_
  refine aL_s true rfl rfl (fun _ => q_fieldAddr (off := 23) (by kernel_rfl) rfl) ?_
  refine aL_s true rfl rfl (fun _ => q_fieldAddr (off := 16) (by kernel_rfl) rfl) ?_
  refine aL_eff rfl (e_store 0 tk3 rfl rfl rfl rfl ?_)
  simp only [nK, nL]
  refine aL_nil ?_
  refine fin0 [] [0, 1] rfl Tryz.results78 ?_ (.inl rfl)
  exact ⟨rfl, rfl, rfl⟩
theorem op27_fn (R : Run) (M : Mem) (b : Nat) (hok : RunOk R) : Con Tryz.prog 80 [.pointer (some ⟨b, 0, none⟩)] [] [Box b 65 (rcells R), SpR R.p M]
    fun r ps' hp' => r = .tuple #[] ∧ ps' = [] ∧ hp' = [Box b 65 (rcells (R.exec M 27).1), SpR R.p (R.exec M 27).2] := by
  refine Con.enter Tryz.func80 rfl (by simp [Tryz.ntmps80]) ?_
  show awp _ _ _ _ ⟨[(0, true, _)], _, _⟩
  refine awp_drawn [12] (by kernel_rfl) ?_
  show aB _ _ _ _ _ 13 #[false, false, false, false, false, false, false, false, false, false, false, false, false] _
  refine aB_s 0 rfl (by kernel_rfl) true rfl rfl (fun _ => q_move rfl) ?_
  simp only [nO, nK, nL]
  refine aB_s 1 rfl (by kernel_rfl) true rfl rfl (fun _ => q_move rfl) ?_
  simp only [nO, nK, nL]
  refine aB_s 2 rfl (by kernel_rfl) true rfl rfl (fun _ => q_move rfl) ?_
  simp only [nO, nK, nL]
  refine aB_s 3 rfl (by kernel_rfl) true rfl rfl (fun _ => q_nilCheck rfl) ?_
  simp only [nO, nK, nL]
  refine aB_s 4 rfl (by kernel_rfl) true rfl rfl (fun _ => q_fieldAddr (off := 1) (by kernel_rfl) rfl) ?_
  simp only [nO, nK, nL]
  refine aB_s 5 rfl (by kernel_rfl) true rfl rfl (fun _ => q_fieldAddr (off := 1) (by kernel_rfl) rfl) ?_
  simp only [nO, nK, nL]
  refine aB_s 6 rfl (by kernel_rfl) true rfl rfl (fun _ => q_load 0 tk3 rfl rfl rfl) ?_
  simp only [nO, nK, nL]
  refine aB_s 7 rfl (by kernel_rfl) true rfl rfl (fun _ => q_nilCheck rfl) ?_
  simp only [nO, nK, nL]
  refine aB_s 8 rfl (by kernel_rfl) true rfl rfl (fun _ => q_fieldAddr (off := 6) (by kernel_rfl) rfl) ?_
  simp only [nO, nK, nL]
  refine aB_s 9 rfl (by kernel_rfl) true rfl rfl (fun _ => q_fieldAddr (off := 0) (by kernel_rfl) rfl) ?_
  simp only [nO, nK, nL]
  refine aB_s 10 rfl (by kernel_rfl) true rfl rfl (fun _ => q_idxArr (R.i.a) Tryz.underlying31 tk3 rfl rfl (rfl) (hok.a)) ?_
  simp only [nO, nK, nL]
  refine aB_s 11 rfl (by kernel_rfl) true rfl rfl (fun _ => q_load 0 tk3 rfl rfl (rcells_c R (by omega) hok.a)) ?_
  simp only [nO, nK, nL]
  refine aB_eff (q := false) 12 rfl (by kernel_rfl) rfl rfl (e_call [] [0, 1] (by kernel_rfl) rfl rfl rfl rfl (push_fn R M b _ hok.bad) ?_)
  rintro v ps' hp' ⟨rfl, rfl, rfl⟩
  simp only [nO, nK, nL]
  refine aB_nil (by kernel_rfl) ?_
  refine fin0 [] [0, 1] rfl Tryz.results80 ?_ (.inl rfl)
  exact ⟨rfl, rfl, rfl⟩
theorem op28_fn (R : Run) (M : Mem) (b : Nat) (hok : RunOk R) : Con Tryz.prog 81 [.pointer (some ⟨b, 0, none⟩)] [] [Box b 65 (rcells R), SpR R.p M]
    fun r ps' hp' => r = .tuple #[] ∧ ps' = [] ∧ hp' = [Box b 65 (rcells (R.exec M 28).1), SpR R.p (R.exec M 28).2] := by
  refine Con.enter Tryz.func81 rfl (by simp [Tryz.ntmps81]) ?_
  show awp _ _ _ _ ⟨[(0, true, _)], _, _⟩
  refine awp_seq (awp_region (aL_s true rfl rfl (fun _ => q_move rfl) ?_))
  refine aL_eff (q := false) rfl (e_call [] [0, 1] (by kernel_rfl) rfl rfl rfl rfl (pop_fn R M b (hok.r 15) hok.bad) ?_)
  rintro v ps' hp' ⟨rfl, rfl, rfl⟩
  refine aL_s true rfl rfl (fun _ => q_assign rfl) (aL_nil (thn_n (awp_region (aL_s true rfl rfl (fun _ => q_move rfl) (aL_s true rfl rfl (fun _ => q_move rfl) ?_)))))
  refine aL_eff (q := false) rfl (e_call [] [0] (by kernel_rfl) rfl rfl rfl rfl (set_fn (R.pop M) b _ hok.a) ?_)
  rintro v ps' hp' ⟨rfl, rfl, rfl⟩
  refine aL_nil ?_
  refine fin0 [] [0, 1] rfl Tryz.results81 ?_ (.inl rfl)
  exact ⟨rfl, rfl, rfl⟩
theorem op29_fn (R : Run) (M : Mem) (b : Nat) (hok : RunOk R) : Con Tryz.prog 82 [.pointer (some ⟨b, 0, none⟩)] [] [Box b 65 (rcells R), SpR R.p M]
    fun r ps' hp' => r = .tuple #[] ∧ ps' = [] ∧ hp' = [Box b 65 (rcells (R.exec M 29).1), SpR R.p (R.exec M 29).2] := by
  refine Con.enter Tryz.func82 rfl (by simp [Tryz.ntmps82]) ?_
  show awp _ _ _ _ ⟨[(0, true, _)], _, _⟩
  refine awp_seq (awp_region (aL_s true rfl rfl (fun _ => q_move rfl) (aL_s true rfl rfl (fun _ => q_move rfl) ?_)))
  refine aL_s true rfl rfl (fun _ => q_call (by kernel_rfl) rfl (fun w S fp hst => q_lendB (b_fn R b hok.b) (rcells_one R) hst 0 rfl)) ?_
  refine aL_eff (q := false) rfl (e_call [] [0] (by kernel_rfl) rfl rfl rfl rfl (set_fn R b _ hok.a) ?_)
  rintro v ps' hp' ⟨rfl, rfl, rfl⟩
  refine aL_nil (thn_n (awp_region (aL_s true rfl rfl (fun _ => q_move rfl) (aL_s true rfl rfl (fun _ => q_move rfl) (aL_s true rfl rfl (fun _ => q_nilCheck rfl) ?_)))))
  refine aL_s true rfl rfl (fun _ => q_fieldAddr (off := 1) (by kernel_rfl) rfl) ?_
  refine aL_s true rfl rfl (fun _ => q_fieldAddr (off := 1) (by kernel_rfl) rfl) ?_
  refine aL_s true rfl rfl (fun _ => q_load 0 tk3 rfl rfl rfl) (aL_s true rfl rfl (fun _ => q_add rfl rfl) ?_)
  refine aL_s true rfl rfl (fun _ => q_bld (l := [(0, .const (.int .i64 2)), (1, .tmp 12)]) (zs := [.int .i64 0, .int .i64 0]) (pl := [(0, 1), (1, 1)]) (by kernel_rfl) (by kernel_rfl) (by kernel_rfl) rfl rfl rfl) ?_
  refine aL_s true rfl rfl (fun _ => q_nilCheck rfl) ?_
  refine aL_s true rfl rfl (fun _ => q_fieldAddr (off := 40) (by kernel_rfl) rfl) ?_
  refine aL_eff rfl (e_store 0 tk36 rfl rfl rfl rfl ?_)
  simp only [nK, nL]
  refine aL_nil ?_
  refine fin0 [] [0, 1] rfl Tryz.results82 ?_ (.inl rfl)
  exact ⟨rfl, rfl, rfl⟩
theorem op30_fn (R : Run) (M : Mem) (b : Nat) (hok : RunOk R) : Con Tryz.prog 83 [.pointer (some ⟨b, 0, none⟩)] [] [Box b 65 (rcells R), SpR R.p M]
    fun r ps' hp' => r = .tuple #[] ∧ ps' = [] ∧ hp' = [Box b 65 (rcells (R.exec M 30).1), SpR R.p (R.exec M 30).2] := by
  refine Con.enter Tryz.func83 rfl (by simp [Tryz.ntmps83]) ?_
  show awp _ _ _ _ ⟨[(0, true, _)], _, _⟩
  refine awp_region (aL_s true rfl rfl (fun _ => q_move rfl) (aL_s true rfl rfl (fun _ => q_move rfl) (aL_s true rfl rfl (fun _ => q_nilCheck rfl) ?_)))
  refine aL_s true rfl rfl (fun _ => q_fieldAddr (off := 1) (by kernel_rfl) rfl) ?_
  refine aL_s true rfl rfl (fun _ => q_fieldAddr (off := 4) (by kernel_rfl) rfl) ?_
  refine aL_s true rfl rfl (fun _ => q_load 0 tk3 rfl rfl rfl) ?_
  refine aL_s true rfl rfl (fun _ => q_bld (l := [(0, .const (.int .i64 2)), (1, .tmp 7)]) (zs := [.int .i64 0, .int .i64 0]) (pl := [(0, 1), (1, 1)]) (by kernel_rfl) (by kernel_rfl) (by kernel_rfl) rfl rfl rfl) ?_
  refine aL_s true rfl rfl (fun _ => q_nilCheck rfl) ?_
  refine aL_s true rfl rfl (fun _ => q_fieldAddr (off := 40) (by kernel_rfl) rfl) ?_
  refine aL_eff rfl (e_store 0 tk36 rfl rfl rfl rfl ?_)
  simp only [nK, nL]
  refine aL_nil ?_
  refine fin0 [] [0, 1] rfl Tryz.results83 ?_ (.inl rfl)
  exact ⟨rfl, rfl, rfl⟩
end Go.Proofs.YtpgcoceggacplaaGreatDoor
