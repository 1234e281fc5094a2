/- A logic of states: loads, stores, new blocks, calls. No condition. -/
import Derived.Test.YtpgcoceggacplaaGreatDoorSyOps
import Derived.Test.YtpgcoceggacplaaGreatDoorLpRows
set_option linter.unusedVariables false
set_option linter.unusedSimpArgs false
set_option maxRecDepth 20000
namespace Go.Sy
open Go.RowKit Go.Lp

/-- of a type: is it a struct or an array, and how many cells has it? -/
def aggB : TypeDesc → Bool
  | .struct _ | .array _ _ => true
  | _ => false
def tyk (P : Program) (T : TypeId) : Option (Bool × Nat) := (P.underlying T).bind fun d => (P.info? T).map fun i => (aggB d, i.size)
theorem tyk_parts {P : Program} {T : TypeId} {ag : Bool} {k : Nat} (h : tyk P T = some (ag, k)) : ∃ d i, P.underlying T = some d ∧ P.info? T = some i ∧ aggB d = ag ∧ i.size = k := by
  unfold tyk at h
  cases hd : P.underlying T with
  | none => rw [hd] at h; cases h
  | some d =>
    cases hi : P.info? T with
    | none => rw [hd, hi] at h; cases h
    | some i =>
      rw [hd, hi] at h
      simp only [Option.bind_some, Option.map_some, Option.some.injEq, Prod.mk.injEq] at h
      exact ⟨d, i, rfl, rfl, h.1, h.2⟩
section
variable {P : Program}
theorem run_sizeOf' {w : World} {T : TypeId} {i : TypeInfo} (hi : P.info? T = some i) : (sizeOf T).run P w = .ok i.size w := by
  simp [sizeOf, typeInfo, hi]
theorem run_isAgg' {w : World} {T : TypeId} {d : TypeDesc} (hd : P.underlying T = some d) : (isAgg T).run P w = .ok (aggB d) w := by
  simp only [isAgg, underlying, program, Sem.run_bind, Sem.run, hd, Result.andThen]
  cases d <;> rfl
theorem run_loadVar {w : World} {T : TypeId} {ag : Bool} {k : Nat} (h : tyk P T = some (ag, k)) (b o : Nat) (f : Nat → Value) (hc : ∀ j, j < (if ag then k else 1) → w.cell? ⟨b, o + j, none⟩ = some (f j)) :
    (loadVar T ⟨b, o, none⟩).run P w = .ok (if ag then .agg ((List.range k).map f).toArray else f 0) w := by
  obtain ⟨d, i, hd, hi, ha, hs⟩ := tyk_parts h
  have hadd : ∀ j, (Addr.mk b o none).add j = ⟨b, o + j, none⟩ := fun j => by
    unfold Addr.add; split
    · rename_i h; subst h; rfl
    · rfl
  simp only [loadVar, Sem.run_bind, run_isAgg' hd, Result.andThen]
  rw [ha]
  cases ag with
  | true =>
    simp only [if_true, Sem.run_bind, run_sizeOf' hi, Result.andThen]
    rw [hs, run_loadCells w ⟨b, o, none⟩ k f (fun j hj => by rw [hadd]; exact hc j (by simpa using hj))]
    rfl
  | false =>
    have h0 := hc 0 (by simp)
    simp only [Bool.false_eq_true, if_false, load, Sem.run]
    rw [show (⟨b, o, none⟩ : Addr) = ⟨b, o + 0, none⟩ from rfl, h0]
/-- the first k of a list -/
def tkL : Nat → List Value → Option (List Value)
  | 0, _ => some []
  | k + 1, c :: cs => match tkL k cs with
    | some l => some (c :: l)
    | none => none
  | _ + 1, [] => none
theorem tkL_eq : ∀ (k : Nat) (cs l : List Value), tkL k cs = some l → k ≤ cs.length ∧ l = cs.take k
  | 0, _, l, h => by simp only [tkL, Option.some.injEq] at h; subst h; simp
  | k + 1, c :: cs, l, h => by
    unfold tkL at h
    split at h
    · rename_i l' hl
      simp only [Option.some.injEq] at h
      subst h
      obtain ⟨h1, rfl⟩ := tkL_eq k cs l' hl
      exact ⟨by simp; omega, by simp⟩
    · cases h
  | k + 1, [], l, h => by cases h
/-- cells out of a row -/
def rdC (ag : Bool) (k : Nat) (cs : List Value) (o : Nat) : Option Value :=
  match ag with
  | true => match tkL k (cs.drop o) with
    | some l => some (.agg l.toArray)
    | none => none
  | false => cs[o]?
theorem rdC_run {w : World} {T : TypeId} {ag : Bool} {k : Nat} (h : tyk P T = some (ag, k)) {b o : Nat} {cs : List Value} {v : Value} (hv : rdC ag k cs o = some v) {p : Nat} (hc : ∀ j u, cs[j]? = some u → w.cell? ⟨b, p + j, none⟩ = some u) :
    (loadVar T ⟨b, p + o, none⟩).run P w = .ok v w := by
  unfold rdC at hv
  cases ag with
  | true =>
    simp only at hv
    split at hv
    · rename_i l hl
      obtain ⟨hle, rfl⟩ := tkL_eq _ _ _ hl
      rw [List.length_drop] at hle
      simp only [Option.some.injEq] at hv
      rw [run_loadVar h b (p + o) (fun j => cs.getD (o + j) undef) (fun j hj => by
        have : o + j < cs.length := by simp at hj; omega
        rw [Nat.add_assoc]
        exact hc (o + j) _ (by simp [List.getD, this]))]
      rw [← hv]
      simp only [if_true]
      congr 3
      apply List.ext_getElem
      · simp; omega
      · intro j h1 h2
        simp at h1 h2 ⊢
        simp [List.getD, show o + j < cs.length by omega]
    · cases hv
  | false =>
    simp only at hv
    rw [run_loadVar h b (p + o) (fun _ => v) (fun j hj => by
      have : j = 0 := by simp at hj; omega
      subst this
      exact hc o v hv)]
    rfl
theorem cell_box {w : World} {b : Nat} {T : TypeId} {cs : List Value} (h : w.heap[b]? = some (.cells cs.toArray T (0, 0))) (j : Nat) : w.cell? ⟨b, j, none⟩ = cs[j]? := by
  unfold World.cell?
  simp only [h]
  simp
variable {n : Nat} {s : Sta} {d : Option Tmp} {ty : TypeId} {pos : String} {af : Array Edge} {gd : Option (Nat × Bool)} {v : Value}
/-- a load out of a box -/
theorem q_load {x : Operand} {U T : TypeId} {ag : Bool} {k b o : Nat} {cs : List Value} (i : Nat) (hk : tyk P U = some (ag, k)) (hx : ev s.env x = some (true, .pointer (some ⟨b, o, none⟩))) (hi : s.hp[i]? = some (Box b T cs)) (hv : rdC ag k cs o = some v) :
    Quiet P n ⟨d, .load U x, ty, pos, af, gd⟩ s v := fun w S fp a hst he hn => by
  have h1 := he.val hx rfl
  have hb := (hst.res i _ hi).1
  have : (execOp a.eval ⟨d, .load U x, ty, pos, af, gd⟩).run P w = .ok (.value v) w := by
    unfold execOp; dsimp only; rw [h1]
    have := rdC_run (w := w) hk hv (b := b) (p := 0) (fun j u hu => by rw [Nat.zero_add, cell_box hb]; exact hu)
    rw [Nat.zero_add] at this
    show ((loadVar U ⟨b, o, none⟩).bind fun r => Sem.pure (Next.value r)).run P w = _
    rw [Sem.run_bind', this]; rfl
  rw [this]; exact uponQ_ok _ _
/-- the cells of a row of shared data -/
def At (b o : Nat) (row : List D) : Per :=
  ⟨fun w S => S b ∧ ∀ j d, row[j]? = some d → ∃ u, w.cell? ⟨b, o + j, none⟩ = some u ∧ u.oneCell' = true ∧ RepD w S u d,
   fun h h1 h2 => ⟨h2 _ h.1, fun j d hj => let ⟨u, hu, ho, hr⟩ := h.2 j d hj; ⟨u, by rw [← hu]; exact World.cell?_of_block (h1 b h.1), ho, hr.mono h1 h2⟩⟩⟩
/-- the first k values of a row -/
def tkD : Nat → List D → Option (List Value)
  | 0, _ => some []
  | k + 1, .v x :: cs => match tkD k cs with
    | some l => some (x :: l)
    | none => none
  | _ + 1, _ => none
theorem tkD_eq : ∀ (k : Nat) (cs : List D) (l : List Value), tkD k cs = some l → l.length = k ∧ ∀ j, j < k → cs[j]? = some (.v (l.getD j undef))
  | 0, _, l, h => by simp only [tkD, Option.some.injEq] at h; subst h; exact ⟨rfl, fun j hj => by omega⟩
  | k + 1, .v x :: cs, l, h => by
    unfold tkD at h
    split at h
    · rename_i l' hl
      simp only [Option.some.injEq] at h
      subst h
      obtain ⟨h1, h2⟩ := tkD_eq k cs l' hl
      refine ⟨by simp [h1], fun j hj => ?_⟩
      cases j with
      | zero => rfl
      | succ j => simpa using h2 j (by omega)
    · cases h
  | k + 1, .sl _ :: _, l, h => by simp [tkD] at h
  | k + 1, [], l, h => by simp [tkD] at h
/-- cells of known values -/
def rdD (ag : Bool) (k : Nat) (row : List D) (o : Nat) : Option Value :=
  match ag with
  | true => match tkD k (row.drop o) with
    | some l => some (.agg l.toArray)
    | none => none
  | false => match row[o]? with
    | some (.v x) => some x
    | _ => none
theorem repD_v {w : World} {S : Blks} {u x : Value} (h : RepD w S u (.v x)) : u = x := by cases h; rfl
theorem rdD_run {w : World} {S : Blks} {T : TypeId} {ag : Bool} {k : Nat} (h : tyk P T = some (ag, k)) {b o p : Nat} {row : List D} {v : Value} (hv : rdD ag k row o = some v) (hp : (At b p row).holds w S) :
    (loadVar T ⟨b, p + o, none⟩).run P w = .ok v w := by
  obtain ⟨_, hc⟩ := hp
  unfold rdD at hv
  cases ag with
  | true =>
    simp only at hv
    split at hv
    · rename_i vs hm
      simp only [Option.some.injEq] at hv
      obtain ⟨hl, hg⟩ := tkD_eq _ _ _ hm
      rw [run_loadVar h b (p + o) (fun j => vs.getD j undef) (fun j hj => by
          have hj' : j < k := by simpa using hj
          have e2 := hg j hj'
          rw [List.getElem?_drop] at e2
          obtain ⟨u, hu, _, hr⟩ := hc _ _ e2
          rw [Nat.add_assoc, hu, repD_v hr])]
      rw [← hv]
      simp only [if_true]
      congr 3
      apply List.ext_getElem
      · simp [hl]
      · intro j h1 h2
        simp [List.getD, h2]
    · cases hv
  | false =>
    simp only at hv
    split at hv
    · rename_i x hx
      simp only [Option.some.injEq] at hv
      subst hv
      obtain ⟨u, hu, _, hr⟩ := hc _ _ hx
      rw [run_loadVar h b (p + o) (fun _ => x) (fun j hj => by
        have : j = 0 := by simp at hj; omega
        subst this
        rw [Nat.add_zero, hu, repD_v hr])]
      rfl
    · cases hv
/-- a load out of shared data: known values -/
theorem q_loadD {x : Operand} {U : TypeId} {ag : Bool} {k b p o : Nat} {row : List D} (hk : tyk P U = some (ag, k)) (hx : ev s.env x = some (true, .pointer (some ⟨b, p + o, none⟩))) {c' : Bool} (hi : cnd c' (At b p row) ∈ s.ps) (hc' : c' = true) (hv : rdD ag k row o = some v) :
    Quiet P n ⟨d, .load U x, ty, pos, af, gd⟩ s v := fun w S fp a hst he hn => by
  have h1 := he.val hx rfl
  have : (execOp a.eval ⟨d, .load U x, ty, pos, af, gd⟩).run P w = .ok (.value v) w := by
    unfold execOp; dsimp only; rw [h1]
    have := rdD_run (P := P) hk hv (hst.per _ hi hc')
    show ((loadVar U ⟨b, p + o, none⟩).bind fun r => Sem.pure (Next.value r)).run P w = _
    rw [Sem.run_bind', this]; rfl
  rw [this]; exact uponQ_ok _ _
/-- an element of a shared slice: its place -/
theorem q_indexAddrR {R : World → World → Prop} {x y : Operand} {T E : TypeId} {ag : Bool} {sz i c nn : Nat} {z : Int} {ad : Option Addr} {rows : List (List D)} {row : List D} (hT : P.underlying T = some (.slice E)) (hk : tyk P E = some (ag, sz)) (hx : ev s.env x = some (true, .slice ad nn c)) (hs : Sh (.slice ad nn c) (.sl rows) ∈ s.ps)
    (hy : ev s.env y = some (true, .int .i64 z)) (hr : rows[i]? = some row) (hz : z = (i : Int)) (hl : row.length = sz) :
    QuietR (β := Nat × Nat) P R n ⟨d, .indexAddr T x y, ty, pos, af, gd⟩ s (fun p => .pointer (some ⟨p.1, p.2, none⟩)) (fun p => [At p.1 p.2 row]) := fun w S fp a hst he hn => by
  have h1 := he.val hx rfl
  subst hz
  have h2 := he.val hy rfl
  obtain ⟨de, ie, _, hie, _, hsz⟩ := tyk_parts hk
  have hrep := hst.per _ hs
  have hilt : i < rows.length := (List.getElem?_eq_some_iff.1 hr).1
  cases hrep with
  | e a c hc => simp at hr
  | sl b o _ sz' _ us hb hn' hc hrl hcell hd =>
    have hsz' : sz' = sz := by rw [← hrl i row hr]; exact hl
    subst hsz'
    refine ⟨(b, o + i * sz'), fun w1 hb1 => ?_, fun p hp => ?_⟩
    · have : (execOp a.eval ⟨d, .indexAddr T x y, ty, pos, af, gd⟩).run P w1 = .ok (.value (.pointer (some ⟨b, o + i * sz', none⟩))) w1 := by
        unfold execOp; dsimp only; rw [h1, h2]
        show ((Instr.indexAt T (.slice (some ⟨b, o, none⟩) rows.length c) (.int .i64 i)).bind fun r => Sem.pure (Next.value r)).run P w1 = _
        have hT' : P.underlying T = some (.slice (P.elem T)) := by rw [hT]; unfold Program.elem; rw [hT]
        have hE : P.elem T = E := by unfold Program.elem; rw [hT]
        rw [Sem.run_bind', run_indexAt_slice _ _ _ _ _ _ _ hT', if_pos (by omega), hE, run_sizeOf' hie, hsz]
        simp only [Result.andThen, Int.toNat_natCast]
        unfold Addr.add
        split
        · rename_i h0; rw [h0]; rfl
        · rfl
      rw [this]; exact uponQ_ok _ _
    · simp only [List.mem_singleton] at hp
      subst hp
      exact ⟨hb, fun j dj hj => ⟨us i j, by rw [← (hcell i j row dj hr hj).1], (hcell i j row dj hr hj).2, hd i j row dj hr hj⟩⟩
theorem q_indexAddr {x y : Operand} {T E : TypeId} {ag : Bool} {sz i c nn : Nat} {z : Int} {ad : Option Addr} {rows : List (List D)} {row : List D} (hT : P.underlying T = some (.slice E)) (hk : tyk P E = some (ag, sz)) (hx : ev s.env x = some (true, .slice ad nn c)) (hs : Sh (.slice ad nn c) (.sl rows) ∈ s.ps)
    (hy : ev s.env y = some (true, .int .i64 z)) (hr : rows[i]? = some row) (hz : z = (i : Int)) (hl : row.length = sz) :
    QuietE (β := Nat × Nat) P n ⟨d, .indexAddr T x y, ty, pos, af, gd⟩ s (fun p => .pointer (some ⟨p.1, p.2, none⟩)) (fun p => [At p.1 p.2 row]) := q_indexAddrR hT hk hx hs hy hr hz hl
end
end Go.Sy
