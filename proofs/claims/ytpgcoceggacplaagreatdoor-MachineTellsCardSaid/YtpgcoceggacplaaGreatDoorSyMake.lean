/- A logic of states: literals and made slices. No condition. -/
import Derived.Test.YtpgcoceggacplaaGreatDoorSyOwn
import Derived.Great.BuildSlice
set_option linter.unusedVariables false
set_option linter.unusedSimpArgs false
set_option maxRecDepth 20000
namespace Go.Sy
open Go.RowKit Go.Lp
/-- a literal's cells, part by part -/
def bld (place : Nat → Option (Nat × Nat)) : List Value → List (Nat × Value) → Option (List Value)
  | cells, [] => some cells
  | cells, (i, v) :: rest => match place i with
    | some (off, size) => match wrL size cells off v.cells.toList with
      | some cells' => bld place cells' rest
      | none => none
    | none => none
theorem fold_set (off : Nat) : ∀ (vs : List Value) (k : Nat) (cs : List Value), off + k + vs.length ≤ cs.length →
    (vs.zipIdx k).foldl (fun (cs : Array Value) (x : Value × Nat) => cs.setIfInBounds (off + x.2) x.1) cs.toArray = (wrC cs (off + k) vs).toArray
  | [], k, cs, _ => by simp [wrC]
  | v :: vs, k, cs, h => by
    have hlt : off + k < cs.length := by simp at h; omega
    rw [List.zipIdx_cons, List.foldl_cons]
    have e : (cs.toArray.setIfInBounds (off + k) v) = (cs.set (off + k) v).toArray := by simp
    rw [e, fold_set off vs (k + 1) (cs.set (off + k) v) (by simp at h ⊢; omega)]
    congr 1
    unfold wrC
    apply List.ext_getElem?
    intro j
    simp only [List.getElem?_append, List.length_take, List.length_set, List.getElem?_take, List.getElem?_drop, List.getElem?_set, List.length_cons, List.getElem?_cons]
    rw [Nat.min_eq_left (by simp at h; omega), Nat.min_eq_left (by omega)]
    by_cases h1 : j < off + k
    · simp [show j < off + (k + 1) by omega, h1, show ¬ off + k = j by omega]
    · by_cases h2 : j = off + k
      · subst h2; simp [hlt]
      · have h3 : ¬ j < off + (k + 1) := by omega
        simp only [h1, h3, if_false]
        by_cases h5 : j - (off + (k + 1)) < vs.length
        · rw [if_pos h5, if_pos (by omega), if_neg (by omega)]
          congr 1 <;> omega
        · rw [if_neg h5, if_neg (by omega), if_neg (by omega)]
          congr 1 <;> omega
theorem bld_fill (place : Nat → Option (Nat × Nat)) : ∀ (parts : List (Nat × Value)) (cells cells' : List Value), bld place cells parts = some cells' → Instr.fill place cells.toArray parts = some cells'.toArray
  | [], cells, cells', h => by simp only [bld, Option.some.injEq] at h; subst h; rfl
  | (i, v) :: rest, cells, cells', h => by
    unfold bld at h
    split at h
    · rename_i off size hp
      split at h
      · rename_i c1 hc1
        obtain ⟨h1, _, h3, rfl⟩ := wrL_eq _ _ _ _ _ hc1
        have ih := bld_fill place rest _ cells' h
        have hsz : v.cells.size = size := by rw [← h1]; simp
        have hf : v.cells.zipIdx.foldl (fun cs (x : Value × Nat) => cs.setIfInBounds (off + x.2) x.1) cells.toArray = (wrC cells off v.cells.toList).toArray := by
          rw [← Array.foldl_toList, Array.toList_zipIdx]
          exact fold_set off v.cells.toList 0 cells (by omega)
        have hle : ¬ off + v.cells.size > cells.toArray.size := by simp at h3 ⊢; omega
        simp only [Instr.fill, hp]
        rw [if_neg (by simp [hsz]; simpa [hsz] using hle)]
        have : (v.cells.zipIdx.foldl (fun cs (c, j) => cs.setIfInBounds (off + j) c) cells.toArray) = (wrC cells off v.cells.toList).toArray := hf
        rw [this]
        exact ih
      · cases h
    · cases h
def placesOf (P : Program) (T : TypeId) : Option (List (Nat × Nat)) :=
  match P.underlying T with
  | some (.struct fields) => fields.toList.mapM (fun f => (P.info? f.type).map fun i => (f.offset, i.size))
  | some (.array n e) => (P.info? e).map fun i => (List.range n).map fun k => (k * i.size, i.size)
  | _ => none
def structB (P : Program) (T : TypeId) : Bool := match P.underlying T with
  | some (.struct _) => true
  | _ => false
section
variable {P : Program} {n : Nat} {env : Env} {ps : List Per} {hp : List Res} {ty : TypeId} {pos : String} {af : Array Edge} {gd : Option (Nat × Bool)} {K : Sta → Prop} {d : Option Tmp} {v : Value} {q : Bool}
/-- a struct literal -/
theorem q_bld {T : TypeId} {l : List (Nat × Operand)} {xs : List Operand} {vs : List Value} {zs cells : List Value} {pl : List (Nat × Nat)} (hst : structB P T = true) (hz : zcells P T = some zs) (hpl : placesOf P T = some pl) (hxs : l.map (·.2) = xs) (hx : evs env xs = some vs)
    (hb : bld (pl[·]?) zs ((l.map (·.1)).zip vs) = some cells) :
    Quiet P n ⟨d, .build T l.toArray, ty, pos, af, gd⟩ ⟨env, ps, hp⟩ (.agg cells.toArray) := fun w S fp a hs he hn => by
  have hm := evs_map he xs vs hx
  have hf := bld_fill _ _ _ _ hb
  have hbuilt : P.built T ((l.map (·.1)).zip vs) = some cells.toArray := by
    unfold structB at hst
    unfold placesOf at hpl
    unfold zcells at hz
    unfold Program.built
    cases hi : P.info? T with
    | none => rw [hi] at hz; cases hz
    | some it =>
      rw [hi] at hz
      cases hzz : it.zero with
      | none => rw [Option.bind_some, hzz] at hz; cases hz
      | some z =>
        rw [Option.bind_some, hzz] at hz
        simp only [Option.map_some, Option.some.injEq] at hz
        cases hu : P.underlying T with
        | none => rw [hu] at hst; cases hst
        | some dd =>
          rw [hu] at hst hpl
          cases dd with
          | struct fields =>
            simp only at hpl
            simp only [hzz, hpl]
            have e : z.cells = zs.toArray := by rw [← hz]
            rw [e]
            simpa using hf
          | _ => cases hst
  have : (execOp a.eval ⟨d, .build T l.toArray, ty, pos, af, gd⟩).run P w = .ok (.value (.agg cells.toArray)) w := by
    have e : (execOp a.eval ⟨d, .build T l.toArray, ty, pos, af, gd⟩) = (Instr.build T (l.toArray.map fun (i, x) => (i, a.eval x))).bind fun r => Sem.pure (Next.value r) := rfl
    have e2 : l.toArray.map (fun (i, x) => (i, a.eval x)) = ((l.map (·.1)).zip vs).toArray := by
      rw [← hm, ← hxs]
      simp only [List.map_toArray, List.map_map]
      congr 1
      rw [List.zip_map']
      rfl
    rw [e, e2, Sem.run_bind', run_build w T _ cells.toArray (by simpa using hbuilt)]; rfl
  rw [this]; exact uponQ_ok _ _
/-- the cells of n zero values -/
def repC : Nat → List Value → List Value
  | 0, _ => []
  | n + 1, zs => zs ++ repC n zs
theorem repC_len (n : Nat) (zs : List Value) : (repC n zs).length = n * zs.length := by
  induction n with
  | zero => simp [repC]
  | succ n ih => simp [repC, ih, Nat.add_mul]; omega
theorem repC_get (zs : List Value) (h0 : 0 < zs.length) : ∀ (n j : Nat), j < n * zs.length → (repC n zs)[j]? = zs[j % zs.length]?
  | 0, j, h => by omega
  | n + 1, j, h => by
    unfold repC
    rw [List.getElem?_append]
    split
    · rename_i hj; rw [Nat.mod_eq_of_lt hj]
    · rename_i hj
      have e : j % zs.length = (j - zs.length) % zs.length := Nat.mod_eq_sub_mod (by omega)
      rw [repC_get zs h0 n (j - zs.length) (by rw [Nat.add_mul] at h; omega), e]
theorem made_eq (z : Array Value) (n : Nat) (h0 : 0 < z.size) : (madeCells z (n * z.size)) = (repC n z.toList).toArray := by
  apply Array.ext'
  rw [List.toList_toArray]
  apply List.ext_getElem?
  intro j
  by_cases hj : j < n * z.size
  · rw [repC_get z.toList (by simpa using h0) n j (by simpa using hj)]
    have hm : j % z.size < z.size := Nat.mod_lt _ h0
    simp only [madeCells, Array.toList_map, Array.toList_range, List.getElem?_map, List.getElem?_range hj, Option.map_some, Array.length_toList, Array.getElem?_toList]
    simp [hm]
  · rw [List.getElem?_eq_none (by simp [madeCells]; omega), List.getElem?_eq_none (by rw [repC_len]; simpa using hj)]
theorem rows_zero {w : World} {S : Blks} {zs : List Value} (h1 : ∀ v ∈ zs, v.oneCell' = true) (n : Nat) : RowsAt w S zs.length (repC n zs) (List.replicate n (zs.map .v)) := by
  refine ⟨by simp [repC_len], fun i r h => ?_, fun v hv => ?_, fun i j r dd h1' h2 => ?_⟩
  · rw [List.getElem?_replicate] at h
    split at h
    · simp only [Option.some.injEq] at h; rw [← h]; simp
    · cases h
  · induction n with
    | zero => simp [repC] at hv
    | succ n ih =>
      unfold repC at hv
      rcases List.mem_append.1 hv with h | h
      · exact h1 v h
      · exact ih h
  · rw [List.getElem?_replicate] at h1'
    split at h1'
    · rename_i hi
      simp only [Option.some.injEq] at h1'
      rw [← h1', List.getElem?_map] at h2
      cases hj : zs[j]? with
      | none => rw [hj] at h2; cases h2
      | some u =>
        rw [hj] at h2
        simp only [Option.map_some, Option.some.injEq] at h2
        have hjl := (List.getElem?_eq_some_iff.1 hj).1
        refine ⟨u, ?_, by rw [← h2]; exact .v u⟩
        have hlt : i * zs.length + j < n * zs.length := by
          have := Nat.mul_le_mul_right zs.length (show i + 1 ≤ n by omega)
          rw [Nat.add_mul] at this; omega
        rw [repC_get zs (by omega) n _ hlt, Nat.mul_comm, Nat.mul_add_mod, Nat.mod_eq_of_lt hjl]; exact hj
    · cases h1'
theorem own_new {w : World} {S : Blks} {E : TypeId} {sz m : Nat} {cs : List Value} {rows : List (List D)} (h : RowsAt w S sz cs rows) (hst : ∀ b, S b → b < w.heap.size) (hm : rows.length = m) (hle : m ≤ maxLen) :
    (OwnS (.slice (some ⟨w.heap.size, 0, none⟩) m m) E sz rows).holds (w.alloc (.cells cs.toArray E)) S (fun b => b = w.heap.size) := by
  refine .inr ⟨w.heap.size, m, by rw [hm], ⟨cs, [], by rw [List.append_nil]; exact heap_new _ _, h.mono (fun b hb => (below_new w _).block b (hst b hb)) (fun _ h => h), by rw [List.append_nil, h.len, hm], by omega, hle⟩, fun _ => Iff.rfl⟩
/-- make([]T, m) -/
theorem e_make {t : Nat} {T E : TypeId} {it : TypeInfo} {x y : Operand} {m : Nat} {zs : List Value} (hT : P.underlying T = some (.slice E)) (hi : P.info? E = some it) (hz : zcells P E = some zs) (h1 : zs.all (·.oneCell') = true) (hsz : it.size = zs.length) (h0 : 0 < zs.length) (hby : it.bytes ≤ 4096)
    (hx : ev env x = some (true, .int .i64 m)) (hy : ev env y = some (true, .int .i64 m)) (hm : m ≤ 1000000000) (ht : fits n (some t) = true)
    (hK : ∀ ad, K ⟨(t, true, .slice ad m m) :: env, ps, hp ++ [OwnS (.slice ad m m) E zs.length (List.replicate m (zs.map .v))]⟩) :
    Eff P n ⟨some t, .makeSlice T x y, ty, pos, af, gd⟩ ⟨env, ps, hp⟩ q K := .push fun w S fp a hst he hn => by
  have e1 := he.val hx rfl
  have e2 := he.val hy rfl
  obtain ⟨z, hzz, hzc⟩ : ∃ z, it.zero = some z ∧ z.cells.toList = zs := by
    unfold zcells at hz
    rw [hi] at hz
    cases hzz : it.zero with
    | none => rw [Option.bind_some, hzz] at hz; cases hz
    | some z => rw [Option.bind_some, hzz] at hz; simp only [Option.map_some, Option.some.injEq] at hz; exact ⟨z, rfl, hz⟩
  have hzl : z.cells.size = zs.length := by rw [← hzc]; simp
  have hb : (it.bytes : Int) * (m : Int) ≤ 281474976710656 := by
    have h1 : it.bytes * m ≤ 4096 * 1000000000 := Nat.mul_le_mul hby hm
    have : ((it.bytes * m : Nat) : Int) ≤ ((4096 * 1000000000 : Nat) : Int) := by exact_mod_cast h1
    rw [← Int.natCast_mul]; omega
  have hrun := run_make (P := P) w T E it z hT hi hzz .i64 .i64 m m (by omega) (by omega) hb (by omega)
  rw [Int.toNat_natCast, hsz, ← hzl, made_eq _ _ (by omega), hzc] at hrun
  have : (execOp a.eval ⟨some t, .makeSlice T x y, ty, pos, af, gd⟩).run P w = .ok (.value (.slice (some ⟨w.heap.size, 0, none⟩) m m)) (w.alloc (.cells (repC m zs).toArray E)) := by
    show ((Instr.makeSlice T (a.eval x) (a.eval y)).bind fun r => Sem.pure (Next.value r)).run P w = _
    rw [e1, e2, Sem.run_bind', hrun]; rfl
  rw [this]
  refine ⟨_, fun b => b = w.heap.size, _, hK (some ⟨w.heap.size, 0, none⟩), rfl, rfl, he.put (g := true) (by rw [hn]; simpa [fits] using ht) _, below_new _ _, own_new (rows_zero (fun v hv => List.all_eq_true.1 h1 v hv) m) hst.slt (by simp) (by unfold maxLen; omega), fun b hb => ?_⟩
  subst hb; simp
/-- a slice literal -/
theorem e_buildSlice {t : Nat} {T E : TypeId} {it : TypeInfo} {len : Nat} {l : List (Nat × Operand)} {xs : List Operand} {vs zs cs : List Value} {rows : List (List D)} (hT : P.underlying T = some (.slice E)) (hi : P.info? E = some it) (hz : zcells P E = some zs) (hsz : it.size = zs.length) (h0 : 0 < zs.length)
    (hlen : 0 < len) (hsm : len * zs.length ≤ 16777216) (hxs : l.map (·.2) = xs) (hx : evs env xs = some vs) (hb : bld (fun i => some (i * zs.length, zs.length)) (repC len zs) ((l.map (·.1)).zip vs) = some cs) (hr : RCs ps zs.length cs rows) (hrl : rows.length = len) (ht : fits n (some t) = true)
    (hK : ∀ ad, K ⟨(t, true, .slice ad len len) :: env, ps, hp ++ [OwnS (.slice ad len len) E zs.length rows]⟩) :
    Eff P n ⟨some t, .buildSlice T len l.toArray, ty, pos, af, gd⟩ ⟨env, ps, hp⟩ q K := .push fun w S fp a hst he hn => by
  have hm := evs_map he xs vs hx
  obtain ⟨z, hzz, hzc⟩ : ∃ z, it.zero = some z ∧ z.cells.toList = zs := by
    unfold zcells at hz
    rw [hi] at hz
    cases hzz : it.zero with
    | none => rw [Option.bind_some, hzz] at hz; cases hz
    | some z => rw [Option.bind_some, hzz] at hz; simp only [Option.map_some, Option.some.injEq] at hz; exact ⟨z, rfl, hz⟩
  have hzl : z.cells.size = zs.length := by rw [← hzc]; simp
  have hf := bld_fill _ _ _ _ hb
  have hme := made_eq z.cells len (by omega)
  rw [hzc] at hme
  unfold madeCells at hme
  have hrun := run_buildSlice (P := P) w T E len ((l.map (·.1)).zip vs).toArray cs.toArray it z hT hi hzz (by rw [hsz]; omega) (by rw [hsz]; have := Nat.mul_pos hlen h0; omega) (by rw [hsz, ← hzl, hme, hzl]; simpa using hf)
  have e2 : l.toArray.map (fun (i, x) => (i, a.eval x)) = ((l.map (·.1)).zip vs).toArray := by
    rw [← hm, ← hxs]
    simp only [List.map_toArray, List.map_map]
    congr 1
    rw [List.zip_map']
    rfl
  have : (execOp a.eval ⟨some t, .buildSlice T len l.toArray, ty, pos, af, gd⟩).run P w = .ok (.value (.slice (some ⟨w.heap.size, 0, none⟩) len len)) (w.alloc (.cells cs.toArray E)) := by
    show ((Instr.buildSlice T len (l.toArray.map fun (i, x) => (i, a.eval x))).bind fun r => Sem.pure (Next.value r)).run P w = _
    rw [e2, Sem.run_bind', hrun]; rfl
  rw [this]
  refine ⟨_, fun b => b = w.heap.size, _, hK (some ⟨w.heap.size, 0, none⟩), rfl, rfl, he.put (g := true) (by rw [hn]; simpa [fits] using ht) _, below_new _ _, own_new (hr.rows hst.per) hst.slt hrl (by unfold maxLen; have := Nat.le_mul_of_pos_right len h0; omega), fun b hb => ?_⟩
  subst hb; simp
end
end Go.Sy
