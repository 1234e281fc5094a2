/- Rows of cells: copy, append, clear, over elements of any size. No condition beyond the premises. -/
import Derived.Test.YtpgcoceggacplaaGreatDoorLpReg3
import Derived.Laws.CopyRow
import Derived.Laws.CopyOwn
import Derived.Deep.AppendSrc
import Derived.Lib.AppendZerosOnto
import Derived.Lib.Overlaps
import Derived.Lib.Hide
set_option linter.unusedVariables false
set_option linter.unusedSimpArgs false
set_option maxRecDepth 20000
namespace Go.Lp
open Go.RowKit

/-- w' is w but for block g, which reads otherwise -/
structure Upd (g : Nat) (w w' : World) : Prop where
  os : w'.os = w.os
  tape : w'.tape = w.tape
  output : w'.output = w.output
  size : w.heap.size ≤ w'.heap.size
  block : ∀ k, k < w.heap.size → k ≠ g → w'.heap[k]? = w.heap[k]?
theorem Upd.refl (g : Nat) (w : World) : Upd g w w := ⟨rfl, rfl, rfl, Nat.le_refl _, fun _ _ _ => rfl⟩
theorem Upd.trans {g : Nat} {a b c : World} (h : Upd g a b) (k : Upd g b c) : Upd g a c :=
  ⟨k.os.trans h.os, k.tape.trans h.tape, k.output.trans h.output, Nat.le_trans h.size k.size, fun i hi hne => (k.block i (Nat.lt_of_lt_of_le hi h.size) hne).trans (h.block i hi hne)⟩
theorem Upd.of_below {g : Nat} {w w' : World} (h : Below w.heap.size w w') : Upd g w w' := ⟨h.os, h.tape, h.output, h.size, fun k hk _ => h.block k hk⟩
theorem Upd.drew {g : Nat} {w w' : World} (h : Upd g w w') : Upd g w w'.drew := ⟨h.os, h.tape, h.output, h.size, h.block⟩
theorem Upd.below {g : Nat} {w w' : World} (h : Upd g w w') (hg : w.heap.size ≤ g) : Below w.heap.size w w' := ⟨h.os, h.tape, h.output, h.size, fun k hk => h.block k hk (by omega)⟩

variable {P : Program}

theorem heap_setRow (w : World) (g : Nat) (cs : Array Value) (k : Nat) (hk : k ≠ g) : (w.setRow g cs).heap[k]? = w.heap[k]? := by
  simp only [World.setRow, Array.getElem?_modify]
  rw [if_neg (by omega)]
theorem Upd.setRow (w : World) (g : Nat) (cs : Array Value) : Upd g w (w.setRow g cs) :=
  ⟨rfl, rfl, rfl, by simp [World.setRow], fun k _ hk => heap_setRow w g cs k hk⟩

/-- 'copy' between rows, whatever the element's size -/
theorem run_copy_rows (w : World) (dT sT ty elem : TypeId) (size g o dLen dCap : Nat) (a : Addr) (sLen sCap : Nat) (cur : Array Value) (t : TypeId) (cs : List Value)
    (hu : P.underlying dT = some (.slice elem)) (hs : (P.info? elem).map (·.size) = some size)
    (hg : w.heap[g]? = some (.cells cur t (0, 0))) (hn : cs.length = Nat.min sLen dLen * size)
    (hsrc : ∀ j v, cs[j]? = some v → w.cell? (a.add j) = some v) (hfit : o + cs.length ≤ cur.size) (h1 : ∀ v ∈ cs, v.oneCell' = true) :
    (Builtin.copy_ #[dT, sT] ty #[.slice (some ⟨g, o, none⟩) dLen dCap, .slice (some a) sLen sCap]).run P w =
      .ok (goInt (Nat.min sLen dLen)) (w.setRow g (splice cur.toList o cs).toArray) := by
  have hl := run_loadCells_list (P := P) w a cs hsrc
  have hst := run_storeCells_at P g o t cs 0 cur w hg (by simpa using hfit) h1
  cases hq : P.info? elem with
  | none => simp [hq] at hs
  | some i =>
    have hi : i.size = size := by simpa [hq] using hs
    simp [Builtin.copy_, run_underlying hu, Builtin.lenOf, Builtin.firstCells, sizeOf, typeInfo, hq, hi, ← hn, hl, hst, splice]

theorem run_firstCells_row (w : World) (g o size n cap : Nat) (cur : List Value) (t : TypeId) (fz : Nat × Nat) (hg : w.heap[g]? = some (.cells cur.toArray t fz)) (h : o + n * size ≤ cur.length) :
    (Builtin.firstCells size n (.slice (some ⟨g, o, none⟩) n cap)).run P w = .ok ((cur.drop o).take (n * size)).toArray w := by
  have hl := run_loadCells_list (P := P) w ⟨g, o, none⟩ ((cur.drop o).take (n * size)) (fun j v hv => by
    rw [List.getElem?_take] at hv
    split at hv
    · rw [List.getElem?_drop] at hv
      unfold World.cell?
      by_cases hj : j = 0
      · subst hj; simp only [Addr.add, if_true, hg]; simpa using hv
      · simp only [Addr.add, if_neg hj, hg]; simpa using hv
    · cases hv)
  have hlen : ((cur.drop o).take (n * size)).length = n * size := by simp; omega
  rw [hlen] at hl
  exact hl
theorem nextslicecap_le (a b : Nat) : Builtin.nextslicecap a b ≤ a + 2 * b + 2048 + b := by
  unfold Builtin.nextslicecap
  split
  · omega
  · split
    · omega
    · have h : ∀ r c, c ≤ a + (a + 768) / 4 → Builtin.growBy a r c ≤ a + (a + 768) / 4 := by
        intro r
        induction r with
        | zero => intro c hc; exact hc
        | succ r ih =>
          intro c hc
          unfold Builtin.growBy
          split
          · exact hc
          · exact ih _ (by omega)
      by_cases hb : b ≤ a + (a + 768) / 4
      · have := h 4 b hb; omega
      · have h1 : Builtin.growBy a 4 b = b := by unfold Builtin.growBy; rw [if_pos (by omega)]
        omega
/-- an operation whose run is known -/
theorem wpList_run {w : World} {ops : Array Oper} {rest : List Oper} {o : Oper} {a : Act} {Q : Exit → Act → World → Prop} (hgd : o.guard = none) (v' : Value) (w' : World)
    (hr : (execOp a.eval o).run P w = .ok (.value v') w') (h : ∀ K : Act → World → Prop, (∀ a w, wpList P ops Q rest a w → K a w) → K (a.put o.dst v') w') : wpList P ops Q (o :: rest) a w :=
  wpList_plain hgd fun _ hK => by
    unfold Oper.wp
    rw [hr]
    exact h _ hK

theorem exec_builtin {ρ : Operand → Value} {b : Builtin} {l : List Operand} {ats : Array TypeId} {dst : Option Tmp} {ty : TypeId} {pos : String} {after : Array Edge} {guard : Option (Nat × Bool)} {w w' : World} {v : Value} {s : Sem Value}
    (hr : s.run P w = .ok v w') (hb : builtin b ats ty (l.map fun | .const _ => true | _ => false).toArray (l.map ρ).toArray = (s.bind fun u => Sem.pure (Next.value u))) :
    (execOp ρ { dst, op := .call { callee := .builtin b, args := l.toArray, argTypes := ats }, type := ty, pos, after, guard }).run P w = .ok (.value v) w' := by
  have e : execOp ρ { dst, op := .call { callee := .builtin b, args := l.toArray, argTypes := ats }, type := ty, pos, after, guard } = builtin b ats ty (l.map fun | .const _ => true | _ => false).toArray (l.map ρ).toArray := by
    rw [← List.map_toArray, ← List.map_toArray]; rfl
  rw [e, hb, Sem.run_bind', hr]
  rfl

theorem setRow_ext (w : World) (objs : Array Obj) (d g : Nat) (cs : Array Value) (h : g < w.heap.size) : (w.ext objs d).setRow g cs = (w.setRow g cs).ext objs d := by
  unfold World.setRow World.ext
  simp only [World.mk.injEq, and_true]
  apply Array.ext_getElem?
  intro i
  simp only [Array.getElem?_modify, Array.getElem?_append, Array.size_modify]
  by_cases hi : g = i
  · subst hi; simp [h]
  · simp [hi]
theorem heap_setRow_same (w : World) (g : Nat) (cur cs : Array Value) (t : TypeId) (fz : Nat × Nat) (h : w.heap[g]? = some (.cells cur t fz)) : (w.setRow g cs).heap[g]? = some (.cells cs t fz) := by
  simp only [World.setRow, Array.getElem?_modify, if_true, h, Option.map_some]
theorem size_setRow (w : World) (g : Nat) (cs : Array Value) : (w.setRow g cs).heap.size = w.heap.size := by simp [World.setRow]
theorem cell_of_heap {w : World} {b o : Nat} {c : Array Value} {t : TypeId} {fz : Nat × Nat} (h : w.heap[b]? = some (.cells c t fz)) : w.cell? ⟨b, o, none⟩ = c[o]? := by
  unfold World.cell?; rw [show (⟨b, o, none⟩ : Addr).block = b from rfl, h]; rfl
theorem lt_of_heap {w : World} {b : Nat} {x : Obj} (h : w.heap[b]? = some x) : b < w.heap.size := by
  rcases Nat.lt_or_ge b w.heap.size with h' | h'
  · exact h'
  · rw [Array.getElem?_eq_none h'] at h; cases h

/-- append of zeros that outgrow the row: a new row -/
theorem append_zeros (w : World) (t tn ty e : TypeId) (i : TypeInfo) (z : Value) (kn : IntKind) (ht : P.underlying t = some (.slice e)) (htn : P.underlying tn = some (.int kn)) (hi : P.info? e = some i) (hz : i.zero = some z) (hzs : z.cells.size = i.size)
    (B n c k : Nat) (cur : List Value) (t' : TypeId) (fz : Nat × Nat) (hB : w.heap[B]? = some (.cells cur.toArray t' fz)) (hl : n * i.size ≤ cur.length) (h0 : 0 < k) (hs : 0 < i.size) (hg : c < n + k) (hn : n + k ≤ 1000000) (hb : i.bytes ≤ 4096) :
    ∃ C w1, n + k ≤ C ∧ C ≤ maxLen ∧ (Builtin.append_ #[t, tn] ty #[.slice (some ⟨B, 0, none⟩) n c, .int .i64 k]).run P w = .ok (.slice (some ⟨w.heap.size, 0, none⟩) (n + k) C) w1 ∧
      (∃ cur1 : List Value, w1.heap[w.heap.size]? = some (.cells cur1.toArray e (0, 0)) ∧ cur1.length = C * i.size ∧ cur1.take (n * i.size) = cur.take (n * i.size)) ∧ w1.heap.size = w.heap.size + 1 ∧ Below w.heap.size w w1 := by
  have hold := run_firstCells_row (P := P) w.drew B 0 i.size n c cur t' fz hB (by omega)
  have hbytes : Builtin.nextslicecap (n + k) c * i.bytes ≤ 281474976710656 := by
    have h1 := nextslicecap_le (n + k) c
    have h2 : Builtin.nextslicecap (n + k) c * i.bytes ≤ 5000000 * 4096 := Nat.mul_le_mul (by omega) hb
    omega
  have hk : k * i.bytes ≤ 281474976710656 := by
    have h2 : k * i.bytes ≤ 1000000 * 4096 := Nat.mul_le_mul (by omega) hb
    omega
  have hr := Lib.run_append_grow_zeros w t tn ty e i z .i64 kn ht htn hi hz (some ⟨B, 0, none⟩) n c _ hold k h0 hs hg (by omega) hk hbytes
  have hC := grownCap_ge w (n + k) c e
  refine ⟨grownCap w (n + k) c e, _, hC, grownCap_le_maxLen w (n + k) c e (by unfold maxLen; omega), hr, ⟨(((cur.drop 0).take (n * i.size)).toArray ++ Builtin.zeroCells z.cells k ++ Builtin.zeroCells z.cells (grownCap w (n + k) c e - (n + k))).toList, ?_, ?_, ?_⟩, by simp, (Below.refl _ w).drew.alloc (Nat.le_refl _) _⟩
  · show (w.drew.heap.push _)[w.drew.heap.size]? = _
    rw [Array.getElem?_push_size]
  · simp only [List.drop_zero, Array.toList_append, List.length_append, Array.length_toList, List.length_take, Builtin.zeroCells, Array.size_map, Array.size_range, hzs]
    rw [Nat.min_eq_left hl, ← Nat.add_mul, ← Nat.add_mul]
    congr 1; omega
  · rw [List.drop_zero, Array.toList_append, Array.toList_append, List.append_assoc, List.take_append_of_le_length (by simp; omega)]
    show List.take _ (List.take _ cur) = _
    rw [List.take_take, Nat.min_self]

theorem Src.row (w : World) (t e' : TypeId) (hk : P.underlying t = some (.slice e')) (size V o m vc : Nat) (news : List Value) (hl : news.length = m * size) (hV : ∀ j v, news[j]? = some v → w.cell? ⟨V, o + j, none⟩ = some v) (h1 : ∀ v ∈ news, v.oneCell' = true) :
    Src P size t (.slice (some ⟨V, o, none⟩) m vc) m news w :=
  Src.ofSlice w hk ⟨V, o, none⟩ m vc news hl (fun j v hj => by
    have := hV j v hj
    unfold Addr.add; split
    · rename_i h; subst h; exact this
    · exact this) h1

/-- append of a slice that outgrows the row: a new row -/
theorem append_grow (w : World) (t tx ty e : TypeId) (i : TypeInfo) (z : Value) (ht : P.underlying t = some (.slice e)) (hi : P.info? e = some i) (hz : i.zero = some z) (hzs : z.cells.size = i.size)
    (base : Option Addr) (n c k : Nat) (olds : List Value) (hold : (Builtin.firstCells i.size n (.slice base n c)).run P w.drew = .ok olds.toArray w.drew) (hol : olds.length = n * i.size) (x : Value) (news : List Value) (hsrc : Src P i.size tx x k news w)
    (hg : c < n + k) (hn : n + k ≤ 1000000000) (hb : i.bytes ≤ 4096) :
    ∃ C w1, n + k ≤ C ∧ C ≤ maxLen ∧ (Builtin.append_ #[t, tx] ty #[.slice base n c, x]).run P w = .ok (.slice (some ⟨w.heap.size, 0, none⟩) (n + k) C) w1 ∧
      (∃ cur1 : List Value, w1.heap[w.heap.size]? = some (.cells cur1.toArray e (0, 0)) ∧ cur1.length = C * i.size ∧ cur1.take ((n + k) * i.size) = olds ++ news) ∧ w1.heap.size = w.heap.size + 1 ∧ Below w.heap.size w w1 := by
  have hbytes : Builtin.nextslicecap (n + k) c * i.bytes ≤ 281474976710656 := by
    have h1 := nextslicecap_le (n + k) c
    have h2 : Builtin.nextslicecap (n + k) c * i.bytes ≤ 5000000000 * 4096 := Nat.mul_le_mul (by omega) hb
    omega
  have hr := run_append_grow_src (P := P) (w := w) t tx ty e i z ht hi hz base n c olds hold x k news hsrc hg (by omega) hbytes
  have hC := grownCap_ge w (n + k) c e
  have hnl := hsrc.newsLen
  refine ⟨grownCap w (n + k) c e, _, hC, grownCap_le_maxLen w (n + k) c e (by unfold maxLen; omega), hr, ⟨((olds ++ news).toArray ++ Builtin.zeroCells z.cells (grownCap w (n + k) c e - (n + k))).toList, ?_, ?_, ?_⟩, by simp, (Below.refl _ w).drew.alloc (Nat.le_refl _) _⟩
  · show (w.drew.heap.push _)[w.drew.heap.size]? = _
    rw [Array.getElem?_push_size]
  · simp only [Array.toList_append, List.length_append, Array.length_toList, Builtin.zeroCells, Array.size_map, Array.size_range, hzs, hol, hnl]
    rw [← Nat.add_mul, ← Nat.add_mul]
    congr 1; omega
  · rw [Array.toList_append, List.take_append_of_le_length (by simp [hol, hnl, Nat.add_mul])]
    show List.take _ (olds ++ news) = _
    rw [List.take_of_length_le (by simp [hol, hnl, Nat.add_mul])]

/-- append of a slice within the capacity: in place -/
theorem append_room (w : World) (t tx ty e : TypeId) (i : TypeInfo) (ht : P.underlying t = some (.slice e)) (hi : P.info? e = some i) (B o n c : Nat) (x : Value) (k : Nat) (news : List Value) (hsrc : Src P i.size tx x k news w)
    (hroom : n + k ≤ c) (cur : Array Value) (t' : TypeId) (hB : w.heap[B]? = some (.cells cur t' (0, 0))) (hfit : o + n * i.size + news.length ≤ cur.size) :
    (Builtin.append_ #[t, tx] ty #[.slice (some ⟨B, o, none⟩) n c, x]).run P w = .ok (.slice (some ⟨B, o, none⟩) (n + k) c) (w.setRow B (splice cur.toList (o + n * i.size) news).toArray) := by
  have hst := run_storeCells_at P B (o + n * i.size) t' news 0 cur w hB (by simpa using hfit) hsrc.one
  rcases hsrc.kind with ⟨e', hk⟩ | hk <;> simp [Builtin.append_, run_underlying ht, run_underlying hk, sizeOf, typeInfo, hi, hsrc.len, hroom, hsrc.cells, Addr.add_lit, hst, splice]
end Go.Lp
