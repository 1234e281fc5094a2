/- From the kit's reading of the arguments to shared data. -/
import Derived.Test.YtlhbnpahplpobaaSyTab
import Derived.Deep.Slices
set_option linter.unusedVariables false
set_option linter.unusedSimpArgs false
namespace Go.Sy
open Go.RowKit Go.Deep
section
variable (P : Program)
def consB : Nat → List Field → Nat → Bool
  | off, [], tot => off == tot
  | off, f :: fs, tot => f.offset == off && decide (off + P.cellsOf f.type ≤ tot) && consB (off + P.cellsOf f.type) fs tot
/-- a type of plain data -/
def rdT : Nat → TypeId → Bool
  | 0, _ => false
  | k + 1, t => match P.underlying t with
    | some .bool => true
    | some (.int _) => true
    | some .string => true
    | some (.slice e) => decide (0 < P.cellsOf e) && rdT k e
    | some (.struct fs) => consB P 0 fs.toList (P.cellsOf t) && fs.toList.all (fun f => rdT k f.type)
    | _ => false
def okF (ok : TypeId → List D → Prop) : List Field → List D → Prop
  | [], ds => ds = []
  | f :: fs, ds => ∃ d1 d2, ds = d1 ++ d2 ∧ ok f.type d1 ∧ okF ok fs d2
/-- data of a type -/
def okD : Nat → TypeId → List D → Prop
  | 0, _, _ => False
  | k + 1, t, ds => match P.underlying t with
    | some .bool => ∃ b, ds = [.v (.bool b)]
    | some (.int i) => ∃ n, ds = [.v (.int i n)] ∧ (Lit.int i n).wf = true
    | some .string => ∃ s, ds = [.v (.string s)] ∧ s.size ≤ maxLen
    | some (.slice e) => ∃ rows, ds = [.sl rows] ∧ rows.length ≤ maxLen ∧ ∀ r ∈ rows, okD k e r
    | some (.struct fs) => okF (okD k) fs.toList ds
    | _ => False
end
variable {P : Program} {H : Type} {enc : TypeId × Value → H} {w : World} {base : Nat} {spare : Nat → Bool} {held : Bool}
/-- cells that read as data -/
def Rds (w : World) (cs : List Value) (off : Nat) (ds : List D) : Prop := ∀ (j : Nat) (d : D), ds[j]? = some d → ∃ u, cs[off + j]? = some u ∧ u.oneCell' = true ∧ RepD w (fun b => b < w.heap.size) u d
section
theorem one_rds {u : Value} {d : D} (h1 : u.oneCell' = true) (h : RepD w (fun b => b < w.heap.size) u d) : Rds w [u] 0 [d] := fun j e hj => by
  cases j with
  | zero => simp at hj; subst hj; exact ⟨u, rfl, h1, h⟩
  | succ j => simp at hj
theorem struct_rep {k fuel : Nat} {cs : List Value} {tot : Nat} (hcs : cs.length = tot)
    (ih : ∀ (t : TypeId) (cs : List Value) (x : DataW H × List MemPlace), rdT P k t = true → DataW.trod enc P w base spare held fuel t cs = some x → ∃ ds, ds.length = cs.length ∧ okD P k t ds ∧ Rds w cs 0 ds) :
    ∀ (fs : List Field) (off : Nat), consB P off fs tot = true → fs.all (fun f => rdT P k f.type) = true →
      (∀ f ∈ fs, ∃ y, DataW.trod enc P w base spare held fuel f.type ((cs.drop f.offset).take (P.cellsOf f.type)) = some y) → ∃ ds, off + ds.length = tot ∧ okF (okD P k) fs ds ∧ Rds w cs off ds
  | [], off, hc, _, _ => ⟨[], by simpa [consB] using hc, rfl, fun j d hj => by cases hj⟩
  | f :: fs, off, hc, hr, ht => by
    simp only [consB, Bool.and_eq_true, beq_iff_eq, decide_eq_true_eq] at hc
    obtain ⟨⟨hc1, hc2⟩, hc3⟩ := hc
    simp only [List.all_cons, Bool.and_eq_true] at hr
    obtain ⟨y, hy⟩ := ht f (List.mem_cons_self ..)
    obtain ⟨d1, l1, o1, r1⟩ := ih _ _ _ hr.1 hy
    obtain ⟨d2, l2, o2, r2⟩ := struct_rep hcs ih fs _ hc3 hr.2 (fun g hg => ht g (List.mem_cons_of_mem _ hg))
    rw [List.length_take, List.length_drop, hc1, hcs] at l1
    have l1 : d1.length = P.cellsOf f.type := by omega
    refine ⟨d1 ++ d2, by rw [List.length_append]; omega, ⟨d1, d2, rfl, o1, o2⟩, fun j d hj => ?_⟩
    by_cases hjl : j < d1.length
    · rw [List.getElem?_append_left hjl] at hj
      obtain ⟨u, hu, h1, h2⟩ := r1 j d hj
      rw [Nat.zero_add, List.getElem?_take, if_pos (by omega), List.getElem?_drop, hc1] at hu
      exact ⟨u, hu, h1, h2⟩
    · rw [List.getElem?_append_right (by omega)] at hj
      obtain ⟨u, hu, h1, h2⟩ := r2 _ d hj
      rw [show off + P.cellsOf f.type + (j - d1.length) = off + j by omega] at hu
      exact ⟨u, hu, h1, h2⟩
theorem spot_none {a : Addr} {u : Value} (h : w.cell? a = some u) : a = ⟨a.block, a.off, none⟩ ∧ a.block < w.heap.size := by
  obtain ⟨b, o, sp⟩ := a
  unfold World.cell? at h
  split at h
  · rename_i hb
    refine ⟨?_, (Array.getElem?_eq_some_iff.1 hb).1⟩
    cases sp with
    | none => rfl
    | some z => simp at h
  · cases h
theorem trod_rep : ∀ (k fuel : Nat) (t : TypeId) (cs : List Value) (x : DataW H × List MemPlace), rdT P k t = true → DataW.trod enc P w base spare held fuel t cs = some x → ∃ ds, ds.length = cs.length ∧ okD P k t ds ∧ Rds w cs 0 ds
  | 0, _, _, _, _, h, _ => by cases h
  | k + 1, fuel, t, cs, x, hr, h => by
    unfold rdT at hr
    unfold okD
    split at hr
    · rename_i hu
      obtain ⟨b, rfl, _⟩ := DataW.trod_bool hu h
      exact ⟨[.v (.bool b)], rfl, ⟨b, rfl⟩, one_rds rfl (.v _)⟩
    · rename_i i hu
      obtain ⟨n, rfl, _, hw⟩ := DataW.trod_int hu h
      exact ⟨[.v (.int i n)], rfl, ⟨n, rfl, hw⟩, one_rds rfl (.v _)⟩
    · rename_i hu
      obtain ⟨s, rfl, _, hs⟩ := DataW.trod_string hu h
      exact ⟨[.v (.string s)], rfl, ⟨s, rfl, hs⟩, one_rds rfl (.v _)⟩
    · rename_i e hu
      rw [Bool.and_eq_true, decide_eq_true_eq] at hr
      obtain ⟨hp, hr⟩ := hr
      rcases open_slice hu h with ⟨rfl, _⟩ | ⟨a, len, cap, m, n, _, _, rfl, _, hl, hm, hmm, _, hx⟩
      · exact ⟨[.sl []], rfl, ⟨[], rfl, by simp, fun r hr => by cases hr⟩, one_rds rfl (.e none 0 (by simp))⟩
      · have hlm : len ≤ m := by rw [hmm]; split <;> omega
        by_cases hl0 : len = 0
        · subst hl0
          exact ⟨[.sl []], rfl, ⟨[], rfl, by simp, fun r hr => by cases hr⟩, one_rds rfl (.e (some a) cap hm)⟩
        · have each : ∀ i, ∃ r : List D, i < len → r.length = P.cellsOf e ∧ okD P k e r ∧ ∀ (j : Nat) (d : D), r[j]? = some d → ∃ u, w.cell? ((a.add (i * P.cellsOf e)).add j) = some u ∧ u.oneCell' = true ∧ RepD w (fun b => b < w.heap.size) u d := fun i => by
            by_cases hi : i < len
            · obtain ⟨cs', h1, h2⟩ := hx i (by omega)
              obtain ⟨ds, l1, o1, r1⟩ := trod_rep k _ _ _ _ hr h2
              obtain ⟨_, hcl, hc⟩ := World.cells?_some h1
              refine ⟨ds, fun _ => ⟨by omega, o1, fun j d hj => ?_⟩⟩
              obtain ⟨u, hu, q1, q2⟩ := r1 j d hj
              have := (List.getElem?_eq_some_iff.1 hj).1
              rw [hc j (by omega)]
              exact ⟨u, by rw [← hu, Nat.zero_add], q1, q2⟩
            · exact ⟨[], fun h => absurd h hi⟩
          obtain ⟨R, hR⟩ := Classical.skolem.1 each
          have ha : a = ⟨a.block, a.off, none⟩ ∧ a.block < w.heap.size := by
            obtain ⟨e1, _, e3⟩ := hR 0 (by omega)
            obtain ⟨d, hd⟩ : ∃ d, (R 0)[0]? = some d := ⟨(R 0)[0]'(by omega), by simp⟩
            obtain ⟨u, hu, _⟩ := e3 0 d hd
            have : (a.add (0 * P.cellsOf e)).add 0 = a := by simp [Addr.add]
            rw [this] at hu
            exact spot_none hu
          obtain ⟨ha, hb⟩ := ha
          have hadd : ∀ i j, (a.add (i * P.cellsOf e)).add j = ⟨a.block, a.off + i * P.cellsOf e + j, none⟩ := fun i j => by
            rw [ha]; unfold Addr.add
            by_cases h1 : i * P.cellsOf e = 0 <;> by_cases h2 : j = 0 <;> simp [h1, h2]
          have hrow : ∀ (i : Nat) (r : List D), ((List.range len).map R)[i]? = some r → i < len ∧ r = R i := fun i r hi => by
            have := (List.getElem?_eq_some_iff.1 hi).1
            simp at this
            rw [List.getElem?_map, List.getElem?_range this] at hi
            exact ⟨this, by simpa using hi.symm⟩
          refine ⟨[.sl ((List.range len).map R)], rfl, ⟨_, rfl, by simp; omega, fun r hr => ?_⟩, one_rds rfl ?_⟩
          · obtain ⟨i, hi, rfl⟩ := List.mem_map.1 hr
            exact (hR i (List.mem_range.1 hi)).2.1
          · have := RepD.sl (w := w) (S := fun b => b < w.heap.size) a.block a.off cap (P.cellsOf e) ((List.range len).map R) (fun i j => (w.cell? ⟨a.block, a.off + i * P.cellsOf e + j, none⟩).getD (.bool false)) hb (by simpa using hl) hm
              (fun i r hi => by obtain ⟨h1, rfl⟩ := hrow i r hi; exact (hR i h1).1)
              (fun i j r d hi hj => by
                obtain ⟨h1, rfl⟩ := hrow i r hi
                obtain ⟨u, hu, q1, q2⟩ := (hR i h1).2.2 j d hj
                rw [hadd] at hu
                rw [hu]; exact ⟨rfl, q1⟩)
              (fun i j r d hi hj => by
                obtain ⟨h1, rfl⟩ := hrow i r hi
                obtain ⟨u, hu, q1, q2⟩ := (hR i h1).2.2 j d hj
                rw [hadd] at hu
                rw [hu]; exact q2)
            rw [← ha] at this
            simpa using this
    · rename_i fs hu
      rw [Bool.and_eq_true] at hr
      obtain ⟨xs, n, _, _, hcl, hxl, hf⟩ := DataW.trod_struct hu h
      obtain ⟨ds, l1, o1, r1⟩ := struct_rep (tot := P.cellsOf t) hcl (fun t cs x h1 h2 => trod_rep k n t cs x h1 h2) fs.toList 0 hr.1 hr.2 (fun f hff => by
        obtain ⟨i, hi, rfl⟩ := List.getElem_of_mem hff
        rw [hf i _ (by simp at hi ⊢)]
        simp at hi
        exact ⟨xs[i]'(by omega), by simp [hxl, hi]⟩)
      exact ⟨ds, by omega, o1, r1⟩
    · cases hr
theorem okD_int {k : Nat} {t : TypeId} {ds : List D} {i : IntKind} (hu : P.underlying t = some (.int i)) (h : okD P (k + 1) t ds) : ∃ n, ds = [.v (.int i n)] ∧ (Lit.int i n).wf = true := by unfold okD at h; rw [hu] at h; exact h
theorem okD_bool {k : Nat} {t : TypeId} {ds : List D} (hu : P.underlying t = some .bool) (h : okD P (k + 1) t ds) : ∃ b, ds = [.v (.bool b)] := by unfold okD at h; rw [hu] at h; exact h
theorem okD_string {k : Nat} {t : TypeId} {ds : List D} (hu : P.underlying t = some .string) (h : okD P (k + 1) t ds) : ∃ s, ds = [.v (.string s)] ∧ s.size ≤ maxLen := by unfold okD at h; rw [hu] at h; exact h
theorem okD_slice {k : Nat} {t e : TypeId} {ds : List D} (hu : P.underlying t = some (.slice e)) (h : okD P (k + 1) t ds) : ∃ rows, ds = [.sl rows] ∧ rows.length ≤ maxLen ∧ ∀ r ∈ rows, okD P k e r := by unfold okD at h; rw [hu] at h; exact h
theorem okD_struct {k : Nat} {t : TypeId} {ds : List D} {fs : Array Field} (hu : P.underlying t = some (.struct fs)) (h : okD P (k + 1) t ds) : okF (okD P k) fs.toList ds := by unfold okD at h; rw [hu] at h; exact h
/-- the fields that are integers, one after the other -/
theorem okF_one {ok : TypeId → List D → Prop} {f : Field} {fs : List Field} {ds : List D} (h : okF ok (f :: fs) ds) : ∃ d1 d2, ds = d1 ++ d2 ∧ ok f.type d1 ∧ okF ok fs d2 := h
theorem wf64 {n : Int} (h : (Lit.int .i64 n).wf = true) : -9223372036854775808 ≤ n ∧ n ≤ 9223372036854775807 := by
  simp only [Lit.wf, Bool.and_eq_true, decide_eq_true_eq] at h
  have e1 : IntKind.i64.min = -9223372036854775808 := by decide +kernel
  have e2 : IntKind.i64.max = 9223372036854775807 := by decide +kernel
  rw [e1, e2] at h
  exact h
/-- rows of a kind -/
theorem rows_of {α : Type} {f : α → List D} {Q : α → Prop} : ∀ {rows : List (List D)}, (∀ r ∈ rows, ∃ d, r = f d ∧ Q d) → ∃ l : List α, rows = l.map f ∧ ∀ d ∈ l, Q d
  | [], _ => ⟨[], rfl, fun d hd => by cases hd⟩
  | r :: rows, h => by
    obtain ⟨d, rfl, hd⟩ := h r (List.mem_cons_self ..)
    obtain ⟨l, rfl, hl⟩ := rows_of fun r hr => h r (List.mem_cons_of_mem _ hr)
    exact ⟨d :: l, rfl, fun x hx => by
      rcases List.mem_cons.1 hx with rfl | hx
      · exact hd
      · exact hl x hx⟩
/-- a slice that came in, of elements of a kind -/
theorem slice_in {α : Type} {f : α → List D} {Q : α → Prop} {t e : TypeId} {k fuel len cap : Nat} {a : Option Addr} {x : DataW H × List MemPlace} (hu : P.underlying t = some (.slice e)) (hr : rdT P (k + 1) t = true)
    (hf : ∀ r, okD P k e r → ∃ d, r = f d ∧ Q d) (h : DataW.trod enc P w base spare held fuel t [.slice a len cap] = some x) :
    ∃ l : List α, len = l.length ∧ (∀ d ∈ l, Q d) ∧ RepD w (fun b => b < w.heap.size) (.slice a l.length cap) (.sl (l.map f)) := by
  obtain ⟨ds, _, ho, hR⟩ := trod_rep (k + 1) fuel t _ x hr h
  obtain ⟨rows, rfl, _, hrows⟩ := okD_slice hu ho
  obtain ⟨l, rfl, hl⟩ := rows_of fun r hr => hf r (hrows r hr)
  obtain ⟨u, hu, _, hrep⟩ := hR 0 _ rfl
  simp at hu
  subst hu
  have e : len = l.length := by
    rw [← List.length_map (f := f)]
    generalize l.map f = rows at hrep
    cases hrep with
    | e a c hc => rfl
    | sl => rfl
  subst e
  exact ⟨l, rfl, hl, hrep⟩
/-- a world that has what came in -/
theorem st_in {ps : List Per} (h : ∀ p ∈ ps, p.holds w fun b => b < w.heap.size) : St w (fun b => b < w.heap.size) (fun _ _ => False) ps [] :=
  ⟨h, fun i R hR => by simp at hR, fun i hi => by simp at hi, fun i j hi => by simp at hi, fun _ h => h⟩
end
end Go.Sy
