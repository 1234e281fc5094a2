/- A logic of states: drawn regions of any kind: what is only read may be read first; what makes or changes blocks goes in each order. No condition. -/
import Derived.Test.YtpgcoceggacplaaGreatDoorMgA
import Derived.Test.YtpgcoceggacplaaGreatDoorMgC
set_option linter.unusedVariables false
set_option linter.unusedSimpArgs false
set_option maxRecDepth 20000
namespace Go.Sy
open Go.RowKit
section
variable {P : Program} {n : Nat} {s : Sta} {d : Option Tmp} {ty : TypeId} {pos : String} {af : Array Edge} {gd : Option (Nat × Bool)} {x y : Operand}
theorem q_append0 {T tx E E2 : TypeId} {sz sz2 : Nat} {ad ay : Option Addr} {k c cy : Nat} (hel : elB P T E sz = true) (hel2 : elB P tx E2 sz2 = true) (hx : ev s.env x = some (true, .slice ad k c)) (hy : ev s.env y = some (true, .slice ay 0 cy)) (hk : k ≤ c) :
    Quiet P n ⟨d, .call ⟨.builtin .append, #[x, y], #[T, tx]⟩, ty, pos, af, gd⟩ s (.slice ad k c) :=
  .run2 hx hy fun ρ w h1 h2 => by
    obtain ⟨hT, it, hi, h3, h4, h5⟩ := elB_spec hel
    obtain ⟨hT2, it2, hi2, _⟩ := elB_spec hel2
    have hrun : (Builtin.append_ #[T, tx] ty #[.slice ad k c, .slice ay 0 cy]).run P w = .ok (.slice ad k c) w := by
      simp [Builtin.append_, run_underlying hT, run_underlying hT2, sizeOf, typeInfo, hi, Builtin.lenOf, Builtin.firstCells, hk]
      cases ay <;> cases ad <;> simp [loadCells, loadCellsFrom, storeCells]
    have e : (execOp ρ ⟨d, .call ⟨.builtin .append, #[x, y], #[T, tx]⟩, ty, pos, af, gd⟩) = (Builtin.append_ #[T, tx] ty (#[x, y].map ρ)).bind fun r => Sem.pure (Next.value r) := rfl
    rw [e, show #[x, y].map ρ = #[.slice ad k c, .slice ay 0 cy] by simp [h1, h2], Sem.run_bind', hrun]; rfl
end
end Go.Sy
namespace Go.Sy
open Go.RowKit Go.Lp
theorem add_at (b o k : Nat) : (Addr.mk b o none).add k = ⟨b, o + k, none⟩ := by
  unfold Addr.add
  split
  · rename_i h; rw [h]; rfl
  · rfl
section
variable {P : Program} {n : Nat} {s : Sta} {d : Option Tmp} {ty : TypeId} {pos : String} {af : Array Edge} {gd : Option (Nat × Bool)} {x y : Operand}
theorem q_sliceHS {R : World → World → Prop} {T E : TypeId} {sz nn c : Nat} {ad : Option Addr} {rows : List (List D)} {kk : IntKind} {z : Int} (k : Nat) (hel : elB P T E sz = true) (hx : ev s.env x = some (true, .slice ad nn c)) (hs : Sh (.slice ad nn c) (.sl rows) ∈ s.ps)
    (hy : ev s.env y = some (true, .int kk z)) (hz : z = (k : Int)) (hk : k ≤ rows.length) (hrl : ∀ r ∈ rows, r.length = sz) :
    QuietR (β := Option Addr × Nat) P R n ⟨d, .slice T x none (some y) none, ty, pos, af, gd⟩ s (fun p => .slice p.1 k p.2) (fun p => [Sh (.slice p.1 k p.2) (.sl (rows.take k))]) := fun w S fp a hst he hn => by
  have h1 := he.val hx rfl
  subst hz
  have h2 := he.val hy rfl
  obtain ⟨hT, it, hi, _, hsz, _⟩ := elB_spec hel
  have hrep := hst.per _ hs
  have hc : rows.length ≤ c ∧ c ≤ maxLen := by
    cases hrep with
    | e a c hc => exact ⟨Nat.zero_le _, hc⟩
    | sl b o _ sz' _ us hb hn' hc hrl hcell hd => exact ⟨hn', hc⟩
  have hE : P.elem T = E := by unfold Program.elem; rw [hT]
  have hrun : ∀ w1, (execOp a.eval ⟨d, .slice T x none (some y) none, ty, pos, af, gd⟩).run P w1 = .ok (.value (sliced ad 0 k c sz)) w1 := fun w1 => by
    unfold execOp; dsimp only; simp only [Option.map_some, Option.map_none]; rw [h1, h2]
    show ((Instr.sliceAt T (.slice ad nn c) none (some (.int kk k)) none).bind fun r => Sem.pure (Next.value r)).run P w1 = _
    have hT' : P.underlying T = some (.slice (P.elem T)) := by rw [hT, hE]
    rw [Sem.run_bind', run_sliceAt_slice w1 T _ _ _ _ hT', run_slice_h w1 T ad nn c hT' kk k (by omega) (by omega), hE, run_sizeOf' hi, hsz]
    rfl
  refine ⟨(if c = 0 then ad else ad.map (·.add (0 * sz)), c), fun w1 _ => by rw [hrun]; exact uponQ_ok _ _, fun p hp => ?_⟩
  simp only [List.mem_singleton] at hp
  subst hp
  show RepD w S (.slice (if c = 0 then ad else ad.map (·.add (0 * sz))) k c) (.sl (rows.take k))
  cases hrep with
  | e a c hc' =>
    obtain rfl : k = 0 := by simpa using hk
    exact .e _ _ hc'
  | sl b o _ sz' _ us hb hn' hc hrl' hcell hd =>
    have e : (if c = 0 then (some ⟨b, o, none⟩ : Option Addr) else (some ⟨b, o, none⟩ : Option Addr).map (·.add (0 * sz))) = some ⟨b, o, none⟩ := by
      split
      · rfl
      · simp [add_at]
    rw [e]
    have hlt : (rows.take k).length = k := by rw [List.length_take]; omega
    have hget : ∀ (i : Nat) (r : List D), (rows.take k)[i]? = some r → rows[i]? = some r := fun i r h => by
      rw [List.getElem?_take] at h; split at h
      · exact h
      · cases h
    have := RepD.sl (w := w) (S := S) b o c sz' (rows.take k) us hb (by omega) hc (fun i r h => hrl' i r (hget i r h)) (fun i j r d h1 h2 => hcell i j r d (hget i r h1) h2) (fun i j r d h1 h2 => hd i j r d (hget i r h1) h2)
    rwa [hlt] at this
theorem q_sliceLS {R : World → World → Prop} {T E : TypeId} {sz nn c : Nat} {ad : Option Addr} {rows : List (List D)} {kk : IntKind} {z : Int} (k m : Nat) (hel : elB P T E sz = true) (hx : ev s.env x = some (true, .slice ad nn c)) (hs : Sh (.slice ad nn c) (.sl rows) ∈ s.ps)
    (hy : ev s.env y = some (true, .int kk z)) (hz : z = (k : Int)) (hk : k ≤ rows.length) (hrl : ∀ r ∈ rows, r.length = sz) (hm : rows.length - k = m) :
    QuietR (β := Option Addr × Nat) P R n ⟨d, .slice T x (some y) none none, ty, pos, af, gd⟩ s (fun p => .slice p.1 m p.2) (fun p => [Sh (.slice p.1 m p.2) (.sl (rows.drop k))]) := fun w S fp a hst he hn => by
  have h1 := he.val hx rfl
  subst hz
  have h2 := he.val hy rfl
  obtain ⟨hT, it, hi, _, hsz, _⟩ := elB_spec hel
  have hrep := hst.per _ hs
  have hnn : nn = rows.length := by cases hrep <;> rfl
  have hE : P.elem T = E := by unfold Program.elem; rw [hT]
  have hrun : ∀ w1, (execOp a.eval ⟨d, .slice T x (some y) none none, ty, pos, af, gd⟩).run P w1 = .ok (.value (sliced ad k nn c sz)) w1 := fun w1 => by
    unfold execOp; dsimp only; simp only [Option.map_some, Option.map_none]; rw [h1, h2]
    show ((Instr.sliceAt T (.slice ad nn c) (some (.int kk k)) none none).bind fun r => Sem.pure (Next.value r)).run P w1 = _
    have hT' : P.underlying T = some (.slice (P.elem T)) := by rw [hT, hE]
    rw [Sem.run_bind', run_sliceAt_slice w1 T _ _ _ _ hT', run_slice_l w1 T ad nn c hT' kk k (by omega) (by omega), hE, run_sizeOf' hi, hsz]
    rfl
  subst hm
  refine ⟨(if c = k then ad else ad.map (·.add (k * sz)), c - k), fun w1 _ => by rw [hrun, hnn]; exact uponQ_ok _ _, fun p hp => ?_⟩
  simp only [List.mem_singleton] at hp
  subst hp
  show RepD w S (.slice (if c = k then ad else ad.map (·.add (k * sz))) (rows.length - k) (c - k)) (.sl (rows.drop k))
  cases hrep with
  | e a c hc =>
    obtain rfl : k = 0 := by simpa using hk
    exact .e _ _ (by omega)
  | sl b o _ sz' _ us hb hn' hc hrl' hcell hd =>
    by_cases hkr : k = rows.length
    · subst hkr
      rw [List.drop_length, Nat.sub_self]; exact .e _ _ (by omega)
    · have hsz' : sz' = sz := by
        obtain ⟨r, hr⟩ : ∃ r, rows[0]? = some r := ⟨_, List.getElem?_eq_getElem (by omega)⟩
        rw [← hrl' 0 r hr]; exact hrl r (List.mem_of_getElem? hr)
      subst hsz'
      rw [if_neg (by omega), Option.map_some, add_at, show rows.length - k = (rows.drop k).length by simp]
      refine .sl b (o + k * sz') (c - k) sz' (rows.drop k) (fun i j => us (k + i) j) hb (by rw [List.length_drop]; omega) (by omega) (fun i r h => hrl' (k + i) r (by rwa [List.getElem?_drop] at h)) (fun i j r d h1 h2 => ?_) (fun i j r d h1 h2 => hd (k + i) j r d (by rwa [List.getElem?_drop] at h1) h2)
      rw [List.getElem?_drop] at h1
      have := hcell (k + i) j r d h1 h2
      rwa [Nat.add_mul, ← Nat.add_assoc] at this
end
section
variable {P : Program} {n : Nat} {env : Env} {ps : List Per} {hp : List Res} {ty : TypeId} {pos : String} {af : Array Edge} {gd : Option (Nat × Bool)} {K : Sta → Prop} {v : Value}
/-- an append to an own slice, of a shared one that may be empty -/
theorem w_appendS {t : Nat} {x y : Operand} {T tx E : TypeId} {sz ky cy : Nat} {ay : Option Addr} {rows rows2 : List (List D)} (i : Nat) (hel : elB P T E sz = true) (hel2 : elB P tx E sz = true)
    (hx : ev env x = some (true, v)) (hy : ev env y = some (true, .slice ay ky cy)) (ht : fits n (some t) = true) (hi : hp[i]? = some (OwnS v E sz rows)) (hs : Sh (.slice ay ky cy) (.sl rows2) ∈ ps) (hrl : ∀ r ∈ rows2, r.length = sz) (hle : rows.length + rows2.length ≤ 1000000000)
    (m : Nat) (hm : rows.length + rows2.length = m) (hK : ∀ ad c, K ⟨(t, true, .slice ad m c) :: env, ps, hp.set i (OwnS (.slice ad m c) E sz (rows ++ rows2))⟩) :
    Eff P n ⟨some t, .call ⟨.builtin .append, #[x, y], #[T, tx]⟩, ty, pos, af, gd⟩ ⟨env, ps, hp⟩ false K := by
  by_cases h0 : rows2 = []
  · subst h0
    intro w S fp a hst he hn
    have hky : ky = 0 := by
      have := hst.per _ hs
      cases this <;> rfl
    subst hky
    obtain ⟨ad, cc, hv, hcc⟩ : ∃ ad cc, v = .slice ad rows.length cc ∧ rows.length ≤ cc := by
      rcases hst.res i _ hi with ⟨rfl, rfl, _⟩ | ⟨b, cap, rfl, ⟨cs, sp, _, _, _, hc, _⟩, _⟩
      · exact ⟨none, 0, rfl, Nat.le_refl _⟩
      · exact ⟨_, cap, rfl, hc⟩
    subst hv
    have hK' := hK ad cc
    rw [List.append_nil] at hK'
    obtain rfl : rows.length = m := by simpa using hm
    have hset : hp.set i (OwnS (.slice ad rows.length cc) E sz rows) = hp := by
      obtain ⟨hil, e⟩ := List.getElem?_eq_some_iff.1 hi
      rw [← e]; exact List.set_getElem_self hil
    rw [hset] at hK'
    exact (q_append0 hel hel2 hx hy hcc).eff ht hK' w S fp a hst he hn
  · exact w_append i hel hx hy ht hi (w_srcS hel2 hs hrl h0) h0 hle m hm hK
/-- an append to a literal of nothing: it always makes a new block -/
theorem w_appendQ {t : Nat} {x y : Operand} {T tx E : TypeId} {sz ky cy : Nat} {ad ay : Option Addr} {rows2 : List (List D)} {q : Bool} (i : Nat) (hel : elB P T E sz = true) (hel2 : elB P tx E sz = true)
    (hx : ev env x = some (true, .slice ad 0 0)) (hy : ev env y = some (true, .slice ay ky cy)) (ht : fits n (some t) = true) (hi : hp[i]? = some (OwnS (.slice ad 0 0) E sz [])) (hs : Sh (.slice ay ky cy) (.sl rows2) ∈ ps) (hrl : ∀ r ∈ rows2, r.length = sz) (hle : rows2.length ≤ 1000000000)
    (m : Nat) (hm : rows2.length = m) (hK : ∀ ad c, K ⟨(t, true, .slice ad m c) :: env, ps, hp.set i (OwnS (.slice ad m c) E sz rows2)⟩) :
    Eff P n ⟨some t, .call ⟨.builtin .append, #[x, y], #[T, tx]⟩, ty, pos, af, gd⟩ ⟨env, ps, hp⟩ q K := by
  intro w S fp a hst he hn
  have hil := (List.getElem?_eq_some_iff.1 hi).1
  by_cases h0 : rows2 = []
  · subst h0
    have hky : ky = 0 := by
      have := hst.per _ hs
      cases this <;> rfl
    subst hky
    have hK' := hK ad 0
    obtain rfl : 0 = m := by simpa using hm
    have hset : hp.set i (OwnS (.slice ad 0 0) E sz []) = hp := by
      obtain ⟨hil, e⟩ := List.getElem?_eq_some_iff.1 hi
      rw [← e]; exact List.set_getElem_self hil
    rw [hset] at hK'
    exact (q_append0 hel hel2 hx hy (Nat.le_refl _)).eff ht hK' w S fp a hst he hn
  · subst hm
    have e1 := he.val hx rfl
    have e2 := he.val hy rfl
    obtain ⟨hT, it, hin, hiz, hsz, hby⟩ := elB_spec hel
    obtain ⟨news, hnews, hsrc⟩ := (w_srcS (P := P) (env := env) (hp := hp) hel2 hs hrl h0).src w S fp hst
    obtain ⟨z, hz, hzs⟩ : ∃ z, it.zero = some z ∧ z.cells.size = it.size := by
      cases hz : it.zero with
      | none => rw [hz] at hiz; cases hiz
      | some z => rw [hz] at hiz; exact ⟨z, rfl, by simpa using hiz⟩
    have hk0 : 0 < rows2.length := by cases rows2 with
      | nil => exact absurd rfl h0
      | cons => simp
    subst hsz
    obtain ⟨C, w1, h1, h2, hrun, ⟨cur1, g1, g2, g3⟩, g4, g5⟩ := append_grow (P := P) w T tx ty E it z hT hin hz hzs ad 0 0 rows2.length [] (by cases ad <;> simp [Builtin.firstCells, loadCells, loadCellsFrom]) (by simp) _ news hsrc (by omega) (by simpa using hle) hby
    rw [Nat.zero_add] at h1 hrun g3
    have hexec : execOp a.eval ⟨some t, .call ⟨.builtin .append, #[x, y], #[T, tx]⟩, ty, pos, af, gd⟩ = (Builtin.append_ #[T, tx] ty (#[x, y].map a.eval)).bind fun r => Sem.pure (Next.value r) := rfl
    have hargs : #[x, y].map a.eval = #[.slice ad 0 0, .slice ay ky cy] := by simp [e1, e2]
    rw [hexec, hargs, Sem.run_bind', hrun]
    have hlt : w.heap.size < w1.heap.size := by omega
    have hR : (OwnS (.slice (some ⟨w.heap.size, 0, none⟩) rows2.length C) E it.size rows2).holds w1 S (fun k => k = w.heap.size) := by
      refine .inr ⟨w.heap.size, C, rfl, ⟨news, cur1.drop (rows2.length * it.size), ?_, ?_, ?_, h1, h2⟩, fun _ => Iff.rfl⟩
      · have : cur1.take (rows2.length * it.size) ++ cur1.drop (rows2.length * it.size) = cur1 := List.take_append_drop _ _
        rw [g3, List.nil_append] at this
        rw [this]; exact g1
      · exact hnews.mono (fun b' hb' => g5.block b' (hst.slt b' hb')) (fun _ h => h)
      · have : cur1.take (rows2.length * it.size) ++ cur1.drop (rows2.length * it.size) = cur1 := List.take_append_drop _ _
        rw [g3, List.nil_append] at this
        rw [this]; exact g2
    have hst' := hst.change2 hil g5.size (fun b' hb' _ => g5.block b' hb') _ (fun k => k = w.heap.size) hR (fun k hk => by subst hk; exact ⟨.inr (Nat.le_refl _), hlt⟩)
    refine ⟨_, S, _, hK _ _, hst', he.put (g := true) (by rw [hn]; simpa [fits] using ht) _, ⟨g5.os, g5.tape, g5.output, g5.size, fun b' hb' _ => g5.block b' hb', fun _ h => h, fun _ h => .inl h⟩, fun b' ⟨k, hk, hbk⟩ => ?_, fun _ => g5⟩
    have hk' : k < hp.length := by simpa using hk
    try dsimp only at hbk
    by_cases hki : k = i
    · rw [if_pos hki] at hbk
      subst hbk
      exact .inr (Nat.le_refl _)
    · rw [if_neg hki] at hbk; exact .inl ⟨k, hk', hbk⟩
end
end Go.Sy
namespace Go.Sy
open Go.RowKit Go.Lp
variable {P : Program} {md : Region.Mode} {ops : Array Oper}
/-- the blocks of B are left alone -/
structure Leave (B : Blks) (w w' : World) : Prop where
  size : w.heap.size ≤ w'.heap.size
  block : ∀ k, B k → k < w.heap.size → w'.heap[k]? = w.heap[k]?
theorem Leave.of_below {B : Blks} {w w' : World} (h : Below w.heap.size w w') : Leave B w w' := ⟨h.size, fun k _ hk => h.block k hk⟩
theorem Leave.trans {B : Blks} {a b c : World} (h : Leave B a b) (k : Leave B b c) : Leave B a c := ⟨Nat.le_trans h.size k.size, fun i hi hl => (k.block i hi (Nat.lt_of_lt_of_le hl h.size)).trans (h.block i hi hl)⟩
theorem Leave.mono {B B' : Blks} {w w' : World} (h : Leave B w w') (hB : ∀ k, B' k → B k) : Leave B' w w' := ⟨h.size, fun k hk => h.block k (hB k hk)⟩
/-- each operation j does what G j allows -/
def wpC (P : Program) (md : Region.Mode) (ops : Array Oper) (G : Nat → World → World → Prop) (Q : Act → World → Prop) : Nat → Array Bool → Act → World → Prop
  | 0, L, a, w => ∀ w1, Below w.heap.size w w1 → Region.ready md ops L = [] ∧ Q a w1
  | k + 1, L, a, w => ∀ w1, Below w.heap.size w w1 → (Region.ready md ops L = [] → Q a w1) ∧
      ∀ i ∈ Region.ready md ops L, opB P ops i (fun a' w' => G i w1 w' ∧ wpC P md ops G Q k (L.setIfInBounds i true) a' w') a w1
variable {G : Nat → World → World → Prop} {Q : Act → World → Prop}
theorem wpC_up {k : Nat} {L : Array Bool} {a : Act} {w w1 : World} (h : wpC P md ops G Q k L a w) (hb : Below w.heap.size w w1) : wpC P md ops G Q k L a w1 := by
  cases k with
  | zero => exact fun w2 h2 => h w2 (bel_trans hb h2)
  | succ k => exact fun w2 h2 => h w2 (bel_trans hb h2)
theorem wpAny_of_wpC {Q' : Exit → Act → World → Prop} (hQ : ∀ a w, Q a w → Q' .normal a w) : ∀ (k : Nat) (L : Array Bool) (a : Act) (w : World), wpC P md ops G Q k L a w → wpAny P md ops Q' k L a w
  | 0, _, _, w, h => ⟨(h w (Below.refl _ _)).1, hQ _ _ (h w (Below.refl _ _)).2⟩
  | k + 1, _, _, w, h => ⟨fun h0 => hQ _ _ ((h w (Below.refl _ _)).1 h0), fun i hi => wpOp_mono (fun _ _ h => wpAny_of_wpC hQ k _ _ _ h.2) (wpOp_of_opB ((h w (Below.refl _ _)).2 i hi))⟩
/-- what an operation hands back in all worlds that R leads to -/
def YieldsR (P : Program) (R : World → World → Prop) (ops : Array Oper) (o : Oper) (v : Value) (a : Act) (w : World) : Prop :=
  (Region.wanted o (yielded ops a.tmps) = true ∧ ∀ w1, R w w1 → uponQ P v w1 ((execOp a.eval o).run P w1)) ∨ (Region.wanted o (yielded ops a.tmps) = false ∧ v = undef)
section
variable {R : World → World → Prop} (h1 : ∀ a b : World, Below a.heap.size a b → R a b) (h2 : ∀ a b c : World, R a b → R b c → R a c) (hG : ∀ (j : Nat) (a b : World), Below a.heap.size a b → G j a b)
include h2 in
theorem YieldsR.of_same {o : Oper} {v : Value} {a a' : Act} {w w' : World} (hy : YieldsR P R ops o v a w) (he : execOp a'.eval o = execOp a.eval o)
    (hw : Region.wanted o (yielded ops a'.tmps) = Region.wanted o (yielded ops a.tmps)) (hb : R w w') : YieldsR P R ops o v a' w' := by
  unfold YieldsR at *
  rw [he, hw]
  exact hy.imp (fun ⟨g1, g2⟩ => ⟨g1, fun w1 h => g2 w1 (h2 _ _ _ hb h)⟩) id
include h1 in
theorem YieldsR.op {o : Oper} {i : Nat} {v : Value} {a : Act} {w : World} (hi : ops[i]? = some o) (hy : YieldsR P R ops o v a w) {K : Act → World → Prop} (h : ∀ w', Below w.heap.size w w' → K (a.put o.dst v) w') : opB P ops i K a w := by
  refine ⟨o, hi, ?_⟩
  rcases hy with ⟨g1, g2⟩ | ⟨g1, rfl⟩
  · rw [if_pos g1]
    exact uponU_mono (fun u w' ⟨hu, hb⟩ => by subst hu; exact h w' hb) (g2 w (h1 _ _ (Below.refl _ _)))
  · rw [if_neg (by rw [g1]; exact Bool.false_ne_true)]
    exact h w (Below.refl _ _)
include h1 h2 hG in
/-- 'i' may be taken first -/
theorem wpC_first (U : Nat → Bool) (hU : ∀ (j : Nat) (a b : World), U j = false → G j a b → R a b)
    {i : Nat} {oi : Oper} {v : Value} (hi : ops[i]? = some oi) (hsel : ∀ (j : Nat) (o : Oper) cs b, ops[j]? = some o → o.op ≠ .select cs b) (m : Nat) :
    ∀ (n : Nat) (L : Array Bool) (a : Act) (w : World), closed md ops L → (∀ c, U c = true → L.getD c true = false → depB md ops m c i = true) →
      (∀ j oj, ops[j]? = some oj → j ≠ i → L.getD j true = false → (∀ e ∈ oj.after, Region.binds md e = true → e.on ≠ i) → oi.apart ops oj = true) →
      i ∈ Region.ready md ops L → YieldsR P R ops oi v a w →
      wpC P md ops G Q n (L.setIfInBounds i true) (a.put oi.dst v) w → wpC P md ops G Q (n + 1) L a w := by
  intro n
  induction n with
  | zero =>
    intro L a w hcl hV _ hr hy H w1 hb
    refine ⟨fun h => (by rw [h] at hr; cases hr), fun j hj => ?_⟩
    by_cases hji : j = i
    · subst hji
      exact (hy.of_same h2 rfl rfl (h1 _ _ hb)).op h1 hi fun w' hb' => ⟨hG j _ _ hb', wpC_up H (bel_trans hb hb')⟩
    · have := ready_mono hj hji
      rw [(H w1 hb).1] at this
      cases this
  | succ n ih =>
    intro L a w hcl hV hfree hr hy H w1 hb
    refine ⟨fun h => (by rw [h] at hr; cases hr), fun j hj => ?_⟩
    by_cases hji : j = i
    · subst hji
      exact (hy.of_same h2 rfl rfl (h1 _ _ hb)).op h1 hi fun w' hb' => ⟨hG j _ _ hb', wpC_up H (bel_trans hb hb')⟩
    · obtain ⟨oj, hoj, hrun⟩ := (H w1 hb).2 j (ready_mono hj hji)
      obtain ⟨hjun, oj', hoj', hall⟩ := mem_ready.1 hj
      obtain rfl : oj = oj' := Option.some.inj (hoj.symm.trans hoj')
      have hnot : ∀ e ∈ oj.after, Region.binds md e = true → e.on ≠ i := fun e he hb heq => by
        have h1 := hall e he hb
        have h0 := (mem_ready.1 hr).1
        rw [heq] at h1
        rw [getD_tf h1] at h0; cases h0
      have hVj : U j = false := by
        cases hVj : U j with
        | false => rfl
        | true =>
          have h1 := hV j hVj hjun
          have hcl' := closed_set hcl hj
          have hjs : (L.setIfInBounds j true).getD j true = true := by
            rcases Nat.lt_or_ge j L.size with h' | h'
            · simp [h']
            · simp
          have h2 := getD_tf (dep_up hcl' m j h1 hjs)
          rw [getD_set_ne true hji, (mem_ready.1 hr).1] at h2
          cases h2
      obtain ⟨p1, p2, p3⟩ := Oper.apart_spec (hfree j oj hoj hji hjun hnot)
      rw [execOp_put oj (fun cs b => hsel j oj cs b hoj) a oi.dst v p1, wanted_put oj a oi.dst v p1] at hrun
      have hfree' : ∀ k ok, ops[k]? = some ok → k ≠ i → (L.setIfInBounds j true).getD k true = false →
          (∀ e ∈ ok.after, Region.binds md e = true → e.on ≠ i) → oi.apart ops ok = true := fun k ok hk hki hun hno => by
        refine hfree k ok hk hki ?_ hno
        by_cases hjk : j = k
        · subst hjk; exact hjun
        · rw [getD_set_ne true hjk] at hun; exact hun
      have hV' : ∀ c, U c = true → (L.setIfInBounds j true).getD c true = false → depB md ops m c i = true := fun c hc hun => by
        refine hV c hc ?_
        by_cases hjc : j = c
        · subst hjc; exact hjun
        · rw [getD_set_ne true hjc] at hun; exact hun
      have step : ∀ u w', R w1 w' → wpC P md ops G Q n ((L.setIfInBounds i true).setIfInBounds j true) ((a.put oi.dst v).put oj.dst u) w' → wpC P md ops G Q (n + 1) (L.setIfInBounds j true) (a.put oj.dst u) w' := fun u w' hb' h => by
        refine ih (L.setIfInBounds j true) (a.put oj.dst u) w' (closed_set hcl hj) hV' hfree' (ready_mono hr (Ne.symm hji)) ?_ ?_
        · exact hy.of_same h2 (execOp_put oi (fun cs b => hsel i oi cs b hi) a oj.dst u p3) (wanted_put oi a oj.dst u p3) (h2 _ _ _ (h1 _ _ hb) hb')
        · rw [Array.setIfInBounds_comm _ _ hji, Act.put_comm a u v (fun d hd hd' => p2 d hd' hd)]
          exact h
      refine ⟨oj, hoj, ?_⟩
      split
      · rename_i hw
        rw [if_pos hw] at hrun
        exact uponU_mono (fun u w' h => ⟨h.1, step u w' (hU j _ _ hVj h.1) h.2⟩) hrun
      · rename_i hw
        rw [if_neg hw] at hrun
        exact ⟨hrun.1, step undef w1 (hU j _ _ hVj hrun.1) hrun.2⟩
end
theorem wpC_mono {G' : Nat → World → World → Prop} {Q Q' : Act → World → Prop} (hg : ∀ j a b, G j a b → G' j a b) (hq : ∀ a w, Q a w → Q' a w) : ∀ (k : Nat) (L : Array Bool) (a : Act) (w : World), wpC P .any ops G Q k L a w → wpC P .any ops G' Q' k L a w
  | 0, _, _, _, h => fun w1 hb => ⟨(h w1 hb).1, hq _ _ (h w1 hb).2⟩
  | k + 1, _, _, _, h => fun w1 hb => ⟨fun h0 => hq _ _ ((h w1 hb).1 h0), fun i hi => opB_mono (fun a w h => ⟨hg _ _ _ h.1, wpC_mono hg hq k _ _ _ h.2⟩) ((h w1 hb).2 i hi)⟩
/-- what operations may do: V may change old blocks, W blocks of Z, none shared ones -/
def GC (V W Z : List Nat) (S : Blks) (j : Nat) (a b : World) : Prop := (V.contains j = false → Below a.heap.size a b) ∧ (W.contains j = false → Leave (fun k => k ∈ Z) a b) ∧ Leave S a b
theorem GC.of_below {V W Z : List Nat} {S : Blks} (j : Nat) (a b : World) (h : Below a.heap.size a b) : GC V W Z S j a b := ⟨fun _ => h, fun _ => .of_below h, .of_below h⟩
section
variable {n : Nat} {Q : Exit → Sta → Prop} {s : Sta} {o : Oper}
/-- a drawn region from here on -/
def aC (P : Program) (n : Nat) (ops : Array Oper) (V W Z : List Nat) (Q : Exit → Sta → Prop) (k : Nat) (L : Array Bool) (s : Sta) : Prop :=
  ∀ (w : World) (S : Blks) (fp : Nat → Blks) (a : Act), St w S fp s.ps s.hp → EnvOk a s.env → a.tmps.size = n → a.defers = [] → wpC P .any ops (GC V W Z S) (PostA Q n w S (tot fp s.hp.length) .normal) k L a w
theorem aC_nil {V W Z : List Nat} {L : Array Bool} (hr : Region.ready .any ops L = []) (h : Q .normal s) : aC P n ops V W Z Q 0 L s := fun w S fp a hst he hn hd w1 hb =>
  ⟨hr, (awp_here (hst.below hb) he hn hd h).trans (Evo.of_below _ _ hb) (fun _ h => .inl h)⟩
theorem awp_drawnC {l : List Oper} {id : Nat} (V W Z : List Nat) (hm : P.follows .mixedOrders = true) (h : aC P n l.toArray V W Z Q l.length (Array.replicate l.length false) s) : awp P n (.region id l.toArray true) Q s := fun w S fp a hst he hn hd => by
  refine wp_region_any hm ?_
  have hb : Below w.heap.size w w.drew := (Below.refl _ _).drew
  have h1 := h w.drew S fp a (hst.below hb) he hn hd
  have h2 := wpAny_of_wpC (Q' := PostA Q n w S (tot fp s.hp.length)) (fun a' w' hp => PostA.trans (Evo.of_below _ _ hb) (fun _ h => .inl h) hp) _ _ _ _ h1
  simpa using h2
/-- all orders lead to states of one family -/
theorem aC_join {V W Z : List Nat} {k : Nat} {L : Array Bool} {X : Type} (F : X → Sta) (h1 : aC P n ops V W Z (fun e s => e = .normal ∧ ∃ le lp lh x, okH s.hp lh = true ∧ keepS s le lp lh = F x) k L s) (h2 : ∀ x, Q .normal (F x)) : aC P n ops V W Z Q k L s := fun w S fp a hst he hn hd =>
  wpC_mono (fun _ _ _ h => h) (fun a' w' ⟨s', S', fp', ⟨_, le, lp, lh, x, hok, hs⟩, g1, g2, g3, g4, g5, g6⟩ => by
    obtain ⟨k1, k2⟩ := g1.keepH lp lh hok
    have e := h2 x
    rw [← hs] at e
    exact ⟨keepS s' le lp lh, S', _, e, k1, g2.sub (look_keepE _ _), g3, g4, g5, fun b hb => g6 b (k2 b hb)⟩) _ _ _ _ (h1 w S fp a hst he hn hd)
/-- the branches of a piece of code lead to states of one family -/
theorem awp_join {c : Code} {K : Sta → Prop} {X : Type} (F : X → Sta) (h1 : awp P n c (thn (fun s => ∃ le lp lh x, okH s.hp lh = true ∧ keepS s le lp lh = F x) Q) s) (h2 : ∀ x, K (F x)) : awp P n c (thn K Q) s := fun w S fp a hst he hn hd =>
  Code.wp_mono (fun e a' w' hp => by
    cases e with
    | normal =>
      obtain ⟨s', S', fp', ⟨le, lp, lh, x, hok, hs⟩, g1, g2, g3, g4, g5, g6⟩ := hp
      obtain ⟨k1, k2⟩ := g1.keepH lp lh hok
      have e := h2 x
      rw [← hs] at e
      exact ⟨keepS s' le lp lh, S', _, e, k1, g2.sub (look_keepE _ _), g3, g4, g5, fun b hb => g6 b (k2 b hb)⟩
    | _ => exact hp) (h1 w S fp a hst he hn hd)
/-- may operation i be taken first? U: those that it must not see -/
def canFirstU (ops : Array Oper) (U : List Nat) (L : Array Bool) (i : Nat) : Bool :=
  Region.noSelect ops && closedB .any ops L && Region.free .any ops L i && (Region.ready .any ops L).contains i &&
    U.all fun c => L.getD c true || depB .any ops 60 c i
theorem aC_first {V W Z U : List Nat} {k : Nat} {L : Array Bool} (i : Nat) (hi : ops[i]? = some o) (hf : canFirstU ops U L i = true) (c : Bool) (hc : guardOf ops s.env o = some c) (hd : fits n o.dst = true)
    (h : ∀ (w : World) (S : Blks) (fp : Nat → Blks) (a : Act), St w S fp s.ps s.hp → EnvOk a s.env → a.tmps.size = n → ∃ (R : World → World → Prop) (v : Value) (ps : List Per),
      (∀ a b : World, Below a.heap.size a b → R a b) ∧ (∀ a b c : World, R a b → R b c → R a c) ∧ (∀ (j : Nat) (a b : World), U.contains j = false → GC V W Z S j a b → R a b) ∧
      (c = true → (∀ w1, R w w1 → uponQ P v w1 ((execOp a.eval o).run P w1)) ∧ ∀ p ∈ ps, p.holds w S) ∧
      aC P n ops V W Z Q k (L.setIfInBounds i true) ⟨setEnv s.env o.dst c v, ps.map (cnd c) ++ s.ps, s.hp⟩) : aC P n ops V W Z Q (k + 1) L s := fun w S fp a hst he hn hdf => by
  simp only [canFirstU, Bool.and_eq_true] at hf
  obtain ⟨⟨⟨⟨f1, f3⟩, f4⟩, f5⟩, f6⟩ := hf
  have hV : ∀ c, (fun i => U.contains i) c = true → L.getD c true = false → depB .any ops 60 c i = true := fun c hVc hL => by
    have := List.all_eq_true.1 f6 c (by simpa using hVc)
    simpa [hL] using this
  have hw := wanted_guard (ops := ops) hc he
  obtain ⟨R, v, ps, r1, r2, r3, r4, r5⟩ := h w S fp a hst he hn
  cases c with
  | true =>
    obtain ⟨hx, hps⟩ := r4 rfl
    refine wpC_first r1 r2 GC.of_below (fun i => U.contains i) r3 hi (Region.noSelect_spec f1) 60 k L a w (closed_of f3) hV (Region.free_spec hi f4) (by simpa using f5) (v := v) (.inl ⟨hw, hx⟩) ?_
    refine r5 w S fp (a.put o.dst v) ⟨fun p hp => ?_, hst.res, hst.lt, hst.dj, hst.slt⟩ (he.set (c := true) (by rw [hn]; exact hd) v) (by rw [put_size]; exact hn) (by rw [put_defers]; exact hdf)
    rcases List.mem_append.1 hp with h1 | h1
    · obtain ⟨p0, h2, rfl⟩ := List.mem_map.1 h1
      exact fun _ => hps p0 h2
    · exact hst.per p h1
  | false =>
    refine wpC_first r1 r2 GC.of_below (fun i => U.contains i) r3 hi (Region.noSelect_spec f1) 60 k L a w (closed_of f3) hV (Region.free_spec hi f4) (by simpa using f5) (v := undef) (.inr ⟨hw, rfl⟩) ?_
    exact r5 w S fp (a.put o.dst undef) ⟨fun p hp => (List.mem_append.1 hp).elim (fun h1 => by obtain ⟨p0, h2, rfl⟩ := List.mem_map.1 h1; exact fun h => by cases h) (hst.per p), hst.res, hst.lt, hst.dj, hst.slt⟩ (he.set (c := false) (by rw [hn]; exact hd) v) (by rw [put_size]; exact hn) (by rw [put_defers]; exact hdf)
/-- it leads to a state of which K holds; b1: it changes nothing old; b2: it leaves Z alone -/
def EffX (P : Program) (Z : List Nat) (n : Nat) (o : Oper) (s : Sta) (b1 b2 : Bool) (K : Sta → Prop) : Prop :=
  ∀ (w : World) (S : Blks) (fp : Nat → Blks) (a : Act), St w S fp s.ps s.hp → EnvOk a s.env → a.tmps.size = n →
    uponU P (fun u w' => ∃ s' S' fp', K s' ∧ St w' S' fp' s'.ps s'.hp ∧ EnvOk (a.put o.dst u) s'.env ∧ Evo w S (tot fp s.hp.length) w' S' ∧ (∀ b, tot fp' s'.hp.length b → tot fp s.hp.length b ∨ w.heap.size ≤ b) ∧
      (b1 = true → Below w.heap.size w w') ∧ (b2 = true → Leave (fun k => k ∈ Z) w w')) ((execOp a.eval o).run P w)
theorem Eff.x {Z : List Nat} {K : Sta → Prop} {b1 b2 : Bool} (h : Eff P n o s true K) : EffX P Z n o s b1 b2 K := fun w S fp a hst he hn =>
  uponU_mono (fun u w' ⟨s', S', fp', g1, g2, g3, g4, g5, g6⟩ => ⟨s', S', fp', g1, g2, g3, g4, g5, fun _ => g6 rfl, fun _ => Leave.of_below (g6 rfl)⟩) (h w S fp a hst he hn)
/-- anything may happen -/
theorem Eff.wild {Z : List Nat} {K : Sta → Prop} {q : Bool} (h : Eff P n o s q K) : EffX P Z n o s false false K := fun w S fp a hst he hn =>
  uponU_mono (fun u w' ⟨s', S', fp', g1, g2, g3, g4, g5, g6⟩ => ⟨s', S', fp', g1, g2, g3, g4, g5, fun h => (by cases h), fun h => (by cases h)⟩) (h w S fp a hst he hn)
/-- one of those that may come up -/
def ArmC (P : Program) (n : Nat) (ops : Array Oper) (V W Z : List Nat) (Q : Exit → Sta → Prop) (k : Nat) (L : Array Bool) (s : Sta) (j : Nat) : Prop :=
  ∃ o, ops[j]? = some o ∧ guardOf ops s.env o = some true ∧ EffX P Z n o s (!V.contains j) (!W.contains j) (aC P n ops V W Z Q k (L.setIfInBounds j true))
theorem aC_arms {V W Z : List Nat} {k : Nat} {L : Array Bool} (i : Nat) (js : List Nat) (hr : Region.ready .any ops L = i :: js) (h : ∀ j ∈ i :: js, ArmC P n ops V W Z Q k L s j) : aC P n ops V W Z Q (k + 1) L s := fun w S fp a hst he hn hdf w1 hb => by
  refine ⟨fun h0 => (by rw [hr] at h0; cases h0), fun j hj => ?_⟩
  rw [hr] at hj
  obtain ⟨o, hi, hc, hE⟩ := h j hj
  refine ⟨o, hi, ?_⟩
  rw [if_pos (wanted_guard (ops := ops) hc he)]
  have hst1 := hst.below hb
  refine uponU_mono (fun u w' ⟨s', S', fp', hK, hst', he', hE, hg, hq1, hq2⟩ => ⟨⟨fun hVj => hq1 (by rw [hVj]; rfl), fun hWj => hq2 (by rw [hWj]; rfl), ⟨hE.size, fun b hS hlt => hE.block b hlt fun ⟨r, hr, hrb⟩ => (hst1.lt r hr b hrb).2 hS⟩⟩, ?_⟩) (hE w1 S fp a hst1 he hn)
  refine wpC_mono (fun j a b h => ⟨h.1, h.2.1, h.2.2.mono hE.more⟩) (fun a2 w2 hp => (hp.trans hE hg).trans (Evo.of_below _ _ hb) (fun _ h => .inl h)) _ _ _ _ (hK w' S' fp' _ hst' he' (by rw [put_size]; exact hn) (by rw [put_defers]; exact hdf))
theorem arms_cons {V W Z : List Nat} {k : Nat} {L : Array Bool} {i : Nat} {js : List Nat} (h1 : ArmC P n ops V W Z Q k L s i) (h : ∀ j ∈ js, ArmC P n ops V W Z Q k L s j) : ∀ j ∈ i :: js, ArmC P n ops V W Z Q k L s j := fun j hj => by
  rcases List.mem_cons.1 hj with rfl | hj
  · exact h1
  · exact h j hj
theorem arms_nil {V W Z : List Nat} {k : Nat} {L : Array Bool} : ∀ j ∈ ([] : List Nat), ArmC P n ops V W Z Q k L s j := fun j hj => by cases hj
/-- the boxes of Z, none of them handed over -/
def zOk (lh : List Nat) (hp : List Res) (Z : List Nat) : Prop := ∀ b ∈ Z, ∃ (k : Nat) (T : TypeId) (cs : List Value), k ∉ lh ∧ hp[k]? = some (Box b T cs)
theorem znil {lh : List Nat} {hp : List Res} : zOk lh hp [] := fun b h => by cases h
theorem zcons {lh : List Nat} {hp : List Res} {b : Nat} {Z : List Nat} {T : TypeId} {cs : List Value} (k : Nat) (hk : lh.contains k = false) (h : hp[k]? = some (Box b T cs)) (hz : zOk lh hp Z) : zOk lh hp (b :: Z) := fun c hc => by
  rcases List.mem_cons.1 hc with rfl | hc
  · exact ⟨k, T, cs, by simpa using hk, h⟩
  · exact hz c hc
/-- a few of the resources alone -/
def fr (lh : List Nat) (hp : List Res) (K : Sta → Prop) : Sta → Prop := fun s' => K ⟨s'.env, s'.ps, putB lh s'.hp 0 hp⟩
theorem fr_mk {lh : List Nat} {hp hp' : List Res} {K : Sta → Prop} {env : Env} {ps : List Per} (h : K ⟨env, ps, putB lh hp' 0 hp⟩) : fr lh hp K ⟨env, ps, hp'⟩ := h
theorem Eff.framed {env : Env} {ps : List Per} {hp : List Res} {q b1 : Bool} {Z : List Nat} {K : Sta → Prop} (lh : List Nat) (ok : okH hp lh = true) (hb1 : (!b1 || q) = true) (hZ : zOk lh hp Z) (h : Eff P n o ⟨env, ps, keepH hp lh⟩ q (fr lh hp K)) :
    EffX P Z n o ⟨env, ps, hp⟩ b1 true K := fun w S fp a hst he hn => by
  have ok' := ok
  simp only [okH, Bool.and_eq_true, decide_eq_true_eq] at ok'
  obtain ⟨k1, k2⟩ := hst.keepH [] lh ok
  have k3 : St w S (fun k => fp (lh.getD k 0)) ps (keepH hp lh) := ⟨hst.per, k1.res, k1.lt, k1.dj, hst.slt⟩
  refine uponU_mono (fun u w' ⟨s', S', fp', g1, g2, g3, g4, g5, g6⟩ => ?_) (h w S _ a k3 he hn)
  obtain ⟨m1, m2⟩ := hst.back [] lh ok g2 g4 g5
  refine ⟨_, S', _, g1, ⟨fun p hp => m1.per p (List.mem_append.2 (.inl hp)), m1.res, m1.lt, m1.dj, m1.slt⟩, g3, g4.wider k2, m2, fun h => g6 (by rw [h] at hb1; simpa using hb1), fun _ => ⟨g4.size, fun b hb hlt => g4.block b hlt (fun ⟨k, hk, hbk⟩ => ?_)⟩⟩
  obtain ⟨j, T, cs, hj, hbox⟩ := hZ b hb
  have hk' : k < lh.length := by simpa [keepH] using hk
  have hjl := (List.getElem?_eq_some_iff.1 hbox).1
  have hfj : fp j b := ((hst.res j _ hbox).2 b).2 rfl
  have hin : lh.getD k 0 ∈ lh := by simp [List.getD, hk']
  have hlt' : lh.getD k 0 < hp.length := by simpa using List.all_eq_true.1 ok'.1 _ hin
  exact hst.dj j (lh.getD k 0) hjl hlt' (fun e => hj (e ▸ hin)) b hfj hbk
end
section
variable {n : Nat} {env : Env} {ps : List Per} {hp : List Res} {Q : Exit → Sta → Prop} {d : Nat} {op : Op} {ty : TypeId} {pos : String} {af : Array Edge} {gd : Option (Nat × Bool)} {V W Z : List Nat} {k : Nat} {L L' : Array Bool}
theorem aC_arm {t : Option Tmp} (j : Nat) (hi : ops[j]? = some ⟨t, op, ty, pos, af, gd⟩) (hc : guardOf ops env ⟨t, op, ty, pos, af, gd⟩ = some true) (h : EffX P Z n ⟨t, op, ty, pos, af, gd⟩ ⟨env, ps, hp⟩ (!V.contains j) (!W.contains j) (aC P n ops V W Z Q k (L.setIfInBounds j true))) : ArmC P n ops V W Z Q k L ⟨env, ps, hp⟩ j := ⟨_, hi, hc, h⟩
/-- what needs no more than facts may be done first -/
theorem aC_f {v : Value} (i : Nat) (hi : ops[i]? = some ⟨some d, op, ty, pos, af, gd⟩) (hf : canFirstU ops [] L i = true) (c : Bool) (hc : guardOf ops env ⟨some d, op, ty, pos, af, gd⟩ = some c) (hd : fits n (some d) = true)
    (hq : c = true → Quiet P n ⟨some d, op, ty, pos, af, gd⟩ ⟨env, ps, []⟩ v) (h : aC P n ops V W Z Q k (L.setIfInBounds i true) ⟨(d, c, v) :: env, ps, hp⟩) : aC P n ops V W Z Q (k + 1) L ⟨env, ps, hp⟩ :=
  aC_first (U := []) i hi hf c hc hd fun w S fp a hst he hn => ⟨Leave S, v, [], fun _ _ => Leave.of_below, fun _ _ _ => Leave.trans, fun _ _ _ _ h => h.2.2,
    fun hc => ⟨fun w1 hw1 => hq hc w1 S (fun _ _ => False) a ⟨fun p hp => p.mono (hst.per p hp) (fun b hb => hw1.block b hb (hst.slt b hb)) (fun _ h => h), fun i R h => (by simp at h), fun i h => (by simp at h), fun i j h => (by simp at h), fun b hb => Nat.lt_of_lt_of_le (hst.slt b hb) hw1.size⟩ he hn, fun _ h => (by cases h)⟩, h⟩
theorem aC_fn {v : Value} (i : Nat) (hi : ops[i]? = some ⟨none, op, ty, pos, af, gd⟩) (hf : canFirstU ops [] L i = true) (c : Bool) (hc : guardOf ops env ⟨none, op, ty, pos, af, gd⟩ = some c)
    (hq : c = true → Quiet P n ⟨none, op, ty, pos, af, gd⟩ ⟨env, ps, []⟩ v) (h : aC P n ops V W Z Q k (L.setIfInBounds i true) ⟨env, ps, hp⟩) : aC P n ops V W Z Q (k + 1) L ⟨env, ps, hp⟩ :=
  aC_first (U := []) i hi hf c hc rfl fun w S fp a hst he hn => ⟨Leave S, v, [], fun _ _ => Leave.of_below, fun _ _ _ => Leave.trans, fun _ _ _ _ h => h.2.2,
    fun hc => ⟨fun w1 hw1 => hq hc w1 S (fun _ _ => False) a ⟨fun p hp => p.mono (hst.per p hp) (fun b hb => hw1.block b hb (hst.slt b hb)) (fun _ h => h), fun i R h => (by simp at h), fun i h => (by simp at h), fun i j h => (by simp at h), fun b hb => Nat.lt_of_lt_of_le (hst.slt b hb) hw1.size⟩ he hn, fun _ h => (by cases h)⟩, h⟩
/-- a window of a slice, the place of an element -/
theorem aC_R {β : Type} {v : β → Value} {p1 : β → Per} (i : Nat) (hi : ops[i]? = some ⟨some d, op, ty, pos, af, gd⟩) (hf : canFirstU ops [] L i = true) (c : Bool) (hc : guardOf ops env ⟨some d, op, ty, pos, af, gd⟩ = some c) (hd : fits n (some d) = true)
    (hq : c = true → QuietR P (fun _ _ => True) n ⟨some d, op, ty, pos, af, gd⟩ ⟨env, ps, hp⟩ v (fun x => [p1 x])) (hin : c = false → Nonempty β) (h : ∀ x, aC P n ops V W Z Q k (L.setIfInBounds i true) ⟨(d, c, v x) :: env, cnd c (p1 x) :: ps, hp⟩) : aC P n ops V W Z Q (k + 1) L ⟨env, ps, hp⟩ :=
  aC_first (U := []) i hi hf c hc hd fun w S fp a hst he hn => by
    cases c with
    | true =>
      obtain ⟨x, hx, hp⟩ := hq rfl w S fp a hst he hn
      exact ⟨fun _ _ => True, v x, [p1 x], fun _ _ _ => trivial, fun _ _ _ _ _ => trivial, fun _ _ _ _ _ => trivial, fun _ => ⟨hx, hp⟩, h x⟩
    | false =>
      obtain ⟨x⟩ := hin rfl
      exact ⟨fun _ _ => True, v x, [p1 x], fun _ _ _ => trivial, fun _ _ _ _ _ => trivial, fun _ _ _ _ _ => trivial, fun h => (by cases h), h x⟩
theorem aC_ps {ps' : List Per} (hp0 : ∀ w S, (∀ p ∈ ps', p.holds w S) → ∀ p ∈ ps, p.holds w S) (h : aC P n ops V W Z Q k L ⟨env, ps, hp⟩) : aC P n ops V W Z Q k L ⟨env, ps', hp⟩ := fun w S fp a hst he hn hd =>
  h w S fp a ⟨hp0 w S hst.per, hst.res, hst.lt, hst.dj, hst.slt⟩ he hn hd
theorem aC_R1 {β : Type} {v : β → Value} {p1 : β → Per} (i : Nat) (hi : ops[i]? = some ⟨some d, op, ty, pos, af, gd⟩) (hf : canFirstU ops [] L i = true) (hc : guardOf ops env ⟨some d, op, ty, pos, af, gd⟩ = some true) (hd : fits n (some d) = true)
    (hq : QuietR P (fun _ _ => True) n ⟨some d, op, ty, pos, af, gd⟩ ⟨env, ps, hp⟩ v (fun x => [p1 x])) (h : ∀ x, aC P n ops V W Z Q k (L.setIfInBounds i true) ⟨(d, true, v x) :: env, p1 x :: ps, hp⟩) : aC P n ops V W Z Q (k + 1) L ⟨env, ps, hp⟩ :=
  aC_R i hi hf true hc hd (fun _ => hq) (fun h => by cases h) fun x => aC_ps (fun w S hall p hp => by
    rcases List.mem_cons.1 hp with rfl | h2
    · exact hall _ (List.mem_cons_self) rfl
    · exact hall _ (List.mem_cons_of_mem _ h2)) (h x)
/-- a load of a box that is left alone -/
theorem aC_box {x : Operand} {U T : TypeId} {ag : Bool} {kk b o : Nat} {cs : List Value} {v : Value} (i r : Nat) (hi : ops[i]? = some ⟨some d, .load U x, ty, pos, af, gd⟩) (hf : canFirstU ops W L i = true) (c : Bool) (hc : guardOf ops env ⟨some d, .load U x, ty, pos, af, gd⟩ = some c) (hd : fits n (some d) = true)
    (hb : Z.contains b = true) (hk : tyk P U = some (ag, kk)) (hx : c = true → ev env x = some (true, .pointer (some ⟨b, o, none⟩))) (hr : hp[r]? = some (Box b T cs)) (hv : rdC ag kk cs o = some v)
    (h : aC P n ops V W Z Q k (L.setIfInBounds i true) ⟨(d, c, v) :: env, ps, hp⟩) : aC P n ops V W Z Q (k + 1) L ⟨env, ps, hp⟩ := by
  refine aC_first (U := W) i hi hf c hc hd fun w S fp a hst he hn => ⟨Leave (fun k => k ∈ Z), v, [], fun _ _ => Leave.of_below, fun _ _ _ => Leave.trans, fun _ _ _ hj h => h.2.1 hj, fun hc => ⟨fun w1 hw1 => ?_, fun _ h => (by cases h)⟩, h⟩
  have h1 := he.val (hx hc) rfl
  have hb0 := (hst.res r _ hr).1
  have hb1 : w1.heap[b]? = some (.cells cs.toArray T (0, 0)) := (hw1.block b (by simpa using hb) (lt_of_heap hb0)).trans hb0
  have : (execOp a.eval ⟨some d, .load U x, ty, pos, af, gd⟩).run P w1 = .ok (.value v) w1 := by
    unfold execOp; dsimp only; rw [h1]
    have := rdC_run (w := w1) hk hv (b := b) (p := 0) (fun j u hu => by rw [Nat.zero_add, cell_box hb1]; exact hu)
    rw [Nat.zero_add] at this
    show ((loadVar U ⟨b, o, none⟩).bind fun r => Sem.pure (Next.value r)).run P w1 = _
    rw [Sem.run_bind', this]; rfl
  rw [this]; exact uponQ_ok _ _
/-- an operation on what is known, once all that change old blocks are done or wait for it -/
theorem aC_q {v : Value} (i : Nat) (hi : ops[i]? = some ⟨some d, op, ty, pos, af, gd⟩) (hf : canFirstU ops V L i = true) (c : Bool) (hc : guardOf ops env ⟨some d, op, ty, pos, af, gd⟩ = some c) (hd : fits n (some d) = true)
    (hq : c = true → Quiet P n ⟨some d, op, ty, pos, af, gd⟩ ⟨env, ps, hp⟩ v) (h : aC P n ops V W Z Q k (L.setIfInBounds i true) ⟨(d, c, v) :: env, ps, hp⟩) : aC P n ops V W Z Q (k + 1) L ⟨env, ps, hp⟩ :=
  aC_first (U := V) i hi hf c hc hd fun w S fp a hst he hn => ⟨fun w w1 => Below w.heap.size w w1, v, [], fun _ _ h => h, fun _ _ _ => bel_trans, fun _ _ _ hj h => h.1 hj,
    fun hc => ⟨fun w1 hw1 => hq hc w1 S fp a (hst.below hw1) he hn, fun _ h => (by cases h)⟩, h⟩
theorem ev_int {x : Operand} {kk : IntKind} {z z' : Int} (h : ev env x = some (true, .int kk z)) (e : z = z') : ev env x = some (true, .int kk z') := e ▸ h
theorem aC_st {ps' : List Per} {hp' : List Res} (hL : L = L') (h1 : ps = ps') (h0 : hp = hp') (h : aC P n ops V W Z Q k L' ⟨env, ps', hp'⟩) : aC P n ops V W Z Q k L ⟨env, ps, hp⟩ := hL ▸ h1 ▸ h0 ▸ h
/-- an own slice, looked at as shared from here on -/
theorem aC_share {v : Value} {T : TypeId} {sz : Nat} {rows : List (List D)} (i : Nat) (hi : hp[i]? = some (OwnS v T sz rows)) (h : aC P n ops V W Z Q k L ⟨env, Sh v (.sl rows) :: ps, hp.set i emp⟩) : aC P n ops V W Z Q k L ⟨env, ps, hp⟩ := fun w S fp a hst he hn hd => by
  have hil := (List.getElem?_eq_some_iff.1 hi).1
  have h1 := st_share hst i hi
  have htot : ∀ b, tot (fun k => if k = i then (fun _ => False) else fp k) (hp.set i emp).length b → tot fp hp.length b := fun b ⟨j, hj, hb⟩ => by
    dsimp only at hb
    by_cases hji : j = i
    · rw [if_pos hji] at hb; exact hb.elim
    · rw [if_neg hji] at hb; exact ⟨j, by simpa using hj, hb⟩
  have hE : Evo w S (tot fp hp.length) w (fun b => S b ∨ fp i b) := ⟨rfl, rfl, rfl, Nat.le_refl _, fun _ _ _ => rfl, fun _ h => .inl h, fun b hb => hb.elim .inl fun h => .inr (.inl ⟨i, hil, h⟩)⟩
  exact wpC_mono (fun j a b h => ⟨h.1, h.2.1, h.2.2.mono fun _ h => .inl h⟩) (fun a2 w2 hp => hp.trans hE (fun b hb => .inl (htot b hb))) _ _ _ _ (h w _ _ a h1 he hn hd)
end
end Go.Sy
