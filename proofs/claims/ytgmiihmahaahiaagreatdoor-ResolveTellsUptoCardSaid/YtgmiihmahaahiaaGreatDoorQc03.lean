/- Parts of the proof, in build order. No condition. -/
import Derived.Test.YtgmiihmahaahiaaGreatDoorQc02
import Derived.Laws.Cover3
import Derived.Lib.Bytealg
import Derived.Laws.Externs
import Derived.Laws.Concat
import Derived.Laws.Slices
import Derived.Laws.BytesString
import Derived.Sort.Grow
set_option linter.unusedSimpArgs false
set_option linter.unusedVariables false
set_option maxHeartbeats 1000000
set_option maxRecDepth 20000
namespace Go.Sy
open Go.RowKit
section
variable {P : Program} {n : Fr} {s : Sta} {d : Option Tmp} {ty : TypeId} {pos : String} {af : Array Edge} {gd : Option (Nat × Bool)} {x : Operand} {T t' : TypeId}
theorem xu {E : TypeId} {ad : Option Addr} {k c : Nat} (hT : P.underlying T = some (.slice E)) (hx : ev s.env x = some (true, .slice ad k c)) : Quiet P n ⟨d, .binOp .eql T x (.const (.slice none 0 0)) t', ty, pos, af, gd⟩ s (.bool ad.isNone) :=
 .run2 (vy := .slice none 0 0) hx rfl fun ρ w h1 h2 => by
   unfold execOp; dsimp only; rw [h1, h2]
   simp only [eqGuard_at_slice, binOp, Sem.run_bind, Sem.run_pure, run_equal_slice_nil w T E ad k c hT, Result.andThen_ok]
end
section
variable {P : Program} {n : Fr} {env : Env} {ps : List Per} {hp : List Res} {ty : TypeId} {pos : String} {af : Array Edge} {gd : Option (Nat × Bool)} {q : Bool} {K : Sta → Prop}
theorem oO {t : Nat} {T E : TypeId} {sz : Nat} (hel : elB P T E sz = true) (ht : fits n (some t) = true)
   (hK : ∀ ad, K ⟨(t, true, .slice ad 0 0) :: env, ps, hp ++ [bA (.slice ad 0 0) E sz []]⟩) :
   Eff P n ⟨some t, .buildSlice T 0 #[], ty, pos, af, gd⟩ ⟨env, ps, hp⟩ q K := .push fun w S fp a hst he hn => by
 obtain ⟨hT, it, hi, h3, h4, h5⟩ := dh hel
 have : (execOp a.eval ⟨some t, .buildSlice T 0 #[], ty, pos, af, gd⟩).run P w = .ok (.value (.slice (some ⟨w.heap.size, 0, none⟩) 0 0)) (w.alloc (.cells #[] E)) := by
   show ((Instr.buildSlice T 0 ((#[] : Array (Nat × Operand)).map fun (i, x) => (i, a.eval x))).bind fun r => Sem.pure (Next.value r)).run P w = _
   have hrun : (Instr.buildSlice T 0 #[]).run P w = .ok (.slice (some ⟨w.heap.size, 0, none⟩) 0 0) (w.alloc (.cells #[] E)) := by
     simp [Instr.buildSlice, run_underlying hT, sizeOf, typeInfo, hi, newRow, Instr.fill, show Array.range 0 = #[] by decide]
   rw [Array.map_empty, Sem.run_bind', hrun]; rfl
 rw [this]
 refine ⟨_, fun b => b = w.heap.size, _, hK (some ⟨w.heap.size, 0, none⟩), rfl, rfl, he.put (g := true) (by rw [hn]; simpa [fits] using ht) _, eZ _ _, pv (cs := []) (RCs.rows .nil hst.per) hst.slt rfl (by unfold maxLen; omega), fun b hb => ?_⟩
 subst hb; simp
end
theorem eC {P : Program} {n : Fr} {env : Env} {ps : List Per} {hp : List Res} {c : Code} {Q : Exit → Sta → Prop} (p : Per) (hf : ∀ w S, (∀ q ∈ ps, q.holds w S) → p.holds w S) (h : awp P n c Q ⟨env, p :: ps, hp⟩) : awp P n c Q ⟨env, ps, hp⟩ := fun w S fp a hst he hn hd =>
 h w S fp a ⟨fun q hq => by
   rcases List.mem_cons.1 hq with rfl | hq
   · exact hf w S hst.per
   · exact hst.per q hq, hst.res, hst.lt, hst.dj, hst.slt⟩ he hn hd
end Go.Sy

namespace Go.Sy
open Go.RowKit Go.Lp
def ow : Value → Nat
 | .slice (some a) _ _ => a.block
 | _ => 0
theorem xY {cs vs : List Value} {o : Nat} (h : o + vs.length ≤ cs.length) (k : Nat) : (wrC cs o vs)[k]? = if k < o then cs[k]? else if k < o + vs.length then vs[k - o]? else cs[k]? := by
 unfold wrC
 simp only [List.getElem?_append, List.length_take, List.getElem?_take, List.getElem?_drop]
 rw [Nat.min_eq_left (by omega)]
 by_cases h1 : k < o
 · simp [h1]
 · by_cases h2 : k < o + vs.length
   · rw [if_neg h1, if_pos (by omega), if_neg h1, if_pos h2]
   · rw [if_neg h1, if_neg (by omega), if_neg h1, if_neg h2]; congr 1; omega
theorem ta {cs vs : List Value} {o : Nat} (h : o + vs.length ≤ cs.length) : (wrC cs o vs).length = cs.length := by
 unfold wrC; simp; omega
theorem rv {cs sp vs : List Value} {o : Nat} (h : o + vs.length ≤ cs.length) : wrC (cs ++ sp) o vs = wrC cs o vs ++ sp := by
 unfold wrC
 rw [List.take_append_of_le_length (by omega), List.drop_append_of_le_length (by omega)]
 simp
def sh (row : List D) (j : Nat) (ds : List D) : List D := row.take j ++ (ds ++ row.drop (j + ds.length))
theorem wj {row ds : List D} {j : Nat} (h : j + ds.length ≤ row.length) : (sh row j ds).length = row.length := by
 unfold sh; simp; omega
theorem xI {row ds : List D} {j : Nat} (h : j + ds.length ≤ row.length) (k : Nat) : (sh row j ds)[k]? = if k < j then row[k]? else if k < j + ds.length then ds[k - j]? else row[k]? := by
 unfold sh
 simp only [List.getElem?_append, List.length_take, List.getElem?_take, List.getElem?_drop]
 rw [Nat.min_eq_left (by omega)]
 by_cases h1 : k < j
 · simp [h1]
 · by_cases h2 : k < j + ds.length
   · rw [if_neg h1, if_pos (by omega), if_neg h1, if_pos h2]
   · rw [if_neg h1, if_neg (by omega), if_neg h1, if_neg h2]; congr 1; omega
theorem dF.set {w : World} {S : bz} {sz : Nat} {cs : List Value} {rows : List (List D)} (h : dF w S sz cs rows) {r j : Nat} {row ds : List D} {vs : List Value} (hr : rows[r]? = some row) (hl : vs.length = ds.length) (hj : j + ds.length ≤ sz)
   (h1 : ∀ v ∈ vs, v.oneCell' = true) (hd : ∀ (k : Nat) (d : D), ds[k]? = some d → ∃ u, vs[k]? = some u ∧ ef w S u d) : dF w S sz (wrC cs (r * sz + j) vs) (rows.set r (sh row j ds)) := by
 have hrl := (List.getElem?_eq_some_iff.1 hr).1
 have hrow := h.row r row hr
 have hle : r * sz + j + vs.length ≤ cs.length := by
   have := Nat.mul_le_mul_right sz (show r + 1 ≤ rows.length by omega)
   rw [Nat.add_mul] at this
   have := h.len; omega
 refine ⟨by rw [ta hle, h.len]; simp, fun i r' hi => ?_, fun v hv => ?_, fun i k r' d hi hk => ?_⟩
 · by_cases hir : r = i
   · subst hir
     rw [List.getElem?_set_self hrl] at hi
     simp only [Option.some.injEq] at hi
     rw [← hi, wj (by omega)]; exact hrow
   · rw [List.getElem?_set_ne hir] at hi; exact h.row i r' hi
 · unfold wrC at hv
   rcases List.mem_append.1 hv with hv | hv
   · exact h.one v (List.mem_of_mem_take hv)
   · rcases List.mem_append.1 hv with hv | hv
     · exact h1 v hv
     · exact h.one v (List.mem_of_mem_drop hv)
 · rw [xY hle]
   by_cases hir : r = i
   · subst hir
     rw [List.getElem?_set_self hrl] at hi
     simp only [Option.some.injEq] at hi
     subst hi
     rw [xI (by omega)] at hk
     by_cases c1 : k < j
     · rw [if_pos c1] at hk
       rw [if_pos (by omega)]
       exact h.rep r k row d hr hk
     · rw [if_neg c1] at hk
       rw [if_neg (by omega)]
       by_cases c2 : k < j + ds.length
       · rw [if_pos c2] at hk
         rw [if_pos (by omega), show r * sz + k - (r * sz + j) = k - j by omega]
         exact hd _ d hk
       · rw [if_neg c2] at hk
         rw [if_neg (by omega)]
         exact h.rep r k row d hr hk
   · rw [List.getElem?_set_ne hir] at hi
     have hks : k < sz := by rw [← h.row i r' hi]; exact (List.getElem?_eq_some_iff.1 hk).1
     have hno : i * sz + k < r * sz + j ∨ r * sz + j + vs.length ≤ i * sz + k := by
       rcases Nat.lt_or_gt_of_ne hir with hlt | hlt
       · have := Nat.mul_le_mul_right sz (show r + 1 ≤ i by omega)
         rw [Nat.add_mul] at this; omega
       · have := Nat.mul_le_mul_right sz (show i + 1 ≤ r by omega)
         rw [Nat.add_mul] at this; omega
     obtain ⟨u, hu, hr'⟩ := h.rep i k r' d hi hk
     refine ⟨u, ?_, hr'⟩
     rcases hno with hno | hno
     · rw [if_pos hno]; exact hu
     · rw [if_neg (by omega), if_neg (by omega)]; exact hu
section
variable {P : Program} {n : Fr} {env : Env} {ps : List Per} {hp : List Res} {ty : TypeId} {pos : String} {af : Array Edge} {gd : Option (Nat × Bool)} {K : Sta → Prop} {d : Option Tmp} {v : Value} {E T U : TypeId} {sz : Nat} {rows : List (List D)} {x y : Operand}
theorem dV (i k : Nat) (hel : elB P T E sz = true) (hx : ev env x = some (true, v)) (hi : hp[i]? = some (bA v E sz rows)) {z : Int} (hy : ev env y = some (true, .int .i64 z)) (hz : z = (k : Int)) (hk : k < rows.length) :
   Quiet P n ⟨d, .indexAddr T x y, ty, pos, af, gd⟩ ⟨env, ps, hp⟩ (.pointer (some ⟨ow v, k * sz, none⟩)) := fun w S fp a hst he hn => by
 subst hz
 obtain ⟨hT, it, hit, _, hsz, _⟩ := dh hel
 have h1 := he.val hx rfl
 have h2 := he.val hy rfl
 rcases hst.res i _ hi with ⟨_, rfl, _⟩ | ⟨B, c, rfl, _⟩
 · simp at hk
 · have : (execOp a.eval ⟨d, .indexAddr T x y, ty, pos, af, gd⟩).run P w = .ok (.value (.pointer (some ⟨B, k * sz, none⟩))) w := by
     unfold execOp; dsimp only; rw [h1, h2]
     show ((Instr.indexAt T (.slice (some ⟨B, 0, none⟩) rows.length c) (.int .i64 k)).bind fun r => Sem.pure (Next.value r)).run P w = _
     have hE : P.elem T = E := by unfold Program.elem; rw [hT]
     rw [Sem.run_bind', run_indexAt_slice _ _ _ _ _ _ _ (by rw [hE]; exact hT), if_pos (by omega), hE, cJ hit, hsz]
     simp only [Result.andThen, Int.toNat_natCast]
     unfold Addr.add
     split
     · rename_i h0; rw [h0]; rfl
     · simp only [Nat.zero_add]; rfl
   rw [this]; exact bY _ _
theorem vZ {w : World} {S F : bz} (h : (bA v E sz rows).holds w S F) {r : Nat} {row : List D} (hr : rows[r]? = some row) {j : Nat} {dd : D} (hj : row[j]? = some dd) : ∃ u, w.cell? ⟨ow v, r * sz + j, none⟩ = some u ∧ ef w S u dd ∧ u.oneCell' = true := by
 rcases h with ⟨_, rfl, _⟩ | ⟨b, cap, rfl, ⟨cs, sp, h1, h2, _⟩, _⟩
 · simp at hr
 · obtain ⟨u, hu, hrep⟩ := h2.rep r j row dd hr hj
   refine ⟨u, ?_, hrep, h2.one u (List.mem_of_getElem? hu)⟩
   show w.cell? ⟨b, r * sz + j, none⟩ = _
   rw [dM h1, List.getElem?_append_left (List.getElem?_eq_some_iff.1 hu).1]; exact hu
theorem ez {ag : Bool} {kk o : Nat} {row : List D} {u : Value} (i r j : Nat) (hk : tyk P U = some (ag, kk)) (hx : ev env x = some (true, .pointer (some ⟨ow v, o, none⟩))) (hi : hp[i]? = some (bA v E sz rows)) (hr : rows[r]? = some row) (ho : o = r * sz + j) (hv : rdD ag kk row j = some u) :
   Quiet P n ⟨d, .load U x, ty, pos, af, gd⟩ ⟨env, ps, hp⟩ u := fun w S fp a hst he hn => by
 subst ho
 have h1 := he.val hx rfl
 have hres := hst.res i _ hi
 have hat : (At (ow v) (r * sz) row).holds w (fun _ => True) := ⟨trivial, fun j dd hj => by
   obtain ⟨u, hu, hrep, h1⟩ := vZ hres hr hj
   exact ⟨u, hu, h1, hrep.mono (fun _ _ => rfl) (fun _ _ => trivial)⟩⟩
 have : (execOp a.eval ⟨d, .load U x, ty, pos, af, gd⟩).run P w = .ok (.value u) w := by
   unfold execOp; dsimp only; rw [h1]
   have := lu (P := P) hk hv hat
   show ((loadVar U ⟨ow v, r * sz + j, none⟩).bind fun r => Sem.pure (Next.value r)).run P w = _
   rw [Sem.run_bind', this]; rfl
 rw [this]; exact bY _ _
theorem gT {ag : Bool} {kk o : Nat} {row ds : List D} {vy : Value} (i r j : Nat) (hk : tyk P U = some (ag, kk)) (hx : ev env x = some (true, .pointer (some ⟨ow v, o, none⟩))) (hy : ev env y = some (true, vy)) (hi : hp[i]? = some (bA v E sz rows)) (hr : rows[r]? = some row) (ho : o = r * sz + j)
   (hc : RC ps vy.cells.toList ds) (hl : ds.length = kk) (hj : j + kk ≤ sz) (hK : K ⟨env, ps, hp.set i (bA v E sz (rows.set r (sh row j ds)))⟩) :
   Eff P n ⟨none, .store U x y, ty, pos, af, gd⟩ ⟨env, ps, hp⟩ false K := .change i hi fun w S fp a hst he hn hR => by
 subst ho
 have e1 := he.val hx rfl
 have e2 := he.val hy rfl
 obtain ⟨_, it, _, hit, _, hjk⟩ := gg hk
 obtain ⟨hvl, hv1, hvd⟩ := hc.get
 generalize hv : vy.cells.toList = vs at hvl hv1 hvd
 rcases hR with ⟨_, rfl, _⟩ | ⟨b, cap, rfl, ⟨cs, sp, hb, hrows, hcap, hrc, hcm⟩, hF⟩
 · simp at hr
 · have hrl := (List.getElem?_eq_some_iff.1 hr).1
   have hle : r * sz + j + vs.length ≤ cs.length := by
     have := Nat.mul_le_mul_right sz (show r + 1 ≤ rows.length by omega)
     rw [Nat.add_mul] at this
     have := hrows.len; omega
   have : (execOp a.eval ⟨none, .store U x y, ty, pos, af, gd⟩).run P w = .ok .skip (w.setRow b (wrC (cs ++ sp) (r * sz + j) vs).toArray) := by
     show ((Instr.storeAt U (a.eval x) (a.eval y)).bind fun _ => Sem.pure Next.skip).run P w = _
     rw [e1, e2, Sem.run_bind']
     have : (Instr.storeAt U (.pointer (some ⟨b, r * sz + j, none⟩)) vy).run P w = .ok () (w.setRow b (wrC (cs ++ sp) (r * sz + j) vs).toArray) := by
       show (storeVar U ⟨b, r * sz + j, none⟩ vy).run P w = _
       unfold storeVar
       simp only [Sem.run_bind, cJ hit, Result.andThen]
       have hsz : vy.cells.size = it.size := by rw [hjk, ← hl, ← hvl, ← hv]; simp
       rw [if_neg (by simpa using hsz), hv]
       exact gz b E (r * sz + j) vs 0 (cs ++ sp) w hb hv1 (by simp; omega)
     show (Result.andThen ((Instr.storeAt U (.pointer (some ⟨b, r * sz + j, none⟩)) vy).run P w) _) = _
     rw [this]; rfl
   rw [this]
   have hbS : ¬ S b := (hst.lt i (List.getElem?_eq_some_iff.1 hi).1 b ((hF b).2 rfl)).2
   refine ⟨bA _ E sz (rows.set r (sh row j ds)), _, hK, rfl, rfl, he, ?_, rfl, rfl, ⟨rfl, rfl⟩, by simp [World.setRow], fun b' hb' hne => setRow_other _ _ _ _ (fun h => hne ((hF b').2 h))⟩
   refine .inr ⟨b, cap, by simp, ⟨wrC cs (r * sz + j) vs, sp, ?_, ?_, ?_, by simpa using hrc, hcm⟩, hF⟩
   · rw [← rv hle]; exact setRow_heap _ _ _ _ _ _ hb
   · refine (hrows.set hr hvl (by omega) hv1 (fun k dd hk => ?_)).mono (fun b' hb' => setRow_other _ _ _ _ (fun h => hbS (h ▸ hb'))) (fun _ h => h)
     obtain ⟨u, hu, hd⟩ := hvd k dd hk
     refine ⟨u, hu, ?_⟩
     rcases hd with rfl | hd
     · exact .v u
     · exact hst.per _ hd
   · rw [List.length_append, ta hle, ← List.length_append]; exact hcap
end
end Go.Sy

namespace Go.Sy
open Go.RowKit Go.Lp
def lD (R R' : Res) : Res :=
 ⟨fun w S F => ∃ G H : bz, R.holds w S G ∧ R'.holds w S H ∧ (∀ b, G b → ¬ H b) ∧ ∀ b, F b ↔ G b ∨ H b,
  fun ⟨G, H, h1, h2, h3, h4⟩ k1 k2 k3 => ⟨G, H, R.mono h1 (fun b hb => k1 b ((h4 b).2 (.inl hb))) k2 k3, R'.mono h2 (fun b hb => k1 b ((h4 b).2 (.inr hb))) k2 k3, h3, h4⟩⟩
section
variable {w : World} {S : bz} {fp : Nat → bz} {ps : List Per} {hp : List Res}
theorem St.star (h : St w S fp ps hp) {i j : Nat} {R R' : Res} (hi : hp[i]? = some R) (hj : hp[j]? = some R') (hne : i ≠ j) :
   St w S (fun k => if k = i then (fun b => fp i b ∨ fp j b) else if k = j then (fun _ => False) else fp k) ps ((hp.set i (lD R R')).set j emp) := by
 have hil := (List.getElem?_eq_some_iff.1 hi).1
 have hjl := (List.getElem?_eq_some_iff.1 hj).1
 refine ⟨h.per, fun k T hk => ?_, fun k hk b hb => ?_, fun k l hk hl hkl b hb hb' => ?_, h.slt⟩
 · by_cases hkj : k = j
   · subst hkj
     rw [List.getElem?_set_self (by simpa using hjl)] at hk
     simp only [Option.some.injEq] at hk
     subst hk
     rw [if_neg (Ne.symm hne), if_pos rfl]
     exact fun b hb => hb
   · rw [List.getElem?_set_ne (Ne.symm hkj)] at hk
     by_cases hki : k = i
     · subst hki
       rw [List.getElem?_set_self hil] at hk
       simp only [Option.some.injEq] at hk
       subst hk
       rw [if_pos rfl]
       exact ⟨fp k, fp j, h.res k R hi, h.res j R' hj, h.dj k j hil hjl hne, fun b => Iff.rfl⟩
     · rw [List.getElem?_set_ne (Ne.symm hki)] at hk
       rw [if_neg hki, if_neg hkj]
       exact h.res k T hk
 · have hk' : k < hp.length := by simpa using hk
   by_cases hki : k = i
   · rw [if_pos hki] at hb
     rcases hb with hb | hb
     · exact h.lt i hil b hb
     · exact h.lt j hjl b hb
   · rw [if_neg hki] at hb
     by_cases hkj : k = j
     · rw [if_pos hkj] at hb; exact hb.elim
     · rw [if_neg hkj] at hb; exact h.lt k hk' b hb
 · have hk' : k < hp.length := by simpa using hk
   have hl' : l < hp.length := by simpa using hl
   by_cases hki : k = i
   · rw [if_pos hki] at hb
     rw [if_neg (by omega)] at hb'
     by_cases hlj : l = j
     · rw [if_pos hlj] at hb'; exact hb'
     · rw [if_neg hlj] at hb'
       rcases hb with hb | hb
       · exact h.dj i l hil hl' (by omega) b hb hb'
       · exact h.dj j l hjl hl' (by omega) b hb hb'
   · rw [if_neg hki] at hb
     by_cases hkj : k = j
     · rw [if_pos hkj] at hb; exact hb
     · rw [if_neg hkj] at hb
       by_cases hli : l = i
       · rw [if_pos hli] at hb'
         rcases hb' with hb' | hb'
         · exact h.dj k i hk' hil hki b hb hb'
         · exact h.dj k j hk' hjl hkj b hb hb'
       · rw [if_neg hli] at hb'
         by_cases hlj : l = j
         · rw [if_pos hlj] at hb'; exact hb'
         · rw [if_neg hlj] at hb'; exact h.dj k l hk' hl' hkl b hb hb'
end
section
variable {P : Program} {n : Fr} {env : Env} {ps : List Per} {hp : List Res} {c : Code} {Q : Exit → Sta → Prop}
theorem rT {hp' : List Res} {ps' : List Per} (h0 : ∀ w S fp, St w S fp ps hp → ∃ fp', St w S fp' ps' hp' ∧ ∀ b, tot fp' hp'.length b → tot fp hp.length b) (h : awp P n c Q ⟨env, ps', hp'⟩) : awp P n c Q ⟨env, ps, hp⟩ := fun w S fp a hst he hn hd => by
 obtain ⟨fp', h1, h2⟩ := h0 w S fp hst
 exact eB (fun e a' w' hp' => eK.trans (Evo.refl _ _ _) (fun b hb => .inl (h2 b hb)) hp') (h w S fp' a h1 he hn hd)
theorem xF (i j : Nat) {R R' : Res} (hi : hp[i]? = some R) (hj : hp[j]? = some R') (hne : (i == j) = false) (h : awp P n c Q ⟨env, ps, (hp.set i (lD R R')).set j emp⟩) : awp P n c Q ⟨env, ps, hp⟩ := by
 have hil := (List.getElem?_eq_some_iff.1 hi).1
 have hjl := (List.getElem?_eq_some_iff.1 hj).1
 refine rT (fun w S fp hst => ⟨_, hst.star hi hj (by simpa using hne), fun b ⟨k, hk, hb⟩ => ?_⟩) h
 have hk' : k < hp.length := by simpa using hk
 dsimp only at hb
 split at hb
 · exact hb.elim (fun h => ⟨i, hil, h⟩) (fun h => ⟨j, hjl, h⟩)
 · split at hb
   · exact hb.elim
   · exact ⟨k, hk', hb⟩
theorem vS (R : Res) (hR : ∀ w S, R.holds w S (fun _ => False)) (h : awp P n c Q ⟨env, ps, hp ++ [R]⟩) : awp P n c Q ⟨env, ps, hp⟩ := rT (fun w S fp hst => ⟨_, hst.push (Below.refl _ _) R (fun _ => False) (hR w S) (fun b h => h.elim), fun b hb => by
 have hb' : tot (fun i => if i = hp.length then (fun _ => False) else fp i) (hp.length + 1) b := by simpa using hb
 exact (mb hb').elim id (fun h => h.elim)⟩) h
end
end Go.Sy

namespace Go.Sy
open Go.RowKit Go.Lp
section
variable {P : Program} {n : Fr} {s : Sta} {d : Option Tmp} {ty : TypeId} {pos : String} {af : Array Edge} {gd : Option (Nat × Bool)} {v : Value}
theorem dx {x y : Operand} {T E : TypeId} {ag : Bool} {sz b o m : Nat} {kk : IntKind} {z : Int} (k : Nat) (hT : P.underlying T = some (.array m E)) (hk : tyk P E = some (ag, sz)) (hx : ev s.env x = some (true, .pointer (some ⟨b, o, none⟩)))
   (hy : ev s.env y = some (true, .int kk z)) (hz : z = (k : Int)) (hlt : k < m) : Quiet P n ⟨d, .indexAddr T x y, ty, pos, af, gd⟩ s (.pointer (some ⟨b, o + k * sz, none⟩)) :=
 .run2 hx hy fun ρ w h1 h2 => by
   subst hz
   obtain ⟨de, ie, _, hie, _, hsz⟩ := gg hk
   unfold execOp; dsimp only; rw [h1, h2]
   show ((Instr.indexAt T (.pointer (some ⟨b, o, none⟩)) (.int kk k)).bind fun r => Sem.pure (Next.value r)).run P w = _
   have hL : P.arrayLen T = m := by unfold Program.arrayLen; rw [hT]
   have hE : P.elem T = E := by unfold Program.elem; rw [hT]
   have hadd : (Addr.mk b o none).add (k * sz) = ⟨b, o + k * sz, none⟩ := by
     unfold Addr.add; split
     · rename_i h; rw [h]; rfl
     · rfl
   rw [Sem.run_bind', run_indexAt_array _ _ _ _ _ (by rw [hL, hE]; exact hT), hL, if_pos (by omega), hE, cJ hie, hsz]
   simp only [Result.andThen, Int.toNat_natCast, hadd]; rfl
theorem eo {x y : Operand} {T : TypeId} {kk : IntKind} {z : Int} {b : ByteArray} {u : UInt8} (k : Nat) (hT : P.underlying T = some .string) (hx : ev s.env x = some (true, .string b)) (hy : ev s.env y = some (true, .int kk z)) (hz : z = (k : Int)) (hu : b.data.toList[k]? = some u) :
   Quiet P n ⟨d, .index T x y, ty, pos, af, gd⟩ s (.int .u8 u.toNat) := .run2 hx hy fun ρ w h1 h2 => by
 subst hz
 obtain ⟨hlt, hu⟩ := List.getElem?_eq_some_iff.1 hu
 have hlt' : k < b.size := by simpa using hlt
 unfold execOp; dsimp only; rw [h1, h2]
 show ((Instr.index T (.string b) (.int kk k)).bind fun r => Sem.pure (Next.value r)).run P w = _
 rw [Sem.run_bind', run_index_string _ _ _ _ _ hT, dif_pos (by omega)]
 have : b[(k : Int).toNat]'(by simpa using hlt') = u := by rw [← hu]; rfl
 rw [this]; rfl
theorem xf {x y : Operand} {T E : TypeId} {m : Nat} {kk : IntKind} {z : Int} {cs : Array Value} (k : Nat) (hT : P.underlying T = some (.array m E)) (hk : tyk P E = some (false, 1)) (hx : ev s.env x = some (true, .agg cs)) (hy : ev s.env y = some (true, .int kk z)) (hz : z = (k : Int)) (hlt : k < m) (hv : cs[k]? = some v) :
   Quiet P n ⟨d, .index T x y, ty, pos, af, gd⟩ s v := .run2 hx hy fun ρ w h1 h2 => by
 subst hz
 obtain ⟨de, ie, hde, hie, hag, hsz⟩ := gg hk
 unfold execOp; dsimp only; rw [h1, h2]
 show ((Instr.index T (.agg cs) (.int kk k)).bind fun r => Sem.pure (Next.value r)).run P w = _
 have : (Instr.index T (.agg cs) (.int kk k)).run P w = .ok v w := by
   simp [Instr.index, asIntOf, run_underlying hT, hlt, cJ hie, hsz, part, jc hde, hag, hv, Result.andThen]
 rw [Sem.run_bind', this]; rfl
theorem dG {x : Operand} {S D : TypeId} {k kd : IntKind} {z : Int} (hS : (P.underlying S).isSome = true) (hD : P.underlying D = some (.int kd)) (hx : ev s.env x = some (true, .int k z)) : Quiet P n ⟨d, .convert S D x, ty, pos, af, gd⟩ s (.int kd (kd.wrap z)) :=
 .run1 hx fun ρ w h => by
   unfold execOp; dsimp only; rw [h]
   show ((convert S D (.int k z)).bind fun r => Sem.pure (Next.value r)).run P w = _
   have hk : P.intKind D = kd := by unfold Program.intKind; rw [hD]
   rw [Sem.run_bind', run_convert_int w S D k z hS (by rw [hk]; exact hD), hk]; rfl
theorem pb {x y : Operand} {t t' : TypeId} {a b : ByteArray} (hx : ev s.env x = some (true, .string a)) (hy : ev s.env y = some (true, .string b)) (h : a.size + b.size ≤ 9223372036854775807) : Quiet P n ⟨d, .binOp .add t x y t', ty, pos, af, gd⟩ s (.string (a ++ b)) :=
 .run2 hx hy fun ρ w h1 h2 => by
   unfold execOp; dsimp only; rw [h1, h2]
   show ((do eqGuard .add t x y (.string a) (.string b); binOp .add t (.string a) (.string b)) |>.bind fun r => Sem.pure (Next.value r)).run P w = _
   have : (do eqGuard BinOp.add t x y (.string a) (.string b); binOp .add t (.string a) (.string b) : Sem Value) = Op.stringOp .add a b := by rw [binOp_string_add]; rfl
   rw [this, Sem.run_bind', run_string_add_sum w a b h]; rfl
theorem sd {x y : Operand} {t t' : TypeId} {a b : ByteArray} (hx : ev s.env x = some (true, .string a)) (hy : ev s.env y = some (true, .string b)) : Quiet P n ⟨d, .binOp .eql t x y t', ty, pos, af, gd⟩ s (.bool (a.toList == b.toList)) :=
 .run2 hx hy fun ρ w h1 h2 => by
   unfold execOp; dsimp only; rw [h1, h2]
   simp only [eqGuard_at_string, Sem.run_bind, Sem.run_pure, binOp_string_eql, Result.andThen_ok]
theorem oY {x y : Operand} {t t' : TypeId} {a b : ByteArray} (hx : ev s.env x = some (true, .string a)) (hy : ev s.env y = some (true, .string b)) : Quiet P n ⟨d, .binOp .neq t x y t', ty, pos, af, gd⟩ s (.bool (!(a.toList == b.toList))) :=
 .run2 hx hy fun ρ w h1 h2 => by
   unfold execOp; dsimp only; rw [h1, h2]
   simp only [eqGuard_at_string, Sem.run_bind, Sem.run_pure, binOp_string_neq, Result.andThen_ok]
theorem yE {x y : Operand} {T : TypeId} {kk : IntKind} {z : Int} {b : ByteArray} (hT : P.underlying T = some .string) (hx : ev s.env x = some (true, .string b)) (hy : ev s.env y = some (true, .int kk z)) (h0 : 0 ≤ z) (h1 : z ≤ b.size) :
   Quiet P n ⟨d, .slice T x none (some y) none, ty, pos, af, gd⟩ s (.string (b.extract 0 z.toNat)) := .run2 hx hy fun ρ w e1 e2 => by
 unfold execOp; dsimp only; simp only [Option.map_some, Option.map_none]; rw [e1, e2]
 show ((Instr.sliceAt T (.string b) none (some (.int kk z)) none).bind fun r => Sem.pure (Next.value r)).run P w = _
 have : (Instr.sliceAt T (.string b) none (some (.int kk z)) none).run P w = .ok (.string (b.extract 0 z.toNat)) w := by
   rw [run_sliceAt_string w T _ _ _ _ hT]
   exact run_slice_string_h w T b hT kk z h0 h1
 rw [Sem.run_bind', this]; rfl
theorem yT {f : FuncId} {fn : Func} {en : Array Value → Sem Value} {l : List Operand} {ts : Array TypeId} {vs : List Value} (hf : P.funcs[f]? = some fn) (h1 : (fn.name == "runtime.NumGoroutine") = false) (h2 : fn.body.isNone = true) (h3 : Extern.findNext fn = none) (h4 : Extern.find fn = some en)
   (hx : evs s.env l = some vs) (hr : ∀ w, (en vs.toArray).run P w = .ok v w) : Quiet P n ⟨d, .call ⟨.value (.func f), l.toArray, ts⟩, ty, pos, af, gd⟩ s v := fun w S fp a hst he hn => by
 have hv := fI he l vs hx
 have : (execOp a.eval ⟨d, .call ⟨.value (.func f), l.toArray, ts⟩, ty, pos, af, gd⟩).run P w = .ok (.value v) w := by
   unfold execOp
   show ((resolve a.eval ⟨.value (.func f), l.toArray, ts⟩ ty).bind fun x => invoke x.target x.args).run P w = _
   have : resolve a.eval ⟨.value (.func f), l.toArray, ts⟩ ty = Sem.pure { target := .fn (.func f) #[], args := vs.toArray } := by
     have hg : a.eval (.func f) = .func (.func f) #[] #[] := rfl
     unfold resolve
     dsimp only
     rw [hg]
     show Deferred.ofValue _ _ = _
     unfold Deferred.ofValue
     dsimp only
     rw [List.map_toArray, hv, Array.empty_append]
     rfl
   rw [this]
   show (callFunc f (vs.toArray ++ #[])).run P w = _
   rw [Array.append_empty, run_callFunc_extern hf h1 h2 h3 h4, hr w]; rfl
 rw [this]; exact bY _ _
end
section
variable {P : Program} {ops : Array Oper} {md : Region.Mode} {V : Nat → Bool} {Q : Act → World → Prop}
def ik (P : Program) (ops : Array Oper) (o : Oper) (v : Value) (a : Act) : Prop :=
 (Region.wanted o (yielded ops a.tmps) = true ∧ ∀ w1, kQ P v w1 ((execOp a.eval o).run P w1)) ∨ (Region.wanted o (yielded ops a.tmps) = false ∧ v = undef)
theorem ik.of_same {o : Oper} {v : Value} {a a' : Act} (hy : ik P ops o v a) (he : execOp a'.eval o = execOp a.eval o)
   (hw : Region.wanted o (yielded ops a'.tmps) = Region.wanted o (yielded ops a.tmps)) : ik P ops o v a' := by
 unfold ik at *
 rw [he, hw]; exact hy
theorem ik.op {o : Oper} {i : Nat} {v : Value} {a : Act} {w : World} (hi : ops[i]? = some o) (hy : ik P ops o v a) {K : Act → World → Prop} (h : ∀ w', Below w.heap.size w w' → K (a.put o.dst v) w') : opB P ops i K a w := by
 refine ⟨o, hi, ?_⟩
 rcases hy with ⟨h1, h2⟩ | ⟨h1, rfl⟩
 · rw [if_pos h1]
   exact cw (fun u w' ⟨hu, hb⟩ => by subst hu; exact h w' hb) (h2 w)
 · rw [if_neg (by rw [h1]; exact Bool.false_ne_true)]
   exact h w (Below.refl _ _)
theorem sK {i : Nat} {oi : Oper} {v : Value} (hi : ops[i]? = some oi) (hsel : ∀ (j : Nat) (o : Oper) cs b, ops[j]? = some o → o.op ≠ .select cs b) :
   ∀ (n : Nat) (L : Array Bool) (a : Act) (w : World),
     (∀ j oj, ops[j]? = some oj → j ≠ i → L.getD j true = false → (∀ e ∈ oj.after, Region.binds md e = true → e.on ≠ i) → oi.apart ops oj = true) →
     i ∈ Region.ready md ops L → ik P ops oi v a →
     wpB P md ops V Q n (L.setIfInBounds i true) (a.put oi.dst v) w → wpB P md ops V Q (n + 1) L a w := by
 intro n
 induction n with
 | zero =>
   intro L a w _ hr hy H w1 hb
   refine ⟨fun h => (by rw [h] at hr; cases hr), fun j hj => ?_⟩
   by_cases hji : j = i
   · subst hji
     exact hy.op hi fun w' hb' => ⟨fun _ => hb', oE H (dJ hb hb')⟩
   · have := ready_mono hj hji
     rw [(H w1 hb).1] at this
     cases this
 | succ n ih =>
   intro L a w hfree hr hy H w1 hb
   refine ⟨fun h => (by rw [h] at hr; cases hr), fun j hj => ?_⟩
   by_cases hji : j = i
   · subst hji
     exact hy.op hi fun w' hb' => ⟨fun _ => hb', oE H (dJ hb hb')⟩
   · obtain ⟨oj, hoj, hrun⟩ := (H w1 hb).2 j (ready_mono hj hji)
     obtain ⟨hjun, oj', hoj', hall⟩ := mem_ready.1 hj
     obtain rfl : oj = oj' := Option.some.inj (hoj.symm.trans hoj')
     have hnot : ∀ e ∈ oj.after, Region.binds md e = true → e.on ≠ i := fun e he hb heq => by
       have h1 := hall e he hb
       have h0 := (mem_ready.1 hr).1
       rw [heq] at h1
       rw [iU h1] at h0; cases h0
     obtain ⟨p1, p2, p3⟩ := Oper.apart_spec (hfree j oj hoj hji hjun hnot)
     rw [execOp_put oj (fun cs b => hsel j oj cs b hoj) a oi.dst v p1, wanted_put oj a oi.dst v p1] at hrun
     have hfree' : ∀ k ok, ops[k]? = some ok → k ≠ i → (L.setIfInBounds j true).getD k true = false →
         (∀ e ∈ ok.after, Region.binds md e = true → e.on ≠ i) → oi.apart ops ok = true := fun k ok hk hki hun hno => by
       refine hfree k ok hk hki ?_ hno
       by_cases hjk : j = k
       · subst hjk; exact hjun
       · rw [getD_set_ne true hjk] at hun; exact hun
     have step : ∀ u w', wpB P md ops V Q n ((L.setIfInBounds i true).setIfInBounds j true) ((a.put oi.dst v).put oj.dst u) w' → wpB P md ops V Q (n + 1) (L.setIfInBounds j true) (a.put oj.dst u) w' := fun u w' h => by
       refine ih (L.setIfInBounds j true) (a.put oj.dst u) w' hfree' (ready_mono hr (Ne.symm hji)) ?_ ?_
       · exact hy.of_same (execOp_put oi (fun cs b => hsel i oi cs b hi) a oj.dst u p3) (wanted_put oi a oj.dst u p3)
       · rw [Array.setIfInBounds_comm _ _ hji, Act.put_comm a u v (fun d hd hd' => p2 d hd' hd)]
         exact h
     refine ⟨oj, hoj, ?_⟩
     split
     · rename_i hw
       rw [if_pos hw] at hrun
       exact cw (fun u w' h => ⟨h.1, step u w' h.2⟩) hrun
     · rename_i hw
       rw [if_neg hw] at hrun
       exact ⟨hrun.1, step undef w1 hrun.2⟩
end
section
variable {P : Program} {n : Fr} {ops : Array Oper} {Q : Exit → Sta → Prop} {env : Env} {ps : List Per} {hp : List Res} {d : Nat} {op : Op} {ty : TypeId} {pos : String} {af : Array Edge} {gd : Option (Nat × Bool)} {v : Value} {V : List Nat} {k : Nat} {L : Array Bool}
def oB (ops : Array Oper) (V : List Nat) (L : Array Bool) (i : Nat) : Bool :=
 Region.noSelect ops && Region.free .any ops L i && (Region.ready .any ops L).contains i
theorem sx (i : Nat) (hi : ops[i]? = some ⟨some d, op, ty, pos, af, gd⟩) (hf : oB ops V L i = true) (c : Bool) (hc : guardOf ops env ⟨some d, op, ty, pos, af, gd⟩ = some c) (hd : fits n (some d) = true)
   (hq : c = true → Quiet P n ⟨some d, op, ty, pos, af, gd⟩ ⟨env, [], []⟩ v) (h : aB P n ops V Q k (L.setIfInBounds i true) ⟨(d, c, v) :: env, ps, hp⟩) : aB P n ops V Q (k + 1) L ⟨env, ps, hp⟩ := fun w S fp a hst he hn hdf => by
 simp only [oB, Bool.and_eq_true] at hf
 obtain ⟨⟨f1, f4⟩, f5⟩ := hf
 have hw := dE (ops := ops) hc he
 have htriv : ∀ w, St w (fun _ => False) (fun _ _ => False) [] [] := fun w => ⟨fun p h => (by cases h), fun i R h => (by simp at h), fun i h => (by simp at h), fun i j h => (by simp at h), fun b h => h.elim⟩
 refine sK hi (Region.noSelect_spec f1) k L a w (Region.free_spec hi f4) (by simpa using f5) (v := bif c then v else undef) ?_ ?_
 · cases c with
   | true => exact .inl ⟨hw, fun w1 => hq rfl w1 _ _ a (htriv w1) he hn⟩
   | false => exact .inr ⟨hw, rfl⟩
 · exact h w S fp (a.put (some d) (bif c then v else undef)) hst (he.set (dst := some d) (by rw [hn]; exact hd) c v) (by rw [ej]; exact hn) (by rw [put_defers]; exact hdf)
end
section
variable {P : Program} {n : Fr} {ops : Array Oper} {Q : Exit → Sta → Prop} {s : Sta} {o : Oper} {K : Sta → Prop}
theorem Quiet.eff {v : Value} {q : Bool} (h : Quiet P n o s v) (hd : fits n.size o.dst = true) (hK : K ⟨setEnv s.env o.dst true v, s.ps, s.hp⟩) : Eff P n o s q K := fun w S fp a hst he hn => by
 refine cw (fun u w' ⟨hu, hb⟩ => ?_) (h w S fp a hst he hn)
 subst hu
 exact ⟨_, S, fp, hK, hst.below hb, he.set (c := true) (by rw [hn]; exact hd) u, Evo.of_below _ _ hb, fun b hb => .inl hb, fun _ => hb⟩
theorem yR {V : List Nat} {k : Nat} {L : Array Bool} {qi qj : Bool} {oi oj : Oper} (i j : Nat) (hr : Region.ready .any ops L = [i, j]) (hi : ops[i]? = some oi) (hj : ops[j]? = some oj) (hqi : (qi || V.contains i) = true) (hqj : (qj || V.contains j) = true)
   (hci : guardOf ops s.env oi = some true) (hcj : guardOf ops s.env oj = some true) (h1 : Eff P n oi s qi (aB P n ops V Q k (L.setIfInBounds i true))) (h2 : Eff P n oj s qj (aB P n ops V Q k (L.setIfInBounds j true))) : aB P n ops V Q (k + 1) L s := fun w S fp a hst he hn hdf w1 hb => by
 refine ⟨fun h0 => (by rw [hr] at h0; cases h0), fun m hm => ?_⟩
 rw [hr] at hm
 have key : ∀ (m : Nat) (o : Oper) (q : Bool), ops[m]? = some o → (q || V.contains m) = true → guardOf ops s.env o = some true → Eff P n o s q (aB P n ops V Q k (L.setIfInBounds m true)) →
     opB P ops m (fun a' w' => ((fun i => V.contains i) m = false → Below w1.heap.size w1 w') ∧ wpB P .any ops (fun i => V.contains i) (eK Q n w S (tot fp s.hp.length) .normal) k (L.setIfInBounds m true) a' w') a w1 := fun m o q ho hq hc h => by
   refine ⟨o, ho, ?_⟩
   rw [if_pos (dE (ops := ops) hc he)]
   refine cw (fun u w' ⟨s', S', fp', hK, hst', he', hE, hg, hqb⟩ => ⟨fun hVj => hqb (by have h0 : V.contains m = false := hVj; rw [h0, Bool.or_false] at hq; exact hq), ?_⟩) (h w1 S fp a (hst.below hb) he hn)
   refine gM (fun a2 w2 hp => (hp.trans hE hg).trans (Evo.of_below _ _ hb) (fun _ h => .inl h)) _ _ _ _ (hK w' S' fp' _ hst' he' (by rw [ej]; exact hn) (by rw [put_defers]; exact hdf))
 rcases List.mem_cons.1 hm with rfl | hm
 · exact key _ _ _ hi hqi hci h1
 · obtain rfl := List.mem_singleton.1 hm
   exact key _ _ _ hj hqj hcj h2
end
section
variable {P : Program} {n : Fr} {ops : Array Oper} {Q : Exit → Sta → Prop} {env : Env} {ps : List Per} {hp hp' : List Res} {rest : List Oper}
theorem tr (h0 : hp = hp') (h : aL P n ops Q rest ⟨env, ps, hp'⟩) : aL P n ops Q rest ⟨env, ps, hp⟩ := h0 ▸ h
theorem zS {ps' : List Per} (h1 : ps = ps') (h0 : hp = hp') (h : aL P n ops Q rest ⟨env, ps', hp'⟩) : aL P n ops Q rest ⟨env, ps, hp⟩ := h1 ▸ h0 ▸ h
theorem aac {V : List Nat} {k : Nat} {L L' : Array Bool} {ps' : List Per} (hL : L = L') (h1 : ps = ps') (h0 : hp = hp') (h : aB P n ops V Q k L' ⟨env, ps', hp'⟩) : aB P n ops V Q k L ⟨env, ps, hp⟩ := hL ▸ h1 ▸ h0 ▸ h
theorem aan {V : List Nat} {k : Nat} {L L' : Array Bool} (hL : L = L') (h0 : hp = hp') (h : aB P n ops V Q k L' ⟨env, ps, hp'⟩) : aB P n ops V Q k L ⟨env, ps, hp⟩ := hL ▸ h0 ▸ h
end
section
variable {P : Program} {n : Fr} {env : Env} {ps : List Per} {hp : List Res} {ty : TypeId} {pos : String} {af : Array Edge} {gd : Option (Nat × Bool)} {K : Sta → Prop} {q : Bool}
theorem bp {t : Nat} {T : TypeId} {zs : List Value} (hz : eM P T = some zs) (ht : fits n (some t) = true) (hK : ∀ b, K ⟨(t, true, .pointer (some ⟨b, 0, none⟩)) :: env, ps, hp ++ [Box b T zs]⟩) :
   Eff P n ⟨some t, .alloc T, ty, pos, af, gd⟩ ⟨env, ps, hp⟩ q K := yf hz ht hK
theorem bI {t : Nat} {T : TypeId} {x : Operand} {vx : Value} {cs : List Value} (hx : ev env x = some (true, vx)) (hc0 : cpL vx.cells.toList = some cs) (ht : fits n (some t) = true) (hK : ∀ b, K ⟨(t, true, .pointer (some ⟨b, 0, none⟩)) :: env, ps, hp ++ [Box b T cs]⟩) :
   Eff P n ⟨some t, .box T x, ty, pos, af, gd⟩ ⟨env, ps, hp⟩ q K := yP hx hc0 ht hK
theorem aT {x y : Operand} {U T : TypeId} {ag : Bool} {k b o : Nat} {cs cs' : List Value} {vy : Value} (i : Nat) (hk : tyk P U = some (ag, k)) (hx : ev env x = some (true, .pointer (some ⟨b, o, none⟩))) (hy : ev env y = some (true, vy)) (hi : hp[i]? = some (Box b T cs))
   (hw : wrL k cs o vy.cells.toList = some cs') (hK : K ⟨env, ps, hp.set i (Box b T cs')⟩) :
   Eff P n ⟨none, .store U x y, ty, pos, af, gd⟩ ⟨env, ps, hp⟩ false K := sS i hk hx hy hi hw hK
end
section
variable {P : Program} {Q : Exit → Sta → Prop} {s : Sta}
def RV (P : Program) (s : Sta) (r : ResultVar) (v : Value) : Prop := ∀ a w S fp, St w S fp s.ps s.hp → c8 a s.env →
 match r with
 | .tmp t => a.tmps.getD t undef = v
 | .cell b t => ∃ ad, a.tmps.getD b undef = .pointer (some ad) ∧ (loadVar t ad).run P w = .ok v w
theorem cT {t : Nat} {v : Value} (hl : look s.env t = some (true, v)) : RV P s (.tmp t) v := fun a w S fp hst henv => henv t true v hl
theorem cv {t : Nat} {T U : TypeId} {ag : Bool} {k b o : Nat} {cs : List Value} {v : Value} (i : Nat) (hk : tyk P U = some (ag, k)) (hl : look s.env t = some (true, .pointer (some ⟨b, o, none⟩))) (hi : s.hp[i]? = some (Box b T cs)) (hv : rdC ag k cs o = some v) : RV P s (.cell t U) v := fun a w S fp hst henv => by
 have hb := (hst.res i _ hi).1
 have hr := oR (w := w) hk hv (b := b) (p := 0) (fun j u hu => by rw [Nat.zero_add, dM hb]; exact hu)
 rw [Nat.zero_add] at hr
 exact ⟨_, henv t true _ hl, hr⟩
theorem dL (ad : Addr) (w : World) : (asAddr (.pointer (some ad))).run P w = .ok ad w := rfl
theorem ti {fn : Func} {r : ResultVar} {v : Value} {R : Value → List Per → List Res → Prop} {e : Exit} (lp lh : List Nat) (ok : okH s.hp lh = true) (hr : fn.results = #[r]) (h1 : RV P s r v) (h : R v (fA s.ps lp) (bX s.hp lh)) (he : e = .normal ∨ e = .ret) : kO P fn R e s :=
 ⟨he, v, lp, lh, ok, fun a w S fp hst henv => by
   have h1 := h1 a w S fp hst henv
   cases r with
   | tmp t => dsimp only at h1; rw [results_tmp hr, h1]
   | cell b t => obtain ⟨ad, g1, g2⟩ := h1; simp only [results, hr]; simp at g1; simp [g1, g2, dL], h⟩
theorem dZ {fn : Func} {r r' : ResultVar} {v v' : Value} {R : Value → List Per → List Res → Prop} {e : Exit} (lp lh : List Nat) (ok : okH s.hp lh = true) (hr : fn.results = #[r, r']) (h1 : RV P s r v) (h2 : RV P s r' v') (h : R (.tuple #[v, v']) (fA s.ps lp) (bX s.hp lh)) (he : e = .normal ∨ e = .ret) : kO P fn R e s :=
 ⟨he, .tuple #[v, v'], lp, lh, ok, fun a w S fp hst henv => by
   have h1 := h1 a w S fp hst henv
   have h2 := h2 a w S fp hst henv
   cases r with
   | tmp t =>
     cases r' with
     | tmp u => dsimp only at h1 h2; rw [results_tmp2 hr, h1, h2]
     | cell b t => obtain ⟨ad, g1, g2⟩ := h2; simp only [results, hr]; simp at g1 h1; simp [g1, g2, h1, dL]
   | cell b t =>
     obtain ⟨ad, g1, g2⟩ := h1
     cases r' with
     | tmp u => simp only [results, hr]; simp at g1 h2; simp [g1, g2, h2, dL]
     | cell b' t' => obtain ⟨ad', g1', g2'⟩ := h2; simp only [results, hr]; simp at g1 g1'; simp [g1, g2, g1', g2', dL], h⟩
end
section
variable {P : Program} {n : Fr} {env : Env} {ps : List Per} {hp : List Res} {ty : TypeId} {pos : String} {af : Array Edge} {gd : Option (Nat × Bool)} {K : Sta → Prop} {q : Bool}
theorem zq {t : Nat} {T : TypeId} {x : Operand} {vx : Value} (cs : List Value) (hx : ev env x = some (true, vx)) (hc : vx.cells.toList = cs) (ht : fits n (some t) = true) (hK : ∀ b, K ⟨(t, true, .pointer (some ⟨b, 0, none⟩)) :: env, ps, hp ++ [Box b T cs]⟩) :
   Eff P n ⟨some t, .box T x, ty, pos, af, gd⟩ ⟨env, ps, hp⟩ q K := yP hx (by rw [hc]; induction cs with | nil => rfl | cons c cs ih => skip; exact (show ∀ l : List Value, cpL l = some l from fun l => by induction l with | nil => rfl | cons a l ih => simp [cpL, ih]) _) ht hK
theorem iG {x y : Operand} {U T : TypeId} {ag : Bool} {k b o : Nat} {cs : List Value} {vy : Value} (i : Nat) (vs cs' : List Value) (hk : tyk P U = some (ag, k)) (hx : ev env x = some (true, .pointer (some ⟨b, o, none⟩))) (hy : ev env y = some (true, vy)) (hi : hp[i]? = some (Box b T cs))
   (hv : vy.cells.toList = vs) (hl : vs.length = k) (h1 : ∀ v ∈ vs, v.oneCell' = true) (ho : o + k ≤ cs.length) (hcs : wrC cs o vs = cs') (hK : K ⟨env, ps, hp.set i (Box b T cs')⟩) :
   Eff P n ⟨none, .store U x y, ty, pos, af, gd⟩ ⟨env, ps, hp⟩ false K := by
 have key : ∀ (cs : List Value) (o : Nat) (vs : List Value), (∀ v ∈ vs, v.oneCell' = true) → o + vs.length ≤ cs.length → wrL vs.length cs o vs = some (wrC cs o vs) := by
   intro cs
   induction cs with
   | nil => intro o vs h1 h2
            cases vs with
            | nil => have : o = 0 := by simpa using h2
                     subst this; simp [wrL, wrC]
            | cons v vs => simp at h2
   | cons c cs ih =>
     intro o vs h1 h2
     cases o with
     | zero =>
       cases vs with
       | nil => simp [wrL, wrC]
       | cons v vs =>
         have := ih 0 vs (fun u hu => h1 u (by simp [hu])) (by simpa using h2)
         simp only [List.length_cons, wrL, h1 v (by simp), this]
         simp [wrC]
     | succ o =>
       have := ih o vs h1 (by simp at h2; omega)
       have e : wrL vs.length (c :: cs) (o + 1) vs = match wrL vs.length cs o vs with | some l => some (c :: l) | none => none := by cases hn : vs.length <;> rfl
       rw [e, this]
       simp [wrC, show o + 1 + vs.length = (o + vs.length) + 1 by omega]
 subst hl hcs
 refine sS i hk hx hy hi ?_ hK
 rw [hv]
 exact key cs o vs h1 ho
theorem x5 {t : Nat} {T E : TypeId} {x : Operand} {v : Value} {rows : List (List D)} (i : Nat) (hT : P.underlying T = some (.slice E)) (hE : P.underlying E = some (.int .u8)) (hx : ev env x = some (true, v)) (ht : fits n (some t) = true) (hi : hp[i]? = some (bA v E 1 rows)) (hne : rows ≠ [])
   (hK : K ⟨(t, true, v) :: env, Sh v (.sl rows) :: ps, hp.set i emp⟩) : Eff P n ⟨some t, .convert T T x, ty, pos, af, gd⟩ ⟨env, ps, hp⟩ false K := fun w S fp a hst he hn => by
 have e1 := he.val hx rfl
 have hil := (List.getElem?_eq_some_iff.1 hi).1
 rcases hst.res i _ hi with ⟨_, h0, _⟩ | ⟨b, cap, rfl, ⟨cs, sp, hb, hrows, hl, hle, hcap⟩, hF⟩
 · exact absurd h0 hne
 · have hbl := lt_of_heap hb
   let N := (cs ++ sp).length
   have hfr : (w.freeze ⟨b, N, none⟩ 1).heap[b]? = some (.cells (cs ++ sp).toArray E (N, N + 1)) := by
     unfold World.freeze
     rw [if_neg (by decide)]
     simp only [Array.getElem?_modify, hb, if_true, Option.map_some]
     simp
   have hof : ∀ k, k ≠ b → (w.freeze ⟨b, N, none⟩ 1).heap[k]? = w.heap[k]? := fun k hk => by
     unfold World.freeze
     rw [if_neg (by decide)]
     simp only [Array.getElem?_modify, if_neg (Ne.symm hk)]
   have hsz : (w.freeze ⟨b, N, none⟩ 1).heap.size = w.heap.size := by unfold World.freeze; rw [if_neg (by decide)]; simp
   have hsh : w.shape? b = some (E, N) := by unfold World.shape?; rw [hb]; simp [N]
   have hrun : (convert T T (.slice (some ⟨b, 0, none⟩) rows.length cap)).run P w = .ok (.slice (some ⟨b, 0, none⟩) rows.length cap) (w.freeze ⟨b, N, none⟩ 1) := by
     simp [convert, run_underlying hT, run_underlying hE, markStringish, hsh]
   have hexec : (execOp a.eval ⟨some t, .convert T T x, ty, pos, af, gd⟩).run P w = .ok (.value (.slice (some ⟨b, 0, none⟩) rows.length cap)) (w.freeze ⟨b, N, none⟩ 1) := by
     unfold execOp; dsimp only; rw [e1]
     show ((convert T T (.slice (some ⟨b, 0, none⟩) rows.length cap)).bind fun r => Sem.pure (Next.value r)).run P w = _
     rw [Sem.run_bind', hrun]; rfl
   rw [hexec]
   have hcell : ∀ j, (w.freeze ⟨b, N, none⟩ 1).cell? ⟨b, j, none⟩ = (cs ++ sp)[j]? := fun j => by
     unfold World.cell?; simp only [hfr]; simp
   have hst0 := hst.drop i
   have hSb : ∀ k, S k → k ≠ b := fun k hk e => (hst.lt i hil b ((hF b).2 rfl)).2 (e ▸ hk)
   have hS : ∀ k, S k → (S k ∨ k = b) := fun _ h => .inl h
   refine ⟨_, (fun k => S k ∨ k = b), (fun k => if k = i then (fun _ => False) else fp k), hK, ⟨fun p hp' => ?_, fun j R hj => ?_, fun j hj k hk => ?_, hst0.dj, fun k hk => ?_⟩, he.put (g := true) (by rw [hn]; simpa [fits] using ht) _, ⟨rfl, rfl, rfl, by rw [hsz]; exact Nat.le_refl _, Nat.le_of_eq (by unfold World.freeze; (repeat' split) <;> rfl), fun k hk hx' => hof k (fun e => hx' ⟨i, hil, (hF k).2 e⟩), hS, fun k hk => hk.elim .inl (fun e => .inr (.inl ⟨i, hil, (hF k).2 e⟩))⟩, fun k ⟨j, hj, hk⟩ => ?_, fun h => by cases h⟩
   · rcases List.mem_cons.1 hp' with rfl | h2
     · refine .sl b 0 cap 1 rows (fun i j => cs.getD (i * 1 + j) undef) (.inr rfl) hle hcap hrows.row (fun ii j r d h1 h2 => ?_) (fun ii j r d h1 h2 => ?_)
       · obtain ⟨u, hu, _⟩ := hrows.rep ii j r d h1 h2
         have e : cs.getD (ii * 1 + j) undef = u := by rw [List.getD, hu]; rfl
         rw [e]
         refine ⟨?_, hrows.one u (List.mem_of_getElem? hu)⟩
         rw [Nat.zero_add, hcell, List.getElem?_append_left (List.getElem?_eq_some_iff.1 hu).1]; exact hu
       · obtain ⟨u, hu, hr⟩ := hrows.rep ii j r d h1 h2
         have e : cs.getD (ii * 1 + j) undef = u := by rw [List.getD, hu]; rfl
         rw [e]
         exact hr.mono (fun k hk => hof k (hSb k hk)) hS
     · exact p.mono (hst.per p h2) (fun k hk => hof k (hSb k hk)) hS
   · have hj' : j < hp.length := by have := (List.getElem?_eq_some_iff.1 hj).1; simpa using this
     refine R.mono (hst0.res j R hj) (fun k hk => hof k (fun e => ?_)) (fun k hk => hof k (hSb k hk)) hS
     by_cases hji : j = i
     · rw [if_pos hji] at hk; exact hk
     · rw [if_neg hji] at hk; exact hst.dj j i hj' hil hji k hk ((hF k).2 e)
   · have hj' : j < hp.length := by simpa using hj
     by_cases hji : j = i
     · rw [if_pos hji] at hk; exact hk.elim
     · rw [if_neg hji] at hk
       refine ⟨by rw [hsz]; exact (hst.lt j hj' k hk).1, fun h => h.elim (hst.lt j hj' k hk).2 (fun e => hst.dj j i hj' hil hji k hk ((hF k).2 e))⟩
   · rw [hsz]; exact hk.elim (hst.slt k) (fun e => e ▸ hbl)
   · have hj' : j < hp.length := by simpa using hj
     by_cases hji : j = i
     · simp only [hji, if_true] at hk
     · simp only [if_neg hji] at hk
       exact .inl ⟨j, hj', hk⟩
end
end Go.Sy

namespace Go.Sy
open Go.RowKit
section
variable {P : Program} {n : Fr} {ops : Array Oper} {Q : Exit → Sta → Prop} {s : Sta} {K : Sta → Prop}
section
variable {env : Env} {ps : List Per} {hp : List Res} {d : Nat} {op : Op} {ty : TypeId} {pos : String} {af : Array Edge} {gd : Option (Nat × Bool)} {rest : List Oper} {v : Value} {x : Operand} {o : Oper}
def okU (ops : Array Oper) (env : Env) (n : Nat) (o : Oper) : Bool := match guardOf ops env o with
 | some true => fits n o.dst
 | _ => false
theorem tH {n : Nat} (h : okU ops env n o = true) : guardOf ops env o = some true ∧ fits n o.dst = true := by
 unfold okU at h
 split at h
 · exact ⟨by assumption, h⟩
 · cases h
def mvU (ops : Array Oper) (env : Env) (n : Nat) (o : Oper) (x : Operand) : Option Value := match okU ops env n o, ev env x with
 | true, some (true, v) => some v
 | _, _ => none
theorem tJ {n : Nat} (h : mvU ops env n o x = some v) : okU ops env n o = true ∧ ev env x = some (true, v) := by
 unfold mvU at h
 split at h
 · rename_i h1 h2
   obtain rfl := Option.some.inj h
   exact ⟨h1, h2⟩
 · cases h
theorem aU (h : okU ops env n.size ⟨some d, op, ty, pos, af, gd⟩ = true) (hq : Quiet P n ⟨some d, op, ty, pos, af, gd⟩ ⟨env, ps, hp⟩ v)
   (hK : aL P n ops Q rest ⟨(d, true, v) :: env, ps, hp⟩) : aL P n ops Q (⟨some d, op, ty, pos, af, gd⟩ :: rest) ⟨env, ps, hp⟩ := aah true (tH h).1 (tH h).2 (fun _ => hq) hK
theorem aM (h : mvU ops env n.size ⟨some d, .move x, ty, pos, af, gd⟩ x = some v) (hK : aL P n ops Q rest ⟨(d, true, v) :: env, ps, hp⟩) : aL P n ops Q (⟨some d, .move x, ty, pos, af, gd⟩ :: rest) ⟨env, ps, hp⟩ :=
 aU (tJ h).1 (ar (tJ h).2) hK
theorem aA (h : mvU ops env n.size ⟨some d, .assign x, ty, pos, af, gd⟩ x = some v) (hK : aL P n ops Q rest ⟨(d, true, v) :: env, ps, hp⟩) : aL P n ops Q (⟨some d, .assign x, ty, pos, af, gd⟩ :: rest) ⟨env, ps, hp⟩ :=
 aU (tJ h).1 (bJ (tJ h).2) hK
theorem aG {c : Bool} (hc : guardOf ops env ⟨some d, op, ty, pos, af, gd⟩ = some c) (hd : fits n (some d) = true) (hq : c = true → Quiet P n ⟨some d, op, ty, pos, af, gd⟩ ⟨env, ps, hp⟩ v)
   (h : aL P n ops Q rest ⟨(d, c, v) :: env, ps, hp⟩) : aL P n ops Q (⟨some d, op, ty, pos, af, gd⟩ :: rest) ⟨env, ps, hp⟩ := aah c hc hd hq h
variable {V : List Nat} {k : Nat} {L L' : Array Bool}
theorem bU (i : Nat) (hi : ops[i]? = some ⟨some d, op, ty, pos, af, gd⟩) (hf : ft ops V L i = true) (h : okU ops env n.size ⟨some d, op, ty, pos, af, gd⟩ = true)
   (hq : Quiet P n ⟨some d, op, ty, pos, af, gd⟩ ⟨env, ps, hp⟩ v) (hK : aB P n ops V Q k (L.setIfInBounds i true) ⟨(d, true, v) :: env, ps, hp⟩) : aB P n ops V Q (k + 1) L ⟨env, ps, hp⟩ := z8 i hi hf true (tH h).1 (tH h).2 (fun _ => hq) hK
theorem bG {c : Bool} (i : Nat) (hi : ops[i]? = some ⟨some d, op, ty, pos, af, gd⟩) (hf : ft ops V L i = true) (hc : guardOf ops env ⟨some d, op, ty, pos, af, gd⟩ = some c) (hd : fits n (some d) = true)
   (hq : c = true → Quiet P n ⟨some d, op, ty, pos, af, gd⟩ ⟨env, ps, hp⟩ v) (h : aB P n ops V Q k (L.setIfInBounds i true) ⟨(d, c, v) :: env, ps, hp⟩) : aB P n ops V Q (k + 1) L ⟨env, ps, hp⟩ := z8 i hi hf c hc hd hq h
theorem bV (i : Nat) (hi : ops[i]? = some ⟨some d, op, ty, pos, af, gd⟩) (h : okU ops env n.size ⟨some d, op, ty, pos, af, gd⟩ = true)
   (hq : Quiet P n ⟨some d, op, ty, pos, af, gd⟩ ⟨env, ps, hp⟩ v) (hK : aB P n ops V Q k (L.setIfInBounds i true) ⟨(d, true, v) :: env, ps, hp⟩) (hf : ft ops V L i = true := by kernel_rfl) : aB P n ops V Q (k + 1) L ⟨env, ps, hp⟩ := bU i hi hf h hq hK
theorem bW {c : Bool} (i : Nat) (hi : ops[i]? = some ⟨some d, op, ty, pos, af, gd⟩) (hc : guardOf ops env ⟨some d, op, ty, pos, af, gd⟩ = some c) (hd : fits n (some d) = true)
   (hq : c = true → Quiet P n ⟨some d, op, ty, pos, af, gd⟩ ⟨env, ps, hp⟩ v) (h : aB P n ops V Q k (L.setIfInBounds i true) ⟨(d, c, v) :: env, ps, hp⟩) (hf : ft ops V L i = true := by kernel_rfl) : aB P n ops V Q (k + 1) L ⟨env, ps, hp⟩ := bG i hi hf hc hd hq h
theorem bh (hL : L = L') (h : aB P n ops V Q k L' ⟨env, ps, hp⟩) : aB P n ops V Q k L ⟨env, ps, hp⟩ := hL ▸ h
end
theorem aSR {l : List Oper} {id : Nat} {y : Code} (h : aL P n l.toArray (thn (awp P n y Q) Q) l s) : awp P n (.seq (.region id l.toArray false) y) Q s := az (ae h)
theorem aNn (h : K s) : aL P n ops (thn K Q) [] s := cr (av h)
theorem aNs {x y : Code} (h : awp P n x (thn (awp P n y Q) Q) s) : aL P n ops (thn (awp P n (.seq x y) Q) Q) [] s := cr (av (az h))
end
theorem nZ : (∀ (l : List Bool) (n : Nat) (a : Bool), l.toArray.setIfInBounds n a = (l.set n a).toArray) ∧ (∀ (a b : Bool) (l : List Bool) (n : Nat), (a :: l).set (n + 1) b = a :: l.set n b) ∧ (∀ (a b : Bool) (l : List Bool), (a :: l).set 0 b = b :: l) := ⟨fun _ _ _ => nO, fun _ _ _ _ => nK, fun _ _ _ => nL⟩
theorem nW : (type_of% @nA) ∧ (type_of% @nB) ∧ (type_of% @nC) ∧ (type_of% @nD) ∧ (type_of% @nE) ∧ (type_of% @nF) ∧ (type_of% @nG) ∧ (type_of% @nH) ∧ (type_of% @nI) ∧ (type_of% @nJ) ∧ (type_of% @nP) ∧ (type_of% @nK) ∧ (type_of% @nL) ∧ (type_of% @nM) ∧ (type_of% @nN) :=
 ⟨@nA, @nB, @nC, @nD, @nE, @nF, @nG, @nH, @nI, @nJ, @nP, @nK, @nL, @nM, @nN⟩
section
variable {P : Program} {n : Fr} {ops : Array Oper} {Q : Exit → Sta → Prop} {env : Env} {ps ps' : List Per} {hp hp' : List Res} {rest : List Oper} {V : List Nat} {k : Nat} {L L' : Array Bool}
theorem aHN (h : aL P n ops Q rest ⟨env, ps, hp'⟩) (h0 : hp = hp' := by (try simp only [nM, nN]); rfl) : aL P n ops Q rest ⟨env, ps, hp⟩ := tr h0 h
theorem aHK (h : aL P n ops Q rest ⟨env, ps, hp'⟩) (h0 : hp = hp' := by (try simp only [nK, nL]); rfl) : aL P n ops Q rest ⟨env, ps, hp⟩ := tr h0 h
theorem aST (h : aL P n ops Q rest ⟨env, ps', hp'⟩) (h1 : ps = ps' := by (try simp only [nM, nN]); rfl) (h0 : hp = hp' := by (try simp only [dt, place, Nat.reduceBEq, if_true, if_false, reduceIte, Nat.reduceAdd, nW]); rfl) : aL P n ops Q rest ⟨env, ps, hp⟩ := zS h1 h0 h
theorem bST (hL : L = L') (h : aB P n ops V Q k L' ⟨env, ps', hp'⟩) (h1 : ps = ps' := by (try simp only [nM, nN]); rfl) (h0 : hp = hp' := by (try simp only [dt, place, Nat.reduceBEq, if_true, if_false, reduceIte, Nat.reduceAdd, nW]); rfl) : aB P n ops V Q k L ⟨env, ps, hp⟩ := aac hL h1 h0 h
theorem qFA {s : Sta} {d : Option Tmp} {ty : TypeId} {pos : String} {af : Array Edge} {gd : Option (Nat × Bool)} {x : Operand} {T : TypeId} {i b o off : Nat} (hx : ev s.env x = some (true, .pointer (some ⟨b, o, none⟩))) (hf : rS P T i = some off := by kernel_rfl) :
   Quiet P n ⟨d, .fieldAddr T x i, ty, pos, af, gd⟩ s (.pointer (some ⟨b, o + off, none⟩)) := pV hf hx
end
end Go.Sy

namespace Go.Sy
open Go.RowKit Go.Lp
theorem pS {w : World} {S : bz} {fp : Nat → bz} {ps : List Per} {hp : List Res} {v : Value} {T : TypeId} {sz : Nat} {rows : List (List D)} (hst : St w S fp ps hp) (i : Nat) (hi : hp[i]? = some (bA v T sz rows)) :
   St w (fun b => S b ∨ fp i b) (fun k => if k = i then (fun _ => False) else fp k) (Sh v (.sl rows) :: ps) (hp.set i emp) := by
 have hil := (List.getElem?_eq_some_iff.1 hi).1
 have hr := hst.res i _ hi
 have hst0 := hst.drop i
 have hS : ∀ b, S b → (S b ∨ fp i b) := fun _ h => .inl h
 refine ⟨fun p hp' => ?_, fun j R hj => R.mono (hst0.res j R hj) (fun _ _ => rfl) (fun _ _ => rfl) hS, fun j hj b hb => ?_, hst0.dj, fun b hb => hb.elim (hst.slt b) (fun h => (hst.lt i hil b h).1)⟩
 · rcases List.mem_cons.1 hp' with rfl | h2
   · rcases hr with ⟨rfl, rfl, _⟩ | ⟨b, cap, rfl, ⟨cs, sp, hb, hrows, hl, hle, hcap⟩, hF⟩
     · exact .e none 0 (by unfold maxLen; omega)
     · refine .sl b 0 cap sz rows (fun i j => cs.getD (i * sz + j) undef) (.inr ((hF b).2 rfl)) hle hcap hrows.row (fun i j r d h1 h2 => ?_) (fun i j r d h1 h2 => ?_)
       · obtain ⟨u, hu, _⟩ := hrows.rep i j r d h1 h2
         have e : cs.getD (i * sz + j) undef = u := by simp [List.getD, hu]
         rw [e]
         refine ⟨?_, hrows.one u (List.mem_of_getElem? hu)⟩
         rw [Nat.zero_add, dM hb, List.getElem?_append_left (List.getElem?_eq_some_iff.1 hu).1]; exact hu
       · obtain ⟨u, hu, hr⟩ := hrows.rep i j r d h1 h2
         have e : cs.getD (i * sz + j) undef = u := by simp [List.getD, hu]
         rw [e]
         exact hr.mono (fun _ _ => rfl) hS
   · exact p.mono (hst.per p h2) (fun _ _ => rfl) hS
 · have hj' : j < hp.length := by simpa using hj
   by_cases hji : j = i
   · rw [if_pos hji] at hb; exact hb.elim
   · rw [if_neg hji] at hb
     exact ⟨(hst.lt j hj' b hb).1, fun h => h.elim (hst.lt j hj' b hb).2 (hst.dj j i hj' hil hji b hb)⟩
end Go.Sy

namespace Go.Sy
open Go.RowKit
section
variable {P : Program} {n : Fr} {s : Sta} {d : Option Tmp} {ty : TypeId} {pos : String} {af : Array Edge} {gd : Option (Nat × Bool)} {x y : Operand}
theorem nu {T tx E E2 : TypeId} {sz sz2 : Nat} {ad ay : Option Addr} {k c cy : Nat} (hel : elB P T E sz = true) (hel2 : elB P tx E2 sz2 = true) (hx : ev s.env x = some (true, .slice ad k c)) (hy : ev s.env y = some (true, .slice ay 0 cy)) (hk : k ≤ c) :
   Quiet P n ⟨d, .call ⟨.builtin .append, #[x, y], #[T, tx]⟩, ty, pos, af, gd⟩ s (.slice ad k c) :=
 .run2 hx hy fun ρ w h1 h2 => by
   obtain ⟨hT, it, hi, h3, h4, h5⟩ := dh hel
   obtain ⟨hT2, it2, hi2, _⟩ := dh hel2
   have hrun : (Builtin.append_ #[T, tx] ty #[.slice ad k c, .slice ay 0 cy]).run P w = .ok (.slice ad k c) w := by
     simp [Builtin.append_, run_underlying hT, run_underlying hT2, sizeOf, typeInfo, hi, Builtin.lenOf, Builtin.firstCells, hk]
     cases ay <;> cases ad <;> simp [loadCells, loadCellsFrom, storeCells]
   have e : (execOp ρ ⟨d, .call ⟨.builtin .append, #[x, y], #[T, tx]⟩, ty, pos, af, gd⟩) = (Builtin.append_ #[T, tx] ty (#[x, y].map ρ)).bind fun r => Sem.pure (Next.value r) := rfl
   rw [e, show #[x, y].map ρ = #[.slice ad k c, .slice ay 0 cy] by simp [h1, h2], Sem.run_bind', hrun]; rfl
end
end Go.Sy

namespace Go.Sy
open Go.RowKit Go.Lp
theorem jk (b o k : Nat) : (Addr.mk b o none).add k = ⟨b, o + k, none⟩ := by
 unfold Addr.add
 split
 · rename_i h; rw [h]; rfl
 · rfl
section
variable {P : Program} {n : Fr} {s : Sta} {d : Option Tmp} {ty : TypeId} {pos : String} {af : Array Edge} {gd : Option (Nat × Bool)} {x y : Operand}
theorem vu {R : World → World → Prop} {T E : TypeId} {sz nn c : Nat} {ad : Option Addr} {rows : List (List D)} {kk : IntKind} {z : Int} (k : Nat) (hel : elB P T E sz = true) (hx : ev s.env x = some (true, .slice ad nn c)) (hs : Sh (.slice ad nn c) (.sl rows) ∈ s.ps)
   (hy : ev s.env y = some (true, .int kk z)) (hz : z = (k : Int)) (hk : k ≤ rows.length) (hrl : ∀ r ∈ rows, r.length = sz) :
   j3 (β := Option Addr × Nat) P R n ⟨d, .slice T x none (some y) none, ty, pos, af, gd⟩ s (fun p => .slice p.1 k p.2) (fun p => [Sh (.slice p.1 k p.2) (.sl (rows.take k))]) := fun w S fp a hst he hn => by
 have h1 := he.val hx rfl
 subst hz
 have h2 := he.val hy rfl
 obtain ⟨hT, it, hi, _, hsz, _⟩ := dh hel
 have hrep := hst.per _ hs
 have hc : rows.length ≤ c ∧ c ≤ maxLen := by
   cases hrep with
   | e a c hc => exact ⟨Nat.zero_le _, hc⟩
   | sl b o _ sz' _ us hb hn' hc hrl hcell hd => exact ⟨hn', hc⟩
 have hE : P.elem T = E := by unfold Program.elem; rw [hT]
 have hrun : ∀ w1, (execOp a.eval ⟨d, .slice T x none (some y) none, ty, pos, af, gd⟩).run P w1 = .ok (.value (sliced ad 0 k c sz)) w1 := fun w1 => by
   unfold execOp; dsimp only; simp only [Option.map_some, Option.map_none]; rw [h1, h2]
   show ((Instr.sliceAt T (.slice ad nn c) none (some (.int kk k)) none).bind fun r => Sem.pure (Next.value r)).run P w1 = _
   have hT' : P.underlying T = some (.slice (P.elem T)) := by rw [hT, hE]
   rw [Sem.run_bind', run_sliceAt_slice w1 T _ _ _ _ hT', run_slice_h w1 T ad nn c hT' kk k (by omega) (by omega), hE, cJ hi, hsz]
   rfl
 refine ⟨(if c = 0 then ad else ad.map (·.add (0 * sz)), c), fun w1 _ => by rw [hrun]; exact bY _ _, fun p hp => ?_⟩
 simp only [List.mem_singleton] at hp
 subst hp
 show ef w S (.slice (if c = 0 then ad else ad.map (·.add (0 * sz))) k c) (.sl (rows.take k))
 cases hrep with
 | e a c hc' =>
   obtain rfl : k = 0 := by simpa using hk
   exact .e _ _ hc'
 | sl b o _ sz' _ us hb hn' hc hrl' hcell hd =>
   have e : (if c = 0 then (some ⟨b, o, none⟩ : Option Addr) else (some ⟨b, o, none⟩ : Option Addr).map (·.add (0 * sz))) = some ⟨b, o, none⟩ := by
     split
     · rfl
     · simp [jk]
   rw [e]
   have hlt : (rows.take k).length = k := by rw [List.length_take]; omega
   have hget : ∀ (i : Nat) (r : List D), (rows.take k)[i]? = some r → rows[i]? = some r := fun i r h => by
     rw [List.getElem?_take] at h; split at h
     · exact h
     · cases h
   have := ef.sl (w := w) (S := S) b o c sz' (rows.take k) us hb (by omega) hc (fun i r h => hrl' i r (hget i r h)) (fun i j r d h1 h2 => hcell i j r d (hget i r h1) h2) (fun i j r d h1 h2 => hd i j r d (hget i r h1) h2)
   rwa [hlt] at this
theorem uV {R : World → World → Prop} {T E : TypeId} {sz nn c : Nat} {ad : Option Addr} {rows : List (List D)} {kk : IntKind} {z : Int} (k m : Nat) (hel : elB P T E sz = true) (hx : ev s.env x = some (true, .slice ad nn c)) (hs : Sh (.slice ad nn c) (.sl rows) ∈ s.ps)
   (hy : ev s.env y = some (true, .int kk z)) (hz : z = (k : Int)) (hk : k ≤ rows.length) (hrl : ∀ r ∈ rows, r.length = sz) (hm : rows.length - k = m) :
   j3 (β := Option Addr × Nat) P R n ⟨d, .slice T x (some y) none none, ty, pos, af, gd⟩ s (fun p => .slice p.1 m p.2) (fun p => [Sh (.slice p.1 m p.2) (.sl (rows.drop k))]) := fun w S fp a hst he hn => by
 have h1 := he.val hx rfl
 subst hz
 have h2 := he.val hy rfl
 obtain ⟨hT, it, hi, _, hsz, _⟩ := dh hel
 have hrep := hst.per _ hs
 have hnn : nn = rows.length := by cases hrep <;> rfl
 have hE : P.elem T = E := by unfold Program.elem; rw [hT]
 have hrun : ∀ w1, (execOp a.eval ⟨d, .slice T x (some y) none none, ty, pos, af, gd⟩).run P w1 = .ok (.value (sliced ad k nn c sz)) w1 := fun w1 => by
   unfold execOp; dsimp only; simp only [Option.map_some, Option.map_none]; rw [h1, h2]
   show ((Instr.sliceAt T (.slice ad nn c) (some (.int kk k)) none none).bind fun r => Sem.pure (Next.value r)).run P w1 = _
   have hT' : P.underlying T = some (.slice (P.elem T)) := by rw [hT, hE]
   rw [Sem.run_bind', run_sliceAt_slice w1 T _ _ _ _ hT', run_slice_l w1 T ad nn c hT' kk k (by omega) (by omega), hE, cJ hi, hsz]
   rfl
 subst hm
 refine ⟨(if c = k then ad else ad.map (·.add (k * sz)), c - k), fun w1 _ => by rw [hrun, hnn]; exact bY _ _, fun p hp => ?_⟩
 simp only [List.mem_singleton] at hp
 subst hp
 show ef w S (.slice (if c = k then ad else ad.map (·.add (k * sz))) (rows.length - k) (c - k)) (.sl (rows.drop k))
 cases hrep with
 | e a c hc =>
   obtain rfl : k = 0 := by simpa using hk
   exact .e _ _ (by omega)
 | sl b o _ sz' _ us hb hn' hc hrl' hcell hd =>
   by_cases hkr : k = rows.length
   · subst hkr
     rw [List.drop_length, Nat.sub_self]; exact .e _ _ (by omega)
   · have hsz' : sz' = sz := by
       obtain ⟨r, hr⟩ : ∃ r, rows[0]? = some r := ⟨_, List.getElem?_eq_getElem (by omega)⟩
       rw [← hrl' 0 r hr]; exact hrl r (List.mem_of_getElem? hr)
     subst hsz'
     rw [if_neg (by omega), Option.map_some, jk, show rows.length - k = (rows.drop k).length by simp]
     refine .sl b (o + k * sz') (c - k) sz' (rows.drop k) (fun i j => us (k + i) j) hb (by rw [List.length_drop]; omega) (by omega) (fun i r h => hrl' (k + i) r (by rwa [List.getElem?_drop] at h)) (fun i j r d h1 h2 => ?_) (fun i j r d h1 h2 => hd (k + i) j r d (by rwa [List.getElem?_drop] at h1) h2)
     rw [List.getElem?_drop] at h1
     have := hcell (k + i) j r d h1 h2
     rwa [Nat.add_mul, ← Nat.add_assoc] at this
end
section
variable {P : Program} {n : Fr} {env : Env} {ps : List Per} {hp : List Res} {ty : TypeId} {pos : String} {af : Array Edge} {gd : Option (Nat × Bool)} {K : Sta → Prop} {v : Value}
theorem gS {t : Nat} {x y : Operand} {T tx E : TypeId} {sz ky cy : Nat} {ay : Option Addr} {rows rows2 : List (List D)} (i : Nat) (hel : elB P T E sz = true) (hel2 : elB P tx E sz = true)
   (hx : ev env x = some (true, v)) (hy : ev env y = some (true, .slice ay ky cy)) (ht : fits n (some t) = true) (hi : hp[i]? = some (bA v E sz rows)) (hs : Sh (.slice ay ky cy) (.sl rows2) ∈ ps) (hrl : ∀ r ∈ rows2, r.length = sz) (hle : rows.length + rows2.length ≤ 1000000000)
   (m : Nat) (hm : rows.length + rows2.length = m) (hK : ∀ ad c, K ⟨(t, true, .slice ad m c) :: env, ps, hp.set i (bA (.slice ad m c) E sz (rows ++ rows2))⟩) :
   Eff P n ⟨some t, .call ⟨.builtin .append, #[x, y], #[T, tx]⟩, ty, pos, af, gd⟩ ⟨env, ps, hp⟩ false K := by
 by_cases h0 : rows2 = []
 · subst h0
   intro w S fp a hst he hn
   have hky : ky = 0 := by
     have := hst.per _ hs
     cases this <;> rfl
   subst hky
   obtain ⟨ad, cc, hv, hcc⟩ : ∃ ad cc, v = .slice ad rows.length cc ∧ rows.length ≤ cc := by
     rcases hst.res i _ hi with ⟨rfl, rfl, _⟩ | ⟨b, cap, rfl, ⟨cs, sp, _, _, _, hc, _⟩, _⟩
     · exact ⟨none, 0, rfl, Nat.le_refl _⟩
     · exact ⟨_, cap, rfl, hc⟩
   subst hv
   have hK' := hK ad cc
   rw [List.append_nil] at hK'
   obtain rfl : rows.length = m := by simpa using hm
   have hset : hp.set i (bA (.slice ad rows.length cc) E sz rows) = hp := by
     obtain ⟨hil, e⟩ := List.getElem?_eq_some_iff.1 hi
     rw [← e]; exact List.set_getElem_self hil
   rw [hset] at hK'
   exact (nu hel hel2 hx hy hcc).eff ht hK' w S fp a hst he hn
 · exact cE i hel hx hy ht hi (wt hel2 hs hrl h0) h0 hle m hm hK
theorem iS {t : Nat} {x y : Operand} {T tx E : TypeId} {sz ky cy : Nat} {ad ay : Option Addr} {rows2 : List (List D)} {q : Bool} (i : Nat) (hel : elB P T E sz = true) (hel2 : elB P tx E sz = true)
   (hx : ev env x = some (true, .slice ad 0 0)) (hy : ev env y = some (true, .slice ay ky cy)) (ht : fits n (some t) = true) (hi : hp[i]? = some (bA (.slice ad 0 0) E sz [])) (hs : Sh (.slice ay ky cy) (.sl rows2) ∈ ps) (hrl : ∀ r ∈ rows2, r.length = sz) (hle : rows2.length ≤ 1000000000)
   (m : Nat) (hm : rows2.length = m) (hK : ∀ ad c, K ⟨(t, true, .slice ad m c) :: env, ps, hp.set i (bA (.slice ad m c) E sz rows2)⟩) :
   Eff P n ⟨some t, .call ⟨.builtin .append, #[x, y], #[T, tx]⟩, ty, pos, af, gd⟩ ⟨env, ps, hp⟩ q K := by
 intro w S fp a hst he hn
 have hil := (List.getElem?_eq_some_iff.1 hi).1
 by_cases h0 : rows2 = []
 · subst h0
   have hky : ky = 0 := by
     have := hst.per _ hs
     cases this <;> rfl
   subst hky
   have hK' := hK ad 0
   obtain rfl : 0 = m := by simpa using hm
   have hset : hp.set i (bA (.slice ad 0 0) E sz []) = hp := by
     obtain ⟨hil, e⟩ := List.getElem?_eq_some_iff.1 hi
     rw [← e]; exact List.set_getElem_self hil
   rw [hset] at hK'
   exact (nu hel hel2 hx hy (Nat.le_refl _)).eff ht hK' w S fp a hst he hn
 · subst hm
   have e1 := he.val hx rfl
   have e2 := he.val hy rfl
   obtain ⟨hT, it, hin, hiz, hsz, hby⟩ := dh hel
   obtain ⟨news, hnews, hsrc⟩ := (wt (P := P) (env := env) (hp := hp) hel2 hs hrl h0).src w S fp hst
   obtain ⟨z, hz, hzs⟩ : ∃ z, it.zero = some z ∧ z.cells.size = it.size := by
     cases hz : it.zero with
     | none => rw [hz] at hiz; cases hiz
     | some z => rw [hz] at hiz; exact ⟨z, rfl, by simpa using hiz⟩
   have hk0 : 0 < rows2.length := by cases rows2 with
     | nil => exact absurd rfl h0
     | cons => simp
   subst hsz
   obtain ⟨C, w1, h1, h2, hrun, ⟨cur1, g1, g2, g3⟩, g4, g5⟩ := iJ (P := P) w T tx ty E it z hT hin hz hzs ad 0 0 rows2.length [] (by cases ad <;> simp [Builtin.firstCells, loadCells, loadCellsFrom]) (by simp) _ news hsrc (by omega) (by simpa using hle) hby
   rw [Nat.zero_add] at h1 hrun g3
   have hexec : execOp a.eval ⟨some t, .call ⟨.builtin .append, #[x, y], #[T, tx]⟩, ty, pos, af, gd⟩ = (Builtin.append_ #[T, tx] ty (#[x, y].map a.eval)).bind fun r => Sem.pure (Next.value r) := rfl
   have hargs : #[x, y].map a.eval = #[.slice ad 0 0, .slice ay ky cy] := by simp [e1, e2]
   rw [hexec, hargs, Sem.run_bind', hrun]
   have hlt : w.heap.size < w1.heap.size := by omega
   have hR : (bA (.slice (some ⟨w.heap.size, 0, none⟩) rows2.length C) E it.size rows2).holds w1 S (fun k => k = w.heap.size) := by
     refine .inr ⟨w.heap.size, C, rfl, ⟨news, cur1.drop (rows2.length * it.size), ?_, ?_, ?_, h1, h2⟩, fun _ => Iff.rfl⟩
     · have : cur1.take (rows2.length * it.size) ++ cur1.drop (rows2.length * it.size) = cur1 := List.take_append_drop _ _
       rw [g3, List.nil_append] at this
       rw [this]; exact g1
     · exact hnews.mono (fun b' hb' => g5.block b' (hst.slt b' hb')) (fun _ h => h)
     · have : cur1.take (rows2.length * it.size) ++ cur1.drop (rows2.length * it.size) = cur1 := List.take_append_drop _ _
       rw [g3, List.nil_append] at this
       rw [this]; exact g2
   have hst' := hst.change2 hil g5.size (fun b' hb' _ => g5.block b' hb') _ (fun k => k = w.heap.size) hR (fun k hk => by subst hk; exact ⟨.inr (Nat.le_refl _), hlt⟩)
   refine ⟨_, S, _, hK _ _, hst', he.put (g := true) (by rw [hn]; simpa [fits] using ht) _, ⟨g5.os, g5.tape, g5.output, g5.size, iV _ _ _ _ hrun, fun b' hb' _ => g5.block b' hb', fun _ h => h, fun _ h => .inl h⟩, fun b' ⟨k, hk, hbk⟩ => ?_, fun _ => .of_kit g5 (iV _ _ _ _ hrun)⟩
   have hk' : k < hp.length := by simpa using hk
   try dsimp only at hbk
   by_cases hki : k = i
   · rw [if_pos hki] at hbk
     subst hbk
     exact .inr (Nat.le_refl _)
   · rw [if_neg hki] at hbk; exact .inl ⟨k, hk', hbk⟩
end
end Go.Sy

namespace Go.Sy
open Go.RowKit Go.Lp
variable {P : Program} {md : Region.Mode} {ops : Array Oper}
structure fj (B : bz) (w w' : World) : Prop where
 size : w.heap.size ≤ w'.heap.size
 block : ∀ k, B k → k < w.heap.size → w'.heap[k]? = w.heap[k]?
theorem fj.of_below {B : bz} {w w' : World} (h : Below w.heap.size w w') : fj B w w' := ⟨h.size, fun k _ hk => h.block k hk⟩
theorem fj.trans {B : bz} {a b c : World} (h : fj B a b) (k : fj B b c) : fj B a c := ⟨Nat.le_trans h.size k.size, fun i hi hl => (k.block i hi (Nat.lt_of_lt_of_le hl h.size)).trans (h.block i hi hl)⟩
theorem fj.mono {B B' : bz} {w w' : World} (h : fj B w w') (hB : ∀ k, B' k → B k) : fj B' w w' := ⟨h.size, fun k hk => h.block k (hB k hk)⟩
def wpC (P : Program) (md : Region.Mode) (ops : Array Oper) (G : Nat → World → World → Prop) (Q : Act → World → Prop) : Nat → Array Bool → Act → World → Prop
 | 0, L, a, w => ∀ w1, Below w.heap.size w w1 → Region.ready md ops L = [] ∧ Q a w1
 | k + 1, L, a, w => ∀ w1, Below w.heap.size w w1 → (Region.ready md ops L = [] → Q a w1) ∧
     ∀ i ∈ Region.ready md ops L, opB P ops i (fun a' w' => G i w1 w' ∧ wpC P md ops G Q k (L.setIfInBounds i true) a' w') a w1
variable {G : Nat → World → World → Prop} {Q : Act → World → Prop}
theorem xp {k : Nat} {L : Array Bool} {a : Act} {w w1 : World} (h : wpC P md ops G Q k L a w) (hb : Below w.heap.size w w1) : wpC P md ops G Q k L a w1 := by
 cases k with
 | zero => exact fun w2 h2 => h w2 (dJ hb h2)
 | succ k => exact fun w2 h2 => h w2 (dJ hb h2)
theorem jI {r : Option Nat} {Q' : Exit → Act → World → Prop} (hQ : ∀ a w, Q a w → Q' .normal a w) : ∀ (k : Nat) (L : Array Bool) (a : Act) (w : World), wpC P md ops G Q k L a w → wpAnyIn (fnc r) 0 P md ops Q' k L a w
 | 0, _, _, w, h => ⟨(h w (Below.refl _ _)).1, hQ _ _ (h w (Below.refl _ _)).2⟩
 | k + 1, _, _, w, h => ⟨fun h0 => hQ _ _ ((h w (Below.refl _ _)).1 h0), fun i hi => wpOpIn_mono (fun _ _ h => jI hQ k _ _ _ h.2) (iM ((h w (Below.refl _ _)).2 i hi))⟩
def iq (P : Program) (R : World → World → Prop) (ops : Array Oper) (o : Oper) (v : Value) (a : Act) (w : World) : Prop :=
 (Region.wanted o (yielded ops a.tmps) = true ∧ ∀ w1, R w w1 → kQ P v w1 ((execOp a.eval o).run P w1)) ∨ (Region.wanted o (yielded ops a.tmps) = false ∧ v = undef)
section
variable {R : World → World → Prop} (h1 : ∀ a b : World, Below a.heap.size a b → R a b) (h2 : ∀ a b c : World, R a b → R b c → R a c) (hG : ∀ (j : Nat) (a b : World), Below a.heap.size a b → G j a b)
include h2 in
theorem iq.of_same {o : Oper} {v : Value} {a a' : Act} {w w' : World} (hy : iq P R ops o v a w) (he : execOp a'.eval o = execOp a.eval o)
   (hw : Region.wanted o (yielded ops a'.tmps) = Region.wanted o (yielded ops a.tmps)) (hb : R w w') : iq P R ops o v a' w' := by
 unfold iq at *
 rw [he, hw]
 exact hy.imp (fun ⟨g1, g2⟩ => ⟨g1, fun w1 h => g2 w1 (h2 _ _ _ hb h)⟩) id
include h1 in
theorem iq.op {o : Oper} {i : Nat} {v : Value} {a : Act} {w : World} (hi : ops[i]? = some o) (hy : iq P R ops o v a w) {K : Act → World → Prop} (h : ∀ w', Below w.heap.size w w' → K (a.put o.dst v) w') : opB P ops i K a w := by
 refine ⟨o, hi, ?_⟩
 rcases hy with ⟨g1, g2⟩ | ⟨g1, rfl⟩
 · rw [if_pos g1]
   exact cw (fun u w' ⟨hu, hb⟩ => by subst hu; exact h w' hb) (g2 w (h1 _ _ (Below.refl _ _)))
 · rw [if_neg (by rw [g1]; exact Bool.false_ne_true)]
   exact h w (Below.refl _ _)
include h1 h2 hG in
theorem nz (U : Nat → Bool) (hU : ∀ (j : Nat) (a b : World), U j = false → G j a b → R a b)
   {i : Nat} {oi : Oper} {v : Value} (hi : ops[i]? = some oi) (hsel : ∀ (j : Nat) (o : Oper) cs b, ops[j]? = some o → o.op ≠ .select cs b) (m : Nat) :
   ∀ (n : Nat) (L : Array Bool) (a : Act) (w : World), closed md ops L → (∀ c, U c = true → L.getD c true = false → mr md ops m c i = true) →
     (∀ j oj, ops[j]? = some oj → j ≠ i → L.getD j true = false → (∀ e ∈ oj.after, Region.binds md e = true → e.on ≠ i) → oi.apart ops oj = true) →
     i ∈ Region.ready md ops L → iq P R ops oi v a w →
     wpC P md ops G Q n (L.setIfInBounds i true) (a.put oi.dst v) w → wpC P md ops G Q (n + 1) L a w := by
 intro n
 induction n with
 | zero =>
   intro L a w hcl hV _ hr hy H w1 hb
   refine ⟨fun h => (by rw [h] at hr; cases hr), fun j hj => ?_⟩
   by_cases hji : j = i
   · subst hji
     exact (hy.of_same h2 rfl rfl (h1 _ _ hb)).op h1 hi fun w' hb' => ⟨hG j _ _ hb', xp H (dJ hb hb')⟩
   · have := ready_mono hj hji
     rw [(H w1 hb).1] at this
     cases this
 | succ n ih =>
   intro L a w hcl hV hfree hr hy H w1 hb
   refine ⟨fun h => (by rw [h] at hr; cases hr), fun j hj => ?_⟩
   by_cases hji : j = i
   · subst hji
     exact (hy.of_same h2 rfl rfl (h1 _ _ hb)).op h1 hi fun w' hb' => ⟨hG j _ _ hb', xp H (dJ hb hb')⟩
   · obtain ⟨oj, hoj, hrun⟩ := (H w1 hb).2 j (ready_mono hj hji)
     obtain ⟨hjun, oj', hoj', hall⟩ := mem_ready.1 hj
     obtain rfl : oj = oj' := Option.some.inj (hoj.symm.trans hoj')
     have hnot : ∀ e ∈ oj.after, Region.binds md e = true → e.on ≠ i := fun e he hb heq => by
       have h1 := hall e he hb
       have h0 := (mem_ready.1 hr).1
       rw [heq] at h1
       rw [iU h1] at h0; cases h0
     have hVj : U j = false := by
       cases hVj : U j with
       | false => rfl
       | true =>
         have h1 := hV j hVj hjun
         have hcl' := ij hcl hj
         have hjs : (L.setIfInBounds j true).getD j true = true := by
           rcases Nat.lt_or_ge j L.size with h' | h'
           · simp [h']
           · simp
         have h2 := iU (sk hcl' m j h1 hjs)
         rw [getD_set_ne true hji, (mem_ready.1 hr).1] at h2
         cases h2
     obtain ⟨p1, p2, p3⟩ := Oper.apart_spec (hfree j oj hoj hji hjun hnot)
     rw [execOp_put oj (fun cs b => hsel j oj cs b hoj) a oi.dst v p1, wanted_put oj a oi.dst v p1] at hrun
     have hfree' : ∀ k ok, ops[k]? = some ok → k ≠ i → (L.setIfInBounds j true).getD k true = false →
         (∀ e ∈ ok.after, Region.binds md e = true → e.on ≠ i) → oi.apart ops ok = true := fun k ok hk hki hun hno => by
       refine hfree k ok hk hki ?_ hno
       by_cases hjk : j = k
       · subst hjk; exact hjun
       · rw [getD_set_ne true hjk] at hun; exact hun
     have hV' : ∀ c, U c = true → (L.setIfInBounds j true).getD c true = false → mr md ops m c i = true := fun c hc hun => by
       refine hV c hc ?_
       by_cases hjc : j = c
       · subst hjc; exact hjun
       · rw [getD_set_ne true hjc] at hun; exact hun
     have step : ∀ u w', R w1 w' → wpC P md ops G Q n ((L.setIfInBounds i true).setIfInBounds j true) ((a.put oi.dst v).put oj.dst u) w' → wpC P md ops G Q (n + 1) (L.setIfInBounds j true) (a.put oj.dst u) w' := fun u w' hb' h => by
       refine ih (L.setIfInBounds j true) (a.put oj.dst u) w' (ij hcl hj) hV' hfree' (ready_mono hr (Ne.symm hji)) ?_ ?_
       · exact hy.of_same h2 (execOp_put oi (fun cs b => hsel i oi cs b hi) a oj.dst u p3) (wanted_put oi a oj.dst u p3) (h2 _ _ _ (h1 _ _ hb) hb')
       · rw [Array.setIfInBounds_comm _ _ hji, Act.put_comm a u v (fun d hd hd' => p2 d hd' hd)]
         exact h
     refine ⟨oj, hoj, ?_⟩
     split
     · rename_i hw
       rw [if_pos hw] at hrun
       exact cw (fun u w' h => ⟨h.1, step u w' (hU j _ _ hVj h.1) h.2⟩) hrun
     · rename_i hw
       rw [if_neg hw] at hrun
       exact ⟨hrun.1, step undef w1 (hU j _ _ hVj hrun.1) hrun.2⟩
end
theorem mc {G' : Nat → World → World → Prop} {Q Q' : Act → World → Prop} (hg : ∀ j a b, G j a b → G' j a b) (hq : ∀ a w, Q a w → Q' a w) : ∀ (k : Nat) (L : Array Bool) (a : Act) (w : World), wpC P .any ops G Q k L a w → wpC P .any ops G' Q' k L a w
 | 0, _, _, _, h => fun w1 hb => ⟨(h w1 hb).1, hq _ _ (h w1 hb).2⟩
 | k + 1, _, _, _, h => fun w1 hb => ⟨fun h0 => hq _ _ ((h w1 hb).1 h0), fun i hi => rl (fun a w h => ⟨hg _ _ _ h.1, mc hg hq k _ _ _ h.2⟩) ((h w1 hb).2 i hi)⟩
def GC (V W Z : List Nat) (S : bz) (j : Nat) (a b : World) : Prop := (V.contains j = false → Below a.heap.size a b) ∧ (W.contains j = false → fj (fun k => k ∈ Z) a b) ∧ fj S a b
theorem GC.of_below {V W Z : List Nat} {S : bz} (j : Nat) (a b : World) (h : Below a.heap.size a b) : GC V W Z S j a b := ⟨fun _ => h, fun _ => .of_below h, .of_below h⟩
section
variable {n : Fr} {Q : Exit → Sta → Prop} {s : Sta} {o : Oper}
def aC (P : Program) (n : Fr) (ops : Array Oper) (V W Z : List Nat) (Q : Exit → Sta → Prop) (k : Nat) (L : Array Bool) (s : Sta) : Prop :=
 ∀ (w : World) (S : bz) (fp : Nat → bz) (a : Act), St w S fp s.ps s.hp → c8 a s.env → a.tmps.size = n.size → a.defers = n.dfr → wpC P .any ops (GC V W Z S) (eK Q n w S (tot fp s.hp.length) .normal) k L a w
theorem gu {V W Z : List Nat} {L : Array Bool} (hr : Region.ready .any ops L = []) (h : Q .normal s) : aC P n ops V W Z Q 0 L s := fun w S fp a hst he hn hd w1 hb =>
 ⟨hr, (gN (hst.below hb) he hn hd h).trans (Evo.of_below _ _ hb) (fun _ h => .inl h)⟩
theorem ec {l : List Oper} {id : Nat} (V W Z : List Nat) (hm : P.follows .mixedOrders = true) (h : aC P n l.toArray V W Z Q l.length (Array.replicate l.length false) s) : awp P n (.region id l.toArray true) Q s := fun w S fp a hst he hn hd => by
 refine wpIn_region_any hm ?_
 have hb : Below w.heap.size w w.drew := (Below.refl _ _).drew
 have h1 := h w.drew S fp a (hst.below hb) he hn hd
 have h2 := jI (r := n.ro) (Q' := eK Q n w S (tot fp s.hp.length)) (fun a' w' hp => eK.trans (Evo.of_below _ _ hb) (fun _ h => .inl h) hp) _ _ _ _ h1
 simpa using h2
theorem yl {V W Z : List Nat} {k : Nat} {L : Array Bool} {X : Type} (F : X → Sta) (h1 : aC P n ops V W Z (fun e s => e = .normal ∧ ∃ le lp lh x, okH s.hp lh = true ∧ mg s le lp lh = F x) k L s) (h2 : ∀ x, Q .normal (F x)) : aC P n ops V W Z Q k L s := fun w S fp a hst he hn hd =>
 mc (fun _ _ _ h => h) (fun a' w' ⟨s', S', fp', ⟨_, le, lp, lh, x, hok, hs⟩, g1, g2, g3, g4, g5, g6⟩ => by
   obtain ⟨k1, k2⟩ := g1.bX lp lh hok
   have e := h2 x
   rw [← hs] at e
   exact ⟨mg s' le lp lh, S', _, e, k1, g2.sub (fF _ _), g3, g4, g5, fun b hb => g6 b (k2 b hb)⟩) _ _ _ _ (h1 w S fp a hst he hn hd)
theorem qW {c : Code} {K : Sta → Prop} {X : Type} (F : X → Sta) (h1 : awp P n c (thn (fun s => ∃ le lp lh x, okH s.hp lh = true ∧ mg s le lp lh = F x) Q) s) (h2 : ∀ x, K (F x)) : awp P n c (thn K Q) s := fun w S fp a hst he hn hd =>
 eB (fun e a' w' hp => by
   cases e with
   | normal =>
     obtain ⟨s', S', fp', ⟨le, lp, lh, x, hok, hs⟩, g1, g2, g3, g4, g5, g6⟩ := hp
     obtain ⟨k1, k2⟩ := g1.bX lp lh hok
     have e := h2 x
     rw [← hs] at e
     exact ⟨mg s' le lp lh, S', _, e, k1, g2.sub (fF _ _), g3, g4, g5, fun b hb => g6 b (k2 b hb)⟩
   | _ => exact hp) (h1 w S fp a hst he hn hd)
def fC (ops : Array Oper) (U : List Nat) (L : Array Bool) (i : Nat) : Bool :=
 Region.noSelect ops && lq .any ops L && Region.free .any ops L i && (Region.ready .any ops L).contains i &&
   U.all fun c => L.getD c true || mr .any ops 60 c i
theorem jo {V W Z U : List Nat} {k : Nat} {L : Array Bool} (i : Nat) (hi : ops[i]? = some o) (hf : fC ops U L i = true) (c : Bool) (hc : guardOf ops s.env o = some c) (hd : fits n.size o.dst = true)
   (h : ∀ (w : World) (S : bz) (fp : Nat → bz) (a : Act), St w S fp s.ps s.hp → c8 a s.env → a.tmps.size = n.size → ∃ (R : World → World → Prop) (v : Value) (ps : List Per),
     (∀ a b : World, Below a.heap.size a b → R a b) ∧ (∀ a b c : World, R a b → R b c → R a c) ∧ (∀ (j : Nat) (a b : World), U.contains j = false → GC V W Z S j a b → R a b) ∧
     (c = true → (∀ w1, R w w1 → kQ P v w1 ((execOp a.eval o).run P w1)) ∧ ∀ p ∈ ps, p.holds w S) ∧
     aC P n ops V W Z Q k (L.setIfInBounds i true) ⟨setEnv s.env o.dst c v, ps.map (cnd c) ++ s.ps, s.hp⟩) : aC P n ops V W Z Q (k + 1) L s := fun w S fp a hst he hn hdf => by
 simp only [fC, Bool.and_eq_true] at hf
 obtain ⟨⟨⟨⟨f1, f3⟩, f4⟩, f5⟩, f6⟩ := hf
 have hV : ∀ c, (fun i => U.contains i) c = true → L.getD c true = false → mr .any ops 60 c i = true := fun c hVc hL => by
   have := List.all_eq_true.1 f6 c (by simpa using hVc)
   simpa [hL] using this
 have hw := dE (ops := ops) hc he
 obtain ⟨R, v, ps, r1, r2, r3, r4, r5⟩ := h w S fp a hst he hn
 cases c with
 | true =>
   obtain ⟨hx, hps⟩ := r4 rfl
   refine nz r1 r2 GC.of_below (fun i => U.contains i) r3 hi (Region.noSelect_spec f1) 60 k L a w (iR f3) hV (Region.free_spec hi f4) (by simpa using f5) (v := v) (.inl ⟨hw, hx⟩) ?_
   refine r5 w S fp (a.put o.dst v) ⟨fun p hp => ?_, hst.res, hst.lt, hst.dj, hst.slt⟩ (he.set (c := true) (by rw [hn]; exact hd) v) (by rw [ej]; exact hn) (by rw [put_defers]; exact hdf)
   rcases List.mem_append.1 hp with h1 | h1
   · obtain ⟨p0, h2, rfl⟩ := List.mem_map.1 h1
     exact fun _ => hps p0 h2
   · exact hst.per p h1
 | false =>
   refine nz r1 r2 GC.of_below (fun i => U.contains i) r3 hi (Region.noSelect_spec f1) 60 k L a w (iR f3) hV (Region.free_spec hi f4) (by simpa using f5) (v := undef) (.inr ⟨hw, rfl⟩) ?_
   exact r5 w S fp (a.put o.dst undef) ⟨fun p hp => (List.mem_append.1 hp).elim (fun h1 => by obtain ⟨p0, h2, rfl⟩ := List.mem_map.1 h1; exact fun h => by cases h) (hst.per p), hst.res, hst.lt, hst.dj, hst.slt⟩ (he.set (c := false) (by rw [hn]; exact hd) v) (by rw [ej]; exact hn) (by rw [put_defers]; exact hdf)
def wL (P : Program) (Z : List Nat) (n : Fr) (o : Oper) (s : Sta) (b1 b2 : Bool) (K : Sta → Prop) : Prop :=
 ∀ (w : World) (S : bz) (fp : Nat → bz) (a : Act), St w S fp s.ps s.hp → c8 a s.env → a.tmps.size = n.size →
   fO P (fun u w' => ∃ s' S' fp', K s' ∧ St w' S' fp' s'.ps s'.hp ∧ c8 (a.put o.dst u) s'.env ∧ Evo w S (tot fp s.hp.length) w' S' ∧ (∀ b, tot fp' s'.hp.length b → tot fp s.hp.length b ∨ w.heap.size ≤ b) ∧
     (b1 = true → Below w.heap.size w w') ∧ (b2 = true → fj (fun k => k ∈ Z) w w')) ((execOp a.eval o).run P w)
theorem Eff.x {Z : List Nat} {K : Sta → Prop} {b1 b2 : Bool} (h : Eff P n o s true K) : wL P Z n o s b1 b2 K := fun w S fp a hst he hn =>
 cw (fun u w' ⟨s', S', fp', g1, g2, g3, g4, g5, g6⟩ => ⟨s', S', fp', g1, g2, g3, g4, g5, fun _ => g6 rfl, fun _ => fj.of_below (g6 rfl)⟩) (h w S fp a hst he hn)
theorem Eff.wild {Z : List Nat} {K : Sta → Prop} {q : Bool} (h : Eff P n o s q K) : wL P Z n o s false false K := fun w S fp a hst he hn =>
 cw (fun u w' ⟨s', S', fp', g1, g2, g3, g4, g5, g6⟩ => ⟨s', S', fp', g1, g2, g3, g4, g5, fun h => (by cases h), fun h => (by cases h)⟩) (h w S fp a hst he hn)
def uy (P : Program) (n : Fr) (ops : Array Oper) (V W Z : List Nat) (Q : Exit → Sta → Prop) (k : Nat) (L : Array Bool) (s : Sta) (j : Nat) : Prop :=
 ∃ o, ops[j]? = some o ∧ guardOf ops s.env o = some true ∧ wL P Z n o s (!V.contains j) (!W.contains j) (aC P n ops V W Z Q k (L.setIfInBounds j true))
theorem cz {V W Z : List Nat} {k : Nat} {L : Array Bool} (i : Nat) (js : List Nat) (hr : Region.ready .any ops L = i :: js) (h : ∀ j ∈ i :: js, uy P n ops V W Z Q k L s j) : aC P n ops V W Z Q (k + 1) L s := fun w S fp a hst he hn hdf w1 hb => by
 refine ⟨fun h0 => (by rw [hr] at h0; cases h0), fun j hj => ?_⟩
 rw [hr] at hj
 obtain ⟨o, hi, hc, hE⟩ := h j hj
 refine ⟨o, hi, ?_⟩
 rw [if_pos (dE (ops := ops) hc he)]
 have hst1 := hst.below hb
 refine cw (fun u w' ⟨s', S', fp', hK, hst', he', hE, hg, hq1, hq2⟩ => ⟨⟨fun hVj => hq1 (by rw [hVj]; rfl), fun hWj => hq2 (by rw [hWj]; rfl), ⟨hE.size, fun b hS hlt => hE.block b hlt fun ⟨r, hr, hrb⟩ => (hst1.lt r hr b hrb).2 hS⟩⟩, ?_⟩) (hE w1 S fp a hst1 he hn)
 refine mc (fun j a b h => ⟨h.1, h.2.1, h.2.2.mono hE.more⟩) (fun a2 w2 hp => (hp.trans hE hg).trans (Evo.of_below _ _ hb) (fun _ h => .inl h)) _ _ _ _ (hK w' S' fp' _ hst' he' (by rw [ej]; exact hn) (by rw [put_defers]; exact hdf))
theorem bO {V W Z : List Nat} {k : Nat} {L : Array Bool} {i : Nat} {js : List Nat} (h1 : uy P n ops V W Z Q k L s i) (h : ∀ j ∈ js, uy P n ops V W Z Q k L s j) : ∀ j ∈ i :: js, uy P n ops V W Z Q k L s j := fun j hj => by
 rcases List.mem_cons.1 hj with rfl | hj
 · exact h1
 · exact h j hj
theorem cm {V W Z : List Nat} {k : Nat} {L : Array Bool} : ∀ j ∈ ([] : List Nat), uy P n ops V W Z Q k L s j := fun j hj => by cases hj
def zOk (lh : List Nat) (hp : List Res) (Z : List Nat) : Prop := ∀ b ∈ Z, ∃ (k : Nat) (T : TypeId) (cs : List Value), k ∉ lh ∧ hp[k]? = some (Box b T cs)
theorem ji {lh : List Nat} {hp : List Res} : zOk lh hp [] := fun b h => by cases h
theorem fJ {lh : List Nat} {hp : List Res} {b : Nat} {Z : List Nat} {T : TypeId} {cs : List Value} (k : Nat) (hk : lh.contains k = false) (h : hp[k]? = some (Box b T cs)) (hz : zOk lh hp Z) : zOk lh hp (b :: Z) := fun c hc => by
 rcases List.mem_cons.1 hc with rfl | hc
 · exact ⟨k, T, cs, by simpa using hk, h⟩
 · exact hz c hc
def fr (lh : List Nat) (hp : List Res) (K : Sta → Prop) : Sta → Prop := fun s' => K ⟨s'.env, s'.ps, dt lh s'.hp 0 hp⟩
theorem gn {lh : List Nat} {hp hp' : List Res} {K : Sta → Prop} {env : Env} {ps : List Per} (h : K ⟨env, ps, dt lh hp' 0 hp⟩) : fr lh hp K ⟨env, ps, hp'⟩ := h
theorem Eff.framed {env : Env} {ps : List Per} {hp : List Res} {q b1 : Bool} {Z : List Nat} {K : Sta → Prop} (lh : List Nat) (ok : okH hp lh = true) (hb1 : (!b1 || q) = true) (hZ : zOk lh hp Z) (h : Eff P n o ⟨env, ps, bX hp lh⟩ q (fr lh hp K)) :
   wL P Z n o ⟨env, ps, hp⟩ b1 true K := fun w S fp a hst he hn => by
 have ok' := ok
 simp only [okH, Bool.and_eq_true, decide_eq_true_eq] at ok'
 obtain ⟨k1, k2⟩ := hst.bX [] lh ok
 have k3 : St w S (fun k => fp (lh.getD k 0)) ps (bX hp lh) := ⟨hst.per, k1.res, k1.lt, k1.dj, hst.slt⟩
 refine cw (fun u w' ⟨s', S', fp', g1, g2, g3, g4, g5, g6⟩ => ?_) (h w S _ a k3 he hn)
 obtain ⟨m1, m2⟩ := hst.back [] lh ok g2 g4 g5
 refine ⟨_, S', _, g1, ⟨fun p hp => m1.per p (List.mem_append.2 (.inl hp)), m1.res, m1.lt, m1.dj, m1.slt⟩, g3, g4.wider k2, m2, fun h => g6 (by rw [h] at hb1; simpa using hb1), fun _ => ⟨g4.size, fun b hb hlt => g4.block b hlt (fun ⟨k, hk, hbk⟩ => ?_)⟩⟩
 obtain ⟨j, T, cs, hj, hbox⟩ := hZ b hb
 have hk' : k < lh.length := by simpa [bX] using hk
 have hjl := (List.getElem?_eq_some_iff.1 hbox).1
 have hfj : fp j b := ((hst.res j _ hbox).2 b).2 rfl
 have hin : lh.getD k 0 ∈ lh := by simp [List.getD, hk']
 have hlt' : lh.getD k 0 < hp.length := by simpa using List.all_eq_true.1 ok'.1 _ hin
 exact hst.dj j (lh.getD k 0) hjl hlt' (fun e => hj (e ▸ hin)) b hfj hbk
end
section
variable {n : Fr} {env : Env} {ps : List Per} {hp : List Res} {Q : Exit → Sta → Prop} {d : Nat} {op : Op} {ty : TypeId} {pos : String} {af : Array Edge} {gd : Option (Nat × Bool)} {V W Z : List Nat} {k : Nat} {L L' : Array Bool}
theorem cM {t : Option Tmp} (j : Nat) (hi : ops[j]? = some ⟨t, op, ty, pos, af, gd⟩) (hc : guardOf ops env ⟨t, op, ty, pos, af, gd⟩ = some true) (h : wL P Z n ⟨t, op, ty, pos, af, gd⟩ ⟨env, ps, hp⟩ (!V.contains j) (!W.contains j) (aC P n ops V W Z Q k (L.setIfInBounds j true))) : uy P n ops V W Z Q k L ⟨env, ps, hp⟩ j := ⟨_, hi, hc, h⟩
theorem cX {v : Value} (i : Nat) (hi : ops[i]? = some ⟨some d, op, ty, pos, af, gd⟩) (hf : fC ops [] L i = true) (c : Bool) (hc : guardOf ops env ⟨some d, op, ty, pos, af, gd⟩ = some c) (hd : fits n (some d) = true)
   (hq : c = true → Quiet P n ⟨some d, op, ty, pos, af, gd⟩ ⟨env, ps, []⟩ v) (h : aC P n ops V W Z Q k (L.setIfInBounds i true) ⟨(d, c, v) :: env, ps, hp⟩) : aC P n ops V W Z Q (k + 1) L ⟨env, ps, hp⟩ :=
 jo (U := []) i hi hf c hc hd fun w S fp a hst he hn => ⟨fj S, v, [], fun _ _ => fj.of_below, fun _ _ _ => fj.trans, fun _ _ _ _ h => h.2.2,
   fun hc => ⟨fun w1 hw1 => hq hc w1 S (fun _ _ => False) a ⟨fun p hp => p.mono (hst.per p hp) (fun b hb => hw1.block b hb (hst.slt b hb)) (fun _ h => h), fun i R h => (by simp at h), fun i h => (by simp at h), fun i j h => (by simp at h), fun b hb => Nat.lt_of_lt_of_le (hst.slt b hb) hw1.size⟩ he hn, fun _ h => (by cases h)⟩, h⟩
theorem aau {β : Type} {v : β → Value} {p1 : β → Per} (i : Nat) (hi : ops[i]? = some ⟨some d, op, ty, pos, af, gd⟩) (hf : fC ops [] L i = true) (c : Bool) (hc : guardOf ops env ⟨some d, op, ty, pos, af, gd⟩ = some c) (hd : fits n (some d) = true)
   (hq : c = true → j3 P (fun _ _ => True) n ⟨some d, op, ty, pos, af, gd⟩ ⟨env, ps, hp⟩ v (fun x => [p1 x])) (hin : c = false → Nonempty β) (h : ∀ x, aC P n ops V W Z Q k (L.setIfInBounds i true) ⟨(d, c, v x) :: env, cnd c (p1 x) :: ps, hp⟩) : aC P n ops V W Z Q (k + 1) L ⟨env, ps, hp⟩ :=
 jo (U := []) i hi hf c hc hd fun w S fp a hst he hn => by
   cases c with
   | true =>
     obtain ⟨x, hx, hp⟩ := hq rfl w S fp a hst he hn
     exact ⟨fun _ _ => True, v x, [p1 x], fun _ _ _ => trivial, fun _ _ _ _ _ => trivial, fun _ _ _ _ _ => trivial, fun _ => ⟨hx, hp⟩, h x⟩
   | false =>
     obtain ⟨x⟩ := hin rfl
     exact ⟨fun _ _ => True, v x, [p1 x], fun _ _ _ => trivial, fun _ _ _ _ _ => trivial, fun _ _ _ _ _ => trivial, fun h => (by cases h), h x⟩
theorem aaf {ps' : List Per} (hp0 : ∀ w S, (∀ p ∈ ps', p.holds w S) → ∀ p ∈ ps, p.holds w S) (h : aC P n ops V W Z Q k L ⟨env, ps, hp⟩) : aC P n ops V W Z Q k L ⟨env, ps', hp⟩ := fun w S fp a hst he hn hd =>
 h w S fp a ⟨hp0 w S hst.per, hst.res, hst.lt, hst.dj, hst.slt⟩ he hn hd
theorem tp {β : Type} {v : β → Value} {p1 : β → Per} (i : Nat) (hi : ops[i]? = some ⟨some d, op, ty, pos, af, gd⟩) (hf : fC ops [] L i = true) (hc : guardOf ops env ⟨some d, op, ty, pos, af, gd⟩ = some true) (hd : fits n (some d) = true)
   (hq : j3 P (fun _ _ => True) n ⟨some d, op, ty, pos, af, gd⟩ ⟨env, ps, hp⟩ v (fun x => [p1 x])) (h : ∀ x, aC P n ops V W Z Q k (L.setIfInBounds i true) ⟨(d, true, v x) :: env, p1 x :: ps, hp⟩) : aC P n ops V W Z Q (k + 1) L ⟨env, ps, hp⟩ :=
 aau i hi hf true hc hd (fun _ => hq) (fun h => by cases h) fun x => aaf (fun w S hall p hp => by
   rcases List.mem_cons.1 hp with rfl | h2
   · exact hall _ (List.mem_cons_self) rfl
   · exact hall _ (List.mem_cons_of_mem _ h2)) (h x)
theorem eU {x : Operand} {U T : TypeId} {ag : Bool} {kk b o : Nat} {cs : List Value} {v : Value} (i r : Nat) (hi : ops[i]? = some ⟨some d, .load U x, ty, pos, af, gd⟩) (hf : fC ops W L i = true) (c : Bool) (hc : guardOf ops env ⟨some d, .load U x, ty, pos, af, gd⟩ = some c) (hd : fits n (some d) = true)
   (hb : Z.contains b = true) (hk : tyk P U = some (ag, kk)) (hx : c = true → ev env x = some (true, .pointer (some ⟨b, o, none⟩))) (hr : hp[r]? = some (Box b T cs)) (hv : rdC ag kk cs o = some v)
   (h : aC P n ops V W Z Q k (L.setIfInBounds i true) ⟨(d, c, v) :: env, ps, hp⟩) : aC P n ops V W Z Q (k + 1) L ⟨env, ps, hp⟩ := by
 refine jo (U := W) i hi hf c hc hd fun w S fp a hst he hn => ⟨fj (fun k => k ∈ Z), v, [], fun _ _ => fj.of_below, fun _ _ _ => fj.trans, fun _ _ _ hj h => h.2.1 hj, fun hc => ⟨fun w1 hw1 => ?_, fun _ h => (by cases h)⟩, h⟩
 have h1 := he.val (hx hc) rfl
 have hb0 := (hst.res r _ hr).1
 have hb1 : w1.heap[b]? = some (.cells cs.toArray T (0, 0)) := (hw1.block b (by simpa using hb) (lt_of_heap hb0)).trans hb0
 have : (execOp a.eval ⟨some d, .load U x, ty, pos, af, gd⟩).run P w1 = .ok (.value v) w1 := by
   unfold execOp; dsimp only; rw [h1]
   have := oR (w := w1) hk hv (b := b) (p := 0) (fun j u hu => by rw [Nat.zero_add, dM hb1]; exact hu)
   rw [Nat.zero_add] at this
   show ((loadVar U ⟨b, o, none⟩).bind fun r => Sem.pure (Next.value r)).run P w1 = _
   rw [Sem.run_bind', this]; rfl
 rw [this]; exact bY _ _
theorem l9 {v : Value} (i : Nat) (hi : ops[i]? = some ⟨some d, op, ty, pos, af, gd⟩) (hf : fC ops V L i = true) (c : Bool) (hc : guardOf ops env ⟨some d, op, ty, pos, af, gd⟩ = some c) (hd : fits n (some d) = true)
   (hq : c = true → Quiet P n ⟨some d, op, ty, pos, af, gd⟩ ⟨env, ps, hp⟩ v) (h : aC P n ops V W Z Q k (L.setIfInBounds i true) ⟨(d, c, v) :: env, ps, hp⟩) : aC P n ops V W Z Q (k + 1) L ⟨env, ps, hp⟩ :=
 jo (U := V) i hi hf c hc hd fun w S fp a hst he hn => ⟨fun w w1 => Below w.heap.size w w1, v, [], fun _ _ h => h, fun _ _ _ => dJ, fun _ _ _ hj h => h.1 hj,
   fun hc => ⟨fun w1 hw1 => hq hc w1 S fp a (hst.below hw1) he hn, fun _ h => (by cases h)⟩, h⟩
theorem iz {x : Operand} {kk : IntKind} {z z' : Int} (h : ev env x = some (true, .int kk z)) (e : z = z') : ev env x = some (true, .int kk z') := e ▸ h
theorem dy {ps' : List Per} {hp' : List Res} (hL : L = L') (h1 : ps = ps') (h0 : hp = hp') (h : aC P n ops V W Z Q k L' ⟨env, ps', hp'⟩) : aC P n ops V W Z Q k L ⟨env, ps, hp⟩ := hL ▸ h1 ▸ h0 ▸ h
end
end Go.Sy

namespace Go.Sy
open Go.RowKit Go.Lp Go.Sort
section
variable {α : Type} [Inhabited α]
def eW (enc : α → Value) (l : List α) : List (List D) := l.map fun x => [.v (enc x)]
omit [Inhabited α] in
theorem jU (enc : α → Value) (l : List α) : (eW enc l).length = l.length := by simp [eW]
theorem mU (enc : α → Value) (l : List α) : ∀ (cs sp : List Value), cs.length = l.length → putCells enc 0 l.toArray (cs ++ sp).toArray = (l.map enc ++ sp).toArray := by
 intro cs sp h
 apply Array.ext_getElem?
 intro k
 unfold putCells
 rw [Array.getElem?_mapIdx]
 simp only [List.getElem?_toArray, List.size_toArray, Nat.zero_le, true_and, Nat.zero_add, Nat.sub_zero]
 by_cases hk : k < l.length
 · rw [List.getElem?_append_left (by omega), List.getElem?_append_left (by simpa using hk), List.getElem?_map, List.getElem?_eq_getElem (by omega), List.getElem?_eq_getElem hk, Option.map_some, Option.map_some, if_pos hk]
   congr 2
   simp [hk]
 · rw [List.getElem?_append_right (by omega), List.getElem?_append_right (by simpa using hk)]
   rw [h, List.length_map]
   cases sp[k - l.length]? with
   | none => rfl
   | some x => simp [hk]
theorem xN {enc : α → Value} {w : World} {S F : bz} {v : Value} {T : TypeId} {zs : List α} (h : (bA v T 1 (eW enc zs)).holds w S F) :
   (v = .slice none 0 0 ∧ zs = []) ∨ ∃ b cap sp, v = .slice (some ⟨b, 0, none⟩) zs.length cap ∧ w.heap[b]? = some (.cells (zs.map enc ++ sp).toArray T (0, 0)) ∧ zs.length + sp.length = cap ∧ cap ≤ maxLen ∧ (∀ k, F k ↔ k = b) ∧ Holds enc w b 0 zs.toArray := by
 rcases h with ⟨h1, h2, _⟩ | ⟨b, cap, hv, ⟨cs, sp, hb, hr, hl, hle, hc⟩, hF⟩
 · left; exact ⟨h1, by unfold eW at h2; simpa using h2⟩
 · right
   have hlen := hr.len
   rw [jU, Nat.mul_one] at hlen
   have hcs : cs = zs.map enc := by
     apply List.ext_getElem?
     intro k
     by_cases hk : k < zs.length
     · obtain ⟨u, hu, hrep⟩ := hr.rep k 0 [.v (enc zs[k])] (.v (enc zs[k])) (by simp [eW, hk]) rfl
       rw [Nat.mul_one, Nat.add_zero] at hu
       cases hrep
       rw [hu, List.getElem?_map, List.getElem?_eq_getElem hk]; rfl
     · rw [List.getElem?_eq_none (by omega), List.getElem?_eq_none (by simpa using hk)]
   subst hcs
   refine ⟨b, cap, sp, by rw [hv, jU], hb, by simpa using hl, hc, hF, fun j hj => ?_⟩
   have hj' : j < zs.length := by simpa using hj
   refine ⟨?_, ?_⟩
   · rw [Nat.zero_add, dM hb, List.getElem?_append_left (by simpa using hj'), List.getElem?_map, List.getElem?_eq_getElem hj', Option.map_some]
     congr 2
     simp [hj']
   · unfold World.frozen?
     rw [hb]
     simp
end
end Go.Sy

namespace Go.Sy
open Go.RowKit Go.Lp
theorem St.split {w : World} {S : bz} {fp : Nat → bz} {ps : List Per} {hp : List Res} (h : St w S fp ps hp) {i : Nat} {R R' : Res} (hi : hp[i]? = some (lD R R')) :
   ∃ fp', St w S fp' ps (hp.set i R ++ [R']) ∧ ∀ b, tot fp' (hp.set i R ++ [R']).length b → tot fp hp.length b := by
 obtain ⟨G, H, h1, h2, h3, h4⟩ := h.res i _ hi
 have hil := (List.getElem?_eq_some_iff.1 hi).1
 have hG : ∀ b, G b → fp i b := fun b hb => (h4 b).2 (.inl hb)
 have hH : ∀ b, H b → fp i b := fun b hb => (h4 b).2 (.inr hb)
 have hlen : (hp.set i R ++ [R']).length = hp.length + 1 := by simp
 refine ⟨fun k => if k = i then G else if k = hp.length then H else fp k, ⟨h.per, fun k T hk => ?_, fun k hk b hb => ?_, fun k l hk hl hkl b hb hb' => ?_, h.slt⟩, fun b ⟨k, hk, hb⟩ => ?_⟩
 · by_cases hkl : k = hp.length
   · subst hkl
     rw [List.getElem?_append_right (by simp)] at hk
     simp at hk
     subst hk
     rw [if_neg (by omega), if_pos rfl]; exact h2
   · have hkl' : k < hp.length := by have := (List.getElem?_eq_some_iff.1 hk).1; rw [hlen] at this; omega
     rw [List.getElem?_append_left (by simpa using hkl')] at hk
     by_cases hki : k = i
     · subst hki
       rw [List.getElem?_set_self hil] at hk
       simp only [Option.some.injEq] at hk
       subst hk
       rw [if_pos rfl]; exact h1
     · rw [List.getElem?_set_ne (Ne.symm hki)] at hk
       rw [if_neg hki, if_neg hkl]; exact h.res k T hk
 · rw [hlen] at hk
   try dsimp only at hb
   split at hb
   · exact h.lt i hil b (hG b hb)
   · split at hb
     · exact h.lt i hil b (hH b hb)
     · exact h.lt k (by omega) b hb
 · rw [hlen] at hk hl
   try dsimp only at hb hb'
   split at hb
   · subst k
     rw [if_neg (Ne.symm hkl)] at hb'
     split at hb'
     · exact h3 b hb hb'
     · exact h.dj i l hil (by omega) hkl b (hG b hb) hb'
   · rename_i hki
     split at hb
     · subst k
       split at hb'
       · exact h3 b hb' hb
       · rw [if_neg (Ne.symm hkl)] at hb'
         exact h.dj i l hil (by omega) (by omega) b (hH b hb) hb'
     · rename_i hkn
       split at hb'
       · exact h.dj k i (by omega) hil hki b hb (hG b hb')
       · split at hb'
         · exact h.dj k i (by omega) hil hki b hb (hH b hb')
         · exact h.dj k l (by omega) (by omega) hkl b hb hb'
 · rw [hlen] at hk
   try dsimp only at hb
   split at hb
   · exact ⟨i, hil, hG b hb⟩
   · split at hb
     · exact ⟨i, hil, hH b hb⟩
     · exact ⟨k, by omega, hb⟩
section
variable {P : Program} {n : Fr} {env : Env} {ps : List Per} {hp : List Res} {c : Code} {Q : Exit → Sta → Prop}
theorem oq (i : Nat) {R R' : Res} (hi : hp[i]? = some (lD R R')) (h : awp P n c Q ⟨env, ps, hp.set i R ++ [R']⟩) : awp P n c Q ⟨env, ps, hp⟩ := rT (fun _ _ _ hst => hst.split hi) h
end
section
variable {P : Program} {n : Fr} {env : Env} {ps : List Per} {hp : List Res} {c : Code} {Q : Exit → Sta → Prop}
theorem fi (i : Nat) {R : Res} (R' : Res) (hi : hp[i]? = some R) (hc : ∀ w S F, R.holds w S F → R'.holds w S F) (h : awp P n c Q ⟨env, ps, hp.set i R'⟩) : awp P n c Q ⟨env, ps, hp⟩ := fun w S fp a hst he hn hd => by
 have hil := (List.getElem?_eq_some_iff.1 hi).1
 have := h w S fp a (hst.change hil (Nat.le_refl _) (fun _ _ _ => rfl) R' (hc _ _ _ (hst.res i R hi))) he hn hd
 rwa [show ({ env := env, ps := ps, hp := hp.set i R' } : Sta).hp.length = hp.length by simp] at this
end
end Go.Sy

