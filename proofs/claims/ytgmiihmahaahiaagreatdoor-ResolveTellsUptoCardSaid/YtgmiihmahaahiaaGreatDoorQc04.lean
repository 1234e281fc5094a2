/- Parts of the proof, in build order. No condition. -/
import Derived.Test.YtgmiihmahaahiaaGreatDoorQc03
import Derived.Test.YtgmiihmahaahiaaGreatDoorQc02
import Derived.Lib.UnsafeStr
import Derived.Lib.Builder
import Derived.MapKept
import Derived.Laws.StructEq
import Derived.Laws.Small
import Derived.ChangeKeysEq
set_option linter.unusedSimpArgs false
set_option linter.unusedVariables false
set_option maxHeartbeats 1000000
set_option maxRecDepth 20000
namespace Go.Sy
open Go.RowKit Go.Lp
section
variable {w : World} {S F : bz} {A B C R : Res}
theorem eF {v : Value} {T : TypeId} {sz : Nat} {rows : List (List D)} (hr : (bA v T sz rows).holds w S F) : ef w (fun b => S b ∨ F b) v (.sl rows) := by
 have hS : ∀ b, S b → (S b ∨ F b) := fun _ h => .inl h
 rcases hr with ⟨rfl, rfl, _⟩ | ⟨b, cap, rfl, ⟨cs, sp, hb, hrows, hl, hle, hcap⟩, hF⟩
 · exact .e none 0 (by unfold maxLen; omega)
 · refine .sl b 0 cap sz rows (fun i j => cs.getD (i * sz + j) undef) (.inr ((hF b).2 rfl)) hle hcap hrows.row (fun i j r d h1 h2 => ?_) (fun i j r d h1 h2 => ?_)
   · obtain ⟨u, hu, _⟩ := hrows.rep i j r d h1 h2
     have e : cs.getD (i * sz + j) undef = u := by simp [List.getD, hu]
     rw [e]
     refine ⟨?_, hrows.one u (List.mem_of_getElem? hu)⟩
     rw [Nat.zero_add, dM hb, List.getElem?_append_left (List.getElem?_eq_some_iff.1 hu).1]; exact hu
   · obtain ⟨u, hu, hr⟩ := hrows.rep i j r d h1 h2
     have e : cs.getD (i * sz + j) undef = u := by simp [List.getD, hu]
     rw [e]
     exact hr.mono (fun _ _ => rfl) hS
end
theorem ot {w : World} {S : bz} {fp : Nat → bz} {ps : List Per} {hp : List Res} (hst : St w S fp ps hp) (i : Nat) {R : Res} (hi : hp[i]? = some R) {p : Per} (h : ∀ w S F, R.holds w S F → p.holds w (fun b => S b ∨ F b)) :
   St w (fun b => S b ∨ fp i b) (fun k => if k = i then (fun _ => False) else fp k) (p :: ps) (hp.set i emp) := by
 have hil := (List.getElem?_eq_some_iff.1 hi).1
 have hr := hst.res i _ hi
 have hst0 := hst.drop i
 have hS : ∀ b, S b → (S b ∨ fp i b) := fun _ h => .inl h
 refine ⟨fun p' hp' => ?_, fun j R hj => R.mono (hst0.res j R hj) (fun _ _ => rfl) (fun _ _ => rfl) hS, fun j hj b hb => ?_, hst0.dj, fun b hb => hb.elim (hst.slt b) (fun h => (hst.lt i hil b h).1)⟩
 · rcases List.mem_cons.1 hp' with rfl | h2
   · exact h w S (fp i) hr
   · exact p'.mono (hst.per p' h2) (fun _ _ => rfl) hS
 · have hj' : j < hp.length := by simpa using hj
   by_cases hji : j = i
   · rw [if_pos hji] at hb; exact hb.elim
   · rw [if_neg hji] at hb
     exact ⟨(hst.lt j hj' b hb).1, fun h => h.elim (hst.lt j hj' b hb).2 (hst.dj j i hj' hil hji b hb)⟩
section
variable {P : Program} {n : Fr} {env : Env} {ps : List Per} {hp : List Res} {c : Code} {Q : Exit → Sta → Prop}
theorem fE (i : Nat) {R : Res} (p : Per) (hi : hp[i]? = some R) (h0 : ∀ w S F, R.holds w S F → p.holds w (fun b => S b ∨ F b)) (h : awp P n c Q ⟨env, p :: ps, hp.set i emp⟩) : awp P n c Q ⟨env, ps, hp⟩ := fun w S fp a hst he hn hd => by
 have hil := (List.getElem?_eq_some_iff.1 hi).1
 have h1 := ot hst i hi h0
 have htot : ∀ b, tot (fun k => if k = i then (fun _ => False) else fp k) (hp.set i emp).length b → tot fp hp.length b := fun b ⟨j, hj, hb⟩ => by
   dsimp only at hb
   by_cases hji : j = i
   · rw [if_pos hji] at hb; exact hb.elim
   · rw [if_neg hji] at hb; exact ⟨j, by simpa using hj, hb⟩
 have hE : Evo w S (tot fp hp.length) w (fun b => S b ∨ fp i b) := ⟨rfl, rfl, rfl, Nat.le_refl _, Nat.le_refl _, fun _ _ _ => rfl, fun _ h => .inl h, fun b hb => hb.elim .inl fun h => .inr (.inl ⟨i, hil, h⟩)⟩
 exact eB (fun e a2 w2 hp2 => hp2.trans hE (fun b hb => .inl (htot b hb))) (h w _ _ a h1 he hn hd)
theorem bL (i : Nat) {b : Nat} {T : TypeId} {cs : List Value} (hi : hp[i]? = some (Box b T cs)) (h1 : cs.all (·.oneCell') = true) (h : awp P n c Q ⟨env, At b 0 (cs.map D.v) :: ps, hp.set i emp⟩) : awp P n c Q ⟨env, ps, hp⟩ :=
 fE i (At b 0 (cs.map D.v)) hi (fun w S F ⟨hb, hF⟩ => ⟨.inr ((hF b).2 rfl), fun j d hj => by
   rw [List.getElem?_map] at hj
   cases hc : cs[j]? with
   | none => rw [hc] at hj; cases hj
   | some u =>
     rw [hc] at hj
     simp only [Option.map_some, Option.some.injEq] at hj
     exact ⟨u, by rw [Nat.zero_add, dM hb]; exact hc, List.all_eq_true.1 h1 u (List.mem_of_getElem? hc), by rw [← hj]; exact .v u⟩⟩) h
end
section
variable {α : Type} [Inhabited α] {enc : α → Value}
def yQ (vs : List Value) : List (List D) := vs.map fun v => [.v v]
@[simp] theorem zR (vs : List Value) : (yQ vs).length = vs.length := by simp [yQ]
variable {P : Program} {n : Fr} {env : Env} {ps : List Per} {hp : List Res} {c : Code} {Q : Exit → Sta → Prop} {vo : Value} {T E : TypeId} {l : List (List α)}
end
end Go.Sy

namespace Go.Sy
open Go.RowKit Go.Lp
def aap (D : Nat) : Deferred := { target := .collected D, args := #[] }
theorem Evo.putObj {w : World} {S X : bz} {l : Nat} {o : Obj} (hl : X l) : Evo w S X (w.putObj l o) S where
 os := rfl
 tape := rfl
 output := rfl
 size := by rw [World.putObj_size]; exact Nat.le_refl _
 drawn := Nat.le_refl _
 block b _ hx := World.putObj_heap_other (fun e => hx (by rw [e]; exact hl))
 more _ h := h
 new _ h := .inl h
theorem St.putObj {w : World} {S : bz} {fp : Nat → bz} {ps : List Per} {hp : List Res} (h : St w S fp ps hp) {i l : Nat} (hi : i < hp.length) (hl : fp i l) (o : Obj) (R : Res) (hR : R.holds (w.putObj l o) S (fp i)) : St (w.putObj l o) S fp ps (hp.set i R) :=
 h.change hi (by rw [World.putObj_size]; exact Nat.le_refl _) (fun b _ hb => World.putObj_heap_other (fun e => hb (by rw [e]; exact hl))) R hR

def aa5 (P : Program) (l : Nat) (args : List Value) (ps : List Per) (hp : List Res) (R : Value → List Per → List Res → Prop) : Prop :=
 ∀ (w : World) (S : bz) (fp : Nat → bz), St w S fp ps hp → fO P (fun v w' => ∃ ps' hp' S' fp', R v ps' hp' ∧ St w' S' fp' ps' hp' ∧ Evo w S (tot fp hp.length) w' S' ∧ ∀ b, tot fp' hp'.length b → tot fp hp.length b ∨ w.heap.size ≤ b) ((Instr.yield l args.toArray).run P w)
section
variable {P : Program} {n : Fr} {env : Env} {ps : List Per} {hp : List Res} {ty : TypeId} {pos : String} {af : Array Edge} {gd : Option (Nat × Bool)} {K : Sta → Prop} {d : Option Tmp}
end
def sQ (P : Program) (fn : Func) (R : Value → List Per → List Res → Prop) (w : World) (S X : bz) (e : Exit) (a' : Act) (w' : World) : Prop :=
 (e = .normal ∨ e = .ret) ∧ ∃ (v : Value) (ds : List Nat) (ps' : List Per) (hp' : List Res) (S' : bz) (fp' : Nat → bz), (∀ w2, (results fn a'.tmps).run P w2 = .ok v w2) ∧ a'.defers = ds.map aap ∧ ds.Nodup ∧ R v ps' hp' ∧ St w' S' fp' ps' hp' ∧ Evo w S X w' S' ∧ (∀ b, tot fp' hp'.length b → X b ∨ w.heap.size ≤ b) ∧
   ∀ D ∈ ds, w'.heap[D]? = some (.deferred (some [])) ∧ ¬ S' D ∧ ¬ tot fp' hp'.length D ∧ (X D ∨ w.heap.size ≤ D)
def fwp (P : Program) (fn : Func) (n : Fr) (c : Code) (R : Value → List Per → List Res → Prop) (s : Sta) : Prop :=
 ∀ (w : World) (S : bz) (fp : Nat → bz) (a : Act), St w S fp s.ps s.hp → c8 a s.env → a.tmps.size = n.size → a.defers = n.dfr → c.wpIn (fnc n.ro) 0 P (sQ P fn R w S (tot fp s.hp.length)) a w
section
variable {P : Program} {fn : Func} {n : Fr} {R : Value → List Per → List Res → Prop} {s : Sta}
theorem sQ.trans {w w1 : World} {S X S1 X1 : bz} (hE : Evo w S X w1 S1) (hX : ∀ b, X1 b → X b ∨ w.heap.size ≤ b) {e : Exit} {a : Act} {w2 : World} (h : sQ P fn R w1 S1 X1 e a w2) : sQ P fn R w S X e a w2 := by
 obtain ⟨he, v, ds, ps', hp', S', fp', h1, h2, h3, h4, h5, h6, h7, h8⟩ := h
 have hX' : ∀ b, X1 b ∨ w1.heap.size ≤ b → X b ∨ w.heap.size ≤ b := fun b hb => hb.elim (hX b) (fun h => .inr (Nat.le_trans hE.size h))
 exact ⟨he, v, ds, ps', hp', S', fp', h1, h2, h3, h4, h5, hE.trans h6 hX, fun b hb => hX' b (h7 b hb), fun D hD => let ⟨a1, a2, a3, a4⟩ := h8 D hD; ⟨a1, a2, a3, hX' D a4⟩⟩
end
end Go.Sy

namespace Go.Sy
open Go.RowKit Go.Lp
structure Sl (α : Type) where
 ad : Option Addr
 cap : Nat
 l : List α
instance {α : Type} : Inhabited (Sl α) := ⟨⟨none, 0, []⟩⟩
abbrev Sl.val {α : Type} (s : Sl α) : Value := .slice s.ad s.l.length s.cap
abbrev ShF {α : Type} (row : α → List D) (s : Sl α) : Per := Sh (.slice s.ad s.l.length s.cap) (.sl (s.l.map row))
def bP {α : Type} (p : α → Per) (l : List α) : Per := ⟨fun w S => ∀ x ∈ l, (p x).holds w S, fun h h1 h2 x hx => (p x).mono (h x hx) h1 h2⟩
def cx (p q : Per) : Per := ⟨fun w S => p.holds w S ∧ q.holds w S, fun h h1 h2 => ⟨p.mono h.1 h1 h2, q.mono h.2 h1 h2⟩⟩
section
variable {α : Type} {ps : List Per} {p q : Per}
theorem Ent.all {f : α → Per} {l : List α} {i : Nat} {x : α} (h : Ent ps (bP f l)) (hx : l[i]? = some x) : Ent ps (f x) := fun w S hp => h w S hp x (List.mem_of_getElem? hx)
theorem Ent.allm {f : α → Per} {l : List α} {x : α} (h : Ent ps (bP f l)) (hx : x ∈ l) : Ent ps (f x) := fun w S hp => h w S hp x hx
theorem Ent.left (h : Ent ps (cx p q)) : Ent ps p := fun w S hp => (h w S hp).1
theorem Ent.right (h : Ent ps (cx p q)) : Ent ps q := fun w S hp => (h w S hp).2
theorem Ent.yes {c : Bool} (h : Ent ps (cnd c p)) (hc : c = true) : Ent ps p := fun w S hp => h w S hp hc
theorem aJ {row : α → List D} {l : List α} {i : Nat} {x : α} (h : l[i]? = some x) : (l.map row)[i]? = some (row x) := by rw [List.getElem?_map, h]; rfl
end
theorem Con.quiet2 {P : Program} {v : Value} {f : FuncId} {args : List Value} {p q : Per} (h : Con P f args [p, q] [] fun u _ _ => u = v) {w : World} {S : bz} {fp : Nat → bz} {ps' : List Per} {hp : List Res} (hp1 : p ∈ ps') (hq1 : q ∈ ps') (hst : St w S fp ps' hp) :
   Calls P f args.toArray w fun e w' => e = .returned v ∧ Below w.heap.size w w' := h.quiet (fun _ h => by
     rcases List.mem_cons.1 h with rfl | h
     · exact hp1
     · rw [List.mem_singleton.1 h]; exact hq1) hst
theorem bd {P : Program} {n : Fr} {Q : Exit → Sta → Prop} {s : Sta} {c : Code} {ad : Option Addr} {m cp : Nat} {rows : List (List D)} (hs : Ent s.ps (Sh (.slice ad m cp) (.sl rows))) (h : m ≤ 9223372036854775807 → awp P n c Q s) : awp P n c Q s :=
 jx (fun w S fp hst => by
   have h : ef w S (.slice ad m cp) (.sl rows) := hs w S hst.per
   cases h with
   | e a c hc => simp
   | sl b o c sz rows us hb hn hc _ _ _ => unfold maxLen at hc; omega) h
theorem fo {P : Program} {n : Fr} {Q : Exit → Sta → Prop} {s : Sta} {c : Code} {v : Value} {rows : List (List D)} (hs : Ent s.ps (Sh v (.sl rows))) (h : ∀ ad k, v = .slice ad rows.length k → awp P n c Q s) : awp P n c Q s :=
 jx (φ := ∃ ad k, v = .slice ad rows.length k) (fun w S fp hst => by
   have h : ef w S v (.sl rows) := hs w S hst.per
   cases h with
   | e a c hc => exact ⟨_, _, rfl⟩
   | sl b o c sz rows us hb hn hc _ _ _ => exact ⟨_, _, rfl⟩) (fun ⟨ad, k, e⟩ => h ad k e)
theorem aal {P : Program} {n : Fr} {Q : Exit → Sta → Prop} {env : Env} {ps : List Per} {hp hp' : List Res} {c : Code} (h : hp = hp') (k : awp P n c Q ⟨env, ps, hp'⟩) : awp P n c Q ⟨env, ps, hp⟩ := h ▸ k
def elt {α : Type} [Inhabited α] (l : List α) (i : Int) : α := l.getD i.toNat default
theorem lV {α : Type} [Inhabited α] {l : List α} {i : Int} (h : i < l.length) (h0 : 0 ≤ i) : l[i.toNat]? = some (elt l i) := by
 have : i.toNat < l.length := by omega
 simp [elt, List.getD, this]
theorem bN {α : Type} [Inhabited α] {l : List α} {i : Nat} (h : i < l.length) : l[i]? = some (elt l (i : Int)) := by simp [elt, List.getD, h]
theorem cR {α : Type} [Inhabited α] {row : α → List D} {l : List α} {i : Int} (h : i < l.length) (h0 : 0 ≤ i) : (l.map row)[i.toNat]? = some (row (elt l i)) := aJ (lV h h0)
end Go.Sy

namespace Go.Sy
open Go.RowKit Go.Lp
def fe (s : ByteArray) : Per := Fa (s.size ≤ maxLen)
section
variable {P : Program} {n : Fr} {env : Env} {ps : List Per} {hp : List Res} {c : Code} {Q : Exit → Sta → Prop}
theorem zc {φ : Prop} (h : Ent ps (Fa φ)) (k : φ → awp P n c Q ⟨env, ps, hp⟩) : awp P n c Q ⟨env, ps, hp⟩ := fun w S fp a hst he hn hd => k (h w S hst.per) w S fp a hst he hn hd
theorem eR {s : ByteArray} (h : Ent ps (fe s)) (k : s.size ≤ maxLen → awp P n c Q ⟨env, ps, hp⟩) : awp P n c Q ⟨env, ps, hp⟩ := zc h k
end
end Go.Sy

namespace Go.Sy
open Go.RowKit Go.Lp
def fl (w : World) (S : bz) (us : List Value) (ds : List D) : Prop := us.length = ds.length ∧ ∀ (j : Nat) (d : D), ds[j]? = some d → ∃ u, us[j]? = some u ∧ ef w S u d
theorem fl.nil {w : World} {S : bz} {us : List Value} (h : fl w S us []) : us = [] := List.eq_nil_of_length_eq_zero h.1
theorem fl.cons {w : World} {S : bz} {us : List Value} {d : D} {ds : List D} (h : fl w S us (d :: ds)) : ∃ u us', us = u :: us' ∧ ef w S u d ∧ fl w S us' ds := by
 cases us with
 | nil => have := h.1; simp at this
 | cons u us =>
   obtain ⟨u', h1, h2⟩ := h.2 0 d rfl
   simp only [List.getElem?_cons_zero, Option.some.injEq] at h1
   subst h1
   exact ⟨u, us, rfl, h2, by simpa using h.1, fun j e hj => by have := h.2 (j + 1) e (by simpa using hj); simpa using this⟩
theorem rK {w : World} {cs : List Value} {ds : List D} (hl : ds.length = cs.length) (h : Rds w cs 0 ds) : fl w (fun b => b < w.heap.size) cs ds := ⟨hl.symm, fun j d hj => by
 obtain ⟨u, h1, _, h2⟩ := h j d hj
 rw [Nat.zero_add] at h1
 exact ⟨u, h1, h2⟩⟩
theorem eA {α : Type} [Inhabited α] {row : α → List D} {ok : α → Per} {w : World} {S : bz} {v : Value} {rows : List (List D)} (h : ef w S v (.sl rows))
   (hf : ∀ r ∈ rows, ∀ us : List Value, fl w S us r → ∃ y : α, row y = us.map D.v ∧ (ok y).holds w S) : ∃ s : Sl α, v = s.val ∧ (ShF row s).holds w S ∧ (bP ok s.l).holds w S := by
 cases h with
 | e a c hc => exact ⟨⟨a, c, []⟩, rfl, .e a c hc, fun y hy => by cases hy⟩
 | sl b o c sz _ us hb hn hc hrl hcell hd =>
   have each : ∀ i : Nat, ∃ y : α, i < rows.length → row y = ((List.range sz).map fun j => us i j).map D.v ∧ (ok y).holds w S := fun i => by
     by_cases hi : i < rows.length
     · obtain ⟨r, hr⟩ : ∃ r, rows[i]? = some r := ⟨_, List.getElem?_eq_getElem hi⟩
       obtain ⟨y, h1, h2⟩ := hf r (List.mem_of_getElem? hr) ((List.range sz).map fun j => us i j) ⟨by simp [hrl i r hr], fun j d hj => by
         have hjl := (List.getElem?_eq_some_iff.1 hj).1
         rw [hrl i r hr] at hjl
         exact ⟨us i j, by rw [List.getElem?_map, List.getElem?_range hjl]; rfl, hd i j r d hr hj⟩⟩
       exact ⟨y, fun _ => ⟨h1, h2⟩⟩
     · exact ⟨default, fun h => absurd h hi⟩
   obtain ⟨Y, hY⟩ := Classical.skolem.1 each
   have hget : ∀ (i : Nat) (r : List D), (((List.range rows.length).map Y).map row)[i]? = some r → i < rows.length ∧ r = ((List.range sz).map fun j => us i j).map D.v := fun i r hi => by
     rw [List.getElem?_map, List.getElem?_map] at hi
     by_cases hil : i < rows.length
     · rw [List.getElem?_range hil] at hi
       simp only [Option.map_some, Option.some.injEq] at hi
       exact ⟨hil, by rw [← hi]; exact (hY i hil).1⟩
     · rw [List.getElem?_eq_none (by simpa using hil)] at hi; cases hi
   have hcl : ∀ (i j : Nat) (r : List D) (d : D), (((List.range rows.length).map Y).map row)[i]? = some r → r[j]? = some d → ∃ r0 d0, rows[i]? = some r0 ∧ r0[j]? = some d0 ∧ d = .v (us i j) := fun i j r d hi hj => by
     obtain ⟨hil, rfl⟩ := hget i r hi
     obtain ⟨r0, hr0⟩ : ∃ r, rows[i]? = some r := ⟨_, List.getElem?_eq_getElem hil⟩
     have hjl := (List.getElem?_eq_some_iff.1 hj).1
     rw [List.length_map, List.length_map, List.length_range] at hjl
     rw [List.getElem?_map, List.getElem?_map, List.getElem?_range hjl] at hj
     simp only [Option.map_some, Option.some.injEq] at hj
     exact ⟨r0, _, hr0, List.getElem?_eq_getElem (by rw [hrl i r0 hr0]; exact hjl), hj.symm⟩
   refine ⟨⟨some ⟨b, o, none⟩, c, (List.range rows.length).map Y⟩, by simp [Sl.val], ?_, fun y hy => ?_⟩
   · have h := ef.sl (w := w) (S := S) b o c sz (((List.range rows.length).map Y).map row) us hb (by simpa using hn) hc (fun i r hi => by obtain ⟨_, rfl⟩ := hget i r hi; simp)
       (fun i j r d hi hj => by obtain ⟨r0, d0, h1, h2, _⟩ := hcl i j r d hi hj; exact hcell i j r0 d0 h1 h2) (fun i j r d hi hj => by obtain ⟨_, _, _, _, rfl⟩ := hcl i j r d hi hj; exact .v _)
     rw [List.length_map, List.length_map, List.length_range] at h
     show ef w S (.slice (some ⟨b, o, none⟩) ((List.range rows.length).map Y).length c) (.sl (((List.range rows.length).map Y).map row))
     rw [List.length_map, List.length_range]; exact h
   · obtain ⟨i, hi, rfl⟩ := List.mem_map.1 hy
     exact (hY i (List.mem_range.1 hi)).2
section
variable {P : Program} {k : Nat} {t e : TypeId} {w : World} {S : bz} {us : List Value} {ds : List D}
theorem zL (hu : P.underlying t = some (.int .i64)) (h : okD P (k + 1) t ds) (hr : fl w S us ds) : ∃ z : Int, [D.v (.int .i64 z)] = us.map D.v ∧ (Fa True).holds w S := by
 obtain ⟨n, rfl, _⟩ := ca hu h
 obtain ⟨u, _, rfl, r, hr⟩ := hr.cons
 obtain rfl := hr.nil; obtain rfl := bK r
 exact ⟨n, rfl, trivial⟩
theorem zr (hu : P.underlying t = some .string) (h : okD P (k + 1) t ds) (hr : fl w S us ds) : ∃ s : ByteArray, [D.v (.string s)] = us.map D.v ∧ (fe s).holds w S := by
 obtain ⟨n, rfl, hz⟩ := cK hu h
 obtain ⟨u, _, rfl, r, hr⟩ := hr.cons
 obtain rfl := hr.nil; obtain rfl := bK r
 exact ⟨n, rfl, hz⟩
theorem zT {α : Type} [Inhabited α] {row : α → List D} {ok : α → Per} (hu : P.underlying t = some (.slice e)) (h : okD P (k + 1) t ds) (hr : fl w S us ds) (hf : ∀ r, okD P k e r → ∀ us, fl w S us r → ∃ y : α, row y = us.map D.v ∧ (ok y).holds w S) :
   ∃ s : Sl α, [D.v s.val] = us.map D.v ∧ (cx (ShF row s) (bP ok s.l)).holds w S := by
 obtain ⟨rows, rfl, _, hrows⟩ := cQ hu h
 obtain ⟨u, _, rfl, r, hr⟩ := hr.cons
 obtain rfl := hr.nil
 obtain ⟨s, rfl, h1, h2⟩ := eA (row := row) (ok := ok) r fun r hr us hu => hf r (hrows r hr) us hu
 exact ⟨s, rfl, h1, h2⟩
theorem zK {a b : List Value} (h : a.map D.v = b.map D.v) : a = b := by
 induction a generalizing b with
 | nil => cases b with
   | nil => rfl
   | cons => simp at h
 | cons x a ih => cases b with
   | nil => simp at h
   | cons y b =>
     simp only [List.map_cons, List.cons.injEq, D.v.injEq] at h
     rw [h.1, ih h.2]
end
end Go.Sy

namespace Go.Proofs.YtgmiihmahaahiaaGreatDoor
open Go.RowKit Go.Lp Go.Sy
structure aH where
 name : ByteArray
 parents : Sl ByteArray
 deriving Inhabited
abbrev aH.row (x : aH) : List D := [.v (.string x.name), .v (.slice x.parents.ad x.parents.l.length x.parents.cap)]
def aH.ok (x : aH) : Per := cx (fe x.name) (cx (ShF (fun s => [.v (.string s)]) x.parents) (bP (fun y => fe y) x.parents.l))
theorem aH.f_parents {ps : List Per} {x : aH} (h : Ent ps x.ok) : Ent ps (ShF (fun s => [.v (.string s)]) x.parents) := (Ent.left (Ent.right h))
structure xV where
 name : ByteArray
 lib : Bool
 objs : Sl ByteArray
 needs : Sl ByteArray
 entry : ByteArray
 spare : Int
 versions : Sl aH
 deriving Inhabited
structure bH where
 name : ByteArray
 kind : Int
 align : Int
 size : Int
 bytes : ByteArray
 keep : Bool
 deriving Inhabited
abbrev bH.row (x : bH) : List D := [.v (.string x.name), .v (.int .i64 x.kind), .v (.int .i64 x.align), .v (.int .i64 x.size), .v (.string x.bytes), .v (.bool x.keep)]
abbrev bH.vs (x : bH) : List Value := [.string x.name, .int .i64 x.kind, .int .i64 x.align, .int .i64 x.size, .string x.bytes, .bool x.keep]
abbrev bH.val (x : bH) : Value := .agg #[.string x.name, .int .i64 x.kind, .int .i64 x.align, .int .i64 x.size, .string x.bytes, .bool x.keep]
def bH.ok (x : bH) : Per := cx (fe x.name) (fe x.bytes)
theorem bH.f_name {ps : List Per} {x : bH} (h : Ent ps x.ok) : Ent ps (fe x.name) := (Ent.left h)
theorem bH.f_bytes {ps : List Per} {x : bH} (h : Ent ps x.ok) : Ent ps (fe x.bytes) := (Ent.right h)
structure bg where
 name : ByteArray
 version : ByteArray
 main : Bool
 bind : Int
 vis : Int
 kind : Int
 sec : Int
 at_ : Int
 size : Int
 align : Int
 deriving Inhabited
abbrev bg.row (x : bg) : List D := [.v (.string x.name), .v (.string x.version), .v (.bool x.main), .v (.int .i64 x.bind), .v (.int .i64 x.vis), .v (.int .i64 x.kind), .v (.int .i64 x.sec), .v (.int .i64 x.at_), .v (.int .i64 x.size), .v (.int .i64 x.align)]
abbrev bg.vs (x : bg) : List Value := [.string x.name, .string x.version, .bool x.main, .int .i64 x.bind, .int .i64 x.vis, .int .i64 x.kind, .int .i64 x.sec, .int .i64 x.at_, .int .i64 x.size, .int .i64 x.align]
abbrev bg.val (x : bg) : Value := .agg #[.string x.name, .string x.version, .bool x.main, .int .i64 x.bind, .int .i64 x.vis, .int .i64 x.kind, .int .i64 x.sec, .int .i64 x.at_, .int .i64 x.size, .int .i64 x.align]
def bg.ok (x : bg) : Per := cx (fe x.name) (fe x.version)
theorem bg.f_name {ps : List Per} {x : bg} (h : Ent ps x.ok) : Ent ps (fe x.name) := (Ent.left h)
theorem bg.f_version {ps : List Per} {x : bg} (h : Ent ps x.ok) : Ent ps (fe x.version) := (Ent.right h)
structure fU where
 sec : Int
 at_ : Int
 kind : Int
 sym : Int
 add : Int
 deriving Inhabited
abbrev fU.row (x : fU) : List D := [.v (.int .i64 x.sec), .v (.int .i64 x.at_), .v (.int .i64 x.kind), .v (.int .i64 x.sym), .v (.int .i64 x.add)]
abbrev fU.val (x : fU) : Value := .agg #[.int .i64 x.sec, .int .i64 x.at_, .int .i64 x.kind, .int .i64 x.sym, .int .i64 x.add]
structure cS where
 name : ByteArray
 secs : Sl Int
 deriving Inhabited
abbrev cS.row (x : cS) : List D := [.v (.string x.name), .v (.slice x.secs.ad x.secs.l.length x.secs.cap)]
abbrev cS.vs (x : cS) : List Value := [.string x.name, .slice x.secs.ad x.secs.l.length x.secs.cap]
abbrev cS.val (x : cS) : Value := .agg #[.string x.name, .slice x.secs.ad x.secs.l.length x.secs.cap]
def cS.ok (x : cS) : Per := cx (fe x.name) (ShF (fun z => [.v (.int .i64 z)]) x.secs)
theorem cS.f_name {ps : List Per} {x : cS} (h : Ent ps x.ok) : Ent ps (fe x.name) := (Ent.left h)
theorem cS.f_secs {ps : List Per} {x : cS} (h : Ent ps x.ok) : Ent ps (ShF (fun z => [.v (.int .i64 z)]) x.secs) := (Ent.right h)
structure eQ where
 sym : Int
 order : Int
 last : Bool
 deriving Inhabited
abbrev eQ.row (x : eQ) : List D := [.v (.int .i64 x.sym), .v (.int .i64 x.order), .v (.bool x.last)]
abbrev eQ.val (x : eQ) : Value := .agg #[.int .i64 x.sym, .int .i64 x.order, .bool x.last]
structure dA where
 sec : Int
 at_ : Int
 file : ByteArray
 line : Int
 deriving Inhabited
abbrev dA.row (x : dA) : List D := [.v (.int .i64 x.sec), .v (.int .i64 x.at_), .v (.string x.file), .v (.int .i64 x.line)]
abbrev dA.val (x : dA) : Value := .agg #[.int .i64 x.sec, .int .i64 x.at_, .string x.file, .int .i64 x.line]
def dA.ok (x : dA) : Per := fe x.file
theorem dA.f_file {ps : List Per} {x : dA} (h : Ent ps x.ok) : Ent ps (fe x.file) := h
structure cg where
 sec : Int
 from_ : Int
 to_ : Int
 name : ByteArray
 file : ByteArray
 line : Int
 deriving Inhabited
abbrev cg.row (x : cg) : List D := [.v (.int .i64 x.sec), .v (.int .i64 x.from_), .v (.int .i64 x.to_), .v (.string x.name), .v (.string x.file), .v (.int .i64 x.line)]
abbrev cg.vs (x : cg) : List Value := [.int .i64 x.sec, .int .i64 x.from_, .int .i64 x.to_, .string x.name, .string x.file, .int .i64 x.line]
abbrev cg.val (x : cg) : Value := .agg #[.int .i64 x.sec, .int .i64 x.from_, .int .i64 x.to_, .string x.name, .string x.file, .int .i64 x.line]
def cg.ok (x : cg) : Per := cx (fe x.name) (fe x.file)
theorem cg.f_name {ps : List Per} {x : cg} (h : Ent ps x.ok) : Ent ps (fe x.name) := (Ent.left h)
theorem cg.f_file {ps : List Per} {x : cg} (h : Ent ps x.ok) : Ent ps (fe x.file) := (Ent.right h)
structure eH where
 sec : Int
 from_ : Int
 to_ : Int
 name : ByteArray
 where_ : Int
 n : Int
 deriving Inhabited
abbrev eH.row (x : eH) : List D := [.v (.int .i64 x.sec), .v (.int .i64 x.from_), .v (.int .i64 x.to_), .v (.string x.name), .v (.int .i64 x.where_), .v (.int .i64 x.n)]
abbrev eH.val (x : eH) : Value := .agg #[.int .i64 x.sec, .int .i64 x.from_, .int .i64 x.to_, .string x.name, .int .i64 x.where_, .int .i64 x.n]
def eH.ok (x : eH) : Per := fe x.name
theorem eH.f_name {ps : List Per} {x : eH} (h : Ent ps x.ok) : Ent ps (fe x.name) := h
structure dD where
 sec : Int
 from_ : Int
 to_ : Int
 bytes : Int
 deriving Inhabited
abbrev dD.row (x : dD) : List D := [.v (.int .i64 x.sec), .v (.int .i64 x.from_), .v (.int .i64 x.to_), .v (.int .i64 x.bytes)]
abbrev dD.val (x : dD) : Value := .agg #[.int .i64 x.sec, .int .i64 x.from_, .int .i64 x.to_, .int .i64 x.bytes]
structure dC where
 from_ : Int
 size : Int
 to_ : Int
 deriving Inhabited
abbrev dC.row (x : dC) : List D := [.v (.int .i64 x.from_), .v (.int .i64 x.size), .v (.int .i64 x.to_)]
abbrev dC.val (x : dC) : Value := .agg #[.int .i64 x.from_, .int .i64 x.size, .int .i64 x.to_]
structure bZ where
 sec : Int
 from_ : ByteArray
 pieces : Sl dC
 code : Int
 deriving Inhabited
abbrev bZ.row (x : bZ) : List D := [.v (.int .i64 x.sec), .v (.string x.from_), .v (.slice x.pieces.ad x.pieces.l.length x.pieces.cap), .v (.int .i64 x.code)]
abbrev bZ.val (x : bZ) : Value := .agg #[.int .i64 x.sec, .string x.from_, .slice x.pieces.ad x.pieces.l.length x.pieces.cap, .int .i64 x.code]
def bZ.ok (x : bZ) : Per := cx (fe x.from_) (ShF (dC.row) x.pieces)
theorem bZ.f_pieces {ps : List Per} {x : bZ} (h : Ent ps x.ok) : Ent ps (ShF (dC.row) x.pieces) := (Ent.right h)
structure ax where
 name : ByteArray
 secs : Sl bH
 syms : Sl bg
 rels : Sl fU
 groups : Sl cS
 inits : Sl eQ
 lines : Sl dA
 inlines : Sl cg
 vars : Sl eH
 depths : Sl dD
 converts : Sl bZ
 deriving Inhabited
abbrev ax.row (x : ax) : List D := [.v (.string x.name), .v (.slice x.secs.ad x.secs.l.length x.secs.cap), .v (.slice x.syms.ad x.syms.l.length x.syms.cap), .v (.slice x.rels.ad x.rels.l.length x.rels.cap), .v (.slice x.groups.ad x.groups.l.length x.groups.cap), .v (.slice x.inits.ad x.inits.l.length x.inits.cap), .v (.slice x.lines.ad x.lines.l.length x.lines.cap), .v (.slice x.inlines.ad x.inlines.l.length x.inlines.cap), .v (.slice x.vars.ad x.vars.l.length x.vars.cap), .v (.slice x.depths.ad x.depths.l.length x.depths.cap), .v (.slice x.converts.ad x.converts.l.length x.converts.cap)]
abbrev ax.vs (x : ax) : List Value := [.string x.name, .slice x.secs.ad x.secs.l.length x.secs.cap, .slice x.syms.ad x.syms.l.length x.syms.cap, .slice x.rels.ad x.rels.l.length x.rels.cap, .slice x.groups.ad x.groups.l.length x.groups.cap, .slice x.inits.ad x.inits.l.length x.inits.cap, .slice x.lines.ad x.lines.l.length x.lines.cap, .slice x.inlines.ad x.inlines.l.length x.inlines.cap, .slice x.vars.ad x.vars.l.length x.vars.cap, .slice x.depths.ad x.depths.l.length x.depths.cap, .slice x.converts.ad x.converts.l.length x.converts.cap]
abbrev ax.val (x : ax) : Value := .agg #[.string x.name, .slice x.secs.ad x.secs.l.length x.secs.cap, .slice x.syms.ad x.syms.l.length x.syms.cap, .slice x.rels.ad x.rels.l.length x.rels.cap, .slice x.groups.ad x.groups.l.length x.groups.cap, .slice x.inits.ad x.inits.l.length x.inits.cap, .slice x.lines.ad x.lines.l.length x.lines.cap, .slice x.inlines.ad x.inlines.l.length x.inlines.cap, .slice x.vars.ad x.vars.l.length x.vars.cap, .slice x.depths.ad x.depths.l.length x.depths.cap, .slice x.converts.ad x.converts.l.length x.converts.cap]
def ax.ok (x : ax) : Per := cx (fe x.name) (cx (ShF (bH.row) x.secs) (cx (bP (fun y => bH.ok y) x.secs.l) (cx (ShF (bg.row) x.syms) (cx (bP (fun y => bg.ok y) x.syms.l) (cx (ShF (fU.row) x.rels) (cx (ShF (cS.row) x.groups) (cx (bP (fun y => cS.ok y) x.groups.l) (cx (ShF (eQ.row) x.inits) (cx (ShF (dA.row) x.lines) (cx (bP (fun y => dA.ok y) x.lines.l) (cx (ShF (cg.row) x.inlines) (cx (bP (fun y => cg.ok y) x.inlines.l) (cx (ShF (eH.row) x.vars) (cx (bP (fun y => eH.ok y) x.vars.l) (cx (ShF (dD.row) x.depths) (cx (ShF (bZ.row) x.converts) (bP (fun y => bZ.ok y) x.converts.l)))))))))))))))))
theorem ax.f_name {ps : List Per} {x : ax} (h : Ent ps x.ok) : Ent ps (fe x.name) := (Ent.left h)
theorem ax.f_secs {ps : List Per} {x : ax} (h : Ent ps x.ok) : Ent ps (ShF (bH.row) x.secs) := (Ent.left (Ent.right h))
theorem ax.f_secsA {ps : List Per} {x : ax} (h : Ent ps x.ok) : Ent ps (bP (fun y => bH.ok y) x.secs.l) := (Ent.left (Ent.right (Ent.right h)))
theorem ax.f_syms {ps : List Per} {x : ax} (h : Ent ps x.ok) : Ent ps (ShF (bg.row) x.syms) := (Ent.left (Ent.right (Ent.right (Ent.right h))))
theorem ax.f_symsA {ps : List Per} {x : ax} (h : Ent ps x.ok) : Ent ps (bP (fun y => bg.ok y) x.syms.l) := (Ent.left (Ent.right (Ent.right (Ent.right (Ent.right h)))))
theorem ax.f_rels {ps : List Per} {x : ax} (h : Ent ps x.ok) : Ent ps (ShF (fU.row) x.rels) := (Ent.left (Ent.right (Ent.right (Ent.right (Ent.right (Ent.right h))))))
theorem ax.f_groups {ps : List Per} {x : ax} (h : Ent ps x.ok) : Ent ps (ShF (cS.row) x.groups) := (Ent.left (Ent.right (Ent.right (Ent.right (Ent.right (Ent.right (Ent.right h)))))))
theorem ax.f_groupsA {ps : List Per} {x : ax} (h : Ent ps x.ok) : Ent ps (bP (fun y => cS.ok y) x.groups.l) := (Ent.left (Ent.right (Ent.right (Ent.right (Ent.right (Ent.right (Ent.right (Ent.right h))))))))
theorem ax.f_inits {ps : List Per} {x : ax} (h : Ent ps x.ok) : Ent ps (ShF (eQ.row) x.inits) := (Ent.left (Ent.right (Ent.right (Ent.right (Ent.right (Ent.right (Ent.right (Ent.right (Ent.right h)))))))))
theorem ax.f_lines {ps : List Per} {x : ax} (h : Ent ps x.ok) : Ent ps (ShF (dA.row) x.lines) := (Ent.left (Ent.right (Ent.right (Ent.right (Ent.right (Ent.right (Ent.right (Ent.right (Ent.right (Ent.right h))))))))))
theorem ax.f_linesA {ps : List Per} {x : ax} (h : Ent ps x.ok) : Ent ps (bP (fun y => dA.ok y) x.lines.l) := (Ent.left (Ent.right (Ent.right (Ent.right (Ent.right (Ent.right (Ent.right (Ent.right (Ent.right (Ent.right (Ent.right h)))))))))))
theorem ax.f_inlines {ps : List Per} {x : ax} (h : Ent ps x.ok) : Ent ps (ShF (cg.row) x.inlines) := (Ent.left (Ent.right (Ent.right (Ent.right (Ent.right (Ent.right (Ent.right (Ent.right (Ent.right (Ent.right (Ent.right (Ent.right h))))))))))))
theorem ax.f_inlinesA {ps : List Per} {x : ax} (h : Ent ps x.ok) : Ent ps (bP (fun y => cg.ok y) x.inlines.l) := (Ent.left (Ent.right (Ent.right (Ent.right (Ent.right (Ent.right (Ent.right (Ent.right (Ent.right (Ent.right (Ent.right (Ent.right (Ent.right h)))))))))))))
theorem ax.f_vars {ps : List Per} {x : ax} (h : Ent ps x.ok) : Ent ps (ShF (eH.row) x.vars) := (Ent.left (Ent.right (Ent.right (Ent.right (Ent.right (Ent.right (Ent.right (Ent.right (Ent.right (Ent.right (Ent.right (Ent.right (Ent.right (Ent.right h))))))))))))))
theorem ax.f_varsA {ps : List Per} {x : ax} (h : Ent ps x.ok) : Ent ps (bP (fun y => eH.ok y) x.vars.l) := (Ent.left (Ent.right (Ent.right (Ent.right (Ent.right (Ent.right (Ent.right (Ent.right (Ent.right (Ent.right (Ent.right (Ent.right (Ent.right (Ent.right (Ent.right h)))))))))))))))
theorem ax.f_depths {ps : List Per} {x : ax} (h : Ent ps x.ok) : Ent ps (ShF (dD.row) x.depths) := (Ent.left (Ent.right (Ent.right (Ent.right (Ent.right (Ent.right (Ent.right (Ent.right (Ent.right (Ent.right (Ent.right (Ent.right (Ent.right (Ent.right (Ent.right (Ent.right h))))))))))))))))
theorem ax.f_converts {ps : List Per} {x : ax} (h : Ent ps x.ok) : Ent ps (ShF (bZ.row) x.converts) := (Ent.left (Ent.right (Ent.right (Ent.right (Ent.right (Ent.right (Ent.right (Ent.right (Ent.right (Ent.right (Ent.right (Ent.right (Ent.right (Ent.right (Ent.right (Ent.right (Ent.right h)))))))))))))))))
theorem ax.f_convertsA {ps : List Per} {x : ax} (h : Ent ps x.ok) : Ent ps (bP (fun y => bZ.ok y) x.converts.l) := (Ent.right (Ent.right (Ent.right (Ent.right (Ent.right (Ent.right (Ent.right (Ent.right (Ent.right (Ent.right (Ent.right (Ent.right (Ent.right (Ent.right (Ent.right (Ent.right (Ent.right h)))))))))))))))))
structure aO where
 kind : Int
 obj : Int
 sym : Int
 lib : Int
 why : Int
 open_ : Bool
 deriving Inhabited
abbrev aO.row (x : aO) : List D := [.v (.int .i64 x.kind), .v (.int .i64 x.obj), .v (.int .i64 x.sym), .v (.int .i64 x.lib), .v (.int .i64 x.why), .v (.bool x.open_)]
abbrev aO.vs (x : aO) : List Value := [.int .i64 x.kind, .int .i64 x.obj, .int .i64 x.sym, .int .i64 x.lib, .int .i64 x.why, .bool x.open_]
abbrev aO.val (x : aO) : Value := .agg #[.int .i64 x.kind, .int .i64 x.obj, .int .i64 x.sym, .int .i64 x.lib, .int .i64 x.why, .bool x.open_]
structure aaw where
 obj : Int
 sec : Int
 deriving Inhabited
structure aa4 where
 from_ : Int
 to_ : Int
 deriving Inhabited
structure aaV where
 r : xV
 objs : Sl ax
 keep : Sl (Sl Bool)
 choices : Sl (Sl aO)
 first : Sl Int
 count : Int
 deriving Inhabited
end Go.Proofs.YtgmiihmahaahiaaGreatDoor

namespace Go.Proofs.YtgmiihmahaahiaaGreatDoor
open Go.RowKit Go.Lp Go.Sy
structure cP where
 name : ByteArray
 version : ByteArray
 main : Bool
 kind : Int
 at_ : Int
 size : Int
 deriving Inhabited
abbrev cP.row (x : cP) : List D := [.v (.string x.name), .v (.string x.version), .v (.bool x.main), .v (.int .i64 x.kind), .v (.int .i64 x.at_), .v (.int .i64 x.size)]
abbrev cP.val (x : cP) : Value := .agg #[.string x.name, .string x.version, .bool x.main, .int .i64 x.kind, .int .i64 x.at_, .int .i64 x.size]
def cP.ok (x : cP) : Per := cx (fe x.name) (fe x.version)
structure bC where
 name : ByteArray
 exports : Sl cP
 versions : Sl aH
 deriving Inhabited
abbrev bC.row (x : bC) : List D := [.v (.string x.name), .v (.slice x.exports.ad x.exports.l.length x.exports.cap), .v (.slice x.versions.ad x.versions.l.length x.versions.cap)]
abbrev bC.val (x : bC) : Value := .agg #[.string x.name, .slice x.exports.ad x.exports.l.length x.exports.cap, .slice x.versions.ad x.versions.l.length x.versions.cap]
def bC.ok (x : bC) : Per := cx (fe x.name) (cx (ShF (cP.row) x.exports) (cx (bP (fun y => cP.ok y) x.exports.l) (cx (ShF (aH.row) x.versions) (bP (fun y => aH.ok y) x.versions.l))))
theorem bC.f_exports {ps : List Per} {x : bC} (h : Ent ps x.ok) : Ent ps (ShF (cP.row) x.exports) := (Ent.left (Ent.right h))
theorem bC.f_versions {ps : List Per} {x : bC} (h : Ent ps x.ok) : Ent ps (ShF (aH.row) x.versions) := (Ent.left (Ent.right (Ent.right (Ent.right h))))
theorem bC.f_versionsA {ps : List Per} {x : bC} (h : Ent ps x.ok) : Ent ps (bP (fun y => aH.ok y) x.versions.l) := (Ent.right (Ent.right (Ent.right (Ent.right h))))
structure aD where
 obj : Int
 sym : Int
 deriving Inhabited
abbrev aD.row (x : aD) : List D := [.v (.int .i64 x.obj), .v (.int .i64 x.sym)]
abbrev aD.vs (x : aD) : List Value := [.int .i64 x.obj, .int .i64 x.sym]
abbrev aD.val (x : aD) : Value := .agg #[.int .i64 x.obj, .int .i64 x.sym]
structure bk where
 name : ByteArray
 version : ByteArray
 main : Bool
 kind : Int
 obj : Int
 sym : Int
 common : Bool
 deriving Inhabited
abbrev bk.row (x : bk) : List D := [.v (.string x.name), .v (.string x.version), .v (.bool x.main), .v (.int .i64 x.kind), .v (.int .i64 x.obj), .v (.int .i64 x.sym), .v (.bool x.common)]
abbrev bk.vs (x : bk) : List Value := [.string x.name, .string x.version, .bool x.main, .int .i64 x.kind, .int .i64 x.obj, .int .i64 x.sym, .bool x.common]
abbrev bk.val (x : bk) : Value := .agg #[.string x.name, .string x.version, .bool x.main, .int .i64 x.kind, .int .i64 x.obj, .int .i64 x.sym, .bool x.common]
structure aa3 where
 name : ByteArray
 version : ByteArray
 deriving Inhabited
end Go.Proofs.YtgmiihmahaahiaaGreatDoor

namespace Go.Proofs.YtgmiihmahaahiaaGreatDoor
open Go.RowKit Go.Lp Go.Sy
theorem qn {k : Nat} {w : World} {S : bz} {us : List Value} {ds : List D} (h : okD Tryz.prog (k + 2) 85 ds) (hr : fl w S us ds) : ∃ y : bH, y.row = us.map D.v ∧ (y.ok).holds w S := by
 have h := cV Tryz.underlying85 h
 obtain ⟨d0, _, rfl, h0, d1, _, rfl, h1, d2, _, rfl, h2, d3, _, rfl, h3, d4, _, rfl, h4, d5, _, rfl, h5, rfl⟩ := h
 obtain ⟨n0, rfl, z0⟩ := cK Tryz.underlying9 h0
 obtain ⟨n1, rfl, _⟩ := ca (i := .i64) Tryz.underlying3 h1
 obtain ⟨n2, rfl, _⟩ := ca (i := .i64) Tryz.underlying3 h2
 obtain ⟨n3, rfl, _⟩ := ca (i := .i64) Tryz.underlying3 h3
 obtain ⟨n4, rfl, z4⟩ := cK Tryz.underlying9 h4
 obtain ⟨n5, rfl⟩ := jM Tryz.underlying4 h5
 obtain ⟨u0, _, rfl, r0, hr⟩ := hr.cons
 obtain ⟨u1, _, rfl, r1, hr⟩ := hr.cons
 obtain ⟨u2, _, rfl, r2, hr⟩ := hr.cons
 obtain ⟨u3, _, rfl, r3, hr⟩ := hr.cons
 obtain ⟨u4, _, rfl, r4, hr⟩ := hr.cons
 obtain ⟨u5, _, rfl, r5, hr⟩ := hr.cons
 obtain rfl := hr.nil
 obtain rfl := bK r0
 obtain rfl := bK r1
 obtain rfl := bK r2
 obtain rfl := bK r3
 obtain rfl := bK r4
 obtain rfl := bK r5
 exact ⟨⟨n0, n1, n2, n3, n4, n5⟩, rfl, ⟨z0, z4⟩⟩
theorem sB {k : Nat} {w : World} {S : bz} {us : List Value} {ds : List D} (h : okD Tryz.prog (k + 2) 63 ds) (hr : fl w S us ds) : ∃ y : bg, y.row = us.map D.v ∧ (y.ok).holds w S := by
 have h := cV Tryz.underlying63 h
 obtain ⟨d0, _, rfl, h0, d1, _, rfl, h1, d2, _, rfl, h2, d3, _, rfl, h3, d4, _, rfl, h4, d5, _, rfl, h5, d6, _, rfl, h6, d7, _, rfl, h7, d8, _, rfl, h8, d9, _, rfl, h9, rfl⟩ := h
 obtain ⟨n0, rfl, z0⟩ := cK Tryz.underlying9 h0
 obtain ⟨n1, rfl, z1⟩ := cK Tryz.underlying9 h1
 obtain ⟨n2, rfl⟩ := jM Tryz.underlying4 h2
 obtain ⟨n3, rfl, _⟩ := ca (i := .i64) Tryz.underlying3 h3
 obtain ⟨n4, rfl, _⟩ := ca (i := .i64) Tryz.underlying3 h4
 obtain ⟨n5, rfl, _⟩ := ca (i := .i64) Tryz.underlying3 h5
 obtain ⟨n6, rfl, _⟩ := ca (i := .i64) Tryz.underlying3 h6
 obtain ⟨n7, rfl, _⟩ := ca (i := .i64) Tryz.underlying3 h7
 obtain ⟨n8, rfl, _⟩ := ca (i := .i64) Tryz.underlying3 h8
 obtain ⟨n9, rfl, _⟩ := ca (i := .i64) Tryz.underlying3 h9
 obtain ⟨u0, _, rfl, r0, hr⟩ := hr.cons
 obtain ⟨u1, _, rfl, r1, hr⟩ := hr.cons
 obtain ⟨u2, _, rfl, r2, hr⟩ := hr.cons
 obtain ⟨u3, _, rfl, r3, hr⟩ := hr.cons
 obtain ⟨u4, _, rfl, r4, hr⟩ := hr.cons
 obtain ⟨u5, _, rfl, r5, hr⟩ := hr.cons
 obtain ⟨u6, _, rfl, r6, hr⟩ := hr.cons
 obtain ⟨u7, _, rfl, r7, hr⟩ := hr.cons
 obtain ⟨u8, _, rfl, r8, hr⟩ := hr.cons
 obtain ⟨u9, _, rfl, r9, hr⟩ := hr.cons
 obtain rfl := hr.nil
 obtain rfl := bK r0
 obtain rfl := bK r1
 obtain rfl := bK r2
 obtain rfl := bK r3
 obtain rfl := bK r4
 obtain rfl := bK r5
 obtain rfl := bK r6
 obtain rfl := bK r7
 obtain rfl := bK r8
 obtain rfl := bK r9
 exact ⟨⟨n0, n1, n2, n3, n4, n5, n6, n7, n8, n9⟩, rfl, ⟨z0, z1⟩⟩
theorem x4 {k : Nat} {w : World} {S : bz} {us : List Value} {ds : List D} (h : okD Tryz.prog (k + 2) 182 ds) (hr : fl w S us ds) : ∃ y : fU, y.row = us.map D.v ∧ (Fa True).holds w S := by
 have h := cV Tryz.underlying182 h
 obtain ⟨d0, _, rfl, h0, d1, _, rfl, h1, d2, _, rfl, h2, d3, _, rfl, h3, d4, _, rfl, h4, rfl⟩ := h
 obtain ⟨n0, rfl, _⟩ := ca (i := .i64) Tryz.underlying3 h0
 obtain ⟨n1, rfl, _⟩ := ca (i := .i64) Tryz.underlying3 h1
 obtain ⟨n2, rfl, _⟩ := ca (i := .i64) Tryz.underlying3 h2
 obtain ⟨n3, rfl, _⟩ := ca (i := .i64) Tryz.underlying3 h3
 obtain ⟨n4, rfl, _⟩ := ca (i := .i64) Tryz.underlying3 h4
 obtain ⟨u0, _, rfl, r0, hr⟩ := hr.cons
 obtain ⟨u1, _, rfl, r1, hr⟩ := hr.cons
 obtain ⟨u2, _, rfl, r2, hr⟩ := hr.cons
 obtain ⟨u3, _, rfl, r3, hr⟩ := hr.cons
 obtain ⟨u4, _, rfl, r4, hr⟩ := hr.cons
 obtain rfl := hr.nil
 obtain rfl := bK r0
 obtain rfl := bK r1
 obtain rfl := bK r2
 obtain rfl := bK r3
 obtain rfl := bK r4
 exact ⟨⟨n0, n1, n2, n3, n4⟩, rfl, trivial⟩
theorem tN {k : Nat} {w : World} {S : bz} {us : List Value} {ds : List D} (h : okD Tryz.prog (k + 3) 92 ds) (hr : fl w S us ds) : ∃ y : cS, y.row = us.map D.v ∧ (y.ok).holds w S := by
 have h := cV Tryz.underlying92 h
 obtain ⟨d0, _, rfl, h0, d1, _, rfl, h1, rfl⟩ := h
 obtain ⟨n0, rfl, z0⟩ := cK Tryz.underlying9 h0
 obtain ⟨q1, rfl, m1, o1⟩ := cQ Tryz.underlying90 h1
 obtain ⟨u0, _, rfl, r0, hr⟩ := hr.cons
 obtain ⟨u1, _, rfl, r1, hr⟩ := hr.cons
 obtain rfl := hr.nil
 obtain rfl := bK r0
 obtain ⟨s1, rfl, a1, b1⟩ := eA (row := fun z : Int => [.v (.int .i64 z)]) (ok := fun _ => Fa True) r1 fun r hr us hu => zL Tryz.underlying3 (o1 r hr) hu
 exact ⟨⟨n0, s1⟩, rfl, ⟨z0, a1⟩⟩
theorem vY {k : Nat} {w : World} {S : bz} {us : List Value} {ds : List D} (h : okD Tryz.prog (k + 2) 195 ds) (hr : fl w S us ds) : ∃ y : eQ, y.row = us.map D.v ∧ (Fa True).holds w S := by
 have h := cV Tryz.underlying195 h
 obtain ⟨d0, _, rfl, h0, d1, _, rfl, h1, d2, _, rfl, h2, rfl⟩ := h
 obtain ⟨n0, rfl, _⟩ := ca (i := .i64) Tryz.underlying3 h0
 obtain ⟨n1, rfl, _⟩ := ca (i := .i64) Tryz.underlying3 h1
 obtain ⟨n2, rfl⟩ := jM Tryz.underlying4 h2
 obtain ⟨u0, _, rfl, r0, hr⟩ := hr.cons
 obtain ⟨u1, _, rfl, r1, hr⟩ := hr.cons
 obtain ⟨u2, _, rfl, r2, hr⟩ := hr.cons
 obtain rfl := hr.nil
 obtain rfl := bK r0
 obtain rfl := bK r1
 obtain rfl := bK r2
 exact ⟨⟨n0, n1, n2⟩, rfl, trivial⟩
theorem wy {k : Nat} {w : World} {S : bz} {us : List Value} {ds : List D} (h : okD Tryz.prog (k + 2) 197 ds) (hr : fl w S us ds) : ∃ y : dA, y.row = us.map D.v ∧ (y.ok).holds w S := by
 have h := cV Tryz.underlying197 h
 obtain ⟨d0, _, rfl, h0, d1, _, rfl, h1, d2, _, rfl, h2, d3, _, rfl, h3, rfl⟩ := h
 obtain ⟨n0, rfl, _⟩ := ca (i := .i64) Tryz.underlying3 h0
 obtain ⟨n1, rfl, _⟩ := ca (i := .i64) Tryz.underlying3 h1
 obtain ⟨n2, rfl, z2⟩ := cK Tryz.underlying9 h2
 obtain ⟨n3, rfl, _⟩ := ca (i := .i64) Tryz.underlying3 h3
 obtain ⟨u0, _, rfl, r0, hr⟩ := hr.cons
 obtain ⟨u1, _, rfl, r1, hr⟩ := hr.cons
 obtain ⟨u2, _, rfl, r2, hr⟩ := hr.cons
 obtain ⟨u3, _, rfl, r3, hr⟩ := hr.cons
 obtain rfl := hr.nil
 obtain rfl := bK r0
 obtain rfl := bK r1
 obtain rfl := bK r2
 obtain rfl := bK r3
 exact ⟨⟨n0, n1, n2, n3⟩, rfl, z2⟩
theorem sn {k : Nat} {w : World} {S : bz} {us : List Value} {ds : List D} (h : okD Tryz.prog (k + 2) 200 ds) (hr : fl w S us ds) : ∃ y : cg, y.row = us.map D.v ∧ (y.ok).holds w S := by
 have h := cV Tryz.underlying200 h
 obtain ⟨d0, _, rfl, h0, d1, _, rfl, h1, d2, _, rfl, h2, d3, _, rfl, h3, d4, _, rfl, h4, d5, _, rfl, h5, rfl⟩ := h
 obtain ⟨n0, rfl, _⟩ := ca (i := .i64) Tryz.underlying3 h0
 obtain ⟨n1, rfl, _⟩ := ca (i := .i64) Tryz.underlying3 h1
 obtain ⟨n2, rfl, _⟩ := ca (i := .i64) Tryz.underlying3 h2
 obtain ⟨n3, rfl, z3⟩ := cK Tryz.underlying9 h3
 obtain ⟨n4, rfl, z4⟩ := cK Tryz.underlying9 h4
 obtain ⟨n5, rfl, _⟩ := ca (i := .i64) Tryz.underlying3 h5
 obtain ⟨u0, _, rfl, r0, hr⟩ := hr.cons
 obtain ⟨u1, _, rfl, r1, hr⟩ := hr.cons
 obtain ⟨u2, _, rfl, r2, hr⟩ := hr.cons
 obtain ⟨u3, _, rfl, r3, hr⟩ := hr.cons
 obtain ⟨u4, _, rfl, r4, hr⟩ := hr.cons
 obtain ⟨u5, _, rfl, r5, hr⟩ := hr.cons
 obtain rfl := hr.nil
 obtain rfl := bK r0
 obtain rfl := bK r1
 obtain rfl := bK r2
 obtain rfl := bK r3
 obtain rfl := bK r4
 obtain rfl := bK r5
 exact ⟨⟨n0, n1, n2, n3, n4, n5⟩, rfl, ⟨z3, z4⟩⟩
theorem yb {k : Nat} {w : World} {S : bz} {us : List Value} {ds : List D} (h : okD Tryz.prog (k + 2) 204 ds) (hr : fl w S us ds) : ∃ y : eH, y.row = us.map D.v ∧ (y.ok).holds w S := by
 have h := cV Tryz.underlying204 h
 obtain ⟨d0, _, rfl, h0, d1, _, rfl, h1, d2, _, rfl, h2, d3, _, rfl, h3, d4, _, rfl, h4, d5, _, rfl, h5, rfl⟩ := h
 obtain ⟨n0, rfl, _⟩ := ca (i := .i64) Tryz.underlying3 h0
 obtain ⟨n1, rfl, _⟩ := ca (i := .i64) Tryz.underlying3 h1
 obtain ⟨n2, rfl, _⟩ := ca (i := .i64) Tryz.underlying3 h2
 obtain ⟨n3, rfl, z3⟩ := cK Tryz.underlying9 h3
 obtain ⟨n4, rfl, _⟩ := ca (i := .i64) Tryz.underlying3 h4
 obtain ⟨n5, rfl, _⟩ := ca (i := .i64) Tryz.underlying3 h5
 obtain ⟨u0, _, rfl, r0, hr⟩ := hr.cons
 obtain ⟨u1, _, rfl, r1, hr⟩ := hr.cons
 obtain ⟨u2, _, rfl, r2, hr⟩ := hr.cons
 obtain ⟨u3, _, rfl, r3, hr⟩ := hr.cons
 obtain ⟨u4, _, rfl, r4, hr⟩ := hr.cons
 obtain ⟨u5, _, rfl, r5, hr⟩ := hr.cons
 obtain rfl := hr.nil
 obtain rfl := bK r0
 obtain rfl := bK r1
 obtain rfl := bK r2
 obtain rfl := bK r3
 obtain rfl := bK r4
 obtain rfl := bK r5
 exact ⟨⟨n0, n1, n2, n3, n4, n5⟩, rfl, z3⟩
theorem tS {k : Nat} {w : World} {S : bz} {us : List Value} {ds : List D} (h : okD Tryz.prog (k + 2) 207 ds) (hr : fl w S us ds) : ∃ y : dD, y.row = us.map D.v ∧ (Fa True).holds w S := by
 have h := cV Tryz.underlying207 h
 obtain ⟨d0, _, rfl, h0, d1, _, rfl, h1, d2, _, rfl, h2, d3, _, rfl, h3, rfl⟩ := h
 obtain ⟨n0, rfl, _⟩ := ca (i := .i64) Tryz.underlying3 h0
 obtain ⟨n1, rfl, _⟩ := ca (i := .i64) Tryz.underlying3 h1
 obtain ⟨n2, rfl, _⟩ := ca (i := .i64) Tryz.underlying3 h2
 obtain ⟨n3, rfl, _⟩ := ca (i := .i64) Tryz.underlying3 h3
 obtain ⟨u0, _, rfl, r0, hr⟩ := hr.cons
 obtain ⟨u1, _, rfl, r1, hr⟩ := hr.cons
 obtain ⟨u2, _, rfl, r2, hr⟩ := hr.cons
 obtain ⟨u3, _, rfl, r3, hr⟩ := hr.cons
 obtain rfl := hr.nil
 obtain rfl := bK r0
 obtain rfl := bK r1
 obtain rfl := bK r2
 obtain rfl := bK r3
 exact ⟨⟨n0, n1, n2, n3⟩, rfl, trivial⟩
theorem tP {k : Nat} {w : World} {S : bz} {us : List Value} {ds : List D} (h : okD Tryz.prog (k + 2) 264 ds) (hr : fl w S us ds) : ∃ y : dC, y.row = us.map D.v ∧ (Fa True).holds w S := by
 have h := cV Tryz.underlying264 h
 obtain ⟨d0, _, rfl, h0, d1, _, rfl, h1, d2, _, rfl, h2, rfl⟩ := h
 obtain ⟨n0, rfl, _⟩ := ca (i := .i64) Tryz.underlying3 h0
 obtain ⟨n1, rfl, _⟩ := ca (i := .i64) Tryz.underlying3 h1
 obtain ⟨n2, rfl, _⟩ := ca (i := .i64) Tryz.underlying3 h2
 obtain ⟨u0, _, rfl, r0, hr⟩ := hr.cons
 obtain ⟨u1, _, rfl, r1, hr⟩ := hr.cons
 obtain ⟨u2, _, rfl, r2, hr⟩ := hr.cons
 obtain rfl := hr.nil
 obtain rfl := bK r0
 obtain rfl := bK r1
 obtain rfl := bK r2
 exact ⟨⟨n0, n1, n2⟩, rfl, trivial⟩
theorem pP {k : Nat} {w : World} {S : bz} {us : List Value} {ds : List D} (h : okD Tryz.prog (k + 4) 210 ds) (hr : fl w S us ds) : ∃ y : bZ, y.row = us.map D.v ∧ (y.ok).holds w S := by
 have h := cV Tryz.underlying210 h
 obtain ⟨d0, _, rfl, h0, d1, _, rfl, h1, d2, _, rfl, h2, d3, _, rfl, h3, rfl⟩ := h
 obtain ⟨n0, rfl, _⟩ := ca (i := .i64) Tryz.underlying3 h0
 obtain ⟨n1, rfl, z1⟩ := cK Tryz.underlying9 h1
 obtain ⟨q2, rfl, m2, o2⟩ := cQ Tryz.underlying208 h2
 obtain ⟨n3, rfl, _⟩ := ca (i := .i64) Tryz.underlying3 h3
 obtain ⟨u0, _, rfl, r0, hr⟩ := hr.cons
 obtain ⟨u1, _, rfl, r1, hr⟩ := hr.cons
 obtain ⟨u2, _, rfl, r2, hr⟩ := hr.cons
 obtain ⟨u3, _, rfl, r3, hr⟩ := hr.cons
 obtain rfl := hr.nil
 obtain rfl := bK r0
 obtain rfl := bK r1
 obtain ⟨s2, rfl, a2, b2⟩ := eA (row := dC.row) (ok := fun _ => Fa True) r2 fun r hr us hu => tP (o2 r hr) hu
 obtain rfl := bK r3
 exact ⟨⟨n0, n1, s2, n3⟩, rfl, ⟨z1, a2⟩⟩
theorem sC {k : Nat} {w : World} {S : bz} {us : List Value} {ds : List D} (h : okD Tryz.prog (k + 6) 61 ds) (hr : fl w S us ds) : ∃ y : ax, y.row = us.map D.v ∧ (y.ok).holds w S := by
 have h := cV Tryz.underlying61 h
 obtain ⟨d0, _, rfl, h0, d1, _, rfl, h1, d2, _, rfl, h2, d3, _, rfl, h3, d4, _, rfl, h4, d5, _, rfl, h5, d6, _, rfl, h6, d7, _, rfl, h7, d8, _, rfl, h8, d9, _, rfl, h9, d10, _, rfl, h10, rfl⟩ := h
 obtain ⟨n0, rfl, z0⟩ := cK Tryz.underlying9 h0
 obtain ⟨q1, rfl, m1, o1⟩ := cQ Tryz.underlying50 h1
 obtain ⟨q2, rfl, m2, o2⟩ := cQ Tryz.underlying51 h2
 obtain ⟨q3, rfl, m3, o3⟩ := cQ Tryz.underlying52 h3
 obtain ⟨q4, rfl, m4, o4⟩ := cQ Tryz.underlying53 h4
 obtain ⟨q5, rfl, m5, o5⟩ := cQ Tryz.underlying54 h5
 obtain ⟨q6, rfl, m6, o6⟩ := cQ Tryz.underlying55 h6
 obtain ⟨q7, rfl, m7, o7⟩ := cQ Tryz.underlying56 h7
 obtain ⟨q8, rfl, m8, o8⟩ := cQ Tryz.underlying57 h8
 obtain ⟨q9, rfl, m9, o9⟩ := cQ Tryz.underlying58 h9
 obtain ⟨q10, rfl, m10, o10⟩ := cQ Tryz.underlying59 h10
 obtain ⟨u0, _, rfl, r0, hr⟩ := hr.cons
 obtain ⟨u1, _, rfl, r1, hr⟩ := hr.cons
 obtain ⟨u2, _, rfl, r2, hr⟩ := hr.cons
 obtain ⟨u3, _, rfl, r3, hr⟩ := hr.cons
 obtain ⟨u4, _, rfl, r4, hr⟩ := hr.cons
 obtain ⟨u5, _, rfl, r5, hr⟩ := hr.cons
 obtain ⟨u6, _, rfl, r6, hr⟩ := hr.cons
 obtain ⟨u7, _, rfl, r7, hr⟩ := hr.cons
 obtain ⟨u8, _, rfl, r8, hr⟩ := hr.cons
 obtain ⟨u9, _, rfl, r9, hr⟩ := hr.cons
 obtain ⟨u10, _, rfl, r10, hr⟩ := hr.cons
 obtain rfl := hr.nil
 obtain rfl := bK r0
 obtain ⟨s1, rfl, a1, b1⟩ := eA (row := bH.row) (ok := fun y : bH => bH.ok y) r1 fun r hr us hu => qn (o1 r hr) hu
 obtain ⟨s2, rfl, a2, b2⟩ := eA (row := bg.row) (ok := fun y : bg => bg.ok y) r2 fun r hr us hu => sB (o2 r hr) hu
 obtain ⟨s3, rfl, a3, b3⟩ := eA (row := fU.row) (ok := fun _ => Fa True) r3 fun r hr us hu => x4 (o3 r hr) hu
 obtain ⟨s4, rfl, a4, b4⟩ := eA (row := cS.row) (ok := fun y : cS => cS.ok y) r4 fun r hr us hu => tN (o4 r hr) hu
 obtain ⟨s5, rfl, a5, b5⟩ := eA (row := eQ.row) (ok := fun _ => Fa True) r5 fun r hr us hu => vY (o5 r hr) hu
 obtain ⟨s6, rfl, a6, b6⟩ := eA (row := dA.row) (ok := fun y : dA => dA.ok y) r6 fun r hr us hu => wy (o6 r hr) hu
 obtain ⟨s7, rfl, a7, b7⟩ := eA (row := cg.row) (ok := fun y : cg => cg.ok y) r7 fun r hr us hu => sn (o7 r hr) hu
 obtain ⟨s8, rfl, a8, b8⟩ := eA (row := eH.row) (ok := fun y : eH => eH.ok y) r8 fun r hr us hu => yb (o8 r hr) hu
 obtain ⟨s9, rfl, a9, b9⟩ := eA (row := dD.row) (ok := fun _ => Fa True) r9 fun r hr us hu => tS (o9 r hr) hu
 obtain ⟨s10, rfl, a10, b10⟩ := eA (row := bZ.row) (ok := fun y : bZ => bZ.ok y) r10 fun r hr us hu => pP (o10 r hr) hu
 exact ⟨⟨n0, s1, s2, s3, s4, s5, s6, s7, s8, s9, s10⟩, rfl, ⟨z0, a1, b1, a2, b2, a3, a4, b4, a5, a6, b6, a7, b7, a8, b8, a9, a10, b10⟩⟩
theorem mV {k : Nat} {w : World} {S : bz} {us : List Value} {ds : List D} (h : okD Tryz.prog (k + 7) 22 ds) (hr : fl w S us ds) : ∃ y : Sl ax, [D.v (.slice y.ad y.l.length y.cap)] = us.map D.v ∧ (cx (ShF (ax.row) y) (bP (fun y => ax.ok y) y.l)).holds w S := by
 obtain ⟨y, h1, h2⟩ := zT (row := ax.row) (ok := fun y : ax => ax.ok y) Tryz.underlying22 h hr fun r h us hu => sC h hu
 exact ⟨y, h1, h2⟩
theorem sL {k : Nat} {w : World} {S : bz} {us : List Value} {ds : List D} (h : okD Tryz.prog (k + 2) 128 ds) (hr : fl w S us ds) : ∃ y : cP, y.row = us.map D.v ∧ (y.ok).holds w S := by
 have h := cV Tryz.underlying128 h
 obtain ⟨d0, _, rfl, h0, d1, _, rfl, h1, d2, _, rfl, h2, d3, _, rfl, h3, d4, _, rfl, h4, d5, _, rfl, h5, rfl⟩ := h
 obtain ⟨n0, rfl, z0⟩ := cK Tryz.underlying9 h0
 obtain ⟨n1, rfl, z1⟩ := cK Tryz.underlying9 h1
 obtain ⟨n2, rfl⟩ := jM Tryz.underlying4 h2
 obtain ⟨n3, rfl, _⟩ := ca (i := .i64) Tryz.underlying3 h3
 obtain ⟨n4, rfl, _⟩ := ca (i := .i64) Tryz.underlying3 h4
 obtain ⟨n5, rfl, _⟩ := ca (i := .i64) Tryz.underlying3 h5
 obtain ⟨u0, _, rfl, r0, hr⟩ := hr.cons
 obtain ⟨u1, _, rfl, r1, hr⟩ := hr.cons
 obtain ⟨u2, _, rfl, r2, hr⟩ := hr.cons
 obtain ⟨u3, _, rfl, r3, hr⟩ := hr.cons
 obtain ⟨u4, _, rfl, r4, hr⟩ := hr.cons
 obtain ⟨u5, _, rfl, r5, hr⟩ := hr.cons
 obtain rfl := hr.nil
 obtain rfl := bK r0
 obtain rfl := bK r1
 obtain rfl := bK r2
 obtain rfl := bK r3
 obtain rfl := bK r4
 obtain rfl := bK r5
 exact ⟨⟨n0, n1, n2, n3, n4, n5⟩, rfl, ⟨z0, z1⟩⟩
end Go.Proofs.YtgmiihmahaahiaaGreatDoor

namespace Go.Sy
open Go.RowKit Go.Lp
theorem Ent.mk2 {ps : List Per} {p q : Per} (h1 : Ent ps p) (h2 : Ent ps q) : Ent ps (cx p q) := fun w S hp => ⟨h1 w S hp, h2 w S hp⟩
def Bun (l : List Res) : Res :=
 ⟨fun w S F => ∃ fp : Nat → bz, (∀ (i : Nat) (R : Res), l[i]? = some R → R.holds w S (fp i)) ∧ (∀ i j, i < l.length → j < l.length → i ≠ j → ∀ b, fp i b → ¬ fp j b) ∧ ∀ b, F b ↔ tot fp l.length b,
  fun ⟨fp, h1, h2, h3⟩ k1 k2 k3 => ⟨fp, fun i R hR => R.mono (h1 i R hR) (fun b hb => k1 b ((h3 b).2 ⟨i, (List.getElem?_eq_some_iff.1 hR).1, hb⟩)) k2 k3, h2, h3⟩⟩
section
variable {w : World} {S : bz} {fp : Nat → bz} {ps : List Per} {l : List Res}
theorem St.bun (h : St w S fp ps l) : St w S (fun _ => tot fp l.length) ps [Bun l] where
 per := h.per
 res i R hR := by
   cases i with
   | zero => simp only [List.getElem?_cons_zero, Option.some.injEq] at hR; subst hR; exact ⟨fp, h.res, h.dj, fun _ => Iff.rfl⟩
   | succ i => simp at hR
 lt i hi b hb := let ⟨j, hj, hjb⟩ := hb; h.lt j hj b hjb
 dj i j hi hj hne := by simp only [List.length_singleton] at hi hj; omega
 slt := h.slt
theorem St.unbun (h : St w S fp ps [Bun l]) : ∃ fp', St w S fp' ps l ∧ ∀ b, tot fp' l.length b → tot fp [Bun l].length b := by
 obtain ⟨fp', h1, h2, h3⟩ := h.res 0 _ rfl
 have hin : ∀ b, tot fp' l.length b → fp 0 b := fun b hb => (h3 b).2 hb
 exact ⟨fp', ⟨h.per, h1, fun i hi b hb => h.lt 0 (by simp) b (hin b ⟨i, hi, hb⟩), h2, h.slt⟩, fun b hb => ⟨0, by simp, hin b hb⟩⟩
theorem oM (F : bz) (b : Nat) (R : Res) : tot (fun _ => F) [R].length b ↔ F b := ⟨fun ⟨_, _, h⟩ => h, fun h => ⟨0, by simp, h⟩⟩
variable {P : Program} {R : Value → List Per → List Res → Prop}
theorem Con.post {f : FuncId} {args : List Value} {R' : Value → List Per → List Res → Prop} (h : Con P f args ps l R) (hr : ∀ v ps' hp', R v ps' hp' → R' v ps' hp') : Con P f args ps l R' := fun w S fp hst =>
 (h w S fp hst).mono fun e w' ⟨v, ps', hp', S', fp', he, hR, h⟩ => ⟨v, ps', hp', S', fp', he, hr _ _ _ hR, h⟩
theorem Con.pre {f : FuncId} {args : List Value} {ps0 : List Per} (h : Con P f args ps l R) (hr : ∀ p ∈ ps, Ent ps0 p) : Con P f args ps0 l R := fun w S fp hst =>
 h w S fp ⟨fun p hp => hr p hp w S hst.per, hst.res, hst.lt, hst.dj, hst.slt⟩
end
section
variable {P : Program} {n : Fr} {ops : Array Oper} {Q : Exit → Sta → Prop} {s : Sta} {o : Oper}
end
end Go.Sy

namespace Go.Sy
theorem lk {P : Program} {n : Fr} {s : Sta} {d : Option Tmp} {ty : TypeId} {pos : String} {af : Array Edge} {gd : Option (Nat × Bool)} {v : Value} {f : FuncId} {g : Operand} {caps : List Value} (hf : bE P f = true) {l : List Operand} {ts : Array TypeId} {vs : List Value} (hg : ev s.env g = some (true, .func (.func f) #[] caps.toArray)) (hx : evs s.env l = some vs)
   (hc : ∀ w S fp, St w S fp s.ps s.hp → Calls P f (vs ++ caps).toArray w fun e w' => e = .returned v ∧ Below w.heap.size w w') :
   Quiet P n ⟨d, .call ⟨.value g, l.toArray, ts⟩, ty, pos, af, gd⟩ s v := fun w S fp a hst he hn => by
 rw [ke hf (he.val hg rfl) (fI he l vs hx)]
 have := hc w S fp hst
 rw [show (vs ++ caps).toArray = vs.toArray ++ caps.toArray by simp] at this
 exact this.mono fun e w' ⟨h1, h2⟩ => ⟨v, h1, rfl, h2⟩
open RowKit in
theorem Con.lA {P : Program} {v : Value} {f : FuncId} {args : List Value} {p q t : Per} (h : Con P f args [p, q, t] [] fun u _ _ => u = v) {w : World} {S : bz} {fp : Nat → bz} {ps' : List Per} {hp : List Res} (hp1 : p ∈ ps') (hq1 : q ∈ ps') (ht1 : t ∈ ps') (hst : St w S fp ps' hp) :
   Calls P f args.toArray w fun e w' => e = .returned v ∧ Below w.heap.size w w' := h.quiet (fun _ h => by
     simp only [List.mem_cons, List.not_mem_nil, or_false] at h
     rcases h with rfl | rfl | rfl
     · exact hp1
     · exact hq1
     · exact ht1) hst
end Go.Sy
namespace Go.Proofs.YtgmiihmahaahiaaGreatDoor
open Go.RowKit Go.Lp Go.Sy
open Go.Proofs.Tryz
attribute [local irreducible] aL aB awp aC fwp
theorem tk152 : tyk Tryz.prog 152 = some (false, 1) := by kernel_rfl
end Go.Proofs.YtgmiihmahaahiaaGreatDoor

namespace Go.Sy
open Go.RowKit Go.Lp
def YN {β : Type} (v : β → Value) (Φ : β → Prop) : Value → List Per → List Res → Prop := fun r ps hp => (ps = [] ∧ hp = []) ∧ ∃ b, r = v b ∧ Φ b
abbrev YB (Φ : Prop) : Value → List Per → List Res → Prop := YN Value.bool fun b => b = true → Φ
section
variable {P : Program} {n : Fr} {ops : Array Oper} {Q : Exit → Sta → Prop} {env : Env} {ps : List Per} {hp : List Res} {ty : TypeId} {pos : String} {af : Array Edge} {gd : Option (Nat × Bool)} {rest : List Oper} {β : Type} {v : β → Value} {Φ : β → Prop}
theorem aQ {t : Nat} {f : FuncId} {g : Operand} {caps : List Value} {l : List Operand} {ts : Array TypeId} {vs : List Value} (lp : List Nat) (b0 : β) (hf : bE P f = true) (c : Bool) (hc : guardOf ops env ⟨some t, .call ⟨.value g, l.toArray, ts⟩, ty, pos, af, gd⟩ = some c) (ht : fits n.size (some t) = true)
   (hgv : c = true → ev env g = some (true, .func (.func f) #[] caps.toArray)) (hx : c = true → evs env l = some vs) (hcon : c = true → Con P f (vs ++ caps) (fA ps lp) [] (YN v Φ))
   (h : ∀ b, (c = true → Φ b) → aL P n ops Q rest ⟨(t, c, v b) :: env, ps, hp⟩) : aL P n ops Q (⟨some t, .call ⟨.value g, l.toArray, ts⟩, ty, pos, af, gd⟩ :: rest) ⟨env, ps, hp⟩ := by
 cases c with
 | true =>
   refine aj (q := true) hc (i7 lp [] hf (hgv rfl) (hx rfl) ht rfl rfl (hcon rfl) ?_)
   rintro _ _ _ ⟨⟨rfl, rfl⟩, b, rfl, hb⟩
   refine tr ?_ (h b fun _ => hb)
   apply List.ext_getElem?; intro i; rw [iN]
   by_cases hi : i < hp.length
   · rw [if_pos hi]; rfl
   · rw [if_neg hi, List.getElem?_eq_none (by simp), List.getElem?_eq_none (by omega)]
 | false => exact l7 (v := v b0) false hc ht (fun h => by cases h) (h b0 fun h => by cases h)
theorem el {V : List Nat} {k : Nat} {L : Array Bool} {t : Nat} {f : FuncId} {g : Operand} {caps : List Value} {l : List Operand} {ts : Array TypeId} {vs : List Value} (i : Nat) (hi : ops[i]? = some ⟨some t, .call ⟨.value g, l.toArray, ts⟩, ty, pos, af, gd⟩) (hr : Region.ready .any ops L = [i]) (lp : List Nat) (b0 : β) (hf : bE P f = true) (c : Bool) (hc : guardOf ops env ⟨some t, .call ⟨.value g, l.toArray, ts⟩, ty, pos, af, gd⟩ = some c) (ht : fits n.size (some t) = true)
   (hgv : c = true → ev env g = some (true, .func (.func f) #[] caps.toArray)) (hx : c = true → evs env l = some vs) (hcon : c = true → Con P f (vs ++ caps) (fA ps lp) [] (YN v Φ))
   (h : ∀ b, (c = true → Φ b) → aB P n ops V Q k (L.setIfInBounds i true) ⟨(t, c, v b) :: env, ps, hp⟩) : aB P n ops V Q (k + 1) L ⟨env, ps, hp⟩ := by
 cases c with
 | true =>
   refine bM (q := true) i hi hr rfl hc (i7 lp [] hf (hgv rfl) (hx rfl) ht rfl rfl (hcon rfl) ?_)
   rintro _ _ _ ⟨⟨rfl, rfl⟩, b, rfl, hb⟩
   refine aan rfl ?_ (h b fun _ => hb)
   apply List.ext_getElem?; intro j; rw [iN]
   by_cases hj : j < hp.length
   · rw [if_pos hj]; rfl
   · rw [if_neg hj, List.getElem?_eq_none (by simp), List.getElem?_eq_none (by omega)]
 | false =>
   intro w S fp a hst he hn hdf w1 hb
   refine ⟨fun h0 => (by rw [hr] at h0; cases h0), fun j hj => ?_⟩
   rw [hr] at hj
   obtain rfl := List.mem_singleton.1 hj
   refine ⟨_, hi, ?_⟩
   rw [if_neg (by rw [dE (ops := ops) hc he]; exact Bool.false_ne_true)]
   refine ⟨fun _ => Below.refl _ _, ?_⟩
   have hen := he.set (dst := some t) (by rw [hn]; exact ht) false (v b0)
   exact gM (fun a2 w2 hp => hp.trans (Evo.of_below _ _ hb) (fun _ h => .inl h)) _ _ _ _ (h b0 (fun h => by cases h) w1 S fp _ (hst.below hb) hen (by rw [ej]; exact hn) (by rw [put_defers]; exact hdf))
end
end Go.Sy

namespace Go.Sy
open Go.RowKit Go.Lp
def zO : Res := ⟨fun _ _ _ => True, fun _ _ _ _ => trivial⟩
section
variable {P : Program} {n : Fr} {env : Env} {ps : List Per} {hp : List Res} {d : Option Tmp} {ty : TypeId} {pos : String} {af : Array Edge} {gd : Option (Nat × Bool)}
theorem j6 {w : World} {b : Nat} {T : TypeId} {cs : List Value} (h : w.heap[b]? = some (.cells cs.toArray T (0, 0))) : w.shape? b = some (T, cs.length) := by
 unfold World.shape?; rw [h]; simp
theorem zM {src dst t T : TypeId} {x : Operand} {b : Nat} {cs : List Value} (i : Nat) (hs : P.underlying src = some (.pointer t)) (hd : P.underlying dst = some .unsafePointer) (ht : ((P.info? t).map fun j => decide (j.size ≠ 0)) = some true) (hx : ev env x = some (true, .pointer (some ⟨b, 0, none⟩))) (hi : hp[i]? = some (Box b T cs)) (h0 : 0 < cs.length) :
   Quiet P n ⟨d, .convert src dst x, ty, pos, af, gd⟩ ⟨env, ps, hp⟩ (.pointer (some ⟨b, 0, none⟩)) := fun w S fp a hst he hn => by
 have h1 := he.val hx rfl
 obtain ⟨hb, _⟩ := hst.res i _ hi
 obtain ⟨j, hj, hjs⟩ := Option.map_eq_some_iff.1 ht
 have hrun := Lib.run_to_unsafe (P := P) w ⟨b, 0, none⟩ hs hd hj (by simpa using hjs) (j6 hb) h0
 have : (execOp a.eval ⟨d, .convert src dst x, ty, pos, af, gd⟩).run P w = .ok (.value (.pointer (some ⟨b, 0, none⟩))) w := by
   unfold execOp; dsimp only; rw [h1]
   show ((convert src dst (.pointer (some ⟨b, 0, none⟩))).bind fun r => Sem.pure (Next.value r)).run P w = _
   rw [Sem.run_bind', hrun]; rfl
 rw [this]; exact bY _ _
theorem wZ {src dst u T : TypeId} {x : Operand} {b : Nat} {cs : List Value} (i m : Nat) (hs : P.underlying src = some .unsafePointer) (hd : P.underlying dst = some (.pointer u)) (hu : (P.info? u).isSome = true) (hx : ev env x = some (true, .pointer (some ⟨b, 0, none⟩))) (hi : hp[i]? = some (Box b T cs)) (hm : cs.length = m) (hlies : liesAt P P.depth T (m / P.cellsOf T) 0 u 1 = true) :
   Quiet P n ⟨d, .convert src dst x, ty, pos, af, gd⟩ ⟨env, ps, hp⟩ (.pointer (some ⟨b, 0, none⟩)) := fun w S fp a hst he hn => by
 have h1 := he.val hx rfl
 obtain ⟨hb, _⟩ := hst.res i _ hi
 obtain ⟨j, hj⟩ := Option.isSome_iff_exists.1 hu
 have hsh := j6 hb
 rw [hm] at hsh
 have hrun := Lib.run_from_unsafe (P := P) w ⟨b, 0, none⟩ hs hd hj hsh hlies
 have : (execOp a.eval ⟨d, .convert src dst x, ty, pos, af, gd⟩).run P w = .ok (.value (.pointer (some ⟨b, 0, none⟩))) w := by
   unfold execOp; dsimp only; rw [h1]
   show ((convert src dst (.pointer (some ⟨b, 0, none⟩))).bind fun r => Sem.pure (Next.value r)).run P w = _
   rw [Sem.run_bind', hrun]; rfl
 rw [this]; exact bY _ _
theorem rk {x : Operand} {t t' : TypeId} (hT : (match P.underlying t with | some (.pointer _) => true | _ => false) = true) (hx : ev env x = some (true, .pointer none)) : Quiet P n ⟨d, .binOp .eql t x (.const (.pointer none)) t', ty, pos, af, gd⟩ ⟨env, ps, hp⟩ (.bool true) := .run2 hx (y := .const (.pointer none)) (vy := .pointer none) rfl fun ρ w h1 h2 => by
 have hu : ∃ e, P.underlying t = some (.pointer e) := by
   cases h : P.underlying t with
   | none => rw [h] at hT; cases hT
   | some dd => rw [h] at hT; cases dd <;> first | exact ⟨_, rfl⟩ | cases hT
 obtain ⟨e, hu⟩ := hu
 unfold execOp; dsimp only; rw [h1, h2]
 have e1 : (do eqGuard BinOp.eql t x (.const (.pointer none)) (Value.pointer none) (Value.pointer none); binOp BinOp.eql t (Value.pointer none) (Value.pointer none)) = binOp BinOp.eql t (Value.pointer none) (Value.pointer none) := rfl
 have e2 : (binOp BinOp.eql t (Value.pointer none) (Value.pointer none)).run P w = .ok (.bool true) w := by
   have := run_eql_pointer_nil (P := P) (w := w) t none (by rw [hu]; unfold Program.pointee; rw [hu])
   exact this
 show ((do eqGuard BinOp.eql t x (.const (.pointer none)) (Value.pointer none) (Value.pointer none); binOp BinOp.eql t (Value.pointer none) (Value.pointer none)).bind fun r => Sem.pure (Next.value r)).run P w = _
 rw [e1, Sem.run_bind', e2]; rfl
theorem vm {x y : Operand} {t t' te : TypeId} {a0 : Addr} (hu : P.underlying t = some (.pointer te)) (hte : (P.info? te).isSome = true) (hx : ev env x = some (true, .pointer (some a0))) (hy : ev env y = some (true, .pointer (some a0))) : Quiet P n ⟨d, .binOp .neq t x y t', ty, pos, af, gd⟩ ⟨env, ps, hp⟩ (.bool false) := .run2 hx hy fun ρ w h1 h2 => by
 obtain ⟨j, hj⟩ := Option.isSome_iff_exists.1 hte
 unfold execOp; dsimp only; rw [h1, h2]
 have e1 : ∀ x y : Operand, (do eqGuard BinOp.neq t x y (Value.pointer (some a0)) (Value.pointer (some a0)); binOp BinOp.neq t (Value.pointer (some a0)) (Value.pointer (some a0))) = binOp BinOp.neq t (Value.pointer (some a0)) (Value.pointer (some a0)) := fun _ _ => rfl
 have e2 := Lib.run_neq_ptr_same (P := P) w a0 hu hj
 show ((do eqGuard BinOp.neq t x y (Value.pointer (some a0)) (Value.pointer (some a0)); binOp BinOp.neq t (Value.pointer (some a0)) (Value.pointer (some a0))).bind fun r => Sem.pure (Next.value r)).run P w = _
 rw [e1, Sem.run_bind', e2]; rfl
theorem qe {x : Operand} {T : TypeId} {a0 : Addr} {m c : Nat} (hc : c ≠ 0) (hx : ev env x = some (true, .slice (some a0) m c)) : Quiet P n ⟨d, .call ⟨.builtin .unsafeSliceData, #[x], #[T]⟩, ty, pos, af, gd⟩ ⟨env, ps, hp⟩ (.pointer (some a0)) := .run1 hx fun ρ w h => by
 have hr := Lib.run_unsafeSliceData_row (P := P) w #[T] ty a0 m c hc
 have hexec : execOp ρ ⟨d, .call ⟨.builtin .unsafeSliceData, #[x], #[T]⟩, ty, pos, af, gd⟩ = (Builtin.unsafeSliceData_ #[T] ty (#[x].map ρ)).bind fun r => Sem.pure (Next.value r) := rfl
 rw [hexec, show #[x].map ρ = #[ρ x] by simp, h, Sem.run_bind', hr]; rfl
abbrev fu : UInt8 → List D := fun u => [.v (.int .u8 u.toNat)]
theorem mf {t : Nat} {x y : Operand} {pt it E : TypeId} {g cp : Nat} {l : List UInt8} {K : Sta → Prop} (i : Nat) (hp1 : P.underlying pt = some (.pointer E)) (hc : P.cellsOf E = 1) (h0 : l ≠ []) (hx : ev env x = some (true, .pointer (some ⟨g, 0, none⟩))) (hy : ev env y = some (true, .int .i64 l.length))
   (hi : hp[i]? = some (bA (.slice (some ⟨g, 0, none⟩) l.length cp) E 1 (l.map fu))) (ht : fits n.size (some t) = true) (hK : K ⟨(t, true, .string ⟨l.toArray⟩) :: env, ps, hp.set i zO⟩) :
   Eff P n ⟨some t, .call ⟨.builtin .unsafeString, #[x, y], #[pt, it]⟩, ty, pos, af, gd⟩ ⟨env, ps, hp⟩ false K := .change i hi fun w S fp a hst he hn hR => by
 have h1 := he.val hx rfl
 have h2 := he.val hy rfl
 rcases hR with ⟨h, _⟩ | ⟨b, cap, hv, ⟨cs, sp, hb, hrows, hcap, hrc, hcm⟩, hF⟩
 · cases h
 · simp only [Value.slice.injEq, Option.some.injEq, Addr.mk.injEq] at hv
   obtain ⟨⟨rfl, _⟩, _, rfl⟩ := hv
   have hlen : cs.length = l.length := by rw [hrows.len, List.length_map, Nat.mul_one]
   rw [List.length_map] at hrc
   have hsh := j6 hb
   have hcell : ∀ j u, l[j]? = some u → w.cell? ((⟨g, 0, none⟩ : Addr).add j) = some (.int .u8 u.toNat) := fun j u hj => by
     obtain ⟨v, hv, hrep⟩ := hrows.rep j 0 (fu u) (.v (.int .u8 u.toNat)) (by rw [List.getElem?_map, hj]; rfl) rfl
     rw [Nat.mul_one, Nat.add_zero] at hv
     rw [bK hrep] at hv
     have hjl := (List.getElem?_eq_some_iff.1 hv).1
     have : (⟨g, 0, none⟩ : Addr).add j = ⟨g, j, none⟩ := by
       unfold Addr.add
       by_cases h : j = 0
       · subst h; simp
       · simp [h]
     rw [this, dM hb, List.getElem?_append_left hjl]; exact hv
   have hcl : l.length ≤ (cs ++ sp).length := by rw [List.length_append]; omega
   have hr := Lib.run_unsafeString_row (P := P) w pt it ty E hp1 hc g (cs ++ sp).length hsh l h0 hcl (by unfold maxLen at hcm; omega) hcell
   have hexec : execOp a.eval ⟨some t, .call ⟨.builtin .unsafeString, #[x, y], #[pt, it]⟩, ty, pos, af, gd⟩ = (Builtin.unsafeString_ #[pt, it] ty (#[x, y].map a.eval)).bind fun r => Sem.pure (Next.value r) := rfl
   rw [hexec, show #[x, y].map a.eval = #[a.eval x, a.eval y] by simp, h1, h2, Sem.run_bind', hr]
   have hl0 : l.length ≠ 0 := fun h => h0 (List.eq_nil_of_length_eq_zero h)
   obtain ⟨f, hfz⟩ : ∃ f : Obj → Obj, w.freeze ⟨g, 0, none⟩ l.length = { w with heap := w.heap.modify g f } := ⟨_, by unfold World.freeze; rw [if_neg hl0]⟩
   refine ⟨zO, ⟨(t, true, .string ⟨l.toArray⟩) :: env, ps, hp.set i zO⟩, hK, rfl, rfl, ?_, trivial, ?_, ?_, ?_, ?_, ?_⟩
   · exact he.put (g := true) (by rw [hn]; simpa [fits] using ht) _
   · rw [hfz]
   · rw [hfz]
   · rw [hfz]; exact ⟨rfl, rfl⟩
   · rw [hfz]; simp
   · intro b' hb' hne
     rw [hfz]
     simp only [Array.getElem?_modify]
     rw [if_neg (fun h => hne ((hF b').2 h.symm))]
end
end Go.Sy

namespace Go.Proofs.YtgmiihmahaahiaaGreatDoor
open Go.RowKit Go.Lp Go.Sy
open Go.Proofs.Tryz
attribute [local irreducible] aL aB awp aC fwp
theorem xG (p : Value) (w : World) : (Extern.AbiNoEscape.same #[p]).run Tryz.prog w = .ok p w := rfl
abbrev j1 (b : Nat) (p v : Value) : Res := Box b 315 [p, v]
theorem so (b : Nat) (v : Value) : Con Tryz.prog 285 [.pointer (some ⟨b, 0, none⟩)] [] [j1 b (.pointer none) v] fun _ ps hp => ps = [] ∧ hp = [j1 b (.pointer (some ⟨b, 0, none⟩)) v] := by
 refine Con.enter Tryz.func285 rfl (by simp [Tryz.ntmps285]) ?_
 show awp _ _ _ _ ⟨[(0, true, _)], _, _⟩
 refine aSR (aM rfl (aU rfl (bq rfl) ?_))
 refine aU rfl (qFA (off := 0) rfl) ?_
 refine aU rfl (ab 0 tk313 rfl rfl rfl) ?_
 refine aU rfl (rk (by kernel_rfl) rfl) ?_
 refine aNn ?_
 refine ah _ rfl (fun h1 => ?_) (fun h1 => ?_)
 ·skip
  refine ae (aM rfl (aM rfl ?_))
  refine aU rfl (zM (t := 315) 0 (by kernel_rfl) (by kernel_rfl) (by kernel_rfl) rfl rfl (by simp)) ?_
  refine aU rfl (yT (vs := _) Tryz.func305 rfl rfl (by kernel_rfl) (by kernel_rfl) rfl (fun w => xG _ w)) ?_
  refine aU rfl (wZ (u := 315) 0 2 (by kernel_rfl) (by kernel_rfl) (by kernel_rfl) rfl rfl rfl (by kernel_rfl)) ?_
  refine aU rfl (bq rfl) ?_
  refine aU rfl (qFA (off := 0) rfl) ?_
  refine aj rfl (aT 0 tk313 rfl rfl rfl rfl ?_)
  refine aHK ?_
  refine cr ?_
  refine iL [] [0] rfl Tryz.results285 ?_ (.inl rfl)
  exact ⟨rfl, rfl⟩
 ·skip
  exact absurd h1 (by decide)
theorem rJ (b : Nat) (v : Value) : Con Tryz.prog 285 [.pointer (some ⟨b, 0, none⟩)] [] [j1 b (.pointer (some ⟨b, 0, none⟩)) v] fun _ ps hp => ps = [] ∧ hp = [j1 b (.pointer (some ⟨b, 0, none⟩)) v] := by
 refine Con.enter Tryz.func285 rfl (by simp [Tryz.ntmps285]) ?_
 show awp _ _ _ _ ⟨[(0, true, _)], _, _⟩
 refine aSR (aM rfl (aU rfl (bq rfl) ?_))
 refine aU rfl (qFA (off := 0) rfl) ?_
 refine aU rfl (ab 0 tk313 rfl rfl rfl) ?_
 refine aU rfl (wv (by kernel_rfl) rfl) ?_
 refine aNn ?_
 refine ah _ rfl (fun h1 => ?_) (fun h1 => ?_)
 ·skip
  exact absurd h1 (by decide)
 ·skip
  refine aSR (aM rfl (aU rfl (bq rfl) ?_))
  refine aU rfl (qFA (off := 0) rfl) ?_
  refine aU rfl (ab 0 tk313 rfl rfl rfl) (aM rfl ?_)
  refine aU rfl (vm (te := 315) (by kernel_rfl) (by kernel_rfl) rfl rfl) ?_
  refine aNn ?_
  refine ah _ rfl (fun h2 => ?_) (fun h2 => ?_)
  ·skip
   exact absurd h2 (by decide)
  ·skip
   refine au ?_
   refine iL [] [0] rfl Tryz.results285 ?_ (.inl rfl)
   exact ⟨rfl, rfl⟩
theorem uj (b : Nat) (p : Value) (hp : p = .pointer none ∨ p = .pointer (some ⟨b, 0, none⟩)) (v : Value) : Con Tryz.prog 285 [.pointer (some ⟨b, 0, none⟩)] [] [j1 b p v] fun _ ps hp => ps = [] ∧ hp = [j1 b (.pointer (some ⟨b, 0, none⟩)) v] := by
 rcases hp with rfl | rfl
 · exact so b v
 · exact rJ b v
theorem sg (b : Nat) (p : Value) (hp : p = .pointer none ∨ p = .pointer (some ⟨b, 0, none⟩)) (v : Value) (l : List UInt8) (hl : l.length ≤ 1000000) (u : UInt8) : Con Tryz.prog 249 [.pointer (some ⟨b, 0, none⟩), .int .u8 u.toNat] [] [j1 b p v, bA v 5 1 (l.map fu)]
   fun _ ps hp => ps = [] ∧ ∃ (ad : Option Addr) (c : Nat), hp = [j1 b (.pointer (some ⟨b, 0, none⟩)) (.slice ad (l ++ [u]).length c), bA (.slice ad (l ++ [u]).length c) 5 1 ((l ++ [u]).map fu)] := by
 refine Con.enter Tryz.func249 rfl (by simp [Tryz.ntmps249]) ?_
 show awp _ _ _ _ ⟨[(0, true, _), (1, true, _)], _, _⟩
 refine aSR (aA rfl (aNn (aSR (aM rfl ?_))))
 refine aj (q := false) rfl (bF [] [0] (by kernel_rfl) rfl rfl rfl rfl (uj b p hp v) ?_)
 rintro _ _ _ ⟨rfl, rfl⟩
 refine aST ?_
 refine aNn (aSR (aM rfl (aM rfl (aU rfl (bq rfl) ?_))))
 refine aU rfl (qFA (off := 1) rfl) ?_
 refine aU rfl (ab 0 tk280 rfl rfl rfl) (aM rfl ?_)
 refine aj (q := true) rfl (cG (zs := [.int .u8 0]) (l := [(0, .tmp 12)]) el280 (by kernel_rfl) (by decide) (by decide) (by decide) rfl rfl rfl (.more rfl (.v rfl .nil) .nil) rfl rfl (fun v2_6 => ?_))
 refine aHN ?_
 refine aj rfl (cE 1 el280 rfl rfl rfl rfl (dH 2 el280 rfl (by simp)) (by first | assumption | simp) (by show (l.map fu).length + 1 ≤ _; rw [List.length_map]; exact Nat.le_trans (Nat.add_le_add_right hl 1) (by decide)) ((l ++ [u]).length) (by show (l.map fu).length + 1 = _; rw [List.length_map, List.length_append]; rfl) (fun v2_7 c2_7 => ?_))
 refine aHK ?_
 refine aU rfl (bq rfl) ?_
 refine aU rfl (qFA (off := 1) rfl) ?_
 refine aj rfl (aT 0 tk280 rfl rfl rfl rfl ?_)
 refine aHK ?_
 refine aNn (aSR (aA rfl (aNn (aq ?_))))
 refine aV [] [0, 1] rfl Tryz.results249 rfl ?_ (.inr rfl)
 exact ⟨rfl, v2_7, c2_7, by rw [List.map_append]; rfl⟩
theorem qc (b : Nat) (p : Value) (g cp : Nat) (hcp : cp ≠ 0) (l : List UInt8) (hl : l ≠ []) : Con Tryz.prog 250 [.pointer (some ⟨b, 0, none⟩)] [] [j1 b p (.slice (some ⟨g, 0, none⟩) l.length cp), bA (.slice (some ⟨g, 0, none⟩) l.length cp) 5 1 (l.map fu)]
   fun r ps hp => ps = [] ∧ hp = [] ∧ r = .string ⟨l.toArray⟩ := by
 refine Con.enter Tryz.func250 rfl (by simp [Tryz.ntmps250]) ?_
 show awp _ _ _ _ ⟨[(0, true, _)], _, _⟩
 refine aSR (aA rfl (aNs ?_))
 refine aX [10] (by kernel_rfl) ?_
 show aB _ _ _ _ _ 12 #[false, false, false, false, false, false, false, false, false, false, false, false] _
 refine bV 0 rfl rfl (ar rfl) ?_
 refine bV 1 rfl rfl (bq rfl) ?_
 refine bV 2 rfl rfl (qFA (off := 1) rfl) ?_
 refine bV 3 rfl rfl (ab 0 tk280 rfl rfl rfl) ?_
 refine bV 4 rfl rfl (qe hcp rfl) ?_
 refine bV 5 rfl rfl (ar rfl) ?_
 refine bV 6 rfl rfl (bq rfl) ?_
 refine bV 7 rfl rfl (qFA (off := 1) rfl) ?_
 refine bV 8 rfl rfl (ab 0 tk280 rfl rfl rfl) ?_
 refine bV 9 rfl rfl (aZ Tryz.underlying280 rfl) ?_
 refine bM (q := false) 10 rfl (by kernel_rfl) rfl rfl (mf 1 (by kernel_rfl) (by kernel_rfl) hl rfl rfl rfl rfl ?_)
 refine bST rfl ?_
 refine bV 11 rfl rfl (bJ rfl) ?_
 refine bD (by kernel_rfl) ?_
 refine av (aq ?_)
 refine aV [] [] rfl Tryz.results250 rfl ?_ (.inr rfl)
 exact ⟨rfl, rfl, rfl⟩
end Go.Proofs.YtgmiihmahaahiaaGreatDoor

namespace Go.Lp
open Go.RowKit Go.Proofs.YtgmiihmahaahiaaGreatDoor
def ofBytes (l : List UInt8) : ByteArray := ⟨l.toArray⟩
def tK : List (List UInt8 × List UInt8 × List UInt8 × List UInt8) := [
 ([], [], [], []),
 ([110, 111, 112], [], [], []),
 ([115, 97, 102, 101], [], [], []),
 ([115, 101, 116], [65, 73], [], [65]),
 ([104, 105, 103, 104], [65, 73], [65], [65]),
 ([109, 111, 118, 101], [65, 66], [66], [65]),
 ([97, 100, 100], [65, 66, 67], [66, 67], [65]),
 ([115, 117, 98], [65, 66, 67], [66, 67], [65]),
 ([109, 117, 108], [65, 66, 67], [66, 67], [65]),
 ([97, 110, 100], [65, 66, 67], [66, 67], [65]),
 ([111, 114], [65, 66, 67], [66, 67], [65]),
 ([108, 101, 115, 115], [65, 66, 67], [66, 67], [65]),
 ([115, 97, 109, 101], [65, 66, 67], [66, 67], [65]),
 ([97, 100, 100, 105], [65, 66, 73], [66], [65]),
 ([97, 100, 100, 114], [65, 73], [], [65]),
 ([108, 111, 97, 100], [65, 66, 73], [66], [65]),
 ([98, 121, 116, 101], [65, 66, 73], [66], [65]),
 ([115, 116, 111, 114, 101], [65, 66, 73], [65, 66], []),
 ([112, 117, 116], [65, 66, 73], [65, 66], []),
 ([106, 117, 109, 112], [73], [], []),
 ([122, 101, 114, 111], [65, 73], [65], []),
 ([110, 111, 110, 122, 101, 114, 111], [65, 73], [65], []),
 ([99, 97, 108, 108], [73], [83], [83]),
 ([99, 97, 108, 108, 114], [65], [65, 83], [83]),
 ([99, 97, 108, 108, 115], [73], [83], [83]),
 ([106, 117, 109, 112, 115], [73], [], []),
 ([114, 101, 116, 117, 114, 110], [], [83], [83]),
 ([112, 117, 115, 104], [65], [65, 83], [83]),
 ([112, 111, 112], [65], [83], [65, 83]),
 ([116, 108, 115], [65, 66], [66], [65]),
 ([115, 121, 115], [73], [], [])]
def zY (r : List UInt8 × List UInt8 × List UInt8 × List UInt8) : List Value := [.string (ofBytes r.1), .string (ofBytes r.2.1), .string (ofBytes r.2.2.1), .string (ofBytes r.2.2.2)]
def ml : List Value := tK.flatMap zY
def aax (op : Nat) : List UInt8 := (tK.getD op ([], [], [], [])).2.1
theorem vn {k : Nat} (h : k < 31) : k = 0 ∨ k = 1 ∨ k = 2 ∨ k = 3 ∨ k = 4 ∨ k = 5 ∨ k = 6 ∨ k = 7 ∨ k = 8 ∨ k = 9 ∨ k = 10 ∨ k = 11 ∨ k = 12 ∨ k = 13 ∨ k = 14 ∨ k = 15 ∨ k = 16 ∨ k = 17 ∨ k = 18 ∨ k = 19 ∨ k = 20 ∨ k = 21 ∨ k = 22 ∨ k = 23 ∨ k = 24 ∨ k = 25 ∨ k = 26 ∨ k = 27 ∨ k = 28 ∨ k = 29 ∨ k = 30 := by omega
theorem rG {k : Nat} (h : k < 31) : ml[k * 4 + 1]? = some (.string (ofBytes (aax k))) := by
 rcases vn h with rfl | rfl | rfl | rfl | rfl | rfl | rfl | rfl | rfl | rfl | rfl | rfl | rfl | rfl | rfl | rfl | rfl | rfl | rfl | rfl | rfl | rfl | rfl | rfl | rfl | rfl | rfl | rfl | rfl | rfl | rfl <;> rfl
end Go.Lp

namespace Go.Sy
open Go.RowKit Go.Lp Go.MapKept
structure ek {α : Type} (P : Program) (kt : TypeId) (κ : α → Value) : Prop where
 inj : ∀ a b, κ a = κ b → a = b
 check : ∀ (w : World) (em : Bool) (a : α), (Instr.checkKey em 10000 kt (κ a)).run P w = .ok () w
 find : ∀ (w : World) (x : α) (es : List MapEntry), (∀ e ∈ es, ∃ a, e.key = κ a) →
   ((Instr.findKey kt (κ x) es).run P w = .ok none w ∧ ∀ e ∈ es, e.key ≠ κ x) ∨ ∃ j e, (Instr.findKey kt (κ x) es).run P w = .ok (some (j, e.val)) w ∧ es[j]? = some e ∧ e.key = κ x
 stays : ∀ (w : World) (a : α), (Instr.keyThatStays (κ a) (κ a)).run P w = .ok (κ a) w
theorem kL {α : Type} {P : Program} {kt : TypeId} {d : TypeDesc} {κ : α → Value} (hd : P.underlying kt = some d) (hk : ∀ a, IsKey d (κ a)) (inj : ∀ a b, κ a = κ b → a = b) : ek P kt κ where
 inj := inj
 check w em a := run_checkKey hd (hk a) em 9999
 find w x es hes := by
   rcases findNow_spec (hk x) es 0 (fun e he => by obtain ⟨a, ha⟩ := hes e he; rw [ha]; exact hk a) with ⟨h1, h2⟩ | ⟨j, e, h1, h2, h3⟩
   · exact .inl ⟨run_findKey hd h1, h2⟩
   · exact .inr ⟨j, e, by rw [Nat.zero_add] at h1; exact run_findKey hd h1, h2, h3⟩
 stays w a := run_keyThatStays (hk a)
theorem vN {P : Program} {kt : TypeId} (hd : P.underlying kt = some .string) : ek P kt (fun s : ByteArray => Value.string s) := kL hd (fun _ => trivial) (fun _ _ h => by injection h)
theorem zB {P : Program} {kt : TypeId} (hd : P.underlying kt = some (.int .i64)) : ek P kt (fun z : Int => Value.int .i64 z) := kL hd (fun _ => rfl) (fun _ _ h => by injection h)
section
variable {α β : Type}
structure kU (κ : α → Value) (ν : β → Value) (m : α → Option β) (es : List MapEntry) : Prop where
 of : ∀ e ∈ es, ∃ a v, e.key = κ a ∧ e.val = ν v ∧ m a = some v
 mem : ∀ a v, m a = some v → ∃ e ∈ es, e.key = κ a ∧ e.val = ν v
 apart : es.Pairwise fun e e' => e.key ≠ e'.key
def dg (b : Nat) (κ : α → Value) (ν : β → Value) (m : α → Option β) : Res :=
 ⟨fun w _ F => (∃ es clock, w.heap[b]? = some (.map es clock) ∧ kU κ ν m es.toList ∧ Stamped es clock) ∧ ∀ k, F k ↔ k = b, fun ⟨⟨es, clock, h, he⟩, hF⟩ h1 _ _ => ⟨⟨es, clock, (h1 b ((hF b).2 rfl)).trans h, he⟩, hF⟩⟩
def cC [DecidableEq α] (m : α → Option β) (k : α) (v : β) : α → Option β := fun a => if a = k then some v else m a
variable {κ : α → Value} {ν : β → Value} {m : α → Option β} {P : Program} {kt : TypeId}
theorem kU.put [DecidableEq α] (K : ek P kt κ) {es : Array MapEntry} (h : kU κ ν m es.toList) (k : α) (v : β) {clock : Nat} (h0 : ∀ e ∈ es.toList, e.key ≠ κ k) : kU κ ν (cC m k v) (es.push { key := κ k, val := ν v, born := clock }).toList where
 of e he := by
   rw [Array.toList_push, List.mem_append, List.mem_singleton] at he
   rcases he with he | rfl
   · obtain ⟨a, u, h1, h2, h3⟩ := h.of e he
     refine ⟨a, u, h1, h2, ?_⟩
     have : a ≠ k := fun e' => h0 e he (by rw [h1, e'])
     simp [cC, this, h3]
   · exact ⟨k, v, rfl, rfl, by simp [cC]⟩
 mem a u ha := by
   unfold cC at ha
   split at ha
   · rename_i hak
     simp only [Option.some.injEq] at ha
     subst hak ha
     exact ⟨_, by rw [Array.toList_push]; exact List.mem_append_right _ (List.mem_singleton.2 rfl), rfl, rfl⟩
   · obtain ⟨e, he, h1, h2⟩ := h.mem a u ha
     exact ⟨e, by rw [Array.toList_push]; exact List.mem_append_left _ he, h1, h2⟩
 apart := by
   rw [Array.toList_push, List.pairwise_append]
   exact ⟨h.apart, List.pairwise_singleton _ _, fun e he e' he' => by rw [List.mem_singleton.1 he']; exact h0 e he⟩
theorem kU.turn [DecidableEq α] (K : ek P kt κ) {es : Array MapEntry} (h : kU κ ν m es.toList) (k : α) (v : β) {j : Nat} {e0 : MapEntry} (hj : es.toList[j]? = some e0) (h0 : e0.key = κ k) :
   kU κ ν (cC m k v) (es.modify j fun e => { e with key := κ k, val := ν v }).toList := by
 have hjl : j < es.toList.length := (List.getElem?_eq_some_iff.1 hj).1
 have hg : ∀ i, (es.modify j fun e => { e with key := κ k, val := ν v }).toList[i]? = if i = j then some { e0 with key := κ k, val := ν v } else es.toList[i]? := fun i => by
   rw [Array.getElem?_toList, Array.getElem?_modify]
   by_cases hij : i = j
   · subst hij
     rw [if_pos rfl, if_pos rfl, ← Array.getElem?_toList, hj]; rfl
   · rw [if_neg hij, if_neg (Ne.symm hij), Array.getElem?_toList]
 have hpw := List.pairwise_iff_getElem.1 h.apart
 have hne : ∀ i e, es.toList[i]? = some e → i ≠ j → e.key ≠ κ k := fun i e hi hij hk => by
   obtain ⟨hil, rfl⟩ := List.getElem?_eq_some_iff.1 hi
   obtain ⟨_, rfl⟩ := List.getElem?_eq_some_iff.1 hj
   rcases Nat.lt_or_gt_of_ne hij with hlt | hlt
   · exact hpw i j hil hjl hlt (by rw [hk, h0])
   · exact hpw j i hjl hil hlt (by rw [hk, h0])
 refine ⟨fun e he => ?_, fun a u ha => ?_, ?_⟩
 · obtain ⟨i, hi⟩ := List.mem_iff_getElem?.1 he
   rw [hg] at hi
   split at hi
   · simp only [Option.some.injEq] at hi
     subst hi
     exact ⟨k, v, rfl, rfl, by simp [cC]⟩
   · rename_i hij
     obtain ⟨a, u, h1, h2, h3⟩ := h.of e (List.mem_of_getElem? hi)
     refine ⟨a, u, h1, h2, ?_⟩
     have : a ≠ k := fun e' => hne i e hi hij (by rw [h1, e'])
     simp [cC, this, h3]
 · unfold cC at ha
   split at ha
   · rename_i hak
     simp only [Option.some.injEq] at ha
     subst hak ha
     exact ⟨_, List.mem_of_getElem? (by rw [hg, if_pos rfl]), rfl, rfl⟩
   · rename_i hak
     obtain ⟨e, he, h1, h2⟩ := h.mem a u ha
     obtain ⟨i, hi⟩ := List.mem_iff_getElem?.1 he
     have hij : i ≠ j := fun hij => by
       rw [hij, hj] at hi
       simp only [Option.some.injEq] at hi
       subst hi
       exact hak (K.inj _ _ (by rw [← h1, h0]))
     exact ⟨e, List.mem_of_getElem? (i := i) (by rw [hg, if_neg hij, hi]), h1, h2⟩
 · rw [List.pairwise_iff_getElem]
   intro i i' hi hi' hlt
   have l1 := List.getElem?_eq_getElem hi
   have l2 := List.getElem?_eq_getElem hi'
   rw [hg] at l1 l2
   split at l1
   · rename_i hij
     rw [if_neg (by omega)] at l2
     simp only [Option.some.injEq] at l1
     rw [← l1]
     exact fun e => hne i' _ l2 (by omega) e.symm
   · rename_i hij
     split at l2
     · simp only [Option.some.injEq] at l2
       rw [← l2]
       exact hne i _ l1 hij
     · obtain ⟨q1, e1⟩ := List.getElem?_eq_some_iff.1 l1
       obtain ⟨q2, e2⟩ := List.getElem?_eq_some_iff.1 l2
       rw [← e1, ← e2]
       exact hpw i i' q1 q2 hlt
variable {n : Fr} {env : Env} {ps : List Per} {hp : List Res} {ty : TypeId} {pos : String} {af : Array Edge} {gd : Option (Nat × Bool)} {K : Sta → Prop} {d : Option Tmp} {q : Bool}
theorem dY {t : Nat} {T : TypeId} (κ : α → Value) (ν : β → Value) (ht : fits n (some t) = true) (hK : ∀ b, K ⟨(t, true, .map (some b)) :: env, ps, hp ++ [dg b κ ν fun _ => none]⟩) :
   Eff P n ⟨some t, .makeMap T none, ty, pos, af, gd⟩ ⟨env, ps, hp⟩ q K := .push fun w S fp a hst he hn => by
 have : (execOp a.eval ⟨some t, .makeMap T none, ty, pos, af, gd⟩).run P w = .ok (.value (.map (some w.heap.size))) (w.alloc (.map #[] 0)) := by
   show ((Instr.makeMap T none).bind fun r => Sem.pure (Next.value r)).run P w = _
   rw [Sem.run_bind']
   have : (Instr.makeMap T none).run P w = .ok (.map (some w.heap.size)) (w.alloc (.map #[] 0)) := by
     simp [Instr.makeMap, Sem.run_bind, Result.andThen, newObj, Sem.run]
   rw [this]; rfl
 rw [this]
 refine ⟨dg w.heap.size κ ν fun _ => none, fun b => b = w.heap.size, _, hK w.heap.size, rfl, rfl, he.put (g := true) (by rw [hn]; simpa [fits] using ht) _, eZ _ _, ⟨⟨#[], 0, jH _ _, ⟨fun e he => (by simp at he), fun a v h => (by cases h), List.Pairwise.nil⟩, stamped_empty 0⟩, fun _ => Iff.rfl⟩, fun b hb => ?_⟩
 subst hb
 exact ⟨Nat.le_refl _, by rw [World.size_alloc]; omega⟩
theorem cY [DecidableEq α] {T E : TypeId} {x y z : Operand} {b : Nat} {k : α} {v : β} (i : Nat) (hT : P.underlying T = some (.map kt E)) (KO : ek P kt κ) (hx : ev env x = some (true, .map (some b))) (hy : ev env y = some (true, κ k)) (hz : ev env z = some (true, ν v)) (hi : hp[i]? = some (dg b κ ν m))
   (hK : K ⟨env, ps, hp.set i (dg b κ ν (cC m k v))⟩) : Eff P n ⟨none, .mapUpdate T x y z, ty, pos, af, gd⟩ ⟨env, ps, hp⟩ false K := .change i hi fun w S fp a hst he hn ⟨⟨es, clock, hb, hes, hsm⟩, hF⟩ => by
 have h1 := he.val hx rfl
 have h2 := he.val hy rfl
 have h3 := he.val hz rfl
 have key : ∃ es' clock', (Instr.mapUpdate T (.map (some b)) (κ k) (ν v)).run P w = .ok () (w.putObj b (.map es' clock')) ∧ kU κ ν (cC m k v) es'.toList ∧ Stamped es' clock' := by
   rcases KO.find w k es.toList (fun e he => let ⟨a, _, h, _⟩ := hes.of e he; ⟨a, h⟩) with ⟨f1, f2⟩ | ⟨j, e0, f1, f2, f3⟩
   · refine ⟨es.push { key := κ k, val := ν v, born := clock }, clock + 1, ?_, hes.put KO k v f2, stamped_push hsm f2⟩
     simp only [Instr.mapUpdate, Sem.run_bind, run_underlying hT, Result.andThen, Go.MapKept.run_getObj_map hb, KO.check, f1, Go.MapKept.run_setObj_map _ hb]
     rfl
   · refine ⟨es.modify j fun e => { e with key := κ k, val := ν v }, clock, ?_, hes.turn KO k v f2 f3, stamped_modify hsm j _ (fun _ _ => rfl) (fun e he h => by rw [← Array.getElem?_toList, f2] at h; obtain rfl := Option.some.inj h; exact f3.symm)⟩
     have f2' : es[j]? = some e0 := by rw [← Array.getElem?_toList]; exact f2
     simp only [Instr.mapUpdate, Sem.run_bind, run_underlying hT, Result.andThen, Go.MapKept.run_getObj_map hb, KO.check, f1, f2', Option.map_some, Option.getD_some, f3, KO.stays, Go.MapKept.run_setObj_map _ hb]
     rfl
 obtain ⟨es', clock', hrun, hes'⟩ := key
 have : (execOp a.eval ⟨none, .mapUpdate T x y z, ty, pos, af, gd⟩).run P w = .ok .skip (w.putObj b (.map es' clock')) := by
   unfold execOp; dsimp only; rw [h1, h2, h3]
   show ((Instr.mapUpdate T (.map (some b)) (κ k) (ν v)).bind fun _ => Sem.pure Next.skip).run P w = _
   rw [Sem.run_bind', hrun]; rfl
 rw [this]
 have hbl := (Array.getElem?_eq_some_iff.1 hb).1
 exact ⟨dg b κ ν (cC m k v), _, hK, rfl, rfl, he, ⟨⟨es', clock', World.putObj_heap_same hbl, hes'⟩, hF⟩, rfl, rfl, ⟨rfl, rfl⟩, by rw [World.putObj_size]; exact Nat.le_refl _, fun b' _ hb' => World.putObj_heap_other (fun e => hb' ((hF b').2 e))⟩
theorem qK {T E : TypeId} {x y : Operand} {b : Nat} {k : α} {v0 : β} (i : Nat) (ok : Bool) (hT : P.underlying T = some (.map kt E)) (KO : ek P kt κ) (hz : (P.info? E).bind (·.zero) = some (ν v0)) (hx : ev env x = some (true, .map (some b))) (hy : ev env y = some (true, κ k)) (hi : hp[i]? = some (dg b κ ν m)) :
   Quiet P n ⟨d, .lookup T x y ok, ty, pos, af, gd⟩ ⟨env, ps, hp⟩ (bif ok then .tuple #[ν ((m k).getD v0), .bool (m k).isSome] else ν ((m k).getD v0)) := fun w S fp a hst he hn => by
 have h1 := he.val hx rfl
 have h2 := he.val hy rfl
 obtain ⟨⟨es, clock, hb, hes, _⟩, hF⟩ := hst.res i _ hi
 have hzr : (zeroValue E).run P w = .ok (ν v0) w := by
   cases hE : P.info? E with
   | none => rw [hE] at hz; cases hz
   | some it =>
     rw [hE, Option.bind_some] at hz
     simp [zeroValue, typeInfo, hE, hz]
 have hrun : (Instr.lookup T (.map (some b)) (κ k) ok).run P w = .ok (bif ok then .tuple #[ν ((m k).getD v0), .bool (m k).isSome] else ν ((m k).getD v0)) w := by
   rcases KO.find w k es.toList (fun e he => let ⟨a, _, h, _⟩ := hes.of e he; ⟨a, h⟩) with ⟨f1, f2⟩ | ⟨j, e0, f1, f2, f3⟩
   · have hm : m k = none := by
       cases hmk : m k with
       | none => rfl
       | some u => obtain ⟨e, he, g1, _⟩ := hes.mem k u hmk; exact (f2 e he g1).elim
     rw [hm]
     simp only [Instr.lookup, Sem.run_bind, run_underlying hT, Result.andThen, Go.MapKept.run_getObj_map hb, KO.check, f1, hzr, Sem.run_pure]
     cases ok <;> rfl
   · obtain ⟨a, u, g1, g2, g3⟩ := hes.of e0 (List.mem_of_getElem? f2)
     obtain rfl : a = k := KO.inj _ _ (by rw [← g1, f3])
     rw [g3]
     simp only [Instr.lookup, Sem.run_bind, run_underlying hT, Result.andThen, Go.MapKept.run_getObj_map hb, KO.check, f1, Sem.run_pure, g2]
     cases ok <;> rfl
 have : (execOp a.eval ⟨d, .lookup T x y ok, ty, pos, af, gd⟩).run P w = .ok (.value (bif ok then .tuple #[ν ((m k).getD v0), .bool (m k).isSome] else ν ((m k).getD v0))) w := by
   unfold execOp; dsimp only; rw [h1, h2]
   show ((Instr.lookup T (.map (some b)) (κ k) ok).bind fun r => Sem.pure (Next.value r)).run P w = _
   rw [Sem.run_bind', hrun]; rfl
 rw [this]; exact bY _ _
theorem gk {T E : TypeId} {x y : Operand} {b : Nat} {k : α} {v0 : β} (i : Nat) (hT : P.underlying T = some (.map kt E)) (KO : ek P kt κ) (hz : (P.info? E).bind (·.zero) = some (ν v0)) (hx : ev env x = some (true, .map (some b))) (hy : ev env y = some (true, κ k)) (hi : hp[i]? = some (dg b κ ν m)) :
   Quiet P n ⟨d, .lookup T x y false, ty, pos, af, gd⟩ ⟨env, ps, hp⟩ (ν ((m k).getD v0)) := qK i false hT KO hz hx hy hi
theorem qL {T E : TypeId} {x y : Operand} {b : Nat} {k : α} {v0 : β} (i : Nat) (hT : P.underlying T = some (.map kt E)) (KO : ek P kt κ) (hz : (P.info? E).bind (·.zero) = some (ν v0)) (hx : ev env x = some (true, .map (some b))) (hy : ev env y = some (true, κ k)) (hi : hp[i]? = some (dg b κ ν m)) :
   Quiet P n ⟨d, .lookup T x y true, ty, pos, af, gd⟩ ⟨env, ps, hp⟩ (.tuple #[ν ((m k).getD v0), .bool (m k).isSome]) := qK i true hT KO hz hx hy hi
end
end Go.Sy

namespace Go.Sy
open Go.RowKit
section
variable {P : Program} {n : Fr} {s : Sta} {d : Option Tmp} {ty : TypeId} {pos : String} {af : Array Edge} {gd : Option (Nat × Bool)} {x y : Operand} {t t' : TypeId}
theorem mo {xs ys : Array Value} {b : Bool} (hT : P.underlying t = some (.struct (P.fieldsOf t))) (hp : P.stoodInHeld t = false) (hm : P.eqGuardType P.depth t = false)
   (hr : ∀ w, (Op.eqFields 9999 xs ys (P.fieldsOf t).toList).run P w = .ok b w) (hx : ev s.env x = some (true, .agg xs)) (hy : ev s.env y = some (true, .agg ys)) : Quiet P n ⟨d, .binOp .eql t x y t', ty, pos, af, gd⟩ s (.bool b) :=
 .run2 hx hy fun ρ w h1 h2 => by
   unfold execOp; dsimp only; rw [h1, h2]
   simp only [Sem.run_bind, run_eqGuard_agg w _ t _ _ xs ys hm, Result.andThen_ok, run_eql_struct, run_equalIn_struct w 9999 t xs ys hT hp, hr w]
   rfl
theorem si {xs ys : Array Value} {b : Bool} (hT : P.underlying t = some (.struct (P.fieldsOf t))) (hp : P.stoodInHeld t = false) (hm : P.eqGuardType P.depth t = false)
   (hr : ∀ w, (Op.eqFields 9999 xs ys (P.fieldsOf t).toList).run P w = .ok b w) (hx : ev s.env x = some (true, .agg xs)) (hy : ev s.env y = some (true, .agg ys)) : Quiet P n ⟨d, .binOp .neq t x y t', ty, pos, af, gd⟩ s (.bool (!b)) :=
 .run2 hx hy fun ρ w h1 h2 => by
   unfold execOp; dsimp only; rw [h1, h2]
   simp only [Sem.run_bind, run_eqGuard_agg w _ t _ _ xs ys hm, Result.andThen_ok, run_neq_struct, run_equalIn_struct w 9999 t xs ys hT hp, hr w]
   rfl
theorem sY {k yk : IntKind} {a b : Int} (hx : ev s.env x = some (true, .int k a)) (hy : ev s.env y = some (true, .int yk b)) (hb : 0 ≤ b) : Quiet P n ⟨d, .binOp .shl t x y t', ty, pos, af, gd⟩ s (.int k (k.wrap (a * 2 ^ min b.toNat k.bits))) :=
 .run2 hx hy fun ρ w h1 h2 => by
   have e : Op.shift .shl k a yk b = pure (.int k (k.wrap (a * 2 ^ min b.toNat k.bits))) := by unfold Op.shift; rw [if_neg (by omega)]
   unfold execOp; dsimp only; rw [h1, h2]
   have e2 : (do eqGuard BinOp.shl t x y (Value.int k a) (Value.int yk b); binOp BinOp.shl t (Value.int k a) (Value.int yk b)) = Op.shift .shl k a yk b := by cases k <;> cases yk <;> rfl
   rw [e2, e]; rfl
theorem nX {k yk : IntKind} {a b : Int} (hx : ev s.env x = some (true, .int k a)) (hy : ev s.env y = some (true, .int yk b)) (hb : 0 ≤ b) : Quiet P n ⟨d, .binOp .shr t x y t', ty, pos, af, gd⟩ s (.int k (a.fdiv (2 ^ min b.toNat k.bits))) :=
 .run2 hx hy fun ρ w h1 h2 => by
   have e : Op.shift .shr k a yk b = pure (.int k (a.fdiv (2 ^ min b.toNat k.bits))) := by unfold Op.shift; rw [if_neg (by omega)]
   unfold execOp; dsimp only; rw [h1, h2]
   have e2 : (do eqGuard BinOp.shr t x y (Value.int k a) (Value.int yk b); binOp BinOp.shr t (Value.int k a) (Value.int yk b)) = Op.shift .shr k a yk b := by cases k <;> cases yk <;> rfl
   rw [e2, e]; rfl
theorem tq {k : IntKind} {a b : Int} (hx : ev s.env x = some (true, .int k a)) (hy : ev s.env y = some (true, .int k b)) : Quiet P n ⟨d, .binOp .or t x y t', ty, pos, af, gd⟩ s (.int k (k.wrap (BitVec.ofInt k.bits a ||| BitVec.ofInt k.bits b).toNat)) :=
 .run2 hx hy fun ρ w h1 h2 => by
   unfold execOp; dsimp only; rw [h1, h2]; cases k <;> rfl
theorem sf {k : IntKind} {a b : Int} (hx : ev s.env x = some (true, .int k a)) (hy : ev s.env y = some (true, .int k b)) : Quiet P n ⟨d, .binOp .and t x y t', ty, pos, af, gd⟩ s (.int k (k.wrap (BitVec.ofInt k.bits a &&& BitVec.ofInt k.bits b).toNat)) :=
 .run2 hx hy fun ρ w h1 h2 => by
   unfold execOp; dsimp only; rw [h1, h2]; cases k <;> rfl
end
end Go.Sy
namespace Go.Sy
open Go.RowKit
def kD (P : Program) (t : TypeId) : Bool := match P.underlying t with
 | some (.int _) => true
 | _ => false
def eL (xs : Array Value) (o : Nat) : Option Int := match xs[o]? with
 | some (.int .i64 a) => some a
 | _ => none
def et (xs ys : Array Value) (l : List Nat) : Bool := l.all fun o => match eL xs o, eL ys o with
 | some a, some b => a == b
 | _, _ => true
def dP (xs : Array Value) (l : List Nat) : Bool := l.all fun o => (eL xs o).isSome
theorem jb {P : Program} (d : Nat) (xs ys : Array Value) : ∀ (fs : List Field) (w : World), fs.all (fun f => decide (f.name ≠ "_") && kD P f.type) = true → dP xs (fs.map (·.offset)) = true → dP ys (fs.map (·.offset)) = true →
   (Op.eqFields (d + 1) xs ys fs).run P w = .ok (et xs ys (fs.map (·.offset))) w
 | [], w, _, _, _ => rfl
 | f :: fs, w, h, hx, hy => by
   simp only [List.all_cons, Bool.and_eq_true, decide_eq_true_eq] at h
   obtain ⟨⟨h1, h2⟩, h3⟩ := h
   simp only [dP, List.map_cons, List.all_cons, Bool.and_eq_true] at hx hy
   have ih := jb d xs ys fs w h3 hx.2 hy.2
   obtain ⟨k, hk⟩ : ∃ k, P.underlying f.type = some (.int k) := by
     unfold kD at h2; split at h2
     · exact ⟨_, by assumption⟩
     · cases h2
   have hp : P.plainKey f.type = true := by unfold Program.plainKey; rw [hk]
   have key : ∀ zs : Array Value, (eL zs f.offset).isSome = true → ∃ a, zs[f.offset]? = some (.int .i64 a) ∧ eL zs f.offset = some a := fun zs hz => by
     unfold eL at hz ⊢
     split at hz
     · rename_i a hh; exact ⟨a, hh, rfl⟩
     · cases hz
   obtain ⟨a, ha, ha'⟩ := key xs hx.1
   obtain ⟨b, hb, hb'⟩ := key ys hy.1
   simp only [Op.eqFields, if_pos h1, Sem.run_bind, run_part_plain w hp ha, run_part_plain w hp hb, Result.andThen_ok, run_equalIn_int w d f.type .i64 k a b hk, Sem.run_ite, Sem.run_pure, ih]
   simp only [et, List.map_cons, List.all_cons, ha', hb']
   cases h : (a == b) <;> simp
end Go.Sy

