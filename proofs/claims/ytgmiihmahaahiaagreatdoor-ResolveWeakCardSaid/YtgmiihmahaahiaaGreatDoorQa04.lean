/- Parts of the proof, in build order. No condition. -/
import Derived.Test.YtgmiihmahaahiaaGreatDoorQa03
import Derived.Test.YtgmiihmahaahiaaGreatDoorQa02
import Derived.Lib.UnsafeStr
import Derived.Lib.Builder
set_option linter.unusedSimpArgs false
set_option linter.unusedVariables false
set_option maxHeartbeats 1000000
set_option maxRecDepth 20000
namespace Go.Sy
open Go.RowKit Go.Lp
theorem St.split {w : World} {S : Blks} {fp : Nat → Blks} {ps : List Per} {hp : List Res} (h : St w S fp ps hp) {i : Nat} {R R' : Res} (hi : hp[i]? = some (Star R R')) :
   ∃ fp', St w S fp' ps (hp.set i R ++ [R']) ∧ ∀ b, tot fp' (hp.set i R ++ [R']).length b → tot fp hp.length b := by
 obtain ⟨G, H, h1, h2, h3, h4⟩ := h.res i _ hi
 have hil := (List.getElem?_eq_some_iff.1 hi).1
 have hG : ∀ b, G b → fp i b := fun b hb => (h4 b).2 (.inl hb)
 have hH : ∀ b, H b → fp i b := fun b hb => (h4 b).2 (.inr hb)
 have hlen : (hp.set i R ++ [R']).length = hp.length + 1 := by simp
 refine ⟨fun k => if k = i then G else if k = hp.length then H else fp k, ⟨h.per, fun k T hk => ?_, fun k hk b hb => ?_, fun k l hk hl hkl b hb hb' => ?_, h.slt⟩, fun b ⟨k, hk, hb⟩ => ?_⟩
 · by_cases hkl : k = hp.length
   · subst hkl
     rw [List.getElem?_append_right (by simp)] at hk
     simp at hk
     subst hk
     rw [if_neg (by omega), if_pos rfl]; exact h2
   · have hkl' : k < hp.length := by have := (List.getElem?_eq_some_iff.1 hk).1; rw [hlen] at this; omega
     rw [List.getElem?_append_left (by simpa using hkl')] at hk
     by_cases hki : k = i
     · subst hki
       rw [List.getElem?_set_self hil] at hk
       simp only [Option.some.injEq] at hk
       subst hk
       rw [if_pos rfl]; exact h1
     · rw [List.getElem?_set_ne (Ne.symm hki)] at hk
       rw [if_neg hki, if_neg hkl]; exact h.res k T hk
 · rw [hlen] at hk
   try dsimp only at hb
   split at hb
   · exact h.lt i hil b (hG b hb)
   · split at hb
     · exact h.lt i hil b (hH b hb)
     · exact h.lt k (by omega) b hb
 · rw [hlen] at hk hl
   try dsimp only at hb hb'
   split at hb
   · subst k
     rw [if_neg (Ne.symm hkl)] at hb'
     split at hb'
     · exact h3 b hb hb'
     · exact h.dj i l hil (by omega) hkl b (hG b hb) hb'
   · rename_i hki
     split at hb
     · subst k
       split at hb'
       · exact h3 b hb' hb
       · rw [if_neg (Ne.symm hkl)] at hb'
         exact h.dj i l hil (by omega) (by omega) b (hH b hb) hb'
     · rename_i hkn
       split at hb'
       · exact h.dj k i (by omega) hil hki b hb (hG b hb')
       · split at hb'
         · exact h.dj k i (by omega) hil hki b hb (hH b hb')
         · exact h.dj k l (by omega) (by omega) hkl b hb hb'
 · rw [hlen] at hk
   try dsimp only at hb
   split at hb
   · exact ⟨i, hil, hG b hb⟩
   · split at hb
     · exact ⟨i, hil, hH b hb⟩
     · exact ⟨k, by omega, hb⟩
section
variable {P : Program} {n : Fr} {env : Env} {ps : List Per} {hp : List Res} {c : Code} {Q : Exit → Sta → Prop}
theorem awp_split (i : Nat) {R R' : Res} (hi : hp[i]? = some (Star R R')) (h : awp P n c Q ⟨env, ps, hp.set i R ++ [R']⟩) : awp P n c Q ⟨env, ps, hp⟩ := awp_st (fun _ _ _ hst => hst.split hi) h
end
section
variable {P : Program} {n : Fr} {env : Env} {ps : List Per} {hp : List Res} {c : Code} {Q : Exit → Sta → Prop}
theorem awp_conv (i : Nat) {R : Res} (R' : Res) (hi : hp[i]? = some R) (hc : ∀ w S F, R.holds w S F → R'.holds w S F) (h : awp P n c Q ⟨env, ps, hp.set i R'⟩) : awp P n c Q ⟨env, ps, hp⟩ := fun w S fp a hst he hn hd => by
 have hil := (List.getElem?_eq_some_iff.1 hi).1
 have := h w S fp a (hst.change hil (Nat.le_refl _) (fun _ _ _ => rfl) R' (hc _ _ _ (hst.res i R hi))) he hn hd
 rwa [show ({ env := env, ps := ps, hp := hp.set i R' } : Sta).hp.length = hp.length by simp] at this
end
end Go.Sy

namespace Go.Sy
open Go.RowKit Go.Lp
section
variable {w : World} {S F : Blks} {A B C R : Res}
theorem own_rep {v : Value} {T : TypeId} {sz : Nat} {rows : List (List D)} (hr : (OwnS v T sz rows).holds w S F) : RepD w (fun b => S b ∨ F b) v (.sl rows) := by
 have hS : ∀ b, S b → (S b ∨ F b) := fun _ h => .inl h
 rcases hr with ⟨rfl, rfl, _⟩ | ⟨b, cap, rfl, ⟨cs, sp, hb, hrows, hl, hle, hcap⟩, hF⟩
 · exact .e none 0 (by unfold maxLen; omega)
 · refine .sl b 0 cap sz rows (fun i j => cs.getD (i * sz + j) undef) (.inr ((hF b).2 rfl)) hle hcap hrows.row (fun i j r d h1 h2 => ?_) (fun i j r d h1 h2 => ?_)
   · obtain ⟨u, hu, _⟩ := hrows.rep i j r d h1 h2
     have e : cs.getD (i * sz + j) undef = u := by simp [List.getD, hu]
     rw [e]
     refine ⟨?_, hrows.one u (List.mem_of_getElem? hu)⟩
     rw [Nat.zero_add, cell_box hb, List.getElem?_append_left (List.getElem?_eq_some_iff.1 hu).1]; exact hu
   · obtain ⟨u, hu, hr⟩ := hrows.rep i j r d h1 h2
     have e : cs.getD (i * sz + j) undef = u := by simp [List.getD, hu]
     rw [e]
     exact hr.mono (fun _ _ => rfl) hS
end
theorem st_shareR {w : World} {S : Blks} {fp : Nat → Blks} {ps : List Per} {hp : List Res} (hst : St w S fp ps hp) (i : Nat) {R : Res} (hi : hp[i]? = some R) {p : Per} (h : ∀ w S F, R.holds w S F → p.holds w (fun b => S b ∨ F b)) :
   St w (fun b => S b ∨ fp i b) (fun k => if k = i then (fun _ => False) else fp k) (p :: ps) (hp.set i emp) := by
 have hil := (List.getElem?_eq_some_iff.1 hi).1
 have hr := hst.res i _ hi
 have hst0 := hst.drop i
 have hS : ∀ b, S b → (S b ∨ fp i b) := fun _ h => .inl h
 refine ⟨fun p' hp' => ?_, fun j R hj => R.mono (hst0.res j R hj) (fun _ _ => rfl) (fun _ _ => rfl) hS, fun j hj b hb => ?_, hst0.dj, fun b hb => hb.elim (hst.slt b) (fun h => (hst.lt i hil b h).1)⟩
 · rcases List.mem_cons.1 hp' with rfl | h2
   · exact h w S (fp i) hr
   · exact p'.mono (hst.per p' h2) (fun _ _ => rfl) hS
 · have hj' : j < hp.length := by simpa using hj
   by_cases hji : j = i
   · rw [if_pos hji] at hb; exact hb.elim
   · rw [if_neg hji] at hb
     exact ⟨(hst.lt j hj' b hb).1, fun h => h.elim (hst.lt j hj' b hb).2 (hst.dj j i hj' hil hji b hb)⟩
section
variable {P : Program} {n : Fr} {env : Env} {ps : List Per} {hp : List Res} {c : Code} {Q : Exit → Sta → Prop}
theorem awp_shareR (i : Nat) {R : Res} (p : Per) (hi : hp[i]? = some R) (h0 : ∀ w S F, R.holds w S F → p.holds w (fun b => S b ∨ F b)) (h : awp P n c Q ⟨env, p :: ps, hp.set i emp⟩) : awp P n c Q ⟨env, ps, hp⟩ := fun w S fp a hst he hn hd => by
 have hil := (List.getElem?_eq_some_iff.1 hi).1
 have h1 := st_shareR hst i hi h0
 have htot : ∀ b, tot (fun k => if k = i then (fun _ => False) else fp k) (hp.set i emp).length b → tot fp hp.length b := fun b ⟨j, hj, hb⟩ => by
   dsimp only at hb
   by_cases hji : j = i
   · rw [if_pos hji] at hb; exact hb.elim
   · rw [if_neg hji] at hb; exact ⟨j, by simpa using hj, hb⟩
 have hE : Evo w S (tot fp hp.length) w (fun b => S b ∨ fp i b) := ⟨rfl, rfl, rfl, Nat.le_refl _, Nat.le_refl _, fun _ _ _ => rfl, fun _ h => .inl h, fun b hb => hb.elim .inl fun h => .inr (.inl ⟨i, hil, h⟩)⟩
 exact cwp_mono (fun e a2 w2 hp2 => hp2.trans hE (fun b hb => .inl (htot b hb))) (h w _ _ a h1 he hn hd)
theorem awp_shareB (i : Nat) {b : Nat} {T : TypeId} {cs : List Value} (hi : hp[i]? = some (Box b T cs)) (h1 : cs.all (·.oneCell') = true) (h : awp P n c Q ⟨env, At b 0 (cs.map D.v) :: ps, hp.set i emp⟩) : awp P n c Q ⟨env, ps, hp⟩ :=
 awp_shareR i (At b 0 (cs.map D.v)) hi (fun w S F ⟨hb, hF⟩ => ⟨.inr ((hF b).2 rfl), fun j d hj => by
   rw [List.getElem?_map] at hj
   cases hc : cs[j]? with
   | none => rw [hc] at hj; cases hj
   | some u =>
     rw [hc] at hj
     simp only [Option.map_some, Option.some.injEq] at hj
     exact ⟨u, by rw [Nat.zero_add, cell_box hb]; exact hc, List.all_eq_true.1 h1 u (List.mem_of_getElem? hc), by rw [← hj]; exact .v u⟩⟩) h
end
section
variable {α : Type} [Inhabited α] {enc : α → Value}
def vrows (vs : List Value) : List (List D) := vs.map fun v => [.v v]
@[simp] theorem vrows_len (vs : List Value) : (vrows vs).length = vs.length := by simp [vrows]
variable {P : Program} {n : Fr} {env : Env} {ps : List Per} {hp : List Res} {c : Code} {Q : Exit → Sta → Prop} {vo : Value} {T E : TypeId} {l : List (List α)}
end
end Go.Sy

namespace Go.Sy
open Go.RowKit Go.Lp
def markD (D : Nat) : Deferred := { target := .collected D, args := #[] }
theorem Evo.putObj {w : World} {S X : Blks} {l : Nat} {o : Obj} (hl : X l) : Evo w S X (w.putObj l o) S where
 os := rfl
 tape := rfl
 output := rfl
 size := by rw [World.putObj_size]; exact Nat.le_refl _
 drawn := Nat.le_refl _
 block b _ hx := World.putObj_heap_other (fun e => hx (by rw [e]; exact hl))
 more _ h := h
 new _ h := .inl h
theorem St.putObj {w : World} {S : Blks} {fp : Nat → Blks} {ps : List Per} {hp : List Res} (h : St w S fp ps hp) {i l : Nat} (hi : i < hp.length) (hl : fp i l) (o : Obj) (R : Res) (hR : R.holds (w.putObj l o) S (fp i)) : St (w.putObj l o) S fp ps (hp.set i R) :=
 h.change hi (by rw [World.putObj_size]; exact Nat.le_refl _) (fun b _ hb => World.putObj_heap_other (fun e => hb (by rw [e]; exact hl))) R hR

def ConY (P : Program) (l : Nat) (args : List Value) (ps : List Per) (hp : List Res) (R : Value → List Per → List Res → Prop) : Prop :=
 ∀ (w : World) (S : Blks) (fp : Nat → Blks), St w S fp ps hp → uponU P (fun v w' => ∃ ps' hp' S' fp', R v ps' hp' ∧ St w' S' fp' ps' hp' ∧ Evo w S (tot fp hp.length) w' S' ∧ ∀ b, tot fp' hp'.length b → tot fp hp.length b ∨ w.heap.size ≤ b) ((Instr.yield l args.toArray).run P w)
section
variable {P : Program} {n : Fr} {env : Env} {ps : List Per} {hp : List Res} {ty : TypeId} {pos : String} {af : Array Edge} {gd : Option (Nat × Bool)} {K : Sta → Prop} {d : Option Tmp}
end
def PostW (P : Program) (fn : Func) (R : Value → List Per → List Res → Prop) (w : World) (S X : Blks) (e : Exit) (a' : Act) (w' : World) : Prop :=
 (e = .normal ∨ e = .ret) ∧ ∃ (v : Value) (ds : List Nat) (ps' : List Per) (hp' : List Res) (S' : Blks) (fp' : Nat → Blks), (∀ w2, (results fn a'.tmps).run P w2 = .ok v w2) ∧ a'.defers = ds.map markD ∧ ds.Nodup ∧ R v ps' hp' ∧ St w' S' fp' ps' hp' ∧ Evo w S X w' S' ∧ (∀ b, tot fp' hp'.length b → X b ∨ w.heap.size ≤ b) ∧
   ∀ D ∈ ds, w'.heap[D]? = some (.deferred (some [])) ∧ ¬ S' D ∧ ¬ tot fp' hp'.length D ∧ (X D ∨ w.heap.size ≤ D)
def fwp (P : Program) (fn : Func) (n : Fr) (c : Code) (R : Value → List Per → List Res → Prop) (s : Sta) : Prop :=
 ∀ (w : World) (S : Blks) (fp : Nat → Blks) (a : Act), St w S fp s.ps s.hp → EnvOk a s.env → a.tmps.size = n.size → a.defers = n.dfr → c.wpIn (fnc n.ro) 0 P (PostW P fn R w S (tot fp s.hp.length)) a w
section
variable {P : Program} {fn : Func} {n : Fr} {R : Value → List Per → List Res → Prop} {s : Sta}
theorem PostW.trans {w w1 : World} {S X S1 X1 : Blks} (hE : Evo w S X w1 S1) (hX : ∀ b, X1 b → X b ∨ w.heap.size ≤ b) {e : Exit} {a : Act} {w2 : World} (h : PostW P fn R w1 S1 X1 e a w2) : PostW P fn R w S X e a w2 := by
 obtain ⟨he, v, ds, ps', hp', S', fp', h1, h2, h3, h4, h5, h6, h7, h8⟩ := h
 have hX' : ∀ b, X1 b ∨ w1.heap.size ≤ b → X b ∨ w.heap.size ≤ b := fun b hb => hb.elim (hX b) (fun h => .inr (Nat.le_trans hE.size h))
 exact ⟨he, v, ds, ps', hp', S', fp', h1, h2, h3, h4, h5, hE.trans h6 hX, fun b hb => hX' b (h7 b hb), fun D hD => let ⟨a1, a2, a3, a4⟩ := h8 D hD; ⟨a1, a2, a3, hX' D a4⟩⟩
end
end Go.Sy

namespace Go.Sy
open Go.RowKit Go.Lp
structure Sl (α : Type) where
 ad : Option Addr
 cap : Nat
 l : List α
instance {α : Type} : Inhabited (Sl α) := ⟨⟨none, 0, []⟩⟩
abbrev Sl.val {α : Type} (s : Sl α) : Value := .slice s.ad s.l.length s.cap
abbrev ShF {α : Type} (row : α → List D) (s : Sl α) : Per := Sh (.slice s.ad s.l.length s.cap) (.sl (s.l.map row))
def AllF {α : Type} (p : α → Per) (l : List α) : Per := ⟨fun w S => ∀ x ∈ l, (p x).holds w S, fun h h1 h2 x hx => (p x).mono (h x hx) h1 h2⟩
def AndP (p q : Per) : Per := ⟨fun w S => p.holds w S ∧ q.holds w S, fun h h1 h2 => ⟨p.mono h.1 h1 h2, q.mono h.2 h1 h2⟩⟩
section
variable {α : Type} {ps : List Per} {p q : Per}
theorem Ent.all {f : α → Per} {l : List α} {i : Nat} {x : α} (h : Ent ps (AllF f l)) (hx : l[i]? = some x) : Ent ps (f x) := fun w S hp => h w S hp x (List.mem_of_getElem? hx)
theorem Ent.allm {f : α → Per} {l : List α} {x : α} (h : Ent ps (AllF f l)) (hx : x ∈ l) : Ent ps (f x) := fun w S hp => h w S hp x hx
theorem Ent.left (h : Ent ps (AndP p q)) : Ent ps p := fun w S hp => (h w S hp).1
theorem Ent.right (h : Ent ps (AndP p q)) : Ent ps q := fun w S hp => (h w S hp).2
theorem Ent.yes {c : Bool} (h : Ent ps (cnd c p)) (hc : c = true) : Ent ps p := fun w S hp => h w S hp hc
theorem rows_get {row : α → List D} {l : List α} {i : Nat} {x : α} (h : l[i]? = some x) : (l.map row)[i]? = some (row x) := by rw [List.getElem?_map, h]; rfl
end
theorem Con.quiet2 {P : Program} {v : Value} {f : FuncId} {args : List Value} {p q : Per} (h : Con P f args [p, q] [] fun u _ _ => u = v) {w : World} {S : Blks} {fp : Nat → Blks} {ps' : List Per} {hp : List Res} (hp1 : p ∈ ps') (hq1 : q ∈ ps') (hst : St w S fp ps' hp) :
   Calls P f args.toArray w fun e w' => e = .returned v ∧ Below w.heap.size w w' := h.quiet (fun _ h => by
     rcases List.mem_cons.1 h with rfl | h
     · exact hp1
     · rw [List.mem_singleton.1 h]; exact hq1) hst
theorem awp_lenE {P : Program} {n : Fr} {Q : Exit → Sta → Prop} {s : Sta} {c : Code} {ad : Option Addr} {m cp : Nat} {rows : List (List D)} (hs : Ent s.ps (Sh (.slice ad m cp) (.sl rows))) (h : m ≤ 9223372036854775807 → awp P n c Q s) : awp P n c Q s :=
 awp_know (fun w S fp hst => by
   have h : RepD w S (.slice ad m cp) (.sl rows) := hs w S hst.per
   cases h with
   | e a c hc => simp
   | sl b o c sz rows us hb hn hc _ _ _ => unfold maxLen at hc; omega) h
theorem awp_form {P : Program} {n : Fr} {Q : Exit → Sta → Prop} {s : Sta} {c : Code} {v : Value} {rows : List (List D)} (hs : Ent s.ps (Sh v (.sl rows))) (h : ∀ ad k, v = .slice ad rows.length k → awp P n c Q s) : awp P n c Q s :=
 awp_know (φ := ∃ ad k, v = .slice ad rows.length k) (fun w S fp hst => by
   have h : RepD w S v (.sl rows) := hs w S hst.per
   cases h with
   | e a c hc => exact ⟨_, _, rfl⟩
   | sl b o c sz rows us hb hn hc _ _ _ => exact ⟨_, _, rfl⟩) (fun ⟨ad, k, e⟩ => h ad k e)
theorem aw_hp {P : Program} {n : Fr} {Q : Exit → Sta → Prop} {env : Env} {ps : List Per} {hp hp' : List Res} {c : Code} (h : hp = hp') (k : awp P n c Q ⟨env, ps, hp'⟩) : awp P n c Q ⟨env, ps, hp⟩ := h ▸ k
def elt {α : Type} [Inhabited α] (l : List α) (i : Int) : α := l.getD i.toNat default
theorem elt_some {α : Type} [Inhabited α] {l : List α} {i : Int} (h : i < l.length) (h0 : 0 ≤ i) : l[i.toNat]? = some (elt l i) := by
 have : i.toNat < l.length := by omega
 simp [elt, List.getD, this]
theorem elt_nat {α : Type} [Inhabited α] {l : List α} {i : Nat} (h : i < l.length) : l[i]? = some (elt l (i : Int)) := by simp [elt, List.getD, h]
theorem rows_elt {α : Type} [Inhabited α] {row : α → List D} {l : List α} {i : Int} (h : i < l.length) (h0 : 0 ≤ i) : (l.map row)[i.toNat]? = some (row (elt l i)) := rows_get (elt_some h h0)
end Go.Sy

namespace Go.Sy
open Go.RowKit Go.Lp
def StrF (s : ByteArray) : Per := Fa (s.size ≤ maxLen)
section
variable {P : Program} {n : Fr} {env : Env} {ps : List Per} {hp : List Res} {c : Code} {Q : Exit → Sta → Prop}
theorem awp_fa {φ : Prop} (h : Ent ps (Fa φ)) (k : φ → awp P n c Q ⟨env, ps, hp⟩) : awp P n c Q ⟨env, ps, hp⟩ := fun w S fp a hst he hn hd => k (h w S hst.per) w S fp a hst he hn hd
theorem awp_strE {s : ByteArray} (h : Ent ps (StrF s)) (k : s.size ≤ maxLen → awp P n c Q ⟨env, ps, hp⟩) : awp P n c Q ⟨env, ps, hp⟩ := awp_fa h k
end
end Go.Sy

namespace Go.Sy
open Go.RowKit Go.Lp
def RdsU (w : World) (S : Blks) (us : List Value) (ds : List D) : Prop := us.length = ds.length ∧ ∀ (j : Nat) (d : D), ds[j]? = some d → ∃ u, us[j]? = some u ∧ RepD w S u d
theorem RdsU.nil {w : World} {S : Blks} {us : List Value} (h : RdsU w S us []) : us = [] := List.eq_nil_of_length_eq_zero h.1
theorem RdsU.cons {w : World} {S : Blks} {us : List Value} {d : D} {ds : List D} (h : RdsU w S us (d :: ds)) : ∃ u us', us = u :: us' ∧ RepD w S u d ∧ RdsU w S us' ds := by
 cases us with
 | nil => have := h.1; simp at this
 | cons u us =>
   obtain ⟨u', h1, h2⟩ := h.2 0 d rfl
   simp only [List.getElem?_cons_zero, Option.some.injEq] at h1
   subst h1
   exact ⟨u, us, rfl, h2, by simpa using h.1, fun j e hj => by have := h.2 (j + 1) e (by simpa using hj); simpa using this⟩
theorem rds_of {w : World} {cs : List Value} {ds : List D} (hl : ds.length = cs.length) (h : Rds w cs 0 ds) : RdsU w (fun b => b < w.heap.size) cs ds := ⟨hl.symm, fun j d hj => by
 obtain ⟨u, h1, _, h2⟩ := h j d hj
 rw [Nat.zero_add] at h1
 exact ⟨u, h1, h2⟩⟩
theorem flat_sl {α : Type} [Inhabited α] {row : α → List D} {ok : α → Per} {w : World} {S : Blks} {v : Value} {rows : List (List D)} (h : RepD w S v (.sl rows))
   (hf : ∀ r ∈ rows, ∀ us : List Value, RdsU w S us r → ∃ y : α, row y = us.map D.v ∧ (ok y).holds w S) : ∃ s : Sl α, v = s.val ∧ (ShF row s).holds w S ∧ (AllF ok s.l).holds w S := by
 cases h with
 | e a c hc => exact ⟨⟨a, c, []⟩, rfl, .e a c hc, fun y hy => by cases hy⟩
 | sl b o c sz _ us hb hn hc hrl hcell hd =>
   have each : ∀ i : Nat, ∃ y : α, i < rows.length → row y = ((List.range sz).map fun j => us i j).map D.v ∧ (ok y).holds w S := fun i => by
     by_cases hi : i < rows.length
     · obtain ⟨r, hr⟩ : ∃ r, rows[i]? = some r := ⟨_, List.getElem?_eq_getElem hi⟩
       obtain ⟨y, h1, h2⟩ := hf r (List.mem_of_getElem? hr) ((List.range sz).map fun j => us i j) ⟨by simp [hrl i r hr], fun j d hj => by
         have hjl := (List.getElem?_eq_some_iff.1 hj).1
         rw [hrl i r hr] at hjl
         exact ⟨us i j, by rw [List.getElem?_map, List.getElem?_range hjl]; rfl, hd i j r d hr hj⟩⟩
       exact ⟨y, fun _ => ⟨h1, h2⟩⟩
     · exact ⟨default, fun h => absurd h hi⟩
   obtain ⟨Y, hY⟩ := Classical.skolem.1 each
   have hget : ∀ (i : Nat) (r : List D), (((List.range rows.length).map Y).map row)[i]? = some r → i < rows.length ∧ r = ((List.range sz).map fun j => us i j).map D.v := fun i r hi => by
     rw [List.getElem?_map, List.getElem?_map] at hi
     by_cases hil : i < rows.length
     · rw [List.getElem?_range hil] at hi
       simp only [Option.map_some, Option.some.injEq] at hi
       exact ⟨hil, by rw [← hi]; exact (hY i hil).1⟩
     · rw [List.getElem?_eq_none (by simpa using hil)] at hi; cases hi
   have hcl : ∀ (i j : Nat) (r : List D) (d : D), (((List.range rows.length).map Y).map row)[i]? = some r → r[j]? = some d → ∃ r0 d0, rows[i]? = some r0 ∧ r0[j]? = some d0 ∧ d = .v (us i j) := fun i j r d hi hj => by
     obtain ⟨hil, rfl⟩ := hget i r hi
     obtain ⟨r0, hr0⟩ : ∃ r, rows[i]? = some r := ⟨_, List.getElem?_eq_getElem hil⟩
     have hjl := (List.getElem?_eq_some_iff.1 hj).1
     rw [List.length_map, List.length_map, List.length_range] at hjl
     rw [List.getElem?_map, List.getElem?_map, List.getElem?_range hjl] at hj
     simp only [Option.map_some, Option.some.injEq] at hj
     exact ⟨r0, _, hr0, List.getElem?_eq_getElem (by rw [hrl i r0 hr0]; exact hjl), hj.symm⟩
   refine ⟨⟨some ⟨b, o, none⟩, c, (List.range rows.length).map Y⟩, by simp [Sl.val], ?_, fun y hy => ?_⟩
   · have h := RepD.sl (w := w) (S := S) b o c sz (((List.range rows.length).map Y).map row) us hb (by simpa using hn) hc (fun i r hi => by obtain ⟨_, rfl⟩ := hget i r hi; simp)
       (fun i j r d hi hj => by obtain ⟨r0, d0, h1, h2, _⟩ := hcl i j r d hi hj; exact hcell i j r0 d0 h1 h2) (fun i j r d hi hj => by obtain ⟨_, _, _, _, rfl⟩ := hcl i j r d hi hj; exact .v _)
     rw [List.length_map, List.length_map, List.length_range] at h
     show RepD w S (.slice (some ⟨b, o, none⟩) ((List.range rows.length).map Y).length c) (.sl (((List.range rows.length).map Y).map row))
     rw [List.length_map, List.length_range]; exact h
   · obtain ⟨i, hi, rfl⟩ := List.mem_map.1 hy
     exact (hY i (List.mem_range.1 hi)).2
section
variable {P : Program} {k : Nat} {t e : TypeId} {w : World} {S : Blks} {us : List Value} {ds : List D}
theorem rd_int (hu : P.underlying t = some (.int .i64)) (h : okD P (k + 1) t ds) (hr : RdsU w S us ds) : ∃ z : Int, [D.v (.int .i64 z)] = us.map D.v ∧ (Fa True).holds w S := by
 obtain ⟨n, rfl, _⟩ := okD_int hu h
 obtain ⟨u, _, rfl, r, hr⟩ := hr.cons
 obtain rfl := hr.nil; obtain rfl := repD_v r
 exact ⟨n, rfl, trivial⟩
theorem rd_str (hu : P.underlying t = some .string) (h : okD P (k + 1) t ds) (hr : RdsU w S us ds) : ∃ s : ByteArray, [D.v (.string s)] = us.map D.v ∧ (StrF s).holds w S := by
 obtain ⟨n, rfl, hz⟩ := okD_string hu h
 obtain ⟨u, _, rfl, r, hr⟩ := hr.cons
 obtain rfl := hr.nil; obtain rfl := repD_v r
 exact ⟨n, rfl, hz⟩
theorem rd_sl {α : Type} [Inhabited α] {row : α → List D} {ok : α → Per} (hu : P.underlying t = some (.slice e)) (h : okD P (k + 1) t ds) (hr : RdsU w S us ds) (hf : ∀ r, okD P k e r → ∀ us, RdsU w S us r → ∃ y : α, row y = us.map D.v ∧ (ok y).holds w S) :
   ∃ s : Sl α, [D.v s.val] = us.map D.v ∧ (AndP (ShF row s) (AllF ok s.l)).holds w S := by
 obtain ⟨rows, rfl, _, hrows⟩ := okD_slice hu h
 obtain ⟨u, _, rfl, r, hr⟩ := hr.cons
 obtain rfl := hr.nil
 obtain ⟨s, rfl, h1, h2⟩ := flat_sl (row := row) (ok := ok) r fun r hr us hu => hf r (hrows r hr) us hu
 exact ⟨s, rfl, h1, h2⟩
theorem vs_inj {a b : List Value} (h : a.map D.v = b.map D.v) : a = b := by
 induction a generalizing b with
 | nil => cases b with
   | nil => rfl
   | cons => simp at h
 | cons x a ih => cases b with
   | nil => simp at h
   | cons y b =>
     simp only [List.map_cons, List.cons.injEq, D.v.injEq] at h
     rw [h.1, ih h.2]
end
end Go.Sy

namespace Go.Proofs.YtgmiihmahaahiaaGreatDoor
open Go.RowKit Go.Lp Go.Sy
structure GVersionDef where
 name : ByteArray
 parents : Sl ByteArray
 deriving Inhabited
abbrev GVersionDef.row (x : GVersionDef) : List D := [.v (.string x.name), .v (.slice x.parents.ad x.parents.l.length x.parents.cap)]
def GVersionDef.ok (x : GVersionDef) : Per := AndP (StrF x.name) (AndP (ShF (fun s => [.v (.string s)]) x.parents) (AllF (fun y => StrF y) x.parents.l))
theorem GVersionDef.f_parents {ps : List Per} {x : GVersionDef} (h : Ent ps x.ok) : Ent ps (ShF (fun s => [.v (.string s)]) x.parents) := (Ent.left (Ent.right h))
structure GRecipe where
 name : ByteArray
 lib : Bool
 objs : Sl ByteArray
 needs : Sl ByteArray
 entry : ByteArray
 spare : Int
 versions : Sl GVersionDef
 deriving Inhabited
structure GSection where
 name : ByteArray
 kind : Int
 align : Int
 size : Int
 bytes : ByteArray
 keep : Bool
 deriving Inhabited
abbrev GSection.row (x : GSection) : List D := [.v (.string x.name), .v (.int .i64 x.kind), .v (.int .i64 x.align), .v (.int .i64 x.size), .v (.string x.bytes), .v (.bool x.keep)]
abbrev GSection.vs (x : GSection) : List Value := [.string x.name, .int .i64 x.kind, .int .i64 x.align, .int .i64 x.size, .string x.bytes, .bool x.keep]
abbrev GSection.val (x : GSection) : Value := .agg #[.string x.name, .int .i64 x.kind, .int .i64 x.align, .int .i64 x.size, .string x.bytes, .bool x.keep]
def GSection.ok (x : GSection) : Per := AndP (StrF x.name) (StrF x.bytes)
theorem GSection.f_name {ps : List Per} {x : GSection} (h : Ent ps x.ok) : Ent ps (StrF x.name) := (Ent.left h)
theorem GSection.f_bytes {ps : List Per} {x : GSection} (h : Ent ps x.ok) : Ent ps (StrF x.bytes) := (Ent.right h)
structure GSymbol where
 name : ByteArray
 version : ByteArray
 main : Bool
 bind : Int
 vis : Int
 kind : Int
 sec : Int
 at_ : Int
 size : Int
 align : Int
 deriving Inhabited
abbrev GSymbol.row (x : GSymbol) : List D := [.v (.string x.name), .v (.string x.version), .v (.bool x.main), .v (.int .i64 x.bind), .v (.int .i64 x.vis), .v (.int .i64 x.kind), .v (.int .i64 x.sec), .v (.int .i64 x.at_), .v (.int .i64 x.size), .v (.int .i64 x.align)]
abbrev GSymbol.vs (x : GSymbol) : List Value := [.string x.name, .string x.version, .bool x.main, .int .i64 x.bind, .int .i64 x.vis, .int .i64 x.kind, .int .i64 x.sec, .int .i64 x.at_, .int .i64 x.size, .int .i64 x.align]
abbrev GSymbol.val (x : GSymbol) : Value := .agg #[.string x.name, .string x.version, .bool x.main, .int .i64 x.bind, .int .i64 x.vis, .int .i64 x.kind, .int .i64 x.sec, .int .i64 x.at_, .int .i64 x.size, .int .i64 x.align]
def GSymbol.ok (x : GSymbol) : Per := AndP (StrF x.name) (StrF x.version)
theorem GSymbol.f_name {ps : List Per} {x : GSymbol} (h : Ent ps x.ok) : Ent ps (StrF x.name) := (Ent.left h)
theorem GSymbol.f_version {ps : List Per} {x : GSymbol} (h : Ent ps x.ok) : Ent ps (StrF x.version) := (Ent.right h)
structure GRel where
 sec : Int
 at_ : Int
 kind : Int
 sym : Int
 add : Int
 deriving Inhabited
abbrev GRel.row (x : GRel) : List D := [.v (.int .i64 x.sec), .v (.int .i64 x.at_), .v (.int .i64 x.kind), .v (.int .i64 x.sym), .v (.int .i64 x.add)]
abbrev GRel.val (x : GRel) : Value := .agg #[.int .i64 x.sec, .int .i64 x.at_, .int .i64 x.kind, .int .i64 x.sym, .int .i64 x.add]
structure GGroup where
 name : ByteArray
 secs : Sl Int
 deriving Inhabited
abbrev GGroup.row (x : GGroup) : List D := [.v (.string x.name), .v (.slice x.secs.ad x.secs.l.length x.secs.cap)]
abbrev GGroup.vs (x : GGroup) : List Value := [.string x.name, .slice x.secs.ad x.secs.l.length x.secs.cap]
abbrev GGroup.val (x : GGroup) : Value := .agg #[.string x.name, .slice x.secs.ad x.secs.l.length x.secs.cap]
def GGroup.ok (x : GGroup) : Per := AndP (StrF x.name) (ShF (fun z => [.v (.int .i64 z)]) x.secs)
theorem GGroup.f_name {ps : List Per} {x : GGroup} (h : Ent ps x.ok) : Ent ps (StrF x.name) := (Ent.left h)
theorem GGroup.f_secs {ps : List Per} {x : GGroup} (h : Ent ps x.ok) : Ent ps (ShF (fun z => [.v (.int .i64 z)]) x.secs) := (Ent.right h)
structure GInit where
 sym : Int
 order : Int
 last : Bool
 deriving Inhabited
abbrev GInit.row (x : GInit) : List D := [.v (.int .i64 x.sym), .v (.int .i64 x.order), .v (.bool x.last)]
abbrev GInit.val (x : GInit) : Value := .agg #[.int .i64 x.sym, .int .i64 x.order, .bool x.last]
structure GLine where
 sec : Int
 at_ : Int
 file : ByteArray
 line : Int
 deriving Inhabited
abbrev GLine.row (x : GLine) : List D := [.v (.int .i64 x.sec), .v (.int .i64 x.at_), .v (.string x.file), .v (.int .i64 x.line)]
abbrev GLine.val (x : GLine) : Value := .agg #[.int .i64 x.sec, .int .i64 x.at_, .string x.file, .int .i64 x.line]
def GLine.ok (x : GLine) : Per := StrF x.file
theorem GLine.f_file {ps : List Per} {x : GLine} (h : Ent ps x.ok) : Ent ps (StrF x.file) := h
structure GInline where
 sec : Int
 from_ : Int
 to_ : Int
 name : ByteArray
 file : ByteArray
 line : Int
 deriving Inhabited
abbrev GInline.row (x : GInline) : List D := [.v (.int .i64 x.sec), .v (.int .i64 x.from_), .v (.int .i64 x.to_), .v (.string x.name), .v (.string x.file), .v (.int .i64 x.line)]
abbrev GInline.vs (x : GInline) : List Value := [.int .i64 x.sec, .int .i64 x.from_, .int .i64 x.to_, .string x.name, .string x.file, .int .i64 x.line]
abbrev GInline.val (x : GInline) : Value := .agg #[.int .i64 x.sec, .int .i64 x.from_, .int .i64 x.to_, .string x.name, .string x.file, .int .i64 x.line]
def GInline.ok (x : GInline) : Per := AndP (StrF x.name) (StrF x.file)
theorem GInline.f_name {ps : List Per} {x : GInline} (h : Ent ps x.ok) : Ent ps (StrF x.name) := (Ent.left h)
theorem GInline.f_file {ps : List Per} {x : GInline} (h : Ent ps x.ok) : Ent ps (StrF x.file) := (Ent.right h)
structure GVar where
 sec : Int
 from_ : Int
 to_ : Int
 name : ByteArray
 where_ : Int
 n : Int
 deriving Inhabited
abbrev GVar.row (x : GVar) : List D := [.v (.int .i64 x.sec), .v (.int .i64 x.from_), .v (.int .i64 x.to_), .v (.string x.name), .v (.int .i64 x.where_), .v (.int .i64 x.n)]
abbrev GVar.val (x : GVar) : Value := .agg #[.int .i64 x.sec, .int .i64 x.from_, .int .i64 x.to_, .string x.name, .int .i64 x.where_, .int .i64 x.n]
def GVar.ok (x : GVar) : Per := StrF x.name
theorem GVar.f_name {ps : List Per} {x : GVar} (h : Ent ps x.ok) : Ent ps (StrF x.name) := h
structure GDepth where
 sec : Int
 from_ : Int
 to_ : Int
 bytes : Int
 deriving Inhabited
abbrev GDepth.row (x : GDepth) : List D := [.v (.int .i64 x.sec), .v (.int .i64 x.from_), .v (.int .i64 x.to_), .v (.int .i64 x.bytes)]
abbrev GDepth.val (x : GDepth) : Value := .agg #[.int .i64 x.sec, .int .i64 x.from_, .int .i64 x.to_, .int .i64 x.bytes]
structure GPiece where
 from_ : Int
 size : Int
 to_ : Int
 deriving Inhabited
abbrev GPiece.row (x : GPiece) : List D := [.v (.int .i64 x.from_), .v (.int .i64 x.size), .v (.int .i64 x.to_)]
abbrev GPiece.val (x : GPiece) : Value := .agg #[.int .i64 x.from_, .int .i64 x.size, .int .i64 x.to_]
structure GConvert where
 sec : Int
 from_ : ByteArray
 pieces : Sl GPiece
 code : Int
 deriving Inhabited
abbrev GConvert.row (x : GConvert) : List D := [.v (.int .i64 x.sec), .v (.string x.from_), .v (.slice x.pieces.ad x.pieces.l.length x.pieces.cap), .v (.int .i64 x.code)]
abbrev GConvert.val (x : GConvert) : Value := .agg #[.int .i64 x.sec, .string x.from_, .slice x.pieces.ad x.pieces.l.length x.pieces.cap, .int .i64 x.code]
def GConvert.ok (x : GConvert) : Per := AndP (StrF x.from_) (ShF (GPiece.row) x.pieces)
theorem GConvert.f_pieces {ps : List Per} {x : GConvert} (h : Ent ps x.ok) : Ent ps (ShF (GPiece.row) x.pieces) := (Ent.right h)
structure GObject where
 name : ByteArray
 secs : Sl GSection
 syms : Sl GSymbol
 rels : Sl GRel
 groups : Sl GGroup
 inits : Sl GInit
 lines : Sl GLine
 inlines : Sl GInline
 vars : Sl GVar
 depths : Sl GDepth
 converts : Sl GConvert
 deriving Inhabited
abbrev GObject.row (x : GObject) : List D := [.v (.string x.name), .v (.slice x.secs.ad x.secs.l.length x.secs.cap), .v (.slice x.syms.ad x.syms.l.length x.syms.cap), .v (.slice x.rels.ad x.rels.l.length x.rels.cap), .v (.slice x.groups.ad x.groups.l.length x.groups.cap), .v (.slice x.inits.ad x.inits.l.length x.inits.cap), .v (.slice x.lines.ad x.lines.l.length x.lines.cap), .v (.slice x.inlines.ad x.inlines.l.length x.inlines.cap), .v (.slice x.vars.ad x.vars.l.length x.vars.cap), .v (.slice x.depths.ad x.depths.l.length x.depths.cap), .v (.slice x.converts.ad x.converts.l.length x.converts.cap)]
abbrev GObject.vs (x : GObject) : List Value := [.string x.name, .slice x.secs.ad x.secs.l.length x.secs.cap, .slice x.syms.ad x.syms.l.length x.syms.cap, .slice x.rels.ad x.rels.l.length x.rels.cap, .slice x.groups.ad x.groups.l.length x.groups.cap, .slice x.inits.ad x.inits.l.length x.inits.cap, .slice x.lines.ad x.lines.l.length x.lines.cap, .slice x.inlines.ad x.inlines.l.length x.inlines.cap, .slice x.vars.ad x.vars.l.length x.vars.cap, .slice x.depths.ad x.depths.l.length x.depths.cap, .slice x.converts.ad x.converts.l.length x.converts.cap]
abbrev GObject.val (x : GObject) : Value := .agg #[.string x.name, .slice x.secs.ad x.secs.l.length x.secs.cap, .slice x.syms.ad x.syms.l.length x.syms.cap, .slice x.rels.ad x.rels.l.length x.rels.cap, .slice x.groups.ad x.groups.l.length x.groups.cap, .slice x.inits.ad x.inits.l.length x.inits.cap, .slice x.lines.ad x.lines.l.length x.lines.cap, .slice x.inlines.ad x.inlines.l.length x.inlines.cap, .slice x.vars.ad x.vars.l.length x.vars.cap, .slice x.depths.ad x.depths.l.length x.depths.cap, .slice x.converts.ad x.converts.l.length x.converts.cap]
def GObject.ok (x : GObject) : Per := AndP (StrF x.name) (AndP (ShF (GSection.row) x.secs) (AndP (AllF (fun y => GSection.ok y) x.secs.l) (AndP (ShF (GSymbol.row) x.syms) (AndP (AllF (fun y => GSymbol.ok y) x.syms.l) (AndP (ShF (GRel.row) x.rels) (AndP (ShF (GGroup.row) x.groups) (AndP (AllF (fun y => GGroup.ok y) x.groups.l) (AndP (ShF (GInit.row) x.inits) (AndP (ShF (GLine.row) x.lines) (AndP (AllF (fun y => GLine.ok y) x.lines.l) (AndP (ShF (GInline.row) x.inlines) (AndP (AllF (fun y => GInline.ok y) x.inlines.l) (AndP (ShF (GVar.row) x.vars) (AndP (AllF (fun y => GVar.ok y) x.vars.l) (AndP (ShF (GDepth.row) x.depths) (AndP (ShF (GConvert.row) x.converts) (AllF (fun y => GConvert.ok y) x.converts.l)))))))))))))))))
theorem GObject.f_name {ps : List Per} {x : GObject} (h : Ent ps x.ok) : Ent ps (StrF x.name) := (Ent.left h)
theorem GObject.f_secs {ps : List Per} {x : GObject} (h : Ent ps x.ok) : Ent ps (ShF (GSection.row) x.secs) := (Ent.left (Ent.right h))
theorem GObject.f_secsA {ps : List Per} {x : GObject} (h : Ent ps x.ok) : Ent ps (AllF (fun y => GSection.ok y) x.secs.l) := (Ent.left (Ent.right (Ent.right h)))
theorem GObject.f_syms {ps : List Per} {x : GObject} (h : Ent ps x.ok) : Ent ps (ShF (GSymbol.row) x.syms) := (Ent.left (Ent.right (Ent.right (Ent.right h))))
theorem GObject.f_symsA {ps : List Per} {x : GObject} (h : Ent ps x.ok) : Ent ps (AllF (fun y => GSymbol.ok y) x.syms.l) := (Ent.left (Ent.right (Ent.right (Ent.right (Ent.right h)))))
theorem GObject.f_rels {ps : List Per} {x : GObject} (h : Ent ps x.ok) : Ent ps (ShF (GRel.row) x.rels) := (Ent.left (Ent.right (Ent.right (Ent.right (Ent.right (Ent.right h))))))
theorem GObject.f_groups {ps : List Per} {x : GObject} (h : Ent ps x.ok) : Ent ps (ShF (GGroup.row) x.groups) := (Ent.left (Ent.right (Ent.right (Ent.right (Ent.right (Ent.right (Ent.right h)))))))
theorem GObject.f_groupsA {ps : List Per} {x : GObject} (h : Ent ps x.ok) : Ent ps (AllF (fun y => GGroup.ok y) x.groups.l) := (Ent.left (Ent.right (Ent.right (Ent.right (Ent.right (Ent.right (Ent.right (Ent.right h))))))))
theorem GObject.f_inits {ps : List Per} {x : GObject} (h : Ent ps x.ok) : Ent ps (ShF (GInit.row) x.inits) := (Ent.left (Ent.right (Ent.right (Ent.right (Ent.right (Ent.right (Ent.right (Ent.right (Ent.right h)))))))))
theorem GObject.f_lines {ps : List Per} {x : GObject} (h : Ent ps x.ok) : Ent ps (ShF (GLine.row) x.lines) := (Ent.left (Ent.right (Ent.right (Ent.right (Ent.right (Ent.right (Ent.right (Ent.right (Ent.right (Ent.right h))))))))))
theorem GObject.f_linesA {ps : List Per} {x : GObject} (h : Ent ps x.ok) : Ent ps (AllF (fun y => GLine.ok y) x.lines.l) := (Ent.left (Ent.right (Ent.right (Ent.right (Ent.right (Ent.right (Ent.right (Ent.right (Ent.right (Ent.right (Ent.right h)))))))))))
theorem GObject.f_inlines {ps : List Per} {x : GObject} (h : Ent ps x.ok) : Ent ps (ShF (GInline.row) x.inlines) := (Ent.left (Ent.right (Ent.right (Ent.right (Ent.right (Ent.right (Ent.right (Ent.right (Ent.right (Ent.right (Ent.right (Ent.right h))))))))))))
theorem GObject.f_inlinesA {ps : List Per} {x : GObject} (h : Ent ps x.ok) : Ent ps (AllF (fun y => GInline.ok y) x.inlines.l) := (Ent.left (Ent.right (Ent.right (Ent.right (Ent.right (Ent.right (Ent.right (Ent.right (Ent.right (Ent.right (Ent.right (Ent.right (Ent.right h)))))))))))))
theorem GObject.f_vars {ps : List Per} {x : GObject} (h : Ent ps x.ok) : Ent ps (ShF (GVar.row) x.vars) := (Ent.left (Ent.right (Ent.right (Ent.right (Ent.right (Ent.right (Ent.right (Ent.right (Ent.right (Ent.right (Ent.right (Ent.right (Ent.right (Ent.right h))))))))))))))
theorem GObject.f_varsA {ps : List Per} {x : GObject} (h : Ent ps x.ok) : Ent ps (AllF (fun y => GVar.ok y) x.vars.l) := (Ent.left (Ent.right (Ent.right (Ent.right (Ent.right (Ent.right (Ent.right (Ent.right (Ent.right (Ent.right (Ent.right (Ent.right (Ent.right (Ent.right (Ent.right h)))))))))))))))
theorem GObject.f_depths {ps : List Per} {x : GObject} (h : Ent ps x.ok) : Ent ps (ShF (GDepth.row) x.depths) := (Ent.left (Ent.right (Ent.right (Ent.right (Ent.right (Ent.right (Ent.right (Ent.right (Ent.right (Ent.right (Ent.right (Ent.right (Ent.right (Ent.right (Ent.right (Ent.right h))))))))))))))))
theorem GObject.f_converts {ps : List Per} {x : GObject} (h : Ent ps x.ok) : Ent ps (ShF (GConvert.row) x.converts) := (Ent.left (Ent.right (Ent.right (Ent.right (Ent.right (Ent.right (Ent.right (Ent.right (Ent.right (Ent.right (Ent.right (Ent.right (Ent.right (Ent.right (Ent.right (Ent.right (Ent.right h)))))))))))))))))
theorem GObject.f_convertsA {ps : List Per} {x : GObject} (h : Ent ps x.ok) : Ent ps (AllF (fun y => GConvert.ok y) x.converts.l) := (Ent.right (Ent.right (Ent.right (Ent.right (Ent.right (Ent.right (Ent.right (Ent.right (Ent.right (Ent.right (Ent.right (Ent.right (Ent.right (Ent.right (Ent.right (Ent.right (Ent.right h)))))))))))))))))
structure GChoice where
 kind : Int
 obj : Int
 sym : Int
 lib : Int
 why : Int
 open_ : Bool
 deriving Inhabited
abbrev GChoice.row (x : GChoice) : List D := [.v (.int .i64 x.kind), .v (.int .i64 x.obj), .v (.int .i64 x.sym), .v (.int .i64 x.lib), .v (.int .i64 x.why), .v (.bool x.open_)]
abbrev GChoice.vs (x : GChoice) : List Value := [.int .i64 x.kind, .int .i64 x.obj, .int .i64 x.sym, .int .i64 x.lib, .int .i64 x.why, .bool x.open_]
abbrev GChoice.val (x : GChoice) : Value := .agg #[.int .i64 x.kind, .int .i64 x.obj, .int .i64 x.sym, .int .i64 x.lib, .int .i64 x.why, .bool x.open_]
structure GPlace where
 obj : Int
 sec : Int
 deriving Inhabited
structure GArc where
 from_ : Int
 to_ : Int
 deriving Inhabited
structure GLink where
 r : GRecipe
 objs : Sl GObject
 keep : Sl (Sl Bool)
 choices : Sl (Sl GChoice)
 first : Sl Int
 count : Int
 deriving Inhabited
end Go.Proofs.YtgmiihmahaahiaaGreatDoor

namespace Go.Proofs.YtgmiihmahaahiaaGreatDoor
open Go.RowKit Go.Lp Go.Sy
structure GExport where
 name : ByteArray
 version : ByteArray
 main : Bool
 kind : Int
 at_ : Int
 size : Int
 deriving Inhabited
abbrev GExport.row (x : GExport) : List D := [.v (.string x.name), .v (.string x.version), .v (.bool x.main), .v (.int .i64 x.kind), .v (.int .i64 x.at_), .v (.int .i64 x.size)]
abbrev GExport.val (x : GExport) : Value := .agg #[.string x.name, .string x.version, .bool x.main, .int .i64 x.kind, .int .i64 x.at_, .int .i64 x.size]
def GExport.ok (x : GExport) : Per := AndP (StrF x.name) (StrF x.version)
structure GIface where
 name : ByteArray
 exports : Sl GExport
 versions : Sl GVersionDef
 deriving Inhabited
abbrev GIface.row (x : GIface) : List D := [.v (.string x.name), .v (.slice x.exports.ad x.exports.l.length x.exports.cap), .v (.slice x.versions.ad x.versions.l.length x.versions.cap)]
abbrev GIface.val (x : GIface) : Value := .agg #[.string x.name, .slice x.exports.ad x.exports.l.length x.exports.cap, .slice x.versions.ad x.versions.l.length x.versions.cap]
def GIface.ok (x : GIface) : Per := AndP (StrF x.name) (AndP (ShF (GExport.row) x.exports) (AndP (AllF (fun y => GExport.ok y) x.exports.l) (AndP (ShF (GVersionDef.row) x.versions) (AllF (fun y => GVersionDef.ok y) x.versions.l))))
theorem GIface.f_exports {ps : List Per} {x : GIface} (h : Ent ps x.ok) : Ent ps (ShF (GExport.row) x.exports) := (Ent.left (Ent.right h))
theorem GIface.f_versions {ps : List Per} {x : GIface} (h : Ent ps x.ok) : Ent ps (ShF (GVersionDef.row) x.versions) := (Ent.left (Ent.right (Ent.right (Ent.right h))))
theorem GIface.f_versionsA {ps : List Per} {x : GIface} (h : Ent ps x.ok) : Ent ps (AllF (fun y => GVersionDef.ok y) x.versions.l) := (Ent.right (Ent.right (Ent.right (Ent.right h))))
structure GCulprit where
 obj : Int
 sym : Int
 deriving Inhabited
abbrev GCulprit.row (x : GCulprit) : List D := [.v (.int .i64 x.obj), .v (.int .i64 x.sym)]
abbrev GCulprit.vs (x : GCulprit) : List Value := [.int .i64 x.obj, .int .i64 x.sym]
abbrev GCulprit.val (x : GCulprit) : Value := .agg #[.int .i64 x.obj, .int .i64 x.sym]
structure GOffered where
 name : ByteArray
 version : ByteArray
 main : Bool
 kind : Int
 obj : Int
 sym : Int
 common : Bool
 deriving Inhabited
abbrev GOffered.row (x : GOffered) : List D := [.v (.string x.name), .v (.string x.version), .v (.bool x.main), .v (.int .i64 x.kind), .v (.int .i64 x.obj), .v (.int .i64 x.sym), .v (.bool x.common)]
abbrev GOffered.vs (x : GOffered) : List Value := [.string x.name, .string x.version, .bool x.main, .int .i64 x.kind, .int .i64 x.obj, .int .i64 x.sym, .bool x.common]
abbrev GOffered.val (x : GOffered) : Value := .agg #[.string x.name, .string x.version, .bool x.main, .int .i64 x.kind, .int .i64 x.obj, .int .i64 x.sym, .bool x.common]
structure GKey where
 name : ByteArray
 version : ByteArray
 deriving Inhabited
end Go.Proofs.YtgmiihmahaahiaaGreatDoor

namespace Go.Proofs.YtgmiihmahaahiaaGreatDoor
open Go.RowKit Go.Lp Go.Sy
theorem rd_GSection {k : Nat} {w : World} {S : Blks} {us : List Value} {ds : List D} (h : okD Tryz.prog (k + 2) 85 ds) (hr : RdsU w S us ds) : ∃ y : GSection, y.row = us.map D.v ∧ (y.ok).holds w S := by
 have h := okD_struct Tryz.underlying85 h
 obtain ⟨d0, _, rfl, h0, d1, _, rfl, h1, d2, _, rfl, h2, d3, _, rfl, h3, d4, _, rfl, h4, d5, _, rfl, h5, rfl⟩ := h
 obtain ⟨n0, rfl, z0⟩ := okD_string Tryz.underlying9 h0
 obtain ⟨n1, rfl, _⟩ := okD_int (i := .i64) Tryz.underlying3 h1
 obtain ⟨n2, rfl, _⟩ := okD_int (i := .i64) Tryz.underlying3 h2
 obtain ⟨n3, rfl, _⟩ := okD_int (i := .i64) Tryz.underlying3 h3
 obtain ⟨n4, rfl, z4⟩ := okD_string Tryz.underlying9 h4
 obtain ⟨n5, rfl⟩ := okD_bool Tryz.underlying4 h5
 obtain ⟨u0, _, rfl, r0, hr⟩ := hr.cons
 obtain ⟨u1, _, rfl, r1, hr⟩ := hr.cons
 obtain ⟨u2, _, rfl, r2, hr⟩ := hr.cons
 obtain ⟨u3, _, rfl, r3, hr⟩ := hr.cons
 obtain ⟨u4, _, rfl, r4, hr⟩ := hr.cons
 obtain ⟨u5, _, rfl, r5, hr⟩ := hr.cons
 obtain rfl := hr.nil
 obtain rfl := repD_v r0
 obtain rfl := repD_v r1
 obtain rfl := repD_v r2
 obtain rfl := repD_v r3
 obtain rfl := repD_v r4
 obtain rfl := repD_v r5
 exact ⟨⟨n0, n1, n2, n3, n4, n5⟩, rfl, ⟨z0, z4⟩⟩
theorem rd_GSymbol {k : Nat} {w : World} {S : Blks} {us : List Value} {ds : List D} (h : okD Tryz.prog (k + 2) 63 ds) (hr : RdsU w S us ds) : ∃ y : GSymbol, y.row = us.map D.v ∧ (y.ok).holds w S := by
 have h := okD_struct Tryz.underlying63 h
 obtain ⟨d0, _, rfl, h0, d1, _, rfl, h1, d2, _, rfl, h2, d3, _, rfl, h3, d4, _, rfl, h4, d5, _, rfl, h5, d6, _, rfl, h6, d7, _, rfl, h7, d8, _, rfl, h8, d9, _, rfl, h9, rfl⟩ := h
 obtain ⟨n0, rfl, z0⟩ := okD_string Tryz.underlying9 h0
 obtain ⟨n1, rfl, z1⟩ := okD_string Tryz.underlying9 h1
 obtain ⟨n2, rfl⟩ := okD_bool Tryz.underlying4 h2
 obtain ⟨n3, rfl, _⟩ := okD_int (i := .i64) Tryz.underlying3 h3
 obtain ⟨n4, rfl, _⟩ := okD_int (i := .i64) Tryz.underlying3 h4
 obtain ⟨n5, rfl, _⟩ := okD_int (i := .i64) Tryz.underlying3 h5
 obtain ⟨n6, rfl, _⟩ := okD_int (i := .i64) Tryz.underlying3 h6
 obtain ⟨n7, rfl, _⟩ := okD_int (i := .i64) Tryz.underlying3 h7
 obtain ⟨n8, rfl, _⟩ := okD_int (i := .i64) Tryz.underlying3 h8
 obtain ⟨n9, rfl, _⟩ := okD_int (i := .i64) Tryz.underlying3 h9
 obtain ⟨u0, _, rfl, r0, hr⟩ := hr.cons
 obtain ⟨u1, _, rfl, r1, hr⟩ := hr.cons
 obtain ⟨u2, _, rfl, r2, hr⟩ := hr.cons
 obtain ⟨u3, _, rfl, r3, hr⟩ := hr.cons
 obtain ⟨u4, _, rfl, r4, hr⟩ := hr.cons
 obtain ⟨u5, _, rfl, r5, hr⟩ := hr.cons
 obtain ⟨u6, _, rfl, r6, hr⟩ := hr.cons
 obtain ⟨u7, _, rfl, r7, hr⟩ := hr.cons
 obtain ⟨u8, _, rfl, r8, hr⟩ := hr.cons
 obtain ⟨u9, _, rfl, r9, hr⟩ := hr.cons
 obtain rfl := hr.nil
 obtain rfl := repD_v r0
 obtain rfl := repD_v r1
 obtain rfl := repD_v r2
 obtain rfl := repD_v r3
 obtain rfl := repD_v r4
 obtain rfl := repD_v r5
 obtain rfl := repD_v r6
 obtain rfl := repD_v r7
 obtain rfl := repD_v r8
 obtain rfl := repD_v r9
 exact ⟨⟨n0, n1, n2, n3, n4, n5, n6, n7, n8, n9⟩, rfl, ⟨z0, z1⟩⟩
theorem rd_GRel {k : Nat} {w : World} {S : Blks} {us : List Value} {ds : List D} (h : okD Tryz.prog (k + 2) 182 ds) (hr : RdsU w S us ds) : ∃ y : GRel, y.row = us.map D.v ∧ (Fa True).holds w S := by
 have h := okD_struct Tryz.underlying182 h
 obtain ⟨d0, _, rfl, h0, d1, _, rfl, h1, d2, _, rfl, h2, d3, _, rfl, h3, d4, _, rfl, h4, rfl⟩ := h
 obtain ⟨n0, rfl, _⟩ := okD_int (i := .i64) Tryz.underlying3 h0
 obtain ⟨n1, rfl, _⟩ := okD_int (i := .i64) Tryz.underlying3 h1
 obtain ⟨n2, rfl, _⟩ := okD_int (i := .i64) Tryz.underlying3 h2
 obtain ⟨n3, rfl, _⟩ := okD_int (i := .i64) Tryz.underlying3 h3
 obtain ⟨n4, rfl, _⟩ := okD_int (i := .i64) Tryz.underlying3 h4
 obtain ⟨u0, _, rfl, r0, hr⟩ := hr.cons
 obtain ⟨u1, _, rfl, r1, hr⟩ := hr.cons
 obtain ⟨u2, _, rfl, r2, hr⟩ := hr.cons
 obtain ⟨u3, _, rfl, r3, hr⟩ := hr.cons
 obtain ⟨u4, _, rfl, r4, hr⟩ := hr.cons
 obtain rfl := hr.nil
 obtain rfl := repD_v r0
 obtain rfl := repD_v r1
 obtain rfl := repD_v r2
 obtain rfl := repD_v r3
 obtain rfl := repD_v r4
 exact ⟨⟨n0, n1, n2, n3, n4⟩, rfl, trivial⟩
theorem rd_GGroup {k : Nat} {w : World} {S : Blks} {us : List Value} {ds : List D} (h : okD Tryz.prog (k + 3) 92 ds) (hr : RdsU w S us ds) : ∃ y : GGroup, y.row = us.map D.v ∧ (y.ok).holds w S := by
 have h := okD_struct Tryz.underlying92 h
 obtain ⟨d0, _, rfl, h0, d1, _, rfl, h1, rfl⟩ := h
 obtain ⟨n0, rfl, z0⟩ := okD_string Tryz.underlying9 h0
 obtain ⟨q1, rfl, m1, o1⟩ := okD_slice Tryz.underlying90 h1
 obtain ⟨u0, _, rfl, r0, hr⟩ := hr.cons
 obtain ⟨u1, _, rfl, r1, hr⟩ := hr.cons
 obtain rfl := hr.nil
 obtain rfl := repD_v r0
 obtain ⟨s1, rfl, a1, b1⟩ := flat_sl (row := fun z : Int => [.v (.int .i64 z)]) (ok := fun _ => Fa True) r1 fun r hr us hu => rd_int Tryz.underlying3 (o1 r hr) hu
 exact ⟨⟨n0, s1⟩, rfl, ⟨z0, a1⟩⟩
theorem rd_GInit {k : Nat} {w : World} {S : Blks} {us : List Value} {ds : List D} (h : okD Tryz.prog (k + 2) 195 ds) (hr : RdsU w S us ds) : ∃ y : GInit, y.row = us.map D.v ∧ (Fa True).holds w S := by
 have h := okD_struct Tryz.underlying195 h
 obtain ⟨d0, _, rfl, h0, d1, _, rfl, h1, d2, _, rfl, h2, rfl⟩ := h
 obtain ⟨n0, rfl, _⟩ := okD_int (i := .i64) Tryz.underlying3 h0
 obtain ⟨n1, rfl, _⟩ := okD_int (i := .i64) Tryz.underlying3 h1
 obtain ⟨n2, rfl⟩ := okD_bool Tryz.underlying4 h2
 obtain ⟨u0, _, rfl, r0, hr⟩ := hr.cons
 obtain ⟨u1, _, rfl, r1, hr⟩ := hr.cons
 obtain ⟨u2, _, rfl, r2, hr⟩ := hr.cons
 obtain rfl := hr.nil
 obtain rfl := repD_v r0
 obtain rfl := repD_v r1
 obtain rfl := repD_v r2
 exact ⟨⟨n0, n1, n2⟩, rfl, trivial⟩
theorem rd_GLine {k : Nat} {w : World} {S : Blks} {us : List Value} {ds : List D} (h : okD Tryz.prog (k + 2) 197 ds) (hr : RdsU w S us ds) : ∃ y : GLine, y.row = us.map D.v ∧ (y.ok).holds w S := by
 have h := okD_struct Tryz.underlying197 h
 obtain ⟨d0, _, rfl, h0, d1, _, rfl, h1, d2, _, rfl, h2, d3, _, rfl, h3, rfl⟩ := h
 obtain ⟨n0, rfl, _⟩ := okD_int (i := .i64) Tryz.underlying3 h0
 obtain ⟨n1, rfl, _⟩ := okD_int (i := .i64) Tryz.underlying3 h1
 obtain ⟨n2, rfl, z2⟩ := okD_string Tryz.underlying9 h2
 obtain ⟨n3, rfl, _⟩ := okD_int (i := .i64) Tryz.underlying3 h3
 obtain ⟨u0, _, rfl, r0, hr⟩ := hr.cons
 obtain ⟨u1, _, rfl, r1, hr⟩ := hr.cons
 obtain ⟨u2, _, rfl, r2, hr⟩ := hr.cons
 obtain ⟨u3, _, rfl, r3, hr⟩ := hr.cons
 obtain rfl := hr.nil
 obtain rfl := repD_v r0
 obtain rfl := repD_v r1
 obtain rfl := repD_v r2
 obtain rfl := repD_v r3
 exact ⟨⟨n0, n1, n2, n3⟩, rfl, z2⟩
theorem rd_GInline {k : Nat} {w : World} {S : Blks} {us : List Value} {ds : List D} (h : okD Tryz.prog (k + 2) 200 ds) (hr : RdsU w S us ds) : ∃ y : GInline, y.row = us.map D.v ∧ (y.ok).holds w S := by
 have h := okD_struct Tryz.underlying200 h
 obtain ⟨d0, _, rfl, h0, d1, _, rfl, h1, d2, _, rfl, h2, d3, _, rfl, h3, d4, _, rfl, h4, d5, _, rfl, h5, rfl⟩ := h
 obtain ⟨n0, rfl, _⟩ := okD_int (i := .i64) Tryz.underlying3 h0
 obtain ⟨n1, rfl, _⟩ := okD_int (i := .i64) Tryz.underlying3 h1
 obtain ⟨n2, rfl, _⟩ := okD_int (i := .i64) Tryz.underlying3 h2
 obtain ⟨n3, rfl, z3⟩ := okD_string Tryz.underlying9 h3
 obtain ⟨n4, rfl, z4⟩ := okD_string Tryz.underlying9 h4
 obtain ⟨n5, rfl, _⟩ := okD_int (i := .i64) Tryz.underlying3 h5
 obtain ⟨u0, _, rfl, r0, hr⟩ := hr.cons
 obtain ⟨u1, _, rfl, r1, hr⟩ := hr.cons
 obtain ⟨u2, _, rfl, r2, hr⟩ := hr.cons
 obtain ⟨u3, _, rfl, r3, hr⟩ := hr.cons
 obtain ⟨u4, _, rfl, r4, hr⟩ := hr.cons
 obtain ⟨u5, _, rfl, r5, hr⟩ := hr.cons
 obtain rfl := hr.nil
 obtain rfl := repD_v r0
 obtain rfl := repD_v r1
 obtain rfl := repD_v r2
 obtain rfl := repD_v r3
 obtain rfl := repD_v r4
 obtain rfl := repD_v r5
 exact ⟨⟨n0, n1, n2, n3, n4, n5⟩, rfl, ⟨z3, z4⟩⟩
theorem rd_GVar {k : Nat} {w : World} {S : Blks} {us : List Value} {ds : List D} (h : okD Tryz.prog (k + 2) 204 ds) (hr : RdsU w S us ds) : ∃ y : GVar, y.row = us.map D.v ∧ (y.ok).holds w S := by
 have h := okD_struct Tryz.underlying204 h
 obtain ⟨d0, _, rfl, h0, d1, _, rfl, h1, d2, _, rfl, h2, d3, _, rfl, h3, d4, _, rfl, h4, d5, _, rfl, h5, rfl⟩ := h
 obtain ⟨n0, rfl, _⟩ := okD_int (i := .i64) Tryz.underlying3 h0
 obtain ⟨n1, rfl, _⟩ := okD_int (i := .i64) Tryz.underlying3 h1
 obtain ⟨n2, rfl, _⟩ := okD_int (i := .i64) Tryz.underlying3 h2
 obtain ⟨n3, rfl, z3⟩ := okD_string Tryz.underlying9 h3
 obtain ⟨n4, rfl, _⟩ := okD_int (i := .i64) Tryz.underlying3 h4
 obtain ⟨n5, rfl, _⟩ := okD_int (i := .i64) Tryz.underlying3 h5
 obtain ⟨u0, _, rfl, r0, hr⟩ := hr.cons
 obtain ⟨u1, _, rfl, r1, hr⟩ := hr.cons
 obtain ⟨u2, _, rfl, r2, hr⟩ := hr.cons
 obtain ⟨u3, _, rfl, r3, hr⟩ := hr.cons
 obtain ⟨u4, _, rfl, r4, hr⟩ := hr.cons
 obtain ⟨u5, _, rfl, r5, hr⟩ := hr.cons
 obtain rfl := hr.nil
 obtain rfl := repD_v r0
 obtain rfl := repD_v r1
 obtain rfl := repD_v r2
 obtain rfl := repD_v r3
 obtain rfl := repD_v r4
 obtain rfl := repD_v r5
 exact ⟨⟨n0, n1, n2, n3, n4, n5⟩, rfl, z3⟩
theorem rd_GDepth {k : Nat} {w : World} {S : Blks} {us : List Value} {ds : List D} (h : okD Tryz.prog (k + 2) 207 ds) (hr : RdsU w S us ds) : ∃ y : GDepth, y.row = us.map D.v ∧ (Fa True).holds w S := by
 have h := okD_struct Tryz.underlying207 h
 obtain ⟨d0, _, rfl, h0, d1, _, rfl, h1, d2, _, rfl, h2, d3, _, rfl, h3, rfl⟩ := h
 obtain ⟨n0, rfl, _⟩ := okD_int (i := .i64) Tryz.underlying3 h0
 obtain ⟨n1, rfl, _⟩ := okD_int (i := .i64) Tryz.underlying3 h1
 obtain ⟨n2, rfl, _⟩ := okD_int (i := .i64) Tryz.underlying3 h2
 obtain ⟨n3, rfl, _⟩ := okD_int (i := .i64) Tryz.underlying3 h3
 obtain ⟨u0, _, rfl, r0, hr⟩ := hr.cons
 obtain ⟨u1, _, rfl, r1, hr⟩ := hr.cons
 obtain ⟨u2, _, rfl, r2, hr⟩ := hr.cons
 obtain ⟨u3, _, rfl, r3, hr⟩ := hr.cons
 obtain rfl := hr.nil
 obtain rfl := repD_v r0
 obtain rfl := repD_v r1
 obtain rfl := repD_v r2
 obtain rfl := repD_v r3
 exact ⟨⟨n0, n1, n2, n3⟩, rfl, trivial⟩
theorem rd_GPiece {k : Nat} {w : World} {S : Blks} {us : List Value} {ds : List D} (h : okD Tryz.prog (k + 2) 264 ds) (hr : RdsU w S us ds) : ∃ y : GPiece, y.row = us.map D.v ∧ (Fa True).holds w S := by
 have h := okD_struct Tryz.underlying264 h
 obtain ⟨d0, _, rfl, h0, d1, _, rfl, h1, d2, _, rfl, h2, rfl⟩ := h
 obtain ⟨n0, rfl, _⟩ := okD_int (i := .i64) Tryz.underlying3 h0
 obtain ⟨n1, rfl, _⟩ := okD_int (i := .i64) Tryz.underlying3 h1
 obtain ⟨n2, rfl, _⟩ := okD_int (i := .i64) Tryz.underlying3 h2
 obtain ⟨u0, _, rfl, r0, hr⟩ := hr.cons
 obtain ⟨u1, _, rfl, r1, hr⟩ := hr.cons
 obtain ⟨u2, _, rfl, r2, hr⟩ := hr.cons
 obtain rfl := hr.nil
 obtain rfl := repD_v r0
 obtain rfl := repD_v r1
 obtain rfl := repD_v r2
 exact ⟨⟨n0, n1, n2⟩, rfl, trivial⟩
theorem rd_GConvert {k : Nat} {w : World} {S : Blks} {us : List Value} {ds : List D} (h : okD Tryz.prog (k + 4) 210 ds) (hr : RdsU w S us ds) : ∃ y : GConvert, y.row = us.map D.v ∧ (y.ok).holds w S := by
 have h := okD_struct Tryz.underlying210 h
 obtain ⟨d0, _, rfl, h0, d1, _, rfl, h1, d2, _, rfl, h2, d3, _, rfl, h3, rfl⟩ := h
 obtain ⟨n0, rfl, _⟩ := okD_int (i := .i64) Tryz.underlying3 h0
 obtain ⟨n1, rfl, z1⟩ := okD_string Tryz.underlying9 h1
 obtain ⟨q2, rfl, m2, o2⟩ := okD_slice Tryz.underlying208 h2
 obtain ⟨n3, rfl, _⟩ := okD_int (i := .i64) Tryz.underlying3 h3
 obtain ⟨u0, _, rfl, r0, hr⟩ := hr.cons
 obtain ⟨u1, _, rfl, r1, hr⟩ := hr.cons
 obtain ⟨u2, _, rfl, r2, hr⟩ := hr.cons
 obtain ⟨u3, _, rfl, r3, hr⟩ := hr.cons
 obtain rfl := hr.nil
 obtain rfl := repD_v r0
 obtain rfl := repD_v r1
 obtain ⟨s2, rfl, a2, b2⟩ := flat_sl (row := GPiece.row) (ok := fun _ => Fa True) r2 fun r hr us hu => rd_GPiece (o2 r hr) hu
 obtain rfl := repD_v r3
 exact ⟨⟨n0, n1, s2, n3⟩, rfl, ⟨z1, a2⟩⟩
theorem rd_GObject {k : Nat} {w : World} {S : Blks} {us : List Value} {ds : List D} (h : okD Tryz.prog (k + 6) 61 ds) (hr : RdsU w S us ds) : ∃ y : GObject, y.row = us.map D.v ∧ (y.ok).holds w S := by
 have h := okD_struct Tryz.underlying61 h
 obtain ⟨d0, _, rfl, h0, d1, _, rfl, h1, d2, _, rfl, h2, d3, _, rfl, h3, d4, _, rfl, h4, d5, _, rfl, h5, d6, _, rfl, h6, d7, _, rfl, h7, d8, _, rfl, h8, d9, _, rfl, h9, d10, _, rfl, h10, rfl⟩ := h
 obtain ⟨n0, rfl, z0⟩ := okD_string Tryz.underlying9 h0
 obtain ⟨q1, rfl, m1, o1⟩ := okD_slice Tryz.underlying50 h1
 obtain ⟨q2, rfl, m2, o2⟩ := okD_slice Tryz.underlying51 h2
 obtain ⟨q3, rfl, m3, o3⟩ := okD_slice Tryz.underlying52 h3
 obtain ⟨q4, rfl, m4, o4⟩ := okD_slice Tryz.underlying53 h4
 obtain ⟨q5, rfl, m5, o5⟩ := okD_slice Tryz.underlying54 h5
 obtain ⟨q6, rfl, m6, o6⟩ := okD_slice Tryz.underlying55 h6
 obtain ⟨q7, rfl, m7, o7⟩ := okD_slice Tryz.underlying56 h7
 obtain ⟨q8, rfl, m8, o8⟩ := okD_slice Tryz.underlying57 h8
 obtain ⟨q9, rfl, m9, o9⟩ := okD_slice Tryz.underlying58 h9
 obtain ⟨q10, rfl, m10, o10⟩ := okD_slice Tryz.underlying59 h10
 obtain ⟨u0, _, rfl, r0, hr⟩ := hr.cons
 obtain ⟨u1, _, rfl, r1, hr⟩ := hr.cons
 obtain ⟨u2, _, rfl, r2, hr⟩ := hr.cons
 obtain ⟨u3, _, rfl, r3, hr⟩ := hr.cons
 obtain ⟨u4, _, rfl, r4, hr⟩ := hr.cons
 obtain ⟨u5, _, rfl, r5, hr⟩ := hr.cons
 obtain ⟨u6, _, rfl, r6, hr⟩ := hr.cons
 obtain ⟨u7, _, rfl, r7, hr⟩ := hr.cons
 obtain ⟨u8, _, rfl, r8, hr⟩ := hr.cons
 obtain ⟨u9, _, rfl, r9, hr⟩ := hr.cons
 obtain ⟨u10, _, rfl, r10, hr⟩ := hr.cons
 obtain rfl := hr.nil
 obtain rfl := repD_v r0
 obtain ⟨s1, rfl, a1, b1⟩ := flat_sl (row := GSection.row) (ok := fun y : GSection => GSection.ok y) r1 fun r hr us hu => rd_GSection (o1 r hr) hu
 obtain ⟨s2, rfl, a2, b2⟩ := flat_sl (row := GSymbol.row) (ok := fun y : GSymbol => GSymbol.ok y) r2 fun r hr us hu => rd_GSymbol (o2 r hr) hu
 obtain ⟨s3, rfl, a3, b3⟩ := flat_sl (row := GRel.row) (ok := fun _ => Fa True) r3 fun r hr us hu => rd_GRel (o3 r hr) hu
 obtain ⟨s4, rfl, a4, b4⟩ := flat_sl (row := GGroup.row) (ok := fun y : GGroup => GGroup.ok y) r4 fun r hr us hu => rd_GGroup (o4 r hr) hu
 obtain ⟨s5, rfl, a5, b5⟩ := flat_sl (row := GInit.row) (ok := fun _ => Fa True) r5 fun r hr us hu => rd_GInit (o5 r hr) hu
 obtain ⟨s6, rfl, a6, b6⟩ := flat_sl (row := GLine.row) (ok := fun y : GLine => GLine.ok y) r6 fun r hr us hu => rd_GLine (o6 r hr) hu
 obtain ⟨s7, rfl, a7, b7⟩ := flat_sl (row := GInline.row) (ok := fun y : GInline => GInline.ok y) r7 fun r hr us hu => rd_GInline (o7 r hr) hu
 obtain ⟨s8, rfl, a8, b8⟩ := flat_sl (row := GVar.row) (ok := fun y : GVar => GVar.ok y) r8 fun r hr us hu => rd_GVar (o8 r hr) hu
 obtain ⟨s9, rfl, a9, b9⟩ := flat_sl (row := GDepth.row) (ok := fun _ => Fa True) r9 fun r hr us hu => rd_GDepth (o9 r hr) hu
 obtain ⟨s10, rfl, a10, b10⟩ := flat_sl (row := GConvert.row) (ok := fun y : GConvert => GConvert.ok y) r10 fun r hr us hu => rd_GConvert (o10 r hr) hu
 exact ⟨⟨n0, s1, s2, s3, s4, s5, s6, s7, s8, s9, s10⟩, rfl, ⟨z0, a1, b1, a2, b2, a3, a4, b4, a5, a6, b6, a7, b7, a8, b8, a9, a10, b10⟩⟩
theorem rd_sl_GObject {k : Nat} {w : World} {S : Blks} {us : List Value} {ds : List D} (h : okD Tryz.prog (k + 7) 22 ds) (hr : RdsU w S us ds) : ∃ y : Sl GObject, [D.v (.slice y.ad y.l.length y.cap)] = us.map D.v ∧ (AndP (ShF (GObject.row) y) (AllF (fun y => GObject.ok y) y.l)).holds w S := by
 obtain ⟨y, h1, h2⟩ := rd_sl (row := GObject.row) (ok := fun y : GObject => GObject.ok y) Tryz.underlying22 h hr fun r h us hu => rd_GObject h hu
 exact ⟨y, h1, h2⟩
theorem rd_GExport {k : Nat} {w : World} {S : Blks} {us : List Value} {ds : List D} (h : okD Tryz.prog (k + 2) 128 ds) (hr : RdsU w S us ds) : ∃ y : GExport, y.row = us.map D.v ∧ (y.ok).holds w S := by
 have h := okD_struct Tryz.underlying128 h
 obtain ⟨d0, _, rfl, h0, d1, _, rfl, h1, d2, _, rfl, h2, d3, _, rfl, h3, d4, _, rfl, h4, d5, _, rfl, h5, rfl⟩ := h
 obtain ⟨n0, rfl, z0⟩ := okD_string Tryz.underlying9 h0
 obtain ⟨n1, rfl, z1⟩ := okD_string Tryz.underlying9 h1
 obtain ⟨n2, rfl⟩ := okD_bool Tryz.underlying4 h2
 obtain ⟨n3, rfl, _⟩ := okD_int (i := .i64) Tryz.underlying3 h3
 obtain ⟨n4, rfl, _⟩ := okD_int (i := .i64) Tryz.underlying3 h4
 obtain ⟨n5, rfl, _⟩ := okD_int (i := .i64) Tryz.underlying3 h5
 obtain ⟨u0, _, rfl, r0, hr⟩ := hr.cons
 obtain ⟨u1, _, rfl, r1, hr⟩ := hr.cons
 obtain ⟨u2, _, rfl, r2, hr⟩ := hr.cons
 obtain ⟨u3, _, rfl, r3, hr⟩ := hr.cons
 obtain ⟨u4, _, rfl, r4, hr⟩ := hr.cons
 obtain ⟨u5, _, rfl, r5, hr⟩ := hr.cons
 obtain rfl := hr.nil
 obtain rfl := repD_v r0
 obtain rfl := repD_v r1
 obtain rfl := repD_v r2
 obtain rfl := repD_v r3
 obtain rfl := repD_v r4
 obtain rfl := repD_v r5
 exact ⟨⟨n0, n1, n2, n3, n4, n5⟩, rfl, ⟨z0, z1⟩⟩
theorem rd_GVersionDef {k : Nat} {w : World} {S : Blks} {us : List Value} {ds : List D} (h : okD Tryz.prog (k + 3) 178 ds) (hr : RdsU w S us ds) : ∃ y : GVersionDef, y.row = us.map D.v ∧ (y.ok).holds w S := by
 have h := okD_struct Tryz.underlying178 h
 obtain ⟨d0, _, rfl, h0, d1, _, rfl, h1, rfl⟩ := h
 obtain ⟨n0, rfl, z0⟩ := okD_string Tryz.underlying9 h0
 obtain ⟨q1, rfl, m1, o1⟩ := okD_slice Tryz.underlying77 h1
 obtain ⟨u0, _, rfl, r0, hr⟩ := hr.cons
 obtain ⟨u1, _, rfl, r1, hr⟩ := hr.cons
 obtain rfl := hr.nil
 obtain rfl := repD_v r0
 obtain ⟨s1, rfl, a1, b1⟩ := flat_sl (row := fun s : ByteArray => [.v (.string s)]) (ok := fun y : ByteArray => StrF y) r1 fun r hr us hu => rd_str Tryz.underlying9 (o1 r hr) hu
 exact ⟨⟨n0, s1⟩, rfl, ⟨z0, a1, b1⟩⟩
theorem rd_sl_GVersionDef {k : Nat} {w : World} {S : Blks} {us : List Value} {ds : List D} (h : okD Tryz.prog (k + 4) 24 ds) (hr : RdsU w S us ds) : ∃ y : Sl GVersionDef, [D.v (.slice y.ad y.l.length y.cap)] = us.map D.v ∧ (AndP (ShF (GVersionDef.row) y) (AllF (fun y => GVersionDef.ok y) y.l)).holds w S := by
 obtain ⟨y, h1, h2⟩ := rd_sl (row := GVersionDef.row) (ok := fun y : GVersionDef => GVersionDef.ok y) Tryz.underlying24 h hr fun r h us hu => rd_GVersionDef h hu
 exact ⟨y, h1, h2⟩
theorem rd_GIface {k : Nat} {w : World} {S : Blks} {us : List Value} {ds : List D} (h : okD Tryz.prog (k + 5) 73 ds) (hr : RdsU w S us ds) : ∃ y : GIface, y.row = us.map D.v ∧ (y.ok).holds w S := by
 have h := okD_struct Tryz.underlying73 h
 obtain ⟨d0, _, rfl, h0, d1, _, rfl, h1, d2, _, rfl, h2, rfl⟩ := h
 obtain ⟨n0, rfl, z0⟩ := okD_string Tryz.underlying9 h0
 obtain ⟨q1, rfl, m1, o1⟩ := okD_slice Tryz.underlying71 h1
 obtain ⟨q2, rfl, m2, o2⟩ := okD_slice Tryz.underlying24 h2
 obtain ⟨u0, _, rfl, r0, hr⟩ := hr.cons
 obtain ⟨u1, _, rfl, r1, hr⟩ := hr.cons
 obtain ⟨u2, _, rfl, r2, hr⟩ := hr.cons
 obtain rfl := hr.nil
 obtain rfl := repD_v r0
 obtain ⟨s1, rfl, a1, b1⟩ := flat_sl (row := GExport.row) (ok := fun y : GExport => GExport.ok y) r1 fun r hr us hu => rd_GExport (o1 r hr) hu
 obtain ⟨s2, rfl, a2, b2⟩ := flat_sl (row := GVersionDef.row) (ok := fun y : GVersionDef => GVersionDef.ok y) r2 fun r hr us hu => rd_GVersionDef (o2 r hr) hu
 exact ⟨⟨n0, s1, s2⟩, rfl, ⟨z0, a1, b1, a2, b2⟩⟩
theorem rd_sl_GIface {k : Nat} {w : World} {S : Blks} {us : List Value} {ds : List D} (h : okD Tryz.prog (k + 6) 23 ds) (hr : RdsU w S us ds) : ∃ y : Sl GIface, [D.v (.slice y.ad y.l.length y.cap)] = us.map D.v ∧ (AndP (ShF (GIface.row) y) (AllF (fun y => GIface.ok y) y.l)).holds w S := by
 obtain ⟨y, h1, h2⟩ := rd_sl (row := GIface.row) (ok := fun y : GIface => GIface.ok y) Tryz.underlying23 h hr fun r h us hu => rd_GIface h hu
 exact ⟨y, h1, h2⟩
end Go.Proofs.YtgmiihmahaahiaaGreatDoor

namespace Go.Sy
open Go.RowKit Go.Lp
theorem Ent.mk2 {ps : List Per} {p q : Per} (h1 : Ent ps p) (h2 : Ent ps q) : Ent ps (AndP p q) := fun w S hp => ⟨h1 w S hp, h2 w S hp⟩
def Bun (l : List Res) : Res :=
 ⟨fun w S F => ∃ fp : Nat → Blks, (∀ (i : Nat) (R : Res), l[i]? = some R → R.holds w S (fp i)) ∧ (∀ i j, i < l.length → j < l.length → i ≠ j → ∀ b, fp i b → ¬ fp j b) ∧ ∀ b, F b ↔ tot fp l.length b,
  fun ⟨fp, h1, h2, h3⟩ k1 k2 k3 => ⟨fp, fun i R hR => R.mono (h1 i R hR) (fun b hb => k1 b ((h3 b).2 ⟨i, (List.getElem?_eq_some_iff.1 hR).1, hb⟩)) k2 k3, h2, h3⟩⟩
section
variable {w : World} {S : Blks} {fp : Nat → Blks} {ps : List Per} {l : List Res}
theorem St.bun (h : St w S fp ps l) : St w S (fun _ => tot fp l.length) ps [Bun l] where
 per := h.per
 res i R hR := by
   cases i with
   | zero => simp only [List.getElem?_cons_zero, Option.some.injEq] at hR; subst hR; exact ⟨fp, h.res, h.dj, fun _ => Iff.rfl⟩
   | succ i => simp at hR
 lt i hi b hb := let ⟨j, hj, hjb⟩ := hb; h.lt j hj b hjb
 dj i j hi hj hne := by simp only [List.length_singleton] at hi hj; omega
 slt := h.slt
theorem St.unbun (h : St w S fp ps [Bun l]) : ∃ fp', St w S fp' ps l ∧ ∀ b, tot fp' l.length b → tot fp [Bun l].length b := by
 obtain ⟨fp', h1, h2, h3⟩ := h.res 0 _ rfl
 have hin : ∀ b, tot fp' l.length b → fp 0 b := fun b hb => (h3 b).2 hb
 exact ⟨fp', ⟨h.per, h1, fun i hi b hb => h.lt 0 (by simp) b (hin b ⟨i, hi, hb⟩), h2, h.slt⟩, fun b hb => ⟨0, by simp, hin b hb⟩⟩
theorem tot_one (F : Blks) (b : Nat) (R : Res) : tot (fun _ => F) [R].length b ↔ F b := ⟨fun ⟨_, _, h⟩ => h, fun h => ⟨0, by simp, h⟩⟩
variable {P : Program} {R : Value → List Per → List Res → Prop}
theorem Con.post {f : FuncId} {args : List Value} {R' : Value → List Per → List Res → Prop} (h : Con P f args ps l R) (hr : ∀ v ps' hp', R v ps' hp' → R' v ps' hp') : Con P f args ps l R' := fun w S fp hst =>
 (h w S fp hst).mono fun e w' ⟨v, ps', hp', S', fp', he, hR, h⟩ => ⟨v, ps', hp', S', fp', he, hr _ _ _ hR, h⟩
theorem Con.pre {f : FuncId} {args : List Value} {ps0 : List Per} (h : Con P f args ps l R) (hr : ∀ p ∈ ps, Ent ps0 p) : Con P f args ps0 l R := fun w S fp hst =>
 h w S fp ⟨fun p hp => hr p hp w S hst.per, hst.res, hst.lt, hst.dj, hst.slt⟩
end
section
variable {P : Program} {n : Fr} {ops : Array Oper} {Q : Exit → Sta → Prop} {s : Sta} {o : Oper}
end
end Go.Sy

namespace Go.Sy
theorem q_callC {P : Program} {n : Fr} {s : Sta} {d : Option Tmp} {ty : TypeId} {pos : String} {af : Array Edge} {gd : Option (Nat × Bool)} {v : Value} {f : FuncId} {g : Operand} {caps : List Value} (hf : callOk P f = true) {l : List Operand} {ts : Array TypeId} {vs : List Value} (hg : ev s.env g = some (true, .func (.func f) #[] caps.toArray)) (hx : evs s.env l = some vs)
   (hc : ∀ w S fp, St w S fp s.ps s.hp → Calls P f (vs ++ caps).toArray w fun e w' => e = .returned v ∧ Below w.heap.size w w') :
   Quiet P n ⟨d, .call ⟨.value g, l.toArray, ts⟩, ty, pos, af, gd⟩ s v := fun w S fp a hst he hn => by
 rw [exec_call hf (he.val hg rfl) (evs_map he l vs hx)]
 have := hc w S fp hst
 rw [show (vs ++ caps).toArray = vs.toArray ++ caps.toArray by simp] at this
 exact this.mono fun e w' ⟨h1, h2⟩ => ⟨v, h1, rfl, h2⟩
open RowKit in
theorem Con.quiet3 {P : Program} {v : Value} {f : FuncId} {args : List Value} {p q t : Per} (h : Con P f args [p, q, t] [] fun u _ _ => u = v) {w : World} {S : Blks} {fp : Nat → Blks} {ps' : List Per} {hp : List Res} (hp1 : p ∈ ps') (hq1 : q ∈ ps') (ht1 : t ∈ ps') (hst : St w S fp ps' hp) :
   Calls P f args.toArray w fun e w' => e = .returned v ∧ Below w.heap.size w w' := h.quiet (fun _ h => by
     simp only [List.mem_cons, List.not_mem_nil, or_false] at h
     rcases h with rfl | rfl | rfl
     · exact hp1
     · exact hq1
     · exact ht1) hst
end Go.Sy
namespace Go.Proofs.YtgmiihmahaahiaaGreatDoor
open Go.RowKit Go.Lp Go.Sy
open Go.Proofs.Tryz
attribute [local irreducible] aL aB awp aC fwp
theorem tk152 : tyk Tryz.prog 152 = some (false, 1) := by kernel_rfl
end Go.Proofs.YtgmiihmahaahiaaGreatDoor

namespace Go.Sy
open Go.RowKit Go.Lp
def YN {β : Type} (v : β → Value) (Φ : β → Prop) : Value → List Per → List Res → Prop := fun r ps hp => (ps = [] ∧ hp = []) ∧ ∃ b, r = v b ∧ Φ b
abbrev YB (Φ : Prop) : Value → List Per → List Res → Prop := YN Value.bool fun b => b = true → Φ
section
variable {P : Program} {n : Fr} {ops : Array Oper} {Q : Exit → Sta → Prop} {env : Env} {ps : List Per} {hp : List Res} {ty : TypeId} {pos : String} {af : Array Edge} {gd : Option (Nat × Bool)} {rest : List Oper} {β : Type} {v : β → Value} {Φ : β → Prop}
theorem aL_callN {t : Nat} {f : FuncId} {g : Operand} {caps : List Value} {l : List Operand} {ts : Array TypeId} {vs : List Value} (lp : List Nat) (b0 : β) (hf : callOk P f = true) (c : Bool) (hc : guardOf ops env ⟨some t, .call ⟨.value g, l.toArray, ts⟩, ty, pos, af, gd⟩ = some c) (ht : fits n.size (some t) = true)
   (hgv : c = true → ev env g = some (true, .func (.func f) #[] caps.toArray)) (hx : c = true → evs env l = some vs) (hcon : c = true → Con P f (vs ++ caps) (keepP ps lp) [] (YN v Φ))
   (h : ∀ b, (c = true → Φ b) → aL P n ops Q rest ⟨(t, c, v b) :: env, ps, hp⟩) : aL P n ops Q (⟨some t, .call ⟨.value g, l.toArray, ts⟩, ty, pos, af, gd⟩ :: rest) ⟨env, ps, hp⟩ := by
 cases c with
 | true =>
   refine aL_eff (q := true) hc (e_callC lp [] hf (hgv rfl) (hx rfl) ht rfl rfl (hcon rfl) ?_)
   rintro _ _ _ ⟨⟨rfl, rfl⟩, b, rfl, hb⟩
   refine aL_hp ?_ (h b fun _ => hb)
   apply List.ext_getElem?; intro i; rw [putB_get]
   by_cases hi : i < hp.length
   · rw [if_pos hi]; rfl
   · rw [if_neg hi, List.getElem?_eq_none (by simp), List.getElem?_eq_none (by omega)]
 | false => exact aL_quiet (v := v b0) false hc ht (fun h => by cases h) (h b0 fun h => by cases h)
theorem aB_callN {V : List Nat} {k : Nat} {L : Array Bool} {t : Nat} {f : FuncId} {g : Operand} {caps : List Value} {l : List Operand} {ts : Array TypeId} {vs : List Value} (i : Nat) (hi : ops[i]? = some ⟨some t, .call ⟨.value g, l.toArray, ts⟩, ty, pos, af, gd⟩) (hr : Region.ready .any ops L = [i]) (lp : List Nat) (b0 : β) (hf : callOk P f = true) (c : Bool) (hc : guardOf ops env ⟨some t, .call ⟨.value g, l.toArray, ts⟩, ty, pos, af, gd⟩ = some c) (ht : fits n.size (some t) = true)
   (hgv : c = true → ev env g = some (true, .func (.func f) #[] caps.toArray)) (hx : c = true → evs env l = some vs) (hcon : c = true → Con P f (vs ++ caps) (keepP ps lp) [] (YN v Φ))
   (h : ∀ b, (c = true → Φ b) → aB P n ops V Q k (L.setIfInBounds i true) ⟨(t, c, v b) :: env, ps, hp⟩) : aB P n ops V Q (k + 1) L ⟨env, ps, hp⟩ := by
 cases c with
 | true =>
   refine aB_eff (q := true) i hi hr rfl hc (e_callC lp [] hf (hgv rfl) (hx rfl) ht rfl rfl (hcon rfl) ?_)
   rintro _ _ _ ⟨⟨rfl, rfl⟩, b, rfl, hb⟩
   refine aB_hp rfl ?_ (h b fun _ => hb)
   apply List.ext_getElem?; intro j; rw [putB_get]
   by_cases hj : j < hp.length
   · rw [if_pos hj]; rfl
   · rw [if_neg hj, List.getElem?_eq_none (by simp), List.getElem?_eq_none (by omega)]
 | false =>
   intro w S fp a hst he hn hdf w1 hb
   refine ⟨fun h0 => (by rw [hr] at h0; cases h0), fun j hj => ?_⟩
   rw [hr] at hj
   obtain rfl := List.mem_singleton.1 hj
   refine ⟨_, hi, ?_⟩
   rw [if_neg (by rw [wanted_guard (ops := ops) hc he]; exact Bool.false_ne_true)]
   refine ⟨fun _ => Below.refl _ _, ?_⟩
   have hen := he.set (dst := some t) (by rw [hn]; exact ht) false (v b0)
   exact wpB_mono (fun a2 w2 hp => hp.trans (Evo.of_below _ _ hb) (fun _ h => .inl h)) _ _ _ _ (h b0 (fun h => by cases h) w1 S fp _ (hst.below hb) hen (by rw [put_size]; exact hn) (by rw [put_defers]; exact hdf))
end
end Go.Sy

namespace Go.Sy
open Go.RowKit Go.Lp
def AnyB : Res := ⟨fun _ _ _ => True, fun _ _ _ _ => trivial⟩
section
variable {P : Program} {n : Fr} {env : Env} {ps : List Per} {hp : List Res} {d : Option Tmp} {ty : TypeId} {pos : String} {af : Array Edge} {gd : Option (Nat × Bool)}
theorem box_shape {w : World} {b : Nat} {T : TypeId} {cs : List Value} (h : w.heap[b]? = some (.cells cs.toArray T (0, 0))) : w.shape? b = some (T, cs.length) := by
 unfold World.shape?; rw [h]; simp
theorem q_toUn {src dst t T : TypeId} {x : Operand} {b : Nat} {cs : List Value} (i : Nat) (hs : P.underlying src = some (.pointer t)) (hd : P.underlying dst = some .unsafePointer) (ht : ((P.info? t).map fun j => decide (j.size ≠ 0)) = some true) (hx : ev env x = some (true, .pointer (some ⟨b, 0, none⟩))) (hi : hp[i]? = some (Box b T cs)) (h0 : 0 < cs.length) :
   Quiet P n ⟨d, .convert src dst x, ty, pos, af, gd⟩ ⟨env, ps, hp⟩ (.pointer (some ⟨b, 0, none⟩)) := fun w S fp a hst he hn => by
 have h1 := he.val hx rfl
 obtain ⟨hb, _⟩ := hst.res i _ hi
 obtain ⟨j, hj, hjs⟩ := Option.map_eq_some_iff.1 ht
 have hrun := Lib.run_to_unsafe (P := P) w ⟨b, 0, none⟩ hs hd hj (by simpa using hjs) (box_shape hb) h0
 have : (execOp a.eval ⟨d, .convert src dst x, ty, pos, af, gd⟩).run P w = .ok (.value (.pointer (some ⟨b, 0, none⟩))) w := by
   unfold execOp; dsimp only; rw [h1]
   show ((convert src dst (.pointer (some ⟨b, 0, none⟩))).bind fun r => Sem.pure (Next.value r)).run P w = _
   rw [Sem.run_bind', hrun]; rfl
 rw [this]; exact uponQ_ok _ _
theorem q_fromUn {src dst u T : TypeId} {x : Operand} {b : Nat} {cs : List Value} (i m : Nat) (hs : P.underlying src = some .unsafePointer) (hd : P.underlying dst = some (.pointer u)) (hu : (P.info? u).isSome = true) (hx : ev env x = some (true, .pointer (some ⟨b, 0, none⟩))) (hi : hp[i]? = some (Box b T cs)) (hm : cs.length = m) (hlies : liesAt P P.depth T (m / P.cellsOf T) 0 u 1 = true) :
   Quiet P n ⟨d, .convert src dst x, ty, pos, af, gd⟩ ⟨env, ps, hp⟩ (.pointer (some ⟨b, 0, none⟩)) := fun w S fp a hst he hn => by
 have h1 := he.val hx rfl
 obtain ⟨hb, _⟩ := hst.res i _ hi
 obtain ⟨j, hj⟩ := Option.isSome_iff_exists.1 hu
 have hsh := box_shape hb
 rw [hm] at hsh
 have hrun := Lib.run_from_unsafe (P := P) w ⟨b, 0, none⟩ hs hd hj hsh hlies
 have : (execOp a.eval ⟨d, .convert src dst x, ty, pos, af, gd⟩).run P w = .ok (.value (.pointer (some ⟨b, 0, none⟩))) w := by
   unfold execOp; dsimp only; rw [h1]
   show ((convert src dst (.pointer (some ⟨b, 0, none⟩))).bind fun r => Sem.pure (Next.value r)).run P w = _
   rw [Sem.run_bind', hrun]; rfl
 rw [this]; exact uponQ_ok _ _
theorem q_ptrNilNil {x : Operand} {t t' : TypeId} (hT : (match P.underlying t with | some (.pointer _) => true | _ => false) = true) (hx : ev env x = some (true, .pointer none)) : Quiet P n ⟨d, .binOp .eql t x (.const (.pointer none)) t', ty, pos, af, gd⟩ ⟨env, ps, hp⟩ (.bool true) := .run2 hx (y := .const (.pointer none)) (vy := .pointer none) rfl fun ρ w h1 h2 => by
 have hu : ∃ e, P.underlying t = some (.pointer e) := by
   cases h : P.underlying t with
   | none => rw [h] at hT; cases hT
   | some dd => rw [h] at hT; cases dd <;> first | exact ⟨_, rfl⟩ | cases hT
 obtain ⟨e, hu⟩ := hu
 unfold execOp; dsimp only; rw [h1, h2]
 have e1 : (do eqGuard BinOp.eql t x (.const (.pointer none)) (Value.pointer none) (Value.pointer none); binOp BinOp.eql t (Value.pointer none) (Value.pointer none)) = binOp BinOp.eql t (Value.pointer none) (Value.pointer none) := rfl
 have e2 : (binOp BinOp.eql t (Value.pointer none) (Value.pointer none)).run P w = .ok (.bool true) w := by
   have := run_eql_pointer_nil (P := P) (w := w) t none (by rw [hu]; unfold Program.pointee; rw [hu])
   exact this
 show ((do eqGuard BinOp.eql t x (.const (.pointer none)) (Value.pointer none) (Value.pointer none); binOp BinOp.eql t (Value.pointer none) (Value.pointer none)).bind fun r => Sem.pure (Next.value r)).run P w = _
 rw [e1, Sem.run_bind', e2]; rfl
theorem q_ptrSame {x y : Operand} {t t' te : TypeId} {a0 : Addr} (hu : P.underlying t = some (.pointer te)) (hte : (P.info? te).isSome = true) (hx : ev env x = some (true, .pointer (some a0))) (hy : ev env y = some (true, .pointer (some a0))) : Quiet P n ⟨d, .binOp .neq t x y t', ty, pos, af, gd⟩ ⟨env, ps, hp⟩ (.bool false) := .run2 hx hy fun ρ w h1 h2 => by
 obtain ⟨j, hj⟩ := Option.isSome_iff_exists.1 hte
 unfold execOp; dsimp only; rw [h1, h2]
 have e1 : ∀ x y : Operand, (do eqGuard BinOp.neq t x y (Value.pointer (some a0)) (Value.pointer (some a0)); binOp BinOp.neq t (Value.pointer (some a0)) (Value.pointer (some a0))) = binOp BinOp.neq t (Value.pointer (some a0)) (Value.pointer (some a0)) := fun _ _ => rfl
 have e2 := Lib.run_neq_ptr_same (P := P) w a0 hu hj
 show ((do eqGuard BinOp.neq t x y (Value.pointer (some a0)) (Value.pointer (some a0)); binOp BinOp.neq t (Value.pointer (some a0)) (Value.pointer (some a0))).bind fun r => Sem.pure (Next.value r)).run P w = _
 rw [e1, Sem.run_bind', e2]; rfl
theorem q_sliceData {x : Operand} {T : TypeId} {a0 : Addr} {m c : Nat} (hc : c ≠ 0) (hx : ev env x = some (true, .slice (some a0) m c)) : Quiet P n ⟨d, .call ⟨.builtin .unsafeSliceData, #[x], #[T]⟩, ty, pos, af, gd⟩ ⟨env, ps, hp⟩ (.pointer (some a0)) := .run1 hx fun ρ w h => by
 have hr := Lib.run_unsafeSliceData_row (P := P) w #[T] ty a0 m c hc
 have hexec : execOp ρ ⟨d, .call ⟨.builtin .unsafeSliceData, #[x], #[T]⟩, ty, pos, af, gd⟩ = (Builtin.unsafeSliceData_ #[T] ty (#[x].map ρ)).bind fun r => Sem.pure (Next.value r) := rfl
 rw [hexec, show #[x].map ρ = #[ρ x] by simp, h, Sem.run_bind', hr]; rfl
abbrev rowU : UInt8 → List D := fun u => [.v (.int .u8 u.toNat)]
theorem e_unsafeString {t : Nat} {x y : Operand} {pt it E : TypeId} {g cp : Nat} {l : List UInt8} {K : Sta → Prop} (i : Nat) (hp1 : P.underlying pt = some (.pointer E)) (hc : P.cellsOf E = 1) (h0 : l ≠ []) (hx : ev env x = some (true, .pointer (some ⟨g, 0, none⟩))) (hy : ev env y = some (true, .int .i64 l.length))
   (hi : hp[i]? = some (OwnS (.slice (some ⟨g, 0, none⟩) l.length cp) E 1 (l.map rowU))) (ht : fits n.size (some t) = true) (hK : K ⟨(t, true, .string ⟨l.toArray⟩) :: env, ps, hp.set i AnyB⟩) :
   Eff P n ⟨some t, .call ⟨.builtin .unsafeString, #[x, y], #[pt, it]⟩, ty, pos, af, gd⟩ ⟨env, ps, hp⟩ false K := .change i hi fun w S fp a hst he hn hR => by
 have h1 := he.val hx rfl
 have h2 := he.val hy rfl
 rcases hR with ⟨h, _⟩ | ⟨b, cap, hv, ⟨cs, sp, hb, hrows, hcap, hrc, hcm⟩, hF⟩
 · cases h
 · simp only [Value.slice.injEq, Option.some.injEq, Addr.mk.injEq] at hv
   obtain ⟨⟨rfl, _⟩, _, rfl⟩ := hv
   have hlen : cs.length = l.length := by rw [hrows.len, List.length_map, Nat.mul_one]
   rw [List.length_map] at hrc
   have hsh := box_shape hb
   have hcell : ∀ j u, l[j]? = some u → w.cell? ((⟨g, 0, none⟩ : Addr).add j) = some (.int .u8 u.toNat) := fun j u hj => by
     obtain ⟨v, hv, hrep⟩ := hrows.rep j 0 (rowU u) (.v (.int .u8 u.toNat)) (by rw [List.getElem?_map, hj]; rfl) rfl
     rw [Nat.mul_one, Nat.add_zero] at hv
     rw [repD_v hrep] at hv
     have hjl := (List.getElem?_eq_some_iff.1 hv).1
     have : (⟨g, 0, none⟩ : Addr).add j = ⟨g, j, none⟩ := by
       unfold Addr.add
       by_cases h : j = 0
       · subst h; simp
       · simp [h]
     rw [this, cell_box hb, List.getElem?_append_left hjl]; exact hv
   have hcl : l.length ≤ (cs ++ sp).length := by rw [List.length_append]; omega
   have hr := Lib.run_unsafeString_row (P := P) w pt it ty E hp1 hc g (cs ++ sp).length hsh l h0 hcl (by unfold maxLen at hcm; omega) hcell
   have hexec : execOp a.eval ⟨some t, .call ⟨.builtin .unsafeString, #[x, y], #[pt, it]⟩, ty, pos, af, gd⟩ = (Builtin.unsafeString_ #[pt, it] ty (#[x, y].map a.eval)).bind fun r => Sem.pure (Next.value r) := rfl
   rw [hexec, show #[x, y].map a.eval = #[a.eval x, a.eval y] by simp, h1, h2, Sem.run_bind', hr]
   have hl0 : l.length ≠ 0 := fun h => h0 (List.eq_nil_of_length_eq_zero h)
   obtain ⟨f, hfz⟩ : ∃ f : Obj → Obj, w.freeze ⟨g, 0, none⟩ l.length = { w with heap := w.heap.modify g f } := ⟨_, by unfold World.freeze; rw [if_neg hl0]⟩
   refine ⟨AnyB, ⟨(t, true, .string ⟨l.toArray⟩) :: env, ps, hp.set i AnyB⟩, hK, rfl, rfl, ?_, trivial, ?_, ?_, ?_, ?_, ?_⟩
   · exact he.put (g := true) (by rw [hn]; simpa [fits] using ht) _
   · rw [hfz]
   · rw [hfz]
   · rw [hfz]; exact ⟨rfl, rfl⟩
   · rw [hfz]; simp
   · intro b' hb' hne
     rw [hfz]
     simp only [Array.getElem?_modify]
     rw [if_neg (fun h => hne ((hF b').2 h.symm))]
end
end Go.Sy

namespace Go.Proofs.YtgmiihmahaahiaaGreatDoor
open Go.RowKit Go.Lp Go.Sy
open Go.Proofs.Tryz
attribute [local irreducible] aL aB awp aC fwp
theorem noesc_fn (p : Value) (w : World) : (Extern.AbiNoEscape.same #[p]).run Tryz.prog w = .ok p w := rfl
abbrev bldV (b : Nat) (p v : Value) : Res := Box b 315 [p, v]
theorem con_bcopy0 (b : Nat) (v : Value) : Con Tryz.prog 285 [.pointer (some ⟨b, 0, none⟩)] [] [bldV b (.pointer none) v] fun _ ps hp => ps = [] ∧ hp = [bldV b (.pointer (some ⟨b, 0, none⟩)) v] := by
 refine Con.enter Tryz.func285 rfl (by simp [Tryz.ntmps285]) ?_
 show awp _ _ _ _ ⟨[(0, true, _)], _, _⟩
 refine aSR (aM rfl (aU rfl (q_nilCheck rfl) ?_))
 refine aU rfl (q_fieldAddr (off := 0) (by kernel_rfl) rfl) ?_
 refine aU rfl (q_load 0 tk313 rfl rfl rfl) ?_
 refine aU rfl (q_ptrNilNil (by kernel_rfl) rfl) ?_
 refine aNn ?_
 refine awp_cond _ rfl (fun h1 => ?_) (fun h1 => ?_)
 ·skip
  refine awp_region (aM rfl (aM rfl ?_))
  refine aU rfl (q_toUn (t := 315) 0 (by kernel_rfl) (by kernel_rfl) (by kernel_rfl) rfl rfl (by simp)) ?_
  refine aU rfl (q_ext (vs := _) Tryz.func305 rfl rfl (by kernel_rfl) (by kernel_rfl) rfl (fun w => noesc_fn _ w)) ?_
  refine aU rfl (q_fromUn (u := 315) 0 2 (by kernel_rfl) (by kernel_rfl) (by kernel_rfl) rfl rfl rfl (by kernel_rfl)) ?_
  refine aU rfl (q_nilCheck rfl) ?_
  refine aU rfl (q_fieldAddr (off := 0) (by kernel_rfl) rfl) ?_
  refine aL_eff rfl (x_store 0 tk313 rfl rfl rfl rfl ?_)
  refine aL_hp (by (try simp only [nK, nL]); rfl) ?_
  refine aL_nil ?_
  refine fin0 [] [0] rfl Tryz.results285 ?_ (.inl rfl)
  exact ⟨rfl, rfl⟩
 ·skip
  exact absurd h1 (by decide)
theorem con_bcopy1 (b : Nat) (v : Value) : Con Tryz.prog 285 [.pointer (some ⟨b, 0, none⟩)] [] [bldV b (.pointer (some ⟨b, 0, none⟩)) v] fun _ ps hp => ps = [] ∧ hp = [bldV b (.pointer (some ⟨b, 0, none⟩)) v] := by
 refine Con.enter Tryz.func285 rfl (by simp [Tryz.ntmps285]) ?_
 show awp _ _ _ _ ⟨[(0, true, _)], _, _⟩
 refine aSR (aM rfl (aU rfl (q_nilCheck rfl) ?_))
 refine aU rfl (q_fieldAddr (off := 0) (by kernel_rfl) rfl) ?_
 refine aU rfl (q_load 0 tk313 rfl rfl rfl) ?_
 refine aU rfl (q_ptrNil (by kernel_rfl) rfl) ?_
 refine aNn ?_
 refine awp_cond _ rfl (fun h1 => ?_) (fun h1 => ?_)
 ·skip
  exact absurd h1 (by decide)
 ·skip
  refine aSR (aM rfl (aU rfl (q_nilCheck rfl) ?_))
  refine aU rfl (q_fieldAddr (off := 0) (by kernel_rfl) rfl) ?_
  refine aU rfl (q_load 0 tk313 rfl rfl rfl) (aM rfl ?_)
  refine aU rfl (q_ptrSame (te := 315) (by kernel_rfl) (by kernel_rfl) rfl rfl) ?_
  refine aNn ?_
  refine awp_cond _ rfl (fun h2 => ?_) (fun h2 => ?_)
  ·skip
   exact absurd h2 (by decide)
  ·skip
   refine awp_skip ?_
   refine fin0 [] [0] rfl Tryz.results285 ?_ (.inl rfl)
   exact ⟨rfl, rfl⟩
theorem con_bcopy (b : Nat) (p : Value) (hp : p = .pointer none ∨ p = .pointer (some ⟨b, 0, none⟩)) (v : Value) : Con Tryz.prog 285 [.pointer (some ⟨b, 0, none⟩)] [] [bldV b p v] fun _ ps hp => ps = [] ∧ hp = [bldV b (.pointer (some ⟨b, 0, none⟩)) v] := by
 rcases hp with rfl | rfl
 · exact con_bcopy0 b v
 · exact con_bcopy1 b v
theorem con_bwrite (b : Nat) (p : Value) (hp : p = .pointer none ∨ p = .pointer (some ⟨b, 0, none⟩)) (v : Value) (l : List UInt8) (hl : l.length ≤ 1000000) (u : UInt8) : Con Tryz.prog 249 [.pointer (some ⟨b, 0, none⟩), .int .u8 u.toNat] [] [bldV b p v, OwnS v 5 1 (l.map rowU)]
   fun _ ps hp => ps = [] ∧ ∃ (ad : Option Addr) (c : Nat), hp = [bldV b (.pointer (some ⟨b, 0, none⟩)) (.slice ad (l ++ [u]).length c), OwnS (.slice ad (l ++ [u]).length c) 5 1 ((l ++ [u]).map rowU)] := by
 refine Con.enter Tryz.func249 rfl (by simp [Tryz.ntmps249]) ?_
 show awp _ _ _ _ ⟨[(0, true, _), (1, true, _)], _, _⟩
 refine aSR (aA rfl (aNn (aSR (aM rfl ?_))))
 refine aL_eff (q := false) rfl (e_call [] [0] (by kernel_rfl) rfl rfl rfl rfl (con_bcopy b p hp v) ?_)
 rintro _ _ _ ⟨rfl, rfl⟩
 refine aL_st (by (try simp only [nM, nN]); rfl) (by (try simp only [putB, place, Nat.reduceBEq, if_true, if_false, reduceIte, Nat.reduceAdd, nW]); rfl) ?_
 refine aNn (aSR (aM rfl (aM rfl (aU rfl (q_nilCheck rfl) ?_))))
 refine aU rfl (q_fieldAddr (off := 1) (by kernel_rfl) rfl) ?_
 refine aU rfl (q_load 0 tk280 rfl rfl rfl) (aM rfl ?_)
 refine aL_eff (q := true) rfl (w_lit (zs := [.int .u8 0]) (l := [(0, .tmp 12)]) el280 (by kernel_rfl) (by decide) (by decide) (by decide) rfl rfl rfl (.more rfl (.v rfl .nil) .nil) rfl rfl (fun v2_6 => ?_))
 refine aL_hp (by (try simp only [nM, nN]); rfl) ?_
 refine aL_eff rfl (w_append 1 el280 rfl rfl rfl rfl (w_srcO 2 el280 rfl (by simp)) (by first | assumption | simp) (by show (l.map rowU).length + 1 ≤ _; rw [List.length_map]; exact Nat.le_trans (Nat.add_le_add_right hl 1) (by decide)) ((l ++ [u]).length) (by show (l.map rowU).length + 1 = _; rw [List.length_map, List.length_append]; rfl) (fun v2_7 c2_7 => ?_))
 refine aL_hp (by (try simp only [nK, nL]); rfl) ?_
 refine aU rfl (q_nilCheck rfl) ?_
 refine aU rfl (q_fieldAddr (off := 1) (by kernel_rfl) rfl) ?_
 refine aL_eff rfl (x_store 0 tk280 rfl rfl rfl rfl ?_)
 refine aL_hp (by (try simp only [nK, nL]); rfl) ?_
 refine aNn (aSR (aA rfl (aNn (awp_ret ?_))))
 refine fin1 [] [0, 1] rfl Tryz.results249 rfl ?_ (.inr rfl)
 exact ⟨rfl, v2_7, c2_7, by rw [List.map_append]; rfl⟩
theorem con_bstring (b : Nat) (p : Value) (g cp : Nat) (hcp : cp ≠ 0) (l : List UInt8) (hl : l ≠ []) : Con Tryz.prog 250 [.pointer (some ⟨b, 0, none⟩)] [] [bldV b p (.slice (some ⟨g, 0, none⟩) l.length cp), OwnS (.slice (some ⟨g, 0, none⟩) l.length cp) 5 1 (l.map rowU)]
   fun r ps hp => ps = [] ∧ hp = [] ∧ r = .string ⟨l.toArray⟩ := by
 refine Con.enter Tryz.func250 rfl (by simp [Tryz.ntmps250]) ?_
 show awp _ _ _ _ ⟨[(0, true, _)], _, _⟩
 refine aSR (aA rfl (aNs ?_))
 refine awp_drawn [10] (by kernel_rfl) ?_
 show aB _ _ _ _ _ 12 #[false, false, false, false, false, false, false, false, false, false, false, false] _
 refine bU 0 rfl (by kernel_rfl) rfl (q_move rfl) ?_
 refine bU 1 rfl (by kernel_rfl) rfl (q_nilCheck rfl) ?_
 refine bU 2 rfl (by kernel_rfl) rfl (q_fieldAddr (off := 1) (by kernel_rfl) rfl) ?_
 refine bU 3 rfl (by kernel_rfl) rfl (q_load 0 tk280 rfl rfl rfl) ?_
 refine bU 4 rfl (by kernel_rfl) rfl (q_sliceData hcp rfl) ?_
 refine bU 5 rfl (by kernel_rfl) rfl (q_move rfl) ?_
 refine bU 6 rfl (by kernel_rfl) rfl (q_nilCheck rfl) ?_
 refine bU 7 rfl (by kernel_rfl) rfl (q_fieldAddr (off := 1) (by kernel_rfl) rfl) ?_
 refine bU 8 rfl (by kernel_rfl) rfl (q_load 0 tk280 rfl rfl rfl) ?_
 refine bU 9 rfl (by kernel_rfl) rfl (q_lenS Tryz.underlying280 rfl) ?_
 refine aB_eff (q := false) 10 rfl (by kernel_rfl) rfl rfl (e_unsafeString 1 (by kernel_rfl) (by kernel_rfl) hl rfl rfl rfl rfl ?_)
 refine aB_st rfl (by (try simp only [nM, nN]); rfl) (by (try simp only [putB, place, Nat.reduceBEq, if_true, if_false, reduceIte, Nat.reduceAdd, nW]); rfl) ?_
 refine bU 11 rfl (by kernel_rfl) rfl (q_assign rfl) ?_
 refine aB_nil (by kernel_rfl) ?_
 refine thn_n (awp_ret ?_)
 refine fin1 [] [] rfl Tryz.results250 rfl ?_ (.inr rfl)
 exact ⟨rfl, rfl, rfl⟩
end Go.Proofs.YtgmiihmahaahiaaGreatDoor

namespace Go.Lp
open Go.RowKit Go.Proofs.YtgmiihmahaahiaaGreatDoor
def ofBytes (l : List UInt8) : ByteArray := ⟨l.toArray⟩
def formTab : List (List UInt8 × List UInt8 × List UInt8 × List UInt8) := [
 ([], [], [], []),
 ([110, 111, 112], [], [], []),
 ([115, 97, 102, 101], [], [], []),
 ([115, 101, 116], [65, 73], [], [65]),
 ([104, 105, 103, 104], [65, 73], [65], [65]),
 ([109, 111, 118, 101], [65, 66], [66], [65]),
 ([97, 100, 100], [65, 66, 67], [66, 67], [65]),
 ([115, 117, 98], [65, 66, 67], [66, 67], [65]),
 ([109, 117, 108], [65, 66, 67], [66, 67], [65]),
 ([97, 110, 100], [65, 66, 67], [66, 67], [65]),
 ([111, 114], [65, 66, 67], [66, 67], [65]),
 ([108, 101, 115, 115], [65, 66, 67], [66, 67], [65]),
 ([115, 97, 109, 101], [65, 66, 67], [66, 67], [65]),
 ([97, 100, 100, 105], [65, 66, 73], [66], [65]),
 ([97, 100, 100, 114], [65, 73], [], [65]),
 ([108, 111, 97, 100], [65, 66, 73], [66], [65]),
 ([98, 121, 116, 101], [65, 66, 73], [66], [65]),
 ([115, 116, 111, 114, 101], [65, 66, 73], [65, 66], []),
 ([112, 117, 116], [65, 66, 73], [65, 66], []),
 ([106, 117, 109, 112], [73], [], []),
 ([122, 101, 114, 111], [65, 73], [65], []),
 ([110, 111, 110, 122, 101, 114, 111], [65, 73], [65], []),
 ([99, 97, 108, 108], [73], [83], [83]),
 ([99, 97, 108, 108, 114], [65], [65, 83], [83]),
 ([99, 97, 108, 108, 115], [73], [83], [83]),
 ([106, 117, 109, 112, 115], [73], [], []),
 ([114, 101, 116, 117, 114, 110], [], [83], [83]),
 ([112, 117, 115, 104], [65], [65, 83], [83]),
 ([112, 111, 112], [65], [83], [65, 83]),
 ([116, 108, 115], [65, 66], [66], [65]),
 ([115, 121, 115], [73], [], [])]
def formV (r : List UInt8 × List UInt8 × List UInt8 × List UInt8) : List Value := [.string (ofBytes r.1), .string (ofBytes r.2.1), .string (ofBytes r.2.2.1), .string (ofBytes r.2.2.2)]
def formsV : List Value := formTab.flatMap formV
def opds (op : Nat) : List UInt8 := (formTab.getD op ([], [], [], [])).2.1
theorem thirtyone {k : Nat} (h : k < 31) : k = 0 ∨ k = 1 ∨ k = 2 ∨ k = 3 ∨ k = 4 ∨ k = 5 ∨ k = 6 ∨ k = 7 ∨ k = 8 ∨ k = 9 ∨ k = 10 ∨ k = 11 ∨ k = 12 ∨ k = 13 ∨ k = 14 ∨ k = 15 ∨ k = 16 ∨ k = 17 ∨ k = 18 ∨ k = 19 ∨ k = 20 ∨ k = 21 ∨ k = 22 ∨ k = 23 ∨ k = 24 ∨ k = 25 ∨ k = 26 ∨ k = 27 ∨ k = 28 ∨ k = 29 ∨ k = 30 := by omega
theorem forms_opds {k : Nat} (h : k < 31) : formsV[k * 4 + 1]? = some (.string (ofBytes (opds k))) := by
 rcases thirtyone h with rfl | rfl | rfl | rfl | rfl | rfl | rfl | rfl | rfl | rfl | rfl | rfl | rfl | rfl | rfl | rfl | rfl | rfl | rfl | rfl | rfl | rfl | rfl | rfl | rfl | rfl | rfl | rfl | rfl | rfl | rfl <;> rfl
end Go.Lp

