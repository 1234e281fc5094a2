/- Parts of the proof, in build order. No condition. -/
import Derived.Test.YtgmiihmahaahiaaGreatDoorQb03
import Derived.Test.YtgmiihmahaahiaaGreatDoorQb02
import Derived.Lib.UnsafeStr
import Derived.Lib.Builder
import Derived.MapKept
import Derived.Laws.StructEq
import Derived.Laws.Small
import Derived.ChangeKeysEq
import Derived.DeepKeys3
set_option linter.unusedSimpArgs false
set_option linter.unusedVariables false
set_option maxHeartbeats 1000000
set_option maxRecDepth 20000
namespace Go.Sy
open Go.RowKit Go.Lp
structure Sl (α : Type) where
 ad : Option Addr
 cap : Nat
 l : List α
instance {α : Type} : Inhabited (Sl α) := ⟨⟨none, 0, []⟩⟩
abbrev Sl.val {α : Type} (s : Sl α) : Value := .slice s.ad s.l.length s.cap
abbrev ShF {α : Type} (row : α → List D) (s : Sl α) : Per := Sh (.slice s.ad s.l.length s.cap) (.sl (s.l.map row))
def bW {α : Type} (p : α → Per) (l : List α) : Per := ⟨fun w S => ∀ x ∈ l, (p x).holds w S, fun h h1 h2 x hx => (p x).mono (h x hx) h1 h2⟩
def cw (p q : Per) : Per := ⟨fun w S => p.holds w S ∧ q.holds w S, fun h h1 h2 => ⟨p.mono h.1 h1 h2, q.mono h.2 h1 h2⟩⟩
section
variable {α : Type} {ps : List Per} {p q : Per}
theorem Ent.all {f : α → Per} {l : List α} {i : Nat} {x : α} (h : Ent ps (bW f l)) (hx : l[i]? = some x) : Ent ps (f x) := fun w S hp => h w S hp x (List.mem_of_getElem? hx)
theorem Ent.allm {f : α → Per} {l : List α} {x : α} (h : Ent ps (bW f l)) (hx : x ∈ l) : Ent ps (f x) := fun w S hp => h w S hp x hx
theorem Ent.left (h : Ent ps (cw p q)) : Ent ps p := fun w S hp => (h w S hp).1
theorem Ent.right (h : Ent ps (cw p q)) : Ent ps q := fun w S hp => (h w S hp).2
theorem Ent.yes {c : Bool} (h : Ent ps (cnd c p)) (hc : c = true) : Ent ps p := fun w S hp => h w S hp hc
theorem aS {row : α → List D} {l : List α} {i : Nat} {x : α} (h : l[i]? = some x) : (l.map row)[i]? = some (row x) := by rw [List.getElem?_map, h]; rfl
end
theorem Con.quiet2 {P : Program} {v : Value} {f : FuncId} {args : List Value} {p q : Per} (h : Con P f args [p, q] [] fun u _ _ => u = v) {w : World} {S : bE} {fp : Nat → bE} {ps' : List Per} {hp : List Res} (hp1 : p ∈ ps') (hq1 : q ∈ ps') (hst : St w S fp ps' hp) :
   Calls P f args.toArray w fun e w' => e = .returned v ∧ Below w.heap.size w w' := h.quiet (fun _ h => by
     rcases List.mem_cons.1 h with rfl | h
     · exact hp1
     · rw [List.mem_singleton.1 h]; exact hq1) hst
theorem bf {P : Program} {n : Fr} {Q : Exit → Sta → Prop} {s : Sta} {c : Code} {ad : Option Addr} {m cp : Nat} {rows : List (List D)} (hs : Ent s.ps (Sh (.slice ad m cp) (.sl rows))) (h : m ≤ 9223372036854775807 → awp P n c Q s) : awp P n c Q s :=
 jw (fun w S fp hst => by
   have h : ei w S (.slice ad m cp) (.sl rows) := hs w S hst.per
   cases h with
   | e a c hc => simp
   | sl b o c sz rows us hb hn hc _ _ _ => unfold maxLen at hc; omega) h
theorem l9 {P : Program} {n : Fr} {Q : Exit → Sta → Prop} {s : Sta} {c : Code} {v : Value} {rows : List (List D)} (hs : Ent s.ps (Sh v (.sl rows))) (h : ∀ ad k, v = .slice ad rows.length k → awp P n c Q s) : awp P n c Q s :=
 jw (φ := ∃ ad k, v = .slice ad rows.length k) (fun w S fp hst => by
   have h : ei w S v (.sl rows) := hs w S hst.per
   cases h with
   | e a c hc => exact ⟨_, _, rfl⟩
   | sl b o c sz rows us hb hn hc _ _ _ => exact ⟨_, _, rfl⟩) (fun ⟨ad, k, e⟩ => h ad k e)
theorem yD {P : Program} {n : Fr} {Q : Exit → Sta → Prop} {env : Env} {ps : List Per} {hp hp' : List Res} {c : Code} (h : hp = hp') (k : awp P n c Q ⟨env, ps, hp'⟩) : awp P n c Q ⟨env, ps, hp⟩ := h ▸ k
def elt {α : Type} [Inhabited α] (l : List α) (i : Int) : α := l.getD i.toNat default
theorem lX {α : Type} [Inhabited α] {l : List α} {i : Int} (h : i < l.length) (h0 : 0 ≤ i) : l[i.toNat]? = some (elt l i) := by
 have : i.toNat < l.length := by omega
 simp [elt, List.getD, this]
theorem bY {α : Type} [Inhabited α] {l : List α} {i : Nat} (h : i < l.length) : l[i]? = some (elt l (i : Int)) := by simp [elt, List.getD, h]
theorem dO {α : Type} [Inhabited α] {row : α → List D} {l : List α} {i : Int} (h : i < l.length) (h0 : 0 ≤ i) : (l.map row)[i.toNat]? = some (row (elt l i)) := aS (lX h h0)
end Go.Sy

namespace Go.Sy
open Go.RowKit Go.Lp
def eP (s : ByteArray) : Per := Fa (s.size ≤ maxLen)
section
variable {P : Program} {n : Fr} {env : Env} {ps : List Per} {hp : List Res} {c : Code} {Q : Exit → Sta → Prop}
theorem xG {φ : Prop} (h : Ent ps (Fa φ)) (k : φ → awp P n c Q ⟨env, ps, hp⟩) : awp P n c Q ⟨env, ps, hp⟩ := fun w S fp a hst he hn hd => k (h w S hst.per) w S fp a hst he hn hd
theorem eE {s : ByteArray} (h : Ent ps (eP s)) (k : s.size ≤ maxLen → awp P n c Q ⟨env, ps, hp⟩) : awp P n c Q ⟨env, ps, hp⟩ := xG h k
end
end Go.Sy

namespace Go.Sy
open Go.RowKit Go.Lp
def eF (w : World) (S : bE) (us : List Value) (ds : List D) : Prop := us.length = ds.length ∧ ∀ (j : Nat) (d : D), ds[j]? = some d → ∃ u, us[j]? = some u ∧ ei w S u d
theorem eF.nil {w : World} {S : bE} {us : List Value} (h : eF w S us []) : us = [] := List.eq_nil_of_length_eq_zero h.1
theorem eF.cons {w : World} {S : bE} {us : List Value} {d : D} {ds : List D} (h : eF w S us (d :: ds)) : ∃ u us', us = u :: us' ∧ ei w S u d ∧ eF w S us' ds := by
 cases us with
 | nil => have := h.1; simp at this
 | cons u us =>
   obtain ⟨u', h1, h2⟩ := h.2 0 d rfl
   simp only [List.getElem?_cons_zero, Option.some.injEq] at h1
   subst h1
   exact ⟨u, us, rfl, h2, by simpa using h.1, fun j e hj => by have := h.2 (j + 1) e (by simpa using hj); simpa using this⟩
theorem oG {w : World} {cs : List Value} {ds : List D} (hl : ds.length = cs.length) (h : Rds w cs 0 ds) : eF w (fun b => b < w.heap.size) cs ds := ⟨hl.symm, fun j d hj => by
 obtain ⟨u, h1, _, h2⟩ := h j d hj
 rw [Nat.zero_add] at h1
 exact ⟨u, h1, h2⟩⟩
theorem dN {α : Type} [Inhabited α] {row : α → List D} {ok : α → Per} {w : World} {S : bE} {v : Value} {rows : List (List D)} (h : ei w S v (.sl rows))
   (hf : ∀ r ∈ rows, ∀ us : List Value, eF w S us r → ∃ y : α, row y = us.map D.v ∧ (ok y).holds w S) : ∃ s : Sl α, v = s.val ∧ (ShF row s).holds w S ∧ (bW ok s.l).holds w S := by
 cases h with
 | e a c hc => exact ⟨⟨a, c, []⟩, rfl, .e a c hc, fun y hy => by cases hy⟩
 | sl b o c sz _ us hb hn hc hrl hcell hd =>
   have each : ∀ i : Nat, ∃ y : α, i < rows.length → row y = ((List.range sz).map fun j => us i j).map D.v ∧ (ok y).holds w S := fun i => by
     by_cases hi : i < rows.length
     · obtain ⟨r, hr⟩ : ∃ r, rows[i]? = some r := ⟨_, List.getElem?_eq_getElem hi⟩
       obtain ⟨y, h1, h2⟩ := hf r (List.mem_of_getElem? hr) ((List.range sz).map fun j => us i j) ⟨by simp [hrl i r hr], fun j d hj => by
         have hjl := (List.getElem?_eq_some_iff.1 hj).1
         rw [hrl i r hr] at hjl
         exact ⟨us i j, by rw [List.getElem?_map, List.getElem?_range hjl]; rfl, hd i j r d hr hj⟩⟩
       exact ⟨y, fun _ => ⟨h1, h2⟩⟩
     · exact ⟨default, fun h => absurd h hi⟩
   obtain ⟨Y, hY⟩ := Classical.skolem.1 each
   have hget : ∀ (i : Nat) (r : List D), (((List.range rows.length).map Y).map row)[i]? = some r → i < rows.length ∧ r = ((List.range sz).map fun j => us i j).map D.v := fun i r hi => by
     rw [List.getElem?_map, List.getElem?_map] at hi
     by_cases hil : i < rows.length
     · rw [List.getElem?_range hil] at hi
       simp only [Option.map_some, Option.some.injEq] at hi
       exact ⟨hil, by rw [← hi]; exact (hY i hil).1⟩
     · rw [List.getElem?_eq_none (by simpa using hil)] at hi; cases hi
   have hcl : ∀ (i j : Nat) (r : List D) (d : D), (((List.range rows.length).map Y).map row)[i]? = some r → r[j]? = some d → ∃ r0 d0, rows[i]? = some r0 ∧ r0[j]? = some d0 ∧ d = .v (us i j) := fun i j r d hi hj => by
     obtain ⟨hil, rfl⟩ := hget i r hi
     obtain ⟨r0, hr0⟩ : ∃ r, rows[i]? = some r := ⟨_, List.getElem?_eq_getElem hil⟩
     have hjl := (List.getElem?_eq_some_iff.1 hj).1
     rw [List.length_map, List.length_map, List.length_range] at hjl
     rw [List.getElem?_map, List.getElem?_map, List.getElem?_range hjl] at hj
     simp only [Option.map_some, Option.some.injEq] at hj
     exact ⟨r0, _, hr0, List.getElem?_eq_getElem (by rw [hrl i r0 hr0]; exact hjl), hj.symm⟩
   refine ⟨⟨some ⟨b, o, none⟩, c, (List.range rows.length).map Y⟩, by simp [Sl.val], ?_, fun y hy => ?_⟩
   · have h := ei.sl (w := w) (S := S) b o c sz (((List.range rows.length).map Y).map row) us hb (by simpa using hn) hc (fun i r hi => by obtain ⟨_, rfl⟩ := hget i r hi; simp)
       (fun i j r d hi hj => by obtain ⟨r0, d0, h1, h2, _⟩ := hcl i j r d hi hj; exact hcell i j r0 d0 h1 h2) (fun i j r d hi hj => by obtain ⟨_, _, _, _, rfl⟩ := hcl i j r d hi hj; exact .v _)
     rw [List.length_map, List.length_map, List.length_range] at h
     show ei w S (.slice (some ⟨b, o, none⟩) ((List.range rows.length).map Y).length c) (.sl (((List.range rows.length).map Y).map row))
     rw [List.length_map, List.length_range]; exact h
   · obtain ⟨i, hi, rfl⟩ := List.mem_map.1 hy
     exact (hY i (List.mem_range.1 hi)).2
section
variable {P : Program} {k : Nat} {t e : TypeId} {w : World} {S : bE} {us : List Value} {ds : List D}
theorem xP (hu : P.underlying t = some (.int .i64)) (h : okD P (k + 1) t ds) (hr : eF w S us ds) : ∃ z : Int, [D.v (.int .i64 z)] = us.map D.v ∧ (Fa True).holds w S := by
 obtain ⟨n, rfl, _⟩ := ca hu h
 obtain ⟨u, _, rfl, r, hr⟩ := hr.cons
 obtain rfl := hr.nil; obtain rfl := bN r
 exact ⟨n, rfl, trivial⟩
theorem vb (hu : P.underlying t = some .string) (h : okD P (k + 1) t ds) (hr : eF w S us ds) : ∃ s : ByteArray, [D.v (.string s)] = us.map D.v ∧ (eP s).holds w S := by
 obtain ⟨n, rfl, hz⟩ := cC hu h
 obtain ⟨u, _, rfl, r, hr⟩ := hr.cons
 obtain rfl := hr.nil; obtain rfl := bN r
 exact ⟨n, rfl, hz⟩
theorem xx {α : Type} [Inhabited α] {row : α → List D} {ok : α → Per} (hu : P.underlying t = some (.slice e)) (h : okD P (k + 1) t ds) (hr : eF w S us ds) (hf : ∀ r, okD P k e r → ∀ us, eF w S us r → ∃ y : α, row y = us.map D.v ∧ (ok y).holds w S) :
   ∃ s : Sl α, [D.v s.val] = us.map D.v ∧ (cw (ShF row s) (bW ok s.l)).holds w S := by
 obtain ⟨rows, rfl, _, hrows⟩ := cJ hu h
 obtain ⟨u, _, rfl, r, hr⟩ := hr.cons
 obtain rfl := hr.nil
 obtain ⟨s, rfl, h1, h2⟩ := dN (row := row) (ok := ok) r fun r hr us hu => hf r (hrows r hr) us hu
 exact ⟨s, rfl, h1, h2⟩
theorem rA {a b : List Value} (h : a.map D.v = b.map D.v) : a = b := by
 induction a generalizing b with
 | nil => cases b with
   | nil => rfl
   | cons => simp at h
 | cons x a ih => cases b with
   | nil => simp at h
   | cons y b =>
     simp only [List.map_cons, List.cons.injEq, D.v.injEq] at h
     rw [h.1, ih h.2]
end
end Go.Sy

namespace Go.Proofs.YtgmiihmahaahiaaGreatDoor
open Go.RowKit Go.Lp Go.Sy
structure aF where
 name : ByteArray
 parents : Sl ByteArray
 deriving Inhabited
abbrev aF.row (x : aF) : List D := [.v (.string x.name), .v (.slice x.parents.ad x.parents.l.length x.parents.cap)]
def aF.ok (x : aF) : Per := cw (eP x.name) (cw (ShF (fun s => [.v (.string s)]) x.parents) (bW (fun y => eP y) x.parents.l))
theorem aF.f_parents {ps : List Per} {x : aF} (h : Ent ps x.ok) : Ent ps (ShF (fun s => [.v (.string s)]) x.parents) := (Ent.left (Ent.right h))
structure w7 where
 name : ByteArray
 lib : Bool
 objs : Sl ByteArray
 needs : Sl ByteArray
 entry : ByteArray
 spare : Int
 versions : Sl aF
 deriving Inhabited
structure bM where
 name : ByteArray
 kind : Int
 align : Int
 size : Int
 bytes : ByteArray
 keep : Bool
 deriving Inhabited
abbrev bM.row (x : bM) : List D := [.v (.string x.name), .v (.int .i64 x.kind), .v (.int .i64 x.align), .v (.int .i64 x.size), .v (.string x.bytes), .v (.bool x.keep)]
abbrev bM.vs (x : bM) : List Value := [.string x.name, .int .i64 x.kind, .int .i64 x.align, .int .i64 x.size, .string x.bytes, .bool x.keep]
abbrev bM.val (x : bM) : Value := .agg #[.string x.name, .int .i64 x.kind, .int .i64 x.align, .int .i64 x.size, .string x.bytes, .bool x.keep]
def bM.ok (x : bM) : Per := cw (eP x.name) (eP x.bytes)
theorem bM.f_name {ps : List Per} {x : bM} (h : Ent ps x.ok) : Ent ps (eP x.name) := (Ent.left h)
theorem bM.f_bytes {ps : List Per} {x : bM} (h : Ent ps x.ok) : Ent ps (eP x.bytes) := (Ent.right h)
structure bu where
 name : ByteArray
 version : ByteArray
 main : Bool
 bind : Int
 vis : Int
 kind : Int
 sec : Int
 at_ : Int
 size : Int
 align : Int
 deriving Inhabited
abbrev bu.row (x : bu) : List D := [.v (.string x.name), .v (.string x.version), .v (.bool x.main), .v (.int .i64 x.bind), .v (.int .i64 x.vis), .v (.int .i64 x.kind), .v (.int .i64 x.sec), .v (.int .i64 x.at_), .v (.int .i64 x.size), .v (.int .i64 x.align)]
abbrev bu.vs (x : bu) : List Value := [.string x.name, .string x.version, .bool x.main, .int .i64 x.bind, .int .i64 x.vis, .int .i64 x.kind, .int .i64 x.sec, .int .i64 x.at_, .int .i64 x.size, .int .i64 x.align]
abbrev bu.val (x : bu) : Value := .agg #[.string x.name, .string x.version, .bool x.main, .int .i64 x.bind, .int .i64 x.vis, .int .i64 x.kind, .int .i64 x.sec, .int .i64 x.at_, .int .i64 x.size, .int .i64 x.align]
def bu.ok (x : bu) : Per := cw (eP x.name) (eP x.version)
theorem bu.f_name {ps : List Per} {x : bu} (h : Ent ps x.ok) : Ent ps (eP x.name) := (Ent.left h)
theorem bu.f_version {ps : List Per} {x : bu} (h : Ent ps x.ok) : Ent ps (eP x.version) := (Ent.right h)
structure fM where
 sec : Int
 at_ : Int
 kind : Int
 sym : Int
 add : Int
 deriving Inhabited
abbrev fM.row (x : fM) : List D := [.v (.int .i64 x.sec), .v (.int .i64 x.at_), .v (.int .i64 x.kind), .v (.int .i64 x.sym), .v (.int .i64 x.add)]
abbrev fM.val (x : fM) : Value := .agg #[.int .i64 x.sec, .int .i64 x.at_, .int .i64 x.kind, .int .i64 x.sym, .int .i64 x.add]
structure cR where
 name : ByteArray
 secs : Sl Int
 deriving Inhabited
abbrev cR.row (x : cR) : List D := [.v (.string x.name), .v (.slice x.secs.ad x.secs.l.length x.secs.cap)]
abbrev cR.vs (x : cR) : List Value := [.string x.name, .slice x.secs.ad x.secs.l.length x.secs.cap]
abbrev cR.val (x : cR) : Value := .agg #[.string x.name, .slice x.secs.ad x.secs.l.length x.secs.cap]
def cR.ok (x : cR) : Per := cw (eP x.name) (ShF (fun z => [.v (.int .i64 z)]) x.secs)
theorem cR.f_name {ps : List Per} {x : cR} (h : Ent ps x.ok) : Ent ps (eP x.name) := (Ent.left h)
theorem cR.f_secs {ps : List Per} {x : cR} (h : Ent ps x.ok) : Ent ps (ShF (fun z => [.v (.int .i64 z)]) x.secs) := (Ent.right h)
structure eH where
 sym : Int
 order : Int
 last : Bool
 deriving Inhabited
abbrev eH.row (x : eH) : List D := [.v (.int .i64 x.sym), .v (.int .i64 x.order), .v (.bool x.last)]
abbrev eH.val (x : eH) : Value := .agg #[.int .i64 x.sym, .int .i64 x.order, .bool x.last]
structure dt where
 sec : Int
 at_ : Int
 file : ByteArray
 line : Int
 deriving Inhabited
abbrev dt.row (x : dt) : List D := [.v (.int .i64 x.sec), .v (.int .i64 x.at_), .v (.string x.file), .v (.int .i64 x.line)]
abbrev dt.val (x : dt) : Value := .agg #[.int .i64 x.sec, .int .i64 x.at_, .string x.file, .int .i64 x.line]
def dt.ok (x : dt) : Per := eP x.file
theorem dt.f_file {ps : List Per} {x : dt} (h : Ent ps x.ok) : Ent ps (eP x.file) := h
structure cd where
 sec : Int
 from_ : Int
 to_ : Int
 name : ByteArray
 file : ByteArray
 line : Int
 deriving Inhabited
abbrev cd.row (x : cd) : List D := [.v (.int .i64 x.sec), .v (.int .i64 x.from_), .v (.int .i64 x.to_), .v (.string x.name), .v (.string x.file), .v (.int .i64 x.line)]
abbrev cd.vs (x : cd) : List Value := [.int .i64 x.sec, .int .i64 x.from_, .int .i64 x.to_, .string x.name, .string x.file, .int .i64 x.line]
abbrev cd.val (x : cd) : Value := .agg #[.int .i64 x.sec, .int .i64 x.from_, .int .i64 x.to_, .string x.name, .string x.file, .int .i64 x.line]
def cd.ok (x : cd) : Per := cw (eP x.name) (eP x.file)
theorem cd.f_name {ps : List Per} {x : cd} (h : Ent ps x.ok) : Ent ps (eP x.name) := (Ent.left h)
theorem cd.f_file {ps : List Per} {x : cd} (h : Ent ps x.ok) : Ent ps (eP x.file) := (Ent.right h)
structure ew where
 sec : Int
 from_ : Int
 to_ : Int
 name : ByteArray
 where_ : Int
 n : Int
 deriving Inhabited
abbrev ew.row (x : ew) : List D := [.v (.int .i64 x.sec), .v (.int .i64 x.from_), .v (.int .i64 x.to_), .v (.string x.name), .v (.int .i64 x.where_), .v (.int .i64 x.n)]
abbrev ew.val (x : ew) : Value := .agg #[.int .i64 x.sec, .int .i64 x.from_, .int .i64 x.to_, .string x.name, .int .i64 x.where_, .int .i64 x.n]
def ew.ok (x : ew) : Per := eP x.name
theorem ew.f_name {ps : List Per} {x : ew} (h : Ent ps x.ok) : Ent ps (eP x.name) := h
structure dx where
 sec : Int
 from_ : Int
 to_ : Int
 bytes : Int
 deriving Inhabited
abbrev dx.row (x : dx) : List D := [.v (.int .i64 x.sec), .v (.int .i64 x.from_), .v (.int .i64 x.to_), .v (.int .i64 x.bytes)]
abbrev dx.val (x : dx) : Value := .agg #[.int .i64 x.sec, .int .i64 x.from_, .int .i64 x.to_, .int .i64 x.bytes]
structure dw where
 from_ : Int
 size : Int
 to_ : Int
 deriving Inhabited
abbrev dw.row (x : dw) : List D := [.v (.int .i64 x.from_), .v (.int .i64 x.size), .v (.int .i64 x.to_)]
abbrev dw.val (x : dw) : Value := .agg #[.int .i64 x.from_, .int .i64 x.size, .int .i64 x.to_]
structure bZ where
 sec : Int
 from_ : ByteArray
 pieces : Sl dw
 code : Int
 deriving Inhabited
abbrev bZ.row (x : bZ) : List D := [.v (.int .i64 x.sec), .v (.string x.from_), .v (.slice x.pieces.ad x.pieces.l.length x.pieces.cap), .v (.int .i64 x.code)]
abbrev bZ.val (x : bZ) : Value := .agg #[.int .i64 x.sec, .string x.from_, .slice x.pieces.ad x.pieces.l.length x.pieces.cap, .int .i64 x.code]
def bZ.ok (x : bZ) : Per := cw (eP x.from_) (ShF (dw.row) x.pieces)
theorem bZ.f_pieces {ps : List Per} {x : bZ} (h : Ent ps x.ok) : Ent ps (ShF (dw.row) x.pieces) := (Ent.right h)
structure ar where
 name : ByteArray
 secs : Sl bM
 syms : Sl bu
 rels : Sl fM
 groups : Sl cR
 inits : Sl eH
 lines : Sl dt
 inlines : Sl cd
 vars : Sl ew
 depths : Sl dx
 converts : Sl bZ
 deriving Inhabited
abbrev ar.row (x : ar) : List D := [.v (.string x.name), .v (.slice x.secs.ad x.secs.l.length x.secs.cap), .v (.slice x.syms.ad x.syms.l.length x.syms.cap), .v (.slice x.rels.ad x.rels.l.length x.rels.cap), .v (.slice x.groups.ad x.groups.l.length x.groups.cap), .v (.slice x.inits.ad x.inits.l.length x.inits.cap), .v (.slice x.lines.ad x.lines.l.length x.lines.cap), .v (.slice x.inlines.ad x.inlines.l.length x.inlines.cap), .v (.slice x.vars.ad x.vars.l.length x.vars.cap), .v (.slice x.depths.ad x.depths.l.length x.depths.cap), .v (.slice x.converts.ad x.converts.l.length x.converts.cap)]
abbrev ar.vs (x : ar) : List Value := [.string x.name, .slice x.secs.ad x.secs.l.length x.secs.cap, .slice x.syms.ad x.syms.l.length x.syms.cap, .slice x.rels.ad x.rels.l.length x.rels.cap, .slice x.groups.ad x.groups.l.length x.groups.cap, .slice x.inits.ad x.inits.l.length x.inits.cap, .slice x.lines.ad x.lines.l.length x.lines.cap, .slice x.inlines.ad x.inlines.l.length x.inlines.cap, .slice x.vars.ad x.vars.l.length x.vars.cap, .slice x.depths.ad x.depths.l.length x.depths.cap, .slice x.converts.ad x.converts.l.length x.converts.cap]
abbrev ar.val (x : ar) : Value := .agg #[.string x.name, .slice x.secs.ad x.secs.l.length x.secs.cap, .slice x.syms.ad x.syms.l.length x.syms.cap, .slice x.rels.ad x.rels.l.length x.rels.cap, .slice x.groups.ad x.groups.l.length x.groups.cap, .slice x.inits.ad x.inits.l.length x.inits.cap, .slice x.lines.ad x.lines.l.length x.lines.cap, .slice x.inlines.ad x.inlines.l.length x.inlines.cap, .slice x.vars.ad x.vars.l.length x.vars.cap, .slice x.depths.ad x.depths.l.length x.depths.cap, .slice x.converts.ad x.converts.l.length x.converts.cap]
def ar.ok (x : ar) : Per := cw (eP x.name) (cw (ShF (bM.row) x.secs) (cw (bW (fun y => bM.ok y) x.secs.l) (cw (ShF (bu.row) x.syms) (cw (bW (fun y => bu.ok y) x.syms.l) (cw (ShF (fM.row) x.rels) (cw (ShF (cR.row) x.groups) (cw (bW (fun y => cR.ok y) x.groups.l) (cw (ShF (eH.row) x.inits) (cw (ShF (dt.row) x.lines) (cw (bW (fun y => dt.ok y) x.lines.l) (cw (ShF (cd.row) x.inlines) (cw (bW (fun y => cd.ok y) x.inlines.l) (cw (ShF (ew.row) x.vars) (cw (bW (fun y => ew.ok y) x.vars.l) (cw (ShF (dx.row) x.depths) (cw (ShF (bZ.row) x.converts) (bW (fun y => bZ.ok y) x.converts.l)))))))))))))))))
theorem ar.f_name {ps : List Per} {x : ar} (h : Ent ps x.ok) : Ent ps (eP x.name) := (Ent.left h)
theorem ar.f_secs {ps : List Per} {x : ar} (h : Ent ps x.ok) : Ent ps (ShF (bM.row) x.secs) := (Ent.left (Ent.right h))
theorem ar.f_secsA {ps : List Per} {x : ar} (h : Ent ps x.ok) : Ent ps (bW (fun y => bM.ok y) x.secs.l) := (Ent.left (Ent.right (Ent.right h)))
theorem ar.f_syms {ps : List Per} {x : ar} (h : Ent ps x.ok) : Ent ps (ShF (bu.row) x.syms) := (Ent.left (Ent.right (Ent.right (Ent.right h))))
theorem ar.f_symsA {ps : List Per} {x : ar} (h : Ent ps x.ok) : Ent ps (bW (fun y => bu.ok y) x.syms.l) := (Ent.left (Ent.right (Ent.right (Ent.right (Ent.right h)))))
theorem ar.f_rels {ps : List Per} {x : ar} (h : Ent ps x.ok) : Ent ps (ShF (fM.row) x.rels) := (Ent.left (Ent.right (Ent.right (Ent.right (Ent.right (Ent.right h))))))
theorem ar.f_groups {ps : List Per} {x : ar} (h : Ent ps x.ok) : Ent ps (ShF (cR.row) x.groups) := (Ent.left (Ent.right (Ent.right (Ent.right (Ent.right (Ent.right (Ent.right h)))))))
theorem ar.f_groupsA {ps : List Per} {x : ar} (h : Ent ps x.ok) : Ent ps (bW (fun y => cR.ok y) x.groups.l) := (Ent.left (Ent.right (Ent.right (Ent.right (Ent.right (Ent.right (Ent.right (Ent.right h))))))))
theorem ar.f_inits {ps : List Per} {x : ar} (h : Ent ps x.ok) : Ent ps (ShF (eH.row) x.inits) := (Ent.left (Ent.right (Ent.right (Ent.right (Ent.right (Ent.right (Ent.right (Ent.right (Ent.right h)))))))))
theorem ar.f_lines {ps : List Per} {x : ar} (h : Ent ps x.ok) : Ent ps (ShF (dt.row) x.lines) := (Ent.left (Ent.right (Ent.right (Ent.right (Ent.right (Ent.right (Ent.right (Ent.right (Ent.right (Ent.right h))))))))))
theorem ar.f_linesA {ps : List Per} {x : ar} (h : Ent ps x.ok) : Ent ps (bW (fun y => dt.ok y) x.lines.l) := (Ent.left (Ent.right (Ent.right (Ent.right (Ent.right (Ent.right (Ent.right (Ent.right (Ent.right (Ent.right (Ent.right h)))))))))))
theorem ar.f_inlines {ps : List Per} {x : ar} (h : Ent ps x.ok) : Ent ps (ShF (cd.row) x.inlines) := (Ent.left (Ent.right (Ent.right (Ent.right (Ent.right (Ent.right (Ent.right (Ent.right (Ent.right (Ent.right (Ent.right (Ent.right h))))))))))))
theorem ar.f_inlinesA {ps : List Per} {x : ar} (h : Ent ps x.ok) : Ent ps (bW (fun y => cd.ok y) x.inlines.l) := (Ent.left (Ent.right (Ent.right (Ent.right (Ent.right (Ent.right (Ent.right (Ent.right (Ent.right (Ent.right (Ent.right (Ent.right (Ent.right h)))))))))))))
theorem ar.f_vars {ps : List Per} {x : ar} (h : Ent ps x.ok) : Ent ps (ShF (ew.row) x.vars) := (Ent.left (Ent.right (Ent.right (Ent.right (Ent.right (Ent.right (Ent.right (Ent.right (Ent.right (Ent.right (Ent.right (Ent.right (Ent.right (Ent.right h))))))))))))))
theorem ar.f_varsA {ps : List Per} {x : ar} (h : Ent ps x.ok) : Ent ps (bW (fun y => ew.ok y) x.vars.l) := (Ent.left (Ent.right (Ent.right (Ent.right (Ent.right (Ent.right (Ent.right (Ent.right (Ent.right (Ent.right (Ent.right (Ent.right (Ent.right (Ent.right (Ent.right h)))))))))))))))
theorem ar.f_depths {ps : List Per} {x : ar} (h : Ent ps x.ok) : Ent ps (ShF (dx.row) x.depths) := (Ent.left (Ent.right (Ent.right (Ent.right (Ent.right (Ent.right (Ent.right (Ent.right (Ent.right (Ent.right (Ent.right (Ent.right (Ent.right (Ent.right (Ent.right (Ent.right h))))))))))))))))
theorem ar.f_converts {ps : List Per} {x : ar} (h : Ent ps x.ok) : Ent ps (ShF (bZ.row) x.converts) := (Ent.left (Ent.right (Ent.right (Ent.right (Ent.right (Ent.right (Ent.right (Ent.right (Ent.right (Ent.right (Ent.right (Ent.right (Ent.right (Ent.right (Ent.right (Ent.right (Ent.right h)))))))))))))))))
theorem ar.f_convertsA {ps : List Per} {x : ar} (h : Ent ps x.ok) : Ent ps (bW (fun y => bZ.ok y) x.converts.l) := (Ent.right (Ent.right (Ent.right (Ent.right (Ent.right (Ent.right (Ent.right (Ent.right (Ent.right (Ent.right (Ent.right (Ent.right (Ent.right (Ent.right (Ent.right (Ent.right (Ent.right h)))))))))))))))))
structure aT where
 kind : Int
 obj : Int
 sym : Int
 lib : Int
 why : Int
 open_ : Bool
 deriving Inhabited
abbrev aT.row (x : aT) : List D := [.v (.int .i64 x.kind), .v (.int .i64 x.obj), .v (.int .i64 x.sym), .v (.int .i64 x.lib), .v (.int .i64 x.why), .v (.bool x.open_)]
abbrev aT.vs (x : aT) : List Value := [.int .i64 x.kind, .int .i64 x.obj, .int .i64 x.sym, .int .i64 x.lib, .int .i64 x.why, .bool x.open_]
abbrev aT.val (x : aT) : Value := .agg #[.int .i64 x.kind, .int .i64 x.obj, .int .i64 x.sym, .int .i64 x.lib, .int .i64 x.why, .bool x.open_]
structure yI where
 obj : Int
 sec : Int
 deriving Inhabited
structure zm where
 from_ : Int
 to_ : Int
 deriving Inhabited
structure y7 where
 r : w7
 objs : Sl ar
 keep : Sl (Sl Bool)
 choices : Sl (Sl aT)
 first : Sl Int
 count : Int
 deriving Inhabited
end Go.Proofs.YtgmiihmahaahiaaGreatDoor

namespace Go.Proofs.YtgmiihmahaahiaaGreatDoor
open Go.RowKit Go.Lp Go.Sy
structure cG where
 name : ByteArray
 version : ByteArray
 main : Bool
 kind : Int
 at_ : Int
 size : Int
 deriving Inhabited
abbrev cG.row (x : cG) : List D := [.v (.string x.name), .v (.string x.version), .v (.bool x.main), .v (.int .i64 x.kind), .v (.int .i64 x.at_), .v (.int .i64 x.size)]
abbrev cG.val (x : cG) : Value := .agg #[.string x.name, .string x.version, .bool x.main, .int .i64 x.kind, .int .i64 x.at_, .int .i64 x.size]
def cG.ok (x : cG) : Per := cw (eP x.name) (eP x.version)
structure bw where
 name : ByteArray
 exports : Sl cG
 versions : Sl aF
 deriving Inhabited
abbrev bw.row (x : bw) : List D := [.v (.string x.name), .v (.slice x.exports.ad x.exports.l.length x.exports.cap), .v (.slice x.versions.ad x.versions.l.length x.versions.cap)]
abbrev bw.vs (x : bw) : List Value := [.string x.name, .slice x.exports.ad x.exports.l.length x.exports.cap, .slice x.versions.ad x.versions.l.length x.versions.cap]
abbrev bw.val (x : bw) : Value := .agg #[.string x.name, .slice x.exports.ad x.exports.l.length x.exports.cap, .slice x.versions.ad x.versions.l.length x.versions.cap]
def bw.ok (x : bw) : Per := cw (eP x.name) (cw (ShF (cG.row) x.exports) (cw (bW (fun y => cG.ok y) x.exports.l) (cw (ShF (aF.row) x.versions) (bW (fun y => aF.ok y) x.versions.l))))
theorem bw.f_exports {ps : List Per} {x : bw} (h : Ent ps x.ok) : Ent ps (ShF (cG.row) x.exports) := (Ent.left (Ent.right h))
theorem bw.f_versions {ps : List Per} {x : bw} (h : Ent ps x.ok) : Ent ps (ShF (aF.row) x.versions) := (Ent.left (Ent.right (Ent.right (Ent.right h))))
theorem bw.f_versionsA {ps : List Per} {x : bw} (h : Ent ps x.ok) : Ent ps (bW (fun y => aF.ok y) x.versions.l) := (Ent.right (Ent.right (Ent.right (Ent.right h))))
structure aD where
 obj : Int
 sym : Int
 deriving Inhabited
abbrev aD.row (x : aD) : List D := [.v (.int .i64 x.obj), .v (.int .i64 x.sym)]
abbrev aD.vs (x : aD) : List Value := [.int .i64 x.obj, .int .i64 x.sym]
abbrev aD.val (x : aD) : Value := .agg #[.int .i64 x.obj, .int .i64 x.sym]
structure cn where
 name : ByteArray
 version : ByteArray
 main : Bool
 kind : Int
 obj : Int
 sym : Int
 common : Bool
 deriving Inhabited
abbrev cn.row (x : cn) : List D := [.v (.string x.name), .v (.string x.version), .v (.bool x.main), .v (.int .i64 x.kind), .v (.int .i64 x.obj), .v (.int .i64 x.sym), .v (.bool x.common)]
abbrev cn.vs (x : cn) : List Value := [.string x.name, .string x.version, .bool x.main, .int .i64 x.kind, .int .i64 x.obj, .int .i64 x.sym, .bool x.common]
abbrev cn.val (x : cn) : Value := .agg #[.string x.name, .string x.version, .bool x.main, .int .i64 x.kind, .int .i64 x.obj, .int .i64 x.sym, .bool x.common]
structure zk where
 name : ByteArray
 version : ByteArray
 deriving Inhabited
end Go.Proofs.YtgmiihmahaahiaaGreatDoor

namespace Go.Proofs.YtgmiihmahaahiaaGreatDoor
open Go.RowKit Go.Lp Go.Sy
theorem pA {k : Nat} {w : World} {S : bE} {us : List Value} {ds : List D} (h : okD Tryz.prog (k + 2) 85 ds) (hr : eF w S us ds) : ∃ y : bM, y.row = us.map D.v ∧ (y.ok).holds w S := by
 have h := cL Tryz.underlying85 h
 obtain ⟨d0, _, rfl, h0, d1, _, rfl, h1, d2, _, rfl, h2, d3, _, rfl, h3, d4, _, rfl, h4, d5, _, rfl, h5, rfl⟩ := h
 obtain ⟨n0, rfl, z0⟩ := cC Tryz.underlying9 h0
 obtain ⟨n1, rfl, _⟩ := ca (i := .i64) Tryz.underlying3 h1
 obtain ⟨n2, rfl, _⟩ := ca (i := .i64) Tryz.underlying3 h2
 obtain ⟨n3, rfl, _⟩ := ca (i := .i64) Tryz.underlying3 h3
 obtain ⟨n4, rfl, z4⟩ := cC Tryz.underlying9 h4
 obtain ⟨n5, rfl⟩ := i1 Tryz.underlying4 h5
 obtain ⟨u0, _, rfl, r0, hr⟩ := hr.cons
 obtain ⟨u1, _, rfl, r1, hr⟩ := hr.cons
 obtain ⟨u2, _, rfl, r2, hr⟩ := hr.cons
 obtain ⟨u3, _, rfl, r3, hr⟩ := hr.cons
 obtain ⟨u4, _, rfl, r4, hr⟩ := hr.cons
 obtain ⟨u5, _, rfl, r5, hr⟩ := hr.cons
 obtain rfl := hr.nil
 obtain rfl := bN r0
 obtain rfl := bN r1
 obtain rfl := bN r2
 obtain rfl := bN r3
 obtain rfl := bN r4
 obtain rfl := bN r5
 exact ⟨⟨n0, n1, n2, n3, n4, n5⟩, rfl, ⟨z0, z4⟩⟩
theorem qp {k : Nat} {w : World} {S : bE} {us : List Value} {ds : List D} (h : okD Tryz.prog (k + 2) 63 ds) (hr : eF w S us ds) : ∃ y : bu, y.row = us.map D.v ∧ (y.ok).holds w S := by
 have h := cL Tryz.underlying63 h
 obtain ⟨d0, _, rfl, h0, d1, _, rfl, h1, d2, _, rfl, h2, d3, _, rfl, h3, d4, _, rfl, h4, d5, _, rfl, h5, d6, _, rfl, h6, d7, _, rfl, h7, d8, _, rfl, h8, d9, _, rfl, h9, rfl⟩ := h
 obtain ⟨n0, rfl, z0⟩ := cC Tryz.underlying9 h0
 obtain ⟨n1, rfl, z1⟩ := cC Tryz.underlying9 h1
 obtain ⟨n2, rfl⟩ := i1 Tryz.underlying4 h2
 obtain ⟨n3, rfl, _⟩ := ca (i := .i64) Tryz.underlying3 h3
 obtain ⟨n4, rfl, _⟩ := ca (i := .i64) Tryz.underlying3 h4
 obtain ⟨n5, rfl, _⟩ := ca (i := .i64) Tryz.underlying3 h5
 obtain ⟨n6, rfl, _⟩ := ca (i := .i64) Tryz.underlying3 h6
 obtain ⟨n7, rfl, _⟩ := ca (i := .i64) Tryz.underlying3 h7
 obtain ⟨n8, rfl, _⟩ := ca (i := .i64) Tryz.underlying3 h8
 obtain ⟨n9, rfl, _⟩ := ca (i := .i64) Tryz.underlying3 h9
 obtain ⟨u0, _, rfl, r0, hr⟩ := hr.cons
 obtain ⟨u1, _, rfl, r1, hr⟩ := hr.cons
 obtain ⟨u2, _, rfl, r2, hr⟩ := hr.cons
 obtain ⟨u3, _, rfl, r3, hr⟩ := hr.cons
 obtain ⟨u4, _, rfl, r4, hr⟩ := hr.cons
 obtain ⟨u5, _, rfl, r5, hr⟩ := hr.cons
 obtain ⟨u6, _, rfl, r6, hr⟩ := hr.cons
 obtain ⟨u7, _, rfl, r7, hr⟩ := hr.cons
 obtain ⟨u8, _, rfl, r8, hr⟩ := hr.cons
 obtain ⟨u9, _, rfl, r9, hr⟩ := hr.cons
 obtain rfl := hr.nil
 obtain rfl := bN r0
 obtain rfl := bN r1
 obtain rfl := bN r2
 obtain rfl := bN r3
 obtain rfl := bN r4
 obtain rfl := bN r5
 obtain rfl := bN r6
 obtain rfl := bN r7
 obtain rfl := bN r8
 obtain rfl := bN r9
 exact ⟨⟨n0, n1, n2, n3, n4, n5, n6, n7, n8, n9⟩, rfl, ⟨z0, z1⟩⟩
theorem wO {k : Nat} {w : World} {S : bE} {us : List Value} {ds : List D} (h : okD Tryz.prog (k + 2) 182 ds) (hr : eF w S us ds) : ∃ y : fM, y.row = us.map D.v ∧ (Fa True).holds w S := by
 have h := cL Tryz.underlying182 h
 obtain ⟨d0, _, rfl, h0, d1, _, rfl, h1, d2, _, rfl, h2, d3, _, rfl, h3, d4, _, rfl, h4, rfl⟩ := h
 obtain ⟨n0, rfl, _⟩ := ca (i := .i64) Tryz.underlying3 h0
 obtain ⟨n1, rfl, _⟩ := ca (i := .i64) Tryz.underlying3 h1
 obtain ⟨n2, rfl, _⟩ := ca (i := .i64) Tryz.underlying3 h2
 obtain ⟨n3, rfl, _⟩ := ca (i := .i64) Tryz.underlying3 h3
 obtain ⟨n4, rfl, _⟩ := ca (i := .i64) Tryz.underlying3 h4
 obtain ⟨u0, _, rfl, r0, hr⟩ := hr.cons
 obtain ⟨u1, _, rfl, r1, hr⟩ := hr.cons
 obtain ⟨u2, _, rfl, r2, hr⟩ := hr.cons
 obtain ⟨u3, _, rfl, r3, hr⟩ := hr.cons
 obtain ⟨u4, _, rfl, r4, hr⟩ := hr.cons
 obtain rfl := hr.nil
 obtain rfl := bN r0
 obtain rfl := bN r1
 obtain rfl := bN r2
 obtain rfl := bN r3
 obtain rfl := bN r4
 exact ⟨⟨n0, n1, n2, n3, n4⟩, rfl, trivial⟩
theorem tI {k : Nat} {w : World} {S : bE} {us : List Value} {ds : List D} (h : okD Tryz.prog (k + 3) 92 ds) (hr : eF w S us ds) : ∃ y : cR, y.row = us.map D.v ∧ (y.ok).holds w S := by
 have h := cL Tryz.underlying92 h
 obtain ⟨d0, _, rfl, h0, d1, _, rfl, h1, rfl⟩ := h
 obtain ⟨n0, rfl, z0⟩ := cC Tryz.underlying9 h0
 obtain ⟨q1, rfl, m1, o1⟩ := cJ Tryz.underlying90 h1
 obtain ⟨u0, _, rfl, r0, hr⟩ := hr.cons
 obtain ⟨u1, _, rfl, r1, hr⟩ := hr.cons
 obtain rfl := hr.nil
 obtain rfl := bN r0
 obtain ⟨s1, rfl, a1, b1⟩ := dN (row := fun z : Int => [.v (.int .i64 z)]) (ok := fun _ => Fa True) r1 fun r hr us hu => xP Tryz.underlying3 (o1 r hr) hu
 exact ⟨⟨n0, s1⟩, rfl, ⟨z0, a1⟩⟩
theorem vw {k : Nat} {w : World} {S : bE} {us : List Value} {ds : List D} (h : okD Tryz.prog (k + 2) 195 ds) (hr : eF w S us ds) : ∃ y : eH, y.row = us.map D.v ∧ (Fa True).holds w S := by
 have h := cL Tryz.underlying195 h
 obtain ⟨d0, _, rfl, h0, d1, _, rfl, h1, d2, _, rfl, h2, rfl⟩ := h
 obtain ⟨n0, rfl, _⟩ := ca (i := .i64) Tryz.underlying3 h0
 obtain ⟨n1, rfl, _⟩ := ca (i := .i64) Tryz.underlying3 h1
 obtain ⟨n2, rfl⟩ := i1 Tryz.underlying4 h2
 obtain ⟨u0, _, rfl, r0, hr⟩ := hr.cons
 obtain ⟨u1, _, rfl, r1, hr⟩ := hr.cons
 obtain ⟨u2, _, rfl, r2, hr⟩ := hr.cons
 obtain rfl := hr.nil
 obtain rfl := bN r0
 obtain rfl := bN r1
 obtain rfl := bN r2
 exact ⟨⟨n0, n1, n2⟩, rfl, trivial⟩
theorem vY {k : Nat} {w : World} {S : bE} {us : List Value} {ds : List D} (h : okD Tryz.prog (k + 2) 197 ds) (hr : eF w S us ds) : ∃ y : dt, y.row = us.map D.v ∧ (y.ok).holds w S := by
 have h := cL Tryz.underlying197 h
 obtain ⟨d0, _, rfl, h0, d1, _, rfl, h1, d2, _, rfl, h2, d3, _, rfl, h3, rfl⟩ := h
 obtain ⟨n0, rfl, _⟩ := ca (i := .i64) Tryz.underlying3 h0
 obtain ⟨n1, rfl, _⟩ := ca (i := .i64) Tryz.underlying3 h1
 obtain ⟨n2, rfl, z2⟩ := cC Tryz.underlying9 h2
 obtain ⟨n3, rfl, _⟩ := ca (i := .i64) Tryz.underlying3 h3
 obtain ⟨u0, _, rfl, r0, hr⟩ := hr.cons
 obtain ⟨u1, _, rfl, r1, hr⟩ := hr.cons
 obtain ⟨u2, _, rfl, r2, hr⟩ := hr.cons
 obtain ⟨u3, _, rfl, r3, hr⟩ := hr.cons
 obtain rfl := hr.nil
 obtain rfl := bN r0
 obtain rfl := bN r1
 obtain rfl := bN r2
 obtain rfl := bN r3
 exact ⟨⟨n0, n1, n2, n3⟩, rfl, z2⟩
theorem qZ {k : Nat} {w : World} {S : bE} {us : List Value} {ds : List D} (h : okD Tryz.prog (k + 2) 200 ds) (hr : eF w S us ds) : ∃ y : cd, y.row = us.map D.v ∧ (y.ok).holds w S := by
 have h := cL Tryz.underlying200 h
 obtain ⟨d0, _, rfl, h0, d1, _, rfl, h1, d2, _, rfl, h2, d3, _, rfl, h3, d4, _, rfl, h4, d5, _, rfl, h5, rfl⟩ := h
 obtain ⟨n0, rfl, _⟩ := ca (i := .i64) Tryz.underlying3 h0
 obtain ⟨n1, rfl, _⟩ := ca (i := .i64) Tryz.underlying3 h1
 obtain ⟨n2, rfl, _⟩ := ca (i := .i64) Tryz.underlying3 h2
 obtain ⟨n3, rfl, z3⟩ := cC Tryz.underlying9 h3
 obtain ⟨n4, rfl, z4⟩ := cC Tryz.underlying9 h4
 obtain ⟨n5, rfl, _⟩ := ca (i := .i64) Tryz.underlying3 h5
 obtain ⟨u0, _, rfl, r0, hr⟩ := hr.cons
 obtain ⟨u1, _, rfl, r1, hr⟩ := hr.cons
 obtain ⟨u2, _, rfl, r2, hr⟩ := hr.cons
 obtain ⟨u3, _, rfl, r3, hr⟩ := hr.cons
 obtain ⟨u4, _, rfl, r4, hr⟩ := hr.cons
 obtain ⟨u5, _, rfl, r5, hr⟩ := hr.cons
 obtain rfl := hr.nil
 obtain rfl := bN r0
 obtain rfl := bN r1
 obtain rfl := bN r2
 obtain rfl := bN r3
 obtain rfl := bN r4
 obtain rfl := bN r5
 exact ⟨⟨n0, n1, n2, n3, n4, n5⟩, rfl, ⟨z3, z4⟩⟩
theorem xj {k : Nat} {w : World} {S : bE} {us : List Value} {ds : List D} (h : okD Tryz.prog (k + 2) 204 ds) (hr : eF w S us ds) : ∃ y : ew, y.row = us.map D.v ∧ (y.ok).holds w S := by
 have h := cL Tryz.underlying204 h
 obtain ⟨d0, _, rfl, h0, d1, _, rfl, h1, d2, _, rfl, h2, d3, _, rfl, h3, d4, _, rfl, h4, d5, _, rfl, h5, rfl⟩ := h
 obtain ⟨n0, rfl, _⟩ := ca (i := .i64) Tryz.underlying3 h0
 obtain ⟨n1, rfl, _⟩ := ca (i := .i64) Tryz.underlying3 h1
 obtain ⟨n2, rfl, _⟩ := ca (i := .i64) Tryz.underlying3 h2
 obtain ⟨n3, rfl, z3⟩ := cC Tryz.underlying9 h3
 obtain ⟨n4, rfl, _⟩ := ca (i := .i64) Tryz.underlying3 h4
 obtain ⟨n5, rfl, _⟩ := ca (i := .i64) Tryz.underlying3 h5
 obtain ⟨u0, _, rfl, r0, hr⟩ := hr.cons
 obtain ⟨u1, _, rfl, r1, hr⟩ := hr.cons
 obtain ⟨u2, _, rfl, r2, hr⟩ := hr.cons
 obtain ⟨u3, _, rfl, r3, hr⟩ := hr.cons
 obtain ⟨u4, _, rfl, r4, hr⟩ := hr.cons
 obtain ⟨u5, _, rfl, r5, hr⟩ := hr.cons
 obtain rfl := hr.nil
 obtain rfl := bN r0
 obtain rfl := bN r1
 obtain rfl := bN r2
 obtain rfl := bN r3
 obtain rfl := bN r4
 obtain rfl := bN r5
 exact ⟨⟨n0, n1, n2, n3, n4, n5⟩, rfl, z3⟩
theorem tE {k : Nat} {w : World} {S : bE} {us : List Value} {ds : List D} (h : okD Tryz.prog (k + 2) 207 ds) (hr : eF w S us ds) : ∃ y : dx, y.row = us.map D.v ∧ (Fa True).holds w S := by
 have h := cL Tryz.underlying207 h
 obtain ⟨d0, _, rfl, h0, d1, _, rfl, h1, d2, _, rfl, h2, d3, _, rfl, h3, rfl⟩ := h
 obtain ⟨n0, rfl, _⟩ := ca (i := .i64) Tryz.underlying3 h0
 obtain ⟨n1, rfl, _⟩ := ca (i := .i64) Tryz.underlying3 h1
 obtain ⟨n2, rfl, _⟩ := ca (i := .i64) Tryz.underlying3 h2
 obtain ⟨n3, rfl, _⟩ := ca (i := .i64) Tryz.underlying3 h3
 obtain ⟨u0, _, rfl, r0, hr⟩ := hr.cons
 obtain ⟨u1, _, rfl, r1, hr⟩ := hr.cons
 obtain ⟨u2, _, rfl, r2, hr⟩ := hr.cons
 obtain ⟨u3, _, rfl, r3, hr⟩ := hr.cons
 obtain rfl := hr.nil
 obtain rfl := bN r0
 obtain rfl := bN r1
 obtain rfl := bN r2
 obtain rfl := bN r3
 exact ⟨⟨n0, n1, n2, n3⟩, rfl, trivial⟩
theorem sN {k : Nat} {w : World} {S : bE} {us : List Value} {ds : List D} (h : okD Tryz.prog (k + 2) 264 ds) (hr : eF w S us ds) : ∃ y : dw, y.row = us.map D.v ∧ (Fa True).holds w S := by
 have h := cL Tryz.underlying264 h
 obtain ⟨d0, _, rfl, h0, d1, _, rfl, h1, d2, _, rfl, h2, rfl⟩ := h
 obtain ⟨n0, rfl, _⟩ := ca (i := .i64) Tryz.underlying3 h0
 obtain ⟨n1, rfl, _⟩ := ca (i := .i64) Tryz.underlying3 h1
 obtain ⟨n2, rfl, _⟩ := ca (i := .i64) Tryz.underlying3 h2
 obtain ⟨u0, _, rfl, r0, hr⟩ := hr.cons
 obtain ⟨u1, _, rfl, r1, hr⟩ := hr.cons
 obtain ⟨u2, _, rfl, r2, hr⟩ := hr.cons
 obtain rfl := hr.nil
 obtain rfl := bN r0
 obtain rfl := bN r1
 obtain rfl := bN r2
 exact ⟨⟨n0, n1, n2⟩, rfl, trivial⟩
theorem oX {k : Nat} {w : World} {S : bE} {us : List Value} {ds : List D} (h : okD Tryz.prog (k + 4) 210 ds) (hr : eF w S us ds) : ∃ y : bZ, y.row = us.map D.v ∧ (y.ok).holds w S := by
 have h := cL Tryz.underlying210 h
 obtain ⟨d0, _, rfl, h0, d1, _, rfl, h1, d2, _, rfl, h2, d3, _, rfl, h3, rfl⟩ := h
 obtain ⟨n0, rfl, _⟩ := ca (i := .i64) Tryz.underlying3 h0
 obtain ⟨n1, rfl, z1⟩ := cC Tryz.underlying9 h1
 obtain ⟨q2, rfl, m2, o2⟩ := cJ Tryz.underlying208 h2
 obtain ⟨n3, rfl, _⟩ := ca (i := .i64) Tryz.underlying3 h3
 obtain ⟨u0, _, rfl, r0, hr⟩ := hr.cons
 obtain ⟨u1, _, rfl, r1, hr⟩ := hr.cons
 obtain ⟨u2, _, rfl, r2, hr⟩ := hr.cons
 obtain ⟨u3, _, rfl, r3, hr⟩ := hr.cons
 obtain rfl := hr.nil
 obtain rfl := bN r0
 obtain rfl := bN r1
 obtain ⟨s2, rfl, a2, b2⟩ := dN (row := dw.row) (ok := fun _ => Fa True) r2 fun r hr us hu => sN (o2 r hr) hu
 obtain rfl := bN r3
 exact ⟨⟨n0, n1, s2, n3⟩, rfl, ⟨z1, a2⟩⟩
theorem qX {k : Nat} {w : World} {S : bE} {us : List Value} {ds : List D} (h : okD Tryz.prog (k + 6) 61 ds) (hr : eF w S us ds) : ∃ y : ar, y.row = us.map D.v ∧ (y.ok).holds w S := by
 have h := cL Tryz.underlying61 h
 obtain ⟨d0, _, rfl, h0, d1, _, rfl, h1, d2, _, rfl, h2, d3, _, rfl, h3, d4, _, rfl, h4, d5, _, rfl, h5, d6, _, rfl, h6, d7, _, rfl, h7, d8, _, rfl, h8, d9, _, rfl, h9, d10, _, rfl, h10, rfl⟩ := h
 obtain ⟨n0, rfl, z0⟩ := cC Tryz.underlying9 h0
 obtain ⟨q1, rfl, m1, o1⟩ := cJ Tryz.underlying50 h1
 obtain ⟨q2, rfl, m2, o2⟩ := cJ Tryz.underlying51 h2
 obtain ⟨q3, rfl, m3, o3⟩ := cJ Tryz.underlying52 h3
 obtain ⟨q4, rfl, m4, o4⟩ := cJ Tryz.underlying53 h4
 obtain ⟨q5, rfl, m5, o5⟩ := cJ Tryz.underlying54 h5
 obtain ⟨q6, rfl, m6, o6⟩ := cJ Tryz.underlying55 h6
 obtain ⟨q7, rfl, m7, o7⟩ := cJ Tryz.underlying56 h7
 obtain ⟨q8, rfl, m8, o8⟩ := cJ Tryz.underlying57 h8
 obtain ⟨q9, rfl, m9, o9⟩ := cJ Tryz.underlying58 h9
 obtain ⟨q10, rfl, m10, o10⟩ := cJ Tryz.underlying59 h10
 obtain ⟨u0, _, rfl, r0, hr⟩ := hr.cons
 obtain ⟨u1, _, rfl, r1, hr⟩ := hr.cons
 obtain ⟨u2, _, rfl, r2, hr⟩ := hr.cons
 obtain ⟨u3, _, rfl, r3, hr⟩ := hr.cons
 obtain ⟨u4, _, rfl, r4, hr⟩ := hr.cons
 obtain ⟨u5, _, rfl, r5, hr⟩ := hr.cons
 obtain ⟨u6, _, rfl, r6, hr⟩ := hr.cons
 obtain ⟨u7, _, rfl, r7, hr⟩ := hr.cons
 obtain ⟨u8, _, rfl, r8, hr⟩ := hr.cons
 obtain ⟨u9, _, rfl, r9, hr⟩ := hr.cons
 obtain ⟨u10, _, rfl, r10, hr⟩ := hr.cons
 obtain rfl := hr.nil
 obtain rfl := bN r0
 obtain ⟨s1, rfl, a1, b1⟩ := dN (row := bM.row) (ok := fun y : bM => bM.ok y) r1 fun r hr us hu => pA (o1 r hr) hu
 obtain ⟨s2, rfl, a2, b2⟩ := dN (row := bu.row) (ok := fun y : bu => bu.ok y) r2 fun r hr us hu => qp (o2 r hr) hu
 obtain ⟨s3, rfl, a3, b3⟩ := dN (row := fM.row) (ok := fun _ => Fa True) r3 fun r hr us hu => wO (o3 r hr) hu
 obtain ⟨s4, rfl, a4, b4⟩ := dN (row := cR.row) (ok := fun y : cR => cR.ok y) r4 fun r hr us hu => tI (o4 r hr) hu
 obtain ⟨s5, rfl, a5, b5⟩ := dN (row := eH.row) (ok := fun _ => Fa True) r5 fun r hr us hu => vw (o5 r hr) hu
 obtain ⟨s6, rfl, a6, b6⟩ := dN (row := dt.row) (ok := fun y : dt => dt.ok y) r6 fun r hr us hu => vY (o6 r hr) hu
 obtain ⟨s7, rfl, a7, b7⟩ := dN (row := cd.row) (ok := fun y : cd => cd.ok y) r7 fun r hr us hu => qZ (o7 r hr) hu
 obtain ⟨s8, rfl, a8, b8⟩ := dN (row := ew.row) (ok := fun y : ew => ew.ok y) r8 fun r hr us hu => xj (o8 r hr) hu
 obtain ⟨s9, rfl, a9, b9⟩ := dN (row := dx.row) (ok := fun _ => Fa True) r9 fun r hr us hu => tE (o9 r hr) hu
 obtain ⟨s10, rfl, a10, b10⟩ := dN (row := bZ.row) (ok := fun y : bZ => bZ.ok y) r10 fun r hr us hu => oX (o10 r hr) hu
 exact ⟨⟨n0, s1, s2, s3, s4, s5, s6, s7, s8, s9, s10⟩, rfl, ⟨z0, a1, b1, a2, b2, a3, a4, b4, a5, a6, b6, a7, b7, a8, b8, a9, a10, b10⟩⟩
theorem mh {k : Nat} {w : World} {S : bE} {us : List Value} {ds : List D} (h : okD Tryz.prog (k + 7) 22 ds) (hr : eF w S us ds) : ∃ y : Sl ar, [D.v (.slice y.ad y.l.length y.cap)] = us.map D.v ∧ (cw (ShF (ar.row) y) (bW (fun y => ar.ok y) y.l)).holds w S := by
 obtain ⟨y, h1, h2⟩ := xx (row := ar.row) (ok := fun y : ar => ar.ok y) Tryz.underlying22 h hr fun r h us hu => qX h hu
 exact ⟨y, h1, h2⟩
theorem lA {k : Nat} {w : World} {S : bE} {us : List Value} {ds : List D} (h : okD Tryz.prog (k + 2) 128 ds) (hr : eF w S us ds) : ∃ y : cG, y.row = us.map D.v ∧ (y.ok).holds w S := by
 have h := cL Tryz.underlying128 h
 obtain ⟨d0, _, rfl, h0, d1, _, rfl, h1, d2, _, rfl, h2, d3, _, rfl, h3, d4, _, rfl, h4, d5, _, rfl, h5, rfl⟩ := h
 obtain ⟨n0, rfl, z0⟩ := cC Tryz.underlying9 h0
 obtain ⟨n1, rfl, z1⟩ := cC Tryz.underlying9 h1
 obtain ⟨n2, rfl⟩ := i1 Tryz.underlying4 h2
 obtain ⟨n3, rfl, _⟩ := ca (i := .i64) Tryz.underlying3 h3
 obtain ⟨n4, rfl, _⟩ := ca (i := .i64) Tryz.underlying3 h4
 obtain ⟨n5, rfl, _⟩ := ca (i := .i64) Tryz.underlying3 h5
 obtain ⟨u0, _, rfl, r0, hr⟩ := hr.cons
 obtain ⟨u1, _, rfl, r1, hr⟩ := hr.cons
 obtain ⟨u2, _, rfl, r2, hr⟩ := hr.cons
 obtain ⟨u3, _, rfl, r3, hr⟩ := hr.cons
 obtain ⟨u4, _, rfl, r4, hr⟩ := hr.cons
 obtain ⟨u5, _, rfl, r5, hr⟩ := hr.cons
 obtain rfl := hr.nil
 obtain rfl := bN r0
 obtain rfl := bN r1
 obtain rfl := bN r2
 obtain rfl := bN r3
 obtain rfl := bN r4
 obtain rfl := bN r5
 exact ⟨⟨n0, n1, n2, n3, n4, n5⟩, rfl, ⟨z0, z1⟩⟩
theorem ig {k : Nat} {w : World} {S : bE} {us : List Value} {ds : List D} (h : okD Tryz.prog (k + 3) 178 ds) (hr : eF w S us ds) : ∃ y : aF, y.row = us.map D.v ∧ (y.ok).holds w S := by
 have h := cL Tryz.underlying178 h
 obtain ⟨d0, _, rfl, h0, d1, _, rfl, h1, rfl⟩ := h
 obtain ⟨n0, rfl, z0⟩ := cC Tryz.underlying9 h0
 obtain ⟨q1, rfl, m1, o1⟩ := cJ Tryz.underlying77 h1
 obtain ⟨u0, _, rfl, r0, hr⟩ := hr.cons
 obtain ⟨u1, _, rfl, r1, hr⟩ := hr.cons
 obtain rfl := hr.nil
 obtain rfl := bN r0
 obtain ⟨s1, rfl, a1, b1⟩ := dN (row := fun s : ByteArray => [.v (.string s)]) (ok := fun y : ByteArray => eP y) r1 fun r hr us hu => vb Tryz.underlying9 (o1 r hr) hu
 exact ⟨⟨n0, s1⟩, rfl, ⟨z0, a1, b1⟩⟩
theorem i6 {k : Nat} {w : World} {S : bE} {us : List Value} {ds : List D} (h : okD Tryz.prog (k + 4) 24 ds) (hr : eF w S us ds) : ∃ y : Sl aF, [D.v (.slice y.ad y.l.length y.cap)] = us.map D.v ∧ (cw (ShF (aF.row) y) (bW (fun y => aF.ok y) y.l)).holds w S := by
 obtain ⟨y, h1, h2⟩ := xx (row := aF.row) (ok := fun y : aF => aF.ok y) Tryz.underlying24 h hr fun r h us hu => ig h hu
 exact ⟨y, h1, h2⟩
theorem sV {k : Nat} {w : World} {S : bE} {us : List Value} {ds : List D} (h : okD Tryz.prog (k + 5) 73 ds) (hr : eF w S us ds) : ∃ y : bw, y.row = us.map D.v ∧ (y.ok).holds w S := by
 have h := cL Tryz.underlying73 h
 obtain ⟨d0, _, rfl, h0, d1, _, rfl, h1, d2, _, rfl, h2, rfl⟩ := h
 obtain ⟨n0, rfl, z0⟩ := cC Tryz.underlying9 h0
 obtain ⟨q1, rfl, m1, o1⟩ := cJ Tryz.underlying71 h1
 obtain ⟨q2, rfl, m2, o2⟩ := cJ Tryz.underlying24 h2
 obtain ⟨u0, _, rfl, r0, hr⟩ := hr.cons
 obtain ⟨u1, _, rfl, r1, hr⟩ := hr.cons
 obtain ⟨u2, _, rfl, r2, hr⟩ := hr.cons
 obtain rfl := hr.nil
 obtain rfl := bN r0
 obtain ⟨s1, rfl, a1, b1⟩ := dN (row := cG.row) (ok := fun y : cG => cG.ok y) r1 fun r hr us hu => lA (o1 r hr) hu
 obtain ⟨s2, rfl, a2, b2⟩ := dN (row := aF.row) (ok := fun y : aF => aF.ok y) r2 fun r hr us hu => ig (o2 r hr) hu
 exact ⟨⟨n0, s1, s2⟩, rfl, ⟨z0, a1, b1, a2, b2⟩⟩
end Go.Proofs.YtgmiihmahaahiaaGreatDoor

namespace Go.Sy
open Go.RowKit Go.Lp
theorem Ent.mk2 {ps : List Per} {p q : Per} (h1 : Ent ps p) (h2 : Ent ps q) : Ent ps (cw p q) := fun w S hp => ⟨h1 w S hp, h2 w S hp⟩
def Bun (l : List Res) : Res :=
 ⟨fun w S F => ∃ fp : Nat → bE, (∀ (i : Nat) (R : Res), l[i]? = some R → R.holds w S (fp i)) ∧ (∀ i j, i < l.length → j < l.length → i ≠ j → ∀ b, fp i b → ¬ fp j b) ∧ ∀ b, F b ↔ tot fp l.length b,
  fun ⟨fp, h1, h2, h3⟩ k1 k2 k3 => ⟨fp, fun i R hR => R.mono (h1 i R hR) (fun b hb => k1 b ((h3 b).2 ⟨i, (List.getElem?_eq_some_iff.1 hR).1, hb⟩)) k2 k3, h2, h3⟩⟩
section
variable {w : World} {S : bE} {fp : Nat → bE} {ps : List Per} {l : List Res}
theorem St.bun (h : St w S fp ps l) : St w S (fun _ => tot fp l.length) ps [Bun l] where
 per := h.per
 res i R hR := by
   cases i with
   | zero => simp only [List.getElem?_cons_zero, Option.some.injEq] at hR; subst hR; exact ⟨fp, h.res, h.dj, fun _ => Iff.rfl⟩
   | succ i => simp at hR
 lt i hi b hb := let ⟨j, hj, hjb⟩ := hb; h.lt j hj b hjb
 dj i j hi hj hne := by simp only [List.length_singleton] at hi hj; omega
 slt := h.slt
theorem St.unbun (h : St w S fp ps [Bun l]) : ∃ fp', St w S fp' ps l ∧ ∀ b, tot fp' l.length b → tot fp [Bun l].length b := by
 obtain ⟨fp', h1, h2, h3⟩ := h.res 0 _ rfl
 have hin : ∀ b, tot fp' l.length b → fp 0 b := fun b hb => (h3 b).2 hb
 exact ⟨fp', ⟨h.per, h1, fun i hi b hb => h.lt 0 (by simp) b (hin b ⟨i, hi, hb⟩), h2, h.slt⟩, fun b hb => ⟨0, by simp, hin b hb⟩⟩
theorem oT (F : bE) (b : Nat) (R : Res) : tot (fun _ => F) [R].length b ↔ F b := ⟨fun ⟨_, _, h⟩ => h, fun h => ⟨0, by simp, h⟩⟩
variable {P : Program} {R : Value → List Per → List Res → Prop}
theorem Con.post {f : FuncId} {args : List Value} {R' : Value → List Per → List Res → Prop} (h : Con P f args ps l R) (hr : ∀ v ps' hp', R v ps' hp' → R' v ps' hp') : Con P f args ps l R' := fun w S fp hst =>
 (h w S fp hst).mono fun e w' ⟨v, ps', hp', S', fp', he, hR, h⟩ => ⟨v, ps', hp', S', fp', he, hr _ _ _ hR, h⟩
theorem Con.pre {f : FuncId} {args : List Value} {ps0 : List Per} (h : Con P f args ps l R) (hr : ∀ p ∈ ps, Ent ps0 p) : Con P f args ps0 l R := fun w S fp hst =>
 h w S fp ⟨fun p hp => hr p hp w S hst.per, hst.res, hst.lt, hst.dj, hst.slt⟩
end
section
variable {P : Program} {n : Fr} {ops : Array Oper} {Q : Exit → Sta → Prop} {s : Sta} {o : Oper}
end
end Go.Sy

namespace Go.Sy
theorem kM {P : Program} {n : Fr} {s : Sta} {d : Option Tmp} {ty : TypeId} {pos : String} {af : Array Edge} {gd : Option (Nat × Bool)} {v : Value} {f : FuncId} {g : Operand} {caps : List Value} (hf : bI P f = true) {l : List Operand} {ts : Array TypeId} {vs : List Value} (hg : ev s.env g = some (true, .func (.func f) #[] caps.toArray)) (hx : evs s.env l = some vs)
   (hc : ∀ w S fp, St w S fp s.ps s.hp → Calls P f (vs ++ caps).toArray w fun e w' => e = .returned v ∧ Below w.heap.size w w') :
   Quiet P n ⟨d, .call ⟨.value g, l.toArray, ts⟩, ty, pos, af, gd⟩ s v := fun w S fp a hst he hn => by
 rw [jX hf (he.val hg rfl) (fy he l vs hx)]
 have := hc w S fp hst
 rw [show (vs ++ caps).toArray = vs.toArray ++ caps.toArray by simp] at this
 exact this.mono fun e w' ⟨h1, h2⟩ => ⟨v, h1, rfl, h2⟩
open RowKit in
theorem Con.oH {P : Program} {v : Value} {f : FuncId} {args : List Value} {p q t : Per} (h : Con P f args [p, q, t] [] fun u _ _ => u = v) {w : World} {S : bE} {fp : Nat → bE} {ps' : List Per} {hp : List Res} (hp1 : p ∈ ps') (hq1 : q ∈ ps') (ht1 : t ∈ ps') (hst : St w S fp ps' hp) :
   Calls P f args.toArray w fun e w' => e = .returned v ∧ Below w.heap.size w w' := h.quiet (fun _ h => by
     simp only [List.mem_cons, List.not_mem_nil, or_false] at h
     rcases h with rfl | rfl | rfl
     · exact hp1
     · exact hq1
     · exact ht1) hst
end Go.Sy
namespace Go.Proofs.YtgmiihmahaahiaaGreatDoor
open Go.RowKit Go.Lp Go.Sy
open Go.Proofs.Tryz
attribute [local irreducible] aL aB awp aC fwp
theorem tk152 : tyk Tryz.prog 152 = some (false, 1) := by kernel_rfl
end Go.Proofs.YtgmiihmahaahiaaGreatDoor

namespace Go.Sy
open Go.RowKit Go.Lp
def YN {β : Type} (v : β → Value) (Φ : β → Prop) : Value → List Per → List Res → Prop := fun r ps hp => (ps = [] ∧ hp = []) ∧ ∃ b, r = v b ∧ Φ b
abbrev YB (Φ : Prop) : Value → List Per → List Res → Prop := YN Value.bool fun b => b = true → Φ
section
variable {P : Program} {n : Fr} {ops : Array Oper} {Q : Exit → Sta → Prop} {env : Env} {ps : List Per} {hp : List Res} {ty : TypeId} {pos : String} {af : Array Edge} {gd : Option (Nat × Bool)} {rest : List Oper} {β : Type} {v : β → Value} {Φ : β → Prop}
theorem aQ {t : Nat} {f : FuncId} {g : Operand} {caps : List Value} {l : List Operand} {ts : Array TypeId} {vs : List Value} (lp : List Nat) (b0 : β) (hf : bI P f = true) (c : Bool) (hc : guardOf ops env ⟨some t, .call ⟨.value g, l.toArray, ts⟩, ty, pos, af, gd⟩ = some c) (ht : fits n.size (some t) = true)
   (hgv : c = true → ev env g = some (true, .func (.func f) #[] caps.toArray)) (hx : c = true → evs env l = some vs) (hcon : c = true → Con P f (vs ++ caps) (fD ps lp) [] (YN v Φ))
   (h : ∀ b, (c = true → Φ b) → aL P n ops Q rest ⟨(t, c, v b) :: env, ps, hp⟩) : aL P n ops Q (⟨some t, .call ⟨.value g, l.toArray, ts⟩, ty, pos, af, gd⟩ :: rest) ⟨env, ps, hp⟩ := by
 cases c with
 | true =>
   refine al (q := true) hc (iB lp [] hf (hgv rfl) (hx rfl) ht rfl rfl (hcon rfl) ?_)
   rintro _ _ _ ⟨⟨rfl, rfl⟩, b, rfl, hb⟩
   refine aH ?_ (h b fun _ => hb)
   apply List.ext_getElem?; intro i; rw [iw]
   by_cases hi : i < hp.length
   · rw [if_pos hi]; rfl
   · rw [if_neg hi, List.getElem?_eq_none (by simp), List.getElem?_eq_none (by omega)]
 | false => exact k9 (v := v b0) false hc ht (fun h => by cases h) (h b0 fun h => by cases h)
theorem ea {V : List Nat} {k : Nat} {L : Array Bool} {t : Nat} {f : FuncId} {g : Operand} {caps : List Value} {l : List Operand} {ts : Array TypeId} {vs : List Value} (i : Nat) (hi : ops[i]? = some ⟨some t, .call ⟨.value g, l.toArray, ts⟩, ty, pos, af, gd⟩) (hr : Region.ready .any ops L = [i]) (lp : List Nat) (b0 : β) (hf : bI P f = true) (c : Bool) (hc : guardOf ops env ⟨some t, .call ⟨.value g, l.toArray, ts⟩, ty, pos, af, gd⟩ = some c) (ht : fits n.size (some t) = true)
   (hgv : c = true → ev env g = some (true, .func (.func f) #[] caps.toArray)) (hx : c = true → evs env l = some vs) (hcon : c = true → Con P f (vs ++ caps) (fD ps lp) [] (YN v Φ))
   (h : ∀ b, (c = true → Φ b) → aB P n ops V Q k (L.setIfInBounds i true) ⟨(t, c, v b) :: env, ps, hp⟩) : aB P n ops V Q (k + 1) L ⟨env, ps, hp⟩ := by
 cases c with
 | true =>
   refine bV (q := true) i hi hr rfl hc (iB lp [] hf (hgv rfl) (hx rfl) ht rfl rfl (hcon rfl) ?_)
   rintro _ _ _ ⟨⟨rfl, rfl⟩, b, rfl, hb⟩
   refine yt rfl ?_ (h b fun _ => hb)
   apply List.ext_getElem?; intro j; rw [iw]
   by_cases hj : j < hp.length
   · rw [if_pos hj]; rfl
   · rw [if_neg hj, List.getElem?_eq_none (by simp), List.getElem?_eq_none (by omega)]
 | false =>
   intro w S fp a hst he hn hdf w1 hb
   refine ⟨fun h0 => (by rw [hr] at h0; cases h0), fun j hj => ?_⟩
   rw [hr] at hj
   obtain rfl := List.mem_singleton.1 hj
   refine ⟨_, hi, ?_⟩
   rw [if_neg (by rw [dB (ops := ops) hc he]; exact Bool.false_ne_true)]
   refine ⟨fun _ => Below.refl _ _, ?_⟩
   have hen := he.set (dst := some t) (by rw [hn]; exact ht) false (v b0)
   exact gC (fun a2 w2 hp => hp.trans (Evo.of_below _ _ hb) (fun _ h => .inl h)) _ _ _ _ (h b0 (fun h => by cases h) w1 S fp _ (hst.below hb) hen (by rw [ec]; exact hn) (by rw [put_defers]; exact hdf))
end
end Go.Sy

namespace Go.Sy
open Go.RowKit Go.Lp
def xU : Res := ⟨fun _ _ _ => True, fun _ _ _ _ => trivial⟩
section
variable {P : Program} {n : Fr} {env : Env} {ps : List Per} {hp : List Res} {d : Option Tmp} {ty : TypeId} {pos : String} {af : Array Edge} {gd : Option (Nat × Bool)}
theorem jU {w : World} {b : Nat} {T : TypeId} {cs : List Value} (h : w.heap[b]? = some (.cells cs.toArray T (0, 0))) : w.shape? b = some (T, cs.length) := by
 unfold World.shape?; rw [h]; simp
theorem xX {src dst t T : TypeId} {x : Operand} {b : Nat} {cs : List Value} (i : Nat) (hs : P.underlying src = some (.pointer t)) (hd : P.underlying dst = some .unsafePointer) (ht : ((P.info? t).map fun j => decide (j.size ≠ 0)) = some true) (hx : ev env x = some (true, .pointer (some ⟨b, 0, none⟩))) (hi : hp[i]? = some (Box b T cs)) (h0 : 0 < cs.length) :
   Quiet P n ⟨d, .convert src dst x, ty, pos, af, gd⟩ ⟨env, ps, hp⟩ (.pointer (some ⟨b, 0, none⟩)) := fun w S fp a hst he hn => by
 have h1 := he.val hx rfl
 obtain ⟨hb, _⟩ := hst.res i _ hi
 obtain ⟨j, hj, hjs⟩ := Option.map_eq_some_iff.1 ht
 have hrun := Lib.run_to_unsafe (P := P) w ⟨b, 0, none⟩ hs hd hj (by simpa using hjs) (jU hb) h0
 have : (execOp a.eval ⟨d, .convert src dst x, ty, pos, af, gd⟩).run P w = .ok (.value (.pointer (some ⟨b, 0, none⟩))) w := by
   unfold execOp; dsimp only; rw [h1]
   show ((convert src dst (.pointer (some ⟨b, 0, none⟩))).bind fun r => Sem.pure (Next.value r)).run P w = _
   rw [Sem.run_bind', hrun]; rfl
 rw [this]; exact ck _ _
theorem vS {src dst u T : TypeId} {x : Operand} {b : Nat} {cs : List Value} (i m : Nat) (hs : P.underlying src = some .unsafePointer) (hd : P.underlying dst = some (.pointer u)) (hu : (P.info? u).isSome = true) (hx : ev env x = some (true, .pointer (some ⟨b, 0, none⟩))) (hi : hp[i]? = some (Box b T cs)) (hm : cs.length = m) (hlies : liesAt P P.depth T (m / P.cellsOf T) 0 u 1 = true) :
   Quiet P n ⟨d, .convert src dst x, ty, pos, af, gd⟩ ⟨env, ps, hp⟩ (.pointer (some ⟨b, 0, none⟩)) := fun w S fp a hst he hn => by
 have h1 := he.val hx rfl
 obtain ⟨hb, _⟩ := hst.res i _ hi
 obtain ⟨j, hj⟩ := Option.isSome_iff_exists.1 hu
 have hsh := jU hb
 rw [hm] at hsh
 have hrun := Lib.run_from_unsafe (P := P) w ⟨b, 0, none⟩ hs hd hj hsh hlies
 have : (execOp a.eval ⟨d, .convert src dst x, ty, pos, af, gd⟩).run P w = .ok (.value (.pointer (some ⟨b, 0, none⟩))) w := by
   unfold execOp; dsimp only; rw [h1]
   show ((convert src dst (.pointer (some ⟨b, 0, none⟩))).bind fun r => Sem.pure (Next.value r)).run P w = _
   rw [Sem.run_bind', hrun]; rfl
 rw [this]; exact ck _ _
theorem pQ {x : Operand} {t t' : TypeId} (hT : (match P.underlying t with | some (.pointer _) => true | _ => false) = true) (hx : ev env x = some (true, .pointer none)) : Quiet P n ⟨d, .binOp .eql t x (.const (.pointer none)) t', ty, pos, af, gd⟩ ⟨env, ps, hp⟩ (.bool true) := .run2 hx (y := .const (.pointer none)) (vy := .pointer none) rfl fun ρ w h1 h2 => by
 have hu : ∃ e, P.underlying t = some (.pointer e) := by
   cases h : P.underlying t with
   | none => rw [h] at hT; cases hT
   | some dd => rw [h] at hT; cases dd <;> first | exact ⟨_, rfl⟩ | cases hT
 obtain ⟨e, hu⟩ := hu
 unfold execOp; dsimp only; rw [h1, h2]
 have e1 : (do eqGuard BinOp.eql t x (.const (.pointer none)) (Value.pointer none) (Value.pointer none); binOp BinOp.eql t (Value.pointer none) (Value.pointer none)) = binOp BinOp.eql t (Value.pointer none) (Value.pointer none) := rfl
 have e2 : (binOp BinOp.eql t (Value.pointer none) (Value.pointer none)).run P w = .ok (.bool true) w := by
   have := run_eql_pointer_nil (P := P) (w := w) t none (by rw [hu]; unfold Program.pointee; rw [hu])
   exact this
 show ((do eqGuard BinOp.eql t x (.const (.pointer none)) (Value.pointer none) (Value.pointer none); binOp BinOp.eql t (Value.pointer none) (Value.pointer none)).bind fun r => Sem.pure (Next.value r)).run P w = _
 rw [e1, Sem.run_bind', e2]; rfl
theorem tp {x y : Operand} {t t' te : TypeId} {a0 : Addr} (hu : P.underlying t = some (.pointer te)) (hte : (P.info? te).isSome = true) (hx : ev env x = some (true, .pointer (some a0))) (hy : ev env y = some (true, .pointer (some a0))) : Quiet P n ⟨d, .binOp .neq t x y t', ty, pos, af, gd⟩ ⟨env, ps, hp⟩ (.bool false) := .run2 hx hy fun ρ w h1 h2 => by
 obtain ⟨j, hj⟩ := Option.isSome_iff_exists.1 hte
 unfold execOp; dsimp only; rw [h1, h2]
 have e1 : ∀ x y : Operand, (do eqGuard BinOp.neq t x y (Value.pointer (some a0)) (Value.pointer (some a0)); binOp BinOp.neq t (Value.pointer (some a0)) (Value.pointer (some a0))) = binOp BinOp.neq t (Value.pointer (some a0)) (Value.pointer (some a0)) := fun _ _ => rfl
 have e2 := Lib.run_neq_ptr_same (P := P) w a0 hu hj
 show ((do eqGuard BinOp.neq t x y (Value.pointer (some a0)) (Value.pointer (some a0)); binOp BinOp.neq t (Value.pointer (some a0)) (Value.pointer (some a0))).bind fun r => Sem.pure (Next.value r)).run P w = _
 rw [e1, Sem.run_bind', e2]; rfl
theorem pK {x : Operand} {T : TypeId} {a0 : Addr} {m c : Nat} (hc : c ≠ 0) (hx : ev env x = some (true, .slice (some a0) m c)) : Quiet P n ⟨d, .call ⟨.builtin .unsafeSliceData, #[x], #[T]⟩, ty, pos, af, gd⟩ ⟨env, ps, hp⟩ (.pointer (some a0)) := .run1 hx fun ρ w h => by
 have hr := Lib.run_unsafeSliceData_row (P := P) w #[T] ty a0 m c hc
 have hexec : execOp ρ ⟨d, .call ⟨.builtin .unsafeSliceData, #[x], #[T]⟩, ty, pos, af, gd⟩ = (Builtin.unsafeSliceData_ #[T] ty (#[x].map ρ)).bind fun r => Sem.pure (Next.value r) := rfl
 rw [hexec, show #[x].map ρ = #[ρ x] by simp, h, Sem.run_bind', hr]; rfl
abbrev fg : UInt8 → List D := fun u => [.v (.int .u8 u.toNat)]
theorem l6 {t : Nat} {x y : Operand} {pt it E : TypeId} {g cp : Nat} {l : List UInt8} {K : Sta → Prop} (i : Nat) (hp1 : P.underlying pt = some (.pointer E)) (hc : P.cellsOf E = 1) (h0 : l ≠ []) (hx : ev env x = some (true, .pointer (some ⟨g, 0, none⟩))) (hy : ev env y = some (true, .int .i64 l.length))
   (hi : hp[i]? = some (bH (.slice (some ⟨g, 0, none⟩) l.length cp) E 1 (l.map fg))) (ht : fits n.size (some t) = true) (hK : K ⟨(t, true, .string ⟨l.toArray⟩) :: env, ps, hp.set i xU⟩) :
   Eff P n ⟨some t, .call ⟨.builtin .unsafeString, #[x, y], #[pt, it]⟩, ty, pos, af, gd⟩ ⟨env, ps, hp⟩ false K := .change i hi fun w S fp a hst he hn hR => by
 have h1 := he.val hx rfl
 have h2 := he.val hy rfl
 rcases hR with ⟨h, _⟩ | ⟨b, cap, hv, ⟨cs, sp, hb, hrows, hcap, hrc, hcm⟩, hF⟩
 · cases h
 · simp only [Value.slice.injEq, Option.some.injEq, Addr.mk.injEq] at hv
   obtain ⟨⟨rfl, _⟩, _, rfl⟩ := hv
   have hlen : cs.length = l.length := by rw [hrows.len, List.length_map, Nat.mul_one]
   rw [List.length_map] at hrc
   have hsh := jU hb
   have hcell : ∀ j u, l[j]? = some u → w.cell? ((⟨g, 0, none⟩ : Addr).add j) = some (.int .u8 u.toNat) := fun j u hj => by
     obtain ⟨v, hv, hrep⟩ := hrows.rep j 0 (fg u) (.v (.int .u8 u.toNat)) (by rw [List.getElem?_map, hj]; rfl) rfl
     rw [Nat.mul_one, Nat.add_zero] at hv
     rw [bN hrep] at hv
     have hjl := (List.getElem?_eq_some_iff.1 hv).1
     have : (⟨g, 0, none⟩ : Addr).add j = ⟨g, j, none⟩ := by
       unfold Addr.add
       by_cases h : j = 0
       · subst h; simp
       · simp [h]
     rw [this, dK hb, List.getElem?_append_left hjl]; exact hv
   have hcl : l.length ≤ (cs ++ sp).length := by rw [List.length_append]; omega
   have hr := Lib.run_unsafeString_row (P := P) w pt it ty E hp1 hc g (cs ++ sp).length hsh l h0 hcl (by unfold maxLen at hcm; omega) hcell
   have hexec : execOp a.eval ⟨some t, .call ⟨.builtin .unsafeString, #[x, y], #[pt, it]⟩, ty, pos, af, gd⟩ = (Builtin.unsafeString_ #[pt, it] ty (#[x, y].map a.eval)).bind fun r => Sem.pure (Next.value r) := rfl
   rw [hexec, show #[x, y].map a.eval = #[a.eval x, a.eval y] by simp, h1, h2, Sem.run_bind', hr]
   have hl0 : l.length ≠ 0 := fun h => h0 (List.eq_nil_of_length_eq_zero h)
   obtain ⟨f, hfz⟩ : ∃ f : Obj → Obj, w.freeze ⟨g, 0, none⟩ l.length = { w with heap := w.heap.modify g f } := ⟨_, by unfold World.freeze; rw [if_neg hl0]⟩
   refine ⟨xU, ⟨(t, true, .string ⟨l.toArray⟩) :: env, ps, hp.set i xU⟩, hK, rfl, rfl, ?_, trivial, ?_, ?_, ?_, ?_, ?_⟩
   · exact he.put (g := true) (by rw [hn]; simpa [fits] using ht) _
   · rw [hfz]
   · rw [hfz]
   · rw [hfz]; exact ⟨rfl, rfl⟩
   · rw [hfz]; simp
   · intro b' hb' hne
     rw [hfz]
     simp only [Array.getElem?_modify]
     rw [if_neg (fun h => hne ((hF b').2 h.symm))]
end
end Go.Sy

namespace Go.Proofs.YtgmiihmahaahiaaGreatDoor
open Go.RowKit Go.Lp Go.Sy
open Go.Proofs.Tryz
attribute [local irreducible] aL aB awp aC fwp
theorem vB (p : Value) (w : World) : (Extern.AbiNoEscape.same #[p]).run Tryz.prog w = .ok p w := rfl
abbrev jE (b : Nat) (p v : Value) : Res := Box b 315 [p, v]
theorem qM (b : Nat) (v : Value) : Con Tryz.prog 285 [.pointer (some ⟨b, 0, none⟩)] [] [jE b (.pointer none) v] fun _ ps hp => ps = [] ∧ hp = [jE b (.pointer (some ⟨b, 0, none⟩)) v] := by
 refine Con.enter Tryz.func285 rfl (by simp [Tryz.ntmps285]) ?_
 show awp _ _ _ _ ⟨[(0, true, _)], _, _⟩
 refine aSR (aM rfl (aU rfl (br rfl) ?_))
 refine aU rfl (aa (off := 0) (by kernel_rfl) rfl) ?_
 refine aU rfl (ae 0 tk313 rfl rfl rfl) ?_
 refine aU rfl (pQ (by kernel_rfl) rfl) ?_
 refine aNn ?_
 refine ah _ rfl (fun h1 => ?_) (fun h1 => ?_)
 ·skip
  refine ai (aM rfl (aM rfl ?_))
  refine aU rfl (xX (t := 315) 0 (by kernel_rfl) (by kernel_rfl) (by kernel_rfl) rfl rfl (by simp)) ?_
  refine aU rfl (xn (vs := _) Tryz.func305 rfl rfl (by kernel_rfl) (by kernel_rfl) rfl (fun w => vB _ w)) ?_
  refine aU rfl (vS (u := 315) 0 2 (by kernel_rfl) (by kernel_rfl) (by kernel_rfl) rfl rfl rfl (by kernel_rfl)) ?_
  refine aU rfl (br rfl) ?_
  refine aU rfl (aa (off := 0) (by kernel_rfl) rfl) ?_
  refine al rfl (aW 0 tk313 rfl rfl rfl rfl ?_)
  refine aH (by (try simp only [nK, nL]); rfl) ?_
  refine cA ?_
  refine gZ [] [0] rfl Tryz.results285 ?_ (.inl rfl)
  exact ⟨rfl, rfl⟩
 ·skip
  exact absurd h1 (by decide)
theorem rj (b : Nat) (v : Value) : Con Tryz.prog 285 [.pointer (some ⟨b, 0, none⟩)] [] [jE b (.pointer (some ⟨b, 0, none⟩)) v] fun _ ps hp => ps = [] ∧ hp = [jE b (.pointer (some ⟨b, 0, none⟩)) v] := by
 refine Con.enter Tryz.func285 rfl (by simp [Tryz.ntmps285]) ?_
 show awp _ _ _ _ ⟨[(0, true, _)], _, _⟩
 refine aSR (aM rfl (aU rfl (br rfl) ?_))
 refine aU rfl (aa (off := 0) (by kernel_rfl) rfl) ?_
 refine aU rfl (ae 0 tk313 rfl rfl rfl) ?_
 refine aU rfl (wm (by kernel_rfl) rfl) ?_
 refine aNn ?_
 refine ah _ rfl (fun h1 => ?_) (fun h1 => ?_)
 ·skip
  exact absurd h1 (by decide)
 ·skip
  refine aSR (aM rfl (aU rfl (br rfl) ?_))
  refine aU rfl (aa (off := 0) (by kernel_rfl) rfl) ?_
  refine aU rfl (ae 0 tk313 rfl rfl rfl) (aM rfl ?_)
  refine aU rfl (tp (te := 315) (by kernel_rfl) (by kernel_rfl) rfl rfl) ?_
  refine aNn ?_
  refine ah _ rfl (fun h2 => ?_) (fun h2 => ?_)
  ·skip
   exact absurd h2 (by decide)
  ·skip
   refine au ?_
   refine gZ [] [0] rfl Tryz.results285 ?_ (.inl rfl)
   exact ⟨rfl, rfl⟩
theorem sB (b : Nat) (p : Value) (hp : p = .pointer none ∨ p = .pointer (some ⟨b, 0, none⟩)) (v : Value) : Con Tryz.prog 285 [.pointer (some ⟨b, 0, none⟩)] [] [jE b p v] fun _ ps hp => ps = [] ∧ hp = [jE b (.pointer (some ⟨b, 0, none⟩)) v] := by
 rcases hp with rfl | rfl
 · exact qM b v
 · exact rj b v
theorem re (b : Nat) (p : Value) (hp : p = .pointer none ∨ p = .pointer (some ⟨b, 0, none⟩)) (v : Value) (l : List UInt8) (hl : l.length ≤ 1000000) (u : UInt8) : Con Tryz.prog 249 [.pointer (some ⟨b, 0, none⟩), .int .u8 u.toNat] [] [jE b p v, bH v 5 1 (l.map fg)]
   fun _ ps hp => ps = [] ∧ ∃ (ad : Option Addr) (c : Nat), hp = [jE b (.pointer (some ⟨b, 0, none⟩)) (.slice ad (l ++ [u]).length c), bH (.slice ad (l ++ [u]).length c) 5 1 ((l ++ [u]).map fg)] := by
 refine Con.enter Tryz.func249 rfl (by simp [Tryz.ntmps249]) ?_
 show awp _ _ _ _ ⟨[(0, true, _), (1, true, _)], _, _⟩
 refine aSR (aA rfl (aNn (aSR (aM rfl ?_))))
 refine al (q := false) rfl (bF [] [0] (by kernel_rfl) rfl rfl rfl rfl (sB b p hp v) ?_)
 rintro _ _ _ ⟨rfl, rfl⟩
 refine cB (by (try simp only [nM, nN]); rfl) (by (try simp only [aV, place, Nat.reduceBEq, if_true, if_false, reduceIte, Nat.reduceAdd, nW]); rfl) ?_
 refine aNn (aSR (aM rfl (aM rfl (aU rfl (br rfl) ?_))))
 refine aU rfl (aa (off := 1) (by kernel_rfl) rfl) ?_
 refine aU rfl (ae 0 tk280 rfl rfl rfl) (aM rfl ?_)
 refine al (q := true) rfl (cz (zs := [.int .u8 0]) (l := [(0, .tmp 12)]) el280 (by kernel_rfl) (by decide) (by decide) (by decide) rfl rfl rfl (.more rfl (.v rfl .nil) .nil) rfl rfl (fun v2_6 => ?_))
 refine aH (by (try simp only [nM, nN]); rfl) ?_
 refine al rfl (bX 1 el280 rfl rfl rfl rfl (cH 2 el280 rfl (by simp)) (by first | assumption | simp) (by show (l.map fg).length + 1 ≤ _; rw [List.length_map]; exact Nat.le_trans (Nat.add_le_add_right hl 1) (by decide)) ((l ++ [u]).length) (by show (l.map fg).length + 1 = _; rw [List.length_map, List.length_append]; rfl) (fun v2_7 c2_7 => ?_))
 refine aH (by (try simp only [nK, nL]); rfl) ?_
 refine aU rfl (br rfl) ?_
 refine aU rfl (aa (off := 1) (by kernel_rfl) rfl) ?_
 refine al rfl (aW 0 tk280 rfl rfl rfl rfl ?_)
 refine aH (by (try simp only [nK, nL]); rfl) ?_
 refine aNn (aSR (aA rfl (aNn (aj ?_))))
 refine bc [] [0, 1] rfl Tryz.results249 rfl ?_ (.inr rfl)
 exact ⟨rfl, v2_7, c2_7, by rw [List.map_append]; rfl⟩
theorem ql (b : Nat) (p : Value) (g cp : Nat) (hcp : cp ≠ 0) (l : List UInt8) (hl : l ≠ []) : Con Tryz.prog 250 [.pointer (some ⟨b, 0, none⟩)] [] [jE b p (.slice (some ⟨g, 0, none⟩) l.length cp), bH (.slice (some ⟨g, 0, none⟩) l.length cp) 5 1 (l.map fg)]
   fun r ps hp => ps = [] ∧ hp = [] ∧ r = .string ⟨l.toArray⟩ := by
 refine Con.enter Tryz.func250 rfl (by simp [Tryz.ntmps250]) ?_
 show awp _ _ _ _ ⟨[(0, true, _)], _, _⟩
 refine aSR (aA rfl (aNs ?_))
 refine bn [10] (by kernel_rfl) ?_
 show aB _ _ _ _ _ 12 #[false, false, false, false, false, false, false, false, false, false, false, false] _
 refine bU 0 rfl (by kernel_rfl) rfl (aq rfl) ?_
 refine bU 1 rfl (by kernel_rfl) rfl (br rfl) ?_
 refine bU 2 rfl (by kernel_rfl) rfl (aa (off := 1) (by kernel_rfl) rfl) ?_
 refine bU 3 rfl (by kernel_rfl) rfl (ae 0 tk280 rfl rfl rfl) ?_
 refine bU 4 rfl (by kernel_rfl) rfl (pK hcp rfl) ?_
 refine bU 5 rfl (by kernel_rfl) rfl (aq rfl) ?_
 refine bU 6 rfl (by kernel_rfl) rfl (br rfl) ?_
 refine bU 7 rfl (by kernel_rfl) rfl (aa (off := 1) (by kernel_rfl) rfl) ?_
 refine bU 8 rfl (by kernel_rfl) rfl (ae 0 tk280 rfl rfl rfl) ?_
 refine bU 9 rfl (by kernel_rfl) rfl (bq Tryz.underlying280 rfl) ?_
 refine bV (q := false) 10 rfl (by kernel_rfl) rfl rfl (l6 1 (by kernel_rfl) (by kernel_rfl) hl rfl rfl rfl rfl ?_)
 refine cq rfl (by (try simp only [nM, nN]); rfl) (by (try simp only [aV, place, Nat.reduceBEq, if_true, if_false, reduceIte, Nat.reduceAdd, nW]); rfl) ?_
 refine bU 11 rfl (by kernel_rfl) rfl (bk rfl) ?_
 refine bS (by kernel_rfl) ?_
 refine aw (aj ?_)
 refine bc [] [] rfl Tryz.results250 rfl ?_ (.inr rfl)
 exact ⟨rfl, rfl, rfl⟩
end Go.Proofs.YtgmiihmahaahiaaGreatDoor

namespace Go.Lp
open Go.RowKit Go.Proofs.YtgmiihmahaahiaaGreatDoor
def ofBytes (l : List UInt8) : ByteArray := ⟨l.toArray⟩
def rF : List (List UInt8 × List UInt8 × List UInt8 × List UInt8) := [
 ([], [], [], []),
 ([110, 111, 112], [], [], []),
 ([115, 97, 102, 101], [], [], []),
 ([115, 101, 116], [65, 73], [], [65]),
 ([104, 105, 103, 104], [65, 73], [65], [65]),
 ([109, 111, 118, 101], [65, 66], [66], [65]),
 ([97, 100, 100], [65, 66, 67], [66, 67], [65]),
 ([115, 117, 98], [65, 66, 67], [66, 67], [65]),
 ([109, 117, 108], [65, 66, 67], [66, 67], [65]),
 ([97, 110, 100], [65, 66, 67], [66, 67], [65]),
 ([111, 114], [65, 66, 67], [66, 67], [65]),
 ([108, 101, 115, 115], [65, 66, 67], [66, 67], [65]),
 ([115, 97, 109, 101], [65, 66, 67], [66, 67], [65]),
 ([97, 100, 100, 105], [65, 66, 73], [66], [65]),
 ([97, 100, 100, 114], [65, 73], [], [65]),
 ([108, 111, 97, 100], [65, 66, 73], [66], [65]),
 ([98, 121, 116, 101], [65, 66, 73], [66], [65]),
 ([115, 116, 111, 114, 101], [65, 66, 73], [65, 66], []),
 ([112, 117, 116], [65, 66, 73], [65, 66], []),
 ([106, 117, 109, 112], [73], [], []),
 ([122, 101, 114, 111], [65, 73], [65], []),
 ([110, 111, 110, 122, 101, 114, 111], [65, 73], [65], []),
 ([99, 97, 108, 108], [73], [83], [83]),
 ([99, 97, 108, 108, 114], [65], [65, 83], [83]),
 ([99, 97, 108, 108, 115], [73], [83], [83]),
 ([106, 117, 109, 112, 115], [73], [], []),
 ([114, 101, 116, 117, 114, 110], [], [83], [83]),
 ([112, 117, 115, 104], [65], [65, 83], [83]),
 ([112, 111, 112], [65], [83], [65, 83]),
 ([116, 108, 115], [65, 66], [66], [65]),
 ([115, 121, 115], [73], [], [])]
def yi (r : List UInt8 × List UInt8 × List UInt8 × List UInt8) : List Value := [.string (ofBytes r.1), .string (ofBytes r.2.1), .string (ofBytes r.2.2.1), .string (ofBytes r.2.2.2)]
def ll : List Value := rF.flatMap yi
def yH (op : Nat) : List UInt8 := (rF.getD op ([], [], [], [])).2.1
theorem th {k : Nat} (h : k < 31) : k = 0 ∨ k = 1 ∨ k = 2 ∨ k = 3 ∨ k = 4 ∨ k = 5 ∨ k = 6 ∨ k = 7 ∨ k = 8 ∨ k = 9 ∨ k = 10 ∨ k = 11 ∨ k = 12 ∨ k = 13 ∨ k = 14 ∨ k = 15 ∨ k = 16 ∨ k = 17 ∨ k = 18 ∨ k = 19 ∨ k = 20 ∨ k = 21 ∨ k = 22 ∨ k = 23 ∨ k = 24 ∨ k = 25 ∨ k = 26 ∨ k = 27 ∨ k = 28 ∨ k = 29 ∨ k = 30 := by omega
theorem rp {k : Nat} (h : k < 31) : ll[k * 4 + 1]? = some (.string (ofBytes (yH k))) := by
 rcases th h with rfl | rfl | rfl | rfl | rfl | rfl | rfl | rfl | rfl | rfl | rfl | rfl | rfl | rfl | rfl | rfl | rfl | rfl | rfl | rfl | rfl | rfl | rfl | rfl | rfl | rfl | rfl | rfl | rfl | rfl | rfl <;> rfl
end Go.Lp

namespace Go.Sy
open Go.RowKit Go.Lp Go.MapKept
structure ed {α : Type} (P : Program) (kt : TypeId) (κ : α → Value) : Prop where
 inj : ∀ a b, κ a = κ b → a = b
 check : ∀ (w : World) (em : Bool) (a : α), (Instr.checkKey em 10000 kt (κ a)).run P w = .ok () w
 find : ∀ (w : World) (x : α) (es : List MapEntry), (∀ e ∈ es, ∃ a, e.key = κ a) →
   ((Instr.findKey kt (κ x) es).run P w = .ok none w ∧ ∀ e ∈ es, e.key ≠ κ x) ∨ ∃ j e, (Instr.findKey kt (κ x) es).run P w = .ok (some (j, e.val)) w ∧ es[j]? = some e ∧ e.key = κ x
 stays : ∀ (w : World) (a : α), (Instr.keyThatStays (κ a) (κ a)).run P w = .ok (κ a) w
theorem j7 {α : Type} {P : Program} {kt : TypeId} {d : TypeDesc} {κ : α → Value} (hd : P.underlying kt = some d) (hk : ∀ a, IsKey d (κ a)) (inj : ∀ a b, κ a = κ b → a = b) : ed P kt κ where
 inj := inj
 check w em a := run_checkKey hd (hk a) em 9999
 find w x es hes := by
   rcases findNow_spec (hk x) es 0 (fun e he => by obtain ⟨a, ha⟩ := hes e he; rw [ha]; exact hk a) with ⟨h1, h2⟩ | ⟨j, e, h1, h2, h3⟩
   · exact .inl ⟨run_findKey hd h1, h2⟩
   · exact .inr ⟨j, e, by rw [Nat.zero_add] at h1; exact run_findKey hd h1, h2, h3⟩
 stays w a := run_keyThatStays (hk a)
theorem uC {P : Program} {kt : TypeId} (hd : P.underlying kt = some .string) : ed P kt (fun s : ByteArray => Value.string s) := j7 hd (fun _ => trivial) (fun _ _ h => by injection h)
theorem ye {P : Program} {kt : TypeId} (hd : P.underlying kt = some (.int .i64)) : ed P kt (fun z : Int => Value.int .i64 z) := j7 hd (fun _ => rfl) (fun _ _ h => by injection h)
section
variable {α β : Type}
structure ki (κ : α → Value) (ν : β → Value) (m : α → Option β) (es : List MapEntry) : Prop where
 of : ∀ e ∈ es, ∃ a v, e.key = κ a ∧ e.val = ν v ∧ m a = some v
 mem : ∀ a v, m a = some v → ∃ e ∈ es, e.key = κ a ∧ e.val = ν v
 apart : es.Pairwise fun e e' => e.key ≠ e'.key
def cZ (b : Nat) (κ : α → Value) (ν : β → Value) (m : α → Option β) : Res :=
 ⟨fun w _ F => (∃ es clock, w.heap[b]? = some (.map es clock) ∧ ki κ ν m es.toList ∧ Stamped es clock) ∧ ∀ k, F k ↔ k = b, fun ⟨⟨es, clock, h, he⟩, hF⟩ h1 _ _ => ⟨⟨es, clock, (h1 b ((hF b).2 rfl)).trans h, he⟩, hF⟩⟩
def cE [DecidableEq α] (m : α → Option β) (k : α) (v : β) : α → Option β := fun a => if a = k then some v else m a
variable {κ : α → Value} {ν : β → Value} {m : α → Option β} {P : Program} {kt : TypeId}
theorem ki.put [DecidableEq α] (K : ed P kt κ) {es : Array MapEntry} (h : ki κ ν m es.toList) (k : α) (v : β) {clock : Nat} (h0 : ∀ e ∈ es.toList, e.key ≠ κ k) : ki κ ν (cE m k v) (es.push { key := κ k, val := ν v, born := clock }).toList where
 of e he := by
   rw [Array.toList_push, List.mem_append, List.mem_singleton] at he
   rcases he with he | rfl
   · obtain ⟨a, u, h1, h2, h3⟩ := h.of e he
     refine ⟨a, u, h1, h2, ?_⟩
     have : a ≠ k := fun e' => h0 e he (by rw [h1, e'])
     simp [cE, this, h3]
   · exact ⟨k, v, rfl, rfl, by simp [cE]⟩
 mem a u ha := by
   unfold cE at ha
   split at ha
   · rename_i hak
     simp only [Option.some.injEq] at ha
     subst hak ha
     exact ⟨_, by rw [Array.toList_push]; exact List.mem_append_right _ (List.mem_singleton.2 rfl), rfl, rfl⟩
   · obtain ⟨e, he, h1, h2⟩ := h.mem a u ha
     exact ⟨e, by rw [Array.toList_push]; exact List.mem_append_left _ he, h1, h2⟩
 apart := by
   rw [Array.toList_push, List.pairwise_append]
   exact ⟨h.apart, List.pairwise_singleton _ _, fun e he e' he' => by rw [List.mem_singleton.1 he']; exact h0 e he⟩
theorem ki.turn [DecidableEq α] (K : ed P kt κ) {es : Array MapEntry} (h : ki κ ν m es.toList) (k : α) (v : β) {j : Nat} {e0 : MapEntry} (hj : es.toList[j]? = some e0) (h0 : e0.key = κ k) :
   ki κ ν (cE m k v) (es.modify j fun e => { e with key := κ k, val := ν v }).toList := by
 have hjl : j < es.toList.length := (List.getElem?_eq_some_iff.1 hj).1
 have hg : ∀ i, (es.modify j fun e => { e with key := κ k, val := ν v }).toList[i]? = if i = j then some { e0 with key := κ k, val := ν v } else es.toList[i]? := fun i => by
   rw [Array.getElem?_toList, Array.getElem?_modify]
   by_cases hij : i = j
   · subst hij
     rw [if_pos rfl, if_pos rfl, ← Array.getElem?_toList, hj]; rfl
   · rw [if_neg hij, if_neg (Ne.symm hij), Array.getElem?_toList]
 have hpw := List.pairwise_iff_getElem.1 h.apart
 have hne : ∀ i e, es.toList[i]? = some e → i ≠ j → e.key ≠ κ k := fun i e hi hij hk => by
   obtain ⟨hil, rfl⟩ := List.getElem?_eq_some_iff.1 hi
   obtain ⟨_, rfl⟩ := List.getElem?_eq_some_iff.1 hj
   rcases Nat.lt_or_gt_of_ne hij with hlt | hlt
   · exact hpw i j hil hjl hlt (by rw [hk, h0])
   · exact hpw j i hjl hil hlt (by rw [hk, h0])
 refine ⟨fun e he => ?_, fun a u ha => ?_, ?_⟩
 · obtain ⟨i, hi⟩ := List.mem_iff_getElem?.1 he
   rw [hg] at hi
   split at hi
   · simp only [Option.some.injEq] at hi
     subst hi
     exact ⟨k, v, rfl, rfl, by simp [cE]⟩
   · rename_i hij
     obtain ⟨a, u, h1, h2, h3⟩ := h.of e (List.mem_of_getElem? hi)
     refine ⟨a, u, h1, h2, ?_⟩
     have : a ≠ k := fun e' => hne i e hi hij (by rw [h1, e'])
     simp [cE, this, h3]
 · unfold cE at ha
   split at ha
   · rename_i hak
     simp only [Option.some.injEq] at ha
     subst hak ha
     exact ⟨_, List.mem_of_getElem? (by rw [hg, if_pos rfl]), rfl, rfl⟩
   · rename_i hak
     obtain ⟨e, he, h1, h2⟩ := h.mem a u ha
     obtain ⟨i, hi⟩ := List.mem_iff_getElem?.1 he
     have hij : i ≠ j := fun hij => by
       rw [hij, hj] at hi
       simp only [Option.some.injEq] at hi
       subst hi
       exact hak (K.inj _ _ (by rw [← h1, h0]))
     exact ⟨e, List.mem_of_getElem? (i := i) (by rw [hg, if_neg hij, hi]), h1, h2⟩
 · rw [List.pairwise_iff_getElem]
   intro i i' hi hi' hlt
   have l1 := List.getElem?_eq_getElem hi
   have l2 := List.getElem?_eq_getElem hi'
   rw [hg] at l1 l2
   split at l1
   · rename_i hij
     rw [if_neg (by omega)] at l2
     simp only [Option.some.injEq] at l1
     rw [← l1]
     exact fun e => hne i' _ l2 (by omega) e.symm
   · rename_i hij
     split at l2
     · simp only [Option.some.injEq] at l2
       rw [← l2]
       exact hne i _ l1 hij
     · obtain ⟨q1, e1⟩ := List.getElem?_eq_some_iff.1 l1
       obtain ⟨q2, e2⟩ := List.getElem?_eq_some_iff.1 l2
       rw [← e1, ← e2]
       exact hpw i i' q1 q2 hlt
variable {n : Fr} {env : Env} {ps : List Per} {hp : List Res} {ty : TypeId} {pos : String} {af : Array Edge} {gd : Option (Nat × Bool)} {K : Sta → Prop} {d : Option Tmp} {q : Bool}
theorem dW {t : Nat} {T : TypeId} (κ : α → Value) (ν : β → Value) (ht : fits n (some t) = true) (hK : ∀ b, K ⟨(t, true, .map (some b)) :: env, ps, hp ++ [cZ b κ ν fun _ => none]⟩) :
   Eff P n ⟨some t, .makeMap T none, ty, pos, af, gd⟩ ⟨env, ps, hp⟩ q K := .push fun w S fp a hst he hn => by
 have : (execOp a.eval ⟨some t, .makeMap T none, ty, pos, af, gd⟩).run P w = .ok (.value (.map (some w.heap.size))) (w.alloc (.map #[] 0)) := by
   show ((Instr.makeMap T none).bind fun r => Sem.pure (Next.value r)).run P w = _
   rw [Sem.run_bind']
   have : (Instr.makeMap T none).run P w = .ok (.map (some w.heap.size)) (w.alloc (.map #[] 0)) := by
     simp [Instr.makeMap, Sem.run_bind, Result.andThen, newObj, Sem.run]
   rw [this]; rfl
 rw [this]
 refine ⟨cZ w.heap.size κ ν fun _ => none, fun b => b = w.heap.size, _, hK w.heap.size, rfl, rfl, he.put (g := true) (by rw [hn]; simpa [fits] using ht) _, eS _ _, ⟨⟨#[], 0, ji _ _, ⟨fun e he => (by simp at he), fun a v h => (by cases h), List.Pairwise.nil⟩, stamped_empty 0⟩, fun _ => Iff.rfl⟩, fun b hb => ?_⟩
 subst hb
 exact ⟨Nat.le_refl _, by rw [World.size_alloc]; omega⟩
theorem cV [DecidableEq α] {T E : TypeId} {x y z : Operand} {b : Nat} {k : α} {v : β} (i : Nat) (hT : P.underlying T = some (.map kt E)) (KO : ed P kt κ) (hx : ev env x = some (true, .map (some b))) (hy : ev env y = some (true, κ k)) (hz : ev env z = some (true, ν v)) (hi : hp[i]? = some (cZ b κ ν m))
   (hK : K ⟨env, ps, hp.set i (cZ b κ ν (cE m k v))⟩) : Eff P n ⟨none, .mapUpdate T x y z, ty, pos, af, gd⟩ ⟨env, ps, hp⟩ false K := .change i hi fun w S fp a hst he hn ⟨⟨es, clock, hb, hes, hsm⟩, hF⟩ => by
 have h1 := he.val hx rfl
 have h2 := he.val hy rfl
 have h3 := he.val hz rfl
 have key : ∃ es' clock', (Instr.mapUpdate T (.map (some b)) (κ k) (ν v)).run P w = .ok () (w.putObj b (.map es' clock')) ∧ ki κ ν (cE m k v) es'.toList ∧ Stamped es' clock' := by
   rcases KO.find w k es.toList (fun e he => let ⟨a, _, h, _⟩ := hes.of e he; ⟨a, h⟩) with ⟨f1, f2⟩ | ⟨j, e0, f1, f2, f3⟩
   · refine ⟨es.push { key := κ k, val := ν v, born := clock }, clock + 1, ?_, hes.put KO k v f2, stamped_push hsm f2⟩
     simp only [Instr.mapUpdate, Sem.run_bind, run_underlying hT, Result.andThen, Go.MapKept.run_getObj_map hb, KO.check, f1, Go.MapKept.run_setObj_map _ hb]
     rfl
   · refine ⟨es.modify j fun e => { e with key := κ k, val := ν v }, clock, ?_, hes.turn KO k v f2 f3, stamped_modify hsm j _ (fun _ _ => rfl) (fun e he h => by rw [← Array.getElem?_toList, f2] at h; obtain rfl := Option.some.inj h; exact f3.symm)⟩
     have f2' : es[j]? = some e0 := by rw [← Array.getElem?_toList]; exact f2
     simp only [Instr.mapUpdate, Sem.run_bind, run_underlying hT, Result.andThen, Go.MapKept.run_getObj_map hb, KO.check, f1, f2', Option.map_some, Option.getD_some, f3, KO.stays, Go.MapKept.run_setObj_map _ hb]
     rfl
 obtain ⟨es', clock', hrun, hes'⟩ := key
 have : (execOp a.eval ⟨none, .mapUpdate T x y z, ty, pos, af, gd⟩).run P w = .ok .skip (w.putObj b (.map es' clock')) := by
   unfold execOp; dsimp only; rw [h1, h2, h3]
   show ((Instr.mapUpdate T (.map (some b)) (κ k) (ν v)).bind fun _ => Sem.pure Next.skip).run P w = _
   rw [Sem.run_bind', hrun]; rfl
 rw [this]
 have hbl := (Array.getElem?_eq_some_iff.1 hb).1
 exact ⟨cZ b κ ν (cE m k v), _, hK, rfl, rfl, he, ⟨⟨es', clock', World.putObj_heap_same hbl, hes'⟩, hF⟩, rfl, rfl, ⟨rfl, rfl⟩, by rw [World.putObj_size]; exact Nat.le_refl _, fun b' _ hb' => World.putObj_heap_other (fun e => hb' ((hF b').2 e))⟩
theorem qk {T E : TypeId} {x y : Operand} {b : Nat} {k : α} {v0 : β} (i : Nat) (ok : Bool) (hT : P.underlying T = some (.map kt E)) (KO : ed P kt κ) (hz : (P.info? E).bind (·.zero) = some (ν v0)) (hx : ev env x = some (true, .map (some b))) (hy : ev env y = some (true, κ k)) (hi : hp[i]? = some (cZ b κ ν m)) :
   Quiet P n ⟨d, .lookup T x y ok, ty, pos, af, gd⟩ ⟨env, ps, hp⟩ (bif ok then .tuple #[ν ((m k).getD v0), .bool (m k).isSome] else ν ((m k).getD v0)) := fun w S fp a hst he hn => by
 have h1 := he.val hx rfl
 have h2 := he.val hy rfl
 obtain ⟨⟨es, clock, hb, hes, _⟩, hF⟩ := hst.res i _ hi
 have hzr : (zeroValue E).run P w = .ok (ν v0) w := by
   cases hE : P.info? E with
   | none => rw [hE] at hz; cases hz
   | some it =>
     rw [hE, Option.bind_some] at hz
     simp [zeroValue, typeInfo, hE, hz]
 have hrun : (Instr.lookup T (.map (some b)) (κ k) ok).run P w = .ok (bif ok then .tuple #[ν ((m k).getD v0), .bool (m k).isSome] else ν ((m k).getD v0)) w := by
   rcases KO.find w k es.toList (fun e he => let ⟨a, _, h, _⟩ := hes.of e he; ⟨a, h⟩) with ⟨f1, f2⟩ | ⟨j, e0, f1, f2, f3⟩
   · have hm : m k = none := by
       cases hmk : m k with
       | none => rfl
       | some u => obtain ⟨e, he, g1, _⟩ := hes.mem k u hmk; exact (f2 e he g1).elim
     rw [hm]
     simp only [Instr.lookup, Sem.run_bind, run_underlying hT, Result.andThen, Go.MapKept.run_getObj_map hb, KO.check, f1, hzr, Sem.run_pure]
     cases ok <;> rfl
   · obtain ⟨a, u, g1, g2, g3⟩ := hes.of e0 (List.mem_of_getElem? f2)
     obtain rfl : a = k := KO.inj _ _ (by rw [← g1, f3])
     rw [g3]
     simp only [Instr.lookup, Sem.run_bind, run_underlying hT, Result.andThen, Go.MapKept.run_getObj_map hb, KO.check, f1, Sem.run_pure, g2]
     cases ok <;> rfl
 have : (execOp a.eval ⟨d, .lookup T x y ok, ty, pos, af, gd⟩).run P w = .ok (.value (bif ok then .tuple #[ν ((m k).getD v0), .bool (m k).isSome] else ν ((m k).getD v0))) w := by
   unfold execOp; dsimp only; rw [h1, h2]
   show ((Instr.lookup T (.map (some b)) (κ k) ok).bind fun r => Sem.pure (Next.value r)).run P w = _
   rw [Sem.run_bind', hrun]; rfl
 rw [this]; exact ck _ _
theorem gg {T E : TypeId} {x y : Operand} {b : Nat} {k : α} {v0 : β} (i : Nat) (hT : P.underlying T = some (.map kt E)) (KO : ed P kt κ) (hz : (P.info? E).bind (·.zero) = some (ν v0)) (hx : ev env x = some (true, .map (some b))) (hy : ev env y = some (true, κ k)) (hi : hp[i]? = some (cZ b κ ν m)) :
   Quiet P n ⟨d, .lookup T x y false, ty, pos, af, gd⟩ ⟨env, ps, hp⟩ (ν ((m k).getD v0)) := qk i false hT KO hz hx hy hi
theorem pj {T E : TypeId} {x y : Operand} {b : Nat} {k : α} {v0 : β} (i : Nat) (hT : P.underlying T = some (.map kt E)) (KO : ed P kt κ) (hz : (P.info? E).bind (·.zero) = some (ν v0)) (hx : ev env x = some (true, .map (some b))) (hy : ev env y = some (true, κ k)) (hi : hp[i]? = some (cZ b κ ν m)) :
   Quiet P n ⟨d, .lookup T x y true, ty, pos, af, gd⟩ ⟨env, ps, hp⟩ (.tuple #[ν ((m k).getD v0), .bool (m k).isSome]) := qk i true hT KO hz hx hy hi
end
end Go.Sy

namespace Go.Sy
open Go.RowKit
section
variable {P : Program} {n : Fr} {s : Sta} {d : Option Tmp} {ty : TypeId} {pos : String} {af : Array Edge} {gd : Option (Nat × Bool)} {x y : Operand} {t t' : TypeId}
theorem lO {xs ys : Array Value} {b : Bool} (hT : P.underlying t = some (.struct (P.fieldsOf t))) (hp : P.stoodInHeld t = false) (hm : P.eqGuardType P.depth t = false)
   (hr : ∀ w, (Op.eqFields 9999 xs ys (P.fieldsOf t).toList).run P w = .ok b w) (hx : ev s.env x = some (true, .agg xs)) (hy : ev s.env y = some (true, .agg ys)) : Quiet P n ⟨d, .binOp .eql t x y t', ty, pos, af, gd⟩ s (.bool b) :=
 .run2 hx hy fun ρ w h1 h2 => by
   unfold execOp; dsimp only; rw [h1, h2]
   simp only [Sem.run_bind, run_eqGuard_agg w _ t _ _ xs ys hm, Result.andThen_ok, run_eql_struct, run_equalIn_struct w 9999 t xs ys hT hp, hr w]
   rfl
theorem xW {xs ys : Array Value} {b : Bool} (hT : P.underlying t = some (.struct (P.fieldsOf t))) (hp : P.stoodInHeld t = false) (hm : P.eqGuardType P.depth t = false)
   (hr : ∀ w, (Op.eqFields 9999 xs ys (P.fieldsOf t).toList).run P w = .ok b w) (hx : ev s.env x = some (true, .agg xs)) (hy : ev s.env y = some (true, .agg ys)) : Quiet P n ⟨d, .binOp .neq t x y t', ty, pos, af, gd⟩ s (.bool (!b)) :=
 .run2 hx hy fun ρ w h1 h2 => by
   unfold execOp; dsimp only; rw [h1, h2]
   simp only [Sem.run_bind, run_eqGuard_agg w _ t _ _ xs ys hm, Result.andThen_ok, run_neq_struct, run_equalIn_struct w 9999 t xs ys hT hp, hr w]
   rfl
theorem rJ {k yk : IntKind} {a b : Int} (hx : ev s.env x = some (true, .int k a)) (hy : ev s.env y = some (true, .int yk b)) (hb : 0 ≤ b) : Quiet P n ⟨d, .binOp .shl t x y t', ty, pos, af, gd⟩ s (.int k (k.wrap (a * 2 ^ min b.toNat k.bits))) :=
 .run2 hx hy fun ρ w h1 h2 => by
   have e : Op.shift .shl k a yk b = pure (.int k (k.wrap (a * 2 ^ min b.toNat k.bits))) := by unfold Op.shift; rw [if_neg (by omega)]
   unfold execOp; dsimp only; rw [h1, h2]
   have e2 : (do eqGuard BinOp.shl t x y (Value.int k a) (Value.int yk b); binOp BinOp.shl t (Value.int k a) (Value.int yk b)) = Op.shift .shl k a yk b := by cases k <;> cases yk <;> rfl
   rw [e2, e]; rfl
theorem mK {k yk : IntKind} {a b : Int} (hx : ev s.env x = some (true, .int k a)) (hy : ev s.env y = some (true, .int yk b)) (hb : 0 ≤ b) : Quiet P n ⟨d, .binOp .shr t x y t', ty, pos, af, gd⟩ s (.int k (a.fdiv (2 ^ min b.toNat k.bits))) :=
 .run2 hx hy fun ρ w h1 h2 => by
   have e : Op.shift .shr k a yk b = pure (.int k (a.fdiv (2 ^ min b.toNat k.bits))) := by unfold Op.shift; rw [if_neg (by omega)]
   unfold execOp; dsimp only; rw [h1, h2]
   have e2 : (do eqGuard BinOp.shr t x y (Value.int k a) (Value.int yk b); binOp BinOp.shr t (Value.int k a) (Value.int yk b)) = Op.shift .shr k a yk b := by cases k <;> cases yk <;> rfl
   rw [e2, e]; rfl
theorem rW {k : IntKind} {a b : Int} (hx : ev s.env x = some (true, .int k a)) (hy : ev s.env y = some (true, .int k b)) : Quiet P n ⟨d, .binOp .or t x y t', ty, pos, af, gd⟩ s (.int k (k.wrap (BitVec.ofInt k.bits a ||| BitVec.ofInt k.bits b).toNat)) :=
 .run2 hx hy fun ρ w h1 h2 => by
   unfold execOp; dsimp only; rw [h1, h2]; cases k <;> rfl
theorem qV {k : IntKind} {a b : Int} (hx : ev s.env x = some (true, .int k a)) (hy : ev s.env y = some (true, .int k b)) : Quiet P n ⟨d, .binOp .and t x y t', ty, pos, af, gd⟩ s (.int k (k.wrap (BitVec.ofInt k.bits a &&& BitVec.ofInt k.bits b).toNat)) :=
 .run2 hx hy fun ρ w h1 h2 => by
   unfold execOp; dsimp only; rw [h1, h2]; cases k <;> rfl
end
end Go.Sy
namespace Go.Sy
open Go.RowKit
def oq (P : Program) (t : TypeId) : Bool := match P.underlying t with
 | some (.int _) => true
 | _ => false
def fk (xs : Array Value) (o : Nat) : Option Int := match xs[o]? with
 | some (.int .i64 a) => some a
 | _ => none
def eT (xs ys : Array Value) (l : List Nat) : Bool := l.all fun o => match fk xs o, fk ys o with
 | some a, some b => a == b
 | _, _ => true
def dY (xs : Array Value) (l : List Nat) : Bool := l.all fun o => (fk xs o).isSome
end Go.Sy

namespace Go.Sy
open Go.RowKit Go.Lp Go.MapKept
section
variable {P : Program}
def cj (k : ByteArray × ByteArray) : Value := .agg #[.string k.1, .string k.2]
theorem jB (a b : ByteArray × ByteArray) (h : cj a = cj b) : a = b := by
 unfold cj at h
 injection h with h
 simp at h
 exact Prod.ext h.1 h.2
theorem fE (d : Nat) (t : TypeId) (a b : ByteArray) (w : World) (h : P.underlying t = some .string) : (Op.equalIn (d + 1) t (.string a) (.string b)).run P w = .ok (decide (a = b)) w := by
 have : (a == b) = decide (a = b) := by rw [Bool.eq_iff_iff, bytes_beq, decide_eq_true_eq]
 simp [Op.equalIn, run_underlying h, this]
theorem fA {e : TypeId} (he : P.underlying e = some .string) {xs : Array Value} {off : Nat} {v : Value} (hx : xs[off]? = some v) (w : World) : (part e xs off).run P w = .ok v w :=
 run_part_plain w (by unfold Program.plainKey; rw [he]) hx
theorem mD {kt : TypeId} (hwide : (match P.underlying kt with | some (.array _ _) | some (.struct _) => true | _ => false) = true) (heq : ∀ (w : World) (a b : ByteArray × ByteArray), (Op.equal kt (cj a) (cj b)).run P w = .ok (decide (a = b)) w) (w : World) (x : ByteArray × ByteArray) (es : List MapEntry) (hes : ∀ e ∈ es, ∃ a, e.key = cj a) :
   ((Instr.findKey kt (cj x) es).run P w = .ok none w ∧ ∀ e ∈ es, e.key ≠ cj x) ∨ ∃ j e, (Instr.findKey kt (cj x) es).run P w = .ok (some (j, e.val)) w ∧ es[j]? = some e ∧ e.key = cj x := by
 have key : ∀ (es : List MapEntry) (i : Nat), (∀ e ∈ es, ∃ a, e.key = cj a) →
     ((Instr.findAsking kt (cj x) es i).run P w = .ok none w ∧ ∀ e ∈ es, e.key ≠ cj x) ∨ ∃ j e, (Instr.findAsking kt (cj x) es i).run P w = .ok (some (i + j, e.val)) w ∧ es[j]? = some e ∧ e.key = cj x := by
   intro es
   induction es with
   | nil => intro i _; exact .inl ⟨by simp [Instr.findAsking], fun e he => by cases he⟩
   | cons e es ih =>
     intro i hall
     obtain ⟨a, ha⟩ := hall e List.mem_cons_self
     have hr := heq w x a
     by_cases hxa : x = a
     · refine .inr ⟨0, e, ?_, rfl, by rw [ha, hxa]⟩
       rw [decide_eq_true hxa] at hr
       simp [Instr.findAsking, ha, hr]
     · rw [decide_eq_false hxa] at hr
       rcases ih (i + 1) (fun y hy => hall y (List.mem_cons_of_mem _ hy)) with ⟨h1, h2⟩ | ⟨j, e', h1, h2, h3⟩
       · refine .inl ⟨by simp [Instr.findAsking, ha, hr, h1], fun y hy => ?_⟩
         rcases List.mem_cons.1 hy with rfl | hy
         · rw [ha]; exact fun hh => hxa (jB _ _ hh).symm
         · exact h2 y hy
       · exact .inr ⟨j + 1, e', by simp [Instr.findAsking, ha, hr, h1, Nat.add_assoc, Nat.add_comm 1 j], by simpa using h2, h3⟩
 rw [run_findKey_eq w hwide]
 rcases key es 0 hes with h | ⟨j, e, h1, h2, h3⟩
 · exact .inl h
 · exact .inr ⟨j, e, by simpa using h1, h2, h3⟩
theorem kO (w : World) (a : ByteArray × ByteArray) : (Instr.keyThatStays (cj a) (cj a)).run P w = .ok (cj a) w := by
 have : Instr.sameBits 10000 (cj a) (cj a) = true := by simp [cj, Instr.sameBits, bytes_beq]
 simp [Instr.keyThatStays, this]
theorem jW (em : Bool) (m : Nat) {e : TypeId} (he : P.underlying e = some .string) (v : ByteArray) (w : World) : (Instr.checkKey em (m + 1) e (.string v)).run P w = .ok () w := by simp [Instr.checkKey, run_underlying he]
theorem pG {kt e : TypeId} {i : TypeInfo} (hu : P.underlying kt = some (.array 2 e)) (hi : P.info? e = some i) (hc : P.cellsOf e = 1) (he : P.underlying e = some .string) (w : World) (em : Bool) (m : Nat) (a : ByteArray × ByteArray) : (Instr.checkKey em (m + 1 + 1) kt (cj a)).run P w = .ok () w := by
 have h1 : (part e #[Value.string a.1, Value.string a.2] 0).run P w = .ok (.string a.1) w := fA he rfl w
 have h2 : (part e #[Value.string a.1, Value.string a.2] 1).run P w = .ok (.string a.2) w := fA he rfl w
 unfold cj Instr.checkKey
 simp only [Sem.run_bind, run_underlying hu, Result.andThen_ok]
 simp only [Std.Legacy.Range.forIn_eq_forIn_range', Std.Legacy.Range.size]
 simp [List.range', run_sizeOf w hi, hc, h1, h2, jW em m he]
theorem qc {kt : TypeId} (hu : P.underlying kt = some (.struct (P.fieldsOf kt))) {f g : Field} (hf : (P.fieldsOf kt).toList = [f, g]) (n1 : f.name ≠ "_") (n2 : g.name ≠ "_") (o1 : f.offset = 0) (o2 : g.offset = 1) (t1 : P.underlying f.type = some .string) (t2 : P.underlying g.type = some .string) (w : World) (em : Bool) (m : Nat) (a : ByteArray × ByteArray) : (Instr.checkKey em (m + 1 + 1) kt (cj a)).run P w = .ok () w := by
 have h1 : (part f.type #[Value.string a.1, Value.string a.2] 0).run P w = .ok (.string a.1) w := fA t1 rfl w
 have h2 : (part g.type #[Value.string a.1, Value.string a.2] 1).run P w = .ok (.string a.2) w := fA t2 rfl w
 unfold cj Instr.checkKey
 simp only [Sem.run_bind, run_underlying hu, Result.andThen_ok]
 rw [← Array.forIn_toList, hf]
 simp [n1, n2, o1, o2, h1, h2, jW em m t1, jW em m t2]
theorem we {kt e : TypeId} {i : TypeInfo} (hu : P.underlying kt = some (.array 2 e)) (hi : P.info? e = some i) (hc : P.cellsOf e = 1) (he : P.underlying e = some .string) (w : World) (m : Nat) (a b : ByteArray × ByteArray) : (Op.equalIn (m + 1 + 1) kt (cj a) (cj b)).run P w = .ok (decide (a = b)) w := by
 have h1 : ∀ x y : ByteArray, (part e #[Value.string x, Value.string y] 0).run P w = .ok (.string x) w := fun x y => fA he rfl w
 have h2 : ∀ x y : ByteArray, (part e #[Value.string x, Value.string y] 1).run P w = .ok (.string y) w := fun x y => fA he rfl w
 unfold cj
 rw [run_equalIn_array w (m + 1) _ _ hu hi, hc]
 simp only [List.range_succ, List.range_zero, List.nil_append, List.cons_append, Op.eqItems, Sem.run_bind, Nat.zero_mul, Nat.one_mul, h1, h2, Result.andThen_ok, fE m e _ _ w he]
 by_cases e1 : a.1 = b.1 <;> by_cases e2 : a.2 = b.2 <;> simp [e1, e2, h2, fE m e _ _ w he, Prod.ext_iff]
theorem uB {kt : TypeId} (hu : P.underlying kt = some (.struct (P.fieldsOf kt))) (hp : P.stoodInHeld kt = false) {f g : Field} (hf : (P.fieldsOf kt).toList = [f, g]) (n1 : f.name ≠ "_") (n2 : g.name ≠ "_") (o1 : f.offset = 0) (o2 : g.offset = 1) (t1 : P.underlying f.type = some .string) (t2 : P.underlying g.type = some .string) (w : World) (m : Nat) (a b : ByteArray × ByteArray) : (Op.equalIn (m + 1 + 1) kt (cj a) (cj b)).run P w = .ok (decide (a = b)) w := by
 have h1 : ∀ x y : ByteArray, (part f.type #[Value.string x, Value.string y] 0).run P w = .ok (.string x) w := fun x y => fA t1 rfl w
 have h2 : ∀ x y : ByteArray, (part g.type #[Value.string x, Value.string y] 1).run P w = .ok (.string y) w := fun x y => fA t2 rfl w
 unfold cj
 rw [run_equalIn_struct w (m + 1) kt _ _ hu hp, hf]
 simp only [Op.eqFields, if_pos n1, if_pos n2, o1, o2, Sem.run_bind, h1, h2, Result.andThen_ok, fE m _ _ _ w t1, fE m _ _ _ w t2]
 by_cases e1 : a.1 = b.1 <;> by_cases e2 : a.2 = b.2 <;> simp [e1, e2, h2, fE m _ _ _ w t2, Prod.ext_iff]
theorem uv {kt e : TypeId} {i : TypeInfo} (hu : P.underlying kt = some (.array 2 e)) (hi : P.info? e = some i) (hc : P.cellsOf e = 1) (he : P.underlying e = some .string) : ed P kt cj where
 inj := jB
 check w em a := pG hu hi hc he w em 9998 a
 find := mD (by rw [hu]) fun w a b => we hu hi hc he w 9998 a b
 stays := kO
theorem tz {kt e : TypeId} (hu : P.underlying kt = some (.array 2 e)) (hi : (P.info? e).isSome = true) (hc : P.cellsOf e = 1) (he : P.underlying e = some .string) : ed P kt cj :=
 let ⟨_, h⟩ := Option.isSome_iff_exists.1 hi
 uv hu h hc he
theorem uc {kt : TypeId} (hu : P.underlying kt = some (.struct (P.fieldsOf kt))) (hp : P.stoodInHeld kt = false) {f g : Field} (hf : (P.fieldsOf kt).toList = [f, g]) (n1 : f.name ≠ "_") (n2 : g.name ≠ "_") (o1 : f.offset = 0) (o2 : g.offset = 1) (t1 : P.underlying f.type = some .string) (t2 : P.underlying g.type = some .string) : ed P kt cj where
 inj := jB
 check w em a := qc hu hf n1 n2 o1 o2 t1 t2 w em 9998 a
 find := mD (by rw [hu]) fun w a b => uB hu hp hf n1 n2 o1 o2 t1 t2 w 9998 a b
 stays := kO
end
end Go.Sy

namespace Go.Sy
open Go.RowKit Go.Lp
abbrev eI (z : Int) : Value := .int .i64 z
def dH (s : ByteArray) : Value := .string s
def vBo (b : Bool) : Value := .bool b
def kC {α : Type} [DecidableEq α] (l : List α) : α → Option Bool := fun a => if a ∈ l then some true else none
theorem vJ {α : Type} [DecidableEq α] (l : List α) (a : α) : kC (l ++ [a]) = cE (kC l) a true := by
 funext b; unfold kC cE
 by_cases h : b = a
 · subst h; simp
 · by_cases hb : b ∈ l <;> simp [h, hb]
theorem l7 {α : Type} [DecidableEq α] (l : List α) (a : α) : (kC l a).getD false = decide (a ∈ l) := by
 unfold kC; by_cases h : a ∈ l <;> simp [h]
end Go.Sy

