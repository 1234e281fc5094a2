/- A space in memory: its representation. -/
import Derived.Test.YtpgcoceggacplaaGreatDoorLpDelete
set_option linter.unusedVariables false
set_option linter.unusedSimpArgs false
set_option maxRecDepth 20000
namespace Go.Lp
/-- an area -/
structure Ar where
  at_ : Int
  size : Int
  kind : Int
  owner : Int
  mod : Int
deriving DecidableEq, Repr
instance : Inhabited Ar := ⟨⟨0, 0, 0, 0, 0⟩⟩
/-- an area with its bytes, and where these lie -/
structure Pt where
  ar : Ar
  bytes : List UInt8
  blk : Nat
  cap : Nat
instance : Inhabited Pt := ⟨⟨default, [], 0, 0⟩⟩

def rightA (a : Ar) : Bool := decide (256 ≤ a.at_) && decide (a.at_ < 1099511627776) && decide (a.at_ % 256 = 0) && decide (1 ≤ a.size) && decide (a.size ≤ 1048576) && decide (a.at_ + a.size ≤ 1099511627776) && decide (0 ≤ a.kind) && decide (a.kind < 5)
theorem rightA_iff {a : Ar} : rightA a = true ↔ 256 ≤ a.at_ ∧ a.at_ < 1099511627776 ∧ a.at_ % 256 = 0 ∧ 1 ≤ a.size ∧ a.size ≤ 1048576 ∧ a.at_ + a.size ≤ 1099511627776 ∧ 0 ≤ a.kind ∧ a.kind < 5 := by
  simp only [rightA, Bool.and_eq_true, decide_eq_true_eq, and_assoc]

/-- does the area hold a range -/
def holds (at_ size : Int) (a : Ar) : Bool := decide (a.at_ ≤ at_) && decide (at_ < a.at_ + a.size) && decide (size ≤ a.at_ + a.size - at_)
def pfind (S : List Pt) (at_ size : Int) : Option Pt := S.find? fun q => holds at_ size q.ar

/-- the areas ascend, are right, have no address in common, and have a byte for each address -/
structure Inv (S : List Pt) : Prop where
  right : ∀ q ∈ S, rightA q.ar = true
  asc : S.Pairwise fun x y => x.ar.at_ + x.ar.size ≤ y.ar.at_
  len : ∀ q ∈ S, (q.bytes.length : Int) = q.ar.size

def ptKey (S : List Pt) (i : Nat) : Int := (S.getD i default).ar.at_

theorem Inv.key_lt {S : List Pt} (h : Inv S) {i j : Nat} (hij : i < j) (hj : j < S.length) : (S.getD i default).ar.at_ + (S.getD i default).ar.size ≤ (S.getD j default).ar.at_ := by
  have := List.pairwise_iff_getElem.1 h.asc i j (by omega) hj hij
  simpa [List.getD, List.getElem?_eq_getElem (show i < S.length by omega), List.getElem?_eq_getElem hj] using this
theorem Inv.rightAt {S : List Pt} (h : Inv S) {i : Nat} (hi : i < S.length) : rightA (S.getD i default).ar = true := by
  have := h.right S[i] (List.getElem_mem hi)
  simpa [List.getD, List.getElem?_eq_getElem hi] using this
theorem Inv.key_le {S : List Pt} (h : Inv S) (i j : Nat) (hij : i ≤ j) (hj : j < S.length) : ptKey S i ≤ ptKey S j := by
  rcases Nat.lt_or_ge i j with hlt | hge
  · have h1 := h.key_lt hlt hj
    have h2 := rightA_iff.1 (h.rightAt (show i < S.length by omega))
    unfold ptKey; omega
  · obtain rfl : i = j := by omega
    exact Int.le_refl _

/-- what a search gives is where the area would be -/
theorem pfind_at {S : List Pt} (h : Inv S) {at_ size : Int} {j : Nat} (hj : j < S.length) (h1 : ptKey S j ≤ at_) (h2 : ∀ i, j < i → i < S.length → at_ < ptKey S i) :
    pfind S at_ size = if holds at_ size (S.getD j default).ar then some (S.getD j default) else none := by
  have hg : S.getD j default = S[j] := by simp [List.getD, List.getElem?_eq_getElem hj]
  have hno : ∀ i (hi : i < S.length), i ≠ j → holds at_ size S[i].ar = false := fun i hi hne => by
    have hgi : S.getD i default = S[i] := by simp [List.getD, List.getElem?_eq_getElem hi]
    rcases Nat.lt_or_ge i j with hlt | hge
    · have := h.key_lt hlt hj
      unfold ptKey at h1
      rw [hgi] at this
      unfold holds
      have : ¬ at_ < S[i].ar.at_ + S[i].ar.size := by omega
      simp [this]
    · have := h2 i (by omega) hi
      unfold ptKey at this
      rw [hgi] at this
      unfold holds
      have : ¬ S[i].ar.at_ ≤ at_ := by omega
      simp [this]
  unfold pfind
  by_cases hh : holds at_ size (S.getD j default).ar = true
  · rw [if_pos hh, hg] at *
    rw [List.find?_eq_some_iff_getElem]
    refine ⟨hh, j, hj, rfl, fun i hi => ?_⟩
    rw [hno i (by omega) (by omega)]; rfl
  · rw [if_neg hh]
    rw [List.find?_eq_none]
    intro x hx
    obtain ⟨i, hi, rfl⟩ := List.getElem_of_mem hx
    by_cases hne : i = j
    · subst hne; rw [hg] at hh; exact hh
    · rw [hno i hi hne]; simp
theorem pfind_before {S : List Pt} (h : Inv S) {at_ size : Int} (h2 : ∀ i, i < S.length → at_ < ptKey S i) : pfind S at_ size = none := by
  unfold pfind
  rw [List.find?_eq_none]
  intro x hx
  obtain ⟨i, hi, rfl⟩ := List.getElem_of_mem hx
  have := h2 i hi
  unfold ptKey at this
  rw [show S.getD i default = S[i] by simp [List.getD, List.getElem?_eq_getElem hi]] at this
  unfold holds
  have : ¬ S[i].ar.at_ ≤ at_ := by omega
  simp [this]

/-- where a search leads: to the area that holds the address, if one does -/
theorem locate {S : List Pt} (h : Inv S) {at_ size : Int} {k : Nat} (hk : Lo (ptKey S) S.length at_ k) :
    (k < S.length ∧ ptKey S k = at_ → pfind S at_ size = if holds at_ size (S.getD k default).ar then some (S.getD k default) else none) ∧
    (¬ (k < S.length ∧ ptKey S k = at_) → (k = 0 → pfind S at_ size = none) ∧ (0 < k → ptKey S (k - 1) < at_ ∧ pfind S at_ size = if holds at_ size (S.getD (k - 1) default).ar then some (S.getD (k - 1) default) else none)) := by
  obtain ⟨h1, h2, h3⟩ := hk
  refine ⟨fun ⟨hkn, he⟩ => pfind_at h hkn (by omega) (fun i hi hin => ?_), fun hno => ?_⟩
  · have := h.key_lt hi hin
    have := rightA_iff.1 (h.rightAt hkn)
    unfold ptKey at *; omega
  · have hgt : ∀ i, k ≤ i → i < S.length → at_ < ptKey S i := fun i hi hin => by
      have a1 := h3 k (Nat.le_refl _) (by omega)
      have a2 := h.key_le k i hi hin
      have a3 : ptKey S k ≠ at_ := fun e => hno ⟨by omega, e⟩
      omega
    refine ⟨fun h0 => pfind_before h (fun i hi => hgt i (by omega) hi), fun h0 => ?_⟩
    have := h2 (k - 1) (by omega)
    exact ⟨this, pfind_at h (by omega) (by omega) (fun i hi hin => hgt i (by omega) hin)⟩
theorem holds_at {at_ size : Int} {a : Ar} (h : a.at_ ≤ at_) : holds at_ size a = (decide (at_ - a.at_ < a.size) && decide (size ≤ a.size - (at_ - a.at_))) := by
  unfold holds
  rw [Bool.eq_iff_iff]
  simp only [Bool.and_eq_true, decide_eq_true_eq]
  omega

/-! in memory -/
def bv (b : UInt8) : Value := .int .u8 b.toNat
def Ar.vals (a : Ar) : List Value := [.int .i64 a.at_, .int .i64 a.size, .int .i64 a.kind, .int .i64 a.owner, .int .i64 a.mod]
def Pt.sl (q : Pt) : Value := .slice (some ⟨q.blk, 0, none⟩) q.bytes.length q.cap
def Pt.vals (q : Pt) : List Value := [.int .i64 q.ar.at_, .int .i64 q.ar.size, .int .i64 q.ar.kind, .int .i64 q.ar.owner, .int .i64 q.ar.mod, q.sl]
def flat (S : List Pt) : List Value := S.flatMap Pt.vals
theorem flat_length (S : List Pt) : (flat S).length = S.length * 6 := by
  unfold flat
  induction S with
  | nil => rfl
  | cons q S ih => simp only [List.flatMap_cons, List.length_append, ih, List.length_cons]; simp [Pt.vals]; omega
theorem flat_append (S T : List Pt) : flat (S ++ T) = flat S ++ flat T := by simp [flat]
theorem flat_take (S : List Pt) (k : Nat) : flat (S.take k) = (flat S).take (k * 6) := by
  induction S generalizing k with
  | nil => simp [flat]
  | cons q S ih =>
    cases k with
    | zero => simp [flat]
    | succ k =>
      have e : flat (q :: S) = q.vals ++ flat S := rfl
      rw [e, List.take_succ_cons, show flat (q :: S.take k) = q.vals ++ flat (S.take k) from rfl, ih, List.take_append, show q.vals.length = 6 from rfl, List.take_of_length_le (l := q.vals) (by show 6 ≤ _; omega), show (k + 1) * 6 - 6 = k * 6 by omega]
theorem flat_drop (S : List Pt) (k : Nat) : flat (S.drop k) = (flat S).drop (k * 6) := by
  induction S generalizing k with
  | nil => simp [flat]
  | cons q S ih =>
    cases k with
    | zero => simp
    | succ k =>
      have e : flat (q :: S) = q.vals ++ flat S := rfl
      rw [e, List.drop_succ_cons, ih, List.drop_append, show q.vals.length = 6 from rfl, List.drop_of_length_le (l := q.vals) (by show 6 ≤ _; omega), show (k + 1) * 6 - 6 = k * 6 by omega]
      rfl
theorem flat_get (S : List Pt) (i j : Nat) (hi : i < S.length) (hj : j < 6) : (flat S)[i * 6 + j]? = (S.getD i default).vals[j]? := by
  have h : flat S = flat (S.take i) ++ (S[i].vals ++ flat (S.drop (i + 1))) := by
    conv => lhs; rw [← List.take_append_drop i S, List.drop_eq_getElem_cons hi]
    rw [flat_append]; rfl
  rw [h, List.getElem?_append_right (by rw [flat_length, List.length_take]; omega), flat_length, List.length_take, Nat.min_eq_left (by omega), Nat.add_sub_cancel_left,
    List.getElem?_append_left (by simp [Pt.vals]; omega)]
  simp [List.getD, List.getElem?_eq_getElem hi]
theorem one_flat (S : List Pt) : ∀ v ∈ flat S, v.oneCell' = true := by
  intro v hv
  unfold flat at hv
  obtain ⟨q, _, hv⟩ := List.mem_flatMap.1 hv
  simp only [Pt.vals, List.mem_cons, List.not_mem_nil, or_false, Pt.sl] at hv
  rcases hv with rfl | rfl | rfl | rfl | rfl | rfl <;> rfl
end Go.Lp

namespace Go.Proofs.YtpgcoceggacplaaGreatDoor
open Go.RowKit Go.Lp
/-- the bytes of a part -/
def ByteAt (w : World) (q : Pt) : Prop := ∃ sp : List Value, w.heap[q.blk]? = some (.cells (q.bytes.map bv ++ sp).toArray 5 (0, 0)) ∧ q.bytes.length + sp.length = q.cap ∧ q.cap ≤ maxLen
/-- the row of the parts: a slice value that is nil or owns its block -/
def RowAt (w : World) (a : Option Nat) (c : Nat) (S : List Pt) : Prop :=
  match a with
  | none => S = [] ∧ c = 0
  | some B => ∃ cur : List Value, w.heap[B]? = some (.cells cur.toArray 83 (0, 0)) ∧ cur.length = c * 6 ∧ S.length ≤ c ∧ c ≤ maxLen ∧ cur.take (S.length * 6) = flat S
def adr (a : Option Nat) : Option Addr := a.map fun B => ⟨B, 0, none⟩
@[simp, go_sem] theorem adr_some (B : Nat) : adr (some B) = some ⟨B, 0, none⟩ := rfl
@[simp, go_sem] theorem adr_none : adr none = none := rfl
/-- what find hands back -/
def FoundIs (r : Option Pt) (cs : Array Value) (b : Bool) : Prop := match r with | some q => b = true ∧ cs = q.vals.toArray | none => b = false ∧ ∃ a0 a1 a2 a3 a4 x n m, cs = #[.int .i64 a0, .int .i64 a1, .int .i64 a2, .int .i64 a3, .int .i64 a4, .slice x n m]
structure SpAt (w : World) (p : Nat) (a : Option Nat) (c : Nat) (S : List Pt) : Prop where
  head : w.heap[p]? = some (.cells #[.slice (adr a) S.length c] 98 (0, 0))
  row : RowAt w a c S
  bytes : ∀ q ∈ S, ByteAt w q
  nodup : (S.map Pt.blk).Nodup
  apart : ∀ q ∈ S, q.blk ≠ p ∧ a ≠ some q.blk
  self : a ≠ some p
  inv : Inv S
  few : S.length ≤ 4096

theorem SpAt.pcell {w : World} {p : Nat} {a : Option Nat} {c : Nat} {S : List Pt} (h : SpAt w p a c S) : w.cell? ⟨p, 0, none⟩ = some (.slice (adr a) S.length c) := by
  rw [cell_of_heap h.head]; rfl
theorem SpAt.plt {w : World} {p : Nat} {a : Option Nat} {c : Nat} {S : List Pt} (h : SpAt w p a c S) : p < w.heap.size := lt_of_heap h.head

/-- the six cells of part i -/
theorem SpAt.cells {w : World} {p : Nat} {a : Option Nat} {c : Nat} {S : List Pt} (h : SpAt w p a c S) {i : Nat} (hi : i < S.length) : ∃ B, a = some B ∧ B < w.heap.size ∧ ∀ j, j < 6 → w.cell? ⟨B, i * 6 + j, none⟩ = (S.getD i default).vals[j]? := by
  have hr := h.row
  cases a with
  | none => obtain ⟨rfl, _⟩ := hr; simp at hi
  | some B =>
    obtain ⟨cur, hB, hl, hS, hc, ht⟩ := hr
    refine ⟨B, rfl, lt_of_heap hB, fun j hj => ?_⟩
    rw [cell_of_heap hB, ← flat_get S i j hi hj, ← ht, List.getElem?_take, if_pos (by omega)]
    simp
theorem SpAt.part6 {w : World} {p : Nat} {a : Option Nat} {c : Nat} {S : List Pt} (h : SpAt w p a c S) (i : Nat) (hi : i < S.length) : Part6 w (adr a) (ptKey S) i := by
  obtain ⟨B, rfl, hB, hc⟩ := h.cells hi
  exact ⟨B, _, _, _, _, _, _, _, rfl, hB, hc 0 (by omega), hc 1 (by omega), hc 2 (by omega), hc 3 (by omega), hc 4 (by omega), hc 5 (by omega)⟩

theorem SpAt.mono {w w' : World} {p : Nat} {a : Option Nat} {c : Nat} {S : List Pt} (h : SpAt w p a c S) (hp : w'.heap[p]? = w.heap[p]?) (ha : ∀ B, a = some B → w'.heap[B]? = w.heap[B]?) (hq : ∀ q ∈ S, w'.heap[q.blk]? = w.heap[q.blk]?) : SpAt w' p a c S := by
  refine ⟨hp.trans h.head, ?_, fun q hqS => ?_, h.nodup, h.apart, h.self, h.inv, h.few⟩
  · have hr := h.row
    cases a with
    | none => exact hr
    | some B => obtain ⟨cur, hB, r⟩ := hr; exact ⟨cur, (ha B rfl).trans hB, r⟩
  · obtain ⟨sp, hb, r⟩ := h.bytes q hqS
    exact ⟨sp, (hq q hqS).trans hb, r⟩
theorem SpAt.lt {w : World} {p : Nat} {a : Option Nat} {c : Nat} {S : List Pt} (h : SpAt w p a c S) : (∀ B, a = some B → B < w.heap.size) ∧ ∀ q ∈ S, q.blk < w.heap.size := by
  refine ⟨fun B hB => ?_, fun q hq => ?_⟩
  · subst hB; obtain ⟨cur, hB, _⟩ := h.row; exact lt_of_heap hB
  · obtain ⟨sp, hb, _⟩ := h.bytes q hq; exact lt_of_heap hb
theorem SpAt.below {w w' : World} {p : Nat} {a : Option Nat} {c : Nat} {S : List Pt} (h : SpAt w p a c S) (hb : Below w.heap.size w w') : SpAt w' p a c S :=
  h.mono (hb.block p h.plt) (fun B hB => hb.block B (h.lt.1 B hB)) (fun q hq => hb.block q.blk (h.lt.2 q hq))
theorem SpAt.search {w : World} {p : Nat} {a : Option Nat} {c : Nat} {S : List Pt} (h : SpAt w p a c S) (t : Int) :
    Calls Tryz.prog 40 #[.pointer (some ⟨p, 0, none⟩), .int .i64 t] w fun e w' => ∃ k, Lo (ptKey S) S.length t k ∧ e = .returned (.tuple #[.int .i64 k, .bool (decide (k < S.length ∧ ptKey S k = t))]) ∧ Below w.heap.size w w' :=
  search_any p (adr a) S.length c t (ptKey S) w h.pcell (by have := h.few; omega) h.part6 h.inv.key_le
end Go.Proofs.YtpgcoceggacplaaGreatDoor
