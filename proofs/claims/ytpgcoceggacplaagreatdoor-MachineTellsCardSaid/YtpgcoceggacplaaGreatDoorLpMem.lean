/- The pure memory of a space: a list of areas with their bytes. -/
import Derived.Test.YtpgcoceggacplaaGreatDoorLpSp6
set_option linter.unusedVariables false
set_option linter.unusedSimpArgs false
set_option maxRecDepth 20000
namespace Go.Lp
open Go.RowKit Go.Proofs.YtpgcoceggacplaaGreatDoor
abbrev Cell := Ar × List UInt8
abbrev Mem := List Cell
def mem (S : List Pt) : Mem := S.map fun q => (q.ar, q.bytes)
@[simp] theorem mem_length (S : List Pt) : (mem S).length = S.length := by simp [mem]
def mfind (M : Mem) (at_ size : Int) : Option Cell := M.find? fun x => holds at_ size x.1
theorem mfind_mem (S : List Pt) (at_ size : Int) : mfind (mem S) at_ size = (pfind S at_ size).map fun q => (q.ar, q.bytes) := by
  unfold mfind mem pfind
  rw [List.find?_map]; rfl
theorem pfind_of {S : List Pt} {at_ size : Int} {x : Cell} (h : mfind (mem S) at_ size = some x) : ∃ q, pfind S at_ size = some q ∧ x = (q.ar, q.bytes) := by
  rw [mfind_mem] at h
  cases hq : pfind S at_ size with
  | none => rw [hq] at h; cases h
  | some q => rw [hq] at h; exact ⟨q, rfl, by injection h with h; exact h.symm⟩
theorem pfind_none_of {S : List Pt} {at_ size : Int} (h : mfind (mem S) at_ size = none) : pfind S at_ size = none := by
  rw [mfind_mem] at h
  cases hq : pfind S at_ size with
  | none => rfl
  | some q => rw [hq] at h; cases h
structure MInv (M : Mem) : Prop where
  right : ∀ x ∈ M, rightA x.1 = true
  asc : M.Pairwise fun x y => x.1.at_ + x.1.size ≤ y.1.at_
  len : ∀ x ∈ M, (x.2.length : Int) = x.1.size
theorem inv_mem {S : List Pt} : Inv S ↔ MInv (mem S) := by
  constructor
  · intro h
    refine ⟨fun x hx => ?_, ?_, fun x hx => ?_⟩
    · obtain ⟨q, hq, rfl⟩ := List.mem_map.1 hx; exact h.right q hq
    · unfold mem; rw [List.pairwise_map]; exact h.asc
    · obtain ⟨q, hq, rfl⟩ := List.mem_map.1 hx; exact h.len q hq
  · intro h
    have ha := h.asc
    unfold mem at ha; rw [List.pairwise_map] at ha
    exact ⟨fun q hq => h.right _ (List.mem_map.2 ⟨q, hq, rfl⟩), ha, fun q hq => h.len _ (List.mem_map.2 ⟨q, hq, rfl⟩)⟩
def updM (M : Mem) (t : Int) (bs : List UInt8) : Mem := M.map fun x => if x.1.at_ = t then (x.1, bs) else x
theorem mem_updAt (S : List Pt) (t : Int) (bs : List UInt8) : mem (updAt S t bs) = updM (mem S) t bs := by
  unfold mem updAt updM
  rw [List.map_map, List.map_map]
  apply List.map_congr_left
  intro x _
  simp only [Function.comp]
  split <;> rfl
/-- the error of an access -/
def accM (M : Mem) (at_ size : Int) : Int :=
  if size ≠ 1 ∧ size ≠ 8 then 1 else if size = 8 ∧ at_ % 8 ≠ 0 then 6 else if mfind M at_ size = none then 6 else 0
def rng (x : Cell) (at_ size : Int) : List UInt8 := (x.2.drop (at_ - x.1.at_).toNat).take size.toNat
def loadM (M : Mem) (at_ size : Int) : Int × Int :=
  if accM M at_ size ≠ 0 then (0, accM M at_ size) else match mfind M at_ size with
    | some x => (getI (rng x at_ size) size.toNat (decide (size = 8)), 0)
    | none => (0, 6)
def storeM (M : Mem) (at_ size n : Int) : Mem × Int :=
  if accM M at_ size ≠ 0 then (M, accM M at_ size) else match mfind M at_ size with
    | some x => if x.1.kind = 0 then (M, 5) else (updM M x.1.at_ (splice x.2 (at_ - x.1.at_).toNat (numBytes n size.toNat)), 0)
    | none => (M, 6)
def readM (M : Mem) (at_ size : Int) : List UInt8 × Int :=
  if size < 0 then ([], 1) else if size = 0 then ([], 0) else match mfind M at_ size with
    | some x => (rng x at_ size, 0)
    | none => ([], 6)
def writeM (M : Mem) (at_ : Int) (b : List UInt8) : Mem × Int :=
  if b = [] then (M, 0) else match mfind M at_ b.length with
    | some x => (updM M x.1.at_ (splice x.2 (at_ - x.1.at_).toNat b), 0)
    | none => (M, 6)
def areaM (M : Mem) (at_ : Int) : Ar × Bool :=
  match mfind M at_ 1 with
  | some x => (x.1, true)
  | none => (⟨0, 0, 0, 0, 0⟩, false)
def meets (a : Ar) (x : Cell) : Bool := decide (x.1.at_ < a.at_ + a.size) && decide (a.at_ < x.1.at_ + x.1.size)
def mapM (M : Mem) (a : Ar) : Mem × Int :=
  if rightA a = false then (M, 1) else if M.any (meets a) then (M, 4) else if 4096 ≤ M.length then (M, 7) else
    (M.filter (fun x => decide (x.1.at_ < a.at_)) ++ [(a, List.replicate a.size.toNat 0)] ++ M.filter (fun x => !decide (x.1.at_ < a.at_)), 0)
def unmapM (M : Mem) (at_ : Int) : Mem × Int :=
  if M.any (fun x => decide (x.1.at_ = at_)) then (M.filter (fun x => !decide (x.1.at_ = at_)), 0) else (M, 9)
theorem MInv.pair {M : Mem} (h : MInv M) {x y : Cell} (hx : x ∈ M) (hy : y ∈ M) (he : x.1.at_ = y.1.at_) : x = y := by
  obtain ⟨i, hi, rfl⟩ := List.getElem_of_mem hx
  obtain ⟨j, hj, rfl⟩ := List.getElem_of_mem hy
  rcases Nat.lt_trichotomy i j with hlt | rfl | hlt
  · have := List.pairwise_iff_getElem.1 h.asc i j hi hj hlt
    have := rightA_iff.1 (h.right _ (List.getElem_mem hi))
    omega
  · rfl
  · have := List.pairwise_iff_getElem.1 h.asc j i hj hi hlt
    have := rightA_iff.1 (h.right _ (List.getElem_mem hj))
    omega
/-- the blocks that a space holds -/
def foot (p : Nat) (a : Option Nat) (S : List Pt) : List Nat := p :: (a.toList ++ S.map Pt.blk)
/-- w' is w but for the blocks of F and new ones -/
structure Keep (F : List Nat) (w w' : World) : Prop where
  os : w'.os = w.os
  tape : w'.tape = w.tape
  output : w'.output = w.output
  size : w.heap.size ≤ w'.heap.size
  block : ∀ k, k < w.heap.size → k ∉ F → w'.heap[k]? = w.heap[k]?
theorem Keep.refl (F : List Nat) (w : World) : Keep F w w := ⟨rfl, rfl, rfl, Nat.le_refl _, fun _ _ _ => rfl⟩
theorem Keep.of_below {F : List Nat} {w w' : World} (h : Below w.heap.size w w') : Keep F w w' := ⟨h.os, h.tape, h.output, h.size, fun k hk _ => h.block k hk⟩
theorem Keep.of_upd {F : List Nat} {g : Nat} {w w' : World} (h : Upd g w w') (hg : g ∈ F) : Keep F w w' := ⟨h.os, h.tape, h.output, h.size, fun k hk hn => h.block k hk (fun e => hn (e ▸ hg))⟩
/-- the blocks of G are blocks of F or new -/
def Grew (w : World) (F G : List Nat) : Prop := ∀ k ∈ G, k ∈ F ∨ w.heap.size ≤ k
theorem Grew.refl (w : World) (F : List Nat) : Grew w F F := fun _ h => .inl h
theorem Keep.trans {F G : List Nat} {a b c : World} (h : Keep F a b) (k : Keep G b c) (hg : Grew a F G) : Keep F a c :=
  ⟨k.os.trans h.os, k.tape.trans h.tape, k.output.trans h.output, Nat.le_trans h.size k.size, fun i hi hn => (k.block i (Nat.lt_of_lt_of_le hi h.size) (fun hG => by
    rcases hg i hG with h1 | h1
    · exact hn h1
    · omega)).trans (h.block i hi hn)⟩
theorem Grew.trans {F G H : List Nat} {a b : World} (h : Grew a F G) (hs : a.heap.size ≤ b.heap.size) (k : Grew b G H) : Grew a F H := fun i hi => by
  rcases k i hi with h1 | h1
  · exact h i h1
  · exact .inr (by omega)
end Go.Lp
namespace Go.Proofs.YtpgcoceggacplaaGreatDoor
open Go.RowKit Go.Lp
/-- a space, by its memory -/
def Sp (w : World) (p : Nat) (F : List Nat) (M : Mem) : Prop := ∃ a c S, SpAt w p a c S ∧ F = foot p a S ∧ M = mem S
theorem Sp.inv {w : World} {p : Nat} {F : List Nat} {M : Mem} (h : Sp w p F M) : MInv M := by obtain ⟨a, c, S, h, rfl, rfl⟩ := h; exact inv_mem.1 h.inv
theorem Sp.few {w : World} {p : Nat} {F : List Nat} {M : Mem} (h : Sp w p F M) : M.length ≤ 4096 := by obtain ⟨a, c, S, h, rfl, rfl⟩ := h; simpa using h.few
theorem Sp.lt {w : World} {p : Nat} {F : List Nat} {M : Mem} (h : Sp w p F M) : ∀ k ∈ F, k < w.heap.size := by
  obtain ⟨a, c, S, h, rfl, rfl⟩ := h
  intro k hk
  simp only [foot, List.mem_cons, List.mem_append, Option.mem_toList, List.mem_map] at hk
  rcases hk with rfl | ha | ⟨q, hq, rfl⟩
  · exact h.plt
  · exact h.lt.1 k ha
  · exact h.lt.2 q hq
theorem Sp.keep {w w' : World} {p : Nat} {F G : List Nat} {M : Mem} (h : Sp w p F M) (hk : Keep G w w') (hd : ∀ k ∈ F, k ∉ G) : Sp w' p F M := by
  have hl := h.lt
  obtain ⟨a, c, S, h, rfl, rfl⟩ := h
  have hb : ∀ k ∈ foot p a S, w'.heap[k]? = w.heap[k]? := fun k hkF => hk.block k (hl k hkF) (hd k hkF)
  refine ⟨a, c, S, h.mono (hb p (by simp [foot])) (fun B hB => hb B (by simp [foot, hB])) (fun q hq => hb q.blk ?_), rfl, rfl⟩
  simp only [foot, List.mem_cons, List.mem_append, List.mem_map]
  exact .inr (.inr ⟨q, hq, rfl⟩)
theorem Sp.below {w w' : World} {p : Nat} {F : List Nat} {M : Mem} (h : Sp w p F M) (hb : Below w.heap.size w w') : Sp w' p F M := h.keep (G := []) (Keep.of_below hb) (fun _ _ h => by cases h)
/-- what an operation on a space leaves -/
def Done (w : World) (p : Nat) (F : List Nat) (M' : Mem) (w' : World) : Prop := ∃ F', Sp w' p F' M' ∧ Keep F w w' ∧ Grew w F F'
theorem Done.of_below {w w' : World} {p : Nat} {F : List Nat} {M : Mem} (h : Sp w p F M) (hb : Below w.heap.size w w') : Done w p F M w' := ⟨F, h.below hb, Keep.of_below hb, Grew.refl _ _⟩
end Go.Proofs.YtpgcoceggacplaaGreatDoor
