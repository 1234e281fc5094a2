/- Proved: for every setting, register and value the law MachineUses of the given program answers true and leaves what it was handed as it was; the card, tied to the program's text. Conditions: none but those in the given statement itself. -/
import Derived.Test.YtpgcoceggacplaaGreatDoorMgB
import Derived.Test.YtpgcoceggacplaaGreatDoorProg
import Derived.Ground.NamesProg
import Derived.Shelf.Sort.Plain
import Derived.Ground.Names2Prog
import Derived.Shelf.Slices.CompactI
import Derived.Test.YtpgcoceggacplaaGreatDoorMgD
import Derived.Shelf.Slices.In.SortNone
import Derived.Test.YtpgcoceggacplaaGreatDoorMgC
import Derived.Test.YtpgcoceggacplaaGreatDoorCards
import Derived.Test.YtpgcoceggacplaaGreatDoorTie
import Derived.SevenTiedAt
set_option linter.unusedVariables false
set_option linter.unusedSimpArgs false
set_option maxRecDepth 20000
namespace Go.Lp
open Go.RowKit Go.Proofs.YtpgcoceggacplaaGreatDoor
/-- the register that a letter stands for -/
def letReg (i : Ins) (ch : UInt8) : Int := if ch = 83 then 15 else i.fld ch
/-- what is not written stays -/
structure KeepR (k : Nat) (R0 R : Run) : Prop where
  i : R.i = R0.i
  c : R.c = R0.c
  r : R.nx.r k = R0.c.r k
theorem KeepR.put {k : Nat} {R0 R : Run} (h : KeepR k R0 R) (hk : R0.i.a ≠ k) (n : Int) : KeepR k R0 (R.put n) :=
  ⟨h.i, h.c, by show upd R.nx.r R.i.a n k = _; unfold upd; rw [if_neg (by rw [h.i]; omega)]; exact h.r⟩
theorem KeepR.ld {k : Nat} {R0 R : Run} (h : KeepR k R0 R) (M : Mem) (a s : Int) : KeepR k R0 (R.ld M a s) := ⟨h.i, h.c, h.r⟩
theorem KeepR.st {k : Nat} {R0 R : Run} (h : KeepR k R0 R) (M : Mem) (a s n : Int) : KeepR k R0 (R.st M a s n) := ⟨h.i, h.c, h.r⟩
theorem KeepR.to {k : Nat} {R0 R : Run} (h : KeepR k R0 R) (n : Int) : KeepR k R0 (R.to n) := ⟨h.i, h.c, h.r⟩
theorem KeepR.jump {k : Nat} {R0 R : Run} (h : KeepR k R0 R) (ok : Bool) : KeepR k R0 (R.jump ok) := by cases ok; exact h; exact h.to _
theorem KeepR.push {k : Nat} {R0 R : Run} (h : KeepR k R0 R) (hk : k ≠ 15) (M : Mem) (n : Int) : KeepR k R0 (R.push M n).1 :=
  ⟨h.i, h.c, by show upd R.nx.r 15 _ k = _; unfold upd; rw [if_neg hk]; exact h.r⟩
theorem KeepR.pop {k : Nat} {R0 R : Run} (h : KeepR k R0 R) (hk : k ≠ 15) (M : Mem) : KeepR k R0 (R.pop M) :=
  ⟨h.i, h.c, by show upd R.nx.r 15 _ k = _; unfold upd; rw [if_neg hk]; exact h.r⟩
theorem KeepR.slot {k : Nat} {R0 R : Run} (h : KeepR k R0 R) (M : Mem) (call : Bool) (hk : call = true → k ≠ 15) : KeepR k R0 (R.slot M call).1 := by
  unfold Run.slot
  dsimp only
  split
  · exact h.ld M _ _
  · split
    · exact ⟨h.i, h.c, by show R.c.r k = _; rw [h.c]⟩
    · split
      · rename_i hc; exact ((h.ld M _ _).push (hk hc) M _).to _
      · exact (h.ld M _ _).to _
theorem exec_keepA {k : Nat} {R : Run} (h : KeepR k R R) (M : Mem) : ∀ (o : Nat), (∀ ch ∈ writesL o, letReg R.i ch ≠ k) → KeepR k R (R.exec M o).1 := by
  intro o ho
  match o with
  | 0 | 1 => exact h
  | 2 => exact ⟨h.i, h.c, h.r⟩
  | 3 | 4 | 5 | 6 | 7 | 8 | 9 | 10 | 11 | 12 | 13 | 14 =>
    have := ho 65 (by decide)
    exact h.put (fun e => this (by show ((R.i.a : Nat) : Int) = k; rw [e])) _
  | 15 | 16 =>
    have := ho 65 (by decide)
    exact (h.ld M _ _).put (fun e => this (by show ((R.i.a : Nat) : Int) = k; rw [e])) _
  | 17 | 18 => exact h.st M _ _ _
  | 19 => exact h.jump true
  | 20 | 21 => exact h.jump _
  | 22 =>
    have := ho 83 (by decide)
    exact (h.push (fun e => this (by rw [e]; rfl)) M _).jump true
  | 23 =>
    have := ho 83 (by decide)
    exact (h.push (fun e => this (by rw [e]; rfl)) M _).to _
  | 24 =>
    have := ho 83 (by decide)
    exact h.slot M true (fun _ e => this (by rw [e]; rfl))
  | 25 => exact h.slot M false (fun e => by cases e)
  | 26 =>
    have := ho 83 (by decide)
    exact (h.pop (fun e => this (by rw [e]; rfl)) M).to _
  | 27 =>
    have := ho 83 (by decide)
    exact h.push (fun e => this (by rw [e]; rfl)) M _
  | 28 =>
    have h1 := ho 65 (by decide)
    have h2 := ho 83 (by decide)
    exact (h.pop (fun e => h2 (by rw [e]; rfl)) M).put (fun e => h1 (by show ((R.i.a : Nat) : Int) = k; rw [e])) _
  | 29 =>
    have := ho 65 (by decide)
    have h1 := h.put (fun e => this (by show ((R.i.a : Nat) : Int) = k; rw [e])) R.b
    exact ⟨h1.i, h1.c, h1.r⟩
  | 30 => exact ⟨h.i, h.c, h.r⟩
  | _ + 31 => exact h
/-- two runs that differ at a register -/
structure Sim (g : Nat) (v : Int) (c : Cpu) (R R2 : Run) : Prop where
  i : R2.i = R.i
  c1 : R.c = c
  c2 : R2.c = c.set g v
  pc : R2.nx.pc = R.nx.pc
  ek : R2.ek = R.ek
  en : R2.en = R.en
  bad : R2.bad = R.bad
  oth : ∀ k, k ≠ g → R2.nx.r k = R.nx.r k
  own : R.nx.r g = c.r g ∧ R2.nx.r g = v ∨ R2.nx.r g = R.nx.r g
section
variable {g : Nat} {v : Int} {c : Cpu} {R R2 : Run}
theorem Sim.put (h : Sim g v c R R2) (n : Int) : Sim g v c (R.put n) (R2.put n) where
  i := h.i
  c1 := h.c1
  c2 := h.c2
  pc := h.pc
  ek := h.ek
  en := h.en
  bad := h.bad
  oth k hk := by
    show upd R2.nx.r R2.i.a n k = upd R.nx.r R.i.a n k
    rw [h.i]; unfold upd; rw [h.oth k hk]
  own := by
    show upd R.nx.r R.i.a n g = _ ∧ upd R2.nx.r R2.i.a n g = v ∨ upd R2.nx.r R2.i.a n g = upd R.nx.r R.i.a n g
    rw [h.i]
    by_cases e : g = R.i.a
    · right; unfold upd; rw [if_pos e, if_pos e]
    · unfold upd; rw [if_neg e, if_neg e]; exact h.own
theorem Sim.spset (h : Sim g v c R R2) (n : Int) : Sim g v c { R with nx := R.nx.set 15 n } { R2 with nx := R2.nx.set 15 n } where
  i := h.i
  c1 := h.c1
  c2 := h.c2
  pc := h.pc
  ek := h.ek
  en := h.en
  bad := h.bad
  oth k hk := by
    show upd R2.nx.r 15 n k = upd R.nx.r 15 n k
    unfold upd; rw [h.oth k hk]
  own := by
    show upd R.nx.r 15 n g = _ ∧ upd R2.nx.r 15 n g = v ∨ upd R2.nx.r 15 n g = upd R.nx.r 15 n g
    by_cases e : g = 15
    · right; unfold upd; rw [if_pos e, if_pos e]
    · unfold upd; rw [if_neg e, if_neg e]; exact h.own
theorem Sim.ld (h : Sim g v c R R2) (M : Mem) (a s : Int) : Sim g v c (R.ld M a s) (R2.ld M a s) := ⟨h.i, h.c1, h.c2, h.pc, h.ek, h.en, rfl, h.oth, h.own⟩
theorem Sim.st (h : Sim g v c R R2) (M : Mem) (a s n : Int) : Sim g v c (R.st M a s n) (R2.st M a s n) := ⟨h.i, h.c1, h.c2, h.pc, h.ek, h.en, rfl, h.oth, h.own⟩
theorem Sim.to (h : Sim g v c R R2) (n : Int) : Sim g v c (R.to n) (R2.to n) := ⟨h.i, h.c1, h.c2, rfl, h.ek, h.en, h.bad, h.oth, h.own⟩
theorem Sim.cpc (h : Sim g v c R R2) : R2.c.pc = R.c.pc := by rw [h.c1, h.c2]; rfl
theorem Sim.reg (h : Sim g v c R R2) {k : Nat} (hk : k ≠ g) : R2.c.r k = R.c.r k := by rw [h.c1, h.c2]; show upd c.r g v k = _; unfold upd; rw [if_neg hk]
theorem Sim.jump (h : Sim g v c R R2) (ok : Bool) : Sim g v c (R.jump ok) (R2.jump ok) := by
  cases ok
  · exact h
  · show Sim g v c (R.to (w64 (R.c.pc + R.i.imm))) (R2.to (w64 (R2.c.pc + R2.i.imm)))
    rw [h.cpc, h.i]; exact h.to _
theorem Sim.push (h : Sim g v c R R2) (hg : g ≠ 15) (M : Mem) (n : Int) : Sim g v c (R.push M n).1 (R2.push M n).1 ∧ (R2.push M n).2 = (R.push M n).2 := by
  unfold Run.push
  dsimp only
  rw [h.reg (k := 15) (Ne.symm hg)]
  exact ⟨(h.spset _).st M _ _ _, rfl⟩
theorem Sim.pop (h : Sim g v c R R2) (hg : g ≠ 15) (M : Mem) : Sim g v c (R.pop M) (R2.pop M) := by
  unfold Run.pop
  rw [h.reg (k := 15) (Ne.symm hg)]
  exact (h.spset _).ld M _ _
theorem Sim.slot (h : Sim g v c R R2) (M : Mem) (call : Bool) (hg : call = true → g ≠ 15) : Sim g v c (R.slot M call).1 (R2.slot M call).1 ∧ (R2.slot M call).2 = (R.slot M call).2 := by
  have hp := h.cpc
  have hi := h.i
  have hl := h.ld M (w64 (R.c.pc + R.i.imm)) 8
  have e2 : (R2.ld M (w64 (R.c.pc + R.i.imm)) 8).bad = (R.ld M (w64 (R.c.pc + R.i.imm)) 8).bad := rfl
  unfold Run.slot
  dsimp only
  rw [hp, hi, e2]
  split
  · exact ⟨hl, rfl⟩
  · split
    · refine ⟨⟨h.i, h.c1, h.c2, ?_, rfl, rfl, rfl, fun k hk => h.reg hk, .inl ⟨?_, ?_⟩⟩, rfl⟩
      · exact hp
      · show R.c.r g = _; rw [h.c1]
      · show R2.c.r g = _; rw [h.c2]; show upd c.r g v g = v; unfold upd; rw [if_pos rfl]
    · split
      · rename_i hc
        have e3 : (R2.ld M (w64 (R.c.pc + R.i.imm)) 8).c.pc = (R.ld M (w64 (R.c.pc + R.i.imm)) 8).c.pc := hp
        have := hl.push (hg hc) M (w64 ((R.ld M (w64 (R.c.pc + R.i.imm)) 8).c.pc + 8))
        rw [e3]
        exact ⟨this.1.to _, this.2⟩
      · exact ⟨hl.to _, rfl⟩
def hi4 (a imm : Int) : Int := orI (andI a 4294967295) (w64 (imm * 2 ^ min 32 64))
theorem exec4 (R : Run) (M : Mem) : R.exec M 4 = (R.put (hi4 R.a R.i.imm), M) := rfl
theorem exec_sim4 (h : Sim g v c R R2) (M : Mem) (ha : R2.a = R.a) : Sim g v c (R.exec M 4).1 (R2.exec M 4).1 ∧ (R2.exec M 4).2 = (R.exec M 4).2 := by
  rw [exec4, exec4, ha, h.i]
  exact ⟨h.put _, rfl⟩
theorem ex15 (R : Run) (M : Mem) : R.exec M 15 = ((R.ld M (w64 (R.b + R.i.imm)) 8).put (loadM M (w64 (R.b + R.i.imm)) 8).1, M) := rfl
theorem ex16 (R : Run) (M : Mem) : R.exec M 16 = ((R.ld M (w64 (R.b + R.i.imm)) 1).put (loadM M (w64 (R.b + R.i.imm)) 1).1, M) := rfl
theorem ex17 (R : Run) (M : Mem) : R.exec M 17 = (R.st M (w64 (R.b + R.i.imm)) 8 R.a, (storeM M (w64 (R.b + R.i.imm)) 8 R.a).1) := rfl
theorem ex18 (R : Run) (M : Mem) : R.exec M 18 = (R.st M (w64 (R.b + R.i.imm)) 1 R.a, (storeM M (w64 (R.b + R.i.imm)) 1 R.a).1) := rfl
theorem ex26 (R : Run) (M : Mem) : R.exec M 26 = ((R.pop M).to (loadM M (R.c.r 15) 8).1, M) := rfl
theorem ex27 (R : Run) (M : Mem) : R.exec M 27 = R.push M R.a := rfl
theorem ex28 (R : Run) (M : Mem) : R.exec M 28 = ((R.pop M).put (loadM M (R.c.r 15) 8).1, M) := rfl
theorem ex13 (R : Run) (M : Mem) : R.exec M 13 = (R.put (w64 (R.b + R.i.imm)), M) := rfl
theorem ex14 (R : Run) (M : Mem) : R.exec M 14 = (R.put (w64 (R.c.pc + R.i.imm)), M) := rfl
theorem ex29 (R : Run) (M : Mem) : R.exec M 29 = ({ R.put R.b with ek := 2, en := w64 (8 + R.i.a) }, M) := rfl
theorem ex30 (R : Run) (M : Mem) : R.exec M 30 = ({ R with ek := 2, en := R.i.imm }, M) := rfl
theorem ex9 (R : Run) (M : Mem) : R.exec M 9 = (R.put (andI R.b R.cc), M) := rfl
theorem ex10 (R : Run) (M : Mem) : R.exec M 10 = (R.put (orI R.b R.cc), M) := rfl
theorem exec_sim (h : Sim g v c R R2) (M : Mem) : ∀ (o : Nat), (∀ ch ∈ readsL o, letReg R.i ch ≠ g) → Sim g v c (R.exec M o).1 (R2.exec M o).1 ∧ (R2.exec M o).2 = (R.exec M o).2 := by
  intro o ho
  have ha : (65 : UInt8) ∈ readsL o → R2.a = R.a := fun hm => by
    show R2.c.r R2.i.a = R.c.r R.i.a
    rw [h.i]; exact h.reg fun e => ho 65 hm (by show ((R.i.a : Nat) : Int) = g; rw [e])
  have hb : (66 : UInt8) ∈ readsL o → R2.b = R.b := fun hm => by
    show R2.c.r R2.i.b = R.c.r R.i.b
    rw [h.i]; exact h.reg fun e => ho 66 hm (by show ((R.i.b : Nat) : Int) = g; rw [e])
  have hc : (67 : UInt8) ∈ readsL o → R2.cc = R.cc := fun hm => by
    show R2.c.r R2.i.c = R.c.r R.i.c
    rw [h.i]; exact h.reg fun e => ho 67 hm (by show ((R.i.c : Nat) : Int) = g; rw [e])
  have hs : (83 : UInt8) ∈ readsL o → g ≠ 15 := fun hm e => ho 83 hm (by rw [e]; rfl)
  have hi := h.i
  have hp := h.cpc
  match o with
  | 0 | 1 => exact ⟨h, rfl⟩
  | 2 => exact ⟨⟨h.i, h.c1, h.c2, h.pc, rfl, h.en, h.bad, h.oth, h.own⟩, rfl⟩
  | 3 => exact ⟨by show Sim g v c (R.put R.i.imm) (R2.put R2.i.imm); rw [hi]; exact h.put _, rfl⟩
  | 4 => exact exec_sim4 h M (ha (by decide))
  | 5 => exact ⟨by show Sim g v c (R.put R.b) (R2.put R2.b); rw [hb (by decide)]; exact h.put _, rfl⟩
  | 6 => exact ⟨by show Sim g v c (R.put (w64 (R.b + R.cc))) (R2.put (w64 (R2.b + R2.cc))); rw [hb (by decide), hc (by decide)]; exact h.put _, rfl⟩
  | 7 => exact ⟨by show Sim g v c (R.put (w64 (R.b - R.cc))) (R2.put (w64 (R2.b - R2.cc))); rw [hb (by decide), hc (by decide)]; exact h.put _, rfl⟩
  | 8 => exact ⟨by show Sim g v c (R.put (w64 (R.b * R.cc))) (R2.put (w64 (R2.b * R2.cc))); rw [hb (by decide), hc (by decide)]; exact h.put _, rfl⟩
  | 9 => rw [ex9, ex9, hb (by decide), hc (by decide)]; exact ⟨h.put _, rfl⟩
  | 10 => rw [ex10, ex10, hb (by decide), hc (by decide)]; exact ⟨h.put _, rfl⟩
  | 11 => exact ⟨by show Sim g v c (R.put (truthI (decide (R.b < R.cc)))) (R2.put (truthI (decide (R2.b < R2.cc)))); rw [hb (by decide), hc (by decide)]; exact h.put _, rfl⟩
  | 12 => exact ⟨by show Sim g v c (R.put (truthI (decide (R.b = R.cc)))) (R2.put (truthI (decide (R2.b = R2.cc)))); rw [hb (by decide), hc (by decide)]; exact h.put _, rfl⟩
  | 13 => rw [ex13, ex13, hb (by decide), hi]; exact ⟨h.put _, rfl⟩
  | 14 => rw [ex14, ex14, hp, hi]; exact ⟨h.put _, rfl⟩
  | 15 => rw [ex15, ex15, hb (by decide), hi]; exact ⟨(h.ld M _ _).put _, rfl⟩
  | 16 => rw [ex16, ex16, hb (by decide), hi]; exact ⟨(h.ld M _ _).put _, rfl⟩
  | 17 => rw [ex17, ex17, ha (by decide), hb (by decide), hi]; exact ⟨h.st M _ _ _, rfl⟩
  | 18 => rw [ex18, ex18, ha (by decide), hb (by decide), hi]; exact ⟨h.st M _ _ _, rfl⟩
  | 19 => exact ⟨h.jump true, rfl⟩
  | 20 => exact ⟨by show Sim g v c (R.jump (decide (R.a = 0))) (R2.jump (decide (R2.a = 0))); rw [ha (by decide)]; exact h.jump _, rfl⟩
  | 21 => exact ⟨by show Sim g v c (R.jump (!decide (R.a = 0))) (R2.jump (!decide (R2.a = 0))); rw [ha (by decide)]; exact h.jump _, rfl⟩
  | 22 => 
    show Sim g v c ((R.push M (w64 (R.c.pc + 8))).1.jump true) ((R2.push M (w64 (R2.c.pc + 8))).1.jump true) ∧ (R2.push M (w64 (R2.c.pc + 8))).2 = (R.push M (w64 (R.c.pc + 8))).2
    rw [hp]; exact ⟨(h.push (hs (by decide)) M _).1.jump true, (h.push (hs (by decide)) M _).2⟩
  | 23 => 
    show Sim g v c ((R.push M (w64 (R.c.pc + 8))).1.to R.a) ((R2.push M (w64 (R2.c.pc + 8))).1.to R2.a) ∧ (R2.push M (w64 (R2.c.pc + 8))).2 = (R.push M (w64 (R.c.pc + 8))).2
    rw [hp, ha (by decide)]; exact ⟨(h.push (hs (by decide)) M _).1.to _, (h.push (hs (by decide)) M _).2⟩
  | 24 => exact h.slot M true (fun _ => hs (by decide))
  | 25 => exact h.slot M false (fun e => by cases e)
  | 26 => rw [ex26, ex26, h.reg (k := 15) (Ne.symm (hs (by decide)))]; exact ⟨(h.pop (hs (by decide)) M).to _, rfl⟩
  | 27 => rw [ex27, ex27, ha (by decide)]; exact h.push (hs (by decide)) M _
  | 28 => rw [ex28, ex28, h.reg (k := 15) (Ne.symm (hs (by decide)))]; exact ⟨(h.pop (hs (by decide)) M).put _, rfl⟩
  | 29 =>
    have h1 := h.put R.b
    rw [ex29, ex29, hb (by decide), hi]
    exact ⟨⟨h1.i, h1.c1, h1.c2, h1.pc, rfl, rfl, h1.bad, h1.oth, h1.own⟩, rfl⟩
  | 30 => exact ⟨⟨h.i, h.c1, h.c2, h.pc, rfl, by show R2.i.imm = R.i.imm; rw [hi], h.bad, h.oth, h.own⟩, rfl⟩
  | _ + 31 => exact ⟨h, rfl⟩
end
/-- a register that is not written keeps its value -/
theorem step_keep {M : Mem} {c : Cpu} {i : Ins} (hd : decI (readM M c.pc 8).1 = some i) {k : Nat} (hk : ∀ ch ∈ writesL i.op, letReg i ch ≠ k) : (stepM M c).1.r k = c.r k := by
  unfold stepM
  split
  · rfl
  · split
    · rfl
    · rename_i j e hf
      have hj := (fetch_some hf).2.2.1
      rw [hd] at hj
      obtain rfl := Option.some.inj hj
      split
      · rfl
      · exact (exec_keepA (k := k) (R := run0 0 i c) ⟨rfl, rfl, rfl⟩ M i.op hk).r
/-- another value in a register that is not read -/
theorem step_sim {M : Mem} {c : Cpu} {i : Ins} (hd : decI (readM M c.pc 8).1 = some i) {g : Nat} {v : Int} (hg : ∀ ch ∈ readsL i.op, letReg i ch ≠ g) :
    (stepM M (c.set g v)).2 = (stepM M c).2 ∧ (stepM M (c.set g v)).1.pc = (stepM M c).1.pc ∧ (∀ k, k ≠ g → (stepM M (c.set g v)).1.r k = (stepM M c).1.r k) ∧
    ((stepM M c).1.r g = c.r g ∧ (stepM M (c.set g v)).1.r g = v ∨ (stepM M (c.set g v)).1.r g = (stepM M c).1.r g) := by
  have hsame : (c.set g v).pc = c.pc ∧ (∀ k, k ≠ g → (c.set g v).r k = c.r k) ∧ (c.set g v).r g = v :=
    ⟨rfl, fun k hk => by show upd c.r g v k = _; unfold upd; rw [if_neg hk], by show upd c.r g v g = _; unfold upd; rw [if_pos rfl]⟩
  have same : ∀ x : (Int × Int) × Mem, ((c.set g v, x) : Cpu × (Int × Int) × Mem).2 = (c, x).2 ∧ (c.set g v).pc = c.pc ∧ (∀ k, k ≠ g → (c.set g v).r k = c.r k) ∧
    (c.r g = c.r g ∧ (c.set g v).r g = v ∨ (c.set g v).r g = c.r g) := fun x => ⟨rfl, hsame.1, hsame.2.1, .inl ⟨rfl, hsame.2.2⟩⟩
  have hpc : (c.set g v).pc = c.pc := rfl
  unfold stepM
  rw [hpc]
  split
  · exact same _
  · split
    · exact same _
    · rename_i j e hf
      have hj := (fetch_some hf).2.2.1
      rw [hd] at hj
      obtain rfl := Option.some.inj hj
      have h0 : Sim g v c (run0 0 i c) (run0 0 i (c.set g v)) := ⟨rfl, rfl, rfl, rfl, rfl, rfl, rfl, fun k hk => hsame.2.1 k hk, .inl ⟨rfl, hsame.2.2⟩⟩
      obtain ⟨h1, h2⟩ := exec_sim h0 M i.op hg
      rw [h1.bad, h2]
      split
      · exact same _
      · refine ⟨?_, h1.pc, h1.oth, h1.own⟩
        show (((((run0 0 i (c.set g v)).exec M i.op).1.ek, ((run0 0 i (c.set g v)).exec M i.op).1.en), ((run0 0 i c).exec M i.op).2) : (Int × Int) × Mem) = _
        rw [h1.ek, h1.en]
end Go.Lp
namespace Go.Proofs
open Go.Shelf
def Tryz.lays189_ren : Go.Shelf.Ren := ⟨fun | 189 => 94 | 125 => 111 | 257 => 110 | 128 => 130 | 129 => 131 | 294 => 121 | 295 => 122 | 296 => 123 | 297 => 124 | 298 => 125 | 299 => 126 | 216 => 127 | 300 => 128 | 301 => 129 | 328 => 133 | 329 => 134 | 330 => 135 | 331 => 136 | 332 => 137 | 215 => 116 | 343 => 138 | n => n, fun | 28 => 22 | 3 => 3 | 46 => 105 | 0 => 0 | 51 => 144 | 53 => 115 | 4 => 4 | 183 => 137 | 182 => 136 | 131 => 71 | 5 => 5 | 9 => 9 | 218 => 147 | 222 => 116 | 228 => 152 | 229 => 153 | n => n, fun | n => n⟩
theorem Tryz.lays189 : Go.Proofs.Lays.n189 Tryz.prog Tryz.lays189_ren := {
  mixed := by kernel_rfl
  f125 := Tryz.func111.trans (congrArg some (by kernel_rfl))
  f128 := Tryz.func130.trans (congrArg some (by kernel_rfl))
  f129 := Tryz.func131.trans (congrArg some (by kernel_rfl))
  f189 := Tryz.func94.trans (congrArg some (by kernel_rfl))
  f215 := Tryz.func116.trans (congrArg some (by kernel_rfl))
  f216 := Tryz.func127.trans (congrArg some (by kernel_rfl))
  f257 := Tryz.func110.trans (congrArg some (by kernel_rfl))
  f294 := Tryz.func121.trans (congrArg some (by kernel_rfl))
  f295 := Tryz.func122.trans (congrArg some (by kernel_rfl))
  f296 := Tryz.func123.trans (congrArg some (by kernel_rfl))
  f297 := Tryz.func124.trans (congrArg some (by kernel_rfl))
  f298 := Tryz.func125.trans (congrArg some (by kernel_rfl))
  f299 := Tryz.func126.trans (congrArg some (by kernel_rfl))
  f300 := Tryz.func128.trans (congrArg some (by kernel_rfl))
  f301 := Tryz.func129.trans (congrArg some (by kernel_rfl))
  f328 := Tryz.func133.trans (congrArg some (by kernel_rfl))
  f329 := Tryz.func134.trans (congrArg some (by kernel_rfl))
  f330 := Tryz.func135.trans (congrArg some (by kernel_rfl))
  f331 := Tryz.func136.trans (congrArg some (by kernel_rfl))
  f332 := Tryz.func137.trans (congrArg some (by kernel_rfl))
  f343 := Tryz.func138.trans (congrArg some (by kernel_rfl))
  t0 := Tryz.underlying0
  a0 := Tryz.isAgg0
  z0 := Tryz.sizeOf0
  v0 := Tryz.zeroValue0
  t3 := Tryz.underlying3
  a3 := Tryz.isAgg3
  z3 := Tryz.sizeOf3
  v3 := Tryz.zeroValue3
  t4 := Tryz.underlying4
  a4 := Tryz.isAgg4
  z4 := Tryz.sizeOf4
  v4 := Tryz.zeroValue4
  t5 := Tryz.underlying5
  a5 := Tryz.isAgg5
  z5 := Tryz.sizeOf5
  v5 := Tryz.zeroValue5
  t9 := Tryz.underlying9
  a9 := Tryz.isAgg9
  z9 := Tryz.sizeOf9
  v9 := Tryz.zeroValue9
  t28 := Tryz.underlying22
  a28 := Tryz.isAgg22
  z28 := Tryz.sizeOf22
  v28 := Tryz.zeroValue22
  t46 := Tryz.underlying105
  a46 := Tryz.isAgg105
  z46 := Tryz.sizeOf105
  v46 := Tryz.zeroValue105
  t51 := Tryz.underlying144
  a51 := Tryz.isAgg144
  z51 := Tryz.sizeOf144
  v51 := Tryz.zeroValue144
  t53 := Tryz.underlying115
  a53 := Tryz.isAgg115
  z53 := Tryz.sizeOf115
  v53 := Tryz.zeroValue115
  t131 := Tryz.underlying71
  a131 := Tryz.isAgg71
  z131 := Tryz.sizeOf71
  v131 := Tryz.zeroValue71
  t182 := Tryz.underlying136
  a182 := Tryz.isAgg136
  z182 := Tryz.sizeOf136
  v182 := Tryz.zeroValue136
  t183 := Tryz.underlying137
  a183 := Tryz.isAgg137
  z183 := Tryz.sizeOf137
  v183 := Tryz.zeroValue137
  t218 := Tryz.underlying147
  a218 := Tryz.isAgg147
  z218 := Tryz.sizeOf147
  v218 := Tryz.zeroValue147
  t222 := Tryz.underlying116
  a222 := Tryz.isAgg116
  z222 := Tryz.sizeOf116
  v222 := Tryz.zeroValue116
  t228 := Tryz.underlying152
  a228 := Tryz.isAgg152
  z228 := Tryz.sizeOf152
  v228 := Tryz.zeroValue152
  t229 := Tryz.underlying153
  a229 := Tryz.isAgg153
  z229 := Tryz.sizeOf153
  v229 := Tryz.zeroValue153 }
def Tryz.lays20_ren : Go.Shelf.Ren := ⟨fun | 20 => 95 | n => n, fun | 22 => 22 | 3 => 3 | 4 => 4 | 0 => 0 | n => n, fun | n => n⟩
theorem Tryz.lays20 : Go.Proofs.Lays2.n20 Tryz.prog Tryz.lays20_ren := {
  mixed := by kernel_rfl
  f20 := Tryz.func95.trans (congrArg some (by kernel_rfl))
  t0 := Tryz.underlying0
  a0 := Tryz.isAgg0
  z0 := Tryz.sizeOf0
  v0 := Tryz.zeroValue0
  t3 := Tryz.underlying3
  a3 := Tryz.isAgg3
  z3 := Tryz.sizeOf3
  v3 := Tryz.zeroValue3
  t4 := Tryz.underlying4
  a4 := Tryz.isAgg4
  z4 := Tryz.sizeOf4
  v4 := Tryz.zeroValue4
  t22 := Tryz.underlying22
  a22 := Tryz.isAgg22
  z22 := Tryz.sizeOf22
  v22 := Tryz.zeroValue22
  i3 := by kernel_rfl }
end Go.Proofs
namespace Go.Lp
open Go.Sort
theorem mem_compact (zs : List Int) (z : Int) : z ∈ Lib.compact zs ↔ z ∈ zs := by
  have key : ∀ m, m ≤ zs.length → ∀ z, z ∈ Lib.compactUpTo zs.toArray m ↔ z ∈ zs.take m := by
    intro m
    induction m with
    | zero => intro _ z; simp [Lib.compactUpTo]
    | succ m ih =>
      intro hm z
      have hg : (zs.toArray)[m]! = zs[m]'(by omega) := by simp [show m < zs.length by omega]
      rw [Lib.compactUpTo_succ, List.mem_append, ih (by omega), List.take_add_one, List.mem_append, List.getElem?_eq_getElem (by omega)]
      by_cases hk : Lib.keeps zs.toArray m = true
      · rw [if_pos hk, hg]; rfl
      · rw [if_neg hk]
        have h0 : m ≠ 0 := fun e => hk (by subst e; exact Lib.keeps_lt_one _ 0 (by omega))
        have he : (zs.toArray)[m]! = (zs.toArray)[m - 1]! := Decidable.byContradiction fun h => hk (Lib.keeps_pos h)
        have hg1 : (zs.toArray)[m - 1]! = zs[m - 1]'(by omega) := by simp [show m - 1 < zs.length by omega]
        rw [hg, hg1] at he
        constructor
        · rintro (h | h)
          · exact .inl h
          · cases h
        · rintro (h | h)
          · exact .inl h
          · left
            simp only [Option.toList_some, List.mem_singleton] at h
            rw [h, he]
            exact List.mem_take_iff_getElem.2 ⟨m - 1, by omega, rfl⟩
  have := key zs.length (Nat.le_refl _) z
  rw [List.take_length] at this
  exact this
def callsN : List (Nat × Nat) := [(0, 0), (1, 0), (1, 1), (2, 1), (0, 0), (3, 1), (1, 1), (3, 1)]
def callsV : List Value := callsN.flatMap fun p => [.int .i64 p.1, .int .i64 p.2]
def callR (k : Nat) : Nat := (callsN.getD k (0, 0)).1
def callW (k : Nat) : Nat := (callsN.getD k (0, 0)).2
theorem eight {k : Nat} (h : k < 8) : k = 0 ∨ k = 1 ∨ k = 2 ∨ k = 3 ∨ k = 4 ∨ k = 5 ∨ k = 6 ∨ k = 7 := by omega
theorem calls_R {k : Nat} (h : k < 8) : callsV[k * 2]? = some (.int .i64 (callR k)) ∧ callR k ≤ 3 := by
  rcases eight h with rfl | rfl | rfl | rfl | rfl | rfl | rfl | rfl <;> exact ⟨rfl, by decide⟩
theorem calls_W {k : Nat} (h : k < 8) : callsV[k * 2 + 1]? = some (.int .i64 (callW k)) ∧ callW k ≤ 1 := by
  rcases eight h with rfl | rfl | rfl | rfl | rfl | rfl | rfl | rfl <;> exact ⟨rfl, by decide⟩
end Go.Lp
namespace Go.Proofs.YtpgcoceggacplaaGreatDoor
open Go.RowKit Go.Lp Go.Sy
def callsAt : Per := At 0 0 (callsV.map D.v)
abbrev encI : Int → Value := .int .i64
theorem sort_fn {v : Value} {T : TypeId} (zs : List Int) (hz : zs.length < 4611686018427387904) : Con Tryz.prog 94 [v] [] [OwnS v T 1 (encR encI zs)] fun r ps' hp' => r = .tuple #[] ∧ ps' = [] ∧ ∃ zs', hp' = [OwnS v T 1 (encR encI zs')] ∧ zs'.length = zs.length ∧ ∀ z, z ∈ zs' ↔ z ∈ zs := by
  have hlen : (zs.mergeSort fun x y => decide (x ≤ y)).length = zs.length := by simp
  refine con_putRow (zs1 := zs.mergeSort fun x y => decide (x ≤ y)) (rest := []) (fun _ => rfl) (by simp) (fun hv hz w => ?_) (fun b cap w hv hb hc hm hH => ?_)
  · subst hv; subst hz
    refine (Any.slices_Sort_int_none Tryz.lays189 none 0 w).mono fun e w' ⟨he, hw⟩ => ⟨_, he, hw, rfl, rfl, [], rfl, rfl, fun z => Iff.rfl⟩
  · refine (Any.slices_Sort_int Tryz.lays189 b 0 cap zs w hH hb hz).mono fun e w' ⟨he, n, os, hw⟩ => ⟨⟨_, he, rfl, rfl, _, by rw [hlen, hv], hlen, fun z => ?_⟩, n, os, by rw [List.append_nil]; exact hw⟩
    exact (List.mergeSort_perm zs _).mem_iff
theorem compact_fn {v : Value} {T : TypeId} (zs : List Int) : Con Tryz.prog 95 [v] [] [OwnS v T 1 (encR encI zs)] fun r ps' hp' => ps' = [] ∧ ∃ ad c zs', r = .slice ad zs'.length c ∧ hp' = [OwnS r T 1 (encR encI zs')] ∧ ∀ z, z ∈ zs' ↔ z ∈ zs := by
  have hle : (Lib.compact zs).length ≤ zs.length := by
    unfold Lib.compact Lib.compactUpTo
    rw [List.length_map]
    exact Nat.le_trans (List.length_filter_le _ _) (by simp)
  refine con_putRow (zs1 := Lib.compact zs) (rest := List.replicate (zs.length - (Lib.compact zs).length) 0) (fun _ => rfl) (by simp; omega) (fun hv hz w => ?_) (fun b cap w hv hb hc hm hH => ?_)
  · subst hv; subst hz
    refine (Any.slices_Compact_int_empty Tryz.lays20 none 0 w).mono fun e w' ⟨he, hw⟩ => ⟨_, he, hw, rfl, none, 0, [], rfl, rfl, fun z => Iff.rfl⟩
  · refine (Any.slices_Compact_int Tryz.lays20 b 0 cap zs w hH (by unfold maxLen at hm; omega) hc).mono fun e w' ⟨he, n, hw⟩ => ⟨⟨_, he, rfl, _, _, _, rfl, rfl, mem_compact zs⟩, n, #[], ?_⟩
    rw [Sort.grow_empty]; exact hw
theorem has_fn (l : List Int) (ad : Option Addr) (c : Nat) (n : Int) : Con Tryz.prog 17 [.slice ad l.length c, .int .i64 n] [Sh (.slice ad l.length c) (.sl (encR encI l))] [] fun r _ _ => r = .bool (l.contains n) := by
  refine Con.enter Tryz.func17 rfl (by simp [Tryz.ntmps17]) ?_
  show awp _ _ _ _ ⟨[(0, true, _), (1, true, _)], _, _⟩
  refine awp_len 0 rfl ?_
  intro hlen
  rw [encR_len] at hlen
  refine awp_seq ?_
  refine awp_region ?_
  refine aL_s true rfl rfl (fun _ => q_assign rfl) ?_
  refine aL_nil ?_
  refine thn_n ?_
  refine awp_seq ?_
  refine awp_seq ?_
  refine awp_region ?_
  refine aL_s true rfl rfl (fun _ => q_assign rfl) ?_
  refine aL_nil ?_
  refine thn_n ?_
  refine awp_block ?_
  refine awp_loopK [0, 1, 5] [0] [] (fun (k : Nat) s => (k ≤ l.length ∧ ∀ z ∈ l.take k, z ≠ n) ∧ s = ⟨[(0, true, .slice ad l.length c), (1, true, .int .i64 n), (5, true, .int .i64 k)], [Sh (.slice ad l.length c) (.sl (encR encI l))], []⟩) (fun k => l.length - k) rfl (⟨0, ⟨Nat.zero_le _, by simp⟩, rfl⟩) ?_
  rintro k s ⟨⟨hk, hno⟩, rfl⟩
  refine awp_seq ?_
  refine awp_seq ?_
  refine awp_region ?_
  refine aL_s true rfl rfl (fun _ => q_move rfl) ?_
  refine aL_s true rfl rfl (fun _ => q_move rfl) ?_
  refine aL_s true rfl rfl (fun _ => q_lenS Tryz.underlying22 rfl) ?_
  refine aL_s true rfl rfl (fun _ => q_lss rfl rfl) ?_
  refine aL_nil ?_
  refine thn_n ?_
  refine awp_cond _ rfl (fun h1 => ?_) (fun h1 => ?_)
  · skip
    have hk' : k < l.length := by simpa using h1
    have hrow : (encR encI l)[k]? = some [.v (.int .i64 (l[k]'hk'))] := by simp [encR, hk']
    refine awp_skip ?_
    refine thn_n ?_
    refine awp_seq ?_
    refine awp_block ?_
    refine awp_seq ?_
    refine awp_region ?_
    refine aL_s true rfl rfl (fun _ => q_move rfl) ?_
    refine aL_s true rfl rfl (fun _ => q_move rfl) ?_
    refine aL_E true rfl rfl (fun _ => q_indexAddr Tryz.underlying22 tk3 rfl (psAt 0 rfl) rfl (row := [.v (.int .i64 (l[k]'hk'))]) hrow rfl rfl) (fun h => absurd h (by decide)) (fun ⟨b4_2, o4_2⟩ => ?_)
    refine aL_s true rfl rfl (fun _ => q_loadD (o := 0) (v := .int .i64 (l[k]'hk')) tk3 rfl (psAt 0 rfl) rfl rfl) ?_
    refine aL_s true rfl rfl (fun _ => q_move rfl) ?_
    refine aL_s true rfl rfl (fun _ => q_eql rfl rfl) ?_
    refine aL_nil ?_
    refine thn_n ?_
    refine awp_cond _ rfl (fun h2 => ?_) (fun h2 => ?_)
    · skip
      refine awp_seq ?_
      refine awp_region ?_
      refine aL_s true rfl rfl (fun _ => q_assign rfl) ?_
      refine aL_nil ?_
      refine thn_n ?_
      refine awp_ret ?_
      refine blk_r ?_
      refine thn_r ?_
      refine thn_r ?_
      refine blk_r ?_
      refine thn_r ?_
      refine fin1 [] [] rfl Tryz.results17 rfl ?_ (.inr rfl)
      refine congrArg Value.bool (Eq.symm ?_)
      have e : l[k]'hk' = n := by simpa using h2
      rw [List.contains_iff_mem, ← e]; exact List.getElem_mem hk'
    · skip
      refine awp_skip ?_
      refine blk_n ?_
      refine thn_n ?_
      refine awp_region ?_
      refine aL_s true rfl rfl (fun _ => q_move rfl) ?_
      refine aL_s true rfl rfl (fun _ => q_addi rfl rfl (by omega)) ?_
      refine aL_s true rfl rfl (fun _ => q_assign rfl) ?_
      refine aL_nil ?_
      refine thn_n ?_
      refine ⟨[0, 1, 5], [0], [], rfl, ?_⟩
      refine ⟨k + 1, ⟨⟨by omega, fun z hz => ?_⟩, rfl⟩, by omega⟩
      rw [List.take_add_one, List.getElem?_eq_getElem hk', List.mem_append] at hz
      rcases hz with hz | hz
      · exact hno z hz
      · simp only [Option.toList_some, List.mem_singleton] at hz
        rw [hz]; simpa using h2
  · skip
    refine awp_exit ?_
    refine thn_e ?_
    refine thn_e ?_
    refine blk_hit ?_
    refine thn_n ?_
    refine awp_seq ?_
    refine awp_region ?_
    refine aL_s true rfl rfl (fun _ => q_assign rfl) ?_
    refine aL_nil ?_
    refine thn_n ?_
    refine awp_ret ?_
    refine fin1 [] [] rfl Tryz.results17 rfl ?_ (.inr rfl)
    refine congrArg Value.bool (Eq.symm ?_)
    have e : k = l.length := by simp at h1; omega
    subst e
    rw [List.take_length] at hno
    rw [Bool.eq_false_iff]; intro h
    exact hno n (List.contains_iff_mem.1 h) rfl
theorem registers_fn (i : Ins) (sb : ByteArray) (hs : sb.size ≤ 100) : Con Tryz.prog 37 [.agg (insV i).toArray, .string sb] [] []
    fun r ps' hp' => ps' = [] ∧ ∃ ad c l, r = .slice ad l.length c ∧ hp' = [OwnS r 3 1 (encR encI l)] ∧ ∀ z, z ∈ l ↔ z ∈ sb.data.toList.map (letReg i) := by
  have hsz : sb.data.toList.length = sb.size := by simp
  have hm : sb.size ≤ maxLen := by unfold maxLen; omega
  obtain ⟨L, hL⟩ : ∃ L, L = sb.data.toList := ⟨_, rfl⟩
  rw [← hL] at hsz ⊢
  refine Con.enter Tryz.func37 rfl (by simp [Tryz.ntmps37]) ?_
  show awp _ _ _ _ ⟨[(0, true, _), (1, true, _)], _, _⟩
  refine awp_seq ?_
  refine awp_region ?_
  refine aL_eff (q := true) rfl (x_box rfl rfl rfl (fun b0_0 => ?_))
  refine aL_hp (by (try simp only [List.cons_append, List.nil_append]); rfl) ?_
  refine aL_s true rfl rfl (fun _ => q_assign rfl) ?_
  refine aL_nil ?_
  refine thn_n ?_
  refine awp_seq ?_
  refine awp_region ?_
  refine aL_s true rfl rfl (fun _ => q_assign rfl) ?_
  refine aL_nil ?_
  refine thn_n ?_
  refine awp_seq ?_
  refine awp_seq ?_
  refine awp_nil 3 1 ?_
  show awp _ _ _ _ ⟨_, _, [Box b0_0 46 (insV i), OwnS _ _ _ _]⟩
  refine awp_region ?_
  refine aL_s true rfl rfl (fun _ => q_move rfl) ?_
  refine aL_eff (q := true) rfl (e_strBytes Tryz.underlying9 Tryz.underlying81 Tryz.underlying5 rfl (by assumption) rfl (fun a2_1 c2_1 => ?_))
  refine aL_st (by (try simp only [List.cons_append, List.nil_append]); rfl) (by (try simp only [putB, place, Nat.reduceBEq, Bool.false_eq_true, if_true, if_false, reduceIte, Option.map_none, Option.map_some, List.getD_cons_zero, List.getD_cons_succ, List.drop_succ_cons, List.drop_zero, List.length_cons, List.length_nil, Nat.reduceAdd, List.drop_nil, beq_self_eq_true, List.set_cons_succ, List.set_cons_zero, List.cons_append, List.nil_append]); rfl) ?_
  refine aL_s true rfl rfl (fun _ => q_lenS Tryz.underlying81 rfl) ?_
  refine aL_s true rfl rfl (fun _ => q_move rfl) ?_
  refine aL_nil ?_
  refine thn_n ?_
  refine awp_block ?_
  rw [← hL]
  refine awp_loopK [2, 5, 9, 10, 11] [0] [0, 1] (fun (q : Nat × Option Addr × Nat) s => q.1 ≤ sb.size ∧ s = ⟨[(2, true, .pointer (some ⟨b0_0, 0, none⟩)), (5, true, .slice q.2.1 q.1 q.2.2), (9, true, .slice a2_1 sb.size c2_1), (10, true, .int .i64 sb.size), (11, true, .int .i64 q.1)], [Sh (.slice a2_1 sb.size c2_1) (.sl (byR L))], [Box b0_0 46 (insV i), OwnS (.slice q.2.1 q.1 q.2.2) 3 1 (encR encI ((L.take q.1).map (letReg i)))]⟩) (fun q => sb.size - q.1) rfl (⟨(0, none, 0), Nat.zero_le _, rfl⟩) ?_
  rintro ⟨k, a5, c5⟩ s ⟨hk, rfl⟩
  dsimp only at hk ⊢
  refine awp_seq ?_
  refine awp_region ?_
  refine aL_s true rfl rfl (fun _ => q_lss rfl rfl) ?_
  refine aL_nil ?_
  refine thn_n ?_
  refine awp_seq ?_
  refine awp_cond _ rfl (fun h1 => ?_) (fun h1 => ?_)
  · skip
    have hk' : k < sb.size := by simpa using h1
    obtain ⟨ch, hch⟩ : ∃ ch, L[k]? = some ch := ⟨L[k]'(by omega), by simp⟩
    have hreg : (L.take (k + 1)).map (letReg i) = (L.take k).map (letReg i) ++ [letReg i ch] := by rw [List.take_add_one, hch]; simp
    have hln : (encR encI ((L.take k).map (letReg i))).length = k := by rw [encR_len]; simp; omega
    have e83 : decide ((ch.toNat : Int) = 83) = decide (ch = 83) := decide_eq_decide.2 (u8_eq ch 83)
    refine awp_skip ?_
    refine thn_n ?_
    refine awp_seq ?_
    refine awp_block ?_
    refine awp_seq ?_
    refine awp_region ?_
    refine aL_E true rfl rfl (fun _ => q_indexAddr Tryz.underlying81 tk5 rfl (psAt 0 rfl) rfl (row := [.v (.int .u8 ch.toNat)]) (byR_row hch) rfl rfl) (fun h => absurd h (by decide)) (fun ⟨b4_0, o4_0⟩ => ?_)
    refine aL_s true rfl rfl (fun _ => q_loadD (o := 0) (v := .int .u8 ch.toNat) tk5 rfl (psAt 0 rfl) rfl rfl) ?_
    refine aL_s true rfl rfl (fun _ => q_assign rfl) ?_
    refine aL_nil ?_
    refine thn_n ?_
    refine awp_seq ?_
    refine awp_region ?_
    refine aL_s true rfl rfl (fun _ => q_move rfl) ?_
    refine aL_s true rfl rfl (fun _ => q_eql rfl rfl) ?_
    refine aL_nil ?_
    refine thn_n ?_
    refine awp_cond _ rfl (fun h2 => ?_) (fun h2 => ?_)
    · skip
      refine awp_region ?_
      refine aL_s true rfl rfl (fun _ => q_move rfl) ?_
      refine aL_eff (q := true) rfl (w_lit (zs := [.int .i64 0]) (l := [(0, .const (.int .i64 15))]) el22 (by kernel_rfl) (by decide) (by decide) (by decide) rfl rfl rfl (.more rfl (.v rfl .nil) .nil) rfl rfl (fun v6_1 => ?_))
      refine aL_hp (by (try simp only [List.cons_append, List.nil_append]); rfl) ?_
      refine aL_eff rfl (w_append 1 el22 rfl rfl rfl rfl (w_srcO 2 el22 rfl (by simp)) (by first | assumption | simp) (by (rw [hln]; simp; omega)) (k + 1) (by rw [hln]; rfl) (fun v6_2 c6_2 => ?_))
      refine aL_hp (by simp only [List.set_cons_succ, List.set_cons_zero]; rfl) ?_
      refine aL_s true rfl rfl (fun _ => q_assign rfl) ?_
      refine aL_nil ?_
      refine blk_n ?_
      refine thn_n ?_
      refine awp_region ?_
      refine aL_s true rfl rfl (fun _ => q_addi rfl rfl (by omega)) ?_
      refine aL_s true rfl rfl (fun _ => q_move rfl) ?_
      refine aL_nil ?_
      refine thn_n ?_
      refine ⟨[2, 5, 9, 10, 11], [0], [0, 1], rfl, ?_⟩
      refine ⟨(k + 1, v6_2, c6_2), ⟨by dsimp only; omega, ?_⟩, by dsimp only; omega⟩
      have e15 : letReg i ch = 15 := by
        have : ch = 83 := by rw [e83] at h2; simpa using h2
        subst this; rfl
      have hE : encR encI ((L.take (k + 1)).map (letReg i)) = encR encI ((L.take k).map (letReg i)) ++ [[.v (.int .i64 15)]] := by rw [hreg, e15]; simp [encR]
      dsimp only; rw [hE]; rfl
    · skip
      refine awp_region ?_
      refine aL_s true rfl rfl (fun _ => q_move rfl) ?_
      refine aL_s true rfl rfl (fun _ => q_move rfl) ?_
      refine aL_s true rfl rfl (fun _ => q_call (by kernel_rfl) rfl (fun w S fp hst => (field_fn b0_0 ch).quiet0 hst)) ?_
      refine aL_s true rfl rfl (fun _ => q_nilCheck rfl) ?_
      refine aL_s true rfl rfl (fun _ => q_load 0 tk3 rfl rfl (insV_fld i ch)) ?_
      refine aL_eff (q := true) rfl (w_lit (zs := [.int .i64 0]) (l := [(0, .tmp 24)]) el22 (by kernel_rfl) (by decide) (by decide) (by decide) rfl rfl rfl (.more rfl (.v rfl .nil) .nil) rfl rfl (fun v7_5 => ?_))
      refine aL_hp (by (try simp only [List.cons_append, List.nil_append]); rfl) ?_
      refine aL_eff rfl (w_append 1 el22 rfl rfl rfl rfl (w_srcO 2 el22 rfl (by simp)) (by first | assumption | simp) (by (rw [hln]; simp; omega)) (k + 1) (by rw [hln]; rfl) (fun v7_6 c7_6 => ?_))
      refine aL_hp (by simp only [List.set_cons_succ, List.set_cons_zero]; rfl) ?_
      refine aL_s true rfl rfl (fun _ => q_assign rfl) ?_
      refine aL_nil ?_
      refine blk_n ?_
      refine thn_n ?_
      refine awp_region ?_
      refine aL_s true rfl rfl (fun _ => q_addi rfl rfl (by omega)) ?_
      refine aL_s true rfl rfl (fun _ => q_move rfl) ?_
      refine aL_nil ?_
      refine thn_n ?_
      refine ⟨[2, 5, 9, 10, 11], [0], [0, 1], rfl, ?_⟩
      refine ⟨(k + 1, v7_6, c7_6), ⟨by dsimp only; omega, ?_⟩, by dsimp only; omega⟩
      have e15 : letReg i ch = i.fld ch := by
        have : ¬ ch = 83 := by rw [e83] at h2; simpa using h2
        unfold letReg; rw [if_neg this]
      have hE : encR encI ((L.take (k + 1)).map (letReg i)) = encR encI ((L.take k).map (letReg i)) ++ [[.v (.int .i64 (i.fld ch))]] := by rw [hreg, e15]; simp [encR]
      dsimp only; rw [hE]; rfl
  · skip
    refine awp_exit ?_
    refine thn_e ?_
    refine thn_e ?_
    refine blk_hit ?_
    refine thn_n ?_
    refine awp_seq ?_
    refine awp_region ?_
    refine aL_s true rfl rfl (fun _ => q_move rfl) ?_
    refine aL_eff (q := false) rfl (e_call [] [1] (by kernel_rfl) rfl rfl rfl rfl (sort_fn ((L.take k).map (letReg i)) (by simp; omega)) ?_)
    rintro v ps' hp' ⟨rfl, rfl, zs', rfl, hzl, hzm⟩
    refine aL_st (by (try simp only [List.cons_append, List.nil_append]); rfl) (by (try simp only [putB, place, Nat.reduceBEq, Bool.false_eq_true, if_true, if_false, reduceIte, Option.map_none, Option.map_some, List.getD_cons_zero, List.getD_cons_succ, List.drop_succ_cons, List.drop_zero, List.length_cons, List.length_nil, Nat.reduceAdd, List.drop_nil, beq_self_eq_true, List.set_cons_succ, List.set_cons_zero, List.cons_append, List.nil_append]); rfl) ?_
    refine aL_nil ?_
    refine thn_n ?_
    refine awp_seq ?_
    refine awp_region ?_
    refine aL_s true rfl rfl (fun _ => q_move rfl) ?_
    refine aL_eff (q := false) rfl (e_call [] [1] (by kernel_rfl) rfl rfl rfl rfl (compact_fn zs') ?_)
    rintro v ps' hp' ⟨rfl, ad, c, zs2, rfl, rfl, hz2⟩
    refine aL_st (by (try simp only [List.cons_append, List.nil_append]); rfl) (by (try simp only [putB, place, Nat.reduceBEq, Bool.false_eq_true, if_true, if_false, reduceIte, Option.map_none, Option.map_some, List.getD_cons_zero, List.getD_cons_succ, List.drop_succ_cons, List.drop_zero, List.length_cons, List.length_nil, Nat.reduceAdd, List.drop_nil, beq_self_eq_true, List.set_cons_succ, List.set_cons_zero, List.cons_append, List.nil_append]); rfl) ?_
    refine aL_s true rfl rfl (fun _ => q_assign rfl) ?_
    refine aL_nil ?_
    refine thn_n ?_
    refine awp_ret ?_
    refine fin1 [] [1] rfl Tryz.results37 rfl ?_ (.inr rfl)
    have hk0 : k = sb.size := by simp at h1; omega
    subst hk0
    refine ⟨rfl, ad, c, zs2, rfl, rfl, fun z => ?_⟩
    rw [hz2, hzm, List.take_of_length_le (by omega)]
theorem three_rows : ∀ n, n ≤ 3 → ([[D.v (.int .i64 0)], [D.v (.int .i64 1)], [D.v (.int .i64 2)]] : List (List D)).take n = encR encI (([0, 1, 2] : List Int).take n) := by
  intro n hn
  have : n = 0 ∨ n = 1 ∨ n = 2 ∨ n = 3 := by omega
  rcases this with rfl | rfl | rfl | rfl <;> rfl
theorem one_row : ∀ n, n ≤ 1 → ([[D.v (.int .i64 0)]] : List (List D)).take n = encR encI (([0] : List Int).take n) := by
  intro n hn
  have : n = 0 ∨ n = 1 := by omega
  rcases this with rfl | rfl <;> rfl
theorem uses_fn (i : Ins) (hn : I64 i.imm) (hr : rightB i = true) : Con Tryz.prog 16 [.agg (insV i).toArray] [formsAt, callsAt] [] fun r ps' hp' => hp' = [] ∧ ∃ a1 c1 l1 a2 c2 l2, r = .tuple #[.slice a1 (List.length l1) c1, .slice a2 (List.length l2) c2] ∧
    ps' = [Sh (.slice a1 l1.length c1) (.sl (encR encI l1)), Sh (.slice a2 l2.length c2) (.sl (encR encI l2))] ∧
    (i.op ≠ 30 → (∀ z, z ∈ l1 ↔ z ∈ (readsL i.op).map (letReg i)) ∧ ∀ z, z ∈ l2 ↔ z ∈ (writesL i.op).map (letReg i)) := by
  obtain ⟨⟨hop1, hop⟩, himm, _⟩ := rightB_iff.1 hr
  have hop' : i.op < 31 := by omega
  have hin : i.op = 30 → 0 ≤ i.imm ∧ i.imm < 8 := fun h => by rw [immB_3 h] at himm; simpa using himm
  have hsz : ∀ k, k < 31 → (readsL k).length ≤ 2 ∧ (writesL k).length ≤ 2 := fun k hk => by
    rcases thirtyone hk with rfl | rfl | rfl | rfl | rfl | rfl | rfl | rfl | rfl | rfl | rfl | rfl | rfl | rfl | rfl | rfl | rfl | rfl | rfl | rfl | rfl | rfl | rfl | rfl | rfl | rfl | rfl | rfl | rfl | rfl | rfl <;> exact ⟨by decide, by decide⟩
  refine Con.enter Tryz.func16 rfl (by simp [Tryz.ntmps16]) ?_
  show awp _ _ _ _ ⟨[(0, true, _)], _, _⟩
  refine awp_seq ?_
  refine awp_region ?_
  refine aL_eff (q := true) rfl (x_box rfl rfl rfl (fun b0_0 => ?_))
  refine aL_hp (by (try simp only [List.cons_append, List.nil_append]); rfl) ?_
  refine aL_s true rfl rfl (fun _ => q_assign rfl) ?_
  refine aL_s true rfl rfl (fun _ => q_assign rfl) ?_
  refine aL_nil ?_
  refine thn_n ?_
  refine awp_seq ?_
  refine awp_seq ?_
  refine awp_region ?_
  refine aL_s true rfl rfl (fun _ => q_load 0 tk46 rfl rfl rfl) ?_
  refine aL_s true rfl rfl (fun _ => q_call (by kernel_rfl) rfl (fun w S fp hst => (right_fn i hn).quiet1 (by simp) hst)) ?_
  refine aL_s true rfl rfl (fun _ => q_not rfl) ?_
  refine aL_nil ?_
  refine thn_n ?_
  refine awp_cond _ rfl (fun h1 => ?_) (fun h1 => ?_)
  · skip
    rw [hr] at h1; exact absurd h1 (by simp)
  · skip
    refine awp_skip ?_
    refine thn_n ?_
    refine awp_seq ?_
    refine awp_seq ?_
    refine awp_region ?_
    refine aL_s true rfl rfl (fun _ => q_fieldAddr (off := 0) (by kernel_rfl) rfl) ?_
    refine aL_s true rfl rfl (fun _ => q_load 0 tk3 rfl rfl rfl) ?_
    refine aL_s true rfl rfl (fun _ => q_eql rfl rfl) ?_
    refine aL_nil ?_
    refine thn_n ?_
    refine awp_cond _ rfl (fun h2 => ?_) (fun h2 => ?_)
    · skip
      have h30 : i.op = 30 := by have h := of_decide_eq_true h2; omega
      obtain ⟨hi1, hi2⟩ := hin h30
      obtain ⟨m, hm⟩ : ∃ m : Nat, i.imm = m := ⟨i.imm.toNat, by omega⟩
      have hm8 : m < 8 := by omega
      obtain ⟨hR, hR3⟩ := calls_R hm8
      obtain ⟨hW, hW1⟩ := calls_W hm8
      refine awp_seq ?_
      refine awp_region ?_
      refine aL_eff (q := true) rfl (w_lit (zs := [.int .i64 0]) (l := [(0, .const (.int .i64 0)), (1, .const (.int .i64 1)), (2, .const (.int .i64 2))]) el22 (by kernel_rfl) (by decide) (by decide) (by decide) rfl rfl rfl (.more rfl (.v rfl .nil) (.more rfl (.v rfl .nil) (.more rfl (.v rfl .nil) .nil))) rfl rfl (fun v4_0 => ?_))
      refine aL_hp (by (try simp only [List.cons_append, List.nil_append]); rfl) ?_
      refine aL_s true rfl rfl (fun _ => q_assign rfl) ?_
      refine aL_nil ?_
      refine thn_n ?_
      refine awp_seq ?_
      refine awp_drawnC [] [] [b0_0] (by kernel_rfl) ?_
      show aC _ _ _ _ _ _ _ 16 #[false, false, false, false, false, false, false, false, false, false, false, false, false, false, false, false] _
      refine aC_share 1 rfl ?_
      refine aC_st (by (try simp only [List.setIfInBounds_toArray, List.set_cons_succ, List.set_cons_zero]); rfl) (by (try simp only [List.cons_append, List.nil_append]); rfl) (by (try simp only [keepH, List.map_cons, List.map_nil, putB, place, Nat.reduceBEq, Bool.false_eq_true, if_true, if_false, reduceIte, Option.map_none, Option.map_some, List.getD_cons_zero, List.getD_cons_succ, List.drop_succ_cons, List.drop_zero, List.length_cons, List.length_nil, Nat.reduceAdd, List.drop_nil, beq_self_eq_true, List.set_cons_succ, List.set_cons_zero, List.cons_append, List.nil_append]); rfl) ?_
      refine aC_f 0 rfl (by kernel_rfl) true rfl rfl (fun _ => q_move rfl) ?_
      refine aC_st (by (try simp only [List.setIfInBounds_toArray, List.set_cons_succ, List.set_cons_zero]); rfl) rfl rfl ?_
      refine aC_f 1 rfl (by kernel_rfl) true rfl rfl (fun _ => q_fieldAddr (off := 4) (by kernel_rfl) rfl) ?_
      refine aC_st (by (try simp only [List.setIfInBounds_toArray, List.set_cons_succ, List.set_cons_zero]); rfl) rfl rfl ?_
      refine aC_box 2 0 rfl (by kernel_rfl) true rfl rfl (by simp) tk3 (fun _ => rfl) rfl rfl ?_
      refine aC_st (by (try simp only [List.setIfInBounds_toArray, List.set_cons_succ, List.set_cons_zero]); rfl) rfl rfl ?_
      refine aC_f 3 rfl (by kernel_rfl) true rfl rfl (fun _ => q_idxArr (m) Tryz.underlying89 tk88 rfl rfl (hm) (hm8)) ?_
      refine aC_st (by (try simp only [List.setIfInBounds_toArray, List.set_cons_succ, List.set_cons_zero]); rfl) rfl rfl ?_
      refine aC_f 4 rfl (by kernel_rfl) true rfl rfl (fun _ => q_fieldAddr (off := 0) (by kernel_rfl) rfl) ?_
      refine aC_st (by (try simp only [List.setIfInBounds_toArray, List.set_cons_succ, List.set_cons_zero]); rfl) rfl rfl ?_
      refine aC_f 5 rfl (by kernel_rfl) true rfl rfl (fun _ => q_loadP (m * 2) tk3 rfl (psAt 2 rfl) (by omega) (rdD_cell hR)) ?_
      refine aC_st (by (try simp only [List.setIfInBounds_toArray, List.set_cons_succ, List.set_cons_zero]); rfl) rfl rfl ?_
      refine aC_R1 6 rfl (by kernel_rfl) rfl rfl (q_sliceHS (callR m) el22 rfl (psAt 0 rfl) rfl rfl hR3 (by simp)) (fun ⟨a5_6, c5_6⟩ => ?_)
      refine aC_st (by (try simp only [List.setIfInBounds_toArray, List.set_cons_succ, List.set_cons_zero]); rfl) rfl rfl ?_
      refine aC_f 8 rfl (by kernel_rfl) true rfl rfl (fun _ => q_fieldAddr (off := 4) (by kernel_rfl) rfl) ?_
      refine aC_st (by (try simp only [List.setIfInBounds_toArray, List.set_cons_succ, List.set_cons_zero]); rfl) rfl rfl ?_
      refine aC_box 9 0 rfl (by kernel_rfl) true rfl rfl (by simp) tk3 (fun _ => rfl) rfl rfl ?_
      refine aC_st (by (try simp only [List.setIfInBounds_toArray, List.set_cons_succ, List.set_cons_zero]); rfl) rfl rfl ?_
      refine aC_f 10 rfl (by kernel_rfl) true rfl rfl (fun _ => q_idxArr (m) Tryz.underlying89 tk88 rfl rfl (hm) (hm8)) ?_
      refine aC_st (by (try simp only [List.setIfInBounds_toArray, List.set_cons_succ, List.set_cons_zero]); rfl) rfl rfl ?_
      refine aC_f 11 rfl (by kernel_rfl) true rfl rfl (fun _ => q_fieldAddr (off := 1) (by kernel_rfl) rfl) ?_
      refine aC_st (by (try simp only [List.setIfInBounds_toArray, List.set_cons_succ, List.set_cons_zero]); rfl) rfl rfl ?_
      refine aC_f 12 rfl (by kernel_rfl) true rfl rfl (fun _ => q_loadP (m * 2 + 1) tk3 rfl (psAt 3 rfl) (by omega) (rdD_cell hW)) ?_
      refine aC_st (by (try simp only [List.setIfInBounds_toArray, List.set_cons_succ, List.set_cons_zero]); rfl) rfl rfl ?_
      refine aC_f 14 rfl (by kernel_rfl) true rfl rfl (fun _ => q_assign rfl) ?_
      refine aC_st (by (try simp only [List.setIfInBounds_toArray, List.set_cons_succ, List.set_cons_zero]); rfl) rfl rfl ?_
      refine aC_arms 7 [] (by kernel_rfl) (arms_cons ?_ arms_nil)
      refine aC_arm 7 rfl rfl ?_
      refine Eff.x ?_
      refine id (w_lit (zs := [.int .i64 0]) (l := [(0, .const (.int .i64 0))]) el22 (by kernel_rfl) (by decide) (by decide) (by decide) rfl rfl rfl (.more rfl (.v rfl .nil) .nil) rfl rfl (fun v5_7 => ?_))
      refine aC_st (by (try simp only [List.setIfInBounds_toArray, List.set_cons_succ, List.set_cons_zero]); rfl) (by (try simp only [List.cons_append, List.nil_append]); rfl) (by (try simp only [keepH, List.map_cons, List.map_nil, putB, place, Nat.reduceBEq, Bool.false_eq_true, if_true, if_false, reduceIte, Option.map_none, Option.map_some, List.getD_cons_zero, List.getD_cons_succ, List.drop_succ_cons, List.drop_zero, List.length_cons, List.length_nil, Nat.reduceAdd, List.drop_nil, beq_self_eq_true, List.set_cons_succ, List.set_cons_zero, List.cons_append, List.nil_append]); rfl) ?_
      refine aC_share 2 rfl ?_
      refine aC_st (by (try simp only [List.setIfInBounds_toArray, List.set_cons_succ, List.set_cons_zero]); rfl) (by (try simp only [List.cons_append, List.nil_append]); rfl) (by (try simp only [keepH, List.map_cons, List.map_nil, putB, place, Nat.reduceBEq, Bool.false_eq_true, if_true, if_false, reduceIte, Option.map_none, Option.map_some, List.getD_cons_zero, List.getD_cons_succ, List.drop_succ_cons, List.drop_zero, List.length_cons, List.length_nil, Nat.reduceAdd, List.drop_nil, beq_self_eq_true, List.set_cons_succ, List.set_cons_zero, List.cons_append, List.nil_append]); rfl) ?_
      refine aC_R1 13 rfl (by kernel_rfl) rfl rfl (q_sliceHS (callW m) el22 rfl (psAt 0 rfl) rfl rfl hW1 (by simp)) (fun ⟨a5_13, c5_13⟩ => ?_)
      refine aC_st (by (try simp only [List.setIfInBounds_toArray, List.set_cons_succ, List.set_cons_zero]); rfl) rfl rfl ?_
      refine aC_f 15 rfl (by kernel_rfl) true rfl rfl (fun _ => q_assign rfl) ?_
      refine aC_st (by (try simp only [List.setIfInBounds_toArray, List.set_cons_succ, List.set_cons_zero]); rfl) rfl rfl ?_
      refine aC_nil (by kernel_rfl) ?_
      refine thn_n ?_
      refine awp_ret ?_
      refine thn_r ?_
      refine fin2 [3, 5] [] rfl Tryz.results16 rfl rfl ?_ (.inr rfl)
      have e1 : (([0, 1, 2] : List Int).take (callR m)).length = callR m := by rw [List.length_take]; show min (callR m) 3 = _; omega
      have e2 : (([0] : List Int).take (callW m)).length = callW m := by rw [List.length_take]; show min (callW m) 1 = _; omega
      refine ⟨rfl, a5_6, c5_6, ([0, 1, 2] : List Int).take (callR m), a5_13, c5_13, ([0] : List Int).take (callW m), by rw [e1, e2], ?_, fun h => absurd h30 h⟩
      rw [← three_rows _ hR3, ← one_row _ hW1, e1, e2]
      first | rfl | trace_state
    · skip
      refine awp_skip ?_
      refine thn_n ?_
      refine awp_seq ?_
      refine awp_drawnC [] [] [b0_0] (by kernel_rfl) ?_
      show aC _ _ _ _ _ _ _ 16 #[false, false, false, false, false, false, false, false, false, false, false, false, false, false, false, false] _
      refine aC_box 0 0 rfl (by kernel_rfl) true rfl rfl (by simp) tk46 (fun _ => rfl) rfl rfl ?_
      refine aC_st (by (try simp only [List.setIfInBounds_toArray, List.set_cons_succ, List.set_cons_zero]); rfl) rfl rfl ?_
      refine aC_f 1 rfl (by kernel_rfl) true rfl rfl (fun _ => q_fieldAddr (off := 0) (by kernel_rfl) rfl) ?_
      refine aC_st (by (try simp only [List.setIfInBounds_toArray, List.set_cons_succ, List.set_cons_zero]); rfl) rfl rfl ?_
      refine aC_box 2 0 rfl (by kernel_rfl) true rfl rfl (by simp) tk3 (fun _ => rfl) rfl rfl ?_
      refine aC_st (by (try simp only [List.setIfInBounds_toArray, List.set_cons_succ, List.set_cons_zero]); rfl) rfl rfl ?_
      refine aC_f 3 rfl (by kernel_rfl) true rfl rfl (fun _ => q_idxArr (i.op) Tryz.underlying93 tk92 rfl rfl (rfl) (hop')) ?_
      refine aC_st (by (try simp only [List.setIfInBounds_toArray, List.set_cons_succ, List.set_cons_zero]); rfl) rfl rfl ?_
      refine aC_f 4 rfl (by kernel_rfl) true rfl rfl (fun _ => q_fieldAddr (off := 2) (by kernel_rfl) rfl) ?_
      refine aC_st (by (try simp only [List.setIfInBounds_toArray, List.set_cons_succ, List.set_cons_zero]); rfl) rfl rfl ?_
      refine aC_f 5 rfl (by kernel_rfl) true rfl rfl (fun _ => q_loadP (i.op * 4 + 2) tk9 rfl (psAt 0 rfl) (by omega) (rdD_cell (forms_reads hop'))) ?_
      refine aC_st (by (try simp only [List.setIfInBounds_toArray, List.set_cons_succ, List.set_cons_zero]); rfl) rfl rfl ?_
      refine aC_box 7 0 rfl (by kernel_rfl) true rfl rfl (by simp) tk46 (fun _ => rfl) rfl rfl ?_
      refine aC_st (by (try simp only [List.setIfInBounds_toArray, List.set_cons_succ, List.set_cons_zero]); rfl) rfl rfl ?_
      refine aC_f 8 rfl (by kernel_rfl) true rfl rfl (fun _ => q_fieldAddr (off := 0) (by kernel_rfl) rfl) ?_
      refine aC_st (by (try simp only [List.setIfInBounds_toArray, List.set_cons_succ, List.set_cons_zero]); rfl) rfl rfl ?_
      refine aC_box 9 0 rfl (by kernel_rfl) true rfl rfl (by simp) tk3 (fun _ => rfl) rfl rfl ?_
      refine aC_st (by (try simp only [List.setIfInBounds_toArray, List.set_cons_succ, List.set_cons_zero]); rfl) rfl rfl ?_
      refine aC_f 10 rfl (by kernel_rfl) true rfl rfl (fun _ => q_idxArr (i.op) Tryz.underlying93 tk92 rfl rfl (rfl) (hop')) ?_
      refine aC_st (by (try simp only [List.setIfInBounds_toArray, List.set_cons_succ, List.set_cons_zero]); rfl) rfl rfl ?_
      refine aC_f 11 rfl (by kernel_rfl) true rfl rfl (fun _ => q_fieldAddr (off := 3) (by kernel_rfl) rfl) ?_
      refine aC_st (by (try simp only [List.setIfInBounds_toArray, List.set_cons_succ, List.set_cons_zero]); rfl) rfl rfl ?_
      refine aC_f 12 rfl (by kernel_rfl) true rfl rfl (fun _ => q_loadP (i.op * 4 + 3) tk9 rfl (psAt 0 rfl) (by omega) (rdD_cell (forms_writes hop'))) ?_
      refine aC_st (by (try simp only [List.setIfInBounds_toArray, List.set_cons_succ, List.set_cons_zero]); rfl) rfl rfl ?_
      refine aC_arms 6 [] (by kernel_rfl) (arms_cons ?_ arms_nil)
      refine aC_arm 6 rfl rfl ?_
      refine Eff.x ?_
      refine id (e_call [] [] (by kernel_rfl) rfl rfl rfl rfl (registers_fn i (ofBytes (readsL i.op)) (by rw [ofBytes_size]; have := (hsz _ hop').1; omega)) ?_)
      rintro v ps' hp' ⟨rfl, aR, cR, lR, rfl, rfl, hlR⟩
      refine aC_st (by (try simp only [List.setIfInBounds_toArray, List.set_cons_succ, List.set_cons_zero]); rfl) (by (try simp only [List.cons_append, List.nil_append]); rfl) (by (try simp only [keepH, List.map_cons, List.map_nil, putB, place, Nat.reduceBEq, Bool.false_eq_true, if_true, if_false, reduceIte, Option.map_none, Option.map_some, List.getD_cons_zero, List.getD_cons_succ, List.drop_succ_cons, List.drop_zero, List.length_cons, List.length_nil, Nat.reduceAdd, List.drop_nil, beq_self_eq_true, List.set_cons_succ, List.set_cons_zero, List.cons_append, List.nil_append]); rfl) ?_
      refine aC_arms 13 [] (by kernel_rfl) (arms_cons ?_ arms_nil)
      refine aC_arm 13 rfl rfl ?_
      refine Eff.x ?_
      refine id (e_call [] [] (by kernel_rfl) rfl rfl rfl rfl (registers_fn i (ofBytes (writesL i.op)) (by rw [ofBytes_size]; have := (hsz _ hop').2; omega)) ?_)
      rintro v ps' hp' ⟨rfl, aW, cW, lW, rfl, rfl, hlW⟩
      refine aC_st (by (try simp only [List.setIfInBounds_toArray, List.set_cons_succ, List.set_cons_zero]); rfl) (by (try simp only [List.cons_append, List.nil_append]); rfl) (by (try simp only [keepH, List.map_cons, List.map_nil, putB, place, Nat.reduceBEq, Bool.false_eq_true, if_true, if_false, reduceIte, Option.map_none, Option.map_some, List.getD_cons_zero, List.getD_cons_succ, List.drop_succ_cons, List.drop_zero, List.length_cons, List.length_nil, Nat.reduceAdd, List.drop_nil, beq_self_eq_true, List.set_cons_succ, List.set_cons_zero, List.cons_append, List.nil_append]); rfl) ?_
      refine aC_share 1 rfl ?_
      refine aC_st (by (try simp only [List.setIfInBounds_toArray, List.set_cons_succ, List.set_cons_zero]); rfl) (by (try simp only [List.cons_append, List.nil_append]); rfl) (by (try simp only [keepH, List.map_cons, List.map_nil, putB, place, Nat.reduceBEq, Bool.false_eq_true, if_true, if_false, reduceIte, Option.map_none, Option.map_some, List.getD_cons_zero, List.getD_cons_succ, List.drop_succ_cons, List.drop_zero, List.length_cons, List.length_nil, Nat.reduceAdd, List.drop_nil, beq_self_eq_true, List.set_cons_succ, List.set_cons_zero, List.cons_append, List.nil_append]); rfl) ?_
      refine aC_f 14 rfl (by kernel_rfl) true rfl rfl (fun _ => q_assign rfl) ?_
      refine aC_st (by (try simp only [List.setIfInBounds_toArray, List.set_cons_succ, List.set_cons_zero]); rfl) rfl rfl ?_
      refine aC_share 2 rfl ?_
      refine aC_st (by (try simp only [List.setIfInBounds_toArray, List.set_cons_succ, List.set_cons_zero]); rfl) (by (try simp only [List.cons_append, List.nil_append]); rfl) (by (try simp only [keepH, List.map_cons, List.map_nil, putB, place, Nat.reduceBEq, Bool.false_eq_true, if_true, if_false, reduceIte, Option.map_none, Option.map_some, List.getD_cons_zero, List.getD_cons_succ, List.drop_succ_cons, List.drop_zero, List.length_cons, List.length_nil, Nat.reduceAdd, List.drop_nil, beq_self_eq_true, List.set_cons_succ, List.set_cons_zero, List.cons_append, List.nil_append]); rfl) ?_
      refine aC_f 15 rfl (by kernel_rfl) true rfl rfl (fun _ => q_assign rfl) ?_
      refine aC_st (by (try simp only [List.setIfInBounds_toArray, List.set_cons_succ, List.set_cons_zero]); rfl) rfl rfl ?_
      refine aC_nil (by kernel_rfl) ?_
      refine thn_n ?_
      refine awp_ret ?_
      refine fin2 [2, 3] [] rfl Tryz.results16 rfl rfl ?_ (.inr rfl)
      refine ⟨rfl, _, _, lR, _, _, lW, rfl, rfl, fun _ => ⟨fun z => ?_, fun z => ?_⟩⟩
      · rw [hlR]; exact Iff.rfl
      · rw [hlW]; exact Iff.rfl
end Go.Proofs.YtpgcoceggacplaaGreatDoor
namespace Go.Sy
open Go.RowKit Go.Lp
section
variable {P : Program} {n : Nat} {s : Sta} {d : Option Tmp} {ty : TypeId} {pos : String} {af : Array Edge} {gd : Option (Nat × Bool)} {x y : Operand} {t t' : TypeId}
theorem qarr_neq {xs ys : Array Value} {m : Nat} {e : TypeId} (hu : P.underlying t = some (.array m e)) (he : isIntB P e = true) (hc : P.cellsOf e = 1) (hm : P.eqGuardType P.depth t = false)
    (h1 : allInts xs (List.range m) = true) (h2 : allInts ys (List.range m) = true) (hx : ev s.env x = some (true, .agg xs)) (hy : ev s.env y = some (true, .agg ys)) : Quiet P n ⟨d, .binOp .neq t x y t', ty, pos, af, gd⟩ s (.bool (!eqInts xs ys (List.range m))) :=
  .run2 hx hy fun ρ w g1 g2 => by
    obtain ⟨ie, hie⟩ : ∃ ie, P.info? e = some ie := by
      unfold isIntB at he
      split at he
      · rename_i q hq; exact info_of_underlying hq
      · cases he
    unfold execOp; dsimp only; rw [g1, g2]
    simp only [Sem.run_bind, run_eqGuard_agg w _ t _ _ xs ys hm, Result.andThen_ok, run_neq_struct, run_equalIn_array w 9999 xs ys hu hie, eqItems_ints 9998 he hc xs ys _ w h1 h2]
    rfl
theorem Quiet.cast {o : Oper} {v v' : Value} (h : Quiet P n o s v) (e : v = v') : Quiet P n o s v' := e ▸ h
end
end Go.Sy
namespace Go.Lp
open Go.Sy
theorem eqInts_refl (xs : Array Value) (l : List Nat) : eqInts xs xs l = true := by
  unfold eqInts
  refine List.all_eq_true.2 fun o _ => ?_
  cases intAt xs o with
  | none => rfl
  | some a => simp
theorem neq_same (xs : Array Value) (l : List Nat) : (.bool (!eqInts xs xs l) : Value) = .bool false := by rw [eqInts_refl]; rfl
/-- what the law says of a step -/
structure UseFacts (c : Cpu) (S1 S2 : Cpu × (Int × Int) × Mem) (i : Ins) (g : Nat) (v : Int) (rl wl : List Int) : Prop where
  keep : i.op ≠ 30 → ∀ k : Nat, ¬ (k : Int) ∈ wl → S1.1.r k = c.r k
  sys : i.op = 30 → ∀ k : Nat, S1.1.r k = c.r k
  sim : ¬ (g : Int) ∈ rl → S2.2 = S1.2 ∧ S2.1.pc = S1.1.pc ∧ (∀ k, k ≠ g → S2.1.r k = S1.1.r k) ∧
    (S1.1.r g = c.r g ∧ S2.1.r g = v ∨ S2.1.r g = S1.1.r g)
theorem useFacts {M : Mem} {c : Cpu} {i : Ins} (hd : decI (readM M c.pc 8).1 = some i) {g : Nat} {v : Int} {rl wl : List Int}
    (h : i.op ≠ 30 → (∀ z, z ∈ rl ↔ z ∈ (readsL i.op).map (letReg i)) ∧ ∀ z, z ∈ wl ↔ z ∈ (writesL i.op).map (letReg i)) : UseFacts c (stepM M c) (stepM M (c.set g v)) i g v rl wl where
  keep h30 k hno := step_keep hd fun ch hch e => hno (((h h30).2 _).2 (List.mem_map.2 ⟨ch, hch, e⟩))
  sys h30 k := step_keep hd fun ch hch e => by rw [h30] at hch; cases hch
  sim hno := step_sim hd fun ch hch e => by
    by_cases h30 : i.op = 30
    · rw [h30] at hch; cases hch
    · exact hno (((h h30).1 _).2 (List.mem_map.2 ⟨ch, hch, e⟩))
theorem decI_right {l : List UInt8} {i : Ins} (h : decI l = some i) : rightB i = true := by
  unfold decI at h
  split at h
  · cases h
  · split at h
    · rename_i hr
      simp only [Option.some.injEq] at h; rw [← h]; exact hr
    · cases h
theorem cpuV_get0 (c : Cpu) {a : Nat} (h : a < 16) : (cpuV c)[0 + 0 + a * 1]? = some (.int .i64 (c.r a)) := by rw [show 0 + 0 + a * 1 = a by omega]; exact cpuV_get c h
theorem cpu_wr (c : Cpu) (v : Int) {k : Nat} (hk : k < 16) : wrC (cpuV c) k [.int .i64 v] = cpuV (c.set k v) := by
  rw [← cpuV_set c v hk]
  unfold wrC
  rw [List.set_eq_take_append_cons_drop, if_pos (show k < (cpuV c).length by rw [show (cpuV c).length = 17 from rfl]; omega)]
  rfl
end Go.Lp
namespace Go.Proofs.YtpgcoceggacplaaGreatDoor
open Go.RowKit Go.Lp Go.Sy
theorem uses_con (x : Stg) (ad : Option Addr) (c : Nat) (gg v : Int) (hr : ∀ z ∈ x.regs, I64 z) (hp : I64 x.pc) (hv : I64 v) : Con Tryz.prog 4 [.agg (stgV x ad c).toArray, .int .i64 gg, .int .i64 v] [Sh (.slice ad x.regs.length c) (.sl (irows x.regs)), formsAt, callsAt] [] fun r _ _ => r = .bool true := by
  have hok : CpuOk (cpuS x) := cpuK_ok x _ hr hp
  refine Con.enter Tryz.func4 rfl (by simp [Tryz.ntmps4]) ?_
  show awp _ _ _ _ ⟨[(0, true, _), (1, true, _), (2, true, _)], _, _⟩
  refine awp_seq ?_
  refine awp_region ?_
  refine aL_eff (q := true) rfl (x_box rfl rfl rfl (fun b0_0 => ?_))
  refine aL_hp (by (try simp only [List.cons_append, List.nil_append]); rfl) ?_
  refine aL_s true rfl rfl (fun _ => q_assign rfl) ?_
  refine aL_nil ?_
  refine thn_n ?_
  refine awp_seq ?_
  refine awp_region ?_
  refine aL_s true rfl rfl (fun _ => q_call (by kernel_rfl) rfl (fun w S fp hst => small29_fn.quiet1 (by simp) hst)) ?_
  refine aL_s true rfl rfl (fun _ => q_assign rfl) ?_
  refine aL_nil ?_
  refine thn_n ?_
  refine awp_seq ?_
  refine awp_seq ?_
  refine awp_region ?_
  refine aL_s true rfl rfl (fun _ => q_load 0 tk24 rfl rfl rfl) ?_
  refine aL_s true rfl rfl (fun _ => q_call (by kernel_rfl) rfl (fun w S fp hst => (few29_fn x ad c).quiet0 hst)) ?_
  refine aL_s true rfl rfl (fun _ => q_not rfl) ?_
  refine aL_s true rfl rfl (fun _ => q_move rfl) ?_
  refine aL_s _ rfl rfl (fun hc => q_move rfl) ?_
  refine aL_s _ rfl rfl (fun hc => q_lss (ev_yes rfl hc) rfl) ?_
  refine aL_s true rfl rfl (fun _ => q_or rfl rfl (fun h => gf rfl h)) ?_
  refine aL_s true rfl rfl (fun _ => q_move rfl) ?_
  refine aL_s _ rfl rfl (fun hc => q_move rfl) ?_
  refine aL_s _ rfl rfl (fun hc => q_gtr (ev_yes rfl hc) rfl) ?_
  refine aL_s true rfl rfl (fun _ => q_or rfl rfl (fun h => gf rfl h)) ?_
  refine aL_nil ?_
  refine thn_n ?_
  refine awp_cond _ rfl (fun h1 => ?_) (fun h1 => ?_)
  · skip
    refine awp_seq ?_
    refine awp_region ?_
    refine aL_s true rfl rfl (fun _ => q_move rfl) ?_
    refine aL_s true rfl rfl (fun _ => q_assign rfl) ?_
    refine aL_nil ?_
    refine thn_n ?_
    refine awp_ret ?_
    refine thn_r ?_
    refine fin1 [] [] rfl Tryz.results4 rfl ?_ (.inr rfl)
    rfl
  · skip
    simp only [Bool.or_eq_false_iff, Bool.not_eq_false', decide_eq_false_iff_not] at h1
    obtain ⟨⟨hf, hg0⟩, hg1⟩ := h1
    obtain ⟨f1, f2, f3, f4⟩ := few_of hf
    obtain ⟨g, rfl⟩ : ∃ g : Nat, gg = g := ⟨gg.toNat, by omega⟩
    have hg : g < 16 := by omega
    refine awp_skip ?_
    refine thn_n ?_
    refine awp_seq ?_
    refine awp_region ?_
    refine aL_s true rfl rfl (fun _ => q_load 0 tk24 rfl rfl rfl) ?_
    refine aL_eff (q := true) rfl (e_call [] [] (by kernel_rfl) rfl rfl rfl rfl (memory_fn x ad c (by omega) (by omega)) ?_)
    rintro w ps' hp' ⟨rfl, p, rfl, rfl⟩
    refine aL_st (by (try simp only [List.cons_append, List.nil_append]); rfl) (by (try simp only [putB, place, Nat.reduceBEq, Bool.false_eq_true, if_true, if_false, reduceIte, Option.map_none, Option.map_some, List.getD_cons_zero, List.getD_cons_succ, List.drop_succ_cons, List.drop_zero, List.length_cons, List.length_nil, Nat.reduceAdd, List.drop_nil, beq_self_eq_true, List.set_cons_succ, List.set_cons_zero, List.cons_append, List.nil_append]); rfl) ?_
    refine aL_s true rfl rfl (fun _ => q_assign rfl) ?_
    refine aL_nil ?_
    refine thn_n ?_
    refine awp_seq ?_
    refine awp_region ?_
    refine aL_s true rfl rfl (fun _ => q_load 0 tk24 rfl rfl rfl) ?_
    refine aL_eff (q := true) rfl (e_call [] [] (by kernel_rfl) rfl rfl rfl rfl (memory_fn x ad c (by omega) (by omega)) ?_)
    rintro w ps' hp' ⟨rfl, q, rfl, rfl⟩
    refine aL_st (by (try simp only [List.cons_append, List.nil_append]); rfl) (by (try simp only [putB, place, Nat.reduceBEq, Bool.false_eq_true, if_true, if_false, reduceIte, Option.map_none, Option.map_some, List.getD_cons_zero, List.getD_cons_succ, List.drop_succ_cons, List.drop_zero, List.length_cons, List.length_nil, Nat.reduceAdd, List.drop_nil, beq_self_eq_true, List.set_cons_succ, List.set_cons_zero, List.cons_append, List.nil_append]); rfl) ?_
    refine aL_s true rfl rfl (fun _ => q_assign rfl) ?_
    refine aL_nil ?_
    refine thn_n ?_
    refine awp_seq ?_
    refine awp_seq ?_
    refine awp_region ?_
    refine aL_s true rfl rfl (fun _ => q_move rfl) ?_
    refine aL_s true rfl rfl (fun _ => q_ptrNil (by kernel_rfl) rfl) ?_
    refine aL_s true rfl rfl (fun _ => q_move rfl) ?_
    refine aL_s _ rfl rfl (fun hc => q_move rfl) ?_
    refine aL_s _ rfl rfl (fun hc => q_ptrNil (by kernel_rfl) (ev_yes rfl hc)) ?_
    refine aL_s true rfl rfl (fun _ => q_or rfl rfl (fun h => gf rfl h)) ?_
    refine aL_nil ?_
    refine thn_n ?_
    refine awp_cond _ rfl (fun h2 => ?_) (fun h2 => ?_)
    · skip
      exact absurd h2 (by simp)
    · skip
      refine awp_skip ?_
      refine thn_n ?_
      refine awp_seq ?_
      refine awp_region ?_
      refine aL_s true rfl rfl (fun _ => q_move rfl) ?_
      refine aL_s true rfl rfl (fun _ => q_fieldAddr (off := 4) (by kernel_rfl) rfl) ?_
      refine aL_s true rfl rfl (fun _ => q_load 0 tk3 rfl rfl rfl) ?_
      refine aL_s true rfl rfl (fun _ => q_call (by kernel_rfl) rfl (fun w S fp hst => q_spread hst 1 rfl x.pc 8 hp)) ?_
      refine aL_s true rfl rfl (fun _ => q_move rfl) ?_
      refine aL_s true rfl rfl (fun _ => q_extract rfl rfl) ?_
      refine aL_s true rfl rfl (fun _ => q_extract rfl rfl) ?_
      refine aL_s true rfl rfl (fun _ => q_assign rfl) ?_
      refine aL_s true rfl rfl (fun _ => q_assign rfl) ?_
      refine aL_nil ?_
      refine thn_n ?_
      refine awp_seq ?_
      refine awp_region ?_
      refine aL_s true rfl rfl (fun _ => q_move rfl) ?_
      refine aL_s true rfl rfl (fun _ => q_call (by kernel_rfl) rfl (fun w S fp hst => (decode_fn _ (by rw [ofBytes_size]; have := readM_len (memS x) x.pc 8; unfold maxLen; omega)).quiet1 (by simp) hst)) ?_
      refine aL_s true rfl rfl (fun _ => q_move rfl) ?_
      refine aL_s true rfl rfl (fun _ => q_extract rfl rfl) ?_
      refine aL_s true rfl rfl (fun _ => q_extract rfl rfl) ?_
      refine aL_eff (q := true) rfl (x_alloc (zs := [.int .i64 0, .int .i64 0, .int .i64 0, .int .i64 0, .int .i64 0]) (by kernel_rfl) rfl (fun b9_5 => ?_))
      refine aL_hp (by (try simp only [List.cons_append, List.nil_append]); rfl) ?_
      refine aL_eff rfl (x_store 3 tk46 rfl rfl rfl rfl ?_)
      refine aL_hp (by simp only [List.set_cons_succ, List.set_cons_zero]; rfl) ?_
      refine aL_s true rfl rfl (fun _ => q_assign rfl) ?_
      refine aL_nil ?_
      refine thn_n ?_
      refine awp_seq ?_
      refine awp_seq ?_
      refine awp_region ?_
      refine aL_s true rfl rfl (fun _ => q_move rfl) ?_
      refine aL_s true rfl rfl (fun _ => q_not rfl) ?_
      refine aL_nil ?_
      refine thn_n ?_
      refine awp_cond _ rfl (fun h3 => ?_) (fun h3 => ?_)
      · skip
        refine awp_seq ?_
        refine awp_region ?_
        refine aL_s true rfl rfl (fun _ => q_move rfl) ?_
        refine aL_s true rfl rfl (fun _ => q_assign rfl) ?_
        refine aL_nil ?_
        refine thn_n ?_
        refine awp_ret ?_
        refine thn_r ?_
        refine fin1 [] [] rfl Tryz.results4 rfl ?_ (.inr rfl)
        rfl
      · skip
        obtain ⟨i, hi⟩ : ∃ i, decI (ofBytes (readM (memS x) x.pc 8).1).data.toList = some i := by
          cases h : decI (ofBytes (readM (memS x) x.pc 8).1).data.toList with
          | none => rw [h] at h3; cases h3
          | some i => exact ⟨i, rfl⟩
        have hri := decI_right hi
        have him := decI_imm hi
        have hi' : decI (readM (memS x) (cpuS x).pc 8).1 = some i := hi
        have hok2 : CpuOk ((cpuS x).set g v) := ⟨upd_in hok.r hv, hok.pc⟩
        rw [hi]
        refine awp_skip ?_
        refine thn_n ?_
        refine awp_seq ?_
        refine awp_region ?_
        refine aL_s true rfl rfl (fun _ => q_load 3 tk46 rfl rfl rfl) ?_
        refine aL_eff (q := true) rfl (e_call [1, 0] [] (by kernel_rfl) rfl rfl rfl rfl (uses_fn i him hri) ?_)
        rintro w ps' hp' ⟨rfl, a1, c1, l1, a2, c2, l2, rfl, rfl, hU⟩; have HU := useFacts (g := g) (v := v) hi' hU
        refine aL_st (by (try simp only [List.cons_append, List.nil_append]); rfl) (by (try simp only [putB, place, Nat.reduceBEq, Bool.false_eq_true, if_true, if_false, reduceIte, Option.map_none, Option.map_some, List.getD_cons_zero, List.getD_cons_succ, List.drop_succ_cons, List.drop_zero, List.length_cons, List.length_nil, Nat.reduceAdd, List.drop_nil, beq_self_eq_true, List.set_cons_succ, List.set_cons_zero, List.cons_append, List.nil_append]); rfl) ?_
        refine aL_s true rfl rfl (fun _ => q_move rfl) ?_
        refine aL_s true rfl rfl (fun _ => q_extract rfl rfl) ?_
        refine aL_s true rfl rfl (fun _ => q_extract rfl rfl) ?_
        refine aL_s true rfl rfl (fun _ => q_assign rfl) ?_
        refine aL_s true rfl rfl (fun _ => q_assign rfl) ?_
        refine aL_nil ?_
        refine thn_n ?_
        refine awp_seq ?_
        refine awp_region ?_
        refine aL_s true rfl rfl (fun _ => q_load 0 tk24 rfl rfl rfl) ?_
        refine aL_s true rfl rfl (fun _ => q_call (by kernel_rfl) rfl (fun w S fp hst => (cpu_fn x ad c).quiet1 (by simp) hst)) ?_
        refine aL_eff (q := true) rfl (x_alloc (zs := [.int .i64 0, .int .i64 0, .int .i64 0, .int .i64 0, .int .i64 0, .int .i64 0, .int .i64 0, .int .i64 0, .int .i64 0, .int .i64 0, .int .i64 0, .int .i64 0, .int .i64 0, .int .i64 0, .int .i64 0, .int .i64 0, .int .i64 0]) (by kernel_rfl) rfl (fun b13_2 => ?_))
        refine aL_hp (by (try simp only [List.cons_append, List.nil_append]); rfl) ?_
        refine aL_eff rfl (x_store 4 tk33 rfl rfl rfl rfl ?_)
        refine aL_hp (by simp only [List.set_cons_succ, List.set_cons_zero]; rfl) ?_
        refine aL_nil ?_
        refine thn_n ?_
        refine awp_seq ?_
        refine awp_region ?_
        refine aL_s true rfl rfl (fun _ => q_load 4 tk33 rfl rfl rfl) ?_
        refine aL_eff (q := true) rfl (x_alloc (zs := [.int .i64 0, .int .i64 0, .int .i64 0, .int .i64 0, .int .i64 0, .int .i64 0, .int .i64 0, .int .i64 0, .int .i64 0, .int .i64 0, .int .i64 0, .int .i64 0, .int .i64 0, .int .i64 0, .int .i64 0, .int .i64 0, .int .i64 0]) (by kernel_rfl) rfl (fun b14_1 => ?_))
        refine aL_hp (by (try simp only [List.cons_append, List.nil_append]); rfl) ?_
        refine aL_eff rfl (x_store 5 tk33 rfl rfl rfl rfl ?_)
        refine aL_hp (by simp only [List.set_cons_succ, List.set_cons_zero]; rfl) ?_
        refine aL_nil ?_
        refine thn_n ?_
        refine awp_seq ?_
        refine awp_region ?_
        refine aL_s true rfl rfl (fun _ => q_move rfl) ?_
        refine aL_s true rfl rfl (fun _ => q_move rfl) ?_
        refine aL_s true rfl rfl (fun _ => q_fieldAddr (off := 0) (by kernel_rfl) rfl) ?_
        refine aL_s true rfl rfl (fun _ => q_idxArr (g) Tryz.underlying31 tk3 rfl rfl (rfl) (hg)) ?_
        refine aL_eff rfl (e_storeW 5 ([.int .i64 v]) (cpuV ((cpuS x).set g v)) tk3 rfl rfl rfl rfl rfl (fun v hv => by rw [List.mem_singleton.1 hv]; rfl) (by show _ ≤ 17; omega) (by show wrC (cpuV (cpuS x)) (0 + 0 + g * 1) _ = _; rw [show 0 + 0 + g * 1 = g by omega]; exact cpu_wr _ _ hg) ?_)
        refine aL_hp (by simp only [List.set_cons_succ, List.set_cons_zero]; rfl) ?_
        refine aL_nil ?_
        refine thn_n ?_
        refine awp_seq ?_
        refine awp_region ?_
        refine aL_s true rfl rfl (fun _ => q_move rfl) ?_
        refine aL_s true rfl rfl (fun _ => q_load 4 tk33 rfl rfl rfl) ?_
        refine aL_eff (q := false) rfl (e_call [1] [1] (by kernel_rfl) rfl rfl rfl rfl (step_fn p (memS x) (cpuS x) hok) ?_)
        rintro w ps' hp' ⟨rfl, rfl, rfl⟩; generalize hS1 : stepM (memS x) (cpuS x) = S1 at HU ⊢
        refine aL_st (by (try simp only [List.cons_append, List.nil_append]); rfl) (by (try simp only [putB, place, Nat.reduceBEq, Bool.false_eq_true, if_true, if_false, reduceIte, Option.map_none, Option.map_some, List.getD_cons_zero, List.getD_cons_succ, List.drop_succ_cons, List.drop_zero, List.length_cons, List.length_nil, Nat.reduceAdd, List.drop_nil, beq_self_eq_true, List.set_cons_succ, List.set_cons_zero, List.cons_append, List.nil_append]); rfl) ?_
        refine aL_s true rfl rfl (fun _ => q_move rfl) ?_
        refine aL_s true rfl rfl (fun _ => q_extract rfl rfl) ?_
        refine aL_s true rfl rfl (fun _ => q_extract rfl rfl) ?_
        refine aL_eff (q := true) rfl (x_alloc (zs := [.int .i64 0, .int .i64 0, .int .i64 0, .int .i64 0, .int .i64 0, .int .i64 0, .int .i64 0, .int .i64 0, .int .i64 0, .int .i64 0, .int .i64 0, .int .i64 0, .int .i64 0, .int .i64 0, .int .i64 0, .int .i64 0, .int .i64 0]) (by kernel_rfl) rfl (fun b16_6 => ?_))
        refine aL_hp (by (try simp only [List.cons_append, List.nil_append]); rfl) ?_
        refine aL_eff (q := true) rfl (x_alloc (zs := [.int .i64 0, .int .i64 0]) (by kernel_rfl) rfl (fun b16_7 => ?_))
        refine aL_hp (by (try simp only [List.cons_append, List.nil_append]); rfl) ?_
        refine aL_eff rfl (x_store 6 tk33 rfl rfl rfl rfl ?_)
        refine aL_hp (by simp only [List.set_cons_succ, List.set_cons_zero]; rfl) ?_
        refine aL_eff rfl (x_store 7 tk36 rfl rfl rfl rfl ?_)
        refine aL_hp (by simp only [List.set_cons_succ, List.set_cons_zero]; rfl) ?_
        refine aL_nil ?_
        refine thn_n ?_
        refine awp_seq ?_
        refine awp_region ?_
        refine aL_s true rfl rfl (fun _ => q_move rfl) ?_
        refine aL_s true rfl rfl (fun _ => q_load 5 tk33 rfl rfl rfl) ?_
        refine aL_eff (q := false) rfl (e_call [1] [2] (by kernel_rfl) rfl rfl rfl rfl (step_fn q (memS x) ((cpuS x).set g v) hok2) ?_)
        rintro w ps' hp' ⟨rfl, rfl, rfl⟩; generalize hS2 : stepM (memS x) ((cpuS x).set g v) = S2 at HU ⊢
        refine aL_st (by (try simp only [List.cons_append, List.nil_append]); rfl) (by (try simp only [putB, place, Nat.reduceBEq, Bool.false_eq_true, if_true, if_false, reduceIte, Option.map_none, Option.map_some, List.getD_cons_zero, List.getD_cons_succ, List.drop_succ_cons, List.drop_zero, List.length_cons, List.length_nil, Nat.reduceAdd, List.drop_nil, beq_self_eq_true, List.set_cons_succ, List.set_cons_zero, List.cons_append, List.nil_append]); rfl) ?_
        refine aL_s true rfl rfl (fun _ => q_move rfl) ?_
        refine aL_s true rfl rfl (fun _ => q_extract rfl rfl) ?_
        refine aL_s true rfl rfl (fun _ => q_extract rfl rfl) ?_
        refine aL_eff (q := true) rfl (x_alloc (zs := [.int .i64 0, .int .i64 0, .int .i64 0, .int .i64 0, .int .i64 0, .int .i64 0, .int .i64 0, .int .i64 0, .int .i64 0, .int .i64 0, .int .i64 0, .int .i64 0, .int .i64 0, .int .i64 0, .int .i64 0, .int .i64 0, .int .i64 0]) (by kernel_rfl) rfl (fun b17_6 => ?_))
        refine aL_hp (by (try simp only [List.cons_append, List.nil_append]); rfl) ?_
        refine aL_eff (q := true) rfl (x_alloc (zs := [.int .i64 0, .int .i64 0]) (by kernel_rfl) rfl (fun b17_7 => ?_))
        refine aL_hp (by (try simp only [List.cons_append, List.nil_append]); rfl) ?_
        refine aL_eff rfl (x_store 8 tk33 rfl rfl rfl rfl ?_)
        refine aL_hp (by simp only [List.set_cons_succ, List.set_cons_zero]; rfl) ?_
        refine aL_eff rfl (x_store 9 tk36 rfl rfl rfl rfl ?_)
        refine aL_hp (by simp only [List.set_cons_succ, List.set_cons_zero]; rfl) ?_
        refine aL_nil ?_
        refine thn_n ?_
        refine awp_seq ?_
        refine awp_seq ?_
        refine awp_region ?_
        refine aL_s true rfl rfl (fun _ => q_assign rfl) ?_
        refine aL_nil ?_
        refine thn_n ?_
        refine awp_block ?_
        refine awp_loopK [1, 2, 3, 7, 8, 9, 12, 14, 15, 16, 18, 19, 20, 21, 22] [4, 3, 2, 1, 0] [0, 1, 2, 3, 4, 5, 6, 7, 8, 9] (fun (k : Nat) s => k ≤ 16 ∧ s = ⟨[(1, true, .int .i64 g), (2, true, .int .i64 v), (3, true, .pointer (some ⟨b0_0, 0, none⟩)), (7, true, .bool true), (8, true, .pointer (some ⟨p, 0, none⟩)), (9, true, .pointer (some ⟨q, 0, none⟩)), (12, true, .pointer (some ⟨b9_5, 0, none⟩)), (14, true, .slice a1 l1.length c1), (15, true, .slice a2 l2.length c2), (16, true, .pointer (some ⟨b13_2, 0, none⟩)), (18, true, .pointer (some ⟨b16_6, 0, none⟩)), (19, true, .pointer (some ⟨b16_7, 0, none⟩)), (20, true, .pointer (some ⟨b17_6, 0, none⟩)), (21, true, .pointer (some ⟨b17_7, 0, none⟩)), (22, true, .int .i64 k)], [Sh (.slice a1 l1.length c1) (.sl (encR encI l1)), Sh (.slice a2 l2.length c2) (.sl (encR encI l2)), Sh (.slice ad x.regs.length c) (.sl (irows x.regs)), formsAt, callsAt], [Box b0_0 24 (stgV x ad c), SpR p S1.2.2, SpR q S2.2.2, Box b9_5 46 (insV i), Box b13_2 33 (cpuV (cpuS x)), Box b14_1 33 (cpuV ((cpuS x).set g v)), Box b16_6 33 (cpuV S1.1), Box b16_7 36 (evV S1.2.1.1 S1.2.1.2), Box b17_6 33 (cpuV S2.1), Box b17_7 36 (evV S2.2.1.1 S2.2.1.2)]⟩) (fun k => 16 - k) rfl (⟨0, Nat.zero_le _, rfl⟩) ?_
        rintro k s ⟨hk, rfl⟩
        refine awp_seq ?_
        refine awp_seq ?_
        refine awp_region ?_
        refine aL_s true rfl rfl (fun _ => q_move rfl) ?_
        refine aL_s true rfl rfl (fun _ => q_lss rfl rfl) ?_
        refine aL_s true rfl rfl (fun _ => q_move rfl) ?_
        refine aL_s _ rfl rfl (fun hc => q_fieldAddr (off := 0) (by kernel_rfl) rfl) ?_
        refine aL_s _ rfl rfl (fun hc => q_load 3 tk3 (ev_yes rfl hc) rfl rfl) ?_
        refine aL_s _ rfl rfl (fun hc => q_neq (ev_yes rfl hc) rfl) ?_
        refine aL_s true rfl rfl (fun _ => q_and rfl rfl (fun h => gt rfl h)) ?_
        refine aL_nil ?_
        refine thn_n ?_
        refine awp_cond _ rfl (fun h4 => ?_) (fun h4 => ?_)
        · skip
          have hk' : k < 16 ∧ i.op ≠ 30 := by simp at h4; omega
          refine awp_skip ?_
          refine thn_n ?_
          refine awp_seq ?_
          refine awp_block ?_
          refine awp_seq ?_
          refine awp_drawnC [] [] [] (by kernel_rfl) ?_
          show aC _ _ _ _ _ _ _ 15 #[false, false, false, false, false, false, false, false, false, false, false, false, false, false, false] _
          refine aC_f 0 rfl (by kernel_rfl) true rfl rfl (fun _ => q_move rfl) ?_
          refine aC_st (by (try simp only [List.setIfInBounds_toArray, List.set_cons_succ, List.set_cons_zero]); rfl) rfl rfl ?_
          refine aC_f 1 rfl (by kernel_rfl) true rfl rfl (fun _ => q_move rfl) ?_
          refine aC_st (by (try simp only [List.setIfInBounds_toArray, List.set_cons_succ, List.set_cons_zero]); rfl) rfl rfl ?_
          refine aC_f 2 rfl (by kernel_rfl) true rfl rfl (fun _ => q_call (by kernel_rfl) rfl (fun w S fp hst => (has_fn l2 a2 c2 k).quiet1 (by simp) hst)) ?_
          refine aC_st (by (try simp only [List.setIfInBounds_toArray, List.set_cons_succ, List.set_cons_zero]); rfl) rfl rfl ?_
          refine aC_f 3 rfl (by kernel_rfl) true rfl rfl (fun _ => q_not rfl) ?_
          refine aC_st (by (try simp only [List.setIfInBounds_toArray, List.set_cons_succ, List.set_cons_zero]); rfl) rfl rfl ?_
          refine aC_f 4 rfl (by kernel_rfl) true rfl rfl (fun _ => q_move rfl) ?_
          refine aC_st (by (try simp only [List.setIfInBounds_toArray, List.set_cons_succ, List.set_cons_zero]); rfl) rfl rfl ?_
          refine aC_f 5 rfl (by kernel_rfl) _ rfl rfl (fun hc => q_move rfl) ?_
          refine aC_st (by (try simp only [List.setIfInBounds_toArray, List.set_cons_succ, List.set_cons_zero]); rfl) rfl rfl ?_
          refine aC_f 6 rfl (by kernel_rfl) _ rfl rfl (fun hc => q_fieldAddr (off := 0) (by kernel_rfl) rfl) ?_
          refine aC_st (by (try simp only [List.setIfInBounds_toArray, List.set_cons_succ, List.set_cons_zero]); rfl) rfl rfl ?_
          refine aC_f 7 rfl (by kernel_rfl) _ rfl rfl (fun hc => q_idxArr (k) Tryz.underlying31 tk3 (ev_yes rfl hc) (ev_yes rfl hc) (rfl) (hk'.1)) ?_
          refine aC_st (by (try simp only [List.setIfInBounds_toArray, List.set_cons_succ, List.set_cons_zero]); rfl) rfl rfl ?_
          refine aC_q 8 rfl (by kernel_rfl) _ rfl rfl (fun hc => q_load (v := .int .i64 (S1.1.r k)) 6 tk3 (ev_yes rfl hc) rfl (cpuV_get0 S1.1 hk'.1)) ?_
          refine aC_st (by (try simp only [List.setIfInBounds_toArray, List.set_cons_succ, List.set_cons_zero]); rfl) rfl rfl ?_
          refine aC_f 9 rfl (by kernel_rfl) _ rfl rfl (fun hc => q_move rfl) ?_
          refine aC_st (by (try simp only [List.setIfInBounds_toArray, List.set_cons_succ, List.set_cons_zero]); rfl) rfl rfl ?_
          refine aC_f 10 rfl (by kernel_rfl) _ rfl rfl (fun hc => q_fieldAddr (off := 0) (by kernel_rfl) rfl) ?_
          refine aC_st (by (try simp only [List.setIfInBounds_toArray, List.set_cons_succ, List.set_cons_zero]); rfl) rfl rfl ?_
          refine aC_f 11 rfl (by kernel_rfl) _ rfl rfl (fun hc => q_idxArr (k) Tryz.underlying31 tk3 (ev_yes rfl hc) (ev_yes rfl hc) (rfl) (hk'.1)) ?_
          refine aC_st (by (try simp only [List.setIfInBounds_toArray, List.set_cons_succ, List.set_cons_zero]); rfl) rfl rfl ?_
          refine aC_q 12 rfl (by kernel_rfl) _ rfl rfl (fun hc => q_load (v := .int .i64 ((cpuS x).r k)) 4 tk3 (ev_yes rfl hc) rfl (cpuV_get0 (cpuS x) hk'.1)) ?_
          refine aC_st (by (try simp only [List.setIfInBounds_toArray, List.set_cons_succ, List.set_cons_zero]); rfl) rfl rfl ?_
          refine aC_f 13 rfl (by kernel_rfl) _ rfl rfl (fun hc => q_neq (ev_yes rfl hc) (ev_yes rfl hc)) ?_
          refine aC_st (by (try simp only [List.setIfInBounds_toArray, List.set_cons_succ, List.set_cons_zero]); rfl) rfl rfl ?_
          refine aC_f 14 rfl (by kernel_rfl) true rfl rfl (fun _ => q_and rfl rfl (fun h => gt rfl h)) ?_
          refine aC_st (by (try simp only [List.setIfInBounds_toArray, List.set_cons_succ, List.set_cons_zero]); rfl) rfl rfl ?_
          refine aC_nil (by kernel_rfl) ?_
          refine thn_n ?_
          refine awp_cond _ rfl (fun h5 => ?_) (fun h5 => ?_)
          · skip
            exfalso
            simp only [Bool.and_eq_true, Bool.not_eq_true', decide_eq_true_eq] at h5
            exact absurd h5.2 (by simp [HU.keep hk'.2 k fun hm => by have := List.contains_iff_mem.2 hm; rw [h5.1] at this; cases this])
          · skip
            refine awp_skip ?_
            refine blk_n ?_
            refine thn_n ?_
            refine awp_region ?_
            refine aL_s true rfl rfl (fun _ => q_move rfl) ?_
            refine aL_s true rfl rfl (fun _ => q_addi rfl rfl (by omega)) ?_
            refine aL_s true rfl rfl (fun _ => q_assign rfl) ?_
            refine aL_nil ?_
            refine thn_n ?_
            refine ⟨[1, 2, 3, 7, 8, 9, 12, 14, 15, 16, 18, 19, 20, 21, 22], [4, 3, 2, 1, 0], [0, 1, 2, 3, 4, 5, 6, 7, 8, 9], rfl, ?_⟩
            refine ⟨k + 1, ⟨by omega, rfl⟩, by omega⟩
        · skip
          refine awp_exit ?_
          refine thn_e ?_
          refine thn_e ?_
          refine blk_hit ?_
          refine thn_n ?_
          refine awp_seq ?_
          refine awp_seq ?_
          refine awp_region ?_
          refine aL_s true rfl rfl (fun _ => q_fieldAddr (off := 0) (by kernel_rfl) rfl) ?_
          refine aL_s true rfl rfl (fun _ => q_load 3 tk3 rfl rfl rfl) ?_
          refine aL_s true rfl rfl (fun _ => q_eql rfl rfl) ?_
          refine aL_s true rfl rfl (fun _ => q_move rfl) ?_
          refine aL_s _ rfl rfl (fun hc => q_fieldAddr (off := 0) (by kernel_rfl) rfl) ?_
          refine aL_s _ rfl rfl (fun hc => q_load 6 tk31 (ev_yes rfl hc) rfl rfl) ?_
          refine aL_s _ rfl rfl (fun hc => q_fieldAddr (off := 0) (by kernel_rfl) rfl) ?_
          refine aL_s _ rfl rfl (fun hc => q_load 4 tk31 (ev_yes rfl hc) rfl rfl) ?_
          refine aL_s _ rfl rfl (fun hc => qarr_neq Tryz.underlying31 (by kernel_rfl) (by kernel_rfl) (by kernel_rfl) (by rfl) (by rfl) (ev_yes rfl hc) (ev_yes rfl hc)) ?_
          refine aL_s true rfl rfl (fun _ => q_and rfl rfl (fun h => gt rfl h)) ?_
          refine aL_nil ?_
          refine thn_n ?_
          refine awp_cond _ rfl (fun h6 => ?_) (fun h6 => ?_)
          · skip
            exfalso
            simp only [Bool.and_eq_true, decide_eq_true_eq] at h6
            have h30 : i.op = 30 := by omega
            have e : S1.1.r = (cpuS x).r := funext (HU.sys h30)
            rw [e, eqInts_refl] at h6
            cases h6.2
          · skip
            refine awp_skip ?_
            refine thn_n ?_
            refine awp_seq ?_
            refine awp_seq ?_
            refine awp_region ?_
            refine aL_s true rfl rfl (fun _ => q_move rfl) ?_
            refine aL_s true rfl rfl (fun _ => q_move rfl) ?_
            refine aL_s true rfl rfl (fun _ => q_call (by kernel_rfl) rfl (fun w S fp hst => (has_fn l1 a1 c1 g).quiet1 (by simp) hst)) ?_
            refine aL_nil ?_
            refine thn_n ?_
            refine awp_cond _ rfl (fun h7 => ?_) (fun h7 => ?_)
            · skip
              refine awp_seq ?_
              refine awp_region ?_
              refine aL_s true rfl rfl (fun _ => q_move rfl) ?_
              refine aL_s true rfl rfl (fun _ => q_assign rfl) ?_
              refine aL_nil ?_
              refine thn_n ?_
              refine awp_ret ?_
              refine thn_r ?_
              refine fin1 [] [] rfl Tryz.results4 rfl ?_ (.inr rfl)
              rfl
            · skip
              have hno : ¬ (g : Int) ∈ l1 := fun hm => by have := List.contains_iff_mem.2 hm; rw [h7] at this; cases this
              obtain ⟨C1, E1, M1⟩ := S1
              obtain ⟨C2, E2, M2⟩ := S2
              obtain ⟨s1, s2, s3, s4⟩ := HU.sim hno
              dsimp only at s1 s2 s3 s4
              simp only [Prod.mk.injEq] at s1
              obtain ⟨rfl, rfl⟩ := s1
              dsimp only
              refine awp_skip ?_
              refine thn_n ?_
              refine awp_seq ?_
              refine awp_seq ?_
              refine awp_drawnC [13, 16] [] [b0_0, b16_6, b16_7, b17_6, b17_7] (by kernel_rfl) ?_
              show aC _ _ _ _ _ _ _ 19 #[false, false, false, false, false, false, false, false, false, false, false, false, false, false, false, false, false, false, false] _
              refine aC_join (X := Unit) (fun _ => ⟨[(1, true, .int .i64 g), (2, true, .int .i64 v), (7, true, .bool true), (16, true, .pointer (some ⟨b13_2, 0, none⟩)), (18, true, .pointer (some ⟨b16_6, 0, none⟩)), (20, true, .pointer (some ⟨b17_6, 0, none⟩)), (142, true, .bool false)], [], [Box b13_2 33 (cpuV (cpuS x)), Box b16_6 33 (cpuV C1), Box b17_6 33 (cpuV C2)]⟩) ?_ ?_
              · skip
                refine aC_box 0 7 rfl (by kernel_rfl) true rfl rfl (by simp) tk36 (fun _ => rfl) rfl rfl ?_
                refine aC_st (by (try simp only [List.setIfInBounds_toArray, List.set_cons_succ, List.set_cons_zero]); rfl) rfl rfl ?_
                refine aC_box 1 9 rfl (by kernel_rfl) true rfl rfl (by simp) tk36 (fun _ => rfl) rfl rfl ?_
                refine aC_st (by (try simp only [List.setIfInBounds_toArray, List.set_cons_succ, List.set_cons_zero]); rfl) rfl rfl ?_
                refine aC_f 2 rfl (by kernel_rfl) true rfl rfl (fun _ => (qa_neq (by kernel_rfl) (by kernel_rfl) (by kernel_rfl) (fun w => eqFields_mix 9997 _ _ _ [0, 1] w (by kernel_rfl) (by kernel_rfl) rfl rfl) rfl rfl).cast (neq_same _ _)) ?_
                refine aC_st (by (try simp only [List.setIfInBounds_toArray, List.set_cons_succ, List.set_cons_zero]); rfl) rfl rfl ?_
                refine aC_f 3 rfl (by kernel_rfl) true rfl rfl (fun _ => q_move rfl) ?_
                refine aC_st (by (try simp only [List.setIfInBounds_toArray, List.set_cons_succ, List.set_cons_zero]); rfl) rfl rfl ?_
                refine aC_f 4 rfl (by kernel_rfl) true rfl rfl (fun _ => q_fieldAddr (off := 16) (by kernel_rfl) rfl) ?_
                refine aC_st (by (try simp only [List.setIfInBounds_toArray, List.set_cons_succ, List.set_cons_zero]); rfl) rfl rfl ?_
                refine aC_box 5 6 rfl (by kernel_rfl) true rfl rfl (by simp) tk3 (fun _ => rfl) rfl rfl ?_
                refine aC_st (by (try simp only [List.setIfInBounds_toArray, List.set_cons_succ, List.set_cons_zero]); rfl) rfl rfl ?_
                refine aC_f 6 rfl (by kernel_rfl) true rfl rfl (fun _ => q_fieldAddr (off := 16) (by kernel_rfl) rfl) ?_
                refine aC_st (by (try simp only [List.setIfInBounds_toArray, List.set_cons_succ, List.set_cons_zero]); rfl) rfl rfl ?_
                refine aC_box 7 8 rfl (by kernel_rfl) true rfl rfl (by simp) tk3 (fun _ => rfl) rfl rfl ?_
                refine aC_st (by (try simp only [List.setIfInBounds_toArray, List.set_cons_succ, List.set_cons_zero]); rfl) rfl rfl ?_
                refine aC_f 8 rfl (by kernel_rfl) true rfl rfl (fun _ => (q_neq rfl rfl).cast (v' := .bool false) (by rw [s2]; simp)) ?_
                refine aC_st (by (try simp only [List.setIfInBounds_toArray, List.set_cons_succ, List.set_cons_zero]); rfl) rfl rfl ?_
                refine aC_f 9 rfl (by kernel_rfl) true rfl rfl (fun _ => q_or rfl rfl (fun _ => rfl)) ?_
                refine aC_st (by (try simp only [List.setIfInBounds_toArray, List.set_cons_succ, List.set_cons_zero]); rfl) rfl rfl ?_
                refine aC_f 10 rfl (by kernel_rfl) true rfl rfl (fun _ => q_move rfl) ?_
                refine aC_st (by (try simp only [List.setIfInBounds_toArray, List.set_cons_succ, List.set_cons_zero]); rfl) rfl rfl ?_
                refine aC_f 11 rfl (by kernel_rfl) true rfl rfl (fun _ => q_move rfl) ?_
                refine aC_st (by (try simp only [List.setIfInBounds_toArray, List.set_cons_succ, List.set_cons_zero]); rfl) rfl rfl ?_
                refine aC_box 12 0 rfl (by kernel_rfl) true rfl rfl (by simp) tk24 (fun _ => rfl) rfl rfl ?_
                refine aC_st (by (try simp only [List.setIfInBounds_toArray, List.set_cons_succ, List.set_cons_zero]); rfl) rfl rfl ?_
                refine aC_f 14 rfl (by kernel_rfl) true rfl rfl (fun _ => q_move rfl) ?_
                refine aC_st (by (try simp only [List.setIfInBounds_toArray, List.set_cons_succ, List.set_cons_zero]); rfl) rfl rfl ?_
                refine aC_box 15 0 rfl (by kernel_rfl) true rfl rfl (by simp) tk24 (fun _ => rfl) rfl rfl ?_
                refine aC_st (by (try simp only [List.setIfInBounds_toArray, List.set_cons_succ, List.set_cons_zero]); rfl) rfl rfl ?_
                refine aC_arms 13 [] (by kernel_rfl) (arms_cons ?_ arms_nil)
                refine aC_arm 13 rfl rfl ?_
                refine Eff.framed (q := false) [1] rfl rfl (zcons 0 rfl rfl (zcons 6 rfl rfl (zcons 7 rfl rfl (zcons 8 rfl rfl (zcons 9 rfl rfl znil))))) ?_
                refine id (e_call [] [0] (by kernel_rfl) rfl rfl rfl rfl (bytes_fn x ad c p _ f1 f2 f3) ?_)
                rintro w ps' hp' ⟨rfl, rfl, rfl⟩
                refine fr_mk ?_
                refine aC_st (by (try simp only [List.setIfInBounds_toArray, List.set_cons_succ, List.set_cons_zero]); rfl) (by (try simp only [List.cons_append, List.nil_append]); rfl) (by (try simp only [keepH, List.map_cons, List.map_nil, putB, place, Nat.reduceBEq, Bool.false_eq_true, if_true, if_false, reduceIte, Option.map_none, Option.map_some, List.getD_cons_zero, List.getD_cons_succ, List.drop_succ_cons, List.drop_zero, List.length_cons, List.length_nil, Nat.reduceAdd, List.drop_nil, beq_self_eq_true, List.set_cons_succ, List.set_cons_zero, List.cons_append, List.nil_append]); rfl) ?_
                refine aC_arms 16 [] (by kernel_rfl) (arms_cons ?_ arms_nil)
                refine aC_arm 16 rfl rfl ?_
                refine Eff.framed (q := false) [2] rfl rfl (zcons 0 rfl rfl (zcons 6 rfl rfl (zcons 7 rfl rfl (zcons 8 rfl rfl (zcons 9 rfl rfl znil))))) ?_
                refine id (e_call [] [0] (by kernel_rfl) rfl rfl rfl rfl (bytes_fn x ad c q _ f1 f2 f3) ?_)
                rintro w ps' hp' ⟨rfl, rfl, rfl⟩
                refine fr_mk ?_
                refine aC_st (by (try simp only [List.setIfInBounds_toArray, List.set_cons_succ, List.set_cons_zero]); rfl) (by (try simp only [List.cons_append, List.nil_append]); rfl) (by (try simp only [keepH, List.map_cons, List.map_nil, putB, place, Nat.reduceBEq, Bool.false_eq_true, if_true, if_false, reduceIte, Option.map_none, Option.map_some, List.getD_cons_zero, List.getD_cons_succ, List.drop_succ_cons, List.drop_zero, List.length_cons, List.length_nil, Nat.reduceAdd, List.drop_nil, beq_self_eq_true, List.set_cons_succ, List.set_cons_zero, List.cons_append, List.nil_append]); rfl) ?_
                refine aC_f 17 rfl (by kernel_rfl) true rfl rfl (fun _ => (qs_neq rfl rfl).cast (v' := .bool false) (by simp)) ?_
                refine aC_st (by (try simp only [List.setIfInBounds_toArray, List.set_cons_succ, List.set_cons_zero]); rfl) rfl rfl ?_
                refine aC_f 18 rfl (by kernel_rfl) true rfl rfl (fun _ => q_or rfl rfl (fun _ => rfl)) ?_
                refine aC_st (by (try simp only [List.setIfInBounds_toArray, List.set_cons_succ, List.set_cons_zero]); rfl) rfl rfl ?_
                refine aC_nil (by kernel_rfl) ?_
                exact ⟨rfl, [1, 2, 7, 16, 18, 20, 142], [], [4, 6, 8], (), rfl, rfl⟩
              · skip
                rintro ⟨⟩
                refine thn_n ?_
                refine awp_cond _ rfl (fun h8 => ?_) (fun h8 => ?_)
                · skip
                  exact absurd h8 (by simp)
                · skip
                  refine awp_skip ?_
                  refine thn_n ?_
                  refine awp_seq ?_
                  refine awp_seq ?_
                  refine awp_region ?_
                  refine aL_s true rfl rfl (fun _ => q_assign rfl) ?_
                  refine aL_nil ?_
                  refine thn_n ?_
                  refine awp_block ?_
                  refine awp_loopK [1, 2, 7, 16, 18, 20, 23] [] [0, 1, 2] (fun (k : Nat) s => k ≤ 16 ∧ s = ⟨[(1, true, .int .i64 g), (2, true, .int .i64 v), (7, true, .bool true), (16, true, .pointer (some ⟨b13_2, 0, none⟩)), (18, true, .pointer (some ⟨b16_6, 0, none⟩)), (20, true, .pointer (some ⟨b17_6, 0, none⟩)), (23, true, .int .i64 k)], [], [Box b13_2 33 (cpuV (cpuS x)), Box b16_6 33 (cpuV C1), Box b17_6 33 (cpuV C2)]⟩) (fun k => 16 - k) rfl (⟨0, Nat.zero_le _, rfl⟩) ?_
                  clear hk
                  rintro k s ⟨hk, rfl⟩
                  refine awp_seq ?_
                  refine awp_seq ?_
                  refine awp_region ?_
                  refine aL_s true rfl rfl (fun _ => q_move rfl) ?_
                  refine aL_s true rfl rfl (fun _ => q_lss rfl rfl) ?_
                  refine aL_nil ?_
                  refine thn_n ?_
                  refine awp_cond _ rfl (fun h9 => ?_) (fun h9 => ?_)
                  · skip
                    have hk' : k < 16 := by simp at h9; omega
                    refine awp_skip ?_
                    refine thn_n ?_
                    refine awp_seq ?_
                    refine awp_block ?_
                    refine awp_seq ?_
                    refine awp_drawnC [] [] [] (by kernel_rfl) ?_
                    show aC _ _ _ _ _ _ _ 14 #[false, false, false, false, false, false, false, false, false, false, false, false, false, false] _
                    refine aC_f 0 rfl (by kernel_rfl) true rfl rfl (fun _ => q_move rfl) ?_
                    refine aC_st (by (try simp only [List.setIfInBounds_toArray, List.set_cons_succ, List.set_cons_zero]); rfl) rfl rfl ?_
                    refine aC_f 1 rfl (by kernel_rfl) true rfl rfl (fun _ => q_move rfl) ?_
                    refine aC_st (by (try simp only [List.setIfInBounds_toArray, List.set_cons_succ, List.set_cons_zero]); rfl) rfl rfl ?_
                    refine aC_f 2 rfl (by kernel_rfl) true rfl rfl (fun _ => q_neq rfl rfl) ?_
                    refine aC_st (by (try simp only [List.setIfInBounds_toArray, List.set_cons_succ, List.set_cons_zero]); rfl) rfl rfl ?_
                    refine aC_f 3 rfl (by kernel_rfl) true rfl rfl (fun _ => q_move rfl) ?_
                    refine aC_st (by (try simp only [List.setIfInBounds_toArray, List.set_cons_succ, List.set_cons_zero]); rfl) rfl rfl ?_
                    refine aC_f 4 rfl (by kernel_rfl) _ rfl rfl (fun hc => q_move rfl) ?_
                    refine aC_st (by (try simp only [List.setIfInBounds_toArray, List.set_cons_succ, List.set_cons_zero]); rfl) rfl rfl ?_
                    refine aC_f 5 rfl (by kernel_rfl) _ rfl rfl (fun hc => q_fieldAddr (off := 0) (by kernel_rfl) rfl) ?_
                    refine aC_st (by (try simp only [List.setIfInBounds_toArray, List.set_cons_succ, List.set_cons_zero]); rfl) rfl rfl ?_
                    refine aC_f 6 rfl (by kernel_rfl) _ rfl rfl (fun hc => q_idxArr (k) Tryz.underlying31 tk3 (ev_yes rfl hc) (ev_yes rfl hc) (rfl) (hk')) ?_
                    refine aC_st (by (try simp only [List.setIfInBounds_toArray, List.set_cons_succ, List.set_cons_zero]); rfl) rfl rfl ?_
                    refine aC_q 7 rfl (by kernel_rfl) _ rfl rfl (fun hc => q_load (v := .int .i64 (C1.r k)) 1 tk3 (ev_yes rfl hc) rfl (cpuV_get0 C1 hk')) ?_
                    refine aC_st (by (try simp only [List.setIfInBounds_toArray, List.set_cons_succ, List.set_cons_zero]); rfl) rfl rfl ?_
                    refine aC_f 8 rfl (by kernel_rfl) _ rfl rfl (fun hc => q_move rfl) ?_
                    refine aC_st (by (try simp only [List.setIfInBounds_toArray, List.set_cons_succ, List.set_cons_zero]); rfl) rfl rfl ?_
                    refine aC_f 9 rfl (by kernel_rfl) _ rfl rfl (fun hc => q_fieldAddr (off := 0) (by kernel_rfl) rfl) ?_
                    refine aC_st (by (try simp only [List.setIfInBounds_toArray, List.set_cons_succ, List.set_cons_zero]); rfl) rfl rfl ?_
                    refine aC_f 10 rfl (by kernel_rfl) _ rfl rfl (fun hc => q_idxArr (k) Tryz.underlying31 tk3 (ev_yes rfl hc) (ev_yes rfl hc) (rfl) (hk')) ?_
                    refine aC_st (by (try simp only [List.setIfInBounds_toArray, List.set_cons_succ, List.set_cons_zero]); rfl) rfl rfl ?_
                    refine aC_q 11 rfl (by kernel_rfl) _ rfl rfl (fun hc => q_load (v := .int .i64 (C2.r k)) 2 tk3 (ev_yes rfl hc) rfl (cpuV_get0 C2 hk')) ?_
                    refine aC_st (by (try simp only [List.setIfInBounds_toArray, List.set_cons_succ, List.set_cons_zero]); rfl) rfl rfl ?_
                    refine aC_f 12 rfl (by kernel_rfl) _ rfl rfl (fun hc => q_neq (ev_yes rfl hc) (ev_yes rfl hc)) ?_
                    refine aC_st (by (try simp only [List.setIfInBounds_toArray, List.set_cons_succ, List.set_cons_zero]); rfl) rfl rfl ?_
                    refine aC_f 13 rfl (by kernel_rfl) true rfl rfl (fun _ => q_and rfl rfl (fun h => gt rfl h)) ?_
                    refine aC_st (by (try simp only [List.setIfInBounds_toArray, List.set_cons_succ, List.set_cons_zero]); rfl) rfl rfl ?_
                    refine aC_nil (by kernel_rfl) ?_
                    refine thn_n ?_
                    refine awp_cond _ rfl (fun h10 => ?_) (fun h10 => ?_)
                    · skip
                      exfalso
                      simp only [Bool.and_eq_true, decide_eq_true_eq, Bool.not_eq_true', decide_eq_false_iff_not] at h10
                      exact h10.2 (s3 k (by omega)).symm
                    · skip
                      refine awp_skip ?_
                      refine blk_n ?_
                      refine thn_n ?_
                      refine awp_region ?_
                      refine aL_s true rfl rfl (fun _ => q_move rfl) ?_
                      refine aL_s true rfl rfl (fun _ => q_addi rfl rfl (by omega)) ?_
                      refine aL_s true rfl rfl (fun _ => q_assign rfl) ?_
                      refine aL_nil ?_
                      refine thn_n ?_
                      refine ⟨[1, 2, 7, 16, 18, 20, 23], [], [0, 1, 2], rfl, ?_⟩
                      refine ⟨k + 1, ⟨by omega, rfl⟩, by omega⟩
                  · skip
                    refine awp_exit ?_
                    refine thn_e ?_
                    refine thn_e ?_
                    refine blk_hit ?_
                    refine thn_n ?_
                    refine awp_seq ?_
                    refine awp_drawnC [] [] [] (by kernel_rfl) ?_
                    show aC _ _ _ _ _ _ _ 32 #[false, false, false, false, false, false, false, false, false, false, false, false, false, false, false, false, false, false, false, false, false, false, false, false, false, false, false, false, false, false, false, false] _
                    refine aC_f 0 rfl (by kernel_rfl) true rfl rfl (fun _ => q_move rfl) ?_
                    refine aC_st (by (try simp only [List.setIfInBounds_toArray, List.set_cons_succ, List.set_cons_zero]); rfl) rfl rfl ?_
                    refine aC_f 1 rfl (by kernel_rfl) true rfl rfl (fun _ => q_move rfl) ?_
                    refine aC_st (by (try simp only [List.setIfInBounds_toArray, List.set_cons_succ, List.set_cons_zero]); rfl) rfl rfl ?_
                    refine aC_f 2 rfl (by kernel_rfl) _ rfl rfl (fun hc => q_move rfl) ?_
                    refine aC_st (by (try simp only [List.setIfInBounds_toArray, List.set_cons_succ, List.set_cons_zero]); rfl) rfl rfl ?_
                    refine aC_f 3 rfl (by kernel_rfl) _ rfl rfl (fun hc => q_fieldAddr (off := 0) (by kernel_rfl) rfl) ?_
                    refine aC_st (by (try simp only [List.setIfInBounds_toArray, List.set_cons_succ, List.set_cons_zero]); rfl) rfl rfl ?_
                    refine aC_f 4 rfl (by kernel_rfl) _ rfl rfl (fun hc => q_idxArr (g) Tryz.underlying31 tk3 (ev_yes rfl hc) (ev_yes rfl hc) (rfl) (hg)) ?_
                    refine aC_st (by (try simp only [List.setIfInBounds_toArray, List.set_cons_succ, List.set_cons_zero]); rfl) rfl rfl ?_
                    refine aC_q 5 rfl (by kernel_rfl) _ rfl rfl (fun hc => q_load (v := .int .i64 (C1.r g)) 1 tk3 (ev_yes rfl hc) rfl (cpuV_get0 C1 hg)) ?_
                    refine aC_st (by (try simp only [List.setIfInBounds_toArray, List.set_cons_succ, List.set_cons_zero]); rfl) rfl rfl ?_
                    refine aC_f 6 rfl (by kernel_rfl) _ rfl rfl (fun hc => q_move rfl) ?_
                    refine aC_st (by (try simp only [List.setIfInBounds_toArray, List.set_cons_succ, List.set_cons_zero]); rfl) rfl rfl ?_
                    refine aC_f 7 rfl (by kernel_rfl) _ rfl rfl (fun hc => q_fieldAddr (off := 0) (by kernel_rfl) rfl) ?_
                    refine aC_st (by (try simp only [List.setIfInBounds_toArray, List.set_cons_succ, List.set_cons_zero]); rfl) rfl rfl ?_
                    refine aC_f 8 rfl (by kernel_rfl) _ rfl rfl (fun hc => q_idxArr (g) Tryz.underlying31 tk3 (ev_yes rfl hc) (ev_yes rfl hc) (rfl) (hg)) ?_
                    refine aC_st (by (try simp only [List.setIfInBounds_toArray, List.set_cons_succ, List.set_cons_zero]); rfl) rfl rfl ?_
                    refine aC_q 9 rfl (by kernel_rfl) _ rfl rfl (fun hc => q_load (v := .int .i64 ((cpuS x).r g)) 0 tk3 (ev_yes rfl hc) rfl (cpuV_get0 (cpuS x) hg)) ?_
                    refine aC_st (by (try simp only [List.setIfInBounds_toArray, List.set_cons_succ, List.set_cons_zero]); rfl) rfl rfl ?_
                    refine aC_f 10 rfl (by kernel_rfl) _ rfl rfl (fun hc => q_eql (ev_yes rfl hc) (ev_yes rfl hc)) ?_
                    refine aC_st (by (try simp only [List.setIfInBounds_toArray, List.set_cons_succ, List.set_cons_zero]); rfl) rfl rfl ?_
                    refine aC_f 11 rfl (by kernel_rfl) _ rfl rfl (fun hc => q_move (ev_yes rfl hc)) ?_
                    refine aC_st (by (try simp only [List.setIfInBounds_toArray, List.set_cons_succ, List.set_cons_zero]); rfl) rfl rfl ?_
                    refine aC_f 12 rfl (by kernel_rfl) _ rfl rfl (fun hc => q_move rfl) ?_
                    refine aC_st (by (try simp only [List.setIfInBounds_toArray, List.set_cons_succ, List.set_cons_zero]); rfl) rfl rfl ?_
                    refine aC_f 13 rfl (by kernel_rfl) _ rfl rfl (fun hc => q_fieldAddr (off := 0) (by kernel_rfl) rfl) ?_
                    refine aC_st (by (try simp only [List.setIfInBounds_toArray, List.set_cons_succ, List.set_cons_zero]); rfl) rfl rfl ?_
                    refine aC_f 14 rfl (by kernel_rfl) _ rfl rfl (fun hc => q_idxArr (g) Tryz.underlying31 tk3 (ev_yes rfl hc) (ev_yes rfl hc) (rfl) (hg)) ?_
                    refine aC_st (by (try simp only [List.setIfInBounds_toArray, List.set_cons_succ, List.set_cons_zero]); rfl) rfl rfl ?_
                    refine aC_q 15 rfl (by kernel_rfl) _ rfl rfl (fun hc => q_load (v := .int .i64 (C2.r g)) 2 tk3 (ev_yes rfl hc) rfl (cpuV_get0 C2 hg)) ?_
                    refine aC_st (by (try simp only [List.setIfInBounds_toArray, List.set_cons_succ, List.set_cons_zero]); rfl) rfl rfl ?_
                    refine aC_f 16 rfl (by kernel_rfl) _ rfl rfl (fun hc => q_move rfl) ?_
                    refine aC_st (by (try simp only [List.setIfInBounds_toArray, List.set_cons_succ, List.set_cons_zero]); rfl) rfl rfl ?_
                    refine aC_f 17 rfl (by kernel_rfl) _ rfl rfl (fun hc => q_eql (ev_yes rfl hc) (ev_yes rfl hc)) ?_
                    refine aC_st (by (try simp only [List.setIfInBounds_toArray, List.set_cons_succ, List.set_cons_zero]); rfl) rfl rfl ?_
                    refine aC_f 18 rfl (by kernel_rfl) _ rfl rfl (fun hc => q_and (ev_yes rfl hc) rfl (fun h => gt hc h)) ?_
                    refine aC_st (by (try simp only [List.setIfInBounds_toArray, List.set_cons_succ, List.set_cons_zero]); rfl) rfl rfl ?_
                    refine aC_f 19 rfl (by kernel_rfl) _ rfl rfl (fun hc => q_move (ev_yes rfl hc)) ?_
                    refine aC_st (by (try simp only [List.setIfInBounds_toArray, List.set_cons_succ, List.set_cons_zero]); rfl) rfl rfl ?_
                    refine aC_f 20 rfl (by kernel_rfl) _ rfl rfl (fun hc => q_move rfl) ?_
                    refine aC_st (by (try simp only [List.setIfInBounds_toArray, List.set_cons_succ, List.set_cons_zero]); rfl) rfl rfl ?_
                    refine aC_f 21 rfl (by kernel_rfl) _ rfl rfl (fun hc => q_fieldAddr (off := 0) (by kernel_rfl) rfl) ?_
                    refine aC_st (by (try simp only [List.setIfInBounds_toArray, List.set_cons_succ, List.set_cons_zero]); rfl) rfl rfl ?_
                    refine aC_f 22 rfl (by kernel_rfl) _ rfl rfl (fun hc => q_idxArr (g) Tryz.underlying31 tk3 (ev_yes rfl hc) (ev_yes rfl hc) (rfl) (hg)) ?_
                    refine aC_st (by (try simp only [List.setIfInBounds_toArray, List.set_cons_succ, List.set_cons_zero]); rfl) rfl rfl ?_
                    refine aC_q 23 rfl (by kernel_rfl) _ rfl rfl (fun hc => q_load (v := .int .i64 (C1.r g)) 1 tk3 (ev_yes rfl hc) rfl (cpuV_get0 C1 hg)) ?_
                    refine aC_st (by (try simp only [List.setIfInBounds_toArray, List.set_cons_succ, List.set_cons_zero]); rfl) rfl rfl ?_
                    refine aC_f 24 rfl (by kernel_rfl) _ rfl rfl (fun hc => q_move rfl) ?_
                    refine aC_st (by (try simp only [List.setIfInBounds_toArray, List.set_cons_succ, List.set_cons_zero]); rfl) rfl rfl ?_
                    refine aC_f 25 rfl (by kernel_rfl) _ rfl rfl (fun hc => q_fieldAddr (off := 0) (by kernel_rfl) rfl) ?_
                    refine aC_st (by (try simp only [List.setIfInBounds_toArray, List.set_cons_succ, List.set_cons_zero]); rfl) rfl rfl ?_
                    refine aC_f 26 rfl (by kernel_rfl) _ rfl rfl (fun hc => q_idxArr (g) Tryz.underlying31 tk3 (ev_yes rfl hc) (ev_yes rfl hc) (rfl) (hg)) ?_
                    refine aC_st (by (try simp only [List.setIfInBounds_toArray, List.set_cons_succ, List.set_cons_zero]); rfl) rfl rfl ?_
                    refine aC_q 27 rfl (by kernel_rfl) _ rfl rfl (fun hc => q_load (v := .int .i64 (C2.r g)) 2 tk3 (ev_yes rfl hc) rfl (cpuV_get0 C2 hg)) ?_
                    refine aC_st (by (try simp only [List.setIfInBounds_toArray, List.set_cons_succ, List.set_cons_zero]); rfl) rfl rfl ?_
                    refine aC_f 28 rfl (by kernel_rfl) _ rfl rfl (fun hc => q_eql (ev_yes rfl hc) (ev_yes rfl hc)) ?_
                    refine aC_st (by (try simp only [List.setIfInBounds_toArray, List.set_cons_succ, List.set_cons_zero]); rfl) rfl rfl ?_
                    refine aC_f 29 rfl (by kernel_rfl) _ rfl rfl (fun hc => q_or (ev_yes rfl hc) rfl (fun h => gf hc h)) ?_
                    refine aC_st (by (try simp only [List.setIfInBounds_toArray, List.set_cons_succ, List.set_cons_zero]); rfl) rfl rfl ?_
                    refine aC_f 30 rfl (by kernel_rfl) true rfl rfl (fun _ => q_and rfl rfl (fun h => gt rfl h)) ?_
                    refine aC_st (by (try simp only [List.setIfInBounds_toArray, List.set_cons_succ, List.set_cons_zero]); rfl) rfl rfl ?_
                    refine aC_f 31 rfl (by kernel_rfl) true rfl rfl (fun _ => q_assign rfl) ?_
                    refine aC_st (by (try simp only [List.setIfInBounds_toArray, List.set_cons_succ, List.set_cons_zero]); rfl) rfl rfl ?_
                    refine aC_nil (by kernel_rfl) ?_
                    refine thn_n ?_
                    refine awp_ret ?_
                    refine fin1 [] [] rfl Tryz.results4 rfl ?_ (.inr rfl)
                    refine congrArg Value.bool ?_
                    rcases s4 with ⟨u1, u2⟩ | u1
                    · rw [u1, u2]; simp
                    · rw [u1]; simp
end Go.Proofs.YtpgcoceggacplaaGreatDoor
namespace Go.Proofs.YtpgcoceggacplaaGreatDoor.machineUses
open Go.ChangeShapes Go.WideShapes Go.ChangeAt Go.RowKit
open Go.Lp Go.Sy
open Go.ChangeMaps (open_string shut_string)
/-- what the start-up code leaves -/
theorem door_met (os : Os) (args : Array Value) : laidMetH Tryz.prog Rows.machineUsesRow.laid ((World.doorLaid Tryz.prog 400 os).forCall (fun _ _ => 0) ⟨#[], args, []⟩).memory :=
  laidMetH_of_parts3 (fuel := 8) (laidMet_of_run' 8 (by kernel_rfl) (by kernel_rfl)) (by kernel_rfl) (by kernel_rfl)
theorem gCalls : Tryz.prog.globalNamed "linchpin/isa.calls" = some 0 := by kernel_rfl
theorem calls_lit : litCells (Rows.laid_linchpin_isa_calls (H := Unit)) = some callsV := by kernel_rfl
theorem calls_one : callsV.all (·.oneCell') = true := by kernel_rfl
theorem of_laid {W : World} (h : laidMetH Tryz.prog Rows.machineUsesRow.laid W) : formsAt.holds W (fun b => b < W.heap.size) ∧ callsAt.holds W (fun b => b < W.heap.size) := by
  rw [MakeChecks.laidMetH_plain _ _ _ (by kernel_rfl)] at h
  obtain ⟨ps, ⟨g0, t0, cs0, f0, p0, q0, hg0, ht0, hv0, hd0, ⟨g1, t1, cs1, f1, p1, q1, hg1, ht1, hv1, hd1, _, _⟩, _⟩, _, _⟩ := h
  obtain rfl := Option.some.inj (gForms.symm.trans hg0)
  obtain rfl := Option.some.inj (tForms.symm.trans ht0)
  have hl := lit_rep 3 _ _ _ _ (by kernel_rfl) hd0
  have e : cs0.toList = formsV := Option.some.inj (hl.symm.trans forms_lit)
  obtain rfl := Option.some.inj (gCalls.symm.trans hg1)
  have tC : (Tryz.prog.globals[0]?).map (·.type) = some 89 := by kernel_rfl
  obtain rfl := Option.some.inj (tC.symm.trans ht1)
  have hl1 := lit_rep 3 _ _ _ _ (by kernel_rfl) hd1
  have e1 : cs1.toList = callsV := Option.some.inj (hl1.symm.trans calls_lit)
  exact ⟨cells_at (by decide) (fun i => by rw [World.var?_cell hg0 hv0 i, ← e, Array.getElem?_toList]) forms_one, cells_at (by decide) (fun i => by rw [World.var?_cell hg1 hv1 i, ← e1, Array.getElem?_toList]) calls_one⟩
set_option maxRecDepth 100000 in
theorem lifted (os : Os) (started : os.Started) (H : Type) (enc : TypeId × Value → H) :
    ReturnsInHanded {} Tryz.checked os 4 .any (fun w args => (Rows.machineUsesSpec.pre enc Tryz.prog Tryz.f4 [] false w args ∧ laidMetH Tryz.prog Rows.machineUsesRow.laid w) ∧ sizedMet enc Tryz.prog Tryz.f4 (OpenSpec.ofChange Rows.machineUsesSpec) false w args)
      (Rows.machineUsesSpec.post enc Tryz.prog Tryz.f4 false true false false) := by
  refine returnsInHanded_of_change_and (C := Tryz.checked) (X := fun w _ => laidMetH Tryz.prog Rows.machineUsesRow.laid w) (fun _ _ _ hh h => h.of_heap hh) own started (by kernel_rfl) Tryz.func4
    (ChangeSpec.witness_shaped (enc := enc) (C := Tryz.checked) (os := os) (X := fun w _ => laidMetH Tryz.prog Rows.machineUsesRow.laid w) false (World.doorLaid Tryz.prog 400 os) #[.agg #[.string .empty, .string .empty, .int .i64 0, .slice none 0 0, .int .i64 0], .int .i64 0, .int .i64 0] 8 rfl (World.shaped_of_RefB (by kernel_rfl) (by kernel_rfl)) (by kernel_rfl) (by kernel_rfl) (by kernel_rfl) (door_met os _)) ?_
  intro W base args ds gs before hval0 hW _ _ hL _
  have hval : ∀ (j : Nat) t v, Tryz.f4.params[j]? = some t → args[j]? = some v → Value.okWide Tryz.prog W .any base t v := hval0
  have hW' := hW
  obtain ⟨p, q, hA0, hV, rfl, hfz, hnd⟩ := hW
  have hA : DataW.TrodAll enc Tryz.prog W 0 (fun _ => true) true Tryz.f4.params.toList args.toList ds p := hA0
  rw [Tryz.params4] at hA hval
  obtain ⟨v0, vs0, d0, ds0, p0, q0, hargs, rfl, rfl, h0, r0⟩ := trodAll_cons hA
  obtain ⟨v1, vs1, d1, ds1, p1, q1, rfl, rfl, rfl, h1, r1⟩ := trodAll_cons r0
  obtain ⟨v2, vs2, d2, ds2, p2, q2, rfl, rfl, rfl, h2, r2⟩ := trodAll_cons r1
  obtain ⟨rfl, rfl, rfl⟩ := trodAll_nil r2
  obtain rfl : args = #[v0, v1, v2] := by cases args; simp_all
  obtain ⟨rfl, rfl⟩ := trodVars_none hV
  obtain ⟨hforms, hcalls⟩ := of_laid hL
  obtain ⟨cs0, rfl, hsz0⟩ := okWide_struct Tryz.underlying24 (hval 0 24 v0 rfl rfl)
  have k0 := h0
  have lt0 : ∀ x ∈ p0, x.block < W.heap.size := by obtain ⟨m, hm⟩ := k0; exact DataW.trod_lt m _ _ _ hm
  obtain ⟨fuel, hf⟩ := h0
  obtain ⟨x, ad, c, rfl, w1', w2', w3', w4', w5', hrep⟩ := stg_of hf
  obtain ⟨a1, rfl, rfl, rfl, w1⟩ := open_int Tryz.underlying3 (hval 1 3 v1 rfl rfl) h1
  obtain ⟨a2, rfl, rfl, rfl, w2⟩ := open_int Tryz.underlying3 (hval 2 3 v2 rfl rfl) h2
  clear hA0 hval0
  have hc := (uses_con x ad c a1 a2 w5' w4' (by have := wf64 w2; unfold I64; omega)).quiet (fun _ h => h) (st_in (w := W) (ps := [Sh (.slice ad x.regs.length c) (.sl (irows x.regs)), formsAt, callsAt]) fun p hp => by
    rcases List.mem_cons.1 hp with rfl | hp
    · exact hrep
    · rcases List.mem_cons.1 hp with rfl | hp
      · exact hforms
      · rw [List.mem_singleton.1 hp]; exact hcalls)
  refine hc.mono fun e W' ⟨he, bel⟩ => ?_
  subst he
  exact ⟨_, rfl, _, _, _, [], _, [], hW', trodAll_mk1 (shut_bool Tryz.underlying4 _), (trodAll_cons_mk (Below.trod laidOut (by kernel_rfl) (of_decide_eq_true (by kernel_rfl)) k0 bel lt0) (trodAll_cons_mk (shut_int Tryz.underlying3 w1) (trodAll_cons_mk (shut_int Tryz.underlying3 w2) trodAll_mk0))), rfl, bel.frame _, fun h => by cases h⟩
theorem over : Rows.MachineUsesSaid :=
  OpenClaim.holds_of_wide 4 Tryz.f4 rfl rfl rfl rfl rfl rfl rfl ⟨rfl, rfl, rfl, rfl, rfl⟩ rfl rfl rfl rfl rfl (by kernel_rfl) Tryz.func4 (by kernel_rfl)
    (of_decide_eq_true (by kernel_rfl)) (by unfold Func.isWrapper; first | (rw [if_pos (by decide +kernel)]; kernel_rfl) | (rw [if_neg (by decide +kernel)]; exact ⟨rfl, rfl⟩))
    (fun os started H enc _ => lifted os started H enc)
theorem proved : Rows.MachineUsesCardSaid :=
  Claim7.holds_tied_plain_at .later [] [.widerDeep, .data] true _ false
    over (fun _ h => by cases h) (by kernel_rfl) (fun _ h => by cases h) machineUses_row_tie rfl ⟨rfl, rfl⟩ (by kernel_rfl) rfl
    (fun f fn hf hfn => by
      obtain rfl : f = 4 := Option.some.inj ((show Tryz.prog.funcNamed "linchpin/linchpinlaw29.MachineUses" = some 4 by kernel_rfl).symm.trans hf) |>.symm
      obtain rfl : fn = Tryz.f4 := (Option.some.inj (Tryz.func4.symm.trans hfn)).symm
      exact ⟨by kernel_rfl, fun j t ht => by
        rw [Tryz.params4] at ht
        have hm : t ∈ [24, 3, 3] := by simpa using Array.mem_of_getElem? ht
        have hall : ([24, 3, 3].all fun u => !Tryz.prog.wantsStandIn u) = true := by kernel_rfl
        exact (show Tryz.prog.wantsStandIn t = false by simpa using List.all_eq_true.1 hall t (by simpa using hm))⟩)
    (by kernel_rfl)
end Go.Proofs.YtpgcoceggacplaaGreatDoor.machineUses
