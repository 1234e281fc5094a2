/- Parts of the proof, in build order. No condition. -/
import Derived.Test.YtgmiihmahaahiaaGreatDoorQc08
import Derived.Test.YtgmiihmahaahiaaGreatDoorQc04
import Derived.Test.YtgmiihmahaahiaaGreatDoorQc03
import Derived.Test.YtgmiihmahaahiaaGreatDoorQc06
import Derived.Test.YtgmiihmahaahiaaGreatDoorQc02
set_option linter.unusedSimpArgs false
set_option linter.unusedVariables false
set_option maxHeartbeats 1000000
set_option maxRecDepth 20000
namespace Go.Proofs.YtgmiihmahaahiaaGreatDoor
open Go.RowKit Go.Lp Go.Sy
theorem pj (l : List Dfn) : l.foldl better none = (l.find? fun d => decide (d.s.bind = 1)).or ((l.find? fun d => decide (d.s.bind = 3)).or l.head?) := by
 induction l using fq with
 | nil => rfl
 | snoc l d ih =>
   rw [List.foldl_append, List.foldl_cons, List.foldl_nil, ih, List.find?_append, List.find?_append]
   have hr1 : d.s.bind = 1 → dB d = 0 := fun h => by unfold dB; rw [if_pos h]
   have hr3 : d.s.bind = 3 → dB d = 1 := fun h => by unfold dB; rw [if_neg (by omega), if_pos h]
   have hr2 : d.s.bind ≠ 1 → d.s.bind ≠ 3 → dB d = 2 := fun h h' => by unfold dB; rw [if_neg h, if_neg h']
   cases h1 : l.find? fun d => decide (d.s.bind = 1) with
   | some e =>
     have he : dB e = 0 := by have := List.find?_some h1; unfold dB; rw [if_pos (by simpa using this)]
     simp only [Option.some_or, better]
     rw [if_neg (by unfold dB at *; split <;> (try split) <;> omega)]
   | none =>
     simp only [Option.none_or]
     rw [List.find?_eq_none] at h1
     cases h3 : l.find? fun d => decide (d.s.bind = 3) with
     | some e =>
       have he : dB e = 1 := by
         have h2 := List.find?_some h3
         have h4 := h1 e (List.mem_of_find?_eq_some h3)
         simp only [decide_eq_true_eq] at h2 h4
         unfold dB; rw [if_neg h4, if_pos h2]
       simp only [Option.some_or, better]
       by_cases hd : d.s.bind = 1
       · rw [if_pos (by rw [hr1 hd, he]; decide)]; simp [hd]
       · rw [if_neg (by rw [he]; by_cases hd3 : d.s.bind = 3
                        · rw [hr3 hd3]; decide
                        · rw [hr2 hd hd3]; decide)]; simp [hd]
     | none =>
       rw [List.find?_eq_none] at h3
       simp only [Option.none_or]
       cases hl : l with
       | nil =>
         subst hl
         simp only [List.head?_nil, better, List.nil_append, List.head?_cons]
         by_cases hd : d.s.bind = 1
         · simp [hd]
         · by_cases hd3 : d.s.bind = 3 <;> simp [hd, hd3]
       | cons a l' =>
         have ha : dB a = 2 := by
           have q1 := h1 a (by rw [hl]; exact List.mem_cons_self)
           have q3 := h3 a (by rw [hl]; exact List.mem_cons_self)
           simp only [decide_eq_true_eq] at q1 q3
           unfold dB; rw [if_neg q1, if_neg q3]
         simp only [List.head?_cons, better, List.cons_append]
         by_cases hd : d.s.bind = 1
         · rw [if_pos (by rw [hr1 hd, ha]; decide)]; simp [hd]
         · by_cases hd3 : d.s.bind = 3
           · rw [if_pos (by rw [hr3 hd3, ha]; decide)]; simp [hd3]
           · rw [if_neg (by rw [hr2 hd hd3, ha]; decide)]; simp [hd, hd3]
def sLt (a b : ByteArray) : Prop := a.toList < b.toList
instance (a b : ByteArray) : Decidable (sLt a b) := by unfold sLt; infer_instance
theorem zb {a b : ByteArray} (h : a.toList = b.toList) : a = b := by
 have key : ∀ (x : ByteArray), x.toList = x.data.toList := fun x => by
   have loop : ∀ (n i : Nat) (acc : List UInt8), x.size - i = n → ByteArray.toList.loop x i acc = acc.reverse ++ x.data.toList.drop i := by
     intro n
     induction n with
     | zero =>
       intro i acc h
       unfold ByteArray.toList.loop
       have hle : x.data.size ≤ i := by have : x.size = x.data.size := rfl; omega
       rw [if_neg (by omega), List.drop_eq_nil_of_le (by simpa using hle), List.append_nil]
     | succ n ih =>
       intro i acc h
       unfold ByteArray.toList.loop
       have hlt : i < x.size := by omega
       have hlt' : i < x.data.toList.length := by simpa using hlt
       rw [if_pos hlt, ih (i + 1) _ (by omega), List.drop_eq_getElem_cons hlt']
       have : x.get! i = x.data.toList[i] := by
         show x.data[i]! = _
         rw [getElem!_pos x.data i (by simpa using hlt)]; simp
       rw [this]; simp
   unfold ByteArray.toList
   rw [loop _ 0 [] rfl]; simp
 rw [key, key] at h
 cases a; cases b
 simp only [ByteArray.mk.injEq]
 exact Array.toList_inj.1 h
theorem gE (a : ByteArray) : ¬ sLt a a := List.lt_irrefl _
theorem ko {a b c : ByteArray} (h1 : sLt a b) (h2 : sLt b c) : sLt a c := List.lt_trans h1 h2
theorem lx (a b : ByteArray) : sLt a b ∨ a = b ∨ sLt b a := by
 unfold sLt
 by_cases h1 : a.toList < b.toList
 · exact .inl h1
 · by_cases h2 : b.toList < a.toList
   · exact .inr (.inr h2)
   · exact .inr (.inl (zb (List.le_antisymm h2 h1)))
def kLt (a b : cW) : Prop := sLt a.1 b.1 ∨ a.1 = b.1 ∧ sLt a.2 b.2
instance (a b : cW) : Decidable (kLt a b) := by unfold kLt; infer_instance
theorem ly (a : cW) : ¬ kLt a a := fun h => h.elim (gE _) fun h => gE _ h.2
theorem iT {a b c : cW} (h1 : kLt a b) (h2 : kLt b c) : kLt a c := by
 rcases h1 with h1 | ⟨e1, h1⟩ <;> rcases h2 with h2 | ⟨e2, h2⟩
 · exact .inl (ko h1 h2)
 · exact .inl (e2 ▸ h1)
 · exact .inl (e1 ▸ h2)
 · exact .inr ⟨e1.trans e2, ko h1 h2⟩
theorem oL (a b : cW) : kLt a b ∨ a = b ∨ kLt b a := by
 rcases lx a.1 b.1 with h | h | h
 · exact .inl (.inl h)
 · rcases lx a.2 b.2 with h2 | h2 | h2
   · exact .inl (.inr ⟨h, h2⟩)
   · exact .inr (.inl (Prod.ext h h2))
   · exact .inr (.inr (.inr ⟨h.symm, h2⟩))
 · exact .inr (.inr (.inl h))
deriving instance DecidableEq for bk
abbrev bk.key (x : bk) : cW := (x.name, x.version)
def gY (x : bk) : List bk → List bk
 | [] => [x]
 | y :: l => if kLt y.key x.key then y :: gY x l else x :: y :: l
theorem jQ {x z : bk} : ∀ {l : List bk}, z ∈ gY x l ↔ z = x ∨ z ∈ l
 | [] => by simp [gY]
 | y :: l => by
   unfold gY
   split
   · rw [List.mem_cons, jQ, List.mem_cons]
     constructor
     · rintro (h | h | h)
       · exact .inr (.inl h)
       · exact .inl h
       · exact .inr (.inr h)
     · rintro (h | h | h)
       · exact .inr (.inl h)
       · exact .inl h
       · exact .inr (.inr h)
   · rw [List.mem_cons]
theorem pI (x : bk) : ∀ l : List bk, (gY x l).length = l.length + 1
 | [] => rfl
 | y :: l => by unfold gY; split <;> simp [pI x l]
def o0 (l : List bk) : Prop := l.Pairwise fun a b => kLt a.key b.key
theorem qb {x : bk} : ∀ {l : List bk}, o0 l → (∀ y ∈ l, y.key ≠ x.key) → o0 (gY x l)
 | [], _, _ => List.pairwise_singleton _ _
 | y :: l, h, hn => by
   unfold o0 at *
   rw [List.pairwise_cons] at h
   unfold gY
   split
   · rename_i hlt
     refine List.pairwise_cons.2 ⟨fun z hz => ?_, qb h.2 fun y hy => hn y (List.mem_cons_of_mem _ hy)⟩
     rcases jQ.1 hz with rfl | hz
     · exact hlt
     · exact h.1 z hz
   · rename_i hlt
     have hxy : kLt x.key y.key := by
       rcases oL x.key y.key with h | h | h
       · exact h
       · exact (hn y List.mem_cons_self h.symm).elim
       · exact (hlt h).elim
     refine List.pairwise_cons.2 ⟨fun z hz => ?_, List.pairwise_cons.2 h⟩
     rcases List.mem_cons.1 hz with rfl | hz
     · exact hxy
     · exact iT hxy (h.1 z hz)
theorem qN : ∀ {a b : List bk}, o0 a → o0 b → (∀ x, x ∈ a ↔ x ∈ b) → a = b
 | [], [], _, _, _ => rfl
 | [], y :: b, _, _, h => by have := (h y).2 List.mem_cons_self; cases this
 | x :: a, [], _, _, h => by have := (h x).1 List.mem_cons_self; cases this
 | x :: a, y :: b, ha, hb, h => by
   unfold o0 at ha hb
   rw [List.pairwise_cons] at ha hb
   have hxy : x = y := by
     rcases List.mem_cons.1 ((h x).1 List.mem_cons_self) with h1 | h1
     · exact h1
     · rcases List.mem_cons.1 ((h y).2 List.mem_cons_self) with h2 | h2
       · exact h2.symm
       · exact (ly _ (iT (hb.1 x h1) (ha.1 y h2))).elim
   subst hxy
   rw [qN ha.2 hb.2 fun z => ?_]
   constructor
   · intro hz
     rcases List.mem_cons.1 ((h z).1 (List.mem_cons_of_mem _ hz)) with rfl | h1
     · exact (ly _ (ha.1 z hz)).elim
     · exact h1
   · intro hz
     rcases List.mem_cons.1 ((h z).2 (List.mem_cons_of_mem _ hz)) with rfl | h1
     · exact (ly _ (hb.1 z hz)).elim
     · exact h1
def jg (d : Dfn) : bk := ⟨d.s.name, d.s.version, decide (d.s.version = .empty) || d.s.main, d.s.kind, d.p.obj, d.p.sym, decide (d.s.bind = 3)⟩
def mL (kp : List (Sl Bool)) (L : List Dfn) : List Dfn := L.filter fun d => fD kp L d && decide (fB L d.s.name ≠ 2)
def qS (kp : List (Sl Bool)) (L : List Dfn) : List bk := (mL kp L).foldl (fun o d => gY (jg d) o) []
theorem sE (l : List Dfn) : ∀ (o : List bk) (x : bk), x ∈ l.foldl (fun o d => gY (jg d) o) o ↔ x ∈ o ∨ ∃ d ∈ l, x = jg d := by
 induction l with
 | nil => intro o x; simp
 | cons d l ih =>
   intro o x
   rw [List.foldl_cons, ih, jQ]
   constructor
   · rintro ((h | h) | ⟨d2, h, h2⟩)
     · exact .inr ⟨d, List.mem_cons_self, h⟩
     · exact .inl h
     · exact .inr ⟨d2, List.mem_cons_of_mem _ h, h2⟩
   · rintro (h | ⟨d2, h, h2⟩)
     · exact .inl (.inr h)
     · rcases List.mem_cons.1 h with rfl | h
       · exact .inl (.inl h2)
       · exact .inr ⟨d2, h, h2⟩
section
variable {kp : List (Sl Bool)} {L : List Dfn}
theorem qC {d : Dfn} : d ∈ mL kp L ↔ d ∈ L ∧ fD kp L d = true ∧ fB L d.s.name ≠ 2 := by unfold mL; simp [List.mem_filter]
theorem vT {x : bk} : x ∈ qS kp L ↔ ∃ d ∈ mL kp L, x = jg d := by unfold qS; rw [sE]; simp
variable (hA : Asc L)
include hA
theorem nr : (mL kp L).Pairwise fun d e => d.key ≠ e.key := by
 have h1 : (mL kp L).Pairwise fun d e => ltC d.p e.p := List.Pairwise.filter _ hA
 refine h1.imp_of_mem fun {d e} hd he h hk => ?_
 obtain ⟨d1, d2, _⟩ := qC.1 hd
 obtain ⟨e1, e2, _⟩ := qC.1 he
 have := (gp hA d1).1 d2
 rw [hk, (gp hA e1).1 e2] at this
 rw [Option.some.inj this] at h
 exact dR _ h
theorem xg : o0 (qS kp L) := by
 have key : ∀ (l : List Dfn) (o : List bk), l.Pairwise (fun d e => d.key ≠ e.key) → o0 o → (∀ x ∈ o, ∀ d ∈ l, x.key ≠ d.key) → o0 (l.foldl (fun o d => gY (jg d) o) o) := by
   intro l
   induction l with
   | nil => intro o _ h _; exact h
   | cons d l ih =>
     intro o hl ho hx
     rw [List.pairwise_cons] at hl
     refine ih _ hl.2 (qb ho fun y hy => hx y hy d List.mem_cons_self) fun x hx2 e he => ?_
     rcases jQ.1 hx2 with rfl | hx2
     · exact hl.1 e he
     · exact hx x hx2 e (List.mem_cons_of_mem _ he)
 exact key _ _ (nr hA) .nil fun x hx => by cases hx
theorem rq {q : List bk} (hp : q.Perm ((mL kp L).map jg)) (hs : q.Pairwise fun a b => ¬ kLt b.key a.key) : q = qS kp L := by
 refine qN ?_ (xg hA) fun x => ?_
 · have hk : ((mL kp L).map jg).Pairwise fun a b => a.key ≠ b.key := by rw [List.pairwise_map]; exact nr hA
   have hk2 : q.Pairwise fun a b => a.key ≠ b.key := (hp.symm.pairwise_iff (R := fun a b : bk => a.key ≠ b.key) (fun h => Ne.symm h)).1 hk
   refine (hs.and hk2).imp fun {a b} h => ?_
   rcases oL a.key b.key with h1 | h1 | h1
   · exact h1
   · exact (h.2 h1).elim
   · exact (h.1 h1).elim
 · rw [hp.mem_iff, vT, List.mem_map]
   constructor
   · rintro ⟨d, h1, h2⟩; exact ⟨d, h1, h2.symm⟩
   · rintro ⟨d, h1, h2⟩; exact ⟨d, h1, h2.symm⟩
end
end Go.Proofs.YtgmiihmahaahiaaGreatDoor

namespace Go.Proofs.YtgmiihmahaahiaaGreatDoor
open Go.RowKit Go.Lp Go.Sy
section
variable {kp : List (Sl Bool)} {L : List Dfn}
variable {sv : ByteArray → ByteArray → Bool} {lf : ByteArray → ByteArray → Int} {lib : Bool}
structure RB (kp : List (Sl Bool)) (L : List Dfn) (sv : ByteArray → ByteArray → Bool) (lf : ByteArray → ByteArray → Int) (lib : Bool) : Prop where
 asc : Asc L
 t1 : ea kp L = none
 t2 : dQ kp L = none
 all : ∀ d ∈ L, bS kp L sv lf lib d ≠ none
theorem RB.of (hA : Asc L) (h : cI kp L sv lf lib = none) : RB kp L sv lf lib := by
 unfold cI at h
 cases h1 : ea kp L with
 | some p => rw [h1] at h; cases h
 | none =>
   rw [h1] at h
   cases h2 : dQ kp L with
   | some p => rw [h2] at h; cases h
   | none =>
     rw [h2] at h
     refine ⟨hA, h1, h2, fun d hd hn => ?_⟩
     unfold jw at h
     rw [Option.map_eq_none_iff, Option.map_eq_none_iff, List.find?_eq_none] at h
     exact h d hd (decide_eq_true hn)
def chD (kp : List (Sl Bool)) (L : List Dfn) (sv : ByteArray → ByteArray → Bool) (lf : ByteArray → ByteArray → Int) (lib : Bool) (d : Dfn) : aO := (bS kp L sv lf lib d).getD ff
def zt (kp : List (Sl Bool)) (L : List Dfn) (lib : Bool) (s : bg) (e : Dfn) : aO := ⟨if e.s.bind = 3 then 3 else 2, e.p.obj, e.p.sym, 0, gQ kp L s e, lib && decide (fB L s.name = 0)⟩
theorem qD {d e : Dfn} (h0 : d.s.bind ≠ 0) (h : dI kp L sv d.s.name d.s.version = Option.some e) : chD kp L sv lf lib d = zt kp L lib d.s e := by
 unfold chD bS; rw [if_neg h0, h]; rfl
theorem xO {d : Dfn} (h : (chD kp L sv lf lib d).kind = 2 ∨ (chD kp L sv lf lib d).kind = 3) : d.s.bind ≠ 0 ∧ ∃ e, dI kp L sv d.s.name d.s.version = Option.some e ∧ chD kp L sv lf lib d = zt kp L lib d.s e := by
 unfold chD bS at h
 by_cases h0 : d.s.bind = 0
 · rw [if_pos h0] at h
   simp only [Option.getD_some] at h
   split at h
   · simp at h
   · simp [ff] at h
 · refine ⟨h0, ?_⟩
   rw [if_neg h0] at h
   cases hf : dI kp L sv d.s.name d.s.version with
   | some e => exact ⟨e, rfl, qD h0 hf⟩
   | none =>
     rw [hf] at h
     dsimp only at h
     split at h
     · simp at h
     · split at h
       · simp [ff] at h
       · split at h <;> simp [ff] at h
end
end Go.Proofs.YtgmiihmahaahiaaGreatDoor

namespace Go.Proofs.YtgmiihmahaahiaaGreatDoor
open Go.RowKit Go.Lp Go.Sy
section
variable {kp : List (Sl Bool)} {L : List Dfn} {sv : ByteArray → ByteArray → Bool} {lf lf2 : ByteArray → ByteArray → Int} {lib : Bool} {N : Int}
theorem qO : (∃ p, cI kp L sv lf lib = some (4, p) ∧ ∀ lf2 : ByteArray → ByteArray → Int, cI kp L sv lf2 lib = some (4, p)) ∨ (ea kp L = none ∧ dQ kp L = none ∧ ((∃ p, cI kp L sv lf lib = some (3, p)) ∨ cI kp L sv lf lib = none)) := by
 unfold cI
 cases h1 : ea kp L with
 | some p => exact .inl ⟨p, rfl, fun _ => rfl⟩
 | none =>
   cases h2 : dQ kp L with
   | some p => exact .inl ⟨p, rfl, fun _ => rfl⟩
   | none =>
     refine .inr ⟨rfl, rfl, ?_⟩
     cases h3 : jw kp L sv lf lib with
     | some p => exact .inl ⟨p, rfl⟩
     | none => exact .inr rfl
end
section
variable {kp : List (Sl Bool)} {L : List Dfn} {sv : ByteArray → ByteArray → Bool} {lf : ByteArray → ByteArray → Int} {lib : Bool} {d0 : Dfn} {s0 : bg}
structure Wk (kp : List (Sl Bool)) (L : List Dfn) (d0 : Dfn) (s0 : bg) : Prop where
 mem : d0 ∈ L
 weak : d0.s.bind = 2
 name : s0.name = d0.s.name
 version : s0.version = d0.s.version
 bind : s0.bind = 2
 vis : s0.vis = d0.s.vis
 sec : s0.sec = -1
 no : fD kp L d0 = false
end
end Go.Proofs.YtgmiihmahaahiaaGreatDoor

namespace Go.Sy
open Go.RowKit Go.Lp
section
variable {α : Type} {enc : α → Value}
variable {P : Program} {n : Fr} {env : Env} {ps : List Per} {hp : List Res} {c : Code} {Q : Exit → Sta → Prop} {vo : Value} {T E : TypeId} {l : List (List α)}

end
end Go.Sy

namespace Go.Sy
open Go.RowKit Go.Lp
section
variable {P : Program} {n : Fr} {s : Sta} {d : Option Tmp} {ty : TypeId} {pos : String} {af : Array Edge} {gd : Option (Nat × Bool)} {x y1 y2 y3 : Operand}
end
end Go.Sy

namespace Go.Sy
open Go.RowKit Go.Lp
def vK (R : Res) : Prop := ∀ w S S' F, R.holds w S F → R.holds w S' F
theorem oy {v : Value} {E : TypeId} {sz : Nat} {rows : List (List D)} (hr : ∀ r ∈ rows, ∀ d ∈ r, ∃ u, d = D.v u) : vK (bA v E sz rows) := fun w S S' F h => by
 rcases h with ⟨h1, h2, h3⟩ | ⟨b, cap, h1, ⟨cs, sp, hb, ha, hl, hle, hc⟩, hF⟩
 · exact .inl ⟨h1, h2, h3⟩
 · refine .inr ⟨b, cap, h1, ⟨cs, sp, hb, ⟨ha.len, ha.row, ha.one, fun i j r d h1 h2 => ?_⟩, hl, hle, hc⟩, hF⟩
   obtain ⟨u, hu, hd⟩ := ha.rep i j r d h1 h2
   obtain ⟨u', rfl⟩ := hr r (List.mem_of_getElem? h1) d (List.mem_of_getElem? h2)
   refine ⟨u, hu, ?_⟩
   cases hd; exact .v _
section
variable {P : Program} {n : Fr} {s : Sta} {d : Option Tmp} {ty : TypeId} {pos : String} {af : Array Edge} {gd : Option (Nat × Bool)} {x y1 y2 y3 : Operand}
end
end Go.Sy

namespace Go.Sy
open Go.RowKit Go.Lp
theorem tf {w : World} {S : bz} {fp : Nat → bz} {ps : List Per} {p : Per} {L : List Res} (hst : St w S fp ps L) (hp : p.holds w (fun b => S b ∨ tot fp L.length b)) :
   St w (fun b => S b ∨ tot fp L.length b) (fun _ _ => False) (p :: ps) [] :=
 ⟨fun q hq => by
     rcases List.mem_cons.1 hq with rfl | hq
     · exact hp
     · exact q.mono (hst.per q hq) (fun _ _ => rfl) (fun _ h => .inl h), fun i R hi => by simp at hi, fun i hi => by simp at hi, fun i j hi => by simp at hi, fun b hb => hb.elim (hst.slt b) fun ⟨i, hi, h⟩ => (hst.lt i hi b h).1⟩
theorem Con.borrowL {P : Program} {f : FuncId} {args : List Value} {ps : List Per} {p : Per} {R : Value → List Per → List Res → Prop} (h : Con P f args (p :: ps) [] R) (L : List Res)
   (hB : ∀ (w : World) (S : bz) (fp : Nat → bz), (∀ (i : Nat) (A : Res), L[i]? = some A → A.holds w S (fp i)) → p.holds w (fun b => S b ∨ tot fp L.length b)) (hR : ∀ v ps' hp', R v ps' hp' → ∀ r ∈ hp', vK r) :
   Con P f args ps L (fun v ps' hp' => ps' = [] ∧ ∃ ps2 hp2, R v ps2 hp2 ∧ hp' = L ++ hp2) := fun w S fp hst => by
 have h2 := tf hst (hB w S fp hst.res)
 have h0 : ∀ b, ¬ tot (fun _ _ => False) ([] : List Res).length b := fun b ⟨j, hj, _⟩ => by simp at hj
 refine (h w _ _ h2).mono fun e w' ⟨v, ps', hp', S', fp', he, hR', hst', hE, hb⟩ => ?_
 have hFlt : ∀ b, tot fp L.length b → b < w.heap.size ∧ ¬ S b := fun b ⟨i, hi, h⟩ => hst.lt i hi b h
 have hsame : ∀ b, b < w.heap.size → w'.heap[b]? = w.heap[b]? := fun b hb' => hE.block b hb' (h0 b)
 have hfp : ∀ i, i < L.length → ∀ b, fp i b → tot fp L.length b := fun i hi b hb => ⟨i, hi, hb⟩
 refine ⟨v, [], L ++ hp', fun b => S' b ∧ ¬ tot fp L.length b, fun i => if i < L.length then fp i else fp' (i - L.length), he, ⟨rfl, ps', hp', hR', rfl⟩, ⟨fun q hq => (by cases hq), fun i A hi => ?_, fun i hi b hbi => ?_, fun i j hi hj hne b hbi hbj => ?_, fun b hb' => hst'.slt b hb'.1⟩, ⟨hE.os, hE.tape, hE.output, hE.size, hE.drawn, fun b hb' _ => hsame b hb', fun b hb' => ⟨hE.more b (.inl hb'), fun hf => (hFlt b hf).2 hb'⟩, fun b hb' => ?_⟩, fun b ⟨i, hi, hbi⟩ => ?_⟩
 · by_cases hil : i < L.length
   · rw [if_pos hil]
     rw [List.getElem?_append_left hil] at hi
     exact A.mono (hst.res i A hi) (fun b hb' => hsame b (hFlt b (hfp i hil b hb')).1) (fun b hb' => hsame b (hst.slt b hb')) (fun b hb' => ⟨hE.more b (.inl hb'), fun hf => (hFlt b hf).2 hb'⟩)
   · rw [if_neg hil]
     rw [List.getElem?_append_right (by omega)] at hi
     exact hR v ps' hp' hR' A (List.mem_of_getElem? hi) _ _ _ _ (hst'.res _ A hi)
 · by_cases hil : i < L.length
   · rw [if_pos hil] at hbi
     exact ⟨Nat.lt_of_lt_of_le (hFlt b (hfp i hil b hbi)).1 hE.size, fun h => h.2 (hfp i hil b hbi)⟩
   · rw [if_neg hil] at hbi
     rw [List.length_append] at hi
     have := hst'.lt (i - L.length) (by omega) b hbi
     exact ⟨this.1, fun h => this.2 h.1⟩
 · rw [List.length_append] at hi hj
   by_cases hil : i < L.length
   · rw [if_pos hil] at hbi
     by_cases hjl : j < L.length
     · rw [if_pos hjl] at hbj; exact hst.dj i j hil hjl hne b hbi hbj
     · rw [if_neg hjl] at hbj; exact (hst'.lt (j - L.length) (by omega) b hbj).2 (hE.more b (.inr (hfp i hil b hbi)))
   · rw [if_neg hil] at hbi
     by_cases hjl : j < L.length
     · rw [if_pos hjl] at hbj; exact (hst'.lt (i - L.length) (by omega) b hbi).2 (hE.more b (.inr (hfp j hjl b hbj)))
     · rw [if_neg hjl] at hbj; exact hst'.dj (i - L.length) (j - L.length) (by omega) (by omega) (by omega) b hbi hbj
 · rcases hE.new b hb'.1 with (h | h) | h | h
   · exact .inl h
   · exact (hb'.2 h).elim
   · exact (h0 b h).elim
   · exact .inr (.inr h)
 · dsimp only at hbi
   by_cases hil : i < L.length
   · rw [if_pos hil] at hbi; exact .inl ⟨i, hil, hbi⟩
   · rw [if_neg hil] at hbi
     rw [List.length_append] at hi
     exact (hb b ⟨i - L.length, by omega, hbi⟩).elim (fun h => (h0 b h).elim) .inr
theorem Con.ofRes {P : Program} {f : FuncId} {args : List Value} {ps : List Per} {p : Per} {R : Value → List Per → List Res → Prop} (h : Con P f args (p :: ps) [] R) (L : List Res)
   (hB : ∀ (w : World) (S : bz) (fp : Nat → bz), (∀ (i : Nat) (A : Res), L[i]? = some A → A.holds w S (fp i)) → p.holds w (fun b => S b ∨ tot fp L.length b)) : Con P f args ps L R := fun w S fp hst => by
 have h2 := tf hst (hB w S fp hst.res)
 have h0 : ∀ b, ¬ tot (fun _ _ => False) ([] : List Res).length b := fun b ⟨j, hj, _⟩ => by simp at hj
 have hE : Evo w S (tot fp L.length) w (fun b => S b ∨ tot fp L.length b) := ⟨rfl, rfl, rfl, Nat.le_refl _, Nat.le_refl _, fun _ _ _ => rfl, fun _ h => .inl h, fun b hb => hb.elim .inl fun h => .inr (.inl h)⟩
 exact (h w _ _ h2).mono fun e w' ⟨u, ps', hp', S', fp', he, hR, hst', hE', hb⟩ => ⟨u, ps', hp', S', fp', he, hR, hst', hE.trans hE' (fun b hb => (h0 b hb).elim), fun b hb' => (hb b hb').elim (fun h => (h0 b h).elim) .inr⟩
theorem Con.clean {P : Program} {f : FuncId} {args : List Value} {ps : List Per} {hp : List Res} {R : Value → List Per → List Res → Prop} {φ : Value → Prop} (h : Con P f args ps hp R) (hR : ∀ v ps' hp', R v ps' hp' → φ v) : Con P f args ps hp (fun v ps' hp' => φ v ∧ ps' = [] ∧ hp' = []) := fun w S fp hst =>
 (h w S fp hst).mono fun e w' ⟨v, ps', hp', S', fp', he, hr, hst', hE, hb⟩ => ⟨v, [], [], S', fun _ _ => False, he, ⟨hR _ _ _ hr, rfl, rfl⟩, ⟨fun q hq => (by cases hq), fun i A hi => (by simp at hi), fun i hi => (by simp at hi), fun i j hi => (by simp at hi), hst'.slt⟩, hE, fun b ⟨i, hi, _⟩ => (by simp at hi)⟩
end Go.Sy

namespace Go.Proofs.YtgmiihmahaahiaaGreatDoor
open Go.RowKit Go.Lp Go.Sy
open Go.Proofs.Tryz
attribute [local irreducible] aL aB awp aC fwp
structure br where
 objs : Sl ax
 kp : Sl (Sl Bool)
 lib : Bool
 ifs : Sl bC
 vs : Sl aH
 ball : Nat
 bch : Nat
 bnm : Nat
 bmn : Nat
abbrev br.row (x : br) : List D := [.v (.slice x.objs.ad x.objs.l.length x.objs.cap), .v (.slice x.kp.ad x.kp.l.length x.kp.cap), .v (.bool x.lib), .v (.slice x.ifs.ad x.ifs.l.length x.ifs.cap), .v (.slice x.vs.ad x.vs.l.length x.vs.cap), .v (.map (some x.ball)), .v (.map (some x.bch)), .v (.map (some x.bnm)), .v (.map (some x.bmn))]
abbrev bR : Bool → List D := fun b => [.v (.bool b)]
abbrev slR {α : Type} : Sl α → List D := fun s => [.v (.slice s.ad s.l.length s.cap)]
def br.ok (x : br) : Per := cx (ShF ax.row x.objs) (cx (bP ax.ok x.objs.l) (cx (ShF slR x.kp) (cx (bP (ShF bR) x.kp.l) (cx (ShF bC.row x.ifs) (cx (bP bC.ok x.ifs.l) (cx (ShF aH.row x.vs) (bP aH.ok x.vs.l)))))))
section
variable {ps : List Per} {x : br} (h : Ent ps x.ok)
include h
theorem br.f_objs : Ent ps (ShF ax.row x.objs) := h.left
theorem br.f_objsA : Ent ps (bP ax.ok x.objs.l) := h.right.left
theorem br.f_kp : Ent ps (ShF slR x.kp) := h.right.right.left
theorem br.f_kpA : Ent ps (bP (ShF bR) x.kp.l) := h.right.right.right.left
theorem br.f_ifs : Ent ps (ShF bC.row x.ifs) := h.right.right.right.right.left
theorem br.f_ifsA : Ent ps (bP bC.ok x.ifs.l) := h.right.right.right.right.right.left
theorem br.f_vs : Ent ps (ShF aH.row x.vs) := h.right.right.right.right.right.right.left
theorem br.f_vsA : Ent ps (bP aH.ok x.vs.l) := h.right.right.right.right.right.right.right
end
structure ew (os : List ax) (kp : List (Sl Bool)) : Prop where
 n : os.length ≤ 5
 sy : ∀ o ∈ os, o.syms.l.length ≤ 14
 kn : kp.length = os.length
 ks : ∀ i : Nat, i < os.length → (elt kp (i : Int)).l.length = (elt os (i : Int)).secs.l.length
 sec : ∀ o ∈ os, ∀ s ∈ o.syms.l, (s.sec = -1 ∧ s.bind ≠ 0) ∨ (0 ≤ s.sec ∧ s.sec < o.secs.l.length)
def InD (os : List ax) (d : Dfn) : Prop := ∃ i k : Nat, i < os.length ∧ (elt os (i : Int)).syms.l[k]? = some d.s ∧ d.p = ⟨(i : Int), (k : Int)⟩
theorem i1 {os : List ax} {d : Dfn} : d ∈ aW os ↔ InD os d := eX
theorem jy (s : bg) : Con Tryz.prog 87 [s.val] [] [] (fun r _ _ => r = .int .i64 (dB ⟨default, s⟩)) := by
 refine Con.enter Tryz.func87 rfl (by simp [Tryz.ntmps87]) ?_
 show awp _ _ _ _ ⟨[(0, true, _)], _, _⟩
 refine aSR ?_
 refine aj (q := true) rfl (bI rfl rfl rfl (fun b0_0 => ?_))
 refine aHN ?_
 refine aA rfl (aNs (aSR ?_))
 refine aU rfl (qFA (off := 3) rfl) ?_
 refine aU rfl (ab 0 tk3 rfl rfl rfl) (aNn (aw (aSR (aU rfl (bB rfl rfl) (aA rfl (aNn ?_))))))
 refine ah _ rfl (fun h1 => ?_) (fun h1 => ?_)
 ·skip
  refine aSR (aA rfl (aNn (aq (bj (aK ?_)))))
  refine aV [] [] rfl Tryz.results87 rfl ?_ (.inr rfl)
  have : s.bind = 1 := by simpa using h1
  unfold dB; rw [if_pos this]
 ·skip
  refine aSR (aU rfl (bB rfl rfl) (aA rfl (aNn ?_)))
  refine ah _ rfl (fun h2 => ?_) (fun h2 => ?_)
  ·skip
   refine aSR (aA rfl (aNn (aq (bj (aK ?_)))))
   refine aV [] [] rfl Tryz.results87 rfl ?_ (.inr rfl)
   have a1 : ¬ s.bind = 1 := by simpa using h1
   have : s.bind = 3 := by simpa using h2
   unfold dB; rw [if_neg a1, if_pos this]
  ·skip
   refine au (bu (av (aSR (aA rfl (aNn (aq ?_))))))
   refine aV [] [] rfl Tryz.results87 rfl ?_ (.inr rfl)
   have a1 : ¬ s.bind = 1 := by simpa using h1
   have a2 : ¬ s.bind = 3 := by simpa using h2
   unfold dB; rw [if_neg a1, if_neg a2]
theorem qI (z : Int) : Con Tryz.prog 239 [.int .i64 z] [] [] (fun r _ _ => r = .bool false) := by
 refine Con.enter Tryz.func239 rfl (by simp [Tryz.ntmps239]) ?_
 show awp _ _ _ _ ⟨[(0, true, _)], _, _⟩
 refine aSR (aA rfl (aNn (aSR (aM rfl (aM rfl (aU rfl (cN rfl rfl) (aA rfl (aNn (aq ?_)))))))))
 refine aV [] [] rfl Tryz.results239 rfl ?_ (.inr rfl)
 simp
theorem pJ (z : ByteArray) : Con Tryz.prog 99 [.string z] [] [] (fun r _ _ => r = .bool false) := by
 refine Con.enter Tryz.func99 rfl (by simp [Tryz.ntmps99]) ?_
 show awp _ _ _ _ ⟨[(0, true, _)], _, _⟩
 refine aSR (aA rfl (aNn (aSR (aM rfl (aM rfl (aU rfl (fH rfl rfl) (aA rfl (aNn (aq ?_)))))))))
 refine aV [] [] rfl Tryz.results99 rfl ?_ (.inr rfl)
 simp
def iP (a b : Int) : Int := if a < b then -1 else if b < a then 1 else 0
theorem fK (a b : Int) : Con Tryz.prog 166 [.int .i64 a, .int .i64 b] [] [] (fun r _ _ => r = .int .i64 (iP a b)) := by
 refine Con.enter Tryz.func166 rfl (by simp [Tryz.ntmps166]) ?_
 show awp _ _ _ _ ⟨[(0, true, _), (1, true, _)], _, _⟩
 refine aSR (aA rfl (aNn (aSR (aM rfl ?_))))
 refine aU rfl (bw (by kernel_rfl) rfl (fun w S fp hst => (qI _).quiet0 hst)) ?_
 refine aA rfl (aNn (aSR (aM rfl ?_)))
 refine aU rfl (bw (by kernel_rfl) rfl (fun w S fp hst => (qI _).quiet0 hst)) ?_
 refine aA rfl (aNs (aSR (aM rfl (aNn ?_))))
 refine ah _ rfl (fun h1 => ?_) (fun h1 => ?_)
 ·skip
  exact absurd h1 (by decide)
 ·skip
  refine au (av (az (aSR (aM rfl (aNn ?_)))))
  refine ah _ rfl (fun h2 => ?_) (fun h2 => ?_)
  ·skip
   exact absurd h2 (by decide)
  ·skip
   refine au (av (az (aSR (aM rfl (aM rfl (aU rfl (bt rfl rfl) (aNn ?_)))))))
   refine ah _ rfl (fun h3 => ?_) (fun h3 => ?_)
   ·skip
    refine aSR (aA rfl (aNn (aq (aK ?_))))
    refine aV [] [] rfl Tryz.results166 rfl ?_ (.inr rfl)
    have : a < b := by simpa using h3
    unfold iP; rw [if_pos this]
   ·skip
    refine au (av (az (aSR (aM rfl (aM rfl (aU rfl (du rfl rfl) (aNn ?_)))))))
    refine ah _ rfl (fun h4 => ?_) (fun h4 => ?_)
    ·skip
     refine aSR (aA rfl (aNn (aq (aK ?_))))
     refine aV [] [] rfl Tryz.results166 rfl ?_ (.inr rfl)
     have a1 : ¬ a < b := by simpa using h3
     have : b < a := by simpa using h4
     unfold iP; rw [if_neg a1, if_pos this]
    ·skip
     refine au (av (aSR (aA rfl (aNn (aq ?_)))))
     refine aV [] [] rfl Tryz.results166 rfl ?_ (.inr rfl)
     have a1 : ¬ a < b := by simpa using h3
     have a2 : ¬ b < a := by simpa using h4
     unfold iP; rw [if_neg a1, if_neg a2]
def kY (a b : ByteArray) : Int := if sLt a b then -1 else if sLt b a then 1 else 0
theorem oz {a b : ByteArray} (h : sLt a b) : ¬ sLt b a := fun k => gE _ (ko h k)
theorem mi (a b : ByteArray) : Con Tryz.prog 45 [.string a, .string b] [] [] (fun r _ _ => r = .int .i64 (kY a b)) := by
 refine Con.enter Tryz.func45 rfl (by simp [Tryz.ntmps45]) ?_
 show awp _ _ _ _ ⟨[(0, true, _), (1, true, _)], _, _⟩
 refine aSR (aA rfl (aNn (aSR (aM rfl ?_))))
 refine aU rfl (bw (by kernel_rfl) rfl (fun w S fp hst => (pJ _).quiet0 hst)) ?_
 refine aA rfl (aNn (aSR (aM rfl ?_)))
 refine aU rfl (bw (by kernel_rfl) rfl (fun w S fp hst => (pJ _).quiet0 hst)) ?_
 refine aA rfl (aNs (aSR (aM rfl (aNn ?_))))
 refine ah _ rfl (fun h1 => ?_) (fun h1 => ?_)
 ·skip
  exact absurd h1 (by decide)
 ·skip
  refine au (av (az (aSR (aM rfl (aNn ?_)))))
  refine ah _ rfl (fun h2 => ?_) (fun h2 => ?_)
  ·skip
   exact absurd h2 (by decide)
  ·skip
   refine au (av (az (aSR (aM rfl (aM rfl (aU rfl (rL rfl rfl) (aNn ?_)))))))
   refine ah _ rfl (fun h3 => ?_) (fun h3 => ?_)
   ·skip
    refine aSR (aA rfl (aNn (aq (aK ?_))))
    refine aV [] [] rfl Tryz.results45 rfl ?_ (.inr rfl)
    have : sLt a b := of_decide_eq_true h3
    unfold kY; rw [if_pos this]
   ·skip
    refine au (av (az (aSR (aM rfl (aM rfl (aU rfl (y8 rfl rfl) (aNn ?_)))))))
    refine ah _ rfl (fun h4 => ?_) (fun h4 => ?_)
    ·skip
     refine aSR (aA rfl (aNn (aq (aK ?_))))
     refine aV [] [] rfl Tryz.results45 rfl ?_ (.inr rfl)
     have a1 : ¬ sLt a b := of_decide_eq_false h3
     have h4' : ¬ sLt a b ∧ ¬ a = b := by simp only [Bool.not_eq_true', Bool.or_eq_false_iff, decide_eq_false_iff_not] at h4; exact h4
     have : sLt b a := by
       rcases lx a b with h | h | h
       · exact (a1 h).elim
       · exact (h4'.2 h).elim
       · exact h
     unfold kY; rw [if_neg a1, if_pos this]
    ·skip
     refine au (av (aSR (aA rfl (aNn (aq ?_)))))
     refine aV [] [] rfl Tryz.results45 rfl ?_ (.inr rfl)
     have a1 : ¬ sLt a b := of_decide_eq_false h3
     have h4' : sLt a b ∨ a = b := by simp only [Bool.not_eq_false', Bool.or_eq_true, decide_eq_true_eq] at h4; exact h4
     have a2 : ¬ sLt b a := by
       rcases h4' with h | h
       · exact oz h
       · rw [h]; exact gE _
     unfold kY; rw [if_neg a1, if_neg a2]
theorem tG (v : Value) (a b : Int) : Con Tryz.prog 44 [v] [] [bA v 3 1 [[.v (.int .i64 a)], [.v (.int .i64 b)]]] (fun r _ _ => r = .int .i64 (if a ≠ 0 then a else b)) := by
 refine Con.ofRes (p := Sh v (.sl [[.v (.int .i64 a)], [.v (.int .i64 b)]])) ?_ _ (fun w S fp hres => (eF (hres 0 _ rfl)).mono (fun _ _ => rfl) fun b hb => hb.imp id fun hf => ⟨0, by simp, hf⟩)
 refine Con.enter Tryz.func44 rfl (by simp [Tryz.ntmps44]) ?_
 show awp _ _ _ _ ⟨[(0, true, _)], _, _⟩
 refine fo (.of (an 0 rfl)) (fun ad cp hv => ?_)
 obtain rfl : v = .slice ad 2 cp := hv
 refine aSR (aA rfl (aNn (aSR (aA rfl (aNs (aSR (aM rfl (aU rfl (aZ Tryz.underlying90 rfl) (aM rfl (aNn (aw ?_)))))))))))
 refine aP [0, 3, 6, 7, 8] [0] [] (fun (k : Nat) st => (k ≤ 2 ∧ (1 ≤ k → a = 0) ∧ (2 ≤ k → b = 0)) ∧ st = ⟨[(0, true, .slice ad 2 cp), (3, true, .int .i64 0), (6, true, .slice ad 2 cp), (7, true, .int .i64 2), (8, true, .int .i64 k)], [Sh (.slice ad 2 cp) (.sl [[.v (.int .i64 a)], [.v (.int .i64 b)]])], []⟩) (fun k => 2 - k) rfl (⟨0, ⟨by omega, fun h => by omega, fun h => by omega⟩, rfl⟩) ?_
 rintro k st ⟨⟨hk, ha, hb⟩, rfl⟩
 refine aSR (aU rfl (bt rfl rfl) (aNs ?_))
 refine ah _ rfl (fun h1 => ?_) (fun h1 => ?_)
 ·skip
  have hk' : k < 2 := by simp at h1; omega
  obtain ⟨c, hc1, hc⟩ : ∃ c, (([[.v (.int .i64 a)], [.v (.int .i64 b)]] : List (List D))[k]? = some [D.v (.int .i64 c)]) ∧ ((k = 0 ∧ c = a) ∨ (k = 1 ∧ c = b)) := by
    rcases (by omega : k = 0 ∨ k = 1) with rfl | rfl
    · exact ⟨a, rfl, .inl ⟨rfl, rfl⟩⟩
    · exact ⟨b, rfl, .inr ⟨rfl, rfl⟩⟩
  refine au (av (az (aw (aSR ?_))))
  refine ck true rfl rfl (fun _ => kM Tryz.underlying90 tk3 rfl (an 0 rfl) rfl hc1 rfl rfl) (fun h => absurd h (by decide)) (fun ⟨b4_0, o4_0⟩ => ?_)
  refine aU rfl (aF (o := 0) tk3 rfl (an 0 rfl) rfl rfl) (aA rfl (aNn (aSR (aM rfl (aM rfl (aU rfl (cN rfl rfl) (aNn ?_)))))))
  refine ah _ rfl (fun h2 => ?_) (fun h2 => ?_)
  ·skip
   refine aSR (aM rfl (aA rfl (aNn (aq (bj (aK (aK (bj (aK ?_)))))))))
   refine aV [] [] rfl Tryz.results44 rfl ?_ (.inr rfl)
   have hc0 : c ≠ 0 := by simpa using h2
   rcases hc with ⟨rfl, rfl⟩ | ⟨rfl, rfl⟩
   · rw [if_pos hc0]
   · rw [if_neg (by have := ha (by omega); omega)]
  ·skip
   refine au (bu (av (ae ?_)))
   refine aU rfl (bf rfl rfl (by omega)) ?_
   refine aM rfl (aNn ?_)
   refine ⟨[0, 3, 6, 7, 8], [0], [], rfl, ?_⟩
   have hc0 : c = 0 := by simpa using h2
   rcases hc with ⟨rfl, rfl⟩ | ⟨rfl, rfl⟩
   · exact ⟨1, ⟨⟨by omega, fun _ => hc0, fun h => by omega⟩, rfl⟩, by omega⟩
   · exact ⟨2, ⟨⟨by omega, fun _ => ha (by omega), fun _ => hc0⟩, rfl⟩, by omega⟩
 ·skip
  refine aR (aS (aS (aY (av (aSR (aM rfl (aA rfl (aNn (aq ?_)))))))))
  refine aV [] [] rfl Tryz.results44 rfl ?_ (.inr rfl)
  have hk2 : k = 2 := by simp at h1; omega
  subst hk2
  rw [if_neg (by have := ha (by omega); omega), hb (by omega)]
end Go.Proofs.YtgmiihmahaahiaaGreatDoor

namespace Go.Proofs.YtgmiihmahaahiaaGreatDoor
open Go.RowKit Go.Lp Go.Sy
open Go.Proofs.Tryz
attribute [local irreducible] aL aB awp aC fwp
def uE (p q : aD) : Int := if iP p.obj q.obj ≠ 0 then iP p.obj q.obj else iP p.sym q.sym
theorem qP (a b : Int) : iP a b < 0 ↔ a < b := by unfold iP; split <;> (try split) <;> omega
theorem tW (a b : Int) : iP a b = 0 ↔ a = b := by unfold iP; split <;> (try split) <;> omega
theorem jD (p q : aD) : uE p q < 0 ↔ ltC p q := by
 unfold uE ltC
 have h1 := qP p.obj q.obj
 have h2 := tW p.obj q.obj
 have h3 := qP p.sym q.sym
 split <;> omega
theorem mu (p q : aD) : Con Tryz.prog 89 [p.val, q.val] [] [] (fun r _ _ => r = .int .i64 (uE p q)) := by
 refine Con.enter Tryz.func89 rfl (by simp [Tryz.ntmps89]) ?_
 show awp _ _ _ _ ⟨[(0, true, _), (1, true, _)], _, _⟩
 refine aSR ?_
 refine aj (q := true) rfl (bI rfl rfl rfl (fun b0_0 => ?_))
 refine aHN ?_
 refine aj (q := true) rfl (bI rfl rfl rfl (fun b0_1 => ?_))
 refine aHN ?_
 refine aA rfl (aNs ?_)
 refine aX [11] (by kernel_rfl) ?_
 show aB _ _ _ _ _ 13 #[false, false, false, false, false, false, false, false, false, false, false, false, false] _
 refine bV 0 rfl rfl (qFA (off := 0) rfl) ?_
 refine bV 1 rfl rfl (ab 0 tk3 rfl rfl rfl) ?_
 refine bV 2 rfl rfl (qFA (off := 0) rfl) ?_
 refine bV 3 rfl rfl (ab 1 tk3 rfl rfl rfl) ?_
 refine bV 4 rfl rfl (bw (by kernel_rfl) rfl (fun w S fp hst => (fK _ _).quiet0 hst)) ?_
 refine bV 5 rfl rfl (qFA (off := 1) rfl) ?_
 refine bV 6 rfl rfl (ab 0 tk3 rfl rfl rfl) ?_
 refine bV 7 rfl rfl (qFA (off := 1) rfl) ?_
 refine bV 8 rfl rfl (ab 1 tk3 rfl rfl rfl) ?_
 refine bV 9 rfl rfl (bw (by kernel_rfl) rfl (fun w S fp hst => (fK _ _).quiet0 hst)) ?_
 refine bM (q := true) 10 rfl (by kernel_rfl) rfl rfl (cG (zs := [.int .i64 0]) (l := [(0, .tmp 9), (1, .tmp 14)]) el90 (by kernel_rfl) (by decide) (by decide) (by decide) rfl rfl rfl (.more rfl (.v rfl .nil) (.more rfl (.v rfl .nil) .nil)) rfl rfl (fun v1_10 => ?_))
 refine bST rfl ?_
 refine bM (q := false) 11 rfl (by kernel_rfl) rfl rfl (bF [] [2] (by kernel_rfl) rfl rfl rfl rfl ((tG (.slice v1_10 2 2) _ _).clean (φ := fun r => r = _) (fun _ _ _ h => h)) ?_)
 rintro _ _ _ ⟨rfl, rfl, rfl⟩
 refine bST rfl ?_
 refine bV 12 rfl rfl (bJ rfl) ?_
 refine bD (by kernel_rfl) ?_
 refine av (aq ?_)
 refine aV [] [] rfl Tryz.results89 rfl ?_ (.inr rfl)
 rfl
def dO (x : aD × Bool) (p : aD) : aD × Bool := if x.2 = false ∨ ltC p x.1 then (p, true) else x
theorem iZ (a b : Nat) (x : aD × Bool) (p : aD) : Con Tryz.prog 39 [.pointer (some ⟨a, 0, none⟩), .pointer (some ⟨b, 0, none⟩), p.val] [] [Box a 34 x.1.vs, Box b 4 [.bool x.2]]
   (fun _ ps hp => ps = [] ∧ hp = [Box a 34 (dO x p).1.vs, Box b 4 [.bool (dO x p).2]]) := by
 refine Con.enter Tryz.func39 rfl (by simp [Tryz.ntmps39]) ?_
 show awp _ _ _ _ ⟨[(0, true, _), (1, true, _), (2, true, _)], _, _⟩
 refine aSR ?_
 refine aj (q := true) rfl (bI rfl rfl rfl (fun b0_0 => ?_))
 refine aHN ?_
 refine aNs ?_
 refine aX [] (by kernel_rfl) ?_
 show aB _ _ _ _ _ 12 #[false, false, false, false, false, false, false, false, false, false, false, false] _
 refine bV 0 rfl rfl (ar rfl) ?_
 refine bV 1 rfl rfl (bq rfl) ?_
 refine bV 2 rfl rfl (ab 1 tk4 rfl rfl rfl) ?_
 refine bV 3 rfl rfl (bT rfl) ?_
 refine bV 4 rfl rfl (ar rfl) ?_
 refine bW 5 rfl rfl rfl (fun hc => ab 2 tk34 rfl rfl rfl) ?_
 refine bW 6 rfl rfl rfl (fun hc => ar rfl) ?_
 refine bW 7 rfl rfl rfl (fun hc => bq (aa rfl hc)) ?_
 refine bW 8 rfl rfl rfl (fun hc => ab 0 tk34 (aa rfl hc) rfl rfl) ?_
 refine bW 9 rfl rfl rfl (fun hc => bw (by kernel_rfl) (aI (aa rfl hc) (aI (aa rfl hc) rfl)) (fun w S fp hst => (mu _ _).quiet0 hst)) ?_
 refine bW 10 rfl rfl rfl (fun hc => bt (aa rfl hc) rfl) ?_
 refine bV 11 rfl rfl (ct rfl rfl (fun h => gf rfl h)) ?_
 refine bD (by kernel_rfl) ?_
 refine av ?_
 refine ah _ rfl (fun h1 => ?_) (fun h1 => ?_)
 ·skip
  refine ae (aM rfl (aM rfl (aU rfl (ab 2 tk34 rfl rfl rfl) (aU rfl (bq rfl) ?_))))
  refine aj rfl (aT 0 tk34 rfl rfl rfl rfl ?_)
  refine aHK ?_
  refine aU rfl (bq rfl) ?_
  refine aj rfl (aT 1 tk4 rfl rfl rfl rfl ?_)
  refine aHK ?_
  refine cr ?_
  refine iL [] [0, 1] rfl Tryz.results39 ?_ (.inl rfl)
  have hh : x.2 = false ∨ ltC p x.1 := by
    rw [← jD]; simpa using h1
  exact ⟨rfl, by unfold dO; rw [if_pos hh]; rfl⟩
 ·skip
  refine au ?_
  refine iL [] [0, 1] rfl Tryz.results39 ?_ (.inl rfl)
  have hh : ¬ (x.2 = false ∨ ltC p x.1) := by
    rw [← jD]; simpa using h1
  exact ⟨rfl, by unfold dO; rw [if_neg hh]; rfl⟩
theorem lv (x : br) (lb : Nat) (d : Dfn) (hd : InD x.objs.l d) : Con Tryz.prog 86 [.pointer (some ⟨lb, 0, none⟩), d.p.val] [At lb 0 x.row, x.ok] [] (fun r _ _ => r = d.s.val) := by
 obtain ⟨i, k, hi, hk, hp⟩ := hd
 obtain ⟨p, s⟩ := d
 dsimp only at hk hp
 subst hp
 have ho := bN hi
 refine Con.enter Tryz.func86 rfl (by simp [Tryz.ntmps86]) ?_
 show awp _ _ _ _ ⟨[(0, true, _), (1, true, _)], _, _⟩
 refine aSR ?_
 refine aj (q := true) rfl (bI rfl rfl rfl (fun b0_0 => ?_))
 refine aHN ?_
 refine aj (q := true) rfl (bp (zs := [.string .empty, .string .empty, .bool false, .int .i64 0, .int .i64 0, .int .i64 0, .int .i64 0, .int .i64 0, .int .i64 0, .int .i64 0]) (by kernel_rfl) rfl (fun b0_1 => ?_))
 refine aHN ?_
 refine aNs ?_
 refine aX [13] (by kernel_rfl) ?_
 show aB _ _ _ _ _ 14 #[false, false, false, false, false, false, false, false, false, false, false, false, false, false] _
 refine bV 0 rfl rfl (ar rfl) ?_
 refine bV 1 rfl rfl (bq rfl) ?_
 refine bV 2 rfl rfl (qFA (off := 0) rfl) ?_
 refine bV 3 rfl rfl (aN (o := 0) tk22 rfl (.of (an 0 rfl)) rfl) ?_
 refine bV 4 rfl rfl (qFA (off := 0) rfl) ?_
 refine bV 5 rfl rfl (ab 0 tk3 rfl rfl rfl) ?_
 refine cD 6 rfl (by kernel_rfl) true rfl rfl (fun _ => ai Tryz.underlying22 tk61 rfl ((br.f_objs (.of (an 1 rfl)))) rfl (aJ ho) rfl rfl) (fun h => absurd h (by decide)) (fun ⟨b1_6, o1_6⟩ => ?_)
 refine bV 7 rfl rfl (qFA (off := 2) rfl) ?_
 refine bV 8 rfl rfl (aF (o := 2) tk51 rfl (an 0 rfl) rfl rfl) ?_
 refine bV 9 rfl rfl (qFA (off := 1) rfl) ?_
 refine bV 10 rfl rfl (ab 0 tk3 rfl rfl rfl) ?_
 refine cD 11 rfl (by kernel_rfl) true rfl rfl (fun _ => ai Tryz.underlying51 tk63 rfl ((ax.f_syms (Ent.all (br.f_objsA (.of (an 2 rfl))) ho))) rfl (aJ hk) rfl rfl) (fun h => absurd h (by decide)) (fun ⟨b1_11, o1_11⟩ => ?_)
 refine bV 12 rfl rfl (aF (o := 0) tk63 rfl (an 0 rfl) rfl rfl) ?_
 refine bM 13 rfl (by kernel_rfl) rfl rfl (aT 1 tk63 rfl rfl rfl rfl ?_)
 refine bST rfl ?_
 refine bD (by kernel_rfl) ?_
 refine av (aq ?_)
 refine ti [] [] rfl Tryz.results86 (cv 1 tk63 rfl rfl rfl) ?_ (.inr rfl)
 rfl
theorem rn (x : br) (hok : ew x.objs.l x.kp.l) (lb : Nat) (d : Dfn) (hd : InD x.objs.l d) : Con Tryz.prog 85 [.pointer (some ⟨lb, 0, none⟩), d.p.val, d.s.val] [At lb 0 x.row, x.ok] [] (fun r _ _ => r = .bool (dN x.kp.l d)) := by
 obtain ⟨i, k, hi, hk, hp⟩ := hd
 obtain ⟨p, s⟩ := d
 dsimp only at hk hp
 subst hp
 have ho := bN hi
 have hkn := hok.kn
 have hkp := bN (l := x.kp.l) (i := i) (by omega)
 have hks := hok.ks i hi
 have hsec := hok.sec _ (List.mem_of_getElem? ho) s (List.mem_of_getElem? hk)
 refine Con.enter Tryz.func85 rfl (by simp [Tryz.ntmps85]) ?_
 show awp _ _ _ _ ⟨[(0, true, _), (1, true, _), (2, true, _)], _, _⟩
 refine aSR ?_
 refine aj (q := true) rfl (bI rfl rfl rfl (fun b0_0 => ?_))
 refine aHN ?_
 refine aj (q := true) rfl (bI rfl rfl rfl (fun b0_1 => ?_))
 refine aHN ?_
 refine aA rfl (aNs ?_)
 refine aX [] (by kernel_rfl) ?_
 show aB _ _ _ _ _ 28 #[false, false, false, false, false, false, false, false, false, false, false, false, false, false, false, false, false, false, false, false, false, false, false, false, false, false, false, false] _
 refine bV 0 rfl rfl (qFA (off := 3) rfl) ?_
 refine bV 1 rfl rfl (ab 1 tk3 rfl rfl rfl) ?_
 refine bV 2 rfl rfl (bB rfl rfl) ?_
 refine bV 3 rfl rfl (ar rfl) ?_
 refine bW 4 rfl rfl rfl (fun hc => qFA (off := 3) rfl) ?_
 refine bW 5 rfl rfl rfl (fun hc => ab 1 tk3 (aa rfl hc) rfl rfl) ?_
 refine bW 6 rfl rfl rfl (fun hc => cN (aa rfl hc) rfl) ?_
 refine bW 7 rfl rfl rfl (fun hc => ar (aa rfl hc)) ?_
 refine bW 8 rfl rfl rfl (fun hc => qFA (off := 6) rfl) ?_
 refine bW 9 rfl rfl rfl (fun hc => ab 1 tk3 (aa rfl hc) rfl rfl) ?_
 refine bW 10 rfl rfl rfl (fun hc => cL (aa rfl hc) rfl) ?_
 refine bW 11 rfl rfl rfl (fun hc => bn (aa rfl hc) rfl (fun h => gt hc h)) ?_
 refine bW 12 rfl rfl rfl (fun hc => ar (aa rfl hc)) ?_
 refine bW 13 rfl rfl rfl (fun hc => ar rfl) ?_
 refine bW 14 rfl rfl rfl (fun hc => bq (aa rfl hc)) ?_
 refine bW 15 rfl rfl rfl (fun hc => qFA (off := 1) (aa rfl hc)) ?_
 refine bW 16 rfl rfl rfl (fun hc => aN (o := 1) tk27 (aa rfl hc) (.of (an 0 rfl)) rfl) ?_
 refine bW 17 rfl rfl rfl (fun hc => qFA (off := 0) rfl) ?_
 refine bW 18 rfl rfl rfl (fun hc => ab 0 tk3 (aa rfl hc) rfl rfl) ?_
 refine cD 19 rfl (by kernel_rfl) _ rfl rfl (fun hc => ai Tryz.underlying27 tk68 (aa rfl hc) ((br.f_kp (.of (an 1 rfl)))) (aa rfl hc) (aJ hkp) rfl rfl) (fun _ => ⟨(0, 0)⟩) (fun ⟨b1_19, o1_19⟩ => ?_)
 refine bW 20 rfl rfl rfl (fun hc => aF (o := 0) tk68 (aa rfl hc) (an 0 rfl) hc rfl) ?_
 refine bW 21 rfl rfl rfl (fun hc => qFA (off := 6) rfl) ?_
 refine bW 22 rfl rfl rfl (fun hc => ab 1 tk3 (aa rfl hc) rfl rfl) ?_
 refine cD 23 rfl (by kernel_rfl) _ rfl rfl (fun hc => ai Tryz.underlying68 tk4 (aa rfl hc) ((Ent.all (f := ShF bR) (br.f_kpA (.of (an 2 rfl))) hkp)) (aa rfl hc) (cR (i := s.sec) (by simp at hc; omega) (by simp at hc; omega)) (by simp at hc; omega) rfl) (fun _ => ⟨(0, 0)⟩) (fun ⟨b1_23, o1_23⟩ => ?_)
 refine bW 24 rfl rfl rfl (fun hc => aF (o := 0) tk4 (aa rfl hc) (an 0 rfl) hc rfl) ?_
 refine bW 25 rfl rfl rfl (fun hc => bn (aa rfl hc) rfl (fun h => gt hc h)) ?_
 refine bV 26 rfl rfl (ct rfl rfl (fun h => gf rfl h)) ?_
 refine bV 27 rfl rfl (bJ rfl) ?_
 refine bD (by kernel_rfl) ?_
 refine av (aq ?_)
 refine aV [] [] rfl Tryz.results85 rfl ?_ (.inr rfl)
 unfold dN lF; simp [Bool.and_assoc]
theorem xe (i : Int) (l : List bg) : ∀ m : List bg, ∃ M, cu i (l ++ m) = cu i l ++ M := fun m => by
 unfold cu; rw [List.zipIdx_append, List.map_append]; exact ⟨_, rfl⟩
theorem iB (i : Int) (l : List bg) (k : Nat) : ∃ M, cu i l = cu i (l.take k) ++ M := by
 obtain ⟨M, h⟩ := xe i (l.take k) (l.drop k)
 rw [List.take_append_drop] at h; exact ⟨M, h⟩
theorem gj (os : List ax) {i : Nat} : ∀ {n : Nat}, i ≤ n → ∃ M, bQ os n = bQ os i ++ M := fun {n} h => by
 induction n with
 | zero => obtain rfl : i = 0 := by omega
           exact ⟨[], by simp⟩
 | succ n ih =>
   by_cases hi : i = n + 1
   · subst hi; exact ⟨[], by simp⟩
   · obtain ⟨M, hM⟩ := ih (by omega)
     exact ⟨M ++ cu (n : Int) (elt os (n : Int)).syms.l, by rw [cq, hM, List.append_assoc]⟩
theorem pT (x : br) (hn : x.objs.l.length ≤ 5) (hs : ∀ o ∈ x.objs.l, o.syms.l.length ≤ 14) (lb : Nat) (F : FuncId) (caps : List Value) (q : Per) (J : List Dfn → Res) (hF : bE Tryz.prog F = true)
   (h : ∀ (L : List Dfn) (d : Dfn), InD x.objs.l d → L.length < 70 → (∃ M, aW x.objs.l = (L ++ [d]) ++ M) → Con Tryz.prog F (d.p.val :: d.s.val :: caps) [q] [J L] fun _ ps hp => ps = [] ∧ hp = [J (L ++ [d])]) :
   Con Tryz.prog 36 [.pointer (some ⟨lb, 0, none⟩), .func (.func F) #[] caps.toArray] [At lb 0 x.row, x.ok, q] [J []] fun _ ps hp => ps = [] ∧ hp = [J (aW x.objs.l)] := by
 have hfl : ∀ i, i ≤ x.objs.l.length → (bQ x.objs.l i).length ≤ 14 * i := fun i => by
   induction i with
   | zero => intro _; exact Nat.le_refl _
   | succ i ih =>
     intro hi
     rw [cq, List.length_append]
     have h1 := ih (by omega)
     have h2 := hs _ (List.mem_of_getElem? (bN (l := x.objs.l) (i := i) (by omega)))
     have h3 : (cu (i : Int) (elt x.objs.l (i : Int)).syms.l).length = (elt x.objs.l (i : Int)).syms.l.length := by unfold cu; simp
     omega
 have hlt : ∀ (i k : Nat) (o : ax), i < x.objs.l.length → elt x.objs.l (i : Int) = o → k < o.syms.l.length → (bQ x.objs.l i ++ cu (i : Int) (o.syms.l.take k)).length < 70 := fun i k o hi ho hk => by
   have h1 := hfl i (by omega)
   have h2 := hs _ (List.mem_of_getElem? (bN (l := x.objs.l) (i := i) (by omega)))
   have h3 : (cu (i : Int) (o.syms.l.take k)).length ≤ k := by unfold cu; simp; omega
   rw [ho] at h2
   rw [List.length_append]; omega
 have hpre : ∀ (i k : Nat) (o : ax) (s : bg), i < x.objs.l.length → elt x.objs.l (i : Int) = o → o.syms.l[k]? = some s → ∃ M, aW x.objs.l = ((bQ x.objs.l i ++ cu (i : Int) (o.syms.l.take k)) ++ [⟨⟨(i : Int), (k : Int)⟩, s⟩]) ++ M := fun i k o s hi ho hk => by
   obtain ⟨M, hM⟩ := gj x.objs.l (i := i + 1) (n := x.objs.l.length) (by omega)
   rw [List.append_assoc _ _ [_], ← dz hk]
   obtain ⟨M2, hM2⟩ := iB (i : Int) o.syms.l (k + 1)
   refine ⟨M2 ++ M, ?_⟩
   unfold aW
   rw [hM, cq, ho, hM2]; simp
 refine Con.enter Tryz.func36 rfl (by simp [Tryz.ntmps36]) ?_
 show awp _ _ _ _ ⟨[(0, true, _), (1, true, _)], _, _⟩
 refine bd (br.f_objs (.of (an 1 rfl))) (fun hlen => ?_)
 refine aSR (aM rfl (aU rfl (bq rfl) ?_))
 refine aU rfl (qFA (off := 0) rfl) ?_
 refine aU rfl (aN (o := 0) tk22 rfl (.of (an 0 rfl)) rfl) (aU rfl (aZ Tryz.underlying22 rfl) (aM rfl (aNn (aw (aP [1, 11, 12, 13] [2, 1, 0] [0] (fun (i : Nat) st => i ≤ x.objs.l.length ∧ st = ⟨[(1, true, .func (.func F) #[] caps.toArray), (11, true, x.objs.val), (12, true, .int .i64 x.objs.l.length), (13, true, .int .i64 i)], [At lb 0 x.row, x.ok, q], [J (bQ x.objs.l i)]⟩) (fun i => x.objs.l.length - i) rfl (⟨0, Nat.zero_le _, rfl⟩) ?_)))))
 rintro i st ⟨hi, rfl⟩
 refine aSR (aU rfl (bt rfl rfl) (aNs ?_))
 refine ah _ rfl (fun h1 => ?_) (fun h1 => ?_)
 ·skip
  have hi' : i < x.objs.l.length := by simp at h1; omega
  have ho := bN hi'
  generalize hoo : elt x.objs.l (i : Int) = o at ho
  refine au (av (az (aw (aSR (aM rfl ?_)))))
  refine ck true rfl rfl (fun _ => ai Tryz.underlying22 tk61 rfl ((br.f_objs (.of (an 1 rfl)))) rfl (aJ ho) rfl rfl) (fun h => absurd h (by decide)) (fun ⟨b2_1, o2_1⟩ => ?_)
  refine aU rfl (aF (o := 0) tk61 rfl (an 0 rfl) rfl rfl) ?_
  refine aj (q := true) rfl (bp (zs := [.string .empty, .slice none 0 0, .slice none 0 0, .slice none 0 0, .slice none 0 0, .slice none 0 0, .slice none 0 0, .slice none 0 0, .slice none 0 0, .slice none 0 0, .slice none 0 0]) (by kernel_rfl) rfl (fun b2_3 => ?_))
  refine aHN ?_
  refine aA rfl ?_
  refine aj rfl (aT 1 tk61 rfl rfl rfl rfl ?_)
  refine aHK ?_
  refine aNs ?_
  refine bd (ax.f_syms (Ent.all (br.f_objsA (.of (an 2 rfl))) ho)) (fun hlen2 => ?_)
  refine ae ?_
  refine aU rfl (qFA (off := 2) rfl) ?_
  refine aU rfl (ab 1 tk51 rfl rfl rfl) (aU rfl (aZ Tryz.underlying51 rfl) (aM rfl (aNn (aw ?_))))
  refine aP [1, 4, 11, 12, 13, 19, 20, 21] [2, 1, 0] [0] (fun (k : Nat) st => k ≤ o.syms.l.length ∧ st = ⟨[(1, true, .func (.func F) #[] caps.toArray), (4, true, .int .i64 i), (11, true, x.objs.val), (12, true, .int .i64 x.objs.l.length), (13, true, .int .i64 i), (19, true, o.syms.val), (20, true, .int .i64 o.syms.l.length), (21, true, .int .i64 k)], [At lb 0 x.row, x.ok, q], [J (bQ x.objs.l i ++ cu (i : Int) (o.syms.l.take k))]⟩) (fun k => o.syms.l.length - k) rfl (⟨0, Nat.zero_le _, by rw [List.take_zero, show cu (i : Int) [] = [] from rfl, List.append_nil]; rfl⟩) ?_
  rintro k st ⟨hk, rfl⟩
  refine aSR (aU rfl (bt rfl rfl) (aNs ?_))
  refine ah _ rfl (fun h2 => ?_) (fun h2 => ?_)
  ·skip
   have hk' : k < o.syms.l.length := by simp at h2; omega
   obtain ⟨s, hs'⟩ : ∃ s, o.syms.l[k]? = some s := ⟨_, List.getElem?_eq_getElem hk'⟩
   refine au (av (az (aw (aSR (aM rfl ?_)))))
   refine ck true rfl rfl (fun _ => ai Tryz.underlying51 tk63 rfl ((ax.f_syms (Ent.all (br.f_objsA (.of (an 1 rfl))) ho))) rfl (aJ hs') rfl rfl) (fun h => absurd h (by decide)) (fun ⟨b5_1, o5_1⟩ => ?_)
   refine aU rfl (aF (o := 0) tk63 rfl (an 0 rfl) rfl rfl) ?_
   refine aj (q := true) rfl (bp (zs := [.string .empty, .string .empty, .bool false, .int .i64 0, .int .i64 0, .int .i64 0, .int .i64 0, .int .i64 0, .int .i64 0, .int .i64 0]) (by kernel_rfl) rfl (fun b5_3 => ?_))
   refine aHN ?_
   refine aA rfl ?_
   refine aj rfl (aT 1 tk63 rfl rfl rfl rfl ?_)
   refine aHK ?_
   refine aNn (ae (aM rfl (aM rfl (aM rfl ?_))))
   refine aU rfl (cU (l := [(0, .tmp 27), (1, .tmp 28)]) (zs := [.int .i64 0, .int .i64 0]) (pl := [(0, 1), (1, 1)]) (by kernel_rfl) (by kernel_rfl) (by kernel_rfl) rfl rfl rfl) ?_
   refine aU rfl (ab 1 tk63 rfl rfl rfl) ?_
   refine aj (q := false) rfl (i7 [0] [0] hF rfl rfl rfl rfl rfl (h _ ⟨⟨(i : Int), (k : Int)⟩, s⟩ ⟨i, k, hi', by rw [hoo]; exact hs', rfl⟩ (hlt i k o hi' hoo hk') (hpre i k o s hi' hoo hs')) ?_)
   rintro _ _ _ ⟨rfl, rfl⟩
   refine aST ?_
   refine cr (bu (av (ae ?_)))
   refine aU rfl (bf rfl rfl (by omega)) ?_
   refine aM rfl (aNn ?_)
   refine ⟨[1, 4, 11, 12, 13, 19, 20, 21], [2, 1, 0], [0], rfl, ?_⟩
   exact ⟨k + 1, ⟨by omega, by rw [dz hs', ← List.append_assoc]; rfl⟩, by omega⟩
  ·skip
   refine aR (aS (aS (aY (bu (av (ae ?_))))))
   refine aU rfl (bf rfl rfl (by omega)) ?_
   refine aM rfl (aNn ?_)
   refine ⟨[1, 11, 12, 13], [2, 1, 0], [0], rfl, ?_⟩
   rw [List.take_of_length_le (by simp at h2; omega)]
   exact ⟨i + 1, ⟨by omega, by rw [cq, hoo]; rfl⟩, by omega⟩
 ·skip
  refine aR (aS (aS (aY ?_)))
  refine iL [] [0] rfl Tryz.results36 ?_ (.inl rfl)
  rw [show i = x.objs.l.length by simp at h1; omega]
  exact ⟨rfl, rfl⟩
end Go.Proofs.YtgmiihmahaahiaaGreatDoor

namespace Go.Proofs.YtgmiihmahaahiaaGreatDoor
open Go.RowKit Go.Lp Go.Sy
open Go.Proofs.Tryz
attribute [local irreducible] aL aB awp aC fwp
theorem uc (b : Nat) (o : ax) (x : eQ) : Con Tryz.prog 156 [x.val, .pointer (some ⟨b, 0, none⟩)] [At b 0 o.row, o.ok] [] (YB True) := by
 refine Con.enter Tryz.func156 rfl (by simp [Tryz.ntmps156]) ?_
 show awp _ _ _ _ ⟨[(0, true, _), (1, true, _)], _, _⟩
 refine aSR ?_
 refine aj (q := true) rfl (bI rfl rfl rfl (fun b0_0 => ?_))
 refine aHN ?_
 refine aA rfl (aNn (aSR (aU rfl (aN (o := 0) tk145 rfl (.of (an 0 rfl)) rfl) ?_)))
 refine aU rfl (qFA (off := 0) rfl) ?_
 refine aU rfl (ab 0 tk3 rfl rfl rfl) ?_
 refine aQ (caps := []) [0] (false) (by kernel_rfl) true rfl rfl (fun _ => rfl) (fun hc => rfl) (fun hc => by rw [List.append_nil]; exact lR o _ _) (fun c1 hc1 => ?_)
 refine aM rfl ?_
 refine aG rfl rfl (fun hc => qFA (off := 1) rfl) ?_
 refine aG rfl rfl (fun hc => ab 0 tk3 (aa rfl hc) rfl rfl) (aG rfl rfl (fun hc => cL (aa rfl hc) rfl) (aU rfl (bn rfl rfl (fun h => gt rfl h)) (aM rfl ?_)))
 refine aG rfl rfl (fun hc => qFA (off := 1) rfl) ?_
 refine aG rfl rfl (fun hc => ab 0 tk3 (aa rfl hc) rfl rfl) (aG rfl rfl (fun hc => eE (aa rfl hc) rfl) (aU rfl (bn rfl rfl (fun h => gt rfl h)) (aA rfl (aNn (aq ?_)))))
 refine aV [] [] rfl Tryz.results156 rfl ?_ (.inr rfl)
 exact ⟨⟨rfl, rfl⟩, _, rfl, fun _ => trivial⟩
theorem rM (o : ax) : Con Tryz.prog 71 [o.val] [o.ok] [] (YB True) := by
 refine Con.enter Tryz.func71 rfl (by simp [Tryz.ntmps71]) ?_
 show awp _ _ _ _ ⟨[(0, true, _)], _, _⟩
 refine aSR ?_
 refine aj (q := true) rfl (bI rfl rfl rfl (fun b0_0 => ?_))
 refine aHN ?_
 refine aA rfl (aNs (bL 0 rfl rfl ?_))
 show awp _ _ _ _ ⟨_, At _ 0 _ :: _, _⟩
 refine ae ?_
 refine aU rfl (qFA (off := 0) rfl) ?_
 refine aU rfl (qFA (off := 5) rfl) ?_
 refine aU rfl (aN (o := 5) tk54 rfl (.of (an 0 rfl)) rfl) (aU rfl (dq (l := [.tmp 1]) rfl) ?_)
 refine aQ (caps := []) [1, 0] (false) (by kernel_rfl) true rfl rfl (fun _ => rfl) (fun hc => rfl) (fun hc => by rw [List.append_nil]; exact (lJ o.inits 156 [.pointer (some ⟨b0_0, 0, none⟩)] (cx (At b0_0 0 o.row) o.ok) (fun _ => True) (by kernel_rfl) (fun x _ => (uc b0_0 o x).pre (eD fw.left fw.right))).pre (eD (ax.f_inits (.of (an 1 rfl))) (.mk2 (.of (an 0 rfl)) (.of (an 1 rfl))))) (fun c1 hc1 => ?_)
 refine aA rfl (aNn (aq ?_))
 refine aV [] [] rfl Tryz.results71 rfl ?_ (.inr rfl)
 exact ⟨⟨rfl, rfl⟩, _, rfl, fun _ => trivial⟩
theorem lI (o : ax) (sec f t : Int) : Con Tryz.prog 165 [o.val, .int .i64 sec, .int .i64 f, .int .i64 t] [o.ok] [] (YB True) := by
 refine Con.enter Tryz.func165 rfl (by simp [Tryz.ntmps165]) ?_
 show awp _ _ _ _ ⟨[(0, true, _), (1, true, _), (2, true, _), (3, true, _)], _, _⟩
 refine bd (ax.f_secs (.of (an 0 rfl))) (fun hlen => ?_)
 refine aSR ?_
 refine aj (q := true) rfl (bI rfl rfl rfl (fun b0_0 => ?_))
 refine aHN ?_
 refine aA rfl (aNn (aSR (aU rfl (ab 0 tk145 rfl rfl rfl) (aM rfl ?_))))
 refine fW (zs := [.int .i64 0]) (l := [(0, .const (.int .i64 0))]) el90 (by kernel_rfl) (by decide) (by decide) (by decide) rfl _ rfl (fun hc => rfl) rfl (.more rfl (.v rfl .nil) .nil) rfl rfl (fun v1_2 => ?_)
 refine aQ (caps := []) [1, 0] (false) (by kernel_rfl) true rfl rfl (fun _ => rfl) (fun hc => rfl) (fun hc => by rw [List.append_nil]; exact (jz o ⟨v1_2, 1, [0]⟩ _).pre (eD (.yes (.of (an 0 rfl)) rfl) (.of (an 1 rfl)))) (fun c1 hc1 => ?_)
 refine aM rfl (aG rfl rfl (fun hc => ar rfl) (aG rfl rfl (fun hc => cL (aa rfl hc) rfl) (aU rfl (bn rfl rfl (fun h => gt rfl h)) (aM rfl (aG rfl rfl (fun hc => ar rfl) (aG rfl rfl (fun hc => ar rfl) (aG rfl rfl (fun hc => bt (aa rfl hc) (aa rfl hc)) (aU rfl (bn rfl rfl (fun h => gt rfl h)) (aM rfl (aG rfl rfl (fun hc => ar rfl) ?_))))))))))
 refine aG rfl rfl (fun hc => qFA (off := 0) rfl) ?_
 refine aG rfl rfl (fun hc => qFA (off := 1) (aa rfl hc)) ?_
 refine aG rfl rfl (fun hc => ab 0 tk50 (aa rfl hc) rfl rfl) (aG rfl rfl (fun hc => ar rfl) ?_)
 refine ck _ rfl rfl (fun hc => ai Tryz.underlying50 tk85 (aa rfl hc) ((ax.f_secs (.of (an 1 rfl)))) (aa rfl hc) (cR (i := sec) (by have := hc1 rfl (by simp at hc; exact hc.1.1); omega) (by have := hc1 rfl (by simp at hc; exact hc.1.1); omega)) ((by have := hc1 rfl (by simp at hc; exact hc.1.1); omega)) rfl) (fun _ => ⟨(0, 0)⟩) (fun ⟨b1_19, o1_19⟩ => ?_)
 refine aG rfl rfl (fun hc => qFA (off := 3) (aa rfl hc)) ?_
 refine aG rfl rfl (fun hc => aF (o := 3) tk3 (aa rfl hc) (an 0 rfl) hc rfl) (aG rfl rfl (fun hc => eE (aa rfl hc) (aa rfl hc)) (aU rfl (bn rfl rfl (fun h => gt rfl h)) (aM rfl (aG rfl rfl (fun hc => ar rfl) ?_))))
 refine aG rfl rfl (fun hc => eO (aa rfl hc) rfl (by decide)) ?_
 refine aG rfl rfl (fun hc => bB (aa rfl hc) rfl) (aU rfl (bn rfl rfl (fun h => gt rfl h)) (aM rfl (aG rfl rfl (fun hc => ar rfl) ?_)))
 refine aG rfl rfl (fun hc => eO (aa rfl hc) rfl (by decide)) ?_
 refine aG rfl rfl (fun hc => bB (aa rfl hc) rfl) (aU rfl (bn rfl rfl (fun h => gt rfl h)) (aA rfl (aNn (aq ?_))))
 refine aV [] [] rfl Tryz.results165 rfl ?_ (.inr rfl)
 exact ⟨⟨rfl, rfl⟩, _, rfl, fun _ => trivial⟩
theorem uz (b : Nat) (o : ax) (x : dA) : Con Tryz.prog 158 [x.val, .pointer (some ⟨b, 0, none⟩)] [At b 0 o.row, o.ok, x.ok] [] (YB True) := by
 refine Con.enter Tryz.func158 rfl (by simp [Tryz.ntmps158]) ?_
 show awp _ _ _ _ ⟨[(0, true, _), (1, true, _)], _, _⟩
 refine bd (ax.f_secs (.of (an 1 rfl))) (fun hlen => ?_)
 refine eR (dA.f_file (.of (an 2 rfl))) (fun hnl => ?_)
 refine aSR ?_
 refine aj (q := true) rfl (bI rfl rfl rfl (fun b0_0 => ?_))
 refine aHN ?_
 refine aA rfl (aNs ?_)
 refine aX [] (by kernel_rfl) ?_
 show aB _ _ _ _ _ 40 #[false, false, false, false, false, false, false, false, false, false, false, false, false, false, false, false, false, false, false, false, false, false, false, false, false, false, false, false, false, false, false, false, false, false, false, false, false, false, false, false] _
 refine bV 0 rfl rfl (aN (o := 0) tk145 rfl (.of (an 0 rfl)) rfl) ?_
 refine bV 1 rfl rfl (qFA (off := 0) rfl) ?_
 refine bV 2 rfl rfl (ab 0 tk3 rfl rfl rfl) ?_
 refine ig (zs := [.int .i64 0]) (l := [(0, .const (.int .i64 0))]) 3 rfl (by kernel_rfl) el90 (by kernel_rfl) (by decide) (by decide) (by decide) rfl rfl rfl rfl (.more rfl (.v rfl .nil) .nil) rfl rfl (fun v1_3 => ?_)
 refine el (caps := []) 4 rfl (by kernel_rfl) [3, 1] (false) (by kernel_rfl) true rfl rfl (fun _ => rfl) (fun hc => rfl) (fun hc => by rw [List.append_nil]; exact jz o ⟨v1_3, 1, [0]⟩ _) (fun c1 hc1 => ?_)
 refine bV 5 rfl rfl (ar rfl) ?_
 refine bW 6 rfl rfl rfl (fun hc => qFA (off := 1) rfl) ?_
 refine bW 7 rfl rfl rfl (fun hc => ab 0 tk3 (aa rfl hc) rfl rfl) ?_
 refine bW 8 rfl rfl rfl (fun hc => qFA (off := 0) rfl) ?_
 refine bW 9 rfl rfl rfl (fun hc => qFA (off := 1) (aa rfl hc)) ?_
 refine bW 10 rfl rfl rfl (fun hc => aN (o := 1) tk50 (aa rfl hc) (.of (an 1 rfl)) rfl) ?_
 refine bW 11 rfl rfl rfl (fun hc => qFA (off := 0) rfl) ?_
 refine bW 12 rfl rfl rfl (fun hc => ab 0 tk3 (aa rfl hc) rfl rfl) ?_
 refine cD 13 rfl (by kernel_rfl) _ rfl rfl (fun hc => ai Tryz.underlying50 tk85 (aa rfl hc) ((ax.f_secs (.of (an 2 rfl)))) (aa rfl hc) (cR (i := x.sec) (by have := hc1 rfl (by simp at hc; exact hc); omega) (by have := hc1 rfl (by simp at hc; exact hc); omega)) ((by have := hc1 rfl (by simp at hc; exact hc); omega)) rfl) (fun _ => ⟨(0, 0)⟩) (fun ⟨b1_13, o1_13⟩ => ?_)
 refine bW 14 rfl rfl rfl (fun hc => qFA (off := 3) (aa rfl hc)) ?_
 refine bW 15 rfl rfl rfl (fun hc => aF (o := 3) tk3 (aa rfl hc) (an 0 rfl) hc rfl) ?_
 refine bW 16 rfl rfl rfl (fun hc => bw (by kernel_rfl) (aI (aa rfl hc) (aI (aa rfl hc) rfl)) (fun w S fp hst => (cB _ _).quiet0 hst)) ?_
 refine bV 17 rfl rfl (bn rfl rfl (fun h => gt rfl h)) ?_
 refine bV 18 rfl rfl (ar rfl) ?_
 refine bW 19 rfl rfl rfl (fun hc => qFA (off := 1) rfl) ?_
 refine bW 20 rfl rfl rfl (fun hc => ab 0 tk3 (aa rfl hc) rfl rfl) ?_
 refine bW 21 rfl rfl rfl (fun hc => eO (aa rfl hc) rfl (by decide)) ?_
 refine bW 22 rfl rfl rfl (fun hc => bB (aa rfl hc) rfl) ?_
 refine bV 23 rfl rfl (bn rfl rfl (fun h => gt rfl h)) ?_
 refine bV 24 rfl rfl (ar rfl) ?_
 refine bW 25 rfl rfl rfl (fun hc => qFA (off := 2) rfl) ?_
 refine bW 26 rfl rfl rfl (fun hc => ab 0 tk9 (aa rfl hc) rfl rfl) ?_
 refine el (caps := []) 27 rfl (by kernel_rfl) [] (false) (by kernel_rfl) _ rfl rfl (fun _ => rfl) (fun hc => (aI (aa rfl hc) rfl)) (fun hc => by rw [List.append_nil]; exact nV _ hnl) (fun c2 hc2 => ?_)
 refine bV 28 rfl rfl (bn rfl rfl (fun h => gt rfl h)) ?_
 refine bV 29 rfl rfl (ar rfl) ?_
 refine bW 30 rfl rfl rfl (fun hc => qFA (off := 3) rfl) ?_
 refine bW 31 rfl rfl rfl (fun hc => ab 0 tk3 (aa rfl hc) rfl rfl) ?_
 refine bW 32 rfl rfl rfl (fun hc => cL (aa rfl hc) rfl) ?_
 refine bV 33 rfl rfl (bn rfl rfl (fun h => gt rfl h)) ?_
 refine bV 34 rfl rfl (ar rfl) ?_
 refine bW 35 rfl rfl rfl (fun hc => qFA (off := 3) rfl) ?_
 refine bW 36 rfl rfl rfl (fun hc => ab 0 tk3 (aa rfl hc) rfl rfl) ?_
 refine bW 37 rfl rfl rfl (fun hc => eE (aa rfl hc) rfl) ?_
 refine bV 38 rfl rfl (bn rfl rfl (fun h => gt rfl h)) ?_
 refine bV 39 rfl rfl (bJ rfl) ?_
 refine bD (by kernel_rfl) ?_
 refine av (aq ?_)
 refine aV [] [] rfl Tryz.results158 rfl ?_ (.inr rfl)
 exact ⟨⟨rfl, rfl⟩, _, rfl, fun _ => trivial⟩
theorem uO (x y : dA) (p : Per) : Con Tryz.prog 160 [x.val, y.val] [p] [] (YB True) := by
 refine Con.enter Tryz.func160 rfl (by simp [Tryz.ntmps160]) ?_
 show awp _ _ _ _ ⟨[(0, true, _), (1, true, _)], _, _⟩
 refine aSR ?_
 refine aj (q := true) rfl (bI rfl rfl rfl (fun b0_0 => ?_))
 refine aHN ?_
 refine aj (q := true) rfl (bI rfl rfl rfl (fun b0_1 => ?_))
 refine aHN ?_
 refine aA rfl (aNn (aSR ?_))
 refine aU rfl (qFA (off := 0) rfl) ?_
 refine aU rfl (ab 0 tk3 rfl rfl rfl) ?_
 refine aU rfl (qFA (off := 0) rfl) ?_
 refine aU rfl (ab 1 tk3 rfl rfl rfl) (aU rfl (bt rfl rfl) (aM rfl ?_))
 refine aG rfl rfl (fun hc => qFA (off := 0) rfl) ?_
 refine aG rfl rfl (fun hc => ab 0 tk3 (aa rfl hc) rfl rfl) ?_
 refine aG rfl rfl (fun hc => qFA (off := 0) rfl) ?_
 refine aG rfl rfl (fun hc => ab 1 tk3 (aa rfl hc) rfl rfl) (aG rfl rfl (fun hc => bB (aa rfl hc) (aa rfl hc)) (aG rfl rfl (fun hc => ar (aa rfl hc)) ?_))
 refine aG rfl rfl (fun hc => qFA (off := 1) rfl) ?_
 refine aG rfl rfl (fun hc => ab 0 tk3 (aa rfl hc) rfl rfl) ?_
 refine aG rfl rfl (fun hc => qFA (off := 1) rfl) ?_
 refine aG rfl rfl (fun hc => ab 1 tk3 (aa rfl hc) rfl rfl) (aG rfl rfl (fun hc => bt (aa rfl hc) (aa rfl hc)) (aG rfl rfl (fun hc => bn (aa rfl hc) rfl (fun h => gt hc h)) (aU rfl (ct rfl rfl (fun h => gf rfl h)) (aA rfl (aNn (aq ?_))))))
 refine aV [] [] rfl Tryz.results160 rfl ?_ (.inr rfl)
 exact ⟨⟨rfl, rfl⟩, _, rfl, fun _ => trivial⟩
theorem rA (o : ax) : Con Tryz.prog 72 [o.val] [o.ok] [] (YB True) := by
 refine Con.enter Tryz.func72 rfl (by simp [Tryz.ntmps72]) ?_
 show awp _ _ _ _ ⟨[(0, true, _)], _, _⟩
 refine aSR ?_
 refine aj (q := true) rfl (bI rfl rfl rfl (fun b0_0 => ?_))
 refine aHN ?_
 refine aA rfl (aNn (aSR (aU rfl (dq (l := [.tmp 1]) rfl) (aA rfl (cr ?_)))))
 refine av (aSR (aA rfl (aNs (bL 0 rfl rfl ?_))))
 show awp _ _ _ _ ⟨_, At _ 0 _ :: _, _⟩
 refine ae ?_
 refine aU rfl (qFA (off := 0) rfl) ?_
 refine aU rfl (qFA (off := 6) rfl) ?_
 refine aU rfl (aN (o := 6) tk55 rfl (.of (an 0 rfl)) rfl) (aM rfl ?_)
 refine aQ (caps := []) [1, 0] (false) (by kernel_rfl) true rfl rfl (fun _ => rfl) (fun hc => rfl) (fun hc => by rw [List.append_nil]; exact (mj o.lines 158 [.pointer (some ⟨b0_0, 0, none⟩)] (cx (At b0_0 0 o.row) o.ok) (fun _ => True) (by kernel_rfl) (fun x hx => (uz b0_0 o x).pre (rY fw.left fw.right (.allm (ax.f_linesA fw.right) hx)))).pre (eD (ax.f_lines (.of (an 1 rfl))) (.mk2 (.of (an 0 rfl)) (.of (an 1 rfl))))) (fun c1 hc1 => ?_)
 refine aM rfl ?_
 refine aG rfl rfl (fun hc => qFA (off := 0) rfl) ?_
 refine aG rfl rfl (fun hc => qFA (off := 6) (aa rfl hc)) ?_
 refine aG rfl rfl (fun hc => aN (o := 6) tk55 (aa rfl hc) (.of (an 0 rfl)) rfl) (aG rfl rfl (fun hc => ar rfl) ?_)
 refine aQ (caps := []) [0] (false) (by kernel_rfl) _ rfl rfl (fun _ => rfl) (fun hc => (aI (aa rfl hc) (aI (aa rfl hc) rfl))) (fun hc => by rw [List.append_nil]; exact (l8 o.lines 160 [] o.ok (by kernel_rfl) (fun x _ y _ => uO x y _)).pre (eD (ax.f_lines (.of (an 0 rfl))) (.of (an 0 rfl)))) (fun c2 hc2 => ?_)
 refine aU rfl (bn rfl rfl (fun h => gt rfl h)) (aA rfl (aNn (aq ?_)))
 refine aV [] [] rfl Tryz.results72 rfl ?_ (.inr rfl)
 exact ⟨⟨rfl, rfl⟩, _, rfl, fun _ => trivial⟩
theorem rE (b : Nat) (o : ax) (x : dD) : Con Tryz.prog 171 [x.val, .pointer (some ⟨b, 0, none⟩)] [At b 0 o.row, o.ok] [] (YB True) := by
 refine Con.enter Tryz.func171 rfl (by simp [Tryz.ntmps171]) ?_
 show awp _ _ _ _ ⟨[(0, true, _), (1, true, _)], _, _⟩
 refine aSR ?_
 refine aj (q := true) rfl (bI rfl rfl rfl (fun b0_0 => ?_))
 refine aHN ?_
 refine aA rfl (aNn (aSR (aU rfl (aN (o := 0) tk145 rfl (.of (an 0 rfl)) rfl) ?_)))
 refine aU rfl (qFA (off := 0) rfl) ?_
 refine aU rfl (ab 0 tk3 rfl rfl rfl) ?_
 refine aU rfl (qFA (off := 1) rfl) ?_
 refine aU rfl (ab 0 tk3 rfl rfl rfl) ?_
 refine aU rfl (qFA (off := 2) rfl) ?_
 refine aU rfl (ab 0 tk3 rfl rfl rfl) ?_
 refine aQ (caps := []) [0] (false) (by kernel_rfl) true rfl rfl (fun _ => rfl) (fun hc => rfl) (fun hc => by rw [List.append_nil]; exact lI o _ _ _) (fun c1 hc1 => ?_)
 refine aM rfl ?_
 refine aG rfl rfl (fun hc => qFA (off := 3) rfl) ?_
 refine aG rfl rfl (fun hc => ab 0 tk3 (aa rfl hc) rfl rfl) ?_
 refine aG rfl rfl (fun hc => bw (by kernel_rfl) (aI (aa rfl hc) (aI (aa rfl rfl) rfl)) (fun w S fp hst => (cB _ _).quiet0 hst)) ?_
 refine aU rfl (bn rfl rfl (fun h => gt rfl h)) (aM rfl ?_)
 refine aG rfl rfl (fun hc => qFA (off := 3) rfl) ?_
 refine aG rfl rfl (fun hc => ab 0 tk3 (aa rfl hc) rfl rfl) ?_
 refine aG rfl rfl (fun hc => eO (aa rfl hc) rfl (by decide)) ?_
 refine aG rfl rfl (fun hc => bB (aa rfl hc) rfl) (aU rfl (bn rfl rfl (fun h => gt rfl h)) (aA rfl (aNn (aq ?_))))
 refine aV [] [] rfl Tryz.results171 rfl ?_ (.inr rfl)
 exact ⟨⟨rfl, rfl⟩, _, rfl, fun _ => trivial⟩
theorem rF (x y : dD) (p : Per) : Con Tryz.prog 172 [x.val, y.val] [p] [] (YB True) := by
 refine Con.enter Tryz.func172 rfl (by simp [Tryz.ntmps172]) ?_
 show awp _ _ _ _ ⟨[(0, true, _), (1, true, _)], _, _⟩
 refine aSR ?_
 refine aj (q := true) rfl (bI rfl rfl rfl (fun b0_0 => ?_))
 refine aHN ?_
 refine aj (q := true) rfl (bI rfl rfl rfl (fun b0_1 => ?_))
 refine aHN ?_
 refine aA rfl (aNn (aSR ?_))
 refine aU rfl (qFA (off := 0) rfl) ?_
 refine aU rfl (ab 0 tk3 rfl rfl rfl) ?_
 refine aU rfl (qFA (off := 0) rfl) ?_
 refine aU rfl (ab 1 tk3 rfl rfl rfl) (aU rfl (bt rfl rfl) (aM rfl ?_))
 refine aG rfl rfl (fun hc => qFA (off := 0) rfl) ?_
 refine aG rfl rfl (fun hc => ab 0 tk3 (aa rfl hc) rfl rfl) ?_
 refine aG rfl rfl (fun hc => qFA (off := 0) rfl) ?_
 refine aG rfl rfl (fun hc => ab 1 tk3 (aa rfl hc) rfl rfl) (aG rfl rfl (fun hc => bB (aa rfl hc) (aa rfl hc)) (aG rfl rfl (fun hc => ar (aa rfl hc)) ?_))
 refine aG rfl rfl (fun hc => qFA (off := 2) rfl) ?_
 refine aG rfl rfl (fun hc => ab 0 tk3 (aa rfl hc) rfl rfl) ?_
 refine aG rfl rfl (fun hc => qFA (off := 1) rfl) ?_
 refine aG rfl rfl (fun hc => ab 1 tk3 (aa rfl hc) rfl rfl) (aG rfl rfl (fun hc => eE (aa rfl hc) (aa rfl hc)) (aG rfl rfl (fun hc => bn (aa rfl hc) rfl (fun h => gt hc h)) (aU rfl (ct rfl rfl (fun h => gf rfl h)) (aA rfl (aNn (aq ?_))))))
 refine aV [] [] rfl Tryz.results172 rfl ?_ (.inr rfl)
 exact ⟨⟨rfl, rfl⟩, _, rfl, fun _ => trivial⟩
theorem qB (o : ax) : Con Tryz.prog 75 [o.val] [o.ok] [] (YB True) := by
 refine Con.enter Tryz.func75 rfl (by simp [Tryz.ntmps75]) ?_
 show awp _ _ _ _ ⟨[(0, true, _)], _, _⟩
 refine aSR ?_
 refine aj (q := true) rfl (bI rfl rfl rfl (fun b0_0 => ?_))
 refine aHN ?_
 refine aA rfl (aNn (aSR (aU rfl (dq (l := [.tmp 1]) rfl) (aA rfl (cr ?_)))))
 refine av (aSR (aA rfl (aNs (bL 0 rfl rfl ?_))))
 show awp _ _ _ _ ⟨_, At _ 0 _ :: _, _⟩
 refine ae ?_
 refine aU rfl (qFA (off := 0) rfl) ?_
 refine aU rfl (qFA (off := 9) rfl) ?_
 refine aU rfl (aN (o := 9) tk58 rfl (.of (an 0 rfl)) rfl) (aM rfl ?_)
 refine aQ (caps := []) [1, 0] (false) (by kernel_rfl) true rfl rfl (fun _ => rfl) (fun hc => rfl) (fun hc => by rw [List.append_nil]; exact (kV o.depths 171 [.pointer (some ⟨b0_0, 0, none⟩)] (cx (At b0_0 0 o.row) o.ok) (fun _ => True) (by kernel_rfl) (fun x hx => (rE b0_0 o x).pre (eD fw.left fw.right))).pre (eD (ax.f_depths (.of (an 1 rfl))) (.mk2 (.of (an 0 rfl)) (.of (an 1 rfl))))) (fun c1 hc1 => ?_)
 refine aM rfl ?_
 refine aG rfl rfl (fun hc => qFA (off := 0) rfl) ?_
 refine aG rfl rfl (fun hc => qFA (off := 9) (aa rfl hc)) ?_
 refine aG rfl rfl (fun hc => aN (o := 9) tk58 (aa rfl hc) (.of (an 0 rfl)) rfl) (aG rfl rfl (fun hc => ar rfl) ?_)
 refine aQ (caps := []) [0] (false) (by kernel_rfl) _ rfl rfl (fun _ => rfl) (fun hc => (aI (aa rfl hc) (aI (aa rfl hc) rfl))) (fun hc => by rw [List.append_nil]; exact (k7 o.depths 172 [] o.ok (by kernel_rfl) (fun x _ y _ => rF x y _)).pre (eD (ax.f_depths (.of (an 0 rfl))) (.of (an 0 rfl)))) (fun c2 hc2 => ?_)
 refine aU rfl (bn rfl rfl (fun h => gt rfl h)) (aA rfl (aNn (aq ?_)))
 refine aV [] [] rfl Tryz.results75 rfl ?_ (.inr rfl)
 exact ⟨⟨rfl, rfl⟩, _, rfl, fun _ => trivial⟩
end Go.Proofs.YtgmiihmahaahiaaGreatDoor

namespace Go.Proofs.YtgmiihmahaahiaaGreatDoor
open Go.RowKit Go.Lp Go.Sy
open Go.Proofs.Tryz
attribute [local irreducible] aL aB awp aC fwp
theorem tl (l : Sl Int) : Con Tryz.prog 44 [l.val] [ShF eN l] [] (YN (fun z : Int => .int .i64 z) fun _ => True) := by
 refine Con.enter Tryz.func44 rfl (by simp [Tryz.ntmps44]) ?_
 show awp _ _ _ _ ⟨[(0, true, _)], _, _⟩
 refine bd (.of (an 0 rfl)) (fun hlen => ?_)
 refine aSR (aA rfl (aNn (aSR (aA rfl (aNs (aSR (aM rfl (aU rfl (aZ Tryz.underlying90 rfl) (aM rfl ?_)))))))))
 refine aNn (aw (aP [0, 3, 6, 7, 8] [0] [] (fun (k : Nat) st => k ≤ l.l.length ∧ st = ⟨[(0, true, l.val), (3, true, .int .i64 0), (6, true, l.val), (7, true, .int .i64 l.l.length), (8, true, .int .i64 k)], [ShF eN l], []⟩) (fun k => l.l.length - k) rfl (⟨0, Nat.zero_le _, rfl⟩) ?_))
 rintro k st ⟨hk, rfl⟩
 refine aSR (aU rfl (bt rfl rfl) (aNs ?_))
 refine ah _ rfl (fun h1 => ?_) (fun h1 => ?_)
 ·skip
  have hk' : k < l.l.length := by simp at h1; omega
  obtain ⟨a, ha⟩ : ∃ a, l.l[k]? = some a := ⟨l.l[k]'hk', by simp⟩
  refine au (av (az (aw (aSR ?_))))
  refine ck true rfl rfl (fun _ => ai Tryz.underlying90 tk3 rfl ((.of (an 0 rfl))) rfl (aJ ha) rfl rfl) (fun h => absurd h (by decide)) (fun ⟨b4_0, o4_0⟩ => ?_)
  refine aU rfl (aF (o := 0) tk3 rfl (an 0 rfl) rfl rfl) (aA rfl (aNn (aSR (aM rfl (aM rfl (aU rfl (cN rfl rfl) (aNn ?_)))))))
  refine ah _ rfl (fun h2 => ?_) (fun h2 => ?_)
  ·skip
   refine aSR (aM rfl (aA rfl (aNn (aq (bj (aK (aK (bj (aK ?_)))))))))
   refine aV [] [] rfl Tryz.results44 rfl ?_ (.inr rfl)
   exact ⟨⟨rfl, rfl⟩, _, rfl, trivial⟩
  ·skip
   refine au (bu (av (ae ?_)))
   refine aU rfl (bf rfl rfl (by omega)) ?_
   refine aM rfl (aNn ?_)
   refine ⟨[0, 3, 6, 7, 8], [0], [], rfl, ?_⟩
   exact ⟨k + 1, ⟨by omega, rfl⟩, by omega⟩
 ·skip
  refine aR (aS (aS (aY (av (aSR (aM rfl (aA rfl (aNn (aq ?_)))))))))
  refine aV [] [] rfl Tryz.results44 rfl ?_ (.inr rfl)
  exact ⟨⟨rfl, rfl⟩, _, rfl, trivial⟩
theorem wX (b : Nat) (o : ax) (x : eH) : Con Tryz.prog 167 [x.val, .pointer (some ⟨b, 0, none⟩)] [At b 0 o.row, o.ok, x.ok] [] (YB True) := by
 refine Con.enter Tryz.func167 rfl (by simp [Tryz.ntmps167]) ?_
 show awp _ _ _ _ ⟨[(0, true, _), (1, true, _)], _, _⟩
 refine eR (eH.f_name (.of (an 2 rfl))) (fun hnl => ?_)
 refine aSR ?_
 refine aj (q := true) rfl (bI rfl rfl rfl (fun b0_0 => ?_))
 refine aHN ?_
 refine aA rfl (aNs (aSR (aU rfl (aN (o := 0) tk145 rfl (.of (an 0 rfl)) rfl) ?_)))
 refine aU rfl (qFA (off := 0) rfl) ?_
 refine aU rfl (ab 0 tk3 rfl rfl rfl) ?_
 refine aU rfl (qFA (off := 1) rfl) ?_
 refine aU rfl (ab 0 tk3 rfl rfl rfl) ?_
 refine aU rfl (qFA (off := 2) rfl) ?_
 refine aU rfl (ab 0 tk3 rfl rfl rfl) ?_
 refine aQ (caps := []) [1] (false) (by kernel_rfl) true rfl rfl (fun _ => rfl) (fun hc => rfl) (fun hc => by rw [List.append_nil]; exact lI o _ _ _) (fun c1 hc1 => ?_)
 refine aU rfl (bT rfl) (aM rfl ?_)
 refine aG rfl rfl (fun hc => qFA (off := 3) rfl) ?_
 refine aG rfl rfl (fun hc => ab 0 tk9 (aa rfl hc) rfl rfl) ?_
 refine aQ (caps := []) [] (false) (by kernel_rfl) _ rfl rfl (fun _ => rfl) (fun hc => (aI (aa rfl hc) rfl)) (fun hc => by rw [List.append_nil]; exact eY _ hnl) (fun c2 hc2 => ?_)
 refine aG rfl rfl (fun hc => bT (aa rfl hc)) (aU rfl (ct rfl rfl (fun h => gf rfl h)) (aNn ?_))
 refine ah _ rfl (fun h1 => ?_) (fun h1 => ?_)
 ·skip
  refine aSR (aA rfl (aNn (aq (aK ?_))))
  refine aV [] [] rfl Tryz.results167 rfl ?_ (.inr rfl)
  exact ⟨⟨rfl, rfl⟩, _, rfl, fun _ => trivial⟩
 ·skip
  refine au (av (az (aSR ?_)))
  refine aU rfl (qFA (off := 4) rfl) ?_
  refine aU rfl (ab 0 tk3 rfl rfl rfl) (aNn (aw (aSR (aU rfl (bB rfl rfl) (aA rfl (aNn ?_))))))
  refine ah _ rfl (fun h2 => ?_) (fun h2 => ?_)
  ·skip
   refine aSR ?_
   refine aU rfl (qFA (off := 5) rfl) ?_
   refine aU rfl (ab 0 tk3 rfl rfl rfl) ?_
   refine aU rfl (bw (by kernel_rfl) rfl (fun w S fp hst => (cB _ _).quiet0 hst)) ?_
   refine aA rfl (aNn (aq (bj (aK ?_))))
   refine aV [] [] rfl Tryz.results167 rfl ?_ (.inr rfl)
   exact ⟨⟨rfl, rfl⟩, _, rfl, fun _ => trivial⟩
  ·skip
   refine aSR (aU rfl (bB rfl rfl) (aA rfl (aNn ?_)))
   refine ah _ rfl (fun h3 => ?_) (fun h3 => ?_)
   ·skip
    refine aSR ?_
    refine aU rfl (qFA (off := 5) rfl) ?_
    refine aU rfl (ab 0 tk3 rfl rfl rfl) ?_
    refine aU rfl (bw (by kernel_rfl) rfl (fun w S fp hst => (cB _ _).quiet0 hst)) ?_
    refine aM rfl ?_
    refine aG rfl rfl (fun hc => qFA (off := 5) rfl) ?_
    refine aG rfl rfl (fun hc => ab 0 tk3 (aa rfl hc) rfl rfl) ?_
    refine aG rfl rfl (fun hc => eO (aa rfl hc) rfl (by decide)) ?_
    refine aG rfl rfl (fun hc => bB (aa rfl hc) rfl) (aU rfl (bn rfl rfl (fun h => gt rfl h)) (aA rfl (aNn (aq (bj (aK ?_))))))
    refine aV [] [] rfl Tryz.results167 rfl ?_ (.inr rfl)
    exact ⟨⟨rfl, rfl⟩, _, rfl, fun _ => trivial⟩
   ·skip
    refine aSR (aU rfl (bB rfl rfl) (aA rfl (aNn ?_)))
    refine ah _ rfl (fun h4 => ?_) (fun h4 => ?_)
    ·skip
     refine aSR (aU rfl (aN (o := 0) tk145 rfl (.of (an 0 rfl)) rfl) ?_)
     refine aU rfl (qFA (off := 5) rfl) ?_
     refine aU rfl (ab 0 tk3 rfl rfl rfl) ?_
     refine aQ (caps := []) [1] (false) (by kernel_rfl) true rfl rfl (fun _ => rfl) (fun hc => rfl) (fun hc => by rw [List.append_nil]; exact lR o _ _) (fun c3 hc3 => ?_)
     refine aA rfl (aNn (aq (bj (aK ?_))))
     refine aV [] [] rfl Tryz.results167 rfl ?_ (.inr rfl)
     exact ⟨⟨rfl, rfl⟩, _, rfl, fun _ => trivial⟩
    ·skip
     refine au (bu (av (aSR (aA rfl (aNn (aq ?_))))))
     refine aV [] [] rfl Tryz.results167 rfl ?_ (.inr rfl)
     exact ⟨⟨rfl, rfl⟩, _, rfl, fun _ => trivial⟩
theorem vD (x y : eH) (p : Per) : Con Tryz.prog 168 [x.val, y.val] [p] [] (YB True) := by
 refine Con.enter Tryz.func168 rfl (by simp [Tryz.ntmps168]) ?_
 show awp _ _ _ _ ⟨[(0, true, _), (1, true, _)], _, _⟩
 refine aSR ?_
 refine aj (q := true) rfl (bI rfl rfl rfl (fun b0_0 => ?_))
 refine aHN ?_
 refine aj (q := true) rfl (bI rfl rfl rfl (fun b0_1 => ?_))
 refine aHN ?_
 refine aA rfl (aNs ?_)
 refine aX [] (by kernel_rfl) ?_
 show aB _ _ _ _ _ 24 #[false, false, false, false, false, false, false, false, false, false, false, false, false, false, false, false, false, false, false, false, false, false, false, false] _
 refine bV 0 rfl rfl (qFA (off := 0) rfl) ?_
 refine bV 1 rfl rfl (ab 0 tk3 rfl rfl rfl) ?_
 refine bV 2 rfl rfl (qFA (off := 0) rfl) ?_
 refine bV 3 rfl rfl (ab 1 tk3 rfl rfl rfl) ?_
 refine bV 4 rfl rfl (bw (by kernel_rfl) rfl (fun w S fp hst => (fK _ _).quiet0 hst)) ?_
 refine bV 5 rfl rfl (qFA (off := 1) rfl) ?_
 refine bV 6 rfl rfl (ab 0 tk3 rfl rfl rfl) ?_
 refine bV 7 rfl rfl (qFA (off := 1) rfl) ?_
 refine bV 8 rfl rfl (ab 1 tk3 rfl rfl rfl) ?_
 refine bV 9 rfl rfl (bw (by kernel_rfl) rfl (fun w S fp hst => (fK _ _).quiet0 hst)) ?_
 refine bV 10 rfl rfl (qFA (off := 2) rfl) ?_
 refine bV 11 rfl rfl (ab 0 tk3 rfl rfl rfl) ?_
 refine bV 12 rfl rfl (qFA (off := 2) rfl) ?_
 refine bV 13 rfl rfl (ab 1 tk3 rfl rfl rfl) ?_
 refine bV 14 rfl rfl (bw (by kernel_rfl) rfl (fun w S fp hst => (fK _ _).quiet0 hst)) ?_
 refine bV 15 rfl rfl (qFA (off := 3) rfl) ?_
 refine bV 16 rfl rfl (ab 0 tk9 rfl rfl rfl) ?_
 refine bV 17 rfl rfl (qFA (off := 3) rfl) ?_
 refine bV 18 rfl rfl (ab 1 tk9 rfl rfl rfl) ?_
 refine bV 19 rfl rfl (bw (by kernel_rfl) rfl (fun w S fp hst => (mi _ _).quiet0 hst)) ?_
 refine ig (zs := [.int .i64 0]) (l := [(0, .tmp 9), (1, .tmp 14), (2, .tmp 19), (3, .tmp 24)]) 20 rfl (by kernel_rfl) el90 (by kernel_rfl) (by decide) (by decide) (by decide) rfl rfl rfl rfl (.more rfl (.v rfl .nil) (.more rfl (.v rfl .nil) (.more rfl (.v rfl .nil) (.more rfl (.v rfl .nil) .nil)))) rfl rfl (fun v1_20 => ?_)
 refine el (caps := []) 21 rfl (by kernel_rfl) [1] ((0 : Int)) (by kernel_rfl) true rfl rfl (fun _ => rfl) (fun hc => rfl) (fun hc => by rw [List.append_nil]; exact tl ⟨v1_20, 4, [iP x.sec y.sec, iP x.from_ y.from_, iP x.to_ y.to_, kY x.name y.name]⟩) (fun c1 hc1 => ?_)
 refine bV 22 rfl rfl (bt rfl rfl) ?_
 refine bV 23 rfl rfl (bJ rfl) ?_
 refine bD (by kernel_rfl) ?_
 refine av (aq ?_)
 refine aV [] [] rfl Tryz.results168 rfl ?_ (.inr rfl)
 exact ⟨⟨rfl, rfl⟩, _, rfl, fun _ => trivial⟩
theorem uT (o : ax) : Con Tryz.prog 74 [o.val] [o.ok] [] (YB True) := by
 refine Con.enter Tryz.func74 rfl (by simp [Tryz.ntmps74]) ?_
 show awp _ _ _ _ ⟨[(0, true, _)], _, _⟩
 refine aSR ?_
 refine aj (q := true) rfl (bI rfl rfl rfl (fun b0_0 => ?_))
 refine aHN ?_
 refine aA rfl (aNn (aSR (aU rfl (dq (l := [.tmp 1]) rfl) (aA rfl (cr ?_)))))
 refine av (aSR (aA rfl (aNs (bL 0 rfl rfl ?_))))
 show awp _ _ _ _ ⟨_, At _ 0 _ :: _, _⟩
 refine ae ?_
 refine aU rfl (qFA (off := 0) rfl) ?_
 refine aU rfl (qFA (off := 8) rfl) ?_
 refine aU rfl (aN (o := 8) tk57 rfl (.of (an 0 rfl)) rfl) (aM rfl ?_)
 refine aQ (caps := []) [1, 0] (false) (by kernel_rfl) true rfl rfl (fun _ => rfl) (fun hc => rfl) (fun hc => by rw [List.append_nil]; exact (mT o.vars 167 [.pointer (some ⟨b0_0, 0, none⟩)] (cx (At b0_0 0 o.row) o.ok) (fun _ => True) (by kernel_rfl) (fun x hx => (wX b0_0 o x).pre (rY fw.left fw.right (.allm (ax.f_varsA fw.right) hx)))).pre (eD (ax.f_vars (.of (an 1 rfl))) (.mk2 (.of (an 0 rfl)) (.of (an 1 rfl))))) (fun c1 hc1 => ?_)
 refine aM rfl ?_
 refine aG rfl rfl (fun hc => qFA (off := 0) rfl) ?_
 refine aG rfl rfl (fun hc => qFA (off := 8) (aa rfl hc)) ?_
 refine aG rfl rfl (fun hc => aN (o := 8) tk57 (aa rfl hc) (.of (an 0 rfl)) rfl) (aG rfl rfl (fun hc => ar rfl) ?_)
 refine aQ (caps := []) [0] (false) (by kernel_rfl) _ rfl rfl (fun _ => rfl) (fun hc => (aI (aa rfl hc) (aI (aa rfl hc) rfl))) (fun hc => by rw [List.append_nil]; exact (mG o.vars 168 [] o.ok (by kernel_rfl) (fun x _ y _ => vD x y _)).pre (eD (ax.f_vars (.of (an 0 rfl))) (.of (an 0 rfl)))) (fun c2 hc2 => ?_)
 refine aU rfl (bn rfl rfl (fun h => gt rfl h)) (aA rfl (aNn (aq ?_)))
 refine aV [] [] rfl Tryz.results74 rfl ?_ (.inr rfl)
 exact ⟨⟨rfl, rfl⟩, _, rfl, fun _ => trivial⟩
theorem xD (b : Nat) (o : ax) (x : cg) : Con Tryz.prog 164 [x.val, .pointer (some ⟨b, 0, none⟩)] [At b 0 o.row, o.ok, x.ok] [] (YB True) := by
 refine Con.enter Tryz.func164 rfl (by simp [Tryz.ntmps164]) ?_
 show awp _ _ _ _ ⟨[(0, true, _), (1, true, _)], _, _⟩
 refine eR (cg.f_name (.of (an 2 rfl))) (fun hnl => ?_)
 refine eR (cg.f_file (.of (an 2 rfl))) (fun hfl => ?_)
 refine aSR ?_
 refine aj (q := true) rfl (bI rfl rfl rfl (fun b0_0 => ?_))
 refine aHN ?_
 refine aA rfl (aNn (aSR (aU rfl (aN (o := 0) tk145 rfl (.of (an 0 rfl)) rfl) ?_)))
 refine aU rfl (qFA (off := 0) rfl) ?_
 refine aU rfl (ab 0 tk3 rfl rfl rfl) ?_
 refine aU rfl (qFA (off := 1) rfl) ?_
 refine aU rfl (ab 0 tk3 rfl rfl rfl) ?_
 refine aU rfl (qFA (off := 2) rfl) ?_
 refine aU rfl (ab 0 tk3 rfl rfl rfl) ?_
 refine aQ (caps := []) [1] (false) (by kernel_rfl) true rfl rfl (fun _ => rfl) (fun hc => rfl) (fun hc => by rw [List.append_nil]; exact lI o _ _ _) (fun c1 hc1 => ?_)
 refine aM rfl ?_
 refine aG rfl rfl (fun hc => qFA (off := 3) rfl) ?_
 refine aG rfl rfl (fun hc => ab 0 tk9 (aa rfl hc) rfl rfl) ?_
 refine aQ (caps := []) [] (false) (by kernel_rfl) _ rfl rfl (fun _ => rfl) (fun hc => (aI (aa rfl hc) rfl)) (fun hc => by rw [List.append_nil]; exact eY _ hnl) (fun c2 hc2 => ?_)
 refine aU rfl (bn rfl rfl (fun h => gt rfl h)) (aM rfl ?_)
 refine aG rfl rfl (fun hc => qFA (off := 4) rfl) ?_
 refine aG rfl rfl (fun hc => ab 0 tk9 (aa rfl hc) rfl rfl) ?_
 refine aQ (caps := []) [] (false) (by kernel_rfl) _ rfl rfl (fun _ => rfl) (fun hc => (aI (aa rfl hc) rfl)) (fun hc => by rw [List.append_nil]; exact nV _ hfl) (fun c3 hc3 => ?_)
 refine aU rfl (bn rfl rfl (fun h => gt rfl h)) (aM rfl ?_)
 refine aG rfl rfl (fun hc => qFA (off := 5) rfl) ?_
 refine aG rfl rfl (fun hc => ab 0 tk3 (aa rfl hc) rfl rfl) (aG rfl rfl (fun hc => cL (aa rfl hc) rfl) (aU rfl (bn rfl rfl (fun h => gt rfl h)) (aM rfl ?_)))
 refine aG rfl rfl (fun hc => qFA (off := 5) rfl) ?_
 refine aG rfl rfl (fun hc => ab 0 tk3 (aa rfl hc) rfl rfl) (aG rfl rfl (fun hc => eE (aa rfl hc) rfl) (aU rfl (bn rfl rfl (fun h => gt rfl h)) (aA rfl (aNn (aq ?_)))))
 refine aV [] [] rfl Tryz.results164 rfl ?_ (.inr rfl)
 exact ⟨⟨rfl, rfl⟩, _, rfl, fun _ => trivial⟩
theorem oI (o : ax) (hn : o.inlines.l.length ≤ 1000) : Con Tryz.prog 73 [o.val] [o.ok] [] (YB True) := by
 refine Con.enter Tryz.func73 rfl (by simp [Tryz.ntmps73]) ?_
 show awp _ _ _ _ ⟨[(0, true, _)], _, _⟩
 refine bd (ax.f_inlines (.of (an 0 rfl))) (fun hlen => ?_)
 refine aSR ?_
 refine aj (q := true) rfl (bI rfl rfl rfl (fun b0_0 => ?_))
 refine aHN ?_
 refine aA rfl (aNs (az (bL 0 rfl rfl ?_)))
 show awp _ _ _ _ ⟨_, At _ 0 _ :: _, _⟩
 refine ae ?_
 refine aU rfl (qFA (off := 0) rfl) ?_
 refine aU rfl (qFA (off := 7) rfl) ?_
 refine aU rfl (aN (o := 7) tk56 rfl (.of (an 0 rfl)) rfl) (aU rfl (dq (l := [.tmp 1]) rfl) ?_)
 refine aQ (caps := []) [1, 0] (false) (by kernel_rfl) true rfl rfl (fun _ => rfl) (fun hc => rfl) (fun hc => by rw [List.append_nil]; exact (j2 o.inlines 164 [.pointer (some ⟨b0_0, 0, none⟩)] (cx (At b0_0 0 o.row) o.ok) (fun _ => True) (by kernel_rfl) (fun x hx => (xD b0_0 o x).pre (rY fw.left fw.right (.allm (ax.f_inlinesA fw.right) hx)))).pre (eD (ax.f_inlines (.of (an 1 rfl))) (.mk2 (.of (an 0 rfl)) (.of (an 1 rfl))))) (fun c1 hc1 => ?_)
 refine aU rfl (bT rfl) (aNn ?_)
 refine ah _ rfl (fun h1 => ?_) (fun h1 => ?_)
 ·skip
  refine aSR (aA rfl (aNn (aq (aK ?_))))
  refine aV [] [] rfl Tryz.results73 rfl ?_ (.inr rfl)
  exact ⟨⟨rfl, rfl⟩, _, rfl, fun _ => trivial⟩
 ·skip
  refine au (av (aSR (aA rfl (aNs ?_))))
  refine az (eb 200 6 ?_)
  show awp _ _ _ _ ⟨_, _, [_, _]⟩
  refine ae ?_
  refine aU rfl (qFA (off := 0) rfl) ?_
  refine aU rfl (qFA (off := 7) rfl) ?_
  refine aU rfl (aN (o := 7) tk56 rfl (.of (an 0 rfl)) rfl) (aU rfl (aZ Tryz.underlying56 rfl) (aM rfl (aNn (aw (aP [1, 3, 15, 16, 17] [1, 0] [1] (fun (q : Nat × (Value × List cg)) s => (q.1 ≤ o.inlines.l.length ∧ q.2.2.length ≤ q.1) ∧ s = ⟨[(1, true, .pointer (some ⟨b0_0, 0, none⟩)), (3, true, q.2.1), (15, true, o.inlines.val), (16, true, .int .i64 o.inlines.l.length), (17, true, .int .i64 q.1)], [At b0_0 0 o.row, o.ok], [bA q.2.1 200 6 (q.2.2.map cg.row)]⟩) (fun q => o.inlines.l.length - q.1) rfl (⟨(0, (_, [])), ⟨Nat.zero_le _, Nat.le_refl _⟩, rfl⟩) ?_)))))
  rintro ⟨k, v, zs⟩ s ⟨⟨hk, hz⟩, rfl⟩
  dsimp only at hk hz
  refine aSR (aU rfl (bt rfl rfl) (aNs ?_))
  refine ah _ rfl (fun h2 => ?_) (fun h2 => ?_)
  ·skip
   have hk' : k < o.inlines.l.length := by simp at h2; omega
   obtain ⟨x, hx⟩ : ∃ x, o.inlines.l[k]? = some x := ⟨_, List.getElem?_eq_getElem hk'⟩
   refine au (av (az (aw (aSR (aM rfl ?_)))))
   refine ck true rfl rfl (fun _ => ai Tryz.underlying56 tk200 rfl ((ax.f_inlines (.of (an 1 rfl)))) rfl (aJ hx) rfl rfl) (fun h => absurd h (by decide)) (fun ⟨b6_1, o6_1⟩ => ?_)
   refine aU rfl (aF (o := 0) tk200 rfl (an 0 rfl) rfl rfl) ?_
   refine aj (q := true) rfl (bp (zs := [.int .i64 0, .int .i64 0, .int .i64 0, .string .empty, .string .empty, .int .i64 0]) (by kernel_rfl) rfl (fun b6_3 => ?_))
   refine aHN ?_
   refine aA rfl ?_
   refine aj rfl (aT 1 tk200 rfl rfl rfl rfl ?_)
   refine aHK ?_
   refine aNs ?_
   refine qW (X := Nat) (fun q => ⟨[(1, true, .pointer (some ⟨b0_0, 0, none⟩)), (3, true, v), (5, true, .pointer (some ⟨q, 0, none⟩)), (15, true, o.inlines.val), (16, true, .int .i64 o.inlines.l.length), (17, true, .int .i64 k)], [At b0_0 0 o.row, o.ok], [bA v 200 6 (zs.map cg.row), Box q 200 x.vs]⟩) ?_ ?_
   ·skip
    refine aSR (aM rfl (aU rfl (du rfl rfl) (aNn ?_)))
    refine ah _ rfl (fun h3 => ?_) (fun h3 => ?_)
    ·skip
     obtain ⟨j, rfl⟩ : ∃ j, k = j + 1 := ⟨k - 1, by simp at h3; omega⟩
     obtain ⟨y, hy⟩ : ∃ y, o.inlines.l[j]? = some y := ⟨_, List.getElem?_eq_getElem (by omega)⟩
     refine aSR ?_
     refine aU rfl (qFA (off := 0) rfl) ?_
     refine aU rfl (qFA (off := 7) rfl) ?_
     refine aU rfl (aN (o := 7) tk56 rfl (.of (an 1 rfl)) rfl) (aM rfl ?_)
     refine aU rfl (dX rfl rfl (by omega)) ?_
     refine ck true rfl rfl (fun _ => ai Tryz.underlying56 tk200 rfl ((ax.f_inlines (.of (an 2 rfl)))) rfl (aJ hy) (by omega) rfl) (fun h => absurd h (by decide)) (fun ⟨b8_5, o8_5⟩ => ?_)
     refine aU rfl (aF (o := 0) tk200 rfl (an 0 rfl) rfl rfl) ?_
     refine aj (q := true) rfl (bp (zs := [.int .i64 0, .int .i64 0, .int .i64 0, .string .empty, .string .empty, .int .i64 0]) (by kernel_rfl) rfl (fun b8_7 => ?_))
     refine aHN ?_
     refine aj rfl (aT 2 tk200 rfl rfl rfl rfl ?_)
     refine aHK ?_
     refine aNs ?_
     refine aX [] (by kernel_rfl) ?_
     show aB _ _ _ _ _ 18 #[false, false, false, false, false, false, false, false, false, false, false, false, false, false, false, false, false, false] _
     refine bV 0 rfl rfl (qFA (off := 0) rfl) ?_
     refine bV 1 rfl rfl (ab 2 tk3 rfl rfl rfl) ?_
     refine bV 2 rfl rfl (qFA (off := 0) rfl) ?_
     refine bV 3 rfl rfl (ab 1 tk3 rfl rfl rfl) ?_
     refine bV 4 rfl rfl (bw (by kernel_rfl) rfl (fun w S fp hst => (fK _ _).quiet0 hst)) ?_
     refine bV 5 rfl rfl (qFA (off := 1) rfl) ?_
     refine bV 6 rfl rfl (ab 2 tk3 rfl rfl rfl) ?_
     refine bV 7 rfl rfl (qFA (off := 1) rfl) ?_
     refine bV 8 rfl rfl (ab 1 tk3 rfl rfl rfl) ?_
     refine bV 9 rfl rfl (bw (by kernel_rfl) rfl (fun w S fp hst => (fK _ _).quiet0 hst)) ?_
     refine bV 10 rfl rfl (qFA (off := 2) rfl) ?_
     refine bV 11 rfl rfl (ab 1 tk3 rfl rfl rfl) ?_
     refine bV 12 rfl rfl (qFA (off := 2) rfl) ?_
     refine bV 13 rfl rfl (ab 2 tk3 rfl rfl rfl) ?_
     refine bV 14 rfl rfl (bw (by kernel_rfl) rfl (fun w S fp hst => (fK _ _).quiet0 hst)) ?_
     refine ig (zs := [.int .i64 0]) (l := [(0, .tmp 35), (1, .tmp 40), (2, .tmp 45)]) 15 rfl (by kernel_rfl) el90 (by kernel_rfl) (by decide) (by decide) (by decide) rfl rfl rfl rfl (.more rfl (.v rfl .nil) (.more rfl (.v rfl .nil) (.more rfl (.v rfl .nil) .nil))) rfl rfl (fun v9_15 => ?_)
     refine el (caps := []) 16 rfl (by kernel_rfl) [4] ((0 : Int)) (by kernel_rfl) true rfl rfl (fun _ => rfl) (fun hc => rfl) (fun hc => by rw [List.append_nil]; exact tl ⟨v9_15, 3, [iP y.sec x.sec, iP y.from_ x.from_, iP x.to_ y.to_]⟩) (fun c2 hc2 => ?_)
     refine bV 17 rfl rfl (du rfl rfl) ?_
     refine bD (by kernel_rfl) ?_
     refine av ?_
     refine ah _ rfl (fun h4 => ?_) (fun h4 => ?_)
     ·skip
      refine aSR (aA rfl (aNn (aq (aK (bj (aK (aK (bj (aK ?_)))))))))
      refine aV [] [] rfl Tryz.results73 rfl ?_ (.inr rfl)
      exact ⟨⟨rfl, rfl⟩, _, rfl, fun _ => trivial⟩
     ·skip
      refine au (av ?_)
      first
      | exact ⟨[1, 3, 5, 15, 16, 17], [1, 0], [0, 1], b6_3, rfl, rfl⟩
      | exact ⟨[1, 3, 5, 15, 16, 17], [1, 0], [0, 1], b6_3, rfl, rfl⟩
    ·skip
     refine au (av ?_)
     first
     | exact ⟨[1, 3, 5, 15, 16, 17], [1, 0], [0, 1], b6_3, rfl, rfl⟩
     | exact ⟨[1, 3, 5, 15, 16, 17], [1, 0], [0, 1], b6_3, rfl, rfl⟩
   ·skip
    rintro bx
    refine az (aw (aP [1, 3, 5, 15, 16, 17] [1, 0] [0, 1] (fun (q : Value × List cg) s => q.2.length ≤ k ∧ s = ⟨[(1, true, .pointer (some ⟨b0_0, 0, none⟩)), (3, true, q.1), (5, true, .pointer (some ⟨bx, 0, none⟩)), (15, true, o.inlines.val), (16, true, .int .i64 o.inlines.l.length), (17, true, .int .i64 k)], [At b0_0 0 o.row, o.ok], [bA q.1 200 6 (q.2.map cg.row), Box bx 200 x.vs]⟩) (fun q => q.2.length) rfl (⟨(v, zs), hz, rfl⟩) ?_))
    rintro ⟨u, ys⟩ s ⟨hy, rfl⟩
    dsimp only at hy
    refine az (az ?_)
    refine aX [] (by kernel_rfl) ?_
    show aB _ _ _ _ _ 27 #[false, false, false, false, false, false, false, false, false, false, false, false, false, false, false, false, false, false, false, false, false, false, false, false, false, false, false] _
    refine bV 0 rfl rfl (ar rfl) ?_
    refine bV 1 rfl rfl (fG 0 Tryz.underlying56 rfl rfl) ?_
    refine bV 2 rfl rfl (du rfl rfl) ?_
    refine bV 3 rfl rfl (ar rfl) ?_
    refine bW 4 rfl rfl rfl (fun hc => ar rfl) ?_
    refine bW 5 rfl rfl rfl (fun hc => ar rfl) ?_
    refine bW 6 rfl rfl rfl (fun hc => fG 0 Tryz.underlying56 (aa rfl hc) rfl) ?_
    refine bW 7 rfl rfl rfl (fun hc => dX (aa rfl hc) rfl (by simp only [List.length_map] at hc ⊢; omega)) ?_
    refine bW 8 rfl rfl rfl (fun hc => dV 0 (ys.length - 1) el56 (aa rfl hc) rfl (aa rfl hc) (by simp at hc ⊢; omega) (by simp at hc ⊢; omega)) ?_
    refine bW 9 rfl rfl rfl (fun hc => qFA (off := 0) (aa rfl hc)) ?_
    refine bW 10 rfl rfl rfl (fun hc => ez 0 (ys.length - 1) 0 tk3 (aa rfl hc) rfl (aJ (bN (l := ys) (i := ys.length - 1) (by simp at hc; omega))) rfl rfl) ?_
    refine bW 11 rfl rfl rfl (fun hc => qFA (off := 0) rfl) ?_
    refine bW 12 rfl rfl rfl (fun hc => ab 1 tk3 (aa rfl hc) rfl rfl) ?_
    refine bW 13 rfl rfl rfl (fun hc => cN (aa rfl hc) (aa rfl hc)) ?_
    refine bW 14 rfl rfl rfl (fun hc => ar (aa rfl hc)) ?_
    refine bW 15 rfl rfl rfl (fun hc => ar rfl) ?_
    refine bW 16 rfl rfl rfl (fun hc => ar rfl) ?_
    refine bW 17 rfl rfl rfl (fun hc => fG 0 Tryz.underlying56 (aa rfl hc) rfl) ?_
    refine bW 18 rfl rfl rfl (fun hc => dX (aa rfl hc) rfl (by simp only [List.length_map] at hc ⊢; omega)) ?_
    refine bW 19 rfl rfl rfl (fun hc => dV 0 (ys.length - 1) el56 (aa rfl hc) rfl (aa rfl hc) (by simp at hc ⊢; omega) (by simp at hc ⊢; omega)) ?_
    refine bW 20 rfl rfl rfl (fun hc => qFA (off := 2) (aa rfl hc)) ?_
    refine bW 21 rfl rfl rfl (fun hc => ez 0 (ys.length - 1) 2 tk3 (aa rfl hc) rfl (aJ (bN (l := ys) (i := ys.length - 1) (by simp at hc; omega))) rfl rfl) ?_
    refine bW 22 rfl rfl rfl (fun hc => qFA (off := 1) rfl) ?_
    refine bW 23 rfl rfl rfl (fun hc => ab 1 tk3 (aa rfl hc) rfl rfl) ?_
    refine bW 24 rfl rfl rfl (fun hc => eE (aa rfl hc) (aa rfl hc)) ?_
    refine bW 25 rfl rfl rfl (fun hc => ct (aa rfl hc) rfl (fun h => gf hc h)) ?_
    refine bV 26 rfl rfl (bn rfl rfl (fun h => gt rfl h)) ?_
    refine bD (by kernel_rfl) ?_
    refine av ?_
    refine ah _ rfl (fun h5 => ?_) (fun h5 => ?_)
    ·skip
     refine au (av (aw ?_))
     have hne : ys ≠ [] := by intro h0; subst h0; simp at h5
     have hlp : 0 < ys.length := List.length_pos_iff.2 hne
     refine iW 0 rfl (by simpa using hne) (fun B cp hv hcp => ?_)
     rw [List.length_map] at hv hcp
     dsimp only at hv hcp h5 ⊢
     subst hv
     refine wu 0 (ys.length - 1) rfl (by simp) ?_
     refine ae (aM rfl (aM rfl (aU rfl (aZ Tryz.underlying56 rfl) ?_)))
     refine aU rfl (dX rfl rfl (by omega)) ?_
     refine aU rfl (og (ys.length - 1) el56 rfl rfl (by omega) (by omega) hcp) ?_
     refine aA rfl (cr (bu (av ?_)))
     refine ⟨[1, 3, 5, 15, 16, 17], [1, 0], [0, 1], rfl, ?_⟩
     exact ⟨(_, ys.take (ys.length - 1)), ⟨by dsimp only; rw [List.length_take]; omega, by dsimp only; rw [List.map_take]; rfl⟩, by dsimp only; rw [List.length_take]; omega⟩
    ·skip
     refine aR (aS (aS (aY (av (az (az ?_))))))
     refine aX [] (by kernel_rfl) ?_
     show aB _ _ _ _ _ 15 #[false, false, false, false, false, false, false, false, false, false, false, false, false, false, false] _
     refine bV 0 rfl rfl (ar rfl) ?_
     refine bV 1 rfl rfl (fG 0 Tryz.underlying56 rfl rfl) ?_
     refine bV 2 rfl rfl (du rfl rfl) ?_
     refine bV 3 rfl rfl (ar rfl) ?_
     refine bW 4 rfl rfl rfl (fun hc => ar rfl) ?_
     refine bW 5 rfl rfl rfl (fun hc => ar rfl) ?_
     refine bW 6 rfl rfl rfl (fun hc => fG 0 Tryz.underlying56 (aa rfl hc) rfl) ?_
     refine bW 7 rfl rfl rfl (fun hc => dX (aa rfl hc) rfl (by simp only [List.length_map] at hc ⊢; omega)) ?_
     refine bW 8 rfl rfl rfl (fun hc => dV 0 (ys.length - 1) el56 (aa rfl hc) rfl (aa rfl hc) (by simp at hc ⊢; omega) (by simp at hc ⊢; omega)) ?_
     refine bW 9 rfl rfl rfl (fun hc => qFA (off := 2) (aa rfl hc)) ?_
     refine bW 10 rfl rfl rfl (fun hc => ez 0 (ys.length - 1) 2 tk3 (aa rfl hc) rfl (aJ (bN (l := ys) (i := ys.length - 1) (by simp at hc; omega))) rfl rfl) ?_
     refine bW 11 rfl rfl rfl (fun hc => qFA (off := 2) rfl) ?_
     refine bW 12 rfl rfl rfl (fun hc => ab 1 tk3 (aa rfl hc) rfl rfl) ?_
     refine bW 13 rfl rfl rfl (fun hc => bt (aa rfl hc) (aa rfl hc)) ?_
     refine bV 14 rfl rfl (bn rfl rfl (fun h => gt rfl h)) ?_
     refine bD (by kernel_rfl) ?_
     refine av ?_
     refine ah _ rfl (fun h6 => ?_) (fun h6 => ?_)
     ·skip
      refine aSR (aA rfl (aNn (aq (aK (bj (aK (aK (bj (aK ?_)))))))))
      refine aV [] [] rfl Tryz.results73 rfl ?_ (.inr rfl)
      exact ⟨⟨rfl, rfl⟩, _, rfl, fun _ => trivial⟩
     ·skip
      refine au (av (ae (aM rfl (aU rfl (ab 1 tk200 rfl rfl rfl) ?_))))
      refine aj (q := true) rfl (cG (zs := [.int .i64 0, .int .i64 0, .int .i64 0, .string .empty, .string .empty, .int .i64 0]) (l := [(0, .tmp 97)]) el56 (by kernel_rfl) (by decide) (by decide) (by decide) rfl rfl rfl (.more rfl (.v rfl (.v rfl (.v rfl (.v rfl (.v rfl (.v rfl .nil)))))) .nil) rfl rfl (fun v15_2 => ?_))
      refine aHN ?_
      refine aj rfl (cE 0 el56 rfl rfl rfl rfl (dH 2 el56 rfl (by simp)) (by first | assumption | simp) (by show (ys.map cg.row).length + 1 ≤ _; rw [List.length_map]; exact Nat.le_trans (show ys.length + 1 ≤ 1001 by omega) (by decide)) ((ys ++ [x]).length) (by show (ys.map cg.row).length + 1 = _; rw [List.length_map, List.length_append]; rfl) (fun v15_3 c15_3 => ?_))
      refine aHK ?_
      refine aA rfl (cr (bu (av (ae ?_))))
      refine aU rfl (bf rfl rfl (by omega)) ?_
      refine aM rfl (aNn ?_)
      refine ⟨[1, 3, 15, 16, 17], [1, 0], [0], rfl, ?_⟩
      exact ⟨(k + 1, (_, ys ++ [x])), ⟨⟨by dsimp only; omega, by dsimp only; rw [List.length_append]; simp; omega⟩, by dsimp only; rw [List.map_append]; rfl⟩, by dsimp only; omega⟩
  ·skip
   refine aR (aS (aS (aY (av (aSR (aA rfl (aNn (aq ?_))))))))
   refine aV [] [] rfl Tryz.results73 rfl ?_ (.inr rfl)
   exact ⟨⟨rfl, rfl⟩, _, rfl, fun _ => trivial⟩
end Go.Proofs.YtgmiihmahaahiaaGreatDoor

