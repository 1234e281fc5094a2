/- A logic of states: equality of booleans and of structs, shifts, bits. -/
import Derived.Test.YtlhbnpahplpobaaSyWrap
import Derived.Laws.StructEq
import Derived.Laws.Small
import Derived.ChangeKeysEq
set_option linter.unusedVariables false
set_option linter.unusedSimpArgs false
namespace Go.Sy
open Go.RowKit
section
variable {P : Program} {n : Nat} {s : Sta} {d : Option Tmp} {ty : TypeId} {pos : String} {af : Array Edge} {gd : Option (Nat × Bool)} {x y : Operand} {t t' : TypeId}
theorem qb_eql {b1 b2 : Bool} (hT : P.underlying t = some .bool) (hx : ev s.env x = some (true, .bool b1)) (hy : ev s.env y = some (true, .bool b2)) : Quiet P n ⟨d, .binOp .eql t x y t', ty, pos, af, gd⟩ s (.bool (b1 == b2)) :=
  .run2 hx hy fun ρ w h1 h2 => by
    unfold execOp; dsimp only; rw [h1, h2]
    simp only [eqGuard_at_bool, binOp, Sem.run_bind, Sem.run_pure, run_equal_bool w t b1 b2 hT, Result.andThen_ok]
theorem qb_neq {b1 b2 : Bool} (hT : P.underlying t = some .bool) (hx : ev s.env x = some (true, .bool b1)) (hy : ev s.env y = some (true, .bool b2)) : Quiet P n ⟨d, .binOp .neq t x y t', ty, pos, af, gd⟩ s (.bool (!(b1 == b2))) :=
  .run2 hx hy fun ρ w h1 h2 => by
    unfold execOp; dsimp only; rw [h1, h2]
    simp only [eqGuard_at_bool, binOp, Sem.run_bind, Sem.run_pure, run_equal_bool w t b1 b2 hT, Result.andThen_ok]
theorem qa_eql {xs ys : Array Value} {b : Bool} (hT : P.underlying t = some (.struct (P.fieldsOf t))) (hp : P.stoodInHeld t = false) (hm : P.eqGuardType P.depth t = false)
    (hr : ∀ w, (Op.eqFields 9999 xs ys (P.fieldsOf t).toList).run P w = .ok b w) (hx : ev s.env x = some (true, .agg xs)) (hy : ev s.env y = some (true, .agg ys)) : Quiet P n ⟨d, .binOp .eql t x y t', ty, pos, af, gd⟩ s (.bool b) :=
  .run2 hx hy fun ρ w h1 h2 => by
    unfold execOp; dsimp only; rw [h1, h2]
    simp only [Sem.run_bind, run_eqGuard_agg w _ t _ _ xs ys hm, Result.andThen_ok, run_eql_struct, run_equalIn_struct w 9999 t xs ys hT hp, hr w]
    rfl
theorem qa_neq {xs ys : Array Value} {b : Bool} (hT : P.underlying t = some (.struct (P.fieldsOf t))) (hp : P.stoodInHeld t = false) (hm : P.eqGuardType P.depth t = false)
    (hr : ∀ w, (Op.eqFields 9999 xs ys (P.fieldsOf t).toList).run P w = .ok b w) (hx : ev s.env x = some (true, .agg xs)) (hy : ev s.env y = some (true, .agg ys)) : Quiet P n ⟨d, .binOp .neq t x y t', ty, pos, af, gd⟩ s (.bool (!b)) :=
  .run2 hx hy fun ρ w h1 h2 => by
    unfold execOp; dsimp only; rw [h1, h2]
    simp only [Sem.run_bind, run_eqGuard_agg w _ t _ _ xs ys hm, Result.andThen_ok, run_neq_struct, run_equalIn_struct w 9999 t xs ys hT hp, hr w]
    rfl
theorem q_shl {k yk : IntKind} {a b : Int} (hx : ev s.env x = some (true, .int k a)) (hy : ev s.env y = some (true, .int yk b)) (hb : 0 ≤ b) : Quiet P n ⟨d, .binOp .shl t x y t', ty, pos, af, gd⟩ s (.int k (k.wrap (a * 2 ^ min b.toNat k.bits))) :=
  .run2 hx hy fun ρ w h1 h2 => by
    have e : Op.shift .shl k a yk b = pure (.int k (k.wrap (a * 2 ^ min b.toNat k.bits))) := by unfold Op.shift; rw [if_neg (by omega)]
    unfold execOp; dsimp only; rw [h1, h2]
    have e2 : (do eqGuard BinOp.shl t x y (Value.int k a) (Value.int yk b); binOp BinOp.shl t (Value.int k a) (Value.int yk b)) = Op.shift .shl k a yk b := by cases k <;> cases yk <;> rfl
    rw [e2, e]; rfl
theorem q_shr {k yk : IntKind} {a b : Int} (hx : ev s.env x = some (true, .int k a)) (hy : ev s.env y = some (true, .int yk b)) (hb : 0 ≤ b) : Quiet P n ⟨d, .binOp .shr t x y t', ty, pos, af, gd⟩ s (.int k (a.fdiv (2 ^ min b.toNat k.bits))) :=
  .run2 hx hy fun ρ w h1 h2 => by
    have e : Op.shift .shr k a yk b = pure (.int k (a.fdiv (2 ^ min b.toNat k.bits))) := by unfold Op.shift; rw [if_neg (by omega)]
    unfold execOp; dsimp only; rw [h1, h2]
    have e2 : (do eqGuard BinOp.shr t x y (Value.int k a) (Value.int yk b); binOp BinOp.shr t (Value.int k a) (Value.int yk b)) = Op.shift .shr k a yk b := by cases k <;> cases yk <;> rfl
    rw [e2, e]; rfl
theorem q_orB {k : IntKind} {a b : Int} (hx : ev s.env x = some (true, .int k a)) (hy : ev s.env y = some (true, .int k b)) : Quiet P n ⟨d, .binOp .or t x y t', ty, pos, af, gd⟩ s (.int k (k.wrap (BitVec.ofInt k.bits a ||| BitVec.ofInt k.bits b).toNat)) :=
  .run2 hx hy fun ρ w h1 h2 => by
    unfold execOp; dsimp only; rw [h1, h2]; cases k <;> rfl
theorem q_andB {k : IntKind} {a b : Int} (hx : ev s.env x = some (true, .int k a)) (hy : ev s.env y = some (true, .int k b)) : Quiet P n ⟨d, .binOp .and t x y t', ty, pos, af, gd⟩ s (.int k (k.wrap (BitVec.ofInt k.bits a &&& BitVec.ofInt k.bits b).toNat)) :=
  .run2 hx hy fun ρ w h1 h2 => by
    unfold execOp; dsimp only; rw [h1, h2]; cases k <;> rfl
end
end Go.Sy
namespace Go.Sy
open Go.RowKit
def isIntB (P : Program) (t : TypeId) : Bool := match P.underlying t with
  | some (.int _) => true
  | _ => false
def intAt (xs : Array Value) (o : Nat) : Option Int := match xs[o]? with
  | some (.int .i64 a) => some a
  | _ => none
def eqInts (xs ys : Array Value) (l : List Nat) : Bool := l.all fun o => match intAt xs o, intAt ys o with
  | some a, some b => a == b
  | _, _ => true
def allInts (xs : Array Value) (l : List Nat) : Bool := l.all fun o => (intAt xs o).isSome
theorem eqFields_ints {P : Program} (d : Nat) (xs ys : Array Value) : ∀ (fs : List Field) (w : World), fs.all (fun f => decide (f.name ≠ "_") && isIntB P f.type) = true → allInts xs (fs.map (·.offset)) = true → allInts ys (fs.map (·.offset)) = true →
    (Op.eqFields (d + 1) xs ys fs).run P w = .ok (eqInts xs ys (fs.map (·.offset))) w
  | [], w, _, _, _ => rfl
  | f :: fs, w, h, hx, hy => by
    simp only [List.all_cons, Bool.and_eq_true, decide_eq_true_eq] at h
    obtain ⟨⟨h1, h2⟩, h3⟩ := h
    simp only [allInts, List.map_cons, List.all_cons, Bool.and_eq_true] at hx hy
    have ih := eqFields_ints d xs ys fs w h3 hx.2 hy.2
    obtain ⟨k, hk⟩ : ∃ k, P.underlying f.type = some (.int k) := by
      unfold isIntB at h2; split at h2
      · exact ⟨_, by assumption⟩
      · cases h2
    have hp : P.plainKey f.type = true := by unfold Program.plainKey; rw [hk]
    have key : ∀ zs : Array Value, (intAt zs f.offset).isSome = true → ∃ a, zs[f.offset]? = some (.int .i64 a) ∧ intAt zs f.offset = some a := fun zs hz => by
      unfold intAt at hz ⊢
      split at hz
      · rename_i a hh; exact ⟨a, hh, rfl⟩
      · cases hz
    obtain ⟨a, ha, ha'⟩ := key xs hx.1
    obtain ⟨b, hb, hb'⟩ := key ys hy.1
    simp only [Op.eqFields, if_pos h1, Sem.run_bind, run_part_plain w hp ha, run_part_plain w hp hb, Result.andThen_ok, run_equalIn_int w d f.type .i64 k a b hk, Sem.run_ite, Sem.run_pure, ih]
    simp only [eqInts, List.map_cons, List.all_cons, ha', hb']
    cases h : (a == b) <;> simp
end Go.Sy
