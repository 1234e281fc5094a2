/- A logic of states: the rules as the walks call them. No condition. -/
import Derived.Test.YtpgcoceggacplaaGreatDoorSyMake
set_option linter.unusedVariables false
set_option linter.unusedSimpArgs false
set_option maxRecDepth 20000
namespace Go.Sy
open Go.RowKit Go.Lp
/-- a slice type, its element, the element's size -/
def elB (P : Program) (T E : TypeId) (sz : Nat) : Bool :=
  match P.underlying T with
  | some (.slice e) => e == E && match P.info? E with
    | some it => it.zero.map (·.cells.size) == some it.size && it.size == sz && decide (it.bytes ≤ 4096)
    | none => false
  | _ => false
theorem elB_spec {P : Program} {T E : TypeId} {sz : Nat} (h : elB P T E sz = true) : P.underlying T = some (.slice E) ∧ ∃ it, P.info? E = some it ∧ (it.zero.map fun z => z.cells.size) = some it.size ∧ it.size = sz ∧ it.bytes ≤ 4096 := by
  unfold elB at h
  split at h
  · rename_i e hu
    simp only [Bool.and_eq_true, beq_iff_eq] at h
    obtain ⟨rfl, h⟩ := h
    split at h
    · rename_i it hi
      simp only [Bool.and_eq_true, beq_iff_eq, decide_eq_true_eq] at h
      exact ⟨hu, it, hi, h.1.1, h.1.2, h.2⟩
    · cases h
  · cases h
theorem RCs.more {ps : List Per} {sz : Nat} {cs us : List Value} {r : List D} {rows : List (List D)} (h1 : tkL sz cs = some us) (hr : RC ps us r) (h2 : RCs ps sz (cs.drop sz) rows) : RCs ps sz cs (r :: rows) := by
  obtain ⟨hl, rfl⟩ := tkL_eq _ _ _ h1
  have := RCs.cons (by simp; omega) hr h2
  rwa [List.take_append_drop] at this
section
variable {P : Program} {n : Nat} {env : Env} {ps : List Per} {hp : List Res} {ty : TypeId} {pos : String} {af : Array Edge} {gd : Option (Nat × Bool)} {K : Sta → Prop} {d : Option Tmp} {v : Value} {q : Bool}
theorem q_ptrNil {x : Operand} {t t' : TypeId} {a : Addr} (hT : (match P.underlying t with | some (.pointer _) => true | _ => false) = true) (hx : ev env x = some (true, .pointer (some a))) : Quiet P n ⟨d, .binOp .eql t x (.const (.pointer none)) t', ty, pos, af, gd⟩ ⟨env, ps, hp⟩ (.bool false) := .run2 hx (y := .const (.pointer none)) (vy := .pointer none) rfl fun ρ w h1 h2 => by
  have hu : ∃ e, P.underlying t = some (.pointer e) := by
    cases h : P.underlying t with
    | none => rw [h] at hT; cases hT
    | some dd => rw [h] at hT; cases dd <;> first | exact ⟨_, rfl⟩ | cases hT
  obtain ⟨e, hu⟩ := hu
  unfold execOp; dsimp only; rw [h1, h2]
  have e1 : (do eqGuard BinOp.eql t x (.const (.pointer none)) (Value.pointer (some a)) (Value.pointer none); binOp BinOp.eql t (Value.pointer (some a)) (Value.pointer none)) = binOp BinOp.eql t (Value.pointer (some a)) (Value.pointer none) := rfl
  have e2 : (binOp BinOp.eql t (Value.pointer (some a)) (Value.pointer none)).run P w = .ok (.bool false) w := by
    have := run_eql_pointer_nil (P := P) (w := w) t (some a) (by rw [hu]; unfold Program.pointee; rw [hu])
    exact this
  show ((do eqGuard BinOp.eql t x (.const (.pointer none)) (Value.pointer (some a)) (Value.pointer none); binOp BinOp.eql t (Value.pointer (some a)) (Value.pointer none)).bind fun r => Sem.pure (Next.value r)).run P w = _
  rw [e1, Sem.run_bind', e2]; rfl
theorem w_append {t : Nat} {x y : Operand} {T tx E : TypeId} {sz : Nat} {vy : Value} {rows rows2 : List (List D)} (i : Nat) (hel : elB P T E sz = true)
    (hx : ev env x = some (true, v)) (hy : ev env y = some (true, vy)) (ht : fits n (some t) = true) (hi : hp[i]? = some (OwnS v E sz rows)) (hs : AppSrc P ⟨env, ps, hp⟩ tx sz vy rows2) (h0 : rows2 ≠ []) (hle : rows.length + rows2.length ≤ 1000000000)
    (m : Nat) (hm : rows.length + rows2.length = m) (hK : ∀ ad c, K ⟨(t, true, .slice ad m c) :: env, ps, hp.set i (OwnS (.slice ad m c) E sz (rows ++ rows2))⟩) :
    Eff P n ⟨some t, .call ⟨.builtin .append, #[x, y], #[T, tx]⟩, ty, pos, af, gd⟩ ⟨env, ps, hp⟩ false K := by
  obtain ⟨h1, it, h2, h3, h4, h5⟩ := elB_spec hel
  exact e_append i h1 h2 h3 h4 h5 hx hy ht hi hs h0 hle m hm hK
theorem w_srcO {T : TypeId} {tx E : TypeId} {sz : Nat} {x : Value} {rows : List (List D)} (j : Nat) (hel : elB P tx E sz = true) (hj : hp[j]? = some (OwnS x T sz rows)) (hne : rows ≠ []) : AppSrc P ⟨env, ps, hp⟩ tx sz x rows := src_own j (elB_spec hel).1 hj hne
theorem w_srcS {tx E : TypeId} {sz : Nat} {x : Value} {rows : List (List D)} (hel : elB P tx E sz = true) (hs : Sh x (.sl rows) ∈ ps) (hrl : ∀ r ∈ rows, r.length = sz) (hne : rows ≠ []) : AppSrc P ⟨env, ps, hp⟩ tx sz x rows := src_sh (elB_spec hel).1 hs hrl hne
theorem w_make {t : Nat} {T E : TypeId} {x y : Operand} {m : Nat} {zs : List Value} (hel : elB P T E zs.length = true) (hz : zcells P E = some zs) (h1 : zs.all (·.oneCell') = true) (h0 : 0 < zs.length)
    (hx : ev env x = some (true, .int .i64 m)) (hy : ev env y = some (true, .int .i64 m)) (hm : m ≤ 1000000000) (ht : fits n (some t) = true)
    (hK : ∀ ad, K ⟨(t, true, .slice ad m m) :: env, ps, hp ++ [OwnS (.slice ad m m) E zs.length (List.replicate m (zs.map .v))]⟩) :
    Eff P n ⟨some t, .makeSlice T x y, ty, pos, af, gd⟩ ⟨env, ps, hp⟩ q K := by
  obtain ⟨h1', it, h2, h3, h4, h5⟩ := elB_spec hel
  exact e_make h1' h2 hz h1 h4 h0 h5 hx hy hm ht hK
theorem w_lit {t : Nat} {T E : TypeId} {len : Nat} {l : List (Nat × Operand)} {xs : List Operand} {vs zs cs : List Value} {rows : List (List D)} (hel : elB P T E zs.length = true) (hz : zcells P E = some zs) (h0 : 0 < zs.length)
    (hlen : 0 < len) (hsm : len * zs.length ≤ 16777216) (hxs : l.map (·.2) = xs) (hx : evs env xs = some vs) (hb : bld (fun i => some (i * zs.length, zs.length)) (repC len zs) ((l.map (·.1)).zip vs) = some cs) (hr : RCs ps zs.length cs rows) (hrl : rows.length = len) (ht : fits n (some t) = true)
    (hK : ∀ ad, K ⟨(t, true, .slice ad len len) :: env, ps, hp ++ [OwnS (.slice ad len len) E zs.length rows]⟩) :
    Eff P n ⟨some t, .buildSlice T len l.toArray, ty, pos, af, gd⟩ ⟨env, ps, hp⟩ q K := by
  obtain ⟨h1', it, h2, h3, h4, h5⟩ := elB_spec hel
  exact e_buildSlice h1' h2 hz h4 h0 hlen hsm hxs hx hb hr hrl ht hK
end
end Go.Sy
