/- A space as a resource, and its methods' contracts over states. -/
import Derived.Test.YtpgcoceggacplaaGreatDoorLpSp8
import Derived.Test.YtpgcoceggacplaaGreatDoorSyTab
set_option linter.unusedVariables false
set_option linter.unusedSimpArgs false
set_option maxRecDepth 20000
namespace Go.Proofs.YtpgcoceggacplaaGreatDoor
open Go.RowKit Go.Lp Go.Sy
theorem Sp.agree {w w' : World} {p : Nat} {F : List Nat} {M : Mem} (h : Sp w p F M) (hF : ∀ k ∈ F, w'.heap[k]? = w.heap[k]?) : Sp w' p F M := by
  obtain ⟨a, c, S, h, rfl, rfl⟩ := h
  exact ⟨a, c, S, h.mono (hF p (by simp [foot])) (fun B hB => hF B (by simp [foot, hB])) (fun q hq => hF q.blk (by simp only [foot, List.mem_cons, List.mem_append, List.mem_map]; exact .inr (.inr ⟨q, hq, rfl⟩))), rfl, rfl⟩
/-- a space -/
def SpR (p : Nat) (M : Mem) : Res :=
  ⟨fun w _ F => ∃ L, Sp w p L M ∧ ∀ b, F b ↔ b ∈ L, fun ⟨L, h, hF⟩ h1 _ _ => ⟨L, h.agree fun k hk => h1 k ((hF k).2 hk), hF⟩⟩
section
variable {w : World} {S : Blks} {fp : Nat → Blks} {ps : List Per} {hp : List Res} {p : Nat} {M : Mem}
theorem sp_of (hst : St w S fp ps hp) (i : Nat) (hi : hp[i]? = some (SpR p M)) : ∃ L, Sp w p L M := let ⟨L, h, _⟩ := hst.res i _ hi; ⟨L, h⟩
theorem sp_inv (hst : St w S fp ps hp) (i : Nat) (hi : hp[i]? = some (SpR p M)) : MInv M := let ⟨_, h⟩ := sp_of hst i hi; h.inv
theorem q_spload (hst : St w S fp ps hp) (i : Nat) (hi : hp[i]? = some (SpR p M)) (at_ size : Int) (hat : -9223372036854775808 ≤ at_ ∧ at_ ≤ 9223372036854775807) :
    Calls Tryz.prog 103 #[.pointer (some ⟨p, 0, none⟩), .int .i64 at_, .int .i64 size] w fun e w' => e = .returned (.tuple #[.int .i64 (loadM M at_ size).1, .int .i64 (loadM M at_ size).2]) ∧ Below w.heap.size w w' := let ⟨_, h⟩ := sp_of hst i hi; h.load at_ size hat.1 hat.2
theorem q_spread (hst : St w S fp ps hp) (i : Nat) (hi : hp[i]? = some (SpR p M)) (at_ size : Int) (hat : -9223372036854775808 ≤ at_ ∧ at_ ≤ 9223372036854775807) :
    Calls Tryz.prog 14 #[.pointer (some ⟨p, 0, none⟩), .int .i64 at_, .int .i64 size] w fun e w' => e = .returned (.tuple #[.string (ofBytes (readM M at_ size).1), .int .i64 (readM M at_ size).2]) ∧ Below w.heap.size w w' := let ⟨_, h⟩ := sp_of hst i hi; h.read at_ size hat.1 hat.2
theorem q_sparea (hst : St w S fp ps hp) (i : Nat) (hi : hp[i]? = some (SpR p M)) (at_ : Int) (hat : -9223372036854775808 ≤ at_ ∧ at_ ≤ 9223372036854775807) :
    Calls Tryz.prog 43 #[.pointer (some ⟨p, 0, none⟩), .int .i64 at_] w fun e w' => e = .returned (.tuple #[.agg (areaM M at_).1.vals.toArray, .bool (areaM M at_).2]) ∧ Below w.heap.size w w' := let ⟨_, h⟩ := sp_of hst i hi; h.area at_ hat.1 hat.2
end
theorem con_done {f : FuncId} {args : List Value} {p : Nat} {M M' : Mem} {v : Value} (h : ∀ w L, Sp w p L M → Calls Tryz.prog f args.toArray w fun e w' => e = .returned v ∧ Done w p L M' w') :
    Con Tryz.prog f args [] [SpR p M] fun r ps' hp' => r = v ∧ ps' = [] ∧ hp' = [SpR p M'] := fun w S fp hst => by
  obtain ⟨L, hsp, hF⟩ := hst.res 0 _ rfl
  have htot : ∀ b, tot fp 1 b ↔ b ∈ L := fun b => by
    constructor
    · rintro ⟨i, hi, hb⟩
      obtain rfl : i = 0 := by omega
      exact (hF b).1 hb
    · exact fun hb => ⟨0, by omega, (hF b).2 hb⟩
  refine (h w L hsp).mono fun e w' ⟨he, L', hsp', hk, hg⟩ => ⟨v, [], [SpR p M'], S, fun _ b => b ∈ L', he, ⟨rfl, rfl, rfl⟩, ?_, ⟨hk.os, hk.tape, hk.output, hk.size, fun b hb hx => hk.block b hb (fun hL => hx ((htot b).2 hL)), fun _ h => h, fun _ h => .inl h⟩, fun b ⟨i, hi, hb⟩ => ?_⟩
  · refine ⟨fun p hp => (by cases hp), fun i R hR => ?_, fun i hi b hb => ⟨hsp'.lt b hb, fun hS => ?_⟩, fun i j hi hj hne => ?_, fun b hb => Nat.lt_of_lt_of_le (hst.slt b hb) hk.size⟩
    · have hi := (List.getElem?_eq_some_iff.1 hR).1
      obtain rfl : i = 0 := by simpa using hi
      simp only [List.getElem?_cons_zero, Option.some.injEq] at hR
      subst hR
      exact ⟨L', hsp', fun _ => Iff.rfl⟩
    · rcases hg b hb with h1 | h1
      · exact (hst.lt 0 (by simp) b ((hF b).2 h1)).2 hS
      · have := hst.slt b hS; omega
    · simp at hi hj; omega
  · exact (hg b hb).imp (fun h => (htot b).2 h) id
theorem store_con {p : Nat} {M : Mem} (at_ size n : Int) (hat : -9223372036854775808 ≤ at_ ∧ at_ ≤ 9223372036854775807) :
    Con Tryz.prog 104 [.pointer (some ⟨p, 0, none⟩), .int .i64 at_, .int .i64 size, .int .i64 n] [] [SpR p M] fun r ps' hp' => r = .int .i64 (storeM M at_ size n).2 ∧ ps' = [] ∧ hp' = [SpR p (storeM M at_ size n).1] := con_done fun w L h => h.store at_ size n hat.1 hat.2
theorem write_con {p : Nat} {M : Mem} (at_ : Int) (s : ByteArray) (hs : s.size ≤ 9223372036854775807) (hat : -9223372036854775808 ≤ at_ ∧ at_ ≤ 9223372036854775807) :
    Con Tryz.prog 21 [.pointer (some ⟨p, 0, none⟩), .int .i64 at_, .string s] [] [SpR p M] fun r ps' hp' => r = .int .i64 (writeM M at_ s.data.toList).2 ∧ ps' = [] ∧ hp' = [SpR p (writeM M at_ s.data.toList).1] := con_done fun w L h => h.write at_ s hs hat.1 hat.2
end Go.Proofs.YtpgcoceggacplaaGreatDoor
