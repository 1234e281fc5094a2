/- graph: search. No condition. -/
import Derived.Test.YtnbochlghdkfkaaProg
import Derived.Ground.NamesProg
import Derived.Shelf.Sort.Plain
import Derived.Ground.Names2Prog
import Derived.Shelf.Slices.CompactI
import Derived.Shelf.Slices.Clone
import Derived.Shelf.Slices.Reverse
import Derived.Test.YtnbochlghdkfkaaBlE
import Derived.Test.YtnbochlghdkfkaaBlD
import Derived.Shelf.Slices.In.SortNone
import Derived.Laws.CopyRow
import Derived.Shelf.Bits.Mul64
set_option linter.unusedVariables false
set_option linter.unusedSimpArgs false
set_option maxRecDepth 20000
namespace Go.Proofs
open Go.Shelf
def Try.lays189_ren : Go.Shelf.Ren := ⟨fun | 189 => 51 | 125 => 57 | 257 => 56 | 128 => 69 | 129 => 70 | 294 => 60 | 295 => 61 | 296 => 62 | 297 => 63 | 298 => 64 | 299 => 65 | 216 => 66 | 300 => 67 | 301 => 68 | 328 => 71 | 329 => 72 | 330 => 73 | 331 => 74 | 332 => 75 | 215 => 76 | 343 => 77 | n => n, fun | 28 => 37 | 3 => 3 | 46 => 117 | 0 => 0 | 51 => 122 | 53 => 125 | 4 => 4 | 183 => 130 | 182 => 129 | 131 => 97 | 5 => 5 | 9 => 9 | 218 => 137 | 222 => 141 | 228 => 143 | 229 => 144 | n => n, fun | n => n⟩
theorem Try.lays189 : Go.Proofs.Lays.n189 Try.prog Try.lays189_ren := {
  mixed := by kernel_rfl
  f125 := Try.func57.trans (congrArg some (by kernel_rfl))
  f128 := Try.func69.trans (congrArg some (by kernel_rfl))
  f129 := Try.func70.trans (congrArg some (by kernel_rfl))
  f189 := Try.func51.trans (congrArg some (by kernel_rfl))
  f215 := Try.func76.trans (congrArg some (by kernel_rfl))
  f216 := Try.func66.trans (congrArg some (by kernel_rfl))
  f257 := Try.func56.trans (congrArg some (by kernel_rfl))
  f294 := Try.func60.trans (congrArg some (by kernel_rfl))
  f295 := Try.func61.trans (congrArg some (by kernel_rfl))
  f296 := Try.func62.trans (congrArg some (by kernel_rfl))
  f297 := Try.func63.trans (congrArg some (by kernel_rfl))
  f298 := Try.func64.trans (congrArg some (by kernel_rfl))
  f299 := Try.func65.trans (congrArg some (by kernel_rfl))
  f300 := Try.func67.trans (congrArg some (by kernel_rfl))
  f301 := Try.func68.trans (congrArg some (by kernel_rfl))
  f328 := Try.func71.trans (congrArg some (by kernel_rfl))
  f329 := Try.func72.trans (congrArg some (by kernel_rfl))
  f330 := Try.func73.trans (congrArg some (by kernel_rfl))
  f331 := Try.func74.trans (congrArg some (by kernel_rfl))
  f332 := Try.func75.trans (congrArg some (by kernel_rfl))
  f343 := Try.func77.trans (congrArg some (by kernel_rfl))
  t0 := Try.underlying0
  a0 := Try.isAgg0
  z0 := Try.sizeOf0
  v0 := Try.zeroValue0
  t3 := Try.underlying3
  a3 := Try.isAgg3
  z3 := Try.sizeOf3
  v3 := Try.zeroValue3
  t4 := Try.underlying4
  a4 := Try.isAgg4
  z4 := Try.sizeOf4
  v4 := Try.zeroValue4
  t5 := Try.underlying5
  a5 := Try.isAgg5
  z5 := Try.sizeOf5
  v5 := Try.zeroValue5
  t9 := Try.underlying9
  a9 := Try.isAgg9
  z9 := Try.sizeOf9
  v9 := Try.zeroValue9
  t28 := Try.underlying37
  a28 := Try.isAgg37
  z28 := Try.sizeOf37
  v28 := Try.zeroValue37
  t46 := Try.underlying117
  a46 := Try.isAgg117
  z46 := Try.sizeOf117
  v46 := Try.zeroValue117
  t51 := Try.underlying122
  a51 := Try.isAgg122
  z51 := Try.sizeOf122
  v51 := Try.zeroValue122
  t53 := Try.underlying125
  a53 := Try.isAgg125
  z53 := Try.sizeOf125
  v53 := Try.zeroValue125
  t131 := Try.underlying97
  a131 := Try.isAgg97
  z131 := Try.sizeOf97
  v131 := Try.zeroValue97
  t182 := Try.underlying129
  a182 := Try.isAgg129
  z182 := Try.sizeOf129
  v182 := Try.zeroValue129
  t183 := Try.underlying130
  a183 := Try.isAgg130
  z183 := Try.sizeOf130
  v183 := Try.zeroValue130
  t218 := Try.underlying137
  a218 := Try.isAgg137
  z218 := Try.sizeOf137
  v218 := Try.zeroValue137
  t222 := Try.underlying141
  a222 := Try.isAgg141
  z222 := Try.sizeOf141
  v222 := Try.zeroValue141
  t228 := Try.underlying143
  a228 := Try.isAgg143
  z228 := Try.sizeOf143
  v228 := Try.zeroValue143
  t229 := Try.underlying144
  a229 := Try.isAgg144
  z229 := Try.sizeOf144
  v229 := Try.zeroValue144 }
def Try.lays20_ren : Go.Shelf.Ren := ⟨fun | 20 => 52 | n => n, fun | 22 => 37 | 3 => 3 | 4 => 4 | 0 => 0 | n => n, fun | n => n⟩
theorem Try.lays20 : Go.Proofs.Lays2.n20 Try.prog Try.lays20_ren := {
  mixed := by kernel_rfl
  f20 := Try.func52.trans (congrArg some (by kernel_rfl))
  t0 := Try.underlying0
  a0 := Try.isAgg0
  z0 := Try.sizeOf0
  v0 := Try.zeroValue0
  t3 := Try.underlying3
  a3 := Try.isAgg3
  z3 := Try.sizeOf3
  v3 := Try.zeroValue3
  t4 := Try.underlying4
  a4 := Try.isAgg4
  z4 := Try.sizeOf4
  v4 := Try.zeroValue4
  t22 := Try.underlying37
  a22 := Try.isAgg37
  z22 := Try.sizeOf37
  v22 := Try.zeroValue37
  i3 := by kernel_rfl }
def Try.lays15_ren : Go.Shelf.Ren := ⟨fun | 15 => 50 | n => n, fun | 22 => 37 | 3 => 3 | 4 => 4 | n => n, fun | n => n⟩
theorem Try.lays15 : Go.Proofs.Lays2.n15 Try.prog Try.lays15_ren := {
  mixed := by kernel_rfl
  f15 := Try.func50.trans (congrArg some (by kernel_rfl))
  t3 := Try.underlying3
  a3 := Try.isAgg3
  z3 := Try.sizeOf3
  v3 := Try.zeroValue3
  t4 := Try.underlying4
  a4 := Try.isAgg4
  z4 := Try.sizeOf4
  v4 := Try.zeroValue4
  t22 := Try.underlying37
  a22 := Try.isAgg37
  z22 := Try.sizeOf37
  v22 := Try.zeroValue37
  i3 := by kernel_rfl }
def Try.lays112_ren : Go.Shelf.Ren := ⟨fun | 112 => 48 | n => n, fun | 28 => 37 | 3 => 3 | 4 => 4 | 0 => 0 | n => n, fun | n => n⟩
theorem Try.lays112 : Go.Proofs.Lays.n112 Try.prog Try.lays112_ren := {
  mixed := by kernel_rfl
  f112 := Try.func48.trans (congrArg some (by kernel_rfl))
  t0 := Try.underlying0
  a0 := Try.isAgg0
  z0 := Try.sizeOf0
  v0 := Try.zeroValue0
  t3 := Try.underlying3
  a3 := Try.isAgg3
  z3 := Try.sizeOf3
  v3 := Try.zeroValue3
  t4 := Try.underlying4
  a4 := Try.isAgg4
  z4 := Try.sizeOf4
  v4 := Try.zeroValue4
  t28 := Try.underlying37
  a28 := Try.isAgg37
  z28 := Try.sizeOf37
  v28 := Try.zeroValue37 }
end Go.Proofs
namespace Go.Sy
open Go.RowKit Go.Lp
section
variable {P : Program} {n : Fr} {env : Env} {ps : List Per} {hp : List Res} {ty : TypeId} {pos : String} {af : Array Edge} {gd : Option (Nat × Bool)} {d : Option Tmp} {E T : TypeId} {sz : Nat} {x y : Operand} {c : Code} {Q : Exit → Sta → Prop}
/-- the place of an element of a slice of which the block is known -/
theorem q_idxV {B m cp : Nat} (k : Nat) (hel : elB P T E sz = true) (hx : ev env x = some (true, .slice (some ⟨B, 0, none⟩) m cp)) {z : Int} (hy : ev env y = some (true, .int .i64 z)) (hz : z = (k : Int)) (hk : k < m) :
    Quiet P n ⟨d, .indexAddr T x y, ty, pos, af, gd⟩ ⟨env, ps, hp⟩ (.pointer (some ⟨B, k * sz, none⟩)) := fun w S fp a hst he hn => by
  subst hz
  obtain ⟨hT, it, hit, _, hsz, _⟩ := elB_spec hel
  have h1 := he.val hx rfl
  have h2 := he.val hy rfl
  have : (execOp a.eval ⟨d, .indexAddr T x y, ty, pos, af, gd⟩).run P w = .ok (.value (.pointer (some ⟨B, k * sz, none⟩))) w := by
    unfold execOp; dsimp only; rw [h1, h2]
    show ((Instr.indexAt T (.slice (some ⟨B, 0, none⟩) m cp) (.int .i64 k)).bind fun r => Sem.pure (Next.value r)).run P w = _
    have hE : P.elem T = E := by unfold Program.elem; rw [hT]
    rw [Sem.run_bind', run_indexAt_slice _ _ _ _ _ _ _ (by rw [hE]; exact hT), if_pos (by omega), hE, run_sizeOf' hit, hsz]
    simp only [Result.andThen, Int.toNat_natCast]
    unfold Addr.add
    split
    · rename_i h0; rw [h0]; rfl
    · simp only [Nat.zero_add]; rfl
  rw [this]; exact uponQ_ok _ _
/-- the block of an own slice that is not empty -/
theorem awp_formO (i : Nat) {v : Value} {rows : List (List D)} (hi : hp[i]? = some (OwnS v E sz rows)) (h0 : rows ≠ []) (h : ∀ B cp, v = .slice (some ⟨B, 0, none⟩) rows.length cp → awp P n c Q ⟨env, ps, hp⟩) : awp P n c Q ⟨env, ps, hp⟩ :=
  awp_knowR (φ := ∃ B cp, v = .slice (some ⟨B, 0, none⟩) rows.length cp) i hi (fun w S F hh => by
    rcases hh with ⟨_, h1, _⟩ | ⟨B, cp, h1, _⟩
    · exact (h0 h1).elim
    · exact ⟨B, cp, h1⟩) (fun ⟨B, cp, e⟩ => h B cp e)
end
end Go.Sy
namespace Go.Proofs.Ytnbochlghdkfkaa
open Go.RowKit Go.Lp Go.Sy Go.Sort Go.Shelf
open Go.Proofs.Try
attribute [local irreducible] aL aB awp aC fwp
abbrev encI (z : Int) : Value := .int .i64 z
def sortI (zs : List Int) : List Int := zs.mergeSort fun x y => decide (x ≤ y)
theorem con_sortI {v : Value} {T : TypeId} (zs : List Int) (hz : zs.length < 4611686018427387904) : Con Try.prog 51 [v] [] [OwnS v T 1 (encR encI zs)] fun _ ps' hp' => ps' = [] ∧ hp' = [OwnS v T 1 (encR encI (sortI zs))] := by
  have hlen : (sortI zs).length = zs.length := List.length_mergeSort _
  refine con_putRow (zs1 := sortI zs) (rest := []) (fun _ => rfl) (by simp [hlen]) (fun hv hz w => ?_) (fun b cap w hv hb hc hm hH => ?_)
  · subst hv; subst hz
    refine (Any.slices_Sort_int_none Try.lays189 none 0 w).mono fun e w' ⟨he, hw⟩ => ⟨_, he, hw, rfl, ?_⟩
    rw [show sortI [] = [] by simp [sortI]]
  · refine (Any.slices_Sort_int Try.lays189 b 0 cap zs w hH hb hz).mono fun e w' ⟨he, n, os, hw⟩ => ⟨⟨_, he, rfl, by rw [hlen, hv]⟩, n, os, by rw [List.append_nil]; exact hw⟩
theorem con_compactI {v : Value} {T : TypeId} (zs : List Int) : Con Try.prog 52 [v] [] [OwnS v T 1 (encR encI zs)] fun r ps' hp' => ps' = [] ∧ ∃ ad c, r = .slice ad (Lib.compact zs).length c ∧ hp' = [OwnS r T 1 (encR encI (Lib.compact zs))] := by
  have hle : (Lib.compact zs).length ≤ zs.length := by
    unfold Lib.compact Lib.compactUpTo
    rw [List.length_map]
    exact Nat.le_trans (List.length_filter_le _ _) (by simp)
  refine con_putRow (zs1 := Lib.compact zs) (rest := List.replicate (zs.length - (Lib.compact zs).length) 0) (fun _ => rfl) (by simp; omega) (fun hv hz w => ?_) (fun b cap w hv hb hc hm hH => ?_)
  · subst hv; subst hz
    refine (Any.slices_Compact_int_empty Try.lays20 none 0 w).mono fun e w' ⟨he, hw⟩ => ⟨_, he, hw, rfl, none, 0, rfl, rfl⟩
  · refine (Any.slices_Compact_int Try.lays20 b 0 cap zs w hH (by unfold maxLen at hm; omega) hc).mono fun e w' ⟨he, n, hw⟩ => ⟨⟨_, he, rfl, _, _, rfl, rfl⟩, n, #[], ?_⟩
    rw [Sort.grow_empty]; exact hw
theorem con_reverseI {v : Value} {T : TypeId} (zs : List Int) : Con Try.prog 48 [v] [] [OwnS v T 1 (encR encI zs)] fun _ ps' hp' => ps' = [] ∧ hp' = [OwnS v T 1 (encR encI zs.reverse)] := by
  refine con_putRow (zs1 := zs.reverse) (rest := []) (fun _ => rfl) (by simp) (fun hv hz w => ?_) (fun b cap w hv hb hc hm hH => ?_)
  · subst hv; subst hz
    exact (Any.slices_Reverse_int_empty Try.lays112 none 0 w).mono fun e w' ⟨he, hw⟩ => ⟨_, he, hw, rfl, rfl⟩
  · refine (Any.slices_Reverse_int Try.lays112 b 0 cap zs w hH (by unfold maxLen at hm; omega)).mono fun e w' ⟨he, n, hw⟩ => ⟨⟨_, he, rfl, by rw [List.length_reverse, hv]⟩, n, #[], ?_⟩
    rw [Sort.grow_empty, List.append_nil]; exact hw
theorem own_of_row {w : World} {S : Blks} {base : Nat} {e : TypeId} {v : Value} {zs : List Int} (h : w.ownsRow base e 1 v zs.length (zs.map encI)) : (OwnS v e 1 (encR encI zs)).holds w S (fun b => v.ownBlock = some b) := by
  obtain ⟨_, ⟨rfl, hn⟩ | ⟨g, cap, cur, rfl, _, hg, hle, hc, hsz, htk⟩⟩ := h
  · have : zs = [] := List.eq_nil_of_length_eq_zero hn
    subst this
    exact .inl ⟨rfl, rfl, fun b hb => by cases hb⟩
  · rw [Nat.mul_one] at hsz htk
    refine .inr ⟨g, cap, by rw [encR_len], ⟨zs.map encI, cur.toList.drop zs.length, ?_, ⟨by simp [encR], fun i r hi => ?_, fun u hu => ?_, fun i j r d h1 h2 => ?_⟩, ?_, by rw [encR_len]; exact hle, hc⟩, fun k => ?_⟩
    · rw [hg, ← htk, List.take_append_drop]
    · simp only [encR, List.getElem?_map, Option.map_eq_some_iff] at hi
      obtain ⟨x, _, rfl⟩ := hi; rfl
    · obtain ⟨x, _, rfl⟩ := List.mem_map.1 hu; rfl
    · simp only [encR, List.getElem?_map, Option.map_eq_some_iff] at h1
      obtain ⟨x, hx, rfl⟩ := h1
      cases j with
      | zero =>
        simp only [List.getElem?_cons_zero, Option.some.injEq] at h2
        subst h2
        exact ⟨encI x, by simp [hx], .v _⟩
      | succ j => simp at h2
    · rw [← htk, List.take_append_drop, Array.length_toList, hsz, Nat.mul_one]
    · simp [Value.ownBlock, eq_comm]
theorem con_cloneI {ad : Option Addr} {c : Nat} (zs : List Int) (hz : zs.length ≤ 1000000) : Con Try.prog 50 [.slice ad zs.length c] [Sh (.slice ad zs.length c) (.sl (encR encI zs))] [] fun r ps' hp' => ps' = [] ∧ hp' = [OwnS r 3 1 (encR encI zs)] := fun w S fp hst => by
  have hrep : RepD w S (.slice ad zs.length c) (.sl (encR encI zs)) := hst.per _ List.mem_cons_self
  have key : Calls Try.prog 50 #[.slice ad zs.length c] w fun e w' => ∃ v', e = .returned v' ∧ w'.ownsRow w.heap.size 3 1 v' zs.length (zs.map encI) ∧ Below w.heap.size w w' := by
    by_cases h0 : zs = []
    · subst h0
      cases ad with
      | none => exact (Any.slices_Clone_int_nil Try.lays15 0 c w).mono fun e w' ⟨h1, h2⟩ => ⟨_, h1, ⟨rfl, .inl ⟨rfl, rfl⟩⟩, by rw [h2]; exact Below.refl _ _⟩
      | some a => exact (Any.slices_Clone_int_zero Try.lays15 a c w).mono fun e w' ⟨v', h1, h2, _, h3⟩ => ⟨v', h1, h2, h3⟩
    · generalize hrows : encR encI zs = rows at hrep
      generalize hn : zs.length = n at hrep
      cases hrep with
      | e a c hc => exact (h0 (List.eq_nil_of_length_eq_zero hn)).elim
      | sl b o c sz _ us hb hn' hc hrl hcell hd =>
        subst hrows
        rw [encR_len]
        have hg : ∀ j, j < zs.length → (encR encI zs)[j]? = some [.v (encI (zs.getD j 0))] := fun j hj => by simp [encR, List.getD, hj]
        have hsz : sz = 1 := by
          have := hrl 0 _ (hg 0 (List.length_pos_iff.2 h0)); simpa using this.symm
        subst hsz
        refine (Any.slices_Clone_int Try.lays15 b o zs.length c zs w (Nat.le_refl _) (by omega) (fun j hj => ?_)).mono fun e w' ⟨v', h1, h2, _, h3⟩ => ⟨v', h1, by rw [List.take_length] at h2; exact h2, h3⟩
        have h1 := (hcell j 0 _ _ (hg j hj) rfl).1
        rw [repD_v (hd j 0 _ _ (hg j hj) rfl), Nat.mul_one, Nat.add_zero] at h1
        exact h1
  refine key.mono fun e w' ⟨v', he, ho, hb⟩ => ⟨v', [], _, S, fun _ b => v'.ownBlock = some b, he, ⟨rfl, rfl⟩, ⟨fun p hp => (by cases hp), fun i R hR => ?_, fun i hi b hbk => ?_, fun i j hi hj hne => ?_, fun b hbS => Nat.lt_of_lt_of_le (hst.slt b hbS) hb.size⟩, Evo.of_below _ _ hb, fun b ⟨i, hi, hbk⟩ => .inr ?_⟩
  · cases i with
    | zero => simp only [List.getElem?_cons_zero, Option.some.injEq] at hR; subst hR; exact own_of_row ho
    | succ i => simp at hR
  · obtain ⟨_, ⟨rfl, hn⟩ | ⟨g, cap, cur, rfl, hge, hg, _⟩⟩ := ho
    · cases hbk
    · simp only [Value.ownBlock, Option.some.injEq] at hbk
      subst hbk
      exact ⟨(Array.getElem?_eq_some_iff.1 hg).1, fun hS => by have := hst.slt _ hS; omega⟩
  · simp only [List.length_singleton] at hi hj; omega
  · obtain ⟨_, ⟨rfl, hn⟩ | ⟨g, cap, cur, rfl, hge, hg, _⟩⟩ := ho
    · cases hbk
    · simp only [Value.ownBlock, Option.some.injEq] at hbk
      omega
end Go.Proofs.Ytnbochlghdkfkaa
namespace Go.Proofs.Ytnbochlghdkfkaa
open Go.RowKit Go.Lp Go.Sy
open Go.Proofs.Try
attribute [local irreducible] aL aB awp aC fwp
def addArc (L : List (List Int)) (a : GArc) : List (List Int) := L.set a.from_.toNat (L.getD a.from_.toNat [] ++ [a.to_])
def phase1 (N : Nat) (l : List GArc) : List (List Int) := l.foldl addArc (List.replicate N [])
theorem addArc_len (L : List (List Int)) (a : GArc) : (addArc L a).length = L.length := by simp [addArc]
theorem foldl_addArc_len (l : List GArc) : ∀ L : List (List Int), (l.foldl addArc L).length = L.length := by
  induction l with
  | nil => intro L; rfl
  | cons a l ih => intro L; rw [List.foldl_cons, ih, addArc_len]
theorem phase1_len (N : Nat) (l : List GArc) : (phase1 N l).length = N := by unfold phase1; rw [foldl_addArc_len]; simp
theorem phase1_snoc (N : Nat) (l : List GArc) {k : Nat} {a : GArc} (h : l[k]? = some a) : phase1 N (l.take (k + 1)) = addArc (phase1 N (l.take k)) a := by
  unfold phase1; rw [List.take_add_one, h, List.foldl_append]; rfl
theorem foldl_addArc_le (l : List GArc) : ∀ (L : List (List Int)) (m : Nat), (∀ r ∈ L, r.length ≤ m) → ∀ r ∈ l.foldl addArc L, r.length ≤ m + l.length := by
  induction l with
  | nil => intro L m h r hr; exact h r hr
  | cons a l ih =>
    intro L m h r hr
    rw [List.foldl_cons] at hr
    have := ih (addArc L a) (m + 1) (fun r hr => by
      unfold addArc at hr
      rcases List.mem_or_eq_of_mem_set hr with h1 | rfl
      · exact Nat.le_succ_of_le (h r h1)
      · have : (L.getD a.from_.toNat []).length ≤ m := by
          by_cases hlt : a.from_.toNat < L.length
          · rw [show L.getD a.from_.toNat [] = L[a.from_.toNat] by simp [List.getD, hlt]]; exact h _ (List.getElem_mem hlt)
          · rw [show L.getD a.from_.toNat [] = [] by simp [List.getD, Nat.not_lt.1 hlt]]; exact Nat.zero_le _
        rw [List.length_append, List.length_singleton]; omega) r hr
    rw [List.length_cons]; omega
theorem phase1_le (N : Nat) (l : List GArc) {r : List Int} (h : r ∈ phase1 N l) : r.length ≤ l.length := by
  have := foldl_addArc_le l (List.replicate N []) 0 (fun r hr => by rw [(List.mem_replicate.1 hr).2]; exact Nat.le_refl _) r h
  omega
def uniqI (zs : List Int) : List Int := Lib.compact (sortI zs)
def nextF (N : Nat) (l : List GArc) : List (List Int) := (phase1 N l).map uniqI
def phase2 (L : List (List Int)) (k : Nat) : List (List Int) := (L.take k).map uniqI ++ L.drop k
theorem phase2_len (L : List (List Int)) (k : Nat) (h : k ≤ L.length) : (phase2 L k).length = L.length := by simp [phase2]; omega
theorem phase2_get {L : List (List Int)} {k : Nat} {x : List Int} (h : L[k]? = some x) : (phase2 L k)[k]? = some x := by
  have hk := (List.getElem?_eq_some_iff.1 h).1
  unfold phase2
  rw [List.getElem?_append_right (by simp; omega)]
  simp only [List.length_map, List.length_take, List.getElem?_drop]
  rw [show k + (k - min k L.length) = k by omega]; exact h
theorem phase2_step {L : List (List Int)} {k : Nat} {x : List Int} (h : L[k]? = some x) : (phase2 L k).set k (uniqI x) = phase2 L (k + 1) := by
  have hk := (List.getElem?_eq_some_iff.1 h).1
  unfold phase2
  rw [List.set_append_right _ _ (by simp; omega), List.take_add_one, h, List.map_append, List.append_assoc]
  congr 1
  rw [List.length_map, List.length_take, show k - min k L.length = 0 by omega, List.drop_eq_getElem_cons hk, List.set_cons_zero]
  rfl
theorem vrows_set (vs : List Value) (k : Nat) (v : Value) : vrows (vs.set k v) = (vrows vs).set k [.v v] := by simp [vrows, List.map_set]
theorem awp_formN {P : Program} {n : Fr} {env : Env} {ps : List Per} {hp : List Res} {c : Code} {Q : Exit → Sta → Prop} {α : Type} {enc : α → Value} {vo : Value} {T E : TypeId} {l : List (List α)} (i : Nat) (hi : hp[i]? = some (Nest vo T E enc l)) (h : ∀ ad cp, vo = .slice ad l.length cp → awp P n c Q ⟨env, ps, hp⟩) : awp P n c Q ⟨env, ps, hp⟩ :=
  awp_knowR (φ := ∃ ad cp, vo = .slice ad l.length cp) i hi (fun w S F hh => by
    obtain ⟨vs, hl, G, H, hG, hH, _, e⟩ := hh
    rcases hG with ⟨h1, h2, _⟩ | ⟨B, cp, h1, _⟩
    · refine ⟨none, 0, ?_⟩
      have : vs = [] := by simpa [vrows] using h2
      subst this
      rw [← hl]; exact h1
    · exact ⟨_, cp, by rw [h1, vrows_len, hl]⟩) (fun ⟨ad, cp, e⟩ => h ad cp e)
set_option maxHeartbeats 1000000 in
theorem con_next (N : Nat) (hN : N ≤ 1000000) (l : Sl GArc) (hl : l.l.length ≤ 1000000) (hr : ∀ a ∈ l.l, 0 ≤ a.from_ ∧ a.from_ < N) :
    Con Try.prog 53 [.int .i64 N, l.val] [ShF GArc.row l] [] fun r ps hp => ps = [] ∧ hp = [Nest r 37 3 encI (nextF N l.l)] := by
  refine Con.enter Try.func53 rfl (by simp [Try.ntmps53]) ?_
  show awp _ _ _ _ ⟨[(0, true, _), (1, true, _)], _, _⟩
  refine awp_seq (awp_region (aL_s true rfl rfl (fun _ => q_assign rfl) (aL_nil (thn_n (awp_seq (awp_region (aL_s true rfl rfl (fun _ => q_move rfl) ?_)))))))
  refine aL_eff (q := true) rfl (w_make (m := N) (zs := [.slice none 0 0]) el33 (by kernel_rfl) rfl (by decide) (ev_int rfl (rfl)) (ev_int rfl (rfl)) (by omega) rfl (fun v1_1 => ?_))
  refine aL_hp (by (try simp only [nM, nN]); rfl) ?_
  refine aL_s true rfl rfl (fun _ => q_assign rfl) (aL_nil (thn_n (awp_seq (awp_seq (awp_nestNew (α := Int) (E := 3) (enc := encI) 0 N rfl ?_)))))
  refine awp_lenE (.of (psAt 0 rfl)) (fun hlen => ?_)
  refine awp_region (aL_s true rfl rfl (fun _ => q_move rfl) (aL_s true rfl rfl (fun _ => q_lenS Try.underlying80 rfl) (aL_s true rfl rfl (fun _ => q_move rfl) (aL_nil (thn_n (awp_block (awp_loopK [5, 11, 12, 13] [0] [0] (fun (k : Nat) s => k ≤ l.l.length ∧ ∃ vo, s = ⟨[(5, true, vo), (11, true, l.val), (12, true, .int .i64 l.l.length), (13, true, .int .i64 k)], [ShF GArc.row l], [Nest vo 37 3 encI (phase1 N (l.l.take k))]⟩) (fun k => l.l.length - k) rfl (⟨0, Nat.zero_le _, _, rfl⟩) ?_)))))))
  rintro k s ⟨hk, vo, rfl⟩
  refine awp_seq (awp_region (aL_s true rfl rfl (fun _ => q_lss rfl rfl) (aL_nil (thn_n (awp_seq ?_)))))
  refine awp_cond _ rfl (fun h1 => ?_) (fun h1 => ?_)
  ·skip
   have hk' : k < l.l.length := by simpa using h1
   obtain ⟨a, ha⟩ : ∃ a, l.l[k]? = some a := ⟨l.l[k]'hk', by simp⟩
   have har := hr a (List.mem_of_getElem? ha)
   refine awp_skip (thn_n (awp_seq (awp_block (awp_seq (awp_region ?_)))))
   refine aL_E true rfl rfl (fun _ => q_indexAddrG Try.underlying80 tk100 rfl ((.of (psAt 0 rfl))) rfl (rows_get ha) rfl rfl) (fun h => absurd h (by decide)) (fun ⟨b4_0, o4_0⟩ => ?_)
   refine aL_s true rfl rfl (fun _ => q_loadD (o := 0) tk100 rfl (psAt 0 rfl) rfl rfl) ?_
   refine aL_eff (q := true) rfl (x_alloc (zs := [.int .i64 0, .int .i64 0]) (by kernel_rfl) rfl (fun b4_2 => ?_))
   refine aL_hp (by (try simp only [nM, nN]); rfl) ?_
   refine aL_eff rfl (x_store 1 tk100 rfl rfl rfl rfl ?_)
   refine aL_hp (by simp only [nK, nL]; rfl) ?_
   refine aL_nil (thn_n ?_)
   have hkk : a.from_.toNat < (phase1 N (l.l.take k)).length := by rw [phase1_len]; omega
   obtain ⟨xr, hxr⟩ : ∃ xr, (phase1 N (l.l.take k))[a.from_.toNat]? = some xr := ⟨(phase1 N (l.l.take k))[a.from_.toNat]'hkk, by simp⟩
   have hxl : xr.length ≤ 1000000 := by have := phase1_le N _ (List.mem_of_getElem? hxr); rw [List.length_take] at this; omega
   refine awp_nestOpen 0 a.from_.toNat rfl hxr (fun vs v hvl hv => ?_)
   rw [phase1_len] at hvl
   have hne : vrows vs ≠ [] := fun h0 => by
     have := congrArg List.length h0
     simp [vrows, hvl] at this; omega
   refine awp_formO 0 rfl hne (fun B cp hvo => ?_)
   have hvr : (vrows vs).length = N := by simp [vrows, hvl]
   rw [hvr] at hvo
   subst hvo
   have hrow : (vrows vs)[a.from_.toNat]? = some [.v v] := by simp [vrows, hv]
   show awp _ _ _ _ ⟨_, _, [_, _, _, _]⟩
   refine awp_drawnC [11, 13] [13] [b4_2] (by kernel_rfl) ?_
   show aC _ _ _ _ _ _ _ 14 #[false, false, false, false, false, false, false, false, false, false, false, false, false, false] _
   refine aC_f 0 rfl (by kernel_rfl) true rfl rfl (fun _ => q_move rfl) ?_
   refine aC_f 1 rfl (by kernel_rfl) true rfl rfl (fun _ => q_fieldAddr (off := 0) (by kernel_rfl) rfl) ?_
   refine aC_box 2 1 rfl (by kernel_rfl) true rfl rfl (by simp) tk3 (fun _ => rfl) rfl rfl ?_
   refine aC_f 3 rfl (by kernel_rfl) true rfl rfl (fun _ => q_move rfl) ?_
   refine aC_f 4 rfl (by kernel_rfl) true rfl rfl (fun _ => q_fieldAddr (off := 0) (by kernel_rfl) rfl) ?_
   refine aC_box 5 1 rfl (by kernel_rfl) true rfl rfl (by simp) tk3 (fun _ => rfl) rfl rfl ?_
   refine aC_f 6 rfl (by kernel_rfl) true rfl rfl (fun _ => q_idxV a.from_.toNat el33 rfl rfl (by omega) (by omega)) ?_
   refine aC_q 7 rfl (by kernel_rfl) true rfl rfl (fun _ => q_loadO (v := .slice (some ⟨B, 0, none⟩) N cp) (u := v) 0 a.from_.toNat 0 tk37 rfl rfl hrow rfl rfl) ?_
   refine aC_f 8 rfl (by kernel_rfl) true rfl rfl (fun _ => q_fieldAddr (off := 1) (by kernel_rfl) rfl) ?_
   refine aC_box 9 1 rfl (by kernel_rfl) true rfl rfl (by simp) tk3 (fun _ => rfl) rfl rfl ?_
   refine aC_arms 10 [] (by kernel_rfl) (arms_cons ?_ arms_nil)
   refine aC_arm 10 rfl rfl (Eff.x ?_)
   refine id (w_lit (zs := [.int .i64 0]) (l := [(0, .tmp 26)]) el37 (by kernel_rfl) (by decide) (by decide) (by decide) rfl rfl rfl (.more rfl (.v rfl .nil) .nil) rfl rfl (fun v5_10 => ?_))
   refine aC_st (by (try simp only [nO, nK, nL]); rfl) (by (try simp only [nM, nN]); rfl) (by (try simp only [keepH, nQ, nR, putB, place, Nat.reduceBEq, nA, if_true, if_false, reduceIte, nB, nC, nD, nE, nF, nG, nH, nI, Nat.reduceAdd, nJ, beq_self_eq_true, nK, nL, nM, nN]); rfl) ?_
   refine aC_arms 11 [] (by kernel_rfl) (arms_cons ?_ arms_nil)
   refine aC_arm 11 rfl rfl (Eff.framed (q := false) [2, 4] rfl rfl (zcons 1 rfl rfl znil) ?_)
   refine id (w_append 0 el37 rfl rfl rfl rfl (w_srcO 1 el37 rfl (by simp)) (by first | assumption | simp) (by simp [encR_len]; omega) _ rfl (fun v5_11 c5_11 => ?_))
   refine fr_mk ?_
   refine aC_st (by (try simp only [nO, nK, nL]); rfl) (by (try simp only [nM, nN]); rfl) (by (try simp only [keepH, nQ, nR, putB, place, Nat.reduceBEq, nA, if_true, if_false, reduceIte, nB, nC, nD, nE, nF, nG, nH, nI, Nat.reduceAdd, nJ, beq_self_eq_true, nK, nL, nM, nN]); rfl) ?_
   refine aC_f 12 rfl (by kernel_rfl) true rfl rfl (fun _ => q_idxV a.from_.toNat el33 rfl rfl (by omega) (by omega)) ?_
   refine aC_arms 13 [] (by kernel_rfl) (arms_cons ?_ arms_nil)
   refine aC_arm 13 rfl rfl (Eff.wild (q := false) ?_)
   refine e_storeO 0 a.from_.toNat 0 tk37 rfl rfl rfl hrow rfl (.v rfl .nil) rfl (by decide) ?_
   refine aC_st (by (try simp only [nO, nK, nL]); rfl) (by (try simp only [nM, nN]); rfl) (by (try simp only [keepH, nQ, nR, putB, place, Nat.reduceBEq, nA, if_true, if_false, reduceIte, nB, nC, nD, nE, nF, nG, nH, nI, Nat.reduceAdd, nJ, beq_self_eq_true, nK, nL, nM, nN]); rfl) ?_
   refine aC_nil (by kernel_rfl) ?_
   refine blk_n (thn_n ?_)
   refine aw_hp (hp' := [OwnS (.slice (some ⟨B, 0, none⟩) N cp) 37 1 (vrows (vs.set a.from_.toNat (.slice v5_11 (xr.length + 1) c5_11))), _, OwnS (.slice v5_11 (xr.length + 1) c5_11) 3 1 (encR encI (xr ++ [a.to_])), Stars ((inner 3 encI vs (phase1 N (l.l.take k))).set a.from_.toNat emp), _]) (by rw [vrows_set, encR_len]; simp [encR, setD]; exact ⟨rfl, rfl⟩) ?_
   refine awp_nestClose 0 2 3 a.from_.toNat rfl rfl rfl rfl rfl rfl (by rw [hvl, phase1_len]) hkk ?_
   show awp _ _ _ _ ⟨_, _, [_, _, _, _, _]⟩
   refine awp_region ?_
   refine aL_s true rfl rfl (fun _ => q_addi rfl rfl (by omega)) ?_
   refine aL_s true rfl rfl (fun _ => q_move rfl) (aL_nil (thn_n ?_))
   refine ⟨[5, 11, 12, 13], [0], [0], rfl, ?_⟩
   refine ⟨k + 1, ⟨by omega, .slice (some ⟨B, 0, none⟩) N cp, ?_⟩, by omega⟩
   rw [phase1_snoc _ _ ha, show addArc (phase1 N (l.l.take k)) a = (phase1 N (l.l.take k)).set a.from_.toNat (xr ++ [a.to_]) by unfold addArc; rw [List.getD_eq_getElem?_getD, hxr]; rfl]
   rfl
  ·skip
   have hkl : k = l.l.length := by simp at h1; omega
   rw [hkl, List.take_length]
   refine awp_exit (thn_e (thn_e (blk_hit (thn_n (awp_seq (awp_seq ?_))))))
   refine awp_formN 0 rfl (fun ad cp hvo => ?_)
   rw [phase1_len] at hvo
   subst hvo
   refine awp_region (aL_s true rfl rfl (fun _ => q_move rfl) (aL_s true rfl rfl (fun _ => q_lenS Try.underlying33 rfl) (aL_s true rfl rfl (fun _ => q_move rfl) (aL_nil (thn_n (awp_block ?_))))))
   refine awp_loopK [5, 32, 33] [] [0] (fun (j : Nat) s => j ≤ N ∧ s = ⟨[(5, true, .slice ad N cp), (32, true, .int .i64 N), (33, true, .int .i64 j)], [], [Nest (.slice ad N cp) 37 3 encI (phase2 (phase1 N l.l) j)]⟩) (fun j => N - j) rfl (⟨0, Nat.zero_le _, by rw [show phase2 (phase1 N l.l) 0 = phase1 N l.l by simp [phase2]]; rfl⟩) ?_
   rintro j s ⟨hj, rfl⟩
   refine awp_seq (awp_region (aL_s true rfl rfl (fun _ => q_lss rfl rfl) (aL_nil (thn_n (awp_seq ?_)))))
   refine awp_cond _ rfl (fun h2 => ?_) (fun h2 => ?_)
   ·skip
    have hj' : j < N := by simpa using h2
    have hjj : j < (phase1 N l.l).length := by rw [phase1_len]; omega
    obtain ⟨xr, hxr⟩ : ∃ xr, (phase1 N l.l)[j]? = some xr := ⟨(phase1 N l.l)[j]'hjj, by simp⟩
    have hxl : xr.length ≤ 1000000 := by have := phase1_le N _ (List.mem_of_getElem? hxr); omega
    refine awp_skip (thn_n (awp_seq (awp_block (awp_seq (awp_region (aL_s true rfl rfl (fun _ => q_move rfl) (aL_s true rfl rfl (fun _ => q_assign rfl) ?_)))))))
    refine aL_nil (thn_n (awp_seq ?_))
    refine awp_nestOpen 0 j rfl (phase2_get hxr) (fun vs v hvl hv => ?_)
    rw [phase2_len _ _ (by rw [phase1_len]; omega), phase1_len] at hvl
    have hne : vrows vs ≠ [] := fun h0 => by
      have := congrArg List.length h0
      simp [vrows, hvl] at this; omega
    refine awp_formO 0 rfl hne (fun B cp2 hvo => ?_)
    obtain ⟨rfl, rfl⟩ : ad = some ⟨B, 0, none⟩ ∧ cp = cp2 := by simp at hvo; exact ⟨hvo.1, hvo.2.2⟩
    have hrow : (vrows vs)[j]? = some [.v v] := by simp [vrows, hv]
    show awp _ _ _ _ ⟨_, _, [_, _, _]⟩
    refine awp_region (aL_s true rfl rfl (fun _ => q_move rfl) (aL_s true rfl rfl (fun _ => q_move rfl) ?_))
    refine aL_s true rfl rfl (fun _ => q_idxV j el33 rfl rfl (by omega) (by omega)) ?_
    refine aL_s true rfl rfl (fun _ => q_loadO (v := .slice (some ⟨B, 0, none⟩) N cp) (u := v) 0 j 0 tk37 rfl rfl hrow rfl rfl) ?_
    refine aL_eff (q := false) rfl (e_call [] [1] (by kernel_rfl) rfl rfl rfl rfl (con_sortI _ (by omega)) ?_)
    rintro _ _ _ ⟨rfl, rfl⟩
    refine aL_st (by (try simp only [nM, nN]); rfl) (by (try simp only [putB, place, Nat.reduceBEq, nA, if_true, if_false, reduceIte, nB, nC, nD, nE, nF, nG, nH, nI, Nat.reduceAdd, nJ, beq_self_eq_true, nK, nL, nM, nN]); rfl) ?_
    refine aL_nil (thn_n (awp_region (aL_s true rfl rfl (fun _ => q_move rfl) (aL_s true rfl rfl (fun _ => q_move rfl) (aL_s true rfl rfl (fun _ => q_move rfl) (aL_s true rfl rfl (fun _ => q_move rfl) ?_))))))
    refine aL_s true rfl rfl (fun _ => q_idxV j el33 rfl rfl (by omega) (by omega)) ?_
    refine aL_s true rfl rfl (fun _ => q_loadO (v := .slice (some ⟨B, 0, none⟩) N cp) (u := v) 0 j 0 tk37 rfl rfl hrow rfl rfl) ?_
    refine aL_eff (q := false) rfl (e_call [] [1] (by kernel_rfl) rfl rfl rfl rfl (con_compactI _) ?_)
    rintro r11 _ _ ⟨rfl, ad2, c2, rfl, rfl⟩
    refine aL_st (by (try simp only [nM, nN]); rfl) (by (try simp only [putB, place, Nat.reduceBEq, nA, if_true, if_false, reduceIte, nB, nC, nD, nE, nF, nG, nH, nI, Nat.reduceAdd, nJ, beq_self_eq_true, nK, nL, nM, nN]); rfl) ?_
    refine aL_s true rfl rfl (fun _ => q_idxV j el33 rfl rfl (by omega) (by omega)) ?_
    refine aL_eff (q := false) rfl (e_storeO 0 j 0 tk37 rfl rfl rfl hrow rfl (.v rfl .nil) rfl (by decide) ?_)
    refine aL_nil (blk_n (thn_n ?_))
    refine aw_hp (hp' := [OwnS (.slice (some ⟨B, 0, none⟩) N cp) 37 1 (vrows (vs.set j (.slice ad2 (Lib.compact (sortI xr)).length c2))), OwnS (.slice ad2 (Lib.compact (sortI xr)).length c2) 3 1 (encR encI (uniqI xr)), Stars ((inner 3 encI vs (phase2 (phase1 N l.l) j)).set j emp)]) (by rw [vrows_set]; simp [setD]; rfl) ?_
    refine awp_nestClose 0 1 2 j rfl rfl rfl rfl rfl rfl (by rw [hvl, phase2_len _ _ (by rw [phase1_len]; omega), phase1_len]) (by rw [phase2_len _ _ (by rw [phase1_len]; omega)]; exact hjj) ?_
    show awp _ _ _ _ ⟨_, _, [_, _, _]⟩
    refine awp_region ?_
    refine aL_s true rfl rfl (fun _ => q_addi rfl rfl (by omega)) ?_
    refine aL_s true rfl rfl (fun _ => q_move rfl) (aL_nil (thn_n ?_))
    refine ⟨[5, 32, 33], [], [0], rfl, ?_⟩
    refine ⟨j + 1, ⟨by omega, ?_⟩, by omega⟩
    rw [← phase2_step hxr]; rfl
   ·skip
    have hjl : j = N := by simp at h2; omega
    subst hjl
    have e : phase2 (phase1 j l.l) j = nextF j l.l := by have := phase1_len j l.l; unfold phase2 nextF; rw [List.take_of_length_le (by omega), List.drop_of_length_le (by omega), List.append_nil]
    rw [e]
    refine awp_exit (thn_e (thn_e (blk_hit (thn_n (awp_seq (awp_region (aL_s true rfl rfl (fun _ => q_move rfl) ?_)))))))
    refine aL_s true rfl rfl (fun _ => q_assign rfl) (aL_nil (thn_n (awp_ret ?_)))
    refine fin1 [] [0] rfl Try.results53 rfl ?_ (.inr rfl)
    exact ⟨rfl, rfl⟩
end Go.Proofs.Ytnbochlghdkfkaa
namespace Go.Sy
open Go.RowKit Go.Lp Go.Sort
section
variable {P : Program} {n : Fr} {env : Env} {ps : List Per} {hp : List Res} {s : Sta} {d : Option Tmp} {ty : TypeId} {pos : String} {af : Array Edge} {gd : Option (Nat × Bool)} {x y : Operand} {K : Sta → Prop}
theorem q_sliceHV {T E : TypeId} {sz m c B o : Nat} {kk : IntKind} {z : Int} (k : Nat) (hel : elB P T E sz = true) (hx : ev s.env x = some (true, .slice (some ⟨B, o, none⟩) m c))
    (hy : ev s.env y = some (true, .int kk z)) (hz : z = (k : Int)) (hk : k ≤ m) (hm : m ≤ c) :
    Quiet P n ⟨d, .slice T x none (some y) none, ty, pos, af, gd⟩ s (.slice (some ⟨B, o, none⟩) k c) := fun w S fp a hst he hn => by
  have h1 := he.val hx rfl
  subst hz
  have h2 := he.val hy rfl
  obtain ⟨hT, it, hi, _, hsz, _⟩ := elB_spec hel
  have hE : P.elem T = E := by unfold Program.elem; rw [hT]
  have hrun : ∀ w1, (execOp a.eval ⟨d, .slice T x none (some y) none, ty, pos, af, gd⟩).run P w1 = .ok (.value (sliced (some ⟨B, o, none⟩) 0 k c sz)) w1 := fun w1 => by
    unfold execOp; dsimp only; simp only [Option.map_some, Option.map_none]; rw [h1, h2]
    show ((Instr.sliceAt T (.slice (some ⟨B, o, none⟩) m c) none (some (.int kk k)) none).bind fun r => Sem.pure (Next.value r)).run P w1 = _
    have hT' : P.underlying T = some (.slice (P.elem T)) := by rw [hT, hE]
    rw [Sem.run_bind', run_sliceAt_slice w1 T _ _ _ _ hT', run_slice_h w1 T _ m c hT' kk k (by omega) (by omega), hE, run_sizeOf' hi, hsz]
    rfl
  have e : sliced (some ⟨B, o, none⟩) 0 k c sz = .slice (some ⟨B, o, none⟩) k c := by
    unfold sliced
    simp only [Nat.sub_zero]
    congr 1
    split
    · rfl
    · simp [add_at]
  rw [hrun, e]; exact uponQ_ok _ _
theorem q_sliceLV {T E : TypeId} {sz m c B o : Nat} {kk : IntKind} {z : Int} (k m' o' : Nat) (hel : elB P T E sz = true) (hx : ev s.env x = some (true, .slice (some ⟨B, o, none⟩) m c))
    (hy : ev s.env y = some (true, .int kk z)) (hz : z = (k : Int)) (hk : k < m) (hm : m ≤ c) (hm' : m - k = m') (ho : o + k * sz = o') :
    Quiet P n ⟨d, .slice T x (some y) none none, ty, pos, af, gd⟩ s (.slice (some ⟨B, o', none⟩) m' (c - k)) := fun w S fp a hst he hn => by
  have h1 := he.val hx rfl
  subst hz
  have h2 := he.val hy rfl
  obtain ⟨hT, it, hi, _, hsz, _⟩ := elB_spec hel
  have hE : P.elem T = E := by unfold Program.elem; rw [hT]
  have hrun : ∀ w1, (execOp a.eval ⟨d, .slice T x (some y) none none, ty, pos, af, gd⟩).run P w1 = .ok (.value (sliced (some ⟨B, o, none⟩) k m c sz)) w1 := fun w1 => by
    unfold execOp; dsimp only; simp only [Option.map_some, Option.map_none]; rw [h1, h2]
    show ((Instr.sliceAt T (.slice (some ⟨B, o, none⟩) m c) (some (.int kk k)) none none).bind fun r => Sem.pure (Next.value r)).run P w1 = _
    have hT' : P.underlying T = some (.slice (P.elem T)) := by rw [hT, hE]
    rw [Sem.run_bind', run_sliceAt_slice w1 T _ _ _ _ hT', run_slice_l w1 T _ m c hT' kk k (by omega) (by omega), hE, run_sizeOf' hi, hsz]
    rfl
  have e : sliced (some ⟨B, o, none⟩) k m c sz = .slice (some ⟨B, o', none⟩) m' (c - k) := by
    unfold sliced
    rw [← hm', ← ho, if_neg (by omega)]
    simp [add_at]
  rw [hrun, e]; exact uponQ_ok _ _
end
section
variable {α : Type} [Inhabited α] {enc : α → Value}
variable {P : Program} {n : Fr} {env : Env} {ps : List Per} {hp : List Res} {ty : TypeId} {pos : String} {af : Array Edge} {gd : Option (Nat × Bool)} {K : Sta → Prop}
/-- nothing is copied into nothing -/
theorem q_copy0 {d : Option Tmp} {x y : Operand} {T T2 E : TypeId} {sz sl sc dc : Nat} {da sa : Option Addr} {s : Sta} (hel : elB P T E sz = true) (hx : ev s.env x = some (true, .slice da 0 dc)) (hy : ev s.env y = some (true, .slice sa sl sc)) :
    Quiet P n ⟨d, .call ⟨.builtin .copy, #[x, y], #[T, T2]⟩, ty, pos, af, gd⟩ s (.int .i64 0) := fun w S fp a hst he hn => by
  have h1 := he.val hx rfl
  have h2 := he.val hy rfl
  obtain ⟨hT, it, hi, _, hsz, _⟩ := elB_spec hel
  have : (execOp a.eval ⟨d, .call ⟨.builtin .copy, #[x, y], #[T, T2]⟩, ty, pos, af, gd⟩).run P w = .ok (.value (.int .i64 0)) w := by
    show ((Builtin.copy_ #[T, T2] ty (#[x, y].map a.eval)).bind fun r => Sem.pure (Next.value r)).run P w = _
    have hargs : #[x, y].map a.eval = #[.slice da 0 dc, .slice sa sl sc] := by simp [h1, h2]
    rw [hargs, Sem.run_bind']
    have : (Builtin.copy_ #[T, T2] ty #[.slice da 0 dc, .slice sa sl sc]).run P w = .ok (goInt 0) w := by
      cases da <;> cases sa <;> simp [Builtin.copy_, run_underlying hT, Builtin.lenOf, Builtin.firstCells, sizeOf, typeInfo, hi, storeCells, loadCells, loadCellsFrom] <;> rfl
    rw [this]; rfl
  rw [this]; exact uponQ_ok _ _
/-- a copy into an own slice -/
theorem e_copy {t : Nat} {x y : Operand} {T T2 E : TypeId} {B N o dl dc cp sl sc : Nat} {sa : Option Addr} {zs cs : List α} (i : Nat) (hel : elB P T E 1 = true) (hone : ∀ x : α, (enc x).oneCell' = true)
    (hx : ev env x = some (true, .slice (some ⟨B, o, none⟩) dl dc)) (hy : ev env y = some (true, .slice sa sl sc)) (ht : fits n (some t) = true)
    (hi : hp[i]? = some (OwnS (.slice (some ⟨B, 0, none⟩) N cp) E 1 (encR enc zs))) (hN : zs.length = N) (hlen : cs.length = min sl dl) (hfit : o + cs.length ≤ zs.length)
    (hsrc : ∀ w S fp sp, St w S fp ps hp → w.heap[B]? = some (.cells (zs.map enc ++ sp).toArray E (0, 0)) → ∃ sb : Addr, sa = some sb ∧ ∀ j c, cs[j]? = some c → w.cell? (sb.add j) = some (enc c))
    (zs' : List α) (hz' : zs.take o ++ cs ++ zs.drop (o + cs.length) = zs') (m : Int) (hm : m = cs.length)
    (hK : K ⟨(t, true, .int .i64 m) :: env, ps, hp.set i (OwnS (.slice (some ⟨B, 0, none⟩) N cp) E 1 (encR enc zs'))⟩) :
    Eff P n ⟨some t, .call ⟨.builtin .copy, #[x, y], #[T, T2]⟩, ty, pos, af, gd⟩ ⟨env, ps, hp⟩ false K := .change i hi fun w S fp a hst he hn hR => by
  subst hN
  have h1 := he.val hx rfl
  have h2 := he.val hy rfl
  obtain ⟨hT, it, hit, _, hsz, _⟩ := elB_spec hel
  rcases own_row hR with ⟨hv, _⟩ | ⟨b, cap, sp, hv, hb, hcap, hcm, hF, hH⟩
  · simp at hv
  · obtain ⟨rfl, rfl⟩ : B = b ∧ cp = cap := by simpa using hv
    obtain ⟨sb, rfl, hcell⟩ := hsrc w S fp sp hst hb
    have hlz : zs'.length = zs.length := by rw [← hz']; simp; omega
    have hrun : (Builtin.copy_ #[T, T2] ty #[.slice (some ⟨B, o, none⟩) dl dc, .slice (some sb) sl sc]).run P w = .ok (goInt cs.length) (w.setRow B (zs'.map enc ++ sp).toArray) := by
      have := run_copy_row (P := P) w T T2 ty E B o dl dc sb sl sc _ E (cs.map enc) hT (by rw [hit]; exact congrArg some hsz) hb (by simpa using hlen)
        (fun j v hj => by
          rw [List.getElem?_map, Option.map_eq_some_iff] at hj
          obtain ⟨c, hc, rfl⟩ := hj
          exact hcell j c hc)
        (by simp; omega) (fun v hv => by obtain ⟨c, _, rfl⟩ := List.mem_map.1 hv; exact hone c)
      rw [this, List.length_map]
      congr 3
      rw [← hz']
      simp only [List.map_append, List.map_take, List.map_drop]
      rw [List.take_append_of_le_length (by simp; omega), List.drop_append_of_le_length (by simp; omega)]
      simp
    have : (execOp a.eval ⟨some t, .call ⟨.builtin .copy, #[x, y], #[T, T2]⟩, ty, pos, af, gd⟩).run P w = .ok (.value (.int .i64 m)) (w.setRow B (zs'.map enc ++ sp).toArray) := by
      show ((Builtin.copy_ #[T, T2] ty (#[x, y].map a.eval)).bind fun r => Sem.pure (Next.value r)).run P w = _
      have hargs : #[x, y].map a.eval = #[.slice (some ⟨B, o, none⟩) dl dc, .slice (some sb) sl sc] := by simp [h1, h2]
      rw [hargs, Sem.run_bind', hrun, hm]; rfl
    rw [this]
    have hbS : ¬ S B := (hst.lt i (List.getElem?_eq_some_iff.1 hi).1 B ((hF B).2 rfl)).2
    refine ⟨OwnS _ E 1 (encR enc zs'), _, hK, rfl, rfl, he.put (g := true) (by rw [hn]; simpa [fits] using ht) _, ?_, rfl, rfl, rfl, by simp [World.setRow], fun b' hb' hne => setRow_other _ _ _ _ (fun h => hne ((hF b').2 h))⟩
    refine .inr ⟨B, cp, by rw [encR_len, hlz], ⟨zs'.map enc, sp, setRow_heap _ _ _ _ _ _ hb, ?_, by rw [Nat.mul_one, ← hcap, List.length_append, List.length_map, hlz], by rw [encR_len, hlz]; omega, hcm⟩, hF⟩
    refine ⟨by simp [encR], fun i r hi => ?_, fun u hu => ?_, fun i j r d h1 h2 => ?_⟩
    · simp only [encR, List.getElem?_map, Option.map_eq_some_iff] at hi
      obtain ⟨x, _, rfl⟩ := hi; rfl
    · obtain ⟨x, _, rfl⟩ := List.mem_map.1 hu; exact hone x
    · simp only [encR, List.getElem?_map, Option.map_eq_some_iff] at h1
      obtain ⟨x, hx, rfl⟩ := h1
      cases j with
      | zero =>
        simp only [List.getElem?_cons_zero, Option.some.injEq] at h2
        subst h2
        exact ⟨enc x, by simp [hx], .v _⟩
      | succ j => simp at h2
/-- the source is shared -/
theorem e_copyS {t : Nat} {x y : Operand} {T T2 E : TypeId} {B N o dl dc cp sl sc : Nat} {sa : Option Addr} {zs xs : List α} (i : Nat) (hel : elB P T E 1 = true) (hone : ∀ x : α, (enc x).oneCell' = true)
    (hx : ev env x = some (true, .slice (some ⟨B, o, none⟩) dl dc)) (hy : ev env y = some (true, .slice sa sl sc)) (ht : fits n (some t) = true)
    (hi : hp[i]? = some (OwnS (.slice (some ⟨B, 0, none⟩) N cp) E 1 (encR enc zs))) (hN : zs.length = N) (hs : Sh (.slice sa sl sc) (.sl (encR enc xs)) ∈ ps) (h0 : xs ≠ []) (hle : xs.length ≤ dl) (hfit : o + xs.length ≤ zs.length)
    (zs' : List α) (hz' : zs.take o ++ xs ++ zs.drop (o + xs.length) = zs') (hsl : sl = xs.length)
    (hK : K ⟨(t, true, .int .i64 xs.length) :: env, ps, hp.set i (OwnS (.slice (some ⟨B, 0, none⟩) N cp) E 1 (encR enc zs'))⟩) :
    Eff P n ⟨some t, .call ⟨.builtin .copy, #[x, y], #[T, T2]⟩, ty, pos, af, gd⟩ ⟨env, ps, hp⟩ false K := by
  refine e_copy (cs := xs) i hel hone hx hy ht hi hN (by rw [hsl]; omega) hfit (fun w S fp sp hst _ => ?_) zs' hz' _ rfl hK
  have hrep := hst.per _ hs
  generalize hrows : encR enc xs = rows at hrep
  cases hrep with
  | e a c hc => simp [encR] at hrows; exact (h0 hrows).elim
  | sl b o c sz _ us hb hn' hc hrl hcell hd =>
      subst hrows
      have hg : ∀ (j : Nat) c, xs[j]? = some c → (encR enc xs)[j]? = some [D.v (enc c)] := fun j c hj => by simp [encR, hj]
      have hsz : sz = 1 := by
        obtain ⟨c0, hc0⟩ : ∃ c, xs[0]? = some c := ⟨_, List.getElem?_eq_getElem (List.length_pos_iff.2 h0)⟩
        have := hrl 0 _ (hg 0 c0 hc0); simpa using this.symm
      subst hsz
      refine ⟨_, rfl, fun j c hj => ?_⟩
      have h1 := (hcell j 0 _ _ (hg j c hj) rfl).1
      rw [repD_v (hd j 0 _ _ (hg j c hj) rfl), Nat.mul_one, Nat.add_zero] at h1
      rw [add_at]; exact h1
/-- the source is the beginning of the slice itself -/
theorem e_copyO {t : Nat} {x y : Operand} {T T2 E : TypeId} {B N o dl dc cp sl sc : Nat} {zs : List α} (i : Nat) (hel : elB P T E 1 = true) (hone : ∀ x : α, (enc x).oneCell' = true)
    (hx : ev env x = some (true, .slice (some ⟨B, o, none⟩) dl dc)) (hy : ev env y = some (true, .slice (some ⟨B, 0, none⟩) sl sc)) (ht : fits n (some t) = true)
    (hi : hp[i]? = some (OwnS (.slice (some ⟨B, 0, none⟩) N cp) E 1 (encR enc zs))) (hN : zs.length = N) (k : Nat) (hk : k = min sl dl) (hfit : o + k ≤ zs.length)
    (zs' : List α) (hz' : zs.take o ++ zs.take k ++ zs.drop (o + k) = zs')
    (hK : K ⟨(t, true, .int .i64 k) :: env, ps, hp.set i (OwnS (.slice (some ⟨B, 0, none⟩) N cp) E 1 (encR enc zs'))⟩) :
    Eff P n ⟨some t, .call ⟨.builtin .copy, #[x, y], #[T, T2]⟩, ty, pos, af, gd⟩ ⟨env, ps, hp⟩ false K := by
  have hl : (zs.take k).length = k := by rw [List.length_take]; omega
  refine e_copy (cs := zs.take k) i hel hone hx hy ht hi hN (by rw [hl, hk]) (by rw [hl]; exact hfit) (fun w S fp sp hst hb => ⟨_, rfl, fun j c hj => ?_⟩) zs' (by rw [hl]; exact hz') k (by rw [hl]) hK
  have hj' : j < zs.length := by
    have := (List.getElem?_eq_some_iff.1 hj).1
    rw [hl] at this; omega
  rw [add_at, Nat.zero_add, cell_box hb, List.getElem?_append_left (by simpa using hj'), List.getElem?_map]
  rw [List.getElem?_take] at hj
  split at hj
  · rw [hj]; rfl
  · cases hj
end
end Go.Sy
namespace Go.Proofs
open Go.Shelf
def Try.lays212_ren : Go.Shelf.Ren := ⟨fun | 212 => 55 | 263 => 58 | 264 => 59 | n => n, fun | 46 => 117 | 51 => 122 | 146 => 123 | 53 => 125 | 148 => 126 | n => n, fun | n => n⟩
theorem Try.lays212 : Go.Proofs.Lays.n212 Try.prog Try.lays212_ren := {
  mixed := by kernel_rfl
  f212 := Try.func55.trans (congrArg some (by kernel_rfl))
  f263 := Try.func58.trans (congrArg some (by kernel_rfl))
  f264 := Try.func59.trans (congrArg some (by kernel_rfl))
  t46 := Try.underlying117
  a46 := Try.isAgg117
  z46 := Try.sizeOf117
  v46 := Try.zeroValue117
  t51 := Try.underlying122
  a51 := Try.isAgg122
  z51 := Try.sizeOf122
  v51 := Try.zeroValue122
  t53 := Try.underlying125
  a53 := Try.isAgg125
  z53 := Try.sizeOf125
  v53 := Try.zeroValue125
  t146 := Try.underlying123
  a146 := Try.isAgg123
  z146 := Try.sizeOf123
  v146 := Try.zeroValue123
  t148 := Try.underlying126
  a148 := Try.isAgg126
  z148 := Try.sizeOf126
  v148 := Try.zeroValue126 }
end Go.Proofs
namespace Go.Proofs.Ytnbochlghdkfkaa
open Go.RowKit Go.Lp Go.Sy
open Go.Proofs.Try
attribute [local irreducible] aL aB awp aC fwp
theorem mul1 (N : Nat) (hN : N ≤ 1000000) (w : World) : Calls Try.prog 55 #[.int .u64 (IntKind.u64.wrap 1), .int .u64 (IntKind.u64.wrap (N : Int))] w fun e w' => e = .returned (.tuple #[.int .u64 0, .int .u64 N]) ∧ Below w.heap.size w w' := by
  have h := Any.bits_Mul Try.lays212 1 N (by omega) (by omega) w
  have e1 : IntKind.u64.wrap 1 = 1 := by decide
  have e2 : IntKind.u64.wrap (N : Int) = N := by rw [IntKind.wrap_u64]; omega
  rw [e1, e2]
  refine h.mono fun e w' ⟨h1, h2⟩ => ⟨?_, by rw [h2]; exact Below.refl _ _⟩
  rw [h1]
  have e3 : 1 * N / 18446744073709551616 = 0 := by omega
  have e4 : 1 * N % 18446744073709551616 = N := by omega
  rw [e3, e4]; rfl
theorem wrapN (N : Nat) (hN : N ≤ 1000000) : IntKind.i64.wrap (N : Int) = N := by rw [IntKind.wrap_i64]; omega
def part (N k : Nat) (v : Int) : List Int := List.replicate k v ++ List.replicate (N - k) 0
theorem part_len {N k : Nat} (v : Int) (h : k ≤ N) : (part N k v).length = N := by simp [part]; omega
theorem part_step {N k j : Nat} (v : Int) (hj : j ≤ k) (h : k + j ≤ N) : (part N k v).take k ++ (part N k v).take j ++ (part N k v).drop (k + j) = part N (k + j) v := by
  unfold part
  rw [List.take_append_of_le_length (by simp), List.take_append_of_le_length (by simpa using hj), List.drop_append, List.drop_of_length_le (by simp)]
  simp only [List.take_replicate, List.drop_replicate, List.length_replicate, List.nil_append, Nat.min_self, Nat.min_eq_left hj]
  rw [List.replicate_append_replicate]
  congr 2; omega
theorem con_repeat0 {ad : Option Addr} {c : Nat} (v : Int) : Con Try.prog 49 [.slice ad 1 c, .int .i64 ((0 : Nat) : Int)] [Sh (.slice ad 1 c) (.sl (encR encI [v]))] [] fun r ps hp => ps = [] ∧ hp = [OwnS r 3 1 (encR encI [])] := by
  refine Con.enter Try.func49 rfl (by simp [Try.ntmps49]) ?_
  show awp _ _ _ _ ⟨[(0, true, _), (1, true, _)], _, _⟩
  refine awp_seq (awp_region (aL_s true rfl rfl (fun _ => q_assign rfl) (aL_nil (thn_n (awp_seq (awp_seq (awp_region ?_)))))))
  refine aL_s true rfl rfl (fun _ => q_move rfl) (aL_s true rfl rfl (fun _ => q_lss rfl rfl) (aL_nil (thn_n ?_)))
  refine awp_cond _ rfl (fun h1 => ?_) (fun h1 => ?_)
  ·skip
   exact absurd h1 (by simp)
  ·skip
   refine awp_skip (thn_n (awp_seq (awp_region (aL_s true rfl rfl (fun _ => q_move rfl) (aL_s true rfl rfl (fun _ => q_lenS Try.underlying37 rfl) ?_)))))
   refine aL_s true rfl rfl (fun _ => q_convI (by kernel_rfl) Try.underlying117 rfl) ?_
   refine aL_s true rfl rfl (fun _ => q_move rfl) ?_
   refine aL_s true rfl rfl (fun _ => q_convI (by kernel_rfl) Try.underlying117 rfl) ?_
   refine aL_s true rfl rfl (fun _ => q_call (by kernel_rfl) rfl (fun w S fp hst => mul1 0 (by omega) w)) ?_
   refine aL_s true rfl rfl (fun _ => q_move rfl) (aL_s true rfl rfl (fun _ => q_extract rfl rfl) (aL_s true rfl rfl (fun _ => q_extract rfl rfl) (aL_s true rfl rfl (fun _ => q_assign rfl) (aL_s true rfl rfl (fun _ => q_assign rfl) (aL_nil (thn_n (awp_seq ?_)))))))
   refine awp_seq (awp_region (aL_s true rfl rfl (fun _ => q_move rfl) (aL_s true rfl rfl (fun _ => q_gtr rfl rfl) (aL_s true rfl rfl (fun _ => q_move rfl) (aL_s _ rfl rfl (fun hc => q_move rfl) (aL_s _ rfl rfl (fun hc => q_gtr (ev_yes rfl hc) rfl) (aL_s true rfl rfl (fun _ => q_or rfl rfl (fun h => gf rfl h)) ?_)))))))
   refine aL_nil (thn_n ?_)
   refine awp_cond _ rfl (fun h2 => ?_) (fun h2 => ?_)
   ·skip
    exact absurd h2 (by decide)
   ·skip
    refine awp_skip (thn_n (awp_seq (awp_region (aL_s true rfl rfl (fun _ => q_move rfl) ?_))))
    refine aL_s true rfl rfl (fun _ => q_convI (by kernel_rfl) Try.underlying3 rfl) ?_
    refine aL_eff (q := true) rfl (w_make (m := 0) (zs := [.int .i64 0]) el37 (by kernel_rfl) rfl (by decide) (ev_int rfl (rfl)) (ev_int rfl (rfl)) (by omega) rfl (fun v6_2 => ?_))
    refine aL_hp (by (try simp only [nM, nN]); rfl) ?_
    refine aL_s true rfl rfl (fun _ => q_assign rfl) (aL_nil (thn_n (awp_seq (awp_region (aL_s true rfl rfl (fun _ => q_move rfl) (aL_s true rfl rfl (fun _ => q_move rfl) (aL_s true rfl rfl (fun _ => q_copy0 el37 rfl rfl) ?_)))))))
    refine aL_s true rfl rfl (fun _ => q_assign rfl) (aL_nil (thn_n (awp_seq (awp_block (awp_loopK [7, 8] [] [0] (fun (k : Nat) s => s = ⟨[(7, true, .slice v6_2 0 0), (8, true, .int .i64 0)], [], [OwnS (.slice v6_2 0 0) 3 1 (encR encI [])]⟩) (fun k => k) rfl (⟨0, rfl⟩) ?_)))))
    rintro k s rfl
    refine awp_seq (awp_seq (awp_region (aL_s true rfl rfl (fun _ => q_move rfl) (aL_s true rfl rfl (fun _ => q_move rfl) (aL_s true rfl rfl (fun _ => q_lenO 0 Try.underlying37 rfl rfl) (aL_s true rfl rfl (fun _ => q_lss rfl rfl) (aL_nil ?_)))))))
    refine thn_n ?_
    refine awp_cond _ rfl (fun h3 => ?_) (fun h3 => ?_)
    ·skip
     exact absurd h3 (by decide)
    ·skip
     refine awp_exit (thn_e (thn_e (blk_hit (thn_n (awp_seq (awp_region (aL_s true rfl rfl (fun _ => q_move rfl) ?_)))))))
     refine aL_s true rfl rfl (fun _ => q_assign rfl) (aL_nil (thn_n (awp_ret ?_)))
     refine fin1 [] [0] rfl Try.results49 rfl ?_ (.inr rfl)
     exact ⟨rfl, rfl⟩
theorem con_repeat1 {ad : Option Addr} {c : Nat} (v : Int) (N : Nat) (hN : N ≤ 1000000) (h0 : 0 < N) : Con Try.prog 49 [.slice ad 1 c, .int .i64 N] [Sh (.slice ad 1 c) (.sl (encR encI [v]))] [] fun r ps hp => ps = [] ∧ hp = [OwnS r 3 1 (encR encI (List.replicate N v))] := by
  refine Con.enter Try.func49 rfl (by simp [Try.ntmps49]) ?_
  show awp _ _ _ _ ⟨[(0, true, _), (1, true, _)], _, _⟩
  refine awp_seq (awp_region (aL_s true rfl rfl (fun _ => q_assign rfl) (aL_nil (thn_n (awp_seq (awp_seq (awp_region ?_)))))))
  refine aL_s true rfl rfl (fun _ => q_move rfl) (aL_s true rfl rfl (fun _ => q_lss rfl rfl) (aL_nil (thn_n ?_)))
  refine awp_cond _ rfl (fun h1 => ?_) (fun h1 => ?_)
  ·skip
   exact absurd h1 (by simp)
  ·skip
   refine awp_skip (thn_n (awp_seq (awp_region (aL_s true rfl rfl (fun _ => q_move rfl) (aL_s true rfl rfl (fun _ => q_lenS Try.underlying37 rfl) ?_)))))
   refine aL_s true rfl rfl (fun _ => q_convI (by kernel_rfl) Try.underlying117 rfl) ?_
   refine aL_s true rfl rfl (fun _ => q_move rfl) ?_
   refine aL_s true rfl rfl (fun _ => q_convI (by kernel_rfl) Try.underlying117 rfl) ?_
   refine aL_s true rfl rfl (fun _ => q_call (by kernel_rfl) rfl (fun w S fp hst => mul1 N hN w)) ?_
   refine aL_s true rfl rfl (fun _ => q_move rfl) (aL_s true rfl rfl (fun _ => q_extract rfl rfl) (aL_s true rfl rfl (fun _ => q_extract rfl rfl) (aL_s true rfl rfl (fun _ => q_assign rfl) (aL_s true rfl rfl (fun _ => q_assign rfl) (aL_nil (thn_n (awp_seq ?_)))))))
   refine awp_seq (awp_region (aL_s true rfl rfl (fun _ => q_move rfl) (aL_s true rfl rfl (fun _ => q_gtr rfl rfl) (aL_s true rfl rfl (fun _ => q_move rfl) (aL_s _ rfl rfl (fun hc => q_move rfl) (aL_s _ rfl rfl (fun hc => q_gtr (ev_yes rfl hc) rfl) (aL_s true rfl rfl (fun _ => q_or rfl rfl (fun h => gf rfl h)) ?_)))))))
   refine aL_nil (thn_n ?_)
   refine awp_cond _ rfl (fun h2 => ?_) (fun h2 => ?_)
   ·skip
    exact absurd h2 (by simp; omega)
   ·skip
    refine awp_skip (thn_n (awp_seq ?_))
    have hw := wrapN N hN
    refine awp_region (aL_s true rfl rfl (fun _ => q_move rfl) ?_)
    refine aL_s true rfl rfl (fun _ => q_convI (by kernel_rfl) Try.underlying3 rfl) ?_
    refine aL_eff (q := true) rfl (w_make (m := N) (zs := [.int .i64 0]) el37 (by kernel_rfl) rfl (by decide) (ev_int rfl (hw)) (ev_int rfl (hw)) (by omega) rfl (fun v6_2 => ?_))
    refine aL_hp (by (try simp only [nM, nN]); rfl) ?_
    refine aL_s true rfl rfl (fun _ => q_assign rfl) (aL_nil (thn_n (awp_seq ?_)))
    refine aw_hp (hp' := [OwnS (.slice v6_2 N N) 3 1 (encR encI (List.replicate N 0))]) (by simp [encR]) ?_
    refine awp_formO 0 rfl (by simp [encR]; omega) (fun B cp hvo => ?_)
    obtain ⟨rfl, rfl⟩ : v6_2 = some ⟨B, 0, none⟩ ∧ N = cp := by simp at hvo; exact ⟨hvo.1, hvo.2.2⟩
    refine awp_region (aL_s true rfl rfl (fun _ => q_move rfl) (aL_s true rfl rfl (fun _ => q_move rfl) ?_))
    refine aL_eff (q := false) rfl (e_copyS (zs := List.replicate N 0) (xs := [v]) 0 el37 (fun _ => rfl) rfl rfl rfl rfl (by simp) (psAt 0 rfl) (by simp) (by simp; omega) (by simp; omega) (part N 1 v) (by simp [part]) rfl ?_)
    refine aL_s true rfl rfl (fun _ => q_assign rfl) (aL_nil (thn_n (awp_seq (awp_block ?_))))
    refine awp_loopK [7, 8] [] [0] (fun (k : Nat) s => (1 ≤ k ∧ k ≤ N) ∧ s = ⟨[(7, true, .slice (some ⟨B, 0, none⟩) N N), (8, true, .int .i64 k)], [], [OwnS (.slice (some ⟨B, 0, none⟩) N N) 3 1 (encR encI (part N k v))]⟩) (fun k => N - k) rfl (⟨1, ⟨by omega, by omega⟩, rfl⟩) ?_
    rintro k s ⟨⟨hk1, hk2⟩, rfl⟩
    refine awp_seq (awp_seq (awp_region (aL_s true rfl rfl (fun _ => q_move rfl) (aL_s true rfl rfl (fun _ => q_move rfl) (aL_s true rfl rfl (fun _ => q_lenS Try.underlying37 rfl) (aL_s true rfl rfl (fun _ => q_lss rfl rfl) (aL_nil ?_)))))))
    refine thn_n ?_
    refine awp_cond _ rfl (fun h3 => ?_) (fun h3 => ?_)
    ·skip
     have hkN : k < N := by simp at h3; omega
     obtain ⟨j, hj⟩ : ∃ j, j = min k (N - k) := ⟨_, rfl⟩
     refine awp_skip (thn_n (awp_block ?_))
     refine awp_drawn [7] (by kernel_rfl) ?_
     show aB _ _ _ _ _ 10 #[false, false, false, false, false, false, false, false, false, false] _
     refine aB_p 0 rfl (by kernel_rfl) true rfl rfl (fun _ => q_move rfl) ?_
     refine aB_hp (by simp only [nO, nK, nL]; rfl) rfl ?_
     refine aB_s 1 rfl (by kernel_rfl) true rfl rfl (fun _ => q_move rfl) ?_
     refine aB_hp (by simp only [nO, nK, nL]; rfl) rfl ?_
     refine aB_s 2 rfl (by kernel_rfl) true rfl rfl (fun _ => q_move rfl) ?_
     refine aB_hp (by simp only [nO, nK, nL]; rfl) rfl ?_
     refine aB_s 3 rfl (by kernel_rfl) true rfl rfl (fun _ => q_sliceLV k (N - k) k el37 rfl rfl rfl hkN (Nat.le_refl _) rfl (by omega)) ?_
     refine aB_hp (by simp only [nO, nK, nL]; rfl) rfl ?_
     refine aB_s 4 rfl (by kernel_rfl) true rfl rfl (fun _ => q_move rfl) ?_
     refine aB_hp (by simp only [nO, nK, nL]; rfl) rfl ?_
     refine aB_s 5 rfl (by kernel_rfl) true rfl rfl (fun _ => q_move rfl) ?_
     refine aB_hp (by simp only [nO, nK, nL]; rfl) rfl ?_
     refine aB_s 6 rfl (by kernel_rfl) true rfl rfl (fun _ => q_sliceHV k el37 rfl rfl rfl (by omega) (Nat.le_refl _)) ?_
     refine aB_hp (by simp only [nO, nK, nL]; rfl) rfl ?_
     refine aB_eff (q := false) 7 rfl (by kernel_rfl) rfl rfl (e_copyO (zs := part N k v) 0 el37 (fun _ => rfl) rfl rfl rfl rfl (part_len v hk2) j hj (by rw [part_len v hk2]; omega) (part N (k + j) v) (part_step v (by omega) (by omega)) ?_)
     refine aB_st (by simp only [nO, nK, nL]; rfl) (by (try simp only [nM, nN]); rfl) (by (try simp only [putB, place, Nat.reduceBEq, nA, if_true, if_false, reduceIte, nB, nC, nD, nE, nF, nG, nH, nI, Nat.reduceAdd, nJ, beq_self_eq_true, nK, nL, nM, nN]); rfl) ?_
     refine aB_s 8 rfl (by kernel_rfl) true rfl rfl (fun _ => q_addi rfl rfl (by omega)) ?_
     refine aB_hp (by simp only [nO, nK, nL]; rfl) rfl ?_
     refine aB_s 9 rfl (by kernel_rfl) true rfl rfl (fun _ => q_assign rfl) ?_
     refine aB_hp (by simp only [nO, nK, nL]; rfl) rfl ?_
     refine aB_nil (by kernel_rfl) ?_
     refine blk_n (thn_n ?_)
     refine ⟨[7, 8], [], [0], rfl, ?_⟩
     refine ⟨k + j, ⟨⟨by omega, by omega⟩, ?_⟩, by omega⟩
     rw [Int.natCast_add]; rfl
    ·skip
     have hkN : k = N := by simp at h3; omega
     subst hkN
     rw [show part k k v = List.replicate k v by simp [part]]
     refine awp_exit (thn_e (thn_e (blk_hit (thn_n (awp_seq (awp_region (aL_s true rfl rfl (fun _ => q_move rfl) ?_)))))))
     refine aL_s true rfl rfl (fun _ => q_assign rfl) (aL_nil (thn_n (awp_ret ?_)))
     refine fin1 [] [0] rfl Try.results49 rfl ?_ (.inr rfl)
     exact ⟨rfl, rfl⟩
end Go.Proofs.Ytnbochlghdkfkaa
namespace Go.Sy
open Go.RowKit Go.Lp
section
variable {α : Type} {enc : α → Value}
def mkSl (v : Value) (x : List α) : Sl α := match v with
  | .slice ad _ cap => ⟨ad, cap, x⟩
  | _ => ⟨none, 0, x⟩
theorem mkSl_l (v : Value) (x : List α) : (mkSl v x).l = x := by unfold mkSl; split <;> rfl
theorem mkSl_val {ad : Option Addr} {x : List α} {cap : Nat} : (mkSl (.slice ad x.length cap) x).val = .slice ad x.length cap := rfl
theorem mkSls_l : ∀ (vs : List Value) (l : List (List α)), vs.length = l.length → (List.zipWith mkSl vs l).map (·.l) = l
  | [], [], _ => rfl
  | [], _ :: _, h => by cases h
  | _ :: _, [], h => by cases h
  | v :: vs, x :: l, h => by rw [List.zipWith_cons_cons, List.map_cons, mkSl_l, mkSls_l vs l (by simpa using h)]
theorem mkSls_val : ∀ (vs : List Value) (l : List (List α)), vs.length = l.length → (∀ (k : Nat) (v : Value) (x : List α), vs[k]? = some v → l[k]? = some x → (mkSl v x).val = v) → (List.zipWith mkSl vs l).map Sl.val = vs
  | [], [], _, _ => rfl
  | [], _ :: _, h, _ => by cases h
  | _ :: _, [], h, _ => by cases h
  | v :: vs, x :: l, h, hk => by
    rw [List.zipWith_cons_cons, List.map_cons, hk 0 v x rfl rfl, mkSls_val vs l (by simpa using h) (fun k v x h1 h2 => hk (k + 1) v x (by simpa using h1) (by simpa using h2))]
variable {P : Program} {n : Fr} {env : Env} {ps : List Per} {hp : List Res} {c : Code} {Q : Exit → Sta → Prop} {vo : Value} {T E : TypeId} {l : List (List α)}

theorem own_val {w : World} {S F : Blks} {v : Value} {sz : Nat} {rows : List (List D)} (h : (OwnS v E sz rows).holds w S F) : ∃ ad cap, v = .slice ad rows.length cap := by
  rcases h with ⟨h1, h2, _⟩ | ⟨b, cap, h1, _⟩
  · subst h2; exact ⟨none, 0, h1⟩
  · exact ⟨_, cap, h1⟩
theorem awp_nestShareF (i : Nat) (hi : hp[i]? = some (Nest vo T E enc l))
    (h : ∀ s : Sl (Sl α), vo = s.val → s.l.map (·.l) = l → awp P n c Q ⟨env, AllF (ShF fun x => [.v (enc x)]) s.l :: ShF (fun t : Sl α => [.v t.val]) s :: ps, hp.set i emp⟩) : awp P n c Q ⟨env, ps, hp⟩ := by
  have hil := (List.getElem?_eq_some_iff.1 hi).1
  refine awp_openE (β := {s : Sl (Sl α) // vo = s.val ∧ s.l.map (·.l) = l}) i (fun p => Star (OwnS vo T 1 (vrows (p.1.l.map Sl.val))) (Stars (inner E enc (p.1.l.map Sl.val) l))) hi (fun w S F hh => ?_) fun ⟨s, h1, h2⟩ => ?_
  · obtain ⟨vs, hl, hs⟩ := hh
    obtain ⟨G, H, hG, hH, hd, he⟩ := hs
    have hval : ∀ (k : Nat) (v : Value) (x : List α), vs[k]? = some v → l[k]? = some x → (mkSl v x).val = v := fun k v x hv hx => by
      obtain ⟨G2, _, ho⟩ := stars_all _ _ hH k _ (inner_get (enc := enc) (E := E) hv hx)
      obtain ⟨ad, cap, rfl⟩ := own_val ho
      rw [encR_len]; rfl
    obtain ⟨ad, cap, hvo⟩ := own_val hG
    have hzl : (List.zipWith mkSl vs l).length = vs.length := by simp [hl]
    refine ⟨⟨⟨ad, cap, List.zipWith mkSl vs l⟩, ?_, mkSls_l vs l hl⟩, ?_⟩
    · rw [hvo]
      show _ = Value.slice ad (List.zipWith mkSl vs l).length cap
      rw [hzl, vrows_len]
    · show (Star (OwnS vo T 1 (vrows ((List.zipWith mkSl vs l).map Sl.val))) (Stars (inner E enc ((List.zipWith mkSl vs l).map Sl.val) l))).holds w S F
      rw [mkSls_val vs l hl hval]
      exact ⟨G, H, hG, hH, hd, he⟩
  · dsimp only
    have hsh := awp_shareR (P := P) (n := n) (env := env) (ps := ps) (hp := hp.set i (Star (OwnS vo T 1 (vrows (s.l.map Sl.val))) (Stars (inner E enc (s.l.map Sl.val) l)))) (c := c) (Q := Q) i
      (AndP (ShF (fun t : Sl α => [.v t.val]) s) (AllF (ShF fun x => [.v (enc x)]) s.l)) (by rw [List.getElem?_set_self hil]) (fun w S F hh => ?_) ?_
    · exact hsh
    · obtain ⟨G, H, hG, hH, _, e⟩ := hh
      have hS : ∀ b, (S b ∨ G b) → (S b ∨ F b) := fun b h => h.imp id fun g => (e b).2 (.inl g)
      refine ⟨?_, fun t ht => ?_⟩
      · have := (own_rep hG).mono (fun _ _ => rfl) hS
        rw [h1] at this
        show RepD w _ _ (.sl (s.l.map fun t : Sl α => [.v t.val]))
        have e2 : vrows (s.l.map Sl.val) = s.l.map fun t : Sl α => [D.v t.val] := by simp [vrows]
        rw [e2] at this
        exact this
      · obtain ⟨k, hk⟩ := List.mem_iff_getElem?.1 ht
        have hlk : l[k]? = some t.l := by rw [← h2, List.getElem?_map, hk]; rfl
        obtain ⟨G2, hs, ho⟩ := stars_all _ _ hH k _ (inner_get (enc := enc) (E := E) (v := t.val) (by rw [List.getElem?_map, hk]; rfl) hlk)
        exact (own_rep ho).mono (fun _ _ => rfl) fun b h => h.imp id fun g => (e b).2 (.inr (hs b g))
    · rw [List.set_set]
      refine awp_st (ps' := AllF (ShF fun x => [.v (enc x)]) s.l :: ShF (fun t : Sl α => [.v t.val]) s :: ps) (hp' := hp.set i emp) (fun w S fp hst => ⟨fp, ⟨fun q hq => ?_, hst.res, hst.lt, hst.dj, hst.slt⟩, fun _ h => h⟩) (h s h1 h2)
      have h0 := hst.per _ List.mem_cons_self
      rcases List.mem_cons.1 hq with rfl | hq
      · exact h0.2
      · rcases List.mem_cons.1 hq with rfl | hq
        · exact h0.1
        · exact hst.per _ (List.mem_cons_of_mem _ hq)
end
end Go.Sy
namespace Go.Lv
open Go.Sy
abbrev BS := List Int × List Int
def rootStep (N : Nat) (s : BS) (v : Int) : BS := if 0 ≤ v ∧ v < N then (s.1.set v.toNat v, s.2 ++ [v]) else s
def bstart (N : Nat) (rs : List Int) : BS := rs.foldl (rootStep N) (List.replicate N (-1), [])
def visit (u : Int) (s : BS) (x : Int) : BS := if elt s.1 x < 0 then (s.1.set x.toNat u, s.2 ++ [x]) else s
def bstep (out : List (List Int)) (s : BS) (k : Nat) : BS := match s.2[k]? with
  | none => s
  | some u => (elt out u).foldl (visit u) s
def bfs (out : List (List Int)) (s : BS) : Nat → BS
  | 0 => s
  | k + 1 => bstep out (bfs out s k) k
def negs (b : List Int) : Nat := b.countP (fun z => decide (z < 0))
theorem elt_set {b : List Int} {x y u : Int} (h0 : 0 ≤ x) (h1 : x < b.length) (hy : 0 ≤ y) : elt (b.set x.toNat u) y = if x = y then u else elt b y := by
  unfold elt
  rw [List.getD_eq_getElem?_getD, List.getD_eq_getElem?_getD, List.getElem?_set]
  have hx : x.toNat < b.length := by omega
  by_cases h : x = y
  · subst h; rw [if_pos rfl, if_pos hx, if_pos rfl]; rfl
  · rw [if_neg (by omega), if_neg h]
theorem negs_set {b : List Int} {x u : Int} (h0 : 0 ≤ x) (h1 : x < b.length) (hx : elt b x < 0) (hu : 0 ≤ u) : negs (b.set x.toNat u) + 1 = negs b := by
  have hlt : x.toNat < b.length := by omega
  have e : b[x.toNat] < 0 := by unfold elt at hx; rw [List.getD_eq_getElem?_getD, List.getElem?_eq_getElem hlt] at hx; exact hx
  unfold negs
  have hm : b[x.toNat] ∈ b := List.getElem_mem hlt
  have hpos : 0 < b.countP (fun z => decide (z < 0)) := List.countP_pos_iff.2 ⟨_, hm, by simpa using e⟩
  rw [List.countP_set hlt]
  rw [if_pos (by simpa using e), if_neg (by simpa using hu)]
  omega
/-- what holds of the lists all the while -/
structure BI (N M : Nat) (s : BS) : Prop where
  len : s.1.length = N
  mem : ∀ x ∈ s.2, 0 ≤ x ∧ x < N
  cnt : s.2.length + negs s.1 ≤ M
theorem BI.le {N M : Nat} {s : BS} (h : BI N M s) : s.2.length ≤ M := by have := h.cnt; omega
theorem rootStep_len {N : Nat} {s : BS} {v : Int} : (rootStep N s v).1.length = s.1.length ∧ (rootStep N s v).2.length ≤ s.2.length + 1 := by
  unfold rootStep; split <;> simp
theorem bstart_len (N : Nat) (rs : List Int) : (bstart N rs).1.length = N ∧ (bstart N rs).2.length ≤ rs.length := by
  have : ∀ (rs : List Int) (s : BS), (rs.foldl (rootStep N) s).1.length = s.1.length ∧ (rs.foldl (rootStep N) s).2.length ≤ s.2.length + rs.length := by
    intro rs
    induction rs with
    | nil => intro s; exact ⟨rfl, Nat.le_refl _⟩
    | cons v rs ih => intro s; obtain ⟨h1, h2⟩ := ih (rootStep N s v); obtain ⟨h3, h4⟩ := rootStep_len (N := N) (s := s) (v := v); rw [List.foldl_cons, List.length_cons]; exact ⟨by rw [h1, h3], by omega⟩
  have := this rs (List.replicate N (-1), [])
  unfold bstart; simpa using this
theorem bstart_mem (N : Nat) (rs : List Int) : ∀ x ∈ (bstart N rs).2, (0 ≤ x ∧ x < N) ∧ x ∈ rs := by
  have : ∀ (rs rs0 : List Int) (s : BS), (∀ x ∈ s.2, (0 ≤ x ∧ x < (N : Int)) ∧ x ∈ rs0) → ∀ x ∈ (rs.foldl (rootStep N) s).2, (0 ≤ x ∧ x < (N : Int)) ∧ (x ∈ rs0 ∨ x ∈ rs) := by
    intro rs
    induction rs with
    | nil => intro rs0 s h x hx; exact ⟨(h x hx).1, .inl (h x hx).2⟩
    | cons v rs ih =>
      intro rs0 s h x hx
      rw [List.foldl_cons] at hx
      have := ih (rs0 ++ [v]) (rootStep N s v) (fun y hy => by
        unfold rootStep at hy
        split at hy
        · rename_i hv
          rcases List.mem_append.1 hy with h1 | h1
          · exact ⟨(h y h1).1, List.mem_append_left _ (h y h1).2⟩
          · rw [List.mem_singleton.1 h1]; exact ⟨hv, by simp⟩
        · exact ⟨(h y hy).1, List.mem_append_left _ (h y hy).2⟩) x hx
      refine ⟨this.1, ?_⟩
      rcases this.2 with h1 | h1
      · rcases List.mem_append.1 h1 with h2 | h2
        · exact .inl h2
        · rw [List.mem_singleton.1 h2]; exact .inr List.mem_cons_self
      · exact .inr (List.mem_cons_of_mem _ h1)
  intro x hx
  have := this rs [] _ (fun _ h => by cases h) x hx
  exact ⟨this.1, this.2.elim (fun h => by cases h) id⟩
theorem bstart_snoc (N : Nat) (rs : List Int) {k : Nat} {v : Int} (h : rs[k]? = some v) : bstart N (rs.take (k + 1)) = rootStep N (bstart N (rs.take k)) v := by
  unfold bstart; rw [List.take_add_one, h, List.foldl_append]; rfl
theorem bstart_BI (N : Nat) (rs : List Int) : BI N (rs.length + N) (bstart N rs) where
  len := (bstart_len N rs).1
  mem x hx := (bstart_mem N rs x hx).1
  cnt := by
    have h1 := bstart_len N rs
    have h2 : negs (bstart N rs).1 ≤ (bstart N rs).1.length := List.countP_le_length
    omega
theorem visit_BI {N M : Nat} {s : BS} {u x : Int} (h : BI N M s) (hu : 0 ≤ u) (hx : 0 ≤ x ∧ x < N) : BI N M (visit u s x) := by
  unfold visit
  split
  · rename_i h0
    have hn := negs_set hx.1 (by rw [h.len]; exact hx.2) h0 hu
    refine ⟨by simpa using h.len, fun y hy => ?_, ?_⟩
    · rcases List.mem_append.1 hy with h1 | h1
      · exact h.mem y h1
      · rw [List.mem_singleton.1 h1]; exact hx
    · have := h.cnt
      rw [List.length_append, List.length_singleton]; dsimp only; omega
  · exact h
theorem visit_pre {s : BS} {u x : Int} : s.2 <+: (visit u s x).2 := by
  unfold visit; split
  · exact List.prefix_append _ _
  · exact List.prefix_refl _
theorem visits_BI {N M : Nat} {u : Int} (hu : 0 ≤ u) : ∀ (l : List Int) (s : BS), BI N M s → (∀ x ∈ l, 0 ≤ x ∧ x < N) → BI N M (l.foldl (visit u) s)
  | [], _, h, _ => h
  | x :: l, s, h, hl => visits_BI hu l _ (visit_BI h hu (hl x List.mem_cons_self)) fun y hy => hl y (List.mem_cons_of_mem _ hy)
theorem visits_pre {u : Int} : ∀ (l : List Int) (s : BS), s.2 <+: (l.foldl (visit u) s).2
  | [], _ => List.prefix_refl _
  | x :: l, s => List.IsPrefix.trans visit_pre (visits_pre l (visit u s x))
theorem visits_snoc {u : Int} (l : List Int) (s : BS) {k : Nat} {v : Int} (h : l[k]? = some v) : (l.take (k + 1)).foldl (visit u) s = visit u ((l.take k).foldl (visit u) s) v := by
  rw [List.take_add_one, h, List.foldl_append]; rfl
theorem pre_get {l l' : List Int} (h : l <+: l') {k : Nat} {u : Int} (hk : l[k]? = some u) : l'[k]? = some u := by
  obtain ⟨t, rfl⟩ := h
  rw [List.getElem?_append_left (List.getElem?_eq_some_iff.1 hk).1]; exact hk
/-- the arcs lead to nodes -/
def OutOk (N : Nat) (out : List (List Int)) : Prop := ∀ u : Int, ∀ x ∈ elt out u, 0 ≤ x ∧ x < N
theorem bfs_BI {N M : Nat} {out : List (List Int)} {s : BS} (ho : OutOk N out) (h : BI N M s) : ∀ k, BI N M (bfs out s k)
  | 0 => h
  | k + 1 => by
    have ih := bfs_BI ho h k
    unfold bfs bstep
    split
    · exact ih
    · rename_i u hu
      exact visits_BI (ih.mem u (List.mem_of_getElem? hu)).1 _ _ ih (ho u)
theorem bfs_stable {out : List (List Int)} {s : BS} {k : Nat} (h : (bfs out s k).2.length ≤ k) : ∀ j, bfs out s (k + j) = bfs out s k
  | 0 => rfl
  | j + 1 => by
    have ih := bfs_stable h j
    show bstep out (bfs out s (k + j)) (k + j) = _
    rw [ih]
    unfold bstep
    rw [List.getElem?_eq_none (by omega)]
def searchF (N : Nat) (out : List (List Int)) (rs : List Int) : List Int := (bfs out (bstart N rs) (rs.length + N)).1
theorem searchF_eq {N : Nat} {out : List (List Int)} {rs : List Int} {k : Nat} (ho : OutOk N out) (hk : k = (bfs out (bstart N rs) k).2.length) : (bfs out (bstart N rs) k).1 = searchF N out rs := by
  have hle := (bfs_BI ho (bstart_BI N rs) k).le
  obtain ⟨j, hj⟩ : ∃ j, rs.length + N = k + j := ⟨rs.length + N - k, by omega⟩
  unfold searchF
  rw [hj, bfs_stable (by omega)]
end Go.Lv
namespace Go.Sy
open Go.RowKit Go.Lp
theorem awp_formV {P : Program} {n : Fr} {env : Env} {ps : List Per} {hp : List Res} {c : Code} {Q : Exit → Sta → Prop} {v : Value} {E : TypeId} {sz : Nat} {rows : List (List D)} (i : Nat) (hi : hp[i]? = some (OwnS v E sz rows)) (h : ∀ ad cp, v = .slice ad rows.length cp → awp P n c Q ⟨env, ps, hp⟩) : awp P n c Q ⟨env, ps, hp⟩ :=
  awp_knowR (φ := ∃ ad cp, v = .slice ad rows.length cp) i hi (fun w S F hh => own_val hh) (fun ⟨ad, cp, e⟩ => h ad cp e)
theorem Con.ofOwn {P : Program} {f : FuncId} {args : List Value} {ps : List Per} {v : Value} {E : TypeId} {sz : Nat} {rows : List (List D)} {R : Value → List Per → List Res → Prop} (h : Con P f args (Sh v (.sl rows) :: ps) [] R) : Con P f args ps [OwnS v E sz rows] R := fun w S fp hst => by
  have h1 := st_share hst 0 rfl
  have h2 : St w (fun b => S b ∨ fp 0 b) (fun _ _ => False) (Sh v (.sl rows) :: ps) [] := ⟨h1.per, fun i R hi => by simp at hi, fun i hi => by simp at hi, fun i j hi => by simp at hi, h1.slt⟩
  have hE : Evo w S (tot fp 1) w (fun b => S b ∨ fp 0 b) := ⟨rfl, rfl, rfl, Nat.le_refl _, fun _ _ _ => rfl, fun _ h => .inl h, fun b hb => hb.elim .inl fun h => .inr (.inl ⟨0, Nat.zero_lt_one, h⟩)⟩
  have h0 : ∀ b, ¬ tot (fun _ _ => False) ([] : List Res).length b := fun b ⟨j, hj, _⟩ => by simp at hj
  exact (h w _ _ h2).mono fun e w' ⟨u, ps', hp', S', fp', he, hR, hst', hE', hb⟩ => ⟨u, ps', hp', S', fp', he, hR, hst', hE.trans hE' (fun b hb => (h0 b hb).elim), fun b hb' => (hb b hb').elim (fun h => (h0 b h).elim) .inr⟩
end Go.Sy
namespace Go.Proofs.Ytnbochlghdkfkaa
open Go.RowKit Go.Lp Go.Sy Go.Lv
open Go.Proofs.Try
attribute [local irreducible] aL aB awp aC fwp
theorem con_repeat {ad : Option Addr} {c : Nat} (v : Int) (N : Nat) (hN : N ≤ 1000000) : Con Try.prog 49 [.slice ad 1 c, .int .i64 N] [Sh (.slice ad 1 c) (.sl (encR encI [v]))] [] fun r ps hp => ps = [] ∧ hp = [OwnS r 3 1 (encR encI (List.replicate N v))] := by
  cases N with
  | zero => exact con_repeat0 v
  | succ N => exact con_repeat1 v (N + 1) hN (Nat.succ_pos _)
def arcOk (N : Nat) (a : GArc) : Prop := (0 ≤ a.from_ ∧ a.from_ < N) ∧ 0 ≤ a.to_ ∧ a.to_ < N
theorem mem_phase1 (l : List GArc) : ∀ (L : List (List Int)) (u : Int) (x : Int), (∀ a ∈ l, 0 ≤ a.from_ ∧ a.from_ < L.length) → (0 ≤ u ∧ u < L.length) → (x ∈ elt (l.foldl addArc L) u ↔ x ∈ elt L u ∨ ∃ a ∈ l, a.from_ = u ∧ a.to_ = x) := by
  induction l with
  | nil => intro L u x _ _; simp
  | cons a l ih =>
    intro L u x ha hu
    have hae := ha a List.mem_cons_self
    rw [List.foldl_cons, ih (addArc L a) u x (fun b hb => by rw [addArc_len]; exact ha b (List.mem_cons_of_mem _ hb)) (by rw [addArc_len]; exact hu)]
    have e : elt (addArc L a) u = if a.from_ = u then elt L u ++ [a.to_] else elt L u := by
      unfold addArc elt
      rw [List.getD_eq_getElem?_getD, List.getD_eq_getElem?_getD, List.getD_eq_getElem?_getD, List.getElem?_set]
      by_cases h : a.from_ = u
      · subst h; rw [if_pos rfl, if_pos (by omega), if_pos rfl]; rfl
      · rw [if_neg (by omega), if_neg h]
    rw [e]
    split
    · rename_i h
      rw [List.mem_append, List.mem_singleton]
      simp only [List.mem_cons, exists_eq_or_imp]
      constructor
      · rintro ((h1 | h1) | h1)
        · exact .inl h1
        · exact .inr (.inl ⟨h, h1.symm⟩)
        · exact .inr (.inr h1)
      · rintro (h1 | ⟨_, h1⟩ | h1)
        · exact .inl (.inl h1)
        · exact .inl (.inr h1.symm)
        · exact .inr h1
    · rename_i h
      simp only [List.mem_cons, exists_eq_or_imp]
      constructor
      · rintro (h1 | h1)
        · exact .inl h1
        · exact .inr (.inr h1)
      · rintro (h1 | ⟨h1, _⟩ | h1)
        · exact .inl h1
        · exact (h h1).elim
        · exact .inr h1
theorem compactUpTo_spec (d : Array Int) (hs : ∀ i j, i < j → j < d.size → d[i]! ≤ d[j]!) : ∀ m, m ≤ d.size → (Lib.compactUpTo d m).Pairwise (· < ·) ∧ (∀ x ∈ Lib.compactUpTo d m, (∃ j, j < m ∧ d[j]! = x)) ∧ (∀ j, j < m → d[j]! ∈ Lib.compactUpTo d m)
  | 0, _ => ⟨by simp [Lib.compactUpTo], by simp [Lib.compactUpTo], by simp⟩
  | m + 1, hm => by
    obtain ⟨h1, h2, h3⟩ := compactUpTo_spec d hs m (by omega)
    rw [Lib.compactUpTo_succ]
    have hk : Lib.keeps d m = true ∨ (0 < m ∧ d[m]! = d[m - 1]! ∧ Lib.keeps d m = false) := by
      rcases Nat.eq_zero_or_pos m with h0 | h0
      · exact .inl (Lib.keeps_lt_one d m (by omega))
      · by_cases he : d[m]! = d[m - 1]!
        · exact .inr ⟨h0, he, Lib.keeps_neg h0 he⟩
        · exact .inl (Lib.keeps_pos he)
    by_cases hkm : Lib.keeps d m = true
    · rw [if_pos hkm]
      refine ⟨?_, fun x hx => ?_, fun j hj => ?_⟩
      · refine List.pairwise_append.2 ⟨h1, List.pairwise_singleton _ _, fun x hx y hy => ?_⟩
        rw [List.mem_singleton.1 hy]
        obtain ⟨j, hj, rfl⟩ := h2 x hx
        have hle := hs j m hj (by omega)
        rcases Nat.eq_zero_or_pos m with h0 | h0
        · omega
        · have hne : d[m]! ≠ d[m - 1]! := fun he => by rw [Lib.keeps_neg h0 he] at hkm; cases hkm
          have hle2 := hs (m - 1) m (by omega) (by omega)
          by_cases hjm : j = m - 1
          · subst hjm; omega
          · have := hs j (m - 1) (by omega) (by omega); omega
      · rcases List.mem_append.1 hx with h | h
        · obtain ⟨j, hj, he⟩ := h2 x h; exact ⟨j, by omega, he⟩
        · exact ⟨m, by omega, (List.mem_singleton.1 h).symm⟩
      · by_cases hjm : j = m
        · subst hjm; simp
        · exact List.mem_append_left _ (h3 j (by omega))
    · obtain ⟨h0, he, _⟩ := hk.resolve_left hkm
      rw [if_neg hkm, List.append_nil]
      refine ⟨h1, fun x hx => ?_, fun j hj => ?_⟩
      · obtain ⟨j, hj, he⟩ := h2 x hx; exact ⟨j, by omega, he⟩
      · by_cases hjm : j = m
        · subst hjm; rw [he]; exact h3 (j - 1) (by omega)
        · exact h3 j (by omega)
theorem uniqI_spec (zs : List Int) : (uniqI zs).Pairwise (· < ·) ∧ ∀ x, x ∈ uniqI zs ↔ x ∈ zs := by
  have hp : (sortI zs).Pairwise (fun x y => (decide (x ≤ y)) = true) := List.pairwise_mergeSort (fun a b c h1 h2 => by simp at *; omega) (fun a b => by simp; omega) zs
  have hg : ∀ j (hj : j < (sortI zs).length), (sortI zs).toArray[j]! = (sortI zs)[j] := fun j hj => by simp [hj]
  have hs : ∀ i j, i < j → j < (sortI zs).toArray.size → (sortI zs).toArray[i]! ≤ (sortI zs).toArray[j]! := fun i j hij hj => by
    have hj' : j < (sortI zs).length := by simpa using hj
    rw [hg i (by omega), hg j hj']
    simpa using List.pairwise_iff_getElem.1 hp i j (by omega) hj' hij
  obtain ⟨h1, h2, h3⟩ := compactUpTo_spec (sortI zs).toArray hs (sortI zs).length (by simp)
  refine ⟨h1, fun x => ⟨fun hx => ?_, fun hx => ?_⟩⟩
  · obtain ⟨j, hj, rfl⟩ := h2 x hx
    rw [hg j hj]
    exact List.mem_mergeSort.1 (List.getElem_mem hj)
  · have hm : x ∈ sortI zs := List.mem_mergeSort.2 hx
    obtain ⟨j, hj, he⟩ := List.getElem_of_mem hm
    rw [← he, ← hg j hj]; exact h3 j hj
theorem mem_uniqI {zs : List Int} {x : Int} : x ∈ uniqI zs ↔ x ∈ zs := (uniqI_spec zs).2 x
theorem elt_nat' {α : Type} [Inhabited α] (l : List α) (u : Int) : elt l u = elt l (u.toNat : Int) := rfl
theorem mem_nextF {N : Nat} {l : List GArc} (h : ∀ a ∈ l, arcOk N a) {u x : Int} (hu : 0 ≤ u ∧ u < N) : x ∈ elt (nextF N l) u ↔ ∃ a ∈ l, a.from_ = u ∧ a.to_ = x := by
  have e : elt (nextF N l) u = uniqI (elt (phase1 N l) u) := by
    unfold nextF elt
    rw [List.getD_eq_getElem?_getD, List.getD_eq_getElem?_getD, List.getElem?_map]
    have hlt : u.toNat < (phase1 N l).length := by rw [phase1_len]; omega
    rw [List.getElem?_eq_getElem hlt]; rfl
  rw [e, mem_uniqI]
  unfold phase1
  rw [mem_phase1 l (List.replicate N []) u x (fun a ha => by simpa using (h a ha).1) (by simpa using hu)]
  have : elt (List.replicate N ([] : List Int)) u = [] := by
    unfold elt; rw [List.getD_eq_getElem?_getD, List.getElem?_replicate]; split <;> rfl
  rw [this]; simp
theorem outOk {N : Nat} {l : List GArc} (h : ∀ a ∈ l, arcOk N a) : OutOk N (nextF N l) := fun u x hx => by
  rw [elt_nat'] at hx
  by_cases hu : u.toNat < N
  · obtain ⟨a, ha, _, rfl⟩ := (mem_nextF h (by omega)).1 hx; exact (h a ha).2
  · unfold elt at hx
    rw [List.getD_eq_getElem?_getD, List.getElem?_eq_none (by unfold nextF; rw [List.length_map, phase1_len]; omega)] at hx
    cases hx
theorem uniqI_le (zs : List Int) : (uniqI zs).length ≤ zs.length := by
  unfold uniqI Lib.compact Lib.compactUpTo
  rw [List.length_map]
  refine Nat.le_trans (List.length_filter_le _ _) ?_
  simp [sortI]
theorem encR_get {l : List Int} {k : Nat} {v : Int} (h : l[k]? = some v) : (encR encI l)[k]? = some [.v (encI v)] := by simp [encR, h]
theorem encR_ne {l : List Int} (h : 0 < l.length) : encR encI l ≠ [] := fun h0 => by
  have := congrArg List.length h0
  rw [encR_len, List.length_nil] at this; omega
theorem encR_set (l : List Int) (i : Nat) (v : Int) : encR encI (l.set i v) = (encR encI l).set i [.v (encI v)] := by simp [encR, List.map_set]
theorem encR_snoc (l : List Int) (v : Int) : encR encI (l ++ [v]) = encR encI l ++ [[.v (encI v)]] := by simp [encR]
set_option maxHeartbeats 4000000 in
theorem con_search (N : Nat) (hN : N ≤ 1000000) (l : Sl GArc) (hl : l.l.length ≤ 1000000) (hr : ∀ a ∈ l.l, arcOk N a) (rs : Sl Int) (hrs : rs.l.length ≤ 1000000) :
    Con Try.prog 36 [.int .i64 N, l.val, rs.val] [ShF GArc.row l, ShF (fun z => [.v (encI z)]) rs] [] fun r ps hp => ps = [] ∧ hp = [OwnS r 3 1 (encR encI (searchF N (nextF N l.l) (uniqI rs.l)))] := by
  have hro := outOk hr
  have hrl := uniqI_le rs.l
  obtain ⟨M, hM⟩ : ∃ M, M = (uniqI rs.l).length + N := ⟨_, rfl⟩
  have hB := bstart_BI N (uniqI rs.l)
  rw [← hM] at hB
  refine Con.enter Try.func36 rfl (by simp [Try.ntmps36]) ?_
  show awp _ _ _ _ ⟨[(0, true, _), (1, true, _), (2, true, _)], _, _⟩
  refine awp_seq (awp_region (aL_s true rfl rfl (fun _ => q_assign rfl) (aL_nil (thn_n (awp_seq (awp_region ?_))))))
  refine aL_eff (q := true) rfl (w_lit (zs := [.int .i64 0]) (l := [(0, .const (.int .i64 (-1)))]) el37 (by kernel_rfl) (by decide) (by decide) (by decide) rfl rfl rfl (.more rfl (.v rfl .nil) .nil) rfl rfl (fun v1_0 => ?_))
  refine aL_hp (by (try simp only [nM, nN]); rfl) ?_
  refine aL_s true rfl rfl (fun _ => q_move rfl) ?_
  refine aL_eff (q := false) rfl (e_call [] [0] (by kernel_rfl) rfl rfl rfl rfl (Con.ofOwn (con_repeat (-1) N hN)) ?_)
  rintro vb _ _ ⟨rfl, rfl⟩
  refine aL_st (by (try simp only [nM, nN]); rfl) (by (try simp only [putB, place, Nat.reduceBEq, nA, if_true, if_false, reduceIte, nB, nC, nD, nE, nF, nG, nH, nI, Nat.reduceAdd, nJ, beq_self_eq_true, nK, nL, nM, nN]); rfl) ?_
  refine aL_s true rfl rfl (fun _ => q_assign rfl) (aL_nil (thn_n (awp_seq ?_)))
  refine awp_formV 0 rfl (fun ab cb hvb => ?_)
  rw [encR_len, List.length_replicate] at hvb
  subst hvb
  refine awp_region (aL_s true rfl rfl (fun _ => q_move rfl) ?_)
  refine aL_eff (q := true) rfl (e_call [0] [] (by kernel_rfl) rfl rfl rfl rfl (con_cloneI rs.l hrs) ?_)
  rintro vc _ _ ⟨rfl, rfl⟩
  refine aL_st (by (try simp only [nM, nN]); rfl) (by (try simp only [putB, place, Nat.reduceBEq, nA, if_true, if_false, reduceIte, nB, nC, nD, nE, nF, nG, nH, nI, Nat.reduceAdd, nJ, beq_self_eq_true, nK, nL, nM, nN]); rfl) ?_
  refine aL_s true rfl rfl (fun _ => q_assign rfl) (aL_nil (thn_n (awp_seq (awp_region (aL_s true rfl rfl (fun _ => q_move rfl) ?_)))))
  refine aL_eff (q := false) rfl (e_call [] [1] (by kernel_rfl) rfl rfl rfl rfl (con_sortI rs.l (by omega)) ?_)
  rintro _ _ _ ⟨rfl, rfl⟩
  refine aL_st (by (try simp only [nM, nN]); rfl) (by (try simp only [putB, place, Nat.reduceBEq, nA, if_true, if_false, reduceIte, nB, nC, nD, nE, nF, nG, nH, nI, Nat.reduceAdd, nJ, beq_self_eq_true, nK, nL, nM, nN]); rfl) ?_
  refine aL_nil (thn_n (awp_seq (awp_nil 3 1 ?_)))
  show awp _ _ _ _ ⟨_, _, [_, _, _]⟩
  refine awp_region (aL_s true rfl rfl (fun _ => q_assign rfl) (aL_nil (thn_n (awp_seq (awp_seq (awp_region (aL_s true rfl rfl (fun _ => q_move rfl) ?_)))))))
  refine aL_eff (q := false) rfl (e_call [] [1] (by kernel_rfl) rfl rfl rfl rfl (con_compactI _) ?_)
  rintro _ _ _ ⟨rfl, au, cu, rfl, rfl⟩
  refine aL_st (by (try simp only [nM, nN]); rfl) (by (try simp only [putB, place, Nat.reduceBEq, nA, if_true, if_false, reduceIte, nB, nC, nD, nE, nF, nG, nH, nI, Nat.reduceAdd, nJ, beq_self_eq_true, nK, nL, nM, nN]); rfl) ?_
  refine aL_s true rfl rfl (fun _ => q_lenS Try.underlying37 rfl) (aL_s true rfl rfl (fun _ => q_move rfl) (aL_nil (thn_n (awp_block (awp_loopK [0, 1, 7, 9, 24, 25, 26] [1] [0, 1, 2] (fun (p : Nat × Value) s => p.1 ≤ (uniqI rs.l).length ∧ s = ⟨[(0, true, .int .i64 N), (1, true, l.val), (7, true, .slice ab N cb), (9, true, p.2), (24, true, .slice au (uniqI rs.l).length cu), (25, true, .int .i64 (uniqI rs.l).length), (26, true, .int .i64 p.1)], [ShF GArc.row l], [OwnS (.slice ab N cb) 3 1 (encR encI (bstart N ((uniqI rs.l).take p.1)).1), OwnS (.slice au (uniqI rs.l).length cu) 3 1 (encR encI (uniqI rs.l)), OwnS p.2 3 1 (encR encI (bstart N ((uniqI rs.l).take p.1)).2)]⟩) (fun p => (uniqI rs.l).length - p.1) rfl (⟨(0, .slice none 0 0), Nat.zero_le _, rfl⟩) ?_)))))
  rintro ⟨k, vw⟩ s ⟨hk, rfl⟩
  dsimp only at hk
  refine awp_seq (awp_region (aL_s true rfl rfl (fun _ => q_lss rfl rfl) (aL_nil (thn_n (awp_seq ?_)))))
  refine awp_cond _ rfl (fun h1 => ?_) (fun h1 => ?_)
  ·skip
   have hk' : k < (uniqI rs.l).length := by simp at h1; omega
   obtain ⟨v, hv⟩ : ∃ v, (uniqI rs.l)[k]? = some v := ⟨_, List.getElem?_eq_getElem hk'⟩
   have hst := bstart_snoc N _ hv
   refine awp_skip (thn_n (awp_seq (awp_block (awp_seq ?_))))
   refine awp_formO 1 rfl (encR_ne (by omega)) (fun Bu cpu hvu => ?_)
   obtain ⟨rfl, rfl⟩ : au = some ⟨Bu, 0, none⟩ ∧ cu = cpu := by simp at hvu; exact ⟨hvu.1, hvu.2.2⟩
   refine awp_region (aL_s true rfl rfl (fun _ => q_idxV k el37 rfl rfl rfl hk') (aL_s true rfl rfl (fun _ => q_loadO (v := .slice (some ⟨Bu, 0, none⟩) (uniqI rs.l).length cu) (u := encI v) 1 k 0 tk3 rfl rfl (encR_get hv) rfl rfl) (aL_s true rfl rfl (fun _ => q_assign rfl) (aL_nil (thn_n (awp_seq (awp_region ?_)))))))
   refine aL_s true rfl rfl (fun _ => q_move rfl) (aL_s true rfl rfl (fun _ => q_geq rfl rfl) (aL_s true rfl rfl (fun _ => q_move rfl) (aL_s _ rfl rfl (fun hc => q_move rfl) (aL_s _ rfl rfl (fun hc => q_move rfl) (aL_s _ rfl rfl (fun hc => q_lss (ev_yes rfl hc) (ev_yes rfl hc)) (aL_s true rfl rfl (fun _ => q_and rfl rfl (fun h => gt rfl h)) (aL_nil ?_)))))))
   refine thn_n ?_
   refine awp_cond _ rfl (fun h2 => ?_) (fun h2 => ?_)
   ·skip
    have hvn : 0 ≤ v ∧ v < N := by simpa using h2
    refine awp_seq ?_
    have hbl := (bstart_len N ((uniqI rs.l).take k)).1
    refine awp_formO 0 rfl (encR_ne (by rw [hbl]; omega)) (fun B cp hvb => ?_)
    obtain ⟨rfl, rfl⟩ : ab = some ⟨B, 0, none⟩ ∧ cb = cp := by simp at hvb; exact ⟨hvb.1, hvb.2.2⟩
    obtain ⟨o, ho⟩ : ∃ o, (bstart N ((uniqI rs.l).take k)).1[v.toNat]? = some o := ⟨_, List.getElem?_eq_getElem (by rw [hbl]; omega)⟩
    have hrow := encR_get ho
    refine awp_region (aL_s true rfl rfl (fun _ => q_move rfl) (aL_s true rfl rfl (fun _ => q_move rfl) (aL_s true rfl rfl (fun _ => q_move rfl) ?_)))
    refine aL_s true rfl rfl (fun _ => q_idxV v.toNat el37 rfl rfl (by omega) (by omega)) ?_
    refine aL_eff (q := false) rfl (e_storeO 0 v.toNat 0 tk3 rfl rfl rfl hrow rfl (.v rfl .nil) rfl (by decide) ?_)
    refine aL_nil (thn_n (awp_region (aL_s true rfl rfl (fun _ => q_move rfl) (aL_s true rfl rfl (fun _ => q_move rfl) ?_))))
    refine aL_eff (q := true) rfl (w_lit (zs := [.int .i64 0]) (l := [(0, .tmp 42)]) el37 (by kernel_rfl) (by decide) (by decide) (by decide) rfl rfl rfl (.more rfl (.v rfl .nil) .nil) rfl rfl (fun v10_2 => ?_))
    refine aL_hp (by (try simp only [nM, nN]); rfl) ?_
    refine aL_eff rfl (w_append 2 el37 rfl rfl rfl rfl (w_srcO 3 el37 rfl (by simp)) (by first | assumption | simp) (by have := (bstart_len N ((uniqI rs.l).take k)).2; rw [List.length_take] at this; simp [encR_len]; omega) _ rfl (fun v10_3 c10_3 => ?_))
    refine aL_hp (by simp only [nK, nL]; rfl) ?_
    refine aL_s true rfl rfl (fun _ => q_assign rfl) (aL_nil (blk_n (thn_n (awp_region ?_))))
    refine aL_s true rfl rfl (fun _ => q_addi rfl rfl (by omega)) ?_
    refine aL_s true rfl rfl (fun _ => q_move rfl) (aL_nil (thn_n ?_))
    refine ⟨[0, 1, 7, 9, 24, 25, 26], [0], [0, 1, 2], rfl, ?_⟩
    refine ⟨(k + 1, .slice v10_3 ((encR encI (bstart N ((uniqI rs.l).take k)).2).length + 1) c10_3), ⟨by omega, ?_⟩, by omega⟩
    dsimp only
    rw [hst]
    unfold rootStep
    rw [if_pos hvn, encR_set, encR_snoc]
    rfl
   ·skip
    have hvn : ¬ (0 ≤ v ∧ v < N) := by simpa using h2
    refine awp_skip (blk_n (thn_n (awp_region ?_)))
    refine aL_s true rfl rfl (fun _ => q_addi rfl rfl (by omega)) ?_
    refine aL_s true rfl rfl (fun _ => q_move rfl) (aL_nil (thn_n ?_))
    refine ⟨[0, 1, 7, 9, 24, 25, 26], [0], [0, 1, 2], rfl, ?_⟩
    refine ⟨(k + 1, vw), ⟨by omega, ?_⟩, by omega⟩
    dsimp only
    rw [hst]
    unfold rootStep
    rw [if_neg hvn]
    rfl
  ·skip
   have hkl : k = (uniqI rs.l).length := by simp at h1; omega
   subst hkl
   rw [List.take_length]
   refine awp_exit (thn_e (thn_e (blk_hit (thn_n (awp_seq (awp_region (aL_s true rfl rfl (fun _ => q_move rfl) ?_)))))))
   refine aL_s true rfl rfl (fun _ => q_move rfl) ?_
   refine aL_eff (q := true) rfl (e_call [0] [] (by kernel_rfl) rfl rfl rfl rfl (con_next N hN l hl (fun a ha => (hr a ha).1)) ?_)
   rintro vn _ _ ⟨rfl, rfl⟩
   refine aL_st (by (try simp only [nM, nN]); rfl) (by (try simp only [putB, place, Nat.reduceBEq, nA, if_true, if_false, reduceIte, nB, nC, nD, nE, nF, nG, nH, nI, Nat.reduceAdd, nJ, beq_self_eq_true, nK, nL, nM, nN]); rfl) ?_
   refine aL_s true rfl rfl (fun _ => q_assign rfl) (aL_nil (thn_n (awp_seq (awp_seq ?_))))
   refine awp_nestShareF 3 rfl (fun so hso hsl => ?_)
   subst hso
   refine awp_region (aL_s true rfl rfl (fun _ => q_assign rfl) (aL_nil (thn_n (awp_block (awp_loopK [7, 9, 12, 13] [2, 1] [0, 2] (fun (p : Nat × Value) s => p.1 ≤ (bfs (nextF N l.l) (bstart N (uniqI rs.l)) p.1).2.length ∧ s = ⟨[(7, true, .slice ab N cb), (9, true, p.2), (12, true, so.val), (13, true, .int .i64 p.1)], [AllF (ShF fun z => [.v (encI z)]) so.l, ShF (fun t : Sl Int => [.v t.val]) so], [OwnS (.slice ab N cb) 3 1 (encR encI (bfs (nextF N l.l) (bstart N (uniqI rs.l)) p.1).1), OwnS p.2 3 1 (encR encI (bfs (nextF N l.l) (bstart N (uniqI rs.l)) p.1).2)]⟩) (fun p => M - p.1) rfl (⟨(0, vw), Nat.zero_le _, rfl⟩) ?_)))))
   rintro ⟨k, vw2⟩ s ⟨hk, rfl⟩
   dsimp only at hk
   have hBk := bfs_BI hro hB k
   have hkM := hBk.le
   refine awp_seq (awp_seq ?_)
   obtain ⟨sk, hsk⟩ : ∃ sk, bfs (nextF N l.l) (bstart N (uniqI rs.l)) k = sk := ⟨_, rfl⟩
   rw [hsk] at hk hBk hkM ⊢
   refine awp_formV 1 rfl (fun aw cw hvw => ?_)
   rw [encR_len] at hvw
   subst hvw
   refine awp_region (aL_s true rfl rfl (fun _ => q_move rfl) (aL_s true rfl rfl (fun _ => q_move rfl) (aL_s true rfl rfl (fun _ => q_lenS Try.underlying37 rfl) (aL_s true rfl rfl (fun _ => q_lss rfl rfl) (aL_nil (thn_n ?_))))))
   refine awp_cond _ rfl (fun h3 => ?_) (fun h3 => ?_)
   ·skip
    have hk' : k < sk.2.length := by simp at h3; omega
    obtain ⟨u, hu⟩ : ∃ u, sk.2[k]? = some u := ⟨_, List.getElem?_eq_getElem hk'⟩
    have hun := hBk.mem u (List.mem_of_getElem? hu)
    have hsol : so.l.length = N := by rw [← List.length_map (f := Sl.l), hsl]; unfold nextF; rw [List.length_map, phase1_len]
    refine awp_skip (thn_n (awp_seq (awp_block (awp_seq ?_))))
    refine awp_formO 1 rfl (encR_ne (by omega)) (fun Bw cpw hvw => ?_)
    obtain ⟨rfl, rfl⟩ : aw = some ⟨Bw, 0, none⟩ ∧ cw = cpw := by simp at hvw; exact ⟨hvw.1, hvw.2.2⟩
    refine awp_region (aL_s true rfl rfl (fun _ => q_move rfl) (aL_s true rfl rfl (fun _ => q_move rfl) (aL_s true rfl rfl (fun _ => q_move rfl) (aL_s true rfl rfl (fun _ => q_idxV k el37 rfl rfl rfl hk') (aL_s true rfl rfl (fun _ => q_loadO (v := .slice (some ⟨Bw, 0, none⟩) sk.2.length cw) (u := encI u) 1 k 0 tk3 rfl rfl (encR_get hu) rfl rfl) ?_)))))
    refine aL_E true rfl rfl (fun _ => q_indexAddrG Try.underlying33 tk37 rfl ((.of (psAt 1 rfl))) rfl (rows_elt (i := u) (by omega) (by omega)) (by omega) rfl) (fun h => absurd h (by decide)) (fun ⟨b16_5, o16_5⟩ => ?_)
    refine aL_s true rfl rfl (fun _ => q_loadD (o := 0) tk37 rfl (psAt 0 rfl) rfl rfl) (aL_s true rfl rfl (fun _ => q_lenS Try.underlying37 rfl) (aL_s true rfl rfl (fun _ => q_move rfl) (aL_nil (thn_n (awp_block ?_)))))
    obtain ⟨row, hrow⟩ : ∃ row, elt so.l u = row := ⟨_, rfl⟩
    have hrm : row ∈ so.l := by rw [← hrow]; exact List.mem_of_getElem? (elt_some (by omega) hun.1)
    have hrl : row.l = elt (nextF N l.l) u := by rw [← hrow, ← hsl]; unfold elt; rw [List.getD_eq_getElem?_getD, List.getD_eq_getElem?_getD, List.getElem?_map]; cases so.l[u.toNat]? <;> rfl
    have hrb : ∀ x ∈ row.l, 0 ≤ x ∧ x < N := by rw [hrl]; exact hro u
    rw [hrow]
    refine awp_lenE (Ent.allm (f := ShF fun z : Int => [.v (encI z)]) (.of (psAt 1 rfl)) hrm) (fun hrlen => ?_)
    refine awp_loopK [7, 9, 12, 13, 61, 62, 63] [1, 0] [0, 1] (fun (q : Nat × Value) s => q.1 ≤ row.l.length ∧ s = ⟨[(7, true, .slice ab N cb), (9, true, q.2), (12, true, so.val), (13, true, .int .i64 k), (61, true, row.val), (62, true, .int .i64 row.l.length), (63, true, .int .i64 q.1)], [AllF (ShF fun z => [.v (encI z)]) so.l, ShF (fun t : Sl Int => [.v t.val]) so], [OwnS (.slice ab N cb) 3 1 (encR encI ((row.l.take q.1).foldl (visit u) sk).1), OwnS q.2 3 1 (encR encI ((row.l.take q.1).foldl (visit u) sk).2)]⟩) (fun q => row.l.length - q.1) rfl (⟨(0, .slice (some ⟨Bw, 0, none⟩) sk.2.length cw), Nat.zero_le _, rfl⟩) ?_
    rintro ⟨j, vw3⟩ s ⟨hj, rfl⟩
    dsimp only at hj
    have hBj := visits_BI hun.1 (row.l.take j) sk hBk (fun x hx => hrb x (List.mem_of_mem_take hx))
    have huj := pre_get (visits_pre (u := u) (row.l.take j) sk) hu
    refine awp_seq (awp_region (aL_s true rfl rfl (fun _ => q_lss rfl rfl) (aL_nil (thn_n (awp_seq ?_)))))
    refine awp_cond _ rfl (fun h4 => ?_) (fun h4 => ?_)
    ·skip
     have hj' : j < row.l.length := by simp at h4; omega
     obtain ⟨x, hx⟩ : ∃ x, row.l[j]? = some x := ⟨_, List.getElem?_eq_getElem hj'⟩
     have hxn := hrb x (List.mem_of_getElem? hx)
     have hvs := visits_snoc (u := u) row.l sk hx
     obtain ⟨sj, hsj⟩ : ∃ sj, (row.l.take j).foldl (visit u) sk = sj := ⟨_, rfl⟩
     rw [hsj] at hBj huj hvs ⊢
     refine awp_skip (thn_n (awp_seq (awp_block (awp_seq (awp_region ?_)))))
     refine aL_E true rfl rfl (fun _ => q_indexAddrG Try.underlying37 tk3 rfl ((Ent.allm (f := ShF fun z : Int => [.v (encI z)]) (.of (psAt 0 rfl)) hrm)) rfl (rows_get hx) rfl rfl) (fun h => absurd h (by decide)) (fun ⟨b18_0, o18_0⟩ => ?_)
     refine aL_s true rfl rfl (fun _ => q_loadD (o := 0) tk3 rfl (psAt 0 rfl) rfl rfl) (aL_s true rfl rfl (fun _ => q_assign rfl) (aL_nil (thn_n (awp_seq ?_))))
     refine awp_formO 0 rfl (encR_ne (by rw [hBj.len]; omega)) (fun B cp hvb => ?_)
     obtain ⟨rfl, rfl⟩ : ab = some ⟨B, 0, none⟩ ∧ cb = cp := by simp at hvb; exact ⟨hvb.1, hvb.2.2⟩
     have hbx : sj.1[x.toNat]? = some (elt sj.1 x) := elt_some (by rw [hBj.len]; exact hxn.2) hxn.1
     refine awp_region (aL_s true rfl rfl (fun _ => q_move rfl) (aL_s true rfl rfl (fun _ => q_move rfl) ?_))
     refine aL_s true rfl rfl (fun _ => q_idxV x.toNat el37 rfl rfl (by omega) (by omega)) ?_
     refine aL_s true rfl rfl (fun _ => q_loadO (v := .slice (some ⟨B, 0, none⟩) N cb) (u := encI (elt sj.1 x)) 0 x.toNat 0 tk3 rfl rfl (encR_get hbx) rfl rfl) (aL_s true rfl rfl (fun _ => q_lss rfl rfl) (aL_nil (thn_n ?_)))
     refine awp_cond _ rfl (fun h5 => ?_) (fun h5 => ?_)
     ·skip
      have hneg : elt sj.1 x < 0 := by simpa using h5
      refine awp_seq ?_
      have hklt : k < sj.2.length := (List.getElem?_eq_some_iff.1 huj).1
      refine awp_formO 1 rfl (encR_ne (by omega)) (fun Bw2 cpw2 hvw => ?_)
      rw [encR_len] at hvw
      subst hvw
      refine awp_region (aL_s true rfl rfl (fun _ => q_move rfl) (aL_s true rfl rfl (fun _ => q_move rfl) (aL_s true rfl rfl (fun _ => q_move rfl) (aL_s true rfl rfl (fun _ => q_move rfl) (aL_s true rfl rfl (fun _ => q_idxV k el37 rfl rfl rfl hklt) (aL_s true rfl rfl (fun _ => q_loadO (v := .slice (some ⟨Bw2, 0, none⟩) sj.2.length cpw2) (u := encI u) 1 k 0 tk3 rfl rfl (encR_get huj) rfl rfl) ?_))))))
      refine aL_s true rfl rfl (fun _ => q_idxV x.toNat el37 rfl rfl (by omega) (by omega)) ?_
      refine aL_eff (q := false) rfl (e_storeO 0 x.toNat 0 tk3 rfl rfl rfl (encR_get hbx) rfl (.v rfl .nil) rfl (by decide) ?_)
      refine aL_nil (thn_n (awp_region (aL_s true rfl rfl (fun _ => q_move rfl) (aL_s true rfl rfl (fun _ => q_move rfl) ?_))))
      refine aL_eff (q := true) rfl (w_lit (zs := [.int .i64 0]) (l := [(0, .tmp 80)]) el37 (by kernel_rfl) (by decide) (by decide) (by decide) rfl rfl rfl (.more rfl (.v rfl .nil) .nil) rfl rfl (fun v21_2 => ?_))
      refine aL_hp (by (try simp only [nM, nN]); rfl) ?_
      refine aL_eff rfl (w_append 1 el37 rfl rfl rfl rfl (w_srcO 2 el37 rfl (by simp)) (by first | assumption | simp) (by have := hBj.le; simp [encR_len]; omega) _ rfl (fun v21_3 c21_3 => ?_))
      refine aL_hp (by simp only [nK, nL]; rfl) ?_
      refine aL_s true rfl rfl (fun _ => q_assign rfl) (aL_nil (blk_n (thn_n (awp_region ?_))))
      refine aL_s true rfl rfl (fun _ => q_addi rfl rfl (by omega)) ?_
      refine aL_s true rfl rfl (fun _ => q_move rfl) (aL_nil (thn_n ?_))
      refine ⟨[7, 9, 12, 13, 61, 62, 63], [1, 0], [0, 1], rfl, ?_⟩
      refine ⟨(j + 1, .slice v21_3 ((encR encI sj.2).length + 1) c21_3), ⟨by omega, ?_⟩, by omega⟩
      dsimp only
      rw [hvs]
      unfold visit
      rw [if_pos hneg, encR_set, encR_snoc]
      rfl
     ·skip
      have hneg : ¬ elt sj.1 x < 0 := by simpa using h5
      refine awp_skip (blk_n (thn_n (awp_region ?_)))
      refine aL_s true rfl rfl (fun _ => q_addi rfl rfl (by omega)) ?_
      refine aL_s true rfl rfl (fun _ => q_move rfl) (aL_nil (thn_n ?_))
      refine ⟨[7, 9, 12, 13, 61, 62, 63], [1, 0], [0, 1], rfl, ?_⟩
      refine ⟨(j + 1, vw3), ⟨by omega, ?_⟩, by omega⟩
      dsimp only
      rw [hvs]
      unfold visit
      rw [if_neg hneg]
      rfl
    ·skip
     have hjl : j = row.l.length := by simp at h4; omega
     subst hjl
     have hk1 : bfs (nextF N l.l) (bstart N (uniqI rs.l)) (k + 1) = row.l.foldl (visit u) sk := by show bstep _ (bfs (nextF N l.l) (bstart N (uniqI rs.l)) k) k = _; rw [hsk]; unfold bstep; rw [hu, hrl]
     refine awp_exit (thn_e (thn_e (blk_hit (blk_n (thn_n (awp_region (aL_s true rfl rfl (fun _ => q_move rfl) ?_)))))))
     refine aL_s true rfl rfl (fun _ => q_addi rfl rfl (by omega)) ?_
     refine aL_s true rfl rfl (fun _ => q_assign rfl) (aL_nil (thn_n ?_))
     refine ⟨[7, 9, 12, 13], [1, 0], [0, 1], rfl, ?_⟩
     refine ⟨(k + 1, vw3), ⟨?_, ?_⟩, ?_⟩
     · dsimp only; rw [hk1, ← List.take_length (l := row.l)]; exact (List.getElem?_eq_some_iff.1 huj).1
     · dsimp only; rw [hk1, List.take_length]; rfl
     · dsimp only; omega
   ·skip
    have hkl : k = sk.2.length := by simp at h3; omega
    refine awp_exit (thn_e (thn_e (blk_hit (thn_n (awp_seq (awp_region (aL_s true rfl rfl (fun _ => q_move rfl) ?_)))))))
    refine aL_s true rfl rfl (fun _ => q_assign rfl) (aL_nil (thn_n (awp_ret ?_)))
    refine fin1 [] [0] rfl Try.results36 rfl ?_ (.inr rfl)
    refine ⟨rfl, ?_⟩
    rw [← searchF_eq hro (k := k) (by rw [hsk]; exact hkl), hsk]; rfl
end Go.Proofs.Ytnbochlghdkfkaa
