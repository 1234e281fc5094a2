/- A space laid open: what its methods read of it. -/
import Derived.Test.YtpgcoceggacplaaGreatDoorSySp
set_option linter.unusedVariables false
set_option linter.unusedSimpArgs false
set_option maxRecDepth 20000
namespace Go.Sy
open Go.RowKit
section
variable {P : Program} {n : Nat} {env : Env} {ps : List Per} {hp : List Res} {c : Code} {Q : Exit → Sta → Prop}
/-- a resource read otherwise -/
theorem awp_conv (i : Nat) {R : Res} (R' : Res) (hi : hp[i]? = some R) (hc : ∀ w S F, R.holds w S F → R'.holds w S F) (h : awp P n c Q ⟨env, ps, hp.set i R'⟩) : awp P n c Q ⟨env, ps, hp⟩ := fun w S fp a hst he hn hd => by
  have hil := (List.getElem?_eq_some_iff.1 hi).1
  have := h w S fp a (hst.change hil (Nat.le_refl _) (fun _ _ _ => rfl) R' (hc _ _ _ (hst.res i R hi))) he hn hd
  rwa [show ({ env := env, ps := ps, hp := hp.set i R' } : Sta).hp.length = hp.length by simp] at this
/-- a resource of an unknown, named -/
theorem awp_openE {β : Type} (i : Nat) {R : Res} (R' : β → Res) (hi : hp[i]? = some R) (hc : ∀ w S F, R.holds w S F → ∃ x, (R' x).holds w S F) (h : ∀ x, awp P n c Q ⟨env, ps, hp.set i (R' x)⟩) : awp P n c Q ⟨env, ps, hp⟩ := fun w S fp a hst he hn hd => by
  have hil := (List.getElem?_eq_some_iff.1 hi).1
  obtain ⟨x, hx⟩ := hc _ _ _ (hst.res i R hi)
  have := h x w S fp a (hst.change hil (Nat.le_refl _) (fun _ _ _ => rfl) (R' x) hx) he hn hd
  rwa [show ({ env := env, ps := ps, hp := hp.set i (R' x) } : Sta).hp.length = hp.length by simp] at this
end
end Go.Sy
namespace Go.Proofs.YtpgcoceggacplaaGreatDoor
open Go.RowKit Go.Lp Go.Sy
structure SpX where
  a : Option Nat
  c : Nat
  S : List Pt
/-- a space that is only looked at, laid open -/
def SpP (p : Nat) (M : Mem) (x : SpX) : Per :=
  ⟨fun w S => SpAt w p x.a x.c x.S ∧ mem x.S = M ∧ ∀ b ∈ foot p x.a x.S, S b, fun ⟨h, hm, hF⟩ h1 h2 => ⟨h.mono (h1 p (hF p (by simp [foot]))) (fun B hB => h1 B (hF B (by simp [foot, hB]))) (fun q hq => h1 q.blk (hF q.blk (by simp only [foot, List.mem_cons, List.mem_append, List.mem_map]; exact .inr (.inr ⟨q, hq, rfl⟩)))), hm, fun b hb => h2 b (hF b hb)⟩⟩
/-- what an owner lends -/
theorem sp_lend {w : World} {S : Blks} {fp : Nat → Blks} {ps : List Per} {hp : List Res} {p : Nat} {M : Mem} (hst : St w S fp ps hp) (i : Nat) (hi : hp[i]? = some (SpR p M)) :
    ∃ X : SpX, Inv X.S ∧ mem X.S = M ∧ X.S.length ≤ 4096 ∧ St w (fun b => b ∈ foot p X.a X.S) (fun _ _ => False) [SpP p M X] [] := by
  obtain ⟨L, ⟨a, c, T, h, hL, hM⟩, hF⟩ := hst.res i _ hi
  refine ⟨⟨a, c, T⟩, h.inv, hM.symm, h.few, fun q hq => ?_, fun j R hR => by simp at hR, fun j hj => by simp at hj, fun j k hj => by simp at hj, fun b hb => ?_⟩
  · rw [List.mem_singleton.1 hq]; exact ⟨h, hM.symm, fun b hb => hb⟩
  · subst hL; exact Sp.lt ⟨a, c, T, h, rfl, rfl⟩ b hb
/-- rows of plain values stand whatever is shared -/
theorem own_plain {v : Value} {E : TypeId} {sz : Nat} {rows : List (List D)} (hp : ∀ r ∈ rows, ∀ d ∈ r, ∃ x, d = D.v x) {w : World} {S S' F : Blks} (h : (OwnS v E sz rows).holds w S F) : (OwnS v E sz rows).holds w S' F := by
  rcases h with h | ⟨b, cap, hv, ⟨cs, sp, h1, h2, h3⟩, hF⟩
  · exact .inl h
  · refine .inr ⟨b, cap, hv, ⟨cs, sp, h1, ⟨h2.len, h2.row, h2.one, fun i j r d hi hj => ?_⟩, h3⟩, hF⟩
    obtain ⟨u, hu, hr⟩ := h2.rep i j r d hi hj
    obtain ⟨x, rfl⟩ := hp r (List.mem_of_getElem? hi) d (List.mem_of_getElem? hj)
    exact ⟨u, hu, by rw [repD_v hr]; exact .v x⟩
/-- a contract that looks at a space and hands back a list of plain rows, as one of its owner -/
theorem con_lend {f : FuncId} {args : List Value} {p m : Nat} {M : Mem} {E : TypeId} {sz : Nat} {rows : List (List D)} (hpl : ∀ r ∈ rows, ∀ d ∈ r, ∃ x, d = D.v x)
    (h : ∀ X : SpX, Inv X.S → mem X.S = M → X.S.length ≤ 4096 → Con Tryz.prog f args [SpP p M X] [] fun r ps' hp' => ps' = [] ∧ ∃ ad c, r = .slice ad m c ∧ hp' = [OwnS (.slice ad m c) E sz rows]) :
    Con Tryz.prog f args [] [SpR p M] fun r ps' hp' => ps' = [] ∧ ∃ ad c, r = .slice ad m c ∧ hp' = [SpR p M, OwnS (.slice ad m c) E sz rows] := fun w S fp hst => by
  obtain ⟨X, hinv, hXM, hfew, hst2⟩ := sp_lend hst 0 rfl
  refine (h X hinv hXM hfew w _ _ hst2).mono fun e w' ⟨v, ps', hp', S', fp', h1, ⟨h2, ad, c, h3, h4⟩, h5, h6, h7⟩ => ?_
  subst h2; subst h4
  have hb : Below w.heap.size w w' := h6.toX (fun b hb => tot_nil _ b hb)
  have hres := own_plain (S' := S) hpl (h5.res 0 _ rfl)
  have hst3 := hst.push hb (OwnS (.slice ad m c) E sz rows) (fp' 0) hres (fun b hb' => ⟨(h7 b ⟨0, by simp, hb'⟩).elim (fun h => absurd h (tot_nil _ b)) id, (h5.lt 0 (by simp) b hb').1⟩)
  refine ⟨v, [], [SpR p M, OwnS (.slice ad m c) E sz rows], S, _, h1, ⟨rfl, ad, c, h3, rfl⟩, hst3, Evo.of_below _ _ hb, fun b hb' => ?_⟩
  rcases tot_push (fp := fp) (m := 1) hb' with h | h
  · exact .inl h
  · exact .inr ((h7 b ⟨0, by simp, h⟩).elim (fun h => absurd h (tot_nil _ b)) id)
theorem q_lend {f : FuncId} {args : List Value} {p : Nat} {M : Mem} {v : Value} (h : ∀ X : SpX, Inv X.S → mem X.S = M → X.S.length ≤ 4096 → Con Tryz.prog f args [SpP p M X] [] fun r _ _ => r = v)
    {w : World} {S : Blks} {fp : Nat → Blks} {ps : List Per} {hp : List Res} (hst : St w S fp ps hp) (i : Nat) (hi : hp[i]? = some (SpR p M)) : Calls Tryz.prog f args.toArray w fun e w' => e = .returned v ∧ Below w.heap.size w w' := by
  obtain ⟨X, hinv, hXM, hfew, hst2⟩ := sp_lend hst i hi
  exact (h X hinv hXM hfew).quiet (fun _ h => h) hst2
theorem sp_new {p : Nat} : ∀ w S F, (Box p 98 [.slice none 0 0]).holds w S F → (SpR p []).holds w S F := fun w S F ⟨h, hF⟩ =>
  ⟨[p], ⟨none, 0, [], ⟨h, ⟨rfl, rfl⟩, by simp, by simp, by simp, by simp, ⟨by simp, List.Pairwise.nil, by simp⟩, by simp⟩, rfl, rfl⟩, fun b => by rw [hF b]; simp⟩
section
variable {n : Nat} {env : Env} {ps : List Per} {hp : List Res} {d : Option Tmp} {ty : TypeId} {pos : String} {af : Array Edge} {gd : Option (Nat × Bool)} {p : Nat} {M : Mem} {X : SpX}
theorem spA_facts {w : World} {S : Blks} {fp : Nat → Blks} (hst : St w S fp ps hp) (hi : SpP p M X ∈ ps) : SpAt w p X.a X.c X.S ∧ mem X.S = M := let ⟨h, hm, _⟩ := hst.per _ hi; ⟨h, hm⟩
/-- the head -/
theorem qa_head {x : Operand} {o : Nat} (hi : SpP p M X ∈ ps) (hx : ev env x = some (true, .pointer (some ⟨p, o, none⟩))) (ho : o = 0) :
    Quiet Tryz.prog n ⟨d, .load 96 x, ty, pos, af, gd⟩ ⟨env, ps, hp⟩ (.slice (adr X.a) X.S.length X.c) := fun w S fp a hst he hn => by
  subst ho
  obtain ⟨h, _⟩ := spA_facts hst hi
  have h1 := he.val hx rfl
  have hb := h.head
  have : (execOp a.eval ⟨d, .load 96 x, ty, pos, af, gd⟩).run Tryz.prog w = .ok (.value (.slice (adr X.a) X.S.length X.c)) w := by
    unfold execOp; dsimp only; rw [h1]
    have := rdC_run (P := Tryz.prog) (w := w) tk96 (o := 0) (cs := [.slice (adr X.a) X.S.length X.c]) (v := .slice (adr X.a) X.S.length X.c) rfl (b := p) (p := 0) (fun j u hu => by rw [Nat.zero_add, cell_of_heap hb]; simpa using hu)
    show ((loadVar 96 ⟨p, 0, none⟩).bind fun r => Sem.pure (Next.value r)).run Tryz.prog w = _
    rw [Sem.run_bind', this]; rfl
  rw [this]; exact uponQ_ok _ _
/-- the place of a part -/
theorem qa_idx {x y : Operand} (k : Nat) (hi : SpP p M X ∈ ps) (hx : ev env x = some (true, .slice (adr X.a) X.S.length X.c)) {z : Int} (hy : ev env y = some (true, .int .i64 z)) (hz : z = (k : Int)) (hk : k < X.S.length) :
    Quiet Tryz.prog n ⟨d, .indexAddr 96 x y, ty, pos, af, gd⟩ ⟨env, ps, hp⟩ (.pointer (some ⟨X.a.getD 0, k * 6, none⟩)) := fun w S fp a hst he hn => by
  subst hz
  obtain ⟨h, _⟩ := spA_facts hst hi
  obtain ⟨B, hB, _⟩ := h.cells hk
  have h1 := he.val hx rfl
  have h2 := he.val hy rfl
  rw [hB] at h1 ⊢
  have : (execOp a.eval ⟨d, .indexAddr 96 x y, ty, pos, af, gd⟩).run Tryz.prog w = .ok (.value (.pointer (some ⟨B, k * 6, none⟩))) w := by
    unfold execOp; dsimp only; rw [h1, h2]
    obtain ⟨hT, it, hit, _, hsz, _⟩ := elB_spec el96
    show ((Instr.indexAt 96 (.slice (some ⟨B, 0, none⟩) X.S.length X.c) (.int .i64 k)).bind fun r => Sem.pure (Next.value r)).run Tryz.prog w = _
    have hE : Tryz.prog.elem 96 = 83 := by unfold Program.elem; rw [hT]
    rw [Sem.run_bind', run_indexAt_slice _ _ _ _ _ _ _ (by rw [hE]; exact hT), if_pos (by omega), hE, run_sizeOf' hit, hsz]
    simp only [Result.andThen, Int.toNat_natCast]
    unfold Addr.add
    split
    · rename_i h0; rw [h0]; rfl
    · simp only [Nat.zero_add]; rfl
  rw [this]; exact uponQ_ok _ _
/-- a part -/
theorem qa_load {x : Operand} {o : Nat} {q : Pt} (k : Nat) (hi : SpP p M X ∈ ps) (hx : ev env x = some (true, .pointer (some ⟨X.a.getD 0, o, none⟩))) (ho : o = k * 6) (hk : X.S[k]? = some q) :
    Quiet Tryz.prog n ⟨d, .load 83 x, ty, pos, af, gd⟩ ⟨env, ps, hp⟩ (.agg #[.int .i64 q.ar.at_, .int .i64 q.ar.size, .int .i64 q.ar.kind, .int .i64 q.ar.owner, .int .i64 q.ar.mod, .slice (some ⟨q.blk, 0, none⟩) q.bytes.length q.cap]) := fun w S fp a hst he hn => by
  subst ho
  obtain ⟨h, _⟩ := spA_facts hst hi
  have hkl := (List.getElem?_eq_some_iff.1 hk).1
  obtain ⟨B, hB, hBl, hc⟩ := h.cells hkl
  have hq : X.S.getD k default = q := by simp [List.getD, hk]
  rw [hq] at hc
  have h1 := he.val hx rfl
  rw [hB] at h1
  have : (execOp a.eval ⟨d, .load 83 x, ty, pos, af, gd⟩).run Tryz.prog w = .ok (.value (.agg q.vals.toArray)) w := by
    unfold execOp; dsimp only; rw [h1]
    have := rdC_run (P := Tryz.prog) (w := w) tk83 (o := 0) (cs := q.vals) (v := .agg q.vals.toArray) rfl (b := B) (p := k * 6) (fun j u hu => by
      have hj : j < 6 := (List.getElem?_eq_some_iff.1 hu).1
      rw [hc j hj]; exact hu)
    show ((loadVar 83 ⟨B, k * 6, none⟩).bind fun r => Sem.pure (Next.value r)).run Tryz.prog w = _
    rw [Nat.add_zero] at this
    rw [Sem.run_bind', this]; rfl
  rw [this]; exact uponQ_ok _ _
end
/-- areas as rows -/
def arRow (a : Ar) : List D := [.v (.int .i64 a.at_), .v (.int .i64 a.size), .v (.int .i64 a.kind), .v (.int .i64 a.owner), .v (.int .i64 a.mod)]
def areasM (M : Mem) : List Ar := M.map (·.1)
theorem new_fn : Con Tryz.prog 19 [] [] [] fun r ps' hp' => ps' = [] ∧ ∃ p, r = .pointer (some ⟨p, 0, none⟩) ∧ hp' = [Box p 98 [.slice none 0 0]] := by
  refine Con.enter Tryz.func19 rfl (by simp [Tryz.ntmps19]) ?_
  show awp _ _ _ _ ⟨[], _, _⟩
  refine awp_seq (awp_region (aL_s true rfl rfl (fun _ => q_assign rfl) (aL_nil (thn_n (awp_seq (awp_region ?_))))))
  refine aL_s true rfl rfl (fun _ => q_bld (l := []) (zs := [.slice none 0 0]) (pl := [(0, 1)]) (by kernel_rfl) (by kernel_rfl) (by kernel_rfl) rfl rfl rfl) ?_
  refine aL_eff (q := true) rfl (e_box rfl rfl rfl (fun b1_1 => ?_))
  simp only [nM, nN]
  refine aL_s true rfl rfl (fun _ => q_assign rfl) (aL_nil (thn_n (awp_ret ?_)))
  refine fin1 [] [0] rfl Tryz.results19 rfl ?_ (.inr rfl)
  exact ⟨rfl, _, rfl, rfl⟩
end Go.Proofs.YtpgcoceggacplaaGreatDoor
