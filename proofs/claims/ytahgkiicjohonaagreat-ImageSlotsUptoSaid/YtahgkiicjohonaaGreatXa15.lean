/- Parts of the proof, in build order. No condition. -/
import Derived.Test.YtahgkiicjohonaaGreatXa08
import Derived.Test.YtahgkiicjohonaaGreatXa14
import Derived.Test.YtahgkiicjohonaaGreatXa05
import Derived.Test.YtahgkiicjohonaaGreatXa09
import Derived.Test.YtahgkiicjohonaaGreatXa10
import Derived.Test.YtahgkiicjohonaaGreatXa11
import Derived.Test.YtahgkiicjohonaaGreatXa04
set_option linter.unusedSimpArgs false
set_option linter.unusedVariables false
set_option maxHeartbeats 1000000
set_option maxRecDepth 20000
namespace Go.Sy
open Go.RowKit Go.Lp
def fJ {σ α : Type} (f : σ → Nat → α → Bool × σ) : σ → Nat → List α → Bool × σ
 | s, _, [] => (true, s)
 | s, i, a :: l => if (f s i a).1 then fJ f (f s i a).2 (i + 1) l else (false, (f s i a).2)
theorem oS {σ α : Type} (f : σ → Nat → α → Bool × σ) {s : σ} {l : List α} {k : Nat} {a : α} (h : l[k]? = some a) : fJ f s k (l.drop k) = if (f s k a).1 then fJ f (f s k a).2 (k + 1) (l.drop (k + 1)) else (false, (f s k a).2) := by
 obtain ⟨h1, h2⟩ := List.getElem?_eq_some_iff.1 h
 rw [List.drop_eq_getElem_cons h1, h2]; rfl
theorem qh {σ α : Type} (f : σ → Nat → α → Bool × σ) {s : σ} {l : List α} {k i : Nat} (h : l.length ≤ k) : fJ f s i (l.drop k) = (true, s) := by rw [List.drop_eq_nil_of_le h]; rfl
theorem Con.addEmp {P : Program} {f : FuncId} {args : List Value} {ps : List Per} {R : Value → List Per → List Res → Prop} (h : Con P f args ps [emp] fun v ps' hp' => hp' = [emp] ∧ R v ps' []) : Con P f args ps [] R := fun w S fp hst =>
 (h w S (fun _ _ => False) ⟨hst.per, fun i R hR => (by
   cases i with
   | zero => simp only [List.getElem?_cons_zero, Option.some.injEq] at hR; subst hR; exact fun _ h => h
   | succ i => simp at hR), fun _ _ _ h => h.elim, fun _ _ _ _ _ _ h => h.elim, hst.slt⟩).mono fun e w' ⟨v, ps', hp', S', fp', he, ⟨hl, hR⟩, hst', hE, _⟩ => by
   subst hl
   exact ⟨v, ps', [], S', fp', he, hR, ⟨hst'.per, fun i R hR => by simp at hR, fun i hi => by simp at hi, fun i j hi => by simp at hi, hst'.slt⟩, hE.wider (fun b ⟨_, _, h⟩ => h.elim), fun b ⟨i, hi, _⟩ => by simp at hi⟩
theorem Con.ofEmp {P : Program} {f : FuncId} {args : List Value} {ps : List Per} {R : Value → List Per → List Res → Prop} (h : Con P f args ps [] fun v ps' hp' => hp' = [] ∧ R v ps' [emp]) : Con P f args ps [emp] R := fun w S fp hst =>
 (h w S fp ⟨hst.per, fun i R hR => by simp at hR, fun i hi => by simp at hi, fun i j hi => by simp at hi, hst.slt⟩).mono fun e w' ⟨v, ps', hp', S', fp', he, ⟨hl, hR⟩, hst', hE, hg⟩ => by
   subst hl
   refine ⟨v, ps', [emp], S', (fun _ _ => False), he, hR, ⟨hst'.per, fun i R hR => ?_, fun _ _ _ h => h.elim, fun _ _ _ _ _ _ h => h.elim, hst'.slt⟩, hE.wider (fun b ⟨i, hi, _⟩ => by simp at hi), fun b ⟨_, _, h⟩ => h.elim⟩
   cases i with
   | zero => simp only [List.getElem?_cons_zero, Option.some.injEq] at hR; subst hR; exact fun _ h => h
   | succ i => simp at hR
def allI {α : Type} (f : Nat → α → Bool) : Nat → List α → Bool
 | _, [] => true
 | i, a :: l => f i a && allI f (i + 1) l
theorem ni {α : Type} (f : Nat → α → Bool) : ∀ (i : Nat) (l : List α), (fJ (fun (_ : Unit) i a => (f i a, ())) () i l).1 = allI f i l
 | _, [] => rfl
 | i, a :: l => by
   unfold fJ allI
   cases h : f i a with
   | true => simp only [if_true, Bool.true_and]; exact ni f (i + 1) l
   | false => rfl
theorem gN {α : Type} {f : Nat → α → Bool} : ∀ {i : Nat} {l : List α}, allI f i l = true ↔ ∀ k a, l[k]? = some a → f (i + k) a = true
 | _, [] => by simp [allI]
 | i, a :: l => by
   unfold allI
   rw [Bool.and_eq_true, gN]
   constructor
   · rintro ⟨h1, h2⟩ k b hk
     cases k with
     | zero => simp at hk; subst hk; exact h1
     | succ k => simp at hk; have := h2 k b hk; rwa [show i + 1 + k = i + (k + 1) by omega] at this
   · intro h
     exact ⟨h 0 a rfl, fun k b hk => by rw [show i + 1 + k = i + (k + 1) by omega]; exact h (k + 1) b (by simpa using hk)⟩
theorem Con.allQ {P : Program} {f : FuncId} {args : List Value} {ps ps0 : List Per} {v : Value} (h : Con P f args ps0 [] fun r _ _ => r = v) (hr : ∀ q ∈ ps0, Ent ps q) : Con P f args ps [emp] fun r ps' hp' => ps' = [] ∧ r = v ∧ hp' = [emp] :=
 Con.ofEmp fun w S fp hst => ((h.pre hr) w S fp hst).mono fun e w' ⟨u, ps', hp', S', fp', he, hu, hst', hE, hg⟩ =>
   ⟨u, [], [], S', fp', he, ⟨rfl, rfl, hu, rfl⟩, ⟨fun p hp => (by cases hp), fun i R hR => by simp at hR, fun i hi => by simp at hi, fun i j hi => by simp at hi, hst'.slt⟩, hE, fun b ⟨i, hi, _⟩ => by simp at hi⟩
theorem Con.pre1 {P : Program} {f : FuncId} {args : List Value} {ps : List Per} {p : Per} {l : List Res} {R : Value → List Per → List Res → Prop} (h : Con P f args [p] l R) (h1 : Ent ps p) : Con P f args ps l R := h.pre fun x hx => by rw [List.mem_singleton.1 hx]; exact h1
theorem Con.pre2 {P : Program} {f : FuncId} {args : List Value} {ps : List Per} {p q : Per} {l : List Res} {R : Value → List Per → List Res → Prop} (h : Con P f args [p, q] l R) (h1 : Ent ps p) (h2 : Ent ps q) : Con P f args ps l R := h.pre fun x hx => by
 rcases List.mem_cons.1 hx with rfl | hx
 · exact h1
 · rw [List.mem_singleton.1 hx]; exact h2
theorem Con.clH {P : Program} {f : FuncId} {args : List Value} {ps : List Per} {hp : List Res} {v : Value} {R : Value → List Per → List Res → Prop} (h : Con P f args ps hp R) (hv : ∀ r ps' hp', R r ps' hp' → r = v) : Con P f args ps hp fun r ps' hp' => ps' = [] ∧ hp' = [] ∧ r = v := fun w S fp hst => (h w S fp hst).mono fun e w' ⟨u, ps', hp', S', fp', he, hu, hst', hE, hg⟩ =>
   ⟨u, [], [], S', fp', he, ⟨rfl, rfl, hv _ _ _ hu⟩, ⟨fun p hp => (by cases hp), fun i R hR => by simp at hR, fun i hi => by simp at hi, fun i j hi => by simp at hi, hst'.slt⟩, hE, fun b ⟨i, hi, _⟩ => by simp at hi⟩
end Go.Sy
namespace Go.Proofs.YtahgkiicjohonaaGreat
open Go.RowKit Go.Lp Go.Sy Go.Lv
open Go.Proofs.Tryz
attribute [local irreducible] aL aB awp aC fwp Quiet
theorem um {σ : Type} (l : Sl Int) (F : FuncId) (caps : List Value) (p : Per) (R : σ → Res) (f : σ → Nat → Int → Bool × σ) (s0 : σ) (hF : dJ Tryz.prog F = true) (h : ∀ (s : σ) (i : Nat) (a : Int), l.l[i]? = some a → Con Tryz.prog F (.int .i64 i :: (.int .i64 a) :: caps) [p] [R s] fun r ps hp => ps = [] ∧ r = .bool (f s i a).1 ∧ hp = [R (f s i a).2]) :
   Con Tryz.prog 88 [l.val, .func (.func F) #[] caps.toArray] [ShF (fun z => [.v (.int .i64 z)]) l, p] [R s0] fun r ps hp => ps = [] ∧ r = .bool (fJ f s0 0 l.l).1 ∧ hp = [R (fJ f s0 0 l.l).2] := by
 obtain ⟨w0, hw0⟩ : ∃ w0, fJ f s0 0 l.l = w0 := ⟨_, rfl⟩
 rw [hw0]
 refine EN2 Tryz.func88 rfl (bQ (.of (aD 0 rfl)) (fun hlen => (aSR (aA rfl (aNs (aSR (aM rfl (aU rfl (aW Tryz.underlying25 rfl) (aM rfl (aNn (aq (aQ [0, 1, 7, 8, 9] [1, 0] [0] (fun (q : Nat × σ) st => (q.1 ≤ l.l.length ∧ fJ f q.2 q.1 (l.l.drop q.1) = w0) ∧ st = ⟨[(0, true, l.val), (1, true, .func (.func F) #[] caps.toArray), (7, true, l.val), (8, true, .int .i64 l.l.length), (9, true, .int .i64 q.1)], [ShF (fun z => [.v (.int .i64 z)]) l, p], [R q.2]⟩) (fun q => l.l.length - q.1) rfl (⟨(0, s0), ⟨Nat.zero_le _, hw0⟩, rfl⟩) ?_))))))))))))
 rintro ⟨k, s⟩ st ⟨⟨hk, hw⟩, rfl⟩
 dsimp only at hk hw ⊢
 refine aSR (aU rfl (bD rfl rfl) (aNs ?_))
 refine ao _ rfl (fun h1 => ?_) (fun h1 => ?_)
 ·skip
  have hk' : k < l.l.length := by simpa using h1
  obtain ⟨a, ha⟩ : ∃ a, l.l[k]? = some a := ⟨_, List.getElem?_eq_getElem hk'⟩
  rw [oS f ha] at hw
  refine ar (an (aj (aq (aSR (aM rfl (UI Tryz.underlying25 tk3 0 rfl rfl rfl rfl rfl (aI ha) rfl rfl (fun ⟨b3_1, o3_1⟩ => (US 0 tk3 0 rfl rfl rfl rfl rfl (aA rfl (aA rfl (aNn (aSR (aM rfl (aM rfl (aM rfl ?_)))))))))))))))
  refine LF rfl (fv [0] [0] hF rfl rfl rfl rfl rfl (h s k a ha) ?_)
  rintro _ _ _ ⟨rfl, rfl, rfl⟩
  refine aST ?_
  refine aU rfl (dp rfl) (aNn ?_)
  refine ao _ rfl (fun h2 => ?_) (fun h2 => ?_)
  ·skip
   have hb : (f s k a).1 = false := by simpa using h2
   rw [hb] at hw
   refine aSR (aA rfl (aNn (az (cM (bu (bu (cM (bu (FZ1 [0] Tryz.results88 rfl ?_)))))))))
   exact ⟨rfl, by rw [← hw]; rfl, by rw [← hw]; rfl⟩
  ·skip
   have hb : (f s k a).1 = true := by simpa using h2
   rw [hb] at hw
   refine ar (bA (an (aa (aU rfl (aX rfl rfl (by omega)) (aM rfl (aNn ?_))))))
   refine ⟨[0, 1, 7, 8, 9], [1, 0], [0], rfl, ?_⟩
   exact ⟨(k + 1, (f s k a).2), ⟨⟨hk', hw⟩, rfl⟩, by dsimp only; omega⟩
 ·skip
  rw [qh f (by simp at h1; omega)] at hw
  refine aR (aS (aS (aZ (an (aSR (aA rfl (aNn (az (FZ1 [0] Tryz.results88 rfl ?_)))))))))
  exact ⟨rfl, by rw [← hw], by rw [← hw]; rfl⟩
theorem jF (l : Sl Int) (F : FuncId) (caps : List Value) (p : Per) (f : Nat → Int → Bool) (hF : dJ Tryz.prog F = true) (h : ∀ (i : Nat) (a : Int), l.l[i]? = some a → Con Tryz.prog F (.int .i64 i :: (.int .i64 a) :: caps) [p] [] fun r _ _ => r = .bool (f i a)) :
   Con Tryz.prog 88 [l.val, .func (.func F) #[] caps.toArray] [ShF (fun z => [.v (.int .i64 z)]) l, p] [] fun r ps hp => ps = [] ∧ hp = [] ∧ r = .bool (allI f 0 l.l) := by
 have := um l F caps p (fun _ : Unit => emp) (fun _ i a => (f i a, ())) () hF fun _ i a ha => (h i a ha).allQ fun q hq => by rw [List.mem_singleton.1 hq]; exact .of (aD 0 rfl)
 rw [ni] at this
 exact Con.addEmp (this.post fun v ps' hp' ⟨h1, h2, h3⟩ => ⟨h3, h1, rfl, h2⟩)
theorem qI {σ : Type} (l : Sl ByteArray) (F : FuncId) (caps : List Value) (p : Per) (R : σ → Res) (f : σ → Nat → ByteArray → Bool × σ) (s0 : σ) (hF : dJ Tryz.prog F = true) (h : ∀ (s : σ) (i : Nat) (a : ByteArray), l.l[i]? = some a → Con Tryz.prog F (.int .i64 i :: (.string a) :: caps) [p] [R s] fun r ps hp => ps = [] ∧ r = .bool (f s i a).1 ∧ hp = [R (f s i a).2]) :
   Con Tryz.prog 108 [l.val, .func (.func F) #[] caps.toArray] [ShF (fun s => [.v (.string s)]) l, p] [R s0] fun r ps hp => ps = [] ∧ r = .bool (fJ f s0 0 l.l).1 ∧ hp = [R (fJ f s0 0 l.l).2] := by
 obtain ⟨w0, hw0⟩ : ∃ w0, fJ f s0 0 l.l = w0 := ⟨_, rfl⟩
 rw [hw0]
 refine EN2 Tryz.func108 rfl (bQ (.of (aD 0 rfl)) (fun hlen => (aSR (aA rfl (aNs (aSR (aM rfl (aU rfl (aW Tryz.underlying27 rfl) (aM rfl (aNn (aq (aQ [0, 1, 7, 8, 9] [1, 0] [0] (fun (q : Nat × σ) st => (q.1 ≤ l.l.length ∧ fJ f q.2 q.1 (l.l.drop q.1) = w0) ∧ st = ⟨[(0, true, l.val), (1, true, .func (.func F) #[] caps.toArray), (7, true, l.val), (8, true, .int .i64 l.l.length), (9, true, .int .i64 q.1)], [ShF (fun s => [.v (.string s)]) l, p], [R q.2]⟩) (fun q => l.l.length - q.1) rfl (⟨(0, s0), ⟨Nat.zero_le _, hw0⟩, rfl⟩) ?_))))))))))))
 rintro ⟨k, s⟩ st ⟨⟨hk, hw⟩, rfl⟩
 dsimp only at hk hw ⊢
 refine aSR (aU rfl (bD rfl rfl) (aNs ?_))
 refine ao _ rfl (fun h1 => ?_) (fun h1 => ?_)
 ·skip
  have hk' : k < l.l.length := by simpa using h1
  obtain ⟨a, ha⟩ : ∃ a, l.l[k]? = some a := ⟨_, List.getElem?_eq_getElem hk'⟩
  rw [oS f ha] at hw
  refine ar (an (aj (aq (aSR (aM rfl (UI Tryz.underlying27 tk9 0 rfl rfl rfl rfl rfl (aI ha) rfl rfl (fun ⟨b3_1, o3_1⟩ => (US 0 tk9 0 rfl rfl rfl rfl rfl (aA rfl (aA rfl (aNn (aSR (aM rfl (aM rfl (aM rfl ?_)))))))))))))))
  refine LF rfl (fv [0] [0] hF rfl rfl rfl rfl rfl (h s k a ha) ?_)
  rintro _ _ _ ⟨rfl, rfl, rfl⟩
  refine aST ?_
  refine aU rfl (dp rfl) (aNn ?_)
  refine ao _ rfl (fun h2 => ?_) (fun h2 => ?_)
  ·skip
   have hb : (f s k a).1 = false := by simpa using h2
   rw [hb] at hw
   refine aSR (aA rfl (aNn (az (cM (bu (bu (cM (bu (FZ1 [0] Tryz.results108 rfl ?_)))))))))
   exact ⟨rfl, by rw [← hw]; rfl, by rw [← hw]; rfl⟩
  ·skip
   have hb : (f s k a).1 = true := by simpa using h2
   rw [hb] at hw
   refine ar (bA (an (aa (aU rfl (aX rfl rfl (by omega)) (aM rfl (aNn ?_))))))
   refine ⟨[0, 1, 7, 8, 9], [1, 0], [0], rfl, ?_⟩
   exact ⟨(k + 1, (f s k a).2), ⟨⟨hk', hw⟩, rfl⟩, by dsimp only; omega⟩
 ·skip
  rw [qh f (by simp at h1; omega)] at hw
  refine aR (aS (aS (aZ (an (aSR (aA rfl (aNn (az (FZ1 [0] Tryz.results108 rfl ?_)))))))))
  exact ⟨rfl, by rw [← hw], by rw [← hw]; rfl⟩
abbrev il : ElT Tryz.prog 51 22 bk := ⟨true, 7, [.string .empty, .string .empty, .int .i64 0, .int .i64 0, .int .i64 0, .string .empty, .string .empty], bk.vs, bk.row, bk.val, tk51, tk22, Tryz.underlying22, el22, by kernel_rfl, by decide, by decide, rfl, fun _ => rfl, fun _ => rfl, fun _ => rfl, fun _ => rfl, fun _ => rfl, fun _ => rfl⟩
abbrev iQ : ElT Tryz.prog 161 31 bE := ⟨true, 2, [.int .i64 0, .int .i64 0], bE.vs, bE.row, bE.val, tk161, tk31, Tryz.underlying31, el31, by kernel_rfl, by decide, by decide, rfl, fun _ => rfl, fun _ => rfl, fun _ => rfl, fun _ => rfl, fun _ => rfl, fun _ => rfl⟩
abbrev ix : ElT Tryz.prog 96 23 bN := ⟨true, 6, [.string .empty, .string .empty, .bool false, .int .i64 0, .int .i64 0, .int .i64 0], bN.vs, bN.row, bN.val, tk96, tk23, Tryz.underlying23, el23, by kernel_rfl, by decide, by decide, rfl, fun _ => rfl, fun _ => rfl, fun _ => rfl, fun _ => rfl, fun _ => rfl, fun _ => rfl⟩
abbrev iw : ElT Tryz.prog 94 24 bY := ⟨true, 5, [.string .empty, .string .empty, .int .i64 0, .bool false, .bool false], bY.vs, bY.row, bY.val, tk94, tk24, Tryz.underlying24, el24, by kernel_rfl, by decide, by decide, rfl, fun _ => rfl, fun _ => rfl, fun _ => rfl, fun _ => rfl, fun _ => rfl, fun _ => rfl⟩
abbrev kI : ElT Tryz.prog 157 29 dA := ⟨true, 4, [.string .empty, .int .i64 0, .int .i64 0, .int .i64 0], dA.vs, dA.row, dA.val, tk157, tk29, Tryz.underlying29, el29, by kernel_rfl, by decide, by decide, rfl, fun _ => rfl, fun _ => rfl, fun _ => rfl, fun _ => rfl, fun _ => rfl, fun _ => rfl⟩
abbrev kP : ElT Tryz.prog 159 30 du := ⟨true, 4, [.int .i64 0, .int .i64 0, .string .empty, .int .i64 0], du.vs, du.row, du.val, tk159, tk30, Tryz.underlying30, el30, by kernel_rfl, by decide, by decide, rfl, fun _ => rfl, fun _ => rfl, fun _ => rfl, fun _ => rfl, fun _ => rfl, fun _ => rfl⟩
abbrev fR : ElT Tryz.prog 192 32 b8 := ⟨true, 6, [.int .i64 0, .int .i64 0, .int .i64 0, .string .empty, .string .empty, .int .i64 0], b8.vs, b8.row, b8.val, tk192, tk32, Tryz.underlying32, el32, by kernel_rfl, by decide, by decide, rfl, fun _ => rfl, fun _ => rfl, fun _ => rfl, fun _ => rfl, fun _ => rfl, fun _ => rfl⟩
abbrev kg : ElT Tryz.prog 198 33 eh := ⟨true, 6, [.int .i64 0, .int .i64 0, .int .i64 0, .string .empty, .int .i64 0, .int .i64 0], eh.vs, eh.row, eh.val, tk198, tk33, Tryz.underlying33, el33, by kernel_rfl, by decide, by decide, rfl, fun _ => rfl, fun _ => rfl, fun _ => rfl, fun _ => rfl, fun _ => rfl, fun _ => rfl⟩
abbrev gL : ElT Tryz.prog 204 34 cC := ⟨true, 4, [.int .i64 0, .int .i64 0, .int .i64 0, .int .i64 0], cC.vs, cC.row, cC.val, tk204, tk34, Tryz.underlying34, el34, by kernel_rfl, by decide, by decide, rfl, fun _ => rfl, fun _ => rfl, fun _ => rfl, fun _ => rfl, fun _ => rfl, fun _ => rfl⟩
abbrev ly : ElT Tryz.prog 65 37 cr := ⟨true, 5, [.string .empty, .string .empty, .string .empty, .slice none 0 0, .int .i64 0], cr.vs, cr.row, cr.val, tk65, tk37, Tryz.underlying37, el37, by kernel_rfl, by decide, by decide, rfl, fun _ => rfl, fun _ => rfl, fun _ => rfl, fun _ => rfl, fun _ => rfl, fun _ => rfl⟩
abbrev jq : ElT Tryz.prog 145 63 dD := ⟨true, 3, [.int .i64 0, .int .i64 0, .int .i64 0], dD.vs, dD.row, dD.val, tk145, tk63, Tryz.underlying63, el63, by kernel_rfl, by decide, by decide, rfl, fun _ => rfl, fun _ => rfl, fun _ => rfl, fun _ => rfl, fun _ => rfl, fun _ => rfl⟩
abbrev gI : ElT Tryz.prog 62 28 aF := ⟨true, 2, [.string .empty, .slice none 0 0], aF.vs, aF.row, aF.val, tk62, tk28, Tryz.underlying28, el28, by kernel_rfl, by decide, by decide, rfl, fun _ => rfl, fun _ => rfl, fun _ => rfl, fun _ => rfl, fun _ => rfl, fun _ => rfl⟩
abbrev tG : ElT Tryz.prog 55 26 fm := ⟨true, 4, [.int .i64 0, .int .i64 0, .int .i64 0, .int .i64 0], fm.vs, fm.row, fm.val, tk55, tk26, Tryz.underlying26, el26, by kernel_rfl, by decide, by decide, rfl, fun _ => rfl, fun _ => rfl, fun _ => rfl, fun _ => rfl, fun _ => rfl, fun _ => rfl⟩
def mh (v0 v1 v2 : Nat) : Code := (.seq (.region 0 #[⟨(.some 4), (.assign (.const (Go.Value.bool false))), 4, "right.go:35", #[], none⟩] false) (.seq (.seq (.region 1 #[⟨(.some 7), (.move (.tmp 0)), v0, "right.go:36", #[], none⟩, ⟨(.some 8), (.call ⟨(Go.Callee.builtin Go.Builtin.len), #[(.tmp 7)], #[v0]⟩), 3, "right.go:36", #[⟨0, Go.Ground.data⟩], none⟩, ⟨(.some 9), (.move (.const (Go.Value.int Go.IntKind.i64 0))), 3, "right.go:36", #[], none⟩] false) (.block 0 (.loop (.seq (.region 2 #[⟨(.some 10), (.binOp Go.BinOp.lss 3 (.tmp 9) (.tmp 8) 3), 0, "right.go:36", #[], none⟩] false) (.seq (.cond (.tmp 10) Go.Code.skip (.exit 0)) (.seq (.block 1 (.seq (.region 3 #[⟨(.some 11), (.move (.tmp 9)), 3, "right.go:36", #[], none⟩, ⟨(.some 12), (.indexAddr v0 (.tmp 7) (.tmp 9)), 0, "right.go:36", #[], none⟩, ⟨(.some 13), (.load v1 (.tmp 12)), v1, "right.go:36", #[⟨1, Go.Ground.data⟩], none⟩, ⟨(.some 6), (.alloc v1), 0, "right.go:36", #[], none⟩, ⟨(.some 5), (.assign (.tmp 11)), 3, "right.go:36", #[⟨0, Go.Ground.data⟩, ⟨0, Go.Ground.phase⟩, ⟨1, Go.Ground.phase⟩, ⟨2, Go.Ground.phase⟩, ⟨3, Go.Ground.phase⟩], none⟩, ⟨none, (.store v1 (.tmp 6) (.tmp 13)), 0, "right.go:36", #[⟨3, Go.Ground.data⟩, ⟨2, Go.Ground.data⟩, ⟨4, Go.Ground.chain⟩, ⟨0, Go.Ground.phase⟩, ⟨1, Go.Ground.phase⟩, ⟨2, Go.Ground.phase⟩, ⟨3, Go.Ground.phase⟩, ⟨4, Go.Ground.phase⟩], none⟩] false) (.seq (.region 4 #[⟨(.some 14), (.move (.tmp 1)), v2, "right.go:37", #[], none⟩, ⟨(.some 15), (.move (.tmp 5)), 3, "right.go:37", #[], none⟩, ⟨(.some 16), (.load v1 (.tmp 6)), v1, "right.go:37", #[], none⟩, ⟨(.some 17), (.call ⟨(Go.Callee.value (.tmp 14)), #[(.tmp 15), (.tmp 16)], #[3, v1]⟩), 4, "right.go:37", #[⟨0, Go.Ground.data⟩, ⟨1, Go.Ground.data⟩, ⟨2, Go.Ground.data⟩], none⟩, ⟨(.some 18), (.unOp Go.UnOp.not 4 (.tmp 17)), 4, "right.go:37", #[⟨3, Go.Ground.data⟩], none⟩] false) (.cond (.tmp 18) (.seq (.region 5 #[⟨(.some 4), (.assign (.const (Go.Value.bool false))), 4, "right.go:38", #[], none⟩] false) Go.Code.ret) Go.Code.skip)))) (.region 6 #[⟨(.some 19), (.binOp Go.BinOp.add 3 (.tmp 9) (.const (Go.Value.int Go.IntKind.i64 1)) 3), 3, "right.go:36", #[], none⟩, ⟨(.some 9), (.move (.tmp 19)), 3, "right.go:36", #[⟨0, Go.Ground.data⟩], none⟩] false))))))) (.seq (.region 7 #[⟨(.some 4), (.assign (.const (Go.Value.bool true))), 4, "right.go:41", #[], none⟩] false) Go.Code.ret)))
theorem eJ {F0 v0 v1 v2 : Nat} {σ α : Type} (X : ElT Tryz.prog v1 v0 α) (hF : isF Tryz.prog F0 (mh v0 v1 v2) 20 #[.tmp 4]) (l : Sl α) (F : FuncId) (caps : List Value) (p : Per) (R : σ → Res) (f : σ → Nat → α → Bool × σ) (s0 : σ) (hFc : dJ Tryz.prog F = true) (h : ∀ (s : σ) (i : Nat) (a : α), l.l[i]? = some a → Con Tryz.prog F (.int .i64 i :: X.vl a :: caps) [p] [R s] fun r ps hp => ps = [] ∧ r = .bool (f s i a).1 ∧ hp = [R (f s i a).2]) :
   Con Tryz.prog F0 [l.val, .func (.func F) #[] caps.toArray] [ShF X.row l, p] [R s0] fun r ps hp => ps = [] ∧ r = .bool (fJ f s0 0 l.l).1 ∧ hp = [R (fJ f s0 0 l.l).2] := by
 obtain ⟨w0, hw0⟩ : ∃ w0, fJ f s0 0 l.l = w0 := ⟨_, rfl⟩
 rw [hw0]
 have tk_v1 := X.tE
 have un_v0 := X.uA
 obtain ⟨fn, hf, hb, hn, hr⟩ := hF
 refine Con.enterG hf hb hn (by simp) ?_
 unfold mh
 show awp _ _ _ _ ⟨[(0, true, _), (1, true, _)], _, _⟩
 refine bQ (.of (aD 0 rfl)) (fun hlen => (aSR (aA rfl (aNs (aSR (aM rfl (aU rfl (aW un_v0 rfl) (aM rfl (aNn (aq (aQ [0, 1, 7, 8, 9] [1, 0] [0] (fun (q : Nat × σ) st => (q.1 ≤ l.l.length ∧ fJ f q.2 q.1 (l.l.drop q.1) = w0) ∧ st = ⟨[(0, true, l.val), (1, true, .func (.func F) #[] caps.toArray), (7, true, l.val), (8, true, .int .i64 l.l.length), (9, true, .int .i64 q.1)], [ShF X.row l, p], [R q.2]⟩) (fun q => l.l.length - q.1) rfl (⟨(0, s0), ⟨Nat.zero_le _, hw0⟩, rfl⟩) ?_)))))))))))
 rintro ⟨k, s⟩ st ⟨⟨hk, hw⟩, rfl⟩
 dsimp only at hk hw ⊢
 refine aSR (aU rfl (bD rfl rfl) (aNs ?_))
 refine ao _ rfl (fun h1 => ?_) (fun h1 => ?_)
 ·skip
  have hk' : k < l.l.length := by simpa using h1
  obtain ⟨a, ha⟩ : ∃ a, l.l[k]? = some a := ⟨_, List.getElem?_eq_getElem hk'⟩
  rw [oS f ha] at hw
  refine ar (an (aj (aq (aSR (aM rfl (iD true rfl rfl (fun _ => bF un_v0 tk_v1 rfl ((.of (aD 0 rfl))) rfl (aI ha) rfl ((X.rl a))) (fun h => absurd h (by decide)) (fun ⟨b3_1, o3_1⟩ => (aU rfl (fV (o := 0) tk_v1 rfl (aD 0 rfl) rfl (X.ldD a)) (LT rfl (bI (zs := X.zs) X.hz rfl (fun b3_3 => (aHN ?_))))))))))))
  refine aA rfl (aT rfl (bg 1 tk_v1 rfl rfl rfl (X.put a) (aHK ?_)))
  refine aNn (aSR (aM rfl (aM rfl (aU rfl (bC 1 tk_v1 rfl rfl (X.ld a)) (LF rfl (fv [0] [0] hFc rfl rfl rfl rfl rfl (h s k a ha) ?_))))))
  rintro _ _ _ ⟨rfl, rfl, rfl⟩
  refine aST ?_
  refine aU rfl (dp rfl) (aNn ?_)
  refine ao _ rfl (fun h2 => ?_) (fun h2 => ?_)
  ·skip
   have hb : (f s k a).1 = false := by simpa using h2
   rw [hb] at hw
   refine aSR (aA rfl (aNn (az (cM (bu (bu (cM (bu ?_))))))))
   refine oO [] [0] rfl hr rfl ?_ (.inr rfl)
   exact ⟨rfl, by rw [← hw]; rfl, by rw [← hw]; rfl⟩
  ·skip
   have hb : (f s k a).1 = true := by simpa using h2
   rw [hb] at hw
   refine ar (bA (an (aa (aU rfl (aX rfl rfl (by omega)) (aM rfl (aNn ?_))))))
   refine ⟨[0, 1, 7, 8, 9], [1, 0], [0], rfl, ?_⟩
   exact ⟨(k + 1, (f s k a).2), ⟨⟨hk', hw⟩, rfl⟩, by dsimp only; omega⟩
 ·skip
  rw [qh f (by simp at h1; omega)] at hw
  refine aR (aS (aS (aZ (an (aSR (aA rfl (aNn (az ?_))))))))
  refine oO [] [0] rfl hr rfl ?_ (.inr rfl)
  exact ⟨rfl, by rw [← hw], by rw [← hw]; rfl⟩
theorem df {F0 v0 v1 v2 : Nat} {α : Type} (X : ElT Tryz.prog v1 v0 α) (hF : isF Tryz.prog F0 (mh v0 v1 v2) 20 #[.tmp 4]) (l : Sl α) (F : FuncId) (caps : List Value) (p : Per) (f : Nat → α → Bool) (hFc : dJ Tryz.prog F = true) (h : ∀ (i : Nat) (a : α), l.l[i]? = some a → Con Tryz.prog F (.int .i64 i :: X.vl a :: caps) [p] [] fun r _ _ => r = .bool (f i a)) :
   Con Tryz.prog F0 [l.val, .func (.func F) #[] caps.toArray] [ShF X.row l, p] [] fun r ps hp => ps = [] ∧ hp = [] ∧ r = .bool (allI f 0 l.l) := by
 have := eJ X hF l F caps p (fun _ : Unit => emp) (fun _ i a => (f i a, ())) () hFc fun _ i a ha => (h i a ha).allQ fun q hq => by rw [List.mem_singleton.1 hq]; exact .of (aD 0 rfl)
 rw [ni] at this
 exact Con.addEmp (this.post fun v ps' hp' ⟨h1, h2, h3⟩ => ⟨h3, h1, rfl, h2⟩)
theorem ot : isF Tryz.prog 93 (mh 22 51 169) 20 #[.tmp 4] := ⟨_, Tryz.func93, rfl, Tryz.ntmps93, Tryz.results93⟩
theorem oA : type_of% (df il ot) := df il ot
theorem lf : isF Tryz.prog 115 (mh 31 161 189) 20 #[.tmp 4] := ⟨_, Tryz.func115, rfl, Tryz.ntmps115, Tryz.results115⟩
theorem tg {σ : Type} : type_of% (@eJ _ _ _ _ σ _ iQ lf) := eJ iQ lf
theorem q7 : type_of% (df iQ lf) := df iQ lf
theorem nX : isF Tryz.prog 98 (mh 23 96 177) 20 #[.tmp 4] := ⟨_, Tryz.func98, rfl, Tryz.ntmps98, Tryz.results98⟩
theorem qG {σ : Type} : type_of% (@eJ _ _ _ _ σ _ ix nX) := eJ ix nX
theorem nU : isF Tryz.prog 103 (mh 24 94 180) 20 #[.tmp 4] := ⟨_, Tryz.func103, rfl, Tryz.ntmps103, Tryz.results103⟩
theorem qQ {σ : Type} : type_of% (@eJ _ _ _ _ σ _ iw nU) := eJ iw nU
theorem rz : isF Tryz.prog 110 (mh 29 157 185) 20 #[.tmp 4] := ⟨_, Tryz.func110, rfl, Tryz.ntmps110, Tryz.results110⟩
theorem ri : type_of% (df kI rz) := df kI rz
theorem rE : isF Tryz.prog 113 (mh 30 159 187) 20 #[.tmp 4] := ⟨_, Tryz.func113, rfl, Tryz.ntmps113, Tryz.results113⟩
theorem qT : type_of% (df kP rE) := df kP rE
theorem iV : isF Tryz.prog 119 (mh 32 192 195) 20 #[.tmp 4] := ⟨_, Tryz.func119, rfl, Tryz.ntmps119, Tryz.results119⟩
theorem qP {σ : Type} : type_of% (@eJ _ _ _ _ σ _ fR iV) := eJ fR iV
theorem oB : type_of% (df fR iV) := df fR iV
theorem mu : isF Tryz.prog 123 (mh 33 198 201) 20 #[.tmp 4] := ⟨_, Tryz.func123, rfl, Tryz.ntmps123, Tryz.results123⟩
theorem ve {σ : Type} : type_of% (@eJ _ _ _ _ σ _ kg mu) := eJ kg mu
theorem tm : type_of% (df kg mu) := df kg mu
theorem jM : isF Tryz.prog 127 (mh 34 204 207) 20 #[.tmp 4] := ⟨_, Tryz.func127, rfl, Tryz.ntmps127, Tryz.results127⟩
theorem qX {σ : Type} : type_of% (@eJ _ _ _ _ σ _ gL jM) := eJ gL jM
theorem qg : type_of% (df gL jM) := df gL jM
theorem rH : isF Tryz.prog 129 (mh 37 65 211) 20 #[.tmp 4] := ⟨_, Tryz.func129, rfl, Tryz.ntmps129, Tryz.results129⟩
theorem qV : type_of% (df ly rH) := df ly rH
theorem pU : isF Tryz.prog 131 (mh 63 145 210) 20 #[.tmp 4] := ⟨_, Tryz.func131, rfl, Tryz.ntmps131, Tryz.results131⟩
theorem qj : type_of% (df jq pU) := df jq pU
end Go.Proofs.YtahgkiicjohonaaGreat

namespace Go.Proofs.YtahgkiicjohonaaGreat
open Go.RowKit Go.Lp Go.Sy Go.Lv
def iT (n : Int) : Int := if n < -1152921504606846976 ∨ 1152921504606846976 < n then n else n - n % 256
def upF (n : Int) : Int := if iT n ≠ n then iT n + 256 else n
def upB (n : Int) : Bool := decide (upF n = n)
def ic (n lo hi : Int) : Bool := decide (lo ≤ n) && decide (n ≤ hi)
theorem mj {n lo hi : Int} : ic n lo hi = true ↔ lo ≤ n ∧ n ≤ hi := by unfold ic; simp
def gj (k : Int) : Bool := (decide (k = 0) || decide (k = 1)) || decide (k = 2)
def dM (k : Int) : Int := if (decide (k = 1) || decide (k = 2)) = true then 4 else 8
def instrB (c n : Int) : Bool := ic n 0 (c - 8) && decide (n.tmod 8 = 0)
def mO (s : ByteArray) : Bool := decide ((s.size : Int) ≤ 64)
def mN (s : ByteArray) : Bool := decide (s = ⟨#[]⟩) || eQ s
def lW (im : ax) : Bool := ((((((((upB im.code && (upB im.data && upB im.zero)) && decide (0 ≤ im.code)) && decide (im.code ≤ im.data)) && decide (im.data ≤ im.zero)) && decide (im.zero ≤ 1048576)) && decide ((im.bytes.size : Int) = im.data)) && ic im.block im.tls.size 1048576) && eQ im.name)
structure eY (im : ax) : Prop where
 up : upB im.code = true ∧ upB im.data = true ∧ upB im.zero = true
 c0 : 0 ≤ im.code
 cd : im.code ≤ im.data
 dz : im.data ≤ im.zero
 zm : im.zero ≤ 1048576
 by_ : (im.bytes.size : Int) = im.data
 bl : (im.tls.size : Int) ≤ im.block ∧ im.block ≤ 1048576
 nm : eQ im.name = true
theorem fM {im : ax} : lW im = true ↔ eY im := by
 unfold lW
 simp only [Bool.and_eq_true, decide_eq_true_eq, mj]
 constructor
 · rintro ⟨⟨⟨⟨⟨⟨⟨⟨h1, h2, h3⟩, h4⟩, h5⟩, h6⟩, h7⟩, h8⟩, h9⟩, h10⟩
   exact ⟨⟨h1, h2, h3⟩, h4, h5, h6, h7, h8, h9, h10⟩
 · rintro ⟨⟨h1, h2, h3⟩, h4, h5, h6, h7, h8, h9, h10⟩
   exact ⟨⟨⟨⟨⟨⟨⟨⟨h1, h2, h3⟩, h4⟩, h5⟩, h6⟩, h7⟩, h8⟩, h9⟩, h10⟩
open Go.Proofs.Tryz
attribute [local irreducible] aL aB awp aC fwp Quiet
theorem zq (n : Int) (hn : I64 n) : Con Tryz.prog 165 [.int .i64 n, .int .i64 256] [] [] fun r _ _ => r = .int .i64 (iT n) := by
 refine EN2 Tryz.func165 rfl (aSR (aA rfl (aNs (aSR (aM rfl (aU rfl (bD rfl rfl) (aM rfl (aG rfl rfl (fun hc => aP rfl) (aG rfl rfl (fun hc => cJ (ae rfl hc) rfl) (aU rfl (cK rfl rfl (fun h => gf rfl h)) (aM rfl (aG rfl rfl (fun hc => aP rfl) ?_))))))))))))
 refine aG rfl rfl (fun hc => bD (ae rfl hc) rfl) (aU rfl (cK rfl rfl (fun h => gf rfl h)) (aM rfl (aG rfl rfl (fun hc => aP rfl) (aG rfl rfl (fun hc => cJ (ae rfl hc) rfl) (aU rfl (cK rfl rfl (fun h => gf rfl h)) (aNn ?_))))))
 refine ao _ rfl (fun h1 => ?_) (fun h1 => ?_)
 ·skip
  have hb : n < -1152921504606846976 ∨ 1152921504606846976 < n := by simp at h1; omega
  refine aSR (aM rfl (aA rfl (aNn (az (bu (FZ1 [] Tryz.results165 rfl ?_))))))
  unfold iT; rw [if_pos hb]
 ·skip
  have hb : ¬ (n < -1152921504606846976 ∨ 1152921504606846976 < n) := by simp at h1; omega
  have ht : n.tmod 256 = if n % 256 = 0 ∨ 0 ≤ n then n % 256 else n % 256 - 256 := by
    have e : (256 : Int).natAbs = 256 := rfl
    rw [Int.tmod_eq_emod, e]; split <;> split <;> omega
  refine ar (an (aSR (aM rfl (aM rfl (aU rfl (iF rfl rfl (by decide)) (aA rfl (aNs (aSR (aM rfl (aU rfl (bD rfl rfl) (aNn ?_)))))))))))
  refine ao _ rfl (fun h2 => ?_) (fun h2 => ?_)
  ·skip
   have hneg : n.tmod 256 < 0 := by simpa using h2
   have ht2 : n.tmod 256 + 256 = n % 256 := by rw [ht] at hneg ⊢; split at hneg <;> omega
   refine aa (aM rfl (aM rfl (aU rfl (aX rfl rfl (by omega)) (aA rfl (aNn (aSR (aM rfl (aM rfl (aU rfl (cU rfl rfl (by omega)) (aA rfl (aNn (az (FZ1 [] Tryz.results165 rfl ?_)))))))))))))
   unfold iT; rw [if_neg hb, ← ht2]
  ·skip
   have hneg : ¬ n.tmod 256 < 0 := by simpa using h2
   have ht2 : n.tmod 256 = n % 256 := by rw [ht] at hneg ⊢; split at hneg <;> omega
   refine ar (an (aSR (aM rfl (aM rfl (aU rfl (cU rfl rfl (by omega)) (aA rfl (aNn (az (FZ1 [] Tryz.results165 rfl ?_)))))))))
   unfold iT; rw [if_neg hb, ← ht2]
theorem acq (n : Int) (hn : I64 n) : Con Tryz.prog 90 [.int .i64 n, .int .i64 256] [] [] fun r _ _ => r = .int .i64 (upF n) := by
 have hd : iT n = n ∨ iT n ≤ 1152921504606846976 := by unfold iT; split <;> omega
 have hd2 : iT n ≠ n → -1152921504606846976 - 256 ≤ iT n := by unfold iT; split <;> omega
 refine EN2 Tryz.func90 rfl (aSR (aA rfl (aNs (aSR (aM rfl (aM rfl (aU rfl (Q0 rfl (zq n hn)) (aA rfl (aNn (aSR (aM rfl (aM rfl (aU rfl (eG rfl rfl) (aNn ?_))))))))))))))
 refine ao _ rfl (fun h1 => ?_) (fun h1 => ?_)
 ·skip
  have hb : iT n ≠ n := by simpa using h1
  have hd3 := hd2 hb
  refine aSR (aM rfl (aM rfl (aU rfl (aX rfl rfl (by omega)) (aA rfl (aNn (az (bu (FZ1 [] Tryz.results90 rfl ?_))))))))
  unfold upF; rw [if_pos hb]
 ·skip
  have hb : ¬ iT n ≠ n := by simpa using h1
  refine ar (an (aSR (aM rfl (aA rfl (aNn (az (FZ1 [] Tryz.results90 rfl ?_)))))))
  unfold upF; rw [if_neg hb]
theorem wZ (i n : Int) (hn : I64 n) : Con Tryz.prog 89 [.int .i64 i, .int .i64 n] [] [] fun r _ _ => r = .bool (upB n) := by
 refine EN2 Tryz.func89 rfl (aSR (aA rfl (aNn (aSR (aM rfl (aU rfl (Q0 rfl (acq n hn)) (aM rfl (aU rfl (ck rfl rfl) (aA rfl (aNn (az (FZ1 [] Tryz.results89 rfl ?_))))))))))))
 rfl
theorem gn (s : ByteArray) (hs : s.size ≤ maxLen) : Con Tryz.prog 92 [.string s] [] [] fun r _ _ => r = .bool (eQ s) := by
 have hok : ∀ ps : List Per, Ent ps (aF.ok ⟨s, ⟨none, 0, []⟩⟩) := fun ps w S hp => ⟨hs, fe.e none 0 (Nat.zero_le _), fun x hx => by cases hx⟩
 refine EN1 Tryz.func92 rfl (aSR (aA rfl (aNn (aSR (aM rfl (aU rfl (fZ (l := [(0, .tmp 3)]) (zs := [.string .empty, .slice none 0 0]) (pl := [(0, 1), (1, 1)]) (by kernel_rfl) (by kernel_rfl) (by kernel_rfl) rfl rfl rfl) (LT rfl (WL (zs := [.string .empty, .slice none 0 0]) el28 rfl rfl rfl (.more rfl (.v rfl (.v rfl .nil)) .nil) rfl rfl (fun v1_2 => (aHN ?_))))))))))
 refine er 0 rfl ?_
 refine LT rfl (EC [0] [] rfl ((pk ⟨v1_2, 1, [⟨s, ⟨none, 0, []⟩⟩]⟩).pre (fun p hp => by
   rcases List.mem_cons.1 hp with rfl | hp
   · exact .of (aD 0 rfl)
   · rw [List.mem_singleton.1 hp]
     exact fun w S hp x hx => (by rw [List.mem_singleton.1 hx]; exact hok _ w S hp))) ?_)
 rintro _ _ _ ⟨⟨rfl, rfl⟩, b, rfl, hb1, hb2⟩
 refine aST ?_
 refine aA rfl (aNn (az (FZ1 [] Tryz.results92 rfl (congrArg Value.bool ?_))))
 cases hn : eQ s with
 | true => exact hb2 ⟨Nat.le_refl _, fun d hd => by rw [List.mem_singleton.1 hd]; exact hn, fun d hd => by rw [List.mem_singleton.1 hd]⟩
 | false =>
   cases b with
   | false => rfl
   | true => have := (hb1 rfl).nm _ (List.mem_singleton.2 rfl); rw [hn] at this; cases this
theorem jZ (s : ByteArray) (hs : s.size ≤ maxLen) : Con Tryz.prog 102 [.string s] [] [] fun r _ _ => r = .bool (mN s) := by
 refine EN1 Tryz.func102 rfl (aSR (aA rfl (aNn (aSR (aM rfl (aU rfl (iY rfl rfl) (aM rfl (aG rfl rfl (fun hc => aP rfl) (aG rfl rfl (fun hc => Q0 (aJ (ae rfl hc) rfl) (gn s hs)) (aU rfl (cK rfl rfl (fun h => gf rfl h)) (aA rfl (aNn (az (FZ1 [] Tryz.results102 rfl ?_))))))))))))))
 rfl
theorem je (s : ByteArray) : Con Tryz.prog 112 [.string s] [] [] fun r _ _ => r = .bool (mO s) := by
 refine EN1 Tryz.func112 rfl (aSR (aA rfl (aNn (aSR (aM rfl (aU rfl (cj Tryz.underlying9 rfl) (aU rfl (eF rfl rfl) (aA rfl (aNn (az (FZ1 [] Tryz.results112 rfl ?_)))))))))))
 rfl
theorem dg (n lo hi : Int) : Con Tryz.prog 91 [.int .i64 n, .int .i64 lo, .int .i64 hi] [] [] fun r _ _ => r = .bool (ic n lo hi) := by
 refine EN3 Tryz.func91 rfl (aSR (aA rfl (aNn (aSR (aM rfl (aM rfl (aU rfl (fk rfl rfl) (aM rfl (aG rfl rfl (fun hc => aP rfl) (aG rfl rfl (fun hc => aP rfl) (aG rfl rfl (fun hc => eF (ae rfl hc) (ae rfl hc)) (aU rfl (bp rfl rfl (fun h => gt rfl h)) (aA rfl (aNn (az ?_)))))))))))))))
 refine FZ1 [] Tryz.results91 rfl ?_
 rfl
theorem rC (k : Int) : Con Tryz.prog 49 [.int .i64 k] [] [] fun r _ _ => r = .bool (gj k) := by
 refine EN1 Tryz.func49 rfl (aSR (aA rfl (aNn (aSR (aM rfl (aU rfl (ck rfl rfl) (aM rfl (aG rfl rfl (fun hc => aP rfl) (aG rfl rfl (fun hc => ck (ae rfl hc) rfl) (aU rfl (cK rfl rfl (fun h => gf rfl h)) (aM rfl (aG rfl rfl (fun hc => aP rfl) (aG rfl rfl (fun hc => ck (ae rfl hc) rfl) ?_)))))))))))))
 refine aU rfl (cK rfl rfl (fun h => gf rfl h)) (aA rfl (aNn (az (FZ1 [] Tryz.results49 rfl ?_))))
 rfl
theorem qk (k : Int) : Con Tryz.prog 105 [.int .i64 k] [] [] fun r _ _ => r = .int .i64 (dM k) := by
 refine EN1 Tryz.func105 rfl (aSR (aA rfl (aNs (aSR (aM rfl (aU rfl (ck rfl rfl) (aM rfl (aG rfl rfl (fun hc => aP rfl) (aG rfl rfl (fun hc => ck (ae rfl hc) rfl) (aU rfl (cK rfl rfl (fun h => gf rfl h)) (aNn ?_)))))))))))
 refine ao _ rfl (fun h1 => ?_) (fun h1 => ?_)
 ·skip
  refine aSR (aA rfl (aNn (az (bu (FZ1 [] Tryz.results105 rfl ?_)))))
  unfold dM; rw [if_pos h1]
 ·skip
  refine ar (an (aSR (aA rfl (aNn (az (FZ1 [] Tryz.results105 rfl ?_))))))
  unfold dM; rw [if_neg (by rw [h1]; decide)]
theorem con_instr (im : ax) (hc : 0 ≤ im.code ∧ im.code ≤ 9223372036854775807) (n : Int) : Con Tryz.prog 96 [im.val, .int .i64 n] [] [] fun r _ _ => r = .bool (instrB im.code n) := by
 refine EN2 Tryz.func96 rfl (aSR (LT rfl (cx rfl rfl rfl (fun b0_0 => (aHN ?_)))))
 refine aA rfl (aNn (aSR (aM rfl (UO 2 rfl rfl (UL 0 tk3 rfl rfl rfl rfl (aU rfl (cU rfl rfl (by omega)) (aU rfl (Q0 rfl (dg n 0 (im.code - 8))) (aM rfl (aG rfl rfl (fun hc => aP rfl) (aG rfl rfl (fun hc => iF (ae rfl hc) rfl (by decide)) (aG rfl rfl (fun hc => ck (ae rfl hc) rfl) (aU rfl (bp rfl rfl (fun h => gt rfl h)) (aA rfl (aNn (az ?_)))))))))))))))
 refine FZ1 [] Tryz.results96 rfl ?_
 rfl
theorem yS (im : ax) (hn : im.name.size ≤ maxLen) (hi : I64 im.code ∧ I64 im.data ∧ I64 im.zero) : Con Tryz.prog 40 [im.val] [] [] fun r _ _ => r = .bool (lW im) := by
 refine EN1 Tryz.func40 rfl (aSR (LT rfl (cx rfl rfl rfl (fun b0_0 => (aHN ?_)))))
 refine aA rfl (aNn (aSR (UO 2 rfl rfl (UL 0 tk3 rfl rfl rfl rfl (UO 3 rfl rfl (UL 0 tk3 rfl rfl rfl rfl (UO 4 rfl rfl (UL 0 tk3 rfl rfl rfl rfl (LT rfl (WL (zs := [.int .i64 0]) el25 rfl rfl rfl (.more rfl (.v rfl .nil) (.more rfl (.v rfl .nil) (.more rfl (.v rfl .nil) .nil))) rfl rfl (fun v1_6 => (aHN ?_))))))))))))
 refine er 1 rfl ?_
 refine LT rfl (EC [0, 0] [] rfl ((jF ⟨v1_6, 3, [im.code, im.data, im.zero]⟩ 89 [] (ShF (fun z => [.v (.int .i64 z)]) ⟨v1_6, 3, [im.code, im.data, im.zero]⟩) (fun _ n => upB n) (by kernel_rfl) (fun i a ha => (wZ i a (by
   have := List.mem_of_getElem? ha
   simp at this
   rcases this with rfl | rfl | rfl
   · exact hi.1
   · exact hi.2.1
   · exact hi.2.2)).pre (fun _ h => by cases h)))) ?_)
 rintro _ _ _ ⟨rfl, rfl, rfl⟩
 refine aST ?_
 refine aA rfl (aNn (aSR (aM rfl (aM rfl (GO 2 rfl rfl rfl (GL 0 tk3 rfl rfl rfl rfl rfl (aG rfl rfl (fun hc => eF rfl (ae rfl hc)) (aU rfl (bp rfl rfl (fun h => gt rfl h)) (aM rfl (GO 2 rfl rfl rfl (GL 0 tk3 rfl rfl rfl rfl rfl (GO 3 rfl rfl rfl ?_))))))))))))
 refine GL 0 tk3 rfl rfl rfl rfl rfl (aG rfl rfl (fun hc => eF (ae rfl hc) (ae rfl hc)) (aU rfl (bp rfl rfl (fun h => gt rfl h)) (aM rfl (GO 3 rfl rfl rfl (GL 0 tk3 rfl rfl rfl rfl rfl (GO 4 rfl rfl rfl (GL 0 tk3 rfl rfl rfl rfl rfl (aG rfl rfl (fun hc => eF (ae rfl hc) (ae rfl hc)) (aU rfl (bp rfl rfl (fun h => gt rfl h)) (aM rfl (GO 4 rfl rfl rfl (GL 0 tk3 rfl rfl rfl rfl rfl (aG rfl rfl (fun hc => eF (ae rfl hc) rfl) (aU rfl (bp rfl rfl (fun h => gt rfl h)) (aM rfl ?_)))))))))))))))
 refine GO 5 rfl rfl rfl (GL 0 tk9 rfl rfl rfl rfl rfl (aG rfl rfl (fun hc => cj Tryz.underlying9 (ae rfl hc)) (GO 3 rfl rfl rfl (GL 0 tk3 rfl rfl rfl rfl rfl (aG rfl rfl (fun hc => ck (ae rfl hc) (ae rfl hc)) (aU rfl (bp rfl rfl (fun h => gt rfl h)) (aM rfl (GO 7 rfl rfl rfl (GL 0 tk3 rfl rfl rfl rfl rfl (GO 6 rfl rfl rfl (GL 0 tk9 rfl rfl rfl rfl rfl (aG rfl rfl (fun hc => cj Tryz.underlying9 (ae rfl hc)) (aG rfl rfl (fun hc => eK (by kernel_rfl) (aJ (ae rfl hc) (aJ (ae rfl hc) (aJ (ae rfl rfl) rfl))) (fun w S fp hst => (dg _ _ _).quiet0 hst)) (aU rfl (bp rfl rfl (fun h => gt rfl h)) (aM rfl ?_)))))))))))))))
 refine GO 0 rfl rfl rfl (GL 0 tk9 rfl rfl rfl rfl rfl (aG rfl rfl (fun hc => Q0 (aJ (ae rfl hc) rfl) (gn _ hn)) (aU rfl (bp rfl rfl (fun h => gt rfl h)) (aA rfl (aNn (az (FZ1 [] Tryz.results40 rfl (congrArg Value.bool ?_))))))))
 unfold lW
 simp [allI]
end Go.Proofs.YtahgkiicjohonaaGreat

namespace Go.Proofs.YtahgkiicjohonaaGreat
open Go.RowKit Go.Lp Go.Sy Go.Lv
theorem ya {α : Type} [DecidableEq α] {l : List α} {a : α} : (fc l a).getD false = true ↔ a ∈ l := by unfold fc; by_cases h : a ∈ l <;> simp [h]
def lJ (a b : bE) : Bool := decide (a.at_ + a.size ≤ b.at_) || decide (b.at_ + b.size ≤ a.at_)
theorem wM {a b : bE} (h : lJ a b = true) : lJ b a = true := by unfold lJ at *; rw [Bool.or_comm]; exact h
def kj : List bE → Bool
 | [] => true
 | a :: l => l.all (lJ a) && kj l
theorem kO : ∀ {l : List bE}, kj l = true ↔ l.Pairwise fun a b => lJ a b = true
 | [] => by simp [kj]
 | a :: l => by rw [kj, Bool.and_eq_true, List.all_eq_true, List.pairwise_cons, kO]
def eS (s : bE) : Bool := !decide (s.size ≤ 0)
def qd (l : List bE) : Bool := kj (l.filter eS)
def abL (q : List bE) (i : Nat) (a : bE) : Bool := decide ((i : Int) = 0) || decide ((elt q ((i : Int) - 1)).at_ + (elt q ((i : Int) - 1)).size ≤ a.at_)
theorem wF {l m : List bE} (h : l.Perm m) : kj l = kj m := by
 rw [Bool.eq_iff_iff, kO, kO]
 exact h.pairwise_iff fun h => wM h
theorem pO : ∀ {q : List bE}, (∀ s ∈ q, eS s = true) → (q.Pairwise fun a b => a.at_ ≤ b.at_) → ((∀ k a b, q[k]? = some a → q[k + 1]? = some b → a.at_ + a.size ≤ b.at_) ↔ kj q = true)
 | [], _, _ => by simp [kj]
 | [a], _, _ => by simp [kj]
 | a :: b :: q, hf, hs => by
   have ih := pO (q := b :: q) (fun s hs => hf s (List.mem_cons_of_mem _ hs)) (List.pairwise_cons.1 hs).2
   have ha : ¬ a.size ≤ 0 := by have := hf a (by simp); simpa [eS] using this
   have hb : ¬ b.size ≤ 0 := by have := hf b (by simp); simpa [eS] using this
   rw [List.pairwise_cons] at hs
   have hab := hs.1 b (by simp)
   have hbc := (List.pairwise_cons.1 hs.2).1
   rw [kj, Bool.and_eq_true, ← ih, List.all_eq_true]
   constructor
   · intro h
     have h0 := h 0 a b rfl rfl
     refine ⟨fun s hm => ?_, fun k x y hx hy => h (k + 1) x y (by simpa using hx) (by simpa using hy)⟩
     unfold lJ
     rw [Bool.or_eq_true, decide_eq_true_eq]
     rcases List.mem_cons.1 hm with rfl | hm
     · exact .inl h0
     · have := hbc s hm; left; omega
   · rintro ⟨h1, h2⟩ k x y hx hy
     cases k with
     | zero =>
       simp at hx hy; subst hx; subst hy
       have := h1 b (by simp)
       unfold lJ at this
       rw [Bool.or_eq_true, decide_eq_true_eq, decide_eq_true_eq] at this
       rcases this with h | h
       · exact h
       · omega
     | succ k => exact h2 k x y (by simpa using hx) (by simpa using hy)
theorem tV {l q : List bE} (hp : q.Perm (l.filter eS)) (hs : q.Pairwise fun a b => ¬ sU b.at_ a.at_ < 0) : allI (abL q) 0 q = qd l := by
 unfold qd
 rw [← wF hp, Bool.eq_iff_iff, gN, ← pO (fun s h => (List.mem_filter.1 (hp.mem_iff.1 h)).2) (hs.imp fun h => by rw [uq] at h; omega)]
 constructor
 · intro h k a b ha hb
   have := h (k + 1) b hb
   have hk := (List.getElem?_eq_some_iff.1 ha).1
   have he : elt q (((0 + (k + 1) : Nat) : Int) - 1) = a := by
     rw [show (((0 + (k + 1) : Nat) : Int) - 1) = (k : Int) by omega]
     unfold elt; rw [List.getD_eq_getElem?_getD, Int.toNat_natCast, ha]; rfl
   unfold abL at this
   rw [he, Bool.or_eq_true, decide_eq_true_eq, decide_eq_true_eq] at this
   rcases this with h | h
   · omega
   · exact h
 · intro h k b hb
   unfold abL
   rw [Bool.or_eq_true, decide_eq_true_eq, decide_eq_true_eq]
   cases k with
   | zero => left; rfl
   | succ k =>
     right
     have hk := (List.getElem?_eq_some_iff.1 hb).1
     have ha : q[k]? = some q[k] := List.getElem?_eq_getElem (by omega)
     have he : elt q (((0 + (k + 1) : Nat) : Int) - 1) = q[k] := by
       rw [show (((0 + (k + 1) : Nat) : Int) - 1) = (k : Int) by omega]
       unfold elt; rw [List.getD_eq_getElem?_getD, Int.toNat_natCast, ha]; rfl
     rw [he]; exact h k _ b ha hb
structure mn (g : bE → Bool) (zs ys : List bE) (w r : Nat) : Prop where
 ln : ys.length = zs.length
 wr : w < r
 rl : r ≤ zs.length
 kp : ys.take w = (zs.take r).filter fun a => !g a
 rs : ys.drop r = zs.drop r
section
variable {g : bE → Bool} {zs ys : List bE} {w r i : Nat} {a : bE}
theorem mn.start (ha : zs[i]? = some a) (hg : g a = true) (h : ∀ b ∈ zs.take i, g b = false) : mn g zs zs i (i + 1) := by
 have hi := (List.getElem?_eq_some_iff.1 ha).1
 refine ⟨rfl, Nat.lt_succ_self _, hi, ?_, rfl⟩
 rw [List.take_add_one, ha, Option.toList_some, List.filter_append, List.filter_eq_self.2 fun b hb => by rw [h b hb]; rfl]
 simp [hg]
theorem mn.get (h : mn g zs ys w r) (hr : r < zs.length) : ys[r]? = zs[r]? := by
 have := congrArg (·[0]?) h.rs
 simpa [List.getElem?_drop] using this
theorem mn.keep (h : mn g zs ys w r) (ha : zs[r]? = some a) (hg : g a = false) : mn g zs (ys.set w a) (w + 1) (r + 1) := by
 have hr := (List.getElem?_eq_some_iff.1 ha).1
 have hln := h.ln
 have hwr := h.wr
 refine ⟨by rw [List.length_set]; exact hln, by omega, hr, ?_, ?_⟩
 · rw [List.take_add_one, List.getElem?_set_self (by omega), List.take_set_of_le (Nat.le_refl _), h.kp, List.take_add_one, ha]
   simp [hg]
 · rw [List.drop_set_of_lt (by omega)]
   have := congrArg (List.drop 1) h.rs
   rwa [List.drop_drop, List.drop_drop] at this
theorem mn.drop (h : mn g zs ys w r) (ha : zs[r]? = some a) (hg : g a = true) : mn g zs ys w (r + 1) := by
 have hr := (List.getElem?_eq_some_iff.1 ha).1
 have hwr := h.wr
 refine ⟨h.ln, by omega, hr, ?_, ?_⟩
 · rw [h.kp, List.take_add_one, ha]; simp [hg]
 · have := congrArg (List.drop 1) h.rs
   rwa [List.drop_drop, List.drop_drop] at this
theorem mn.all (h : mn g zs ys w r) (hr : zs.length ≤ r) : ys.take w = zs.filter fun a => !g a := by rw [h.kp, List.take_of_length_le hr]
end

abbrev pV (p : Int × Int) : Value := .agg #[.int .i64 p.1, .int .i64 p.2]
def vJ (im : ax) (k : Int) : Int := if k = 1 then im.code else if k = 2 then im.data else 0
def vR (im : ax) (k : Int) : Int := if k = 0 then im.code else if k = 1 then im.data else if k = 2 then im.zero else im.block
theorem aaY (im : ax) {k : Int} (h : 0 ≤ k ∧ k ≤ 4) : (gU (gU (gU (gU (gU (fun _ => none) 0 ((0 : Int), im.code)) 1 (im.code, im.data)) 2 (im.data, im.zero)) 3 ((0 : Int), im.block)) 4 ((0 : Int), im.block) k).getD ((0 : Int), (0 : Int)) = (vJ im k, vR im k) := by
 unfold gU vJ vR
 rcases (by omega : k = 0 ∨ k = 1 ∨ k = 2 ∨ k = 3 ∨ k = 4) with rfl | rfl | rfl | rfl | rfl <;> simp
def ig (x : bk) : Bool := ((((((!ic x.kind 0 4) || (!eQ x.sec)) || (!mN x.obj)) || (!decide ((x.digest.size : Int) = 32))) || ((!decide ((x.form.size : Int) = 0)) && (!decide ((x.form.size : Int) = 32)))) || (!ic x.size 0 1048576)) || (!ic x.at_ 0 1048576)
def vN (im : ax) (x : bk) : Bool := (decide (vJ im x.kind ≤ x.at_) && decide (x.at_ + x.size ≤ vR im x.kind)) && ((!decide (x.kind = 0)) || decide (x.at_.tmod 8 = 0))
def gW (im : ax) (x : bk) : Bool := (!ig x) && vN im x
theorem j7 {x : bk} (h : ig x = false) : (0 ≤ x.kind ∧ x.kind ≤ 4) ∧ (0 ≤ x.size ∧ x.size ≤ 1048576) ∧ (0 ≤ x.at_ ∧ x.at_ ≤ 1048576) := by
 unfold ig at h
 simp only [Bool.or_eq_false_iff, Bool.not_eq_false', mj] at h
 exact ⟨h.1.1.1.1.1.1, h.1.2, h.2⟩
end Go.Proofs.YtahgkiicjohonaaGreat

namespace Go.Sy
open Go.RowKit Go.Lp
section
variable {P : Program} {n : Fr} {env : Env} {ps : List Per} {hp : List Res} {d : Option Tmp} {ty : TypeId} {pos : String} {af : Array Edge} {gd : Option (Nat × Bool)} {K : Sta → Prop}
theorem we {x : Operand} {T E : TypeId} {sz k B m cp c' o m' : Nat} {rows : List (List D)} {zs : List Value} (i : Nat) (hel : elB P T E sz = true) (hz : eO P E = some zs) (h1 : zs.all (·.oneCell') = true) (hzl : zs.length = sz) (ho : o = k * sz) (hm' : m' = m - k)
   (hx : ev env x = some (true, .slice (some ⟨B, o, none⟩) m' c')) (hi : hp[i]? = some (aN (.slice (some ⟨B, 0, none⟩) m cp) E sz rows)) (hm : rows.length = m) (hk : k < m)
   (hK : K ⟨env, ps, hp.set i (aN (.slice (some ⟨B, 0, none⟩) k cp) E sz (rows.take k))⟩) : Eff P n ⟨none, .call ⟨.builtin .clear, #[x], #[T]⟩, ty, pos, af, gd⟩ ⟨env, ps, hp⟩ false K := .change i hi fun w S fp a hst he hn hR => by
 subst ho; subst hm'
 have e1 := he.val hx rfl
 obtain ⟨hT, it, hit, _⟩ := dH hel
 obtain ⟨z, hzr, hzc⟩ := uE hz w
 have hbS := fun b hb => (hst.lt i (List.getElem?_eq_some_iff.1 hi).1 b hb).2
 rcases hR with ⟨h, _⟩ | ⟨b, cap, hv, ⟨cs, sp, hb, hrows, hcap, hrc, hcm⟩, hF⟩
 · cases h
 · simp only [Value.slice.injEq, Option.some.injEq, Addr.mk.injEq] at hv
   obtain ⟨⟨rfl, _⟩, hmr, rfl⟩ := hv
   have hzsz : z.cells.size = sz := by rw [← hzl, ← hzc]; simp
   have hvl : (Builtin.zeroCells z.cells (m - k)).toList.length = (m - k) * sz := by simp [Builtin.zeroCells, hzsz]
   have hv1 : ∀ v ∈ (Builtin.zeroCells z.cells (m - k)).toList, v.oneCell' = true := fun v hv => by
     have hv2 : v ∈ (List.range ((m - k) * z.cells.size)).map fun i => z.cells[i % z.cells.size]! := by simpa [Builtin.zeroCells] using hv
     obtain ⟨j, hj, rfl⟩ := List.mem_map.1 hv2
     have hj2 := List.mem_range.1 hj
     have h0 : 0 < z.cells.size := by
       rcases Nat.eq_zero_or_pos z.cells.size with h | h
       · rw [h] at hj2; simp at hj2
       · exact h
     have hlt := Nat.mod_lt j h0
     rw [getElem!_pos z.cells _ hlt]
     exact List.all_eq_true.1 h1 _ (by rw [← hzc]; exact Array.getElem_mem_toList hlt)
   have hlen := hrows.len
   have hle : k * sz + (m - k) * sz ≤ cs.length := by
     rw [hlen, hm, ← Nat.add_mul]; exact Nat.mul_le_mul_right _ (by omega)
   have hrun : (execOp a.eval ⟨none, .call ⟨.builtin .clear, #[x], #[T]⟩, ty, pos, af, gd⟩).run P w = .ok (.value (.tuple #[])) (w.setRow B (wrC (cs ++ sp) (k * sz) (Builtin.zeroCells z.cells (m - k)).toList).toArray) := by
     have hexec : execOp a.eval ⟨none, .call ⟨.builtin .clear, #[x], #[T]⟩, ty, pos, af, gd⟩ = (Builtin.clear_ #[T] ty (#[x].map a.eval)).bind fun r => Sem.pure (Next.value r) := rfl
     rw [hexec, show #[x].map a.eval = #[a.eval x] by simp, e1, Sem.run_bind']
     have hst2 := fW (P := P) B E (k * sz) (Builtin.zeroCells z.cells (m - k)).toList 0 (cs ++ sp) w hb hv1 (by rw [hvl, List.length_append]; omega)
     obtain ⟨q, hq⟩ : ∃ q, m - k = q + 1 := ⟨m - k - 1, by omega⟩
     have : (Builtin.clear_ #[T] ty #[.slice (some ⟨B, k * sz, none⟩) (m - k) c']).run P w = .ok (.tuple #[]) (w.setRow B (wrC (cs ++ sp) (k * sz) (Builtin.zeroCells z.cells (m - k)).toList).toArray) := by
       rw [hq] at hst2 ⊢
       simp [Builtin.clear_, run_underlying hT, hzr, hst2]
     rw [this]; rfl
   rw [hrun]
   refine ⟨aN (.slice (some ⟨B, 0, none⟩) k cp) E sz (rows.take k), _, hK, rfl, rfl, he, ?_, rfl, rfl, ⟨rfl, rfl⟩, by simp [World.setRow], fun b' hb' hne => setRow_other _ _ _ _ (fun h => hne ((hF b').2 h))⟩
   refine .inr ⟨B, cp, by rw [List.length_take, Nat.min_eq_left (by omega)], ⟨cs.take (k * sz), (wrC (cs ++ sp) (k * sz) (Builtin.zeroCells z.cells (m - k)).toList).drop (k * sz), ?_, ?_, ?_, by rw [List.length_take]; omega, hcm⟩, hF⟩
   · have : cs.take (k * sz) ++ (wrC (cs ++ sp) (k * sz) (Builtin.zeroCells z.cells (m - k)).toList).drop (k * sz) = wrC (cs ++ sp) (k * sz) (Builtin.zeroCells z.cells (m - k)).toList := by
       have e : cs.take (k * sz) = (wrC (cs ++ sp) (k * sz) (Builtin.zeroCells z.cells (m - k)).toList).take (k * sz) := by
         unfold wrC
         rw [List.take_append_of_le_length (l₂ := sp) (by omega), List.take_append_of_le_length (by rw [List.length_take]; omega), List.take_take, Nat.min_self]
       rw [e, List.take_append_drop]
     rw [this]; exact setRow_heap _ _ _ _ _ _ hb
   · exact (oe hrows (by omega)).mono (fun b' hb' => setRow_other _ _ _ _ (fun h => hbS B ((hF B).2 rfl) (h ▸ hb'))) (fun _ h => h)
   · have hle2 : k * sz + (Builtin.zeroCells z.cells (m - k)).toList.length ≤ (cs ++ sp).length := by rw [hvl, List.length_append]; omega
     rw [List.length_append, List.length_drop, sN hle2, List.length_take, ← hcap, List.length_append]; omega
theorem jk {α β : Type} [DecidableEq α] {κ : α → Value} {ν : β → Value} {m : α → Option β} {kt : TypeId} {T E : TypeId} {x y z : Operand} {b : Nat} {k : α} {v : β} (i : Nat) (hT : P.underlying T = some (.map kt E)) (KO : gV P kt κ) (hx : ev env x = some (true, .map (some b))) (hy : ev env y = some (true, κ k)) (hz : ev env z = some (true, ν v)) (hi : hp[i]? = some (ft b κ ν m))
   (hK : K ⟨env, ps, hp.set i (ft b κ ν (gU m k v))⟩) : Eff P n ⟨none, .insert T x y z, ty, pos, af, gd⟩ ⟨env, ps, hp⟩ false K := eN (ty := ty) (pos := pos) (af := af) (gd := gd) i hT KO hx hy hz hi hK
end
end Go.Sy

namespace Go.Proofs.YtahgkiicjohonaaGreat
open Go.RowKit Go.Lp Go.Sy Go.Lv
open Go.Proofs.Tryz
attribute [local irreducible] aL aB awp aC fwp Quiet
theorem vB (l : Sl bE) (hl : l.l.length ≤ 1000000) : Con Tryz.prog 167 [l.val] [ShF bE.row l] [] fun r ps hp => ps = [] ∧ ∃ (ad : Option Addr) (c : Nat), r = .slice ad l.l.length c ∧ hp = [aN (.slice ad l.l.length c) 161 2 (l.l.map bE.row)] := by
 refine EN1 Tryz.func167 rfl ?_
 refine ki (φ := l.ad = none → l.l = []) (fun w S fp hst => ?_) (fun hnil => ?_)
 · intro hn
   have hrep : fe w S (.slice l.ad l.l.length l.cap) (.sl (l.l.map bE.row)) := hst.per _ (aD 0 rfl)
   rw [hn] at hrep
   generalize hrw : l.l.map bE.row = rows at hrep
   generalize l.l.length = m at hrep
   cases hrep with
   | e => exact List.map_eq_nil_iff.1 hrw
 refine aSR (aA rfl (aNs (aSR (aM rfl (aU rfl (wQ Tryz.underlying31 rfl) (aNn ?_))))))
 refine ao _ rfl (fun h1 => ?_) (fun h1 => ?_)
 ·skip
  have hl0 : l.l = [] := hnil (by simpa using h1)
  refine aj (eH 161 2 ?_)
  show awp _ _ _ _ ⟨_, _, [_]⟩
  refine aa (aA rfl (aNn (az (bu (FZ1 [0] Tryz.results167 rfl ?_)))))
  exact ⟨rfl, none, 0, by rw [hl0]; rfl, by rw [hl0]; rfl⟩
 ·skip
  refine ar (an (aSR (LT rfl (wy el31 rfl (fun v3_0 => (aHN ?_))))))
  refine aM rfl ?_
  refine aT rfl (ry 0 el31 el31 rfl rfl rfl rfl (aD 0 rfl) ((fun r hr => by obtain ⟨z, _, rfl⟩ := List.mem_map.1 hr; rfl)) (by show ([] : List (List D)).length + (l.l.map bE.row).length ≤ _; rw [List.length_map]; exact Nat.le_trans (show 0 + l.l.length ≤ 1000000 by omega) (by decide)) (l.l.length) (by simp; try omega) (fun v3_2 c3_2 => ?_))
  refine aHK ?_
  refine aA rfl (aNn (az (FZ1 [0] Tryz.results167 rfl ?_)))
  exact ⟨rfl, v3_2, c3_2, rfl, rfl⟩
theorem qa (a : bE) : Con Tryz.prog 168 [a.val] [] [] fun r _ _ => r = .bool (!eS a) := by
 refine EN1 Tryz.func168 rfl (aSR (LT rfl (cx rfl rfl rfl (fun b0_0 => (aHN ?_)))))
 refine aA rfl (aNn (aSR (UO 1 rfl rfl (UL 0 tk3 rfl rfl rfl rfl (aU rfl (eF rfl rfl) (aA rfl (aNn (az (FZ1 [] Tryz.results168 rfl ?_)))))))))
 unfold eS; rw [Bool.not_not]
theorem y5 (v : Value) (zs : List bE) (hz : zs.length ≤ 1000000) : Con Tryz.prog 192 [v, .func (.func 168) #[] #[]] [] [aN v 161 2 (zs.map bE.row)]
   fun r ps hp => ps = [] ∧ hp = [aN v 161 2 (zs.map bE.row)] ∧ ∃ z : Int, r = .int .i64 z ∧ ((z = -1 ∧ ∀ b ∈ zs, (!eS b) = false) ∨ ∃ (i : Nat) (a : bE), z = i ∧ zs[i]? = some a ∧ (!eS a) = true ∧ ∀ b ∈ zs.take i, (!eS b) = false) := by
 refine EN2 Tryz.func192 rfl (aSR (aA rfl (aNs (aSR (aM rfl (aU rfl (gu 0 Tryz.underlying31 rfl rfl) (aM rfl (aNn (aq ?_)))))))))
 refine aQ [0, 1, 7, 8] [] [0] (fun (k : Nat) s => (k ≤ zs.length ∧ ∀ b ∈ zs.take k, (!eS b) = false) ∧ s = ⟨[(0, true, v), (1, true, .func (.func 168) #[] #[]), (7, true, .int .i64 zs.length), (8, true, .int .i64 k)], [], [aN v 161 2 (zs.map bE.row)]⟩) (fun k => zs.length - k) rfl (⟨0, ⟨Nat.zero_le _, fun b h => by cases h⟩, by rw [List.length_map]; rfl⟩) ?_
 rintro k s ⟨⟨hk, hpre⟩, rfl⟩
 refine aSR (aU rfl (bD rfl rfl) (aNs ?_))
 refine ao _ rfl (fun h1 => ?_) (fun h1 => ?_)
 ·skip
  have hk' : k < zs.length := by simpa using h1
  obtain ⟨a, ha⟩ : ∃ a, zs[k]? = some a := ⟨zs[k]'hk', by simp⟩
  refine ar (an (aj (aq (aSR (aM rfl (aA rfl (aNn (aSR (aM rfl (aM rfl (aM rfl ?_)))))))))))
  refine aU rfl (ca 0 k el31 rfl rfl rfl rfl (by rw [List.length_map]; exact hk')) ?_
  refine aU rfl (bJ (u := a.val) 0 k 0 tk161 rfl rfl (aI ha) rfl rfl) (aU rfl (iU (by kernel_rfl) rfl rfl (fun w S fp hst => (qa a).quiet0 hst)) (aNn ?_))
  refine ao _ rfl (fun h2 => ?_) (fun h2 => ?_)
  ·skip
   refine aSR (aM rfl (aA rfl (aNn (az (cM (bu (bu (cM (bu (FZ1 [0] Tryz.results192 rfl ?_))))))))))
   exact ⟨rfl, rfl, k, rfl, .inr ⟨k, a, rfl, ha, h2, hpre⟩⟩
  ·skip
   refine ar (bA (an (aa (aU rfl (aX rfl rfl (by omega)) (aM rfl (aNn ?_))))))
   refine ⟨[0, 1, 7, 8], [], [0], rfl, ?_⟩
   refine ⟨k + 1, ⟨⟨by omega, fun b hb => ?_⟩, rfl⟩, by omega⟩
   rw [List.take_add_one, ha, Option.toList_some] at hb
   rcases List.mem_append.1 hb with h | h
   · exact hpre b h
   · rw [List.mem_singleton.1 h]; exact h2
 ·skip
  refine aR (aS (aS (aZ (an (aSR (aA rfl (aNn (az (FZ1 [0] Tryz.results192 rfl ?_)))))))))
  exact ⟨rfl, rfl, -1, rfl, .inl ⟨rfl, fun b hb => hpre b (by rw [List.take_of_length_le (by simp at h1; omega)]; exact hb)⟩⟩
theorem zG (v : Value) (zs : List bE) (hz : zs.length ≤ 1000000) : Con Tryz.prog 166 [v, .func (.func 168) #[] #[]] [] [aN v 161 2 (zs.map bE.row)]
   fun r ps hp => ps = [] ∧ hp = [aN r 161 2 ((zs.filter eS).map bE.row)] := by
 have hff : (zs.filter fun a => !(!eS a)) = zs.filter eS := List.filter_congr fun a _ => Bool.not_not _
 refine EN2 Tryz.func166 rfl (aSR (aA rfl (aNn (aSR (aM rfl (aM rfl (LF rfl (EC [] [0] rfl (y5 v zs hz) ?_))))))))
 rintro _ _ _ ⟨rfl, rfl, z, rfl, hres⟩
 refine aST ?_
 refine aA rfl (aNs (aSR (aM rfl (aU rfl (ck rfl rfl) (aNn ?_)))))
 refine ao _ rfl (fun h1 => ?_) (fun h1 => ?_)
 ·skip
  have hz1 : z = -1 := by simpa using h1
  have hall : ∀ b ∈ zs, (!eS b) = false := by
    rcases hres with ⟨_, h⟩ | ⟨i, _, h, _⟩
    · exact h
    · omega
  refine aSR (aM rfl (aA rfl (aNn (az (bu (FZ1 [0] Tryz.results166 rfl ?_))))))
  exact ⟨rfl, by rw [List.filter_eq_self.2 fun b hb => by have := hall b hb; simpa using this]; rfl⟩
 ·skip
  have hz1 : ¬ z = -1 := by simpa using h1
  obtain ⟨i, a0, rfl, ha0, hg0, hpre⟩ := hres.resolve_left fun h => hz1 h.1
  have hil := (List.getElem?_eq_some_iff.1 ha0).1
  refine ar (an (aj (aSR (aM rfl (aU rfl (aX rfl rfl (by omega)) (aA rfl (aNn (aq ?_))))))))
  refine jm 0 rfl (by intro h; rw [List.map_eq_nil_iff] at h; rw [h] at hil; cases hil) (fun B cp hv hcp => ?_)
  rw [List.length_map] at hv hcp
  subst hv
  refine aQ [0, 1, 5, 6] [] [0] (fun (q : (Nat × Nat) × List bE) st => mn (fun a => !eS a) zs q.2 q.1.1 q.1.2 ∧ st = ⟨[(0, true, .slice (some ⟨B, 0, none⟩) zs.length cp), (1, true, .func (.func 168) #[] #[]), (5, true, .int .i64 q.1.1), (6, true, .int .i64 q.1.2)], [], [aN (.slice (some ⟨B, 0, none⟩) zs.length cp) 161 2 (q.2.map bE.row)]⟩) (fun q => zs.length - q.1.2) rfl (⟨((i, i + 1), zs), mn.start ha0 hg0 hpre, rfl⟩) ?_
  rintro ⟨⟨w, r⟩, ys⟩ st ⟨hI, rfl⟩
  dsimp only at hI ⊢
  have hln := hI.ln
  have hwr := hI.wr
  have hrl := hI.rl
  refine aj (aSR (aM rfl (aM rfl (aU rfl (aW Tryz.underlying31 rfl) (aU rfl (bD rfl rfl) (aNn ?_))))))
  refine ao _ rfl (fun h2 => ?_) (fun h2 => ?_)
  ·skip
   have hr' : r < zs.length := by simpa using h2
   obtain ⟨a, ha⟩ : ∃ a, zs[r]? = some a := ⟨_, List.getElem?_eq_getElem hr'⟩
   have hya : ys[r]? = some a := (hI.get hr').trans ha
   obtain ⟨yw, hyw⟩ : ∃ yw, ys[w]? = some yw := ⟨_, List.getElem?_eq_getElem (by omega)⟩
   refine ar (an (aj (aq (aSR (aM rfl (aM rfl ?_))))))
   refine aU rfl (ca 0 r el31 rfl rfl rfl rfl (by rw [List.length_map]; omega)) ?_
   refine aU rfl (bJ (u := a.val) 0 r 0 tk161 rfl rfl (aI hya) rfl rfl) (LT rfl (bI (zs := [.int .i64 0, .int .i64 0]) (by kernel_rfl) rfl (fun b7_4 => (aHN ?_))))
   refine aT rfl (bg 1 tk161 rfl rfl rfl rfl (aHK ?_))
   refine aNn (aSR (aM rfl (UL 1 tk161 rfl rfl rfl rfl (aU rfl (iU (by kernel_rfl) rfl rfl (fun w S fp hst => (qa a).quiet0 hst)) (aU rfl (dp rfl) (aNn ?_))))))
   refine ao _ rfl (fun h3 => ?_) (fun h3 => ?_)
   ·skip
    have hga : (!eS a) = false := by simpa using h3
    refine aSR (aM rfl (aM rfl (UL 1 tk161 rfl rfl rfl rfl ?_)))
    refine aU rfl (ca 0 w el31 rfl rfl rfl rfl (by rw [List.length_map]; omega)) ?_
    refine LF rfl (dC 0 w 0 tk161 rfl rfl rfl (aI hyw) rfl (.v rfl (.v rfl .nil)) rfl (by decide) (aHK ?_))
    refine aNn (aa (aM rfl (aU rfl (aX rfl rfl (by omega)) (aA rfl (bS (bA (an (aa (aM rfl (aU rfl (aX rfl rfl (by omega)) (aA rfl (aNn ?_))))))))))))
    refine ⟨[0, 1, 5, 6], [], [0], rfl, ?_⟩
    refine ⟨((w + 1, r + 1), ys.set w a), ⟨hI.keep ha hga, ?_⟩, by dsimp only; omega⟩
    dsimp only
    rw [List.map_set]; rfl
   ·skip
    have hga : (!eS a) = true := by simpa using h3
    refine ar (bA (an (aa (aM rfl (aU rfl (aX rfl rfl (by omega)) (aA rfl (aNn ?_)))))))
    refine ⟨[0, 1, 5, 6], [], [0], rfl, ?_⟩
    exact ⟨((w, r + 1), ys), ⟨hI.drop ha hga, rfl⟩, by dsimp only; omega⟩
  ·skip
   have hr' : zs.length ≤ r := by simp at h2; omega
   refine aR (aS (aS (aZ (an (aSR (aM rfl (aM rfl ?_)))))))
   refine aU rfl (nc w (zs.length - w) (w * 2) el31 rfl rfl rfl (by omega) hcp rfl (by rw [Nat.zero_add])) ?_
   refine LF rfl (we (k := w) 0 el31 (zs := [.int .i64 0, .int .i64 0]) (by kernel_rfl) (by decide) rfl rfl rfl rfl rfl (by rw [List.length_map]; exact hln) (by omega) ?_)
   refine aHK ?_
   refine aNn (aSR (aM rfl (aM rfl (aU rfl (iy w el31 rfl rfl rfl (by omega) hcp) (aA rfl (aNn (az (FZ1 [0] Tryz.results166 rfl ?_))))))))
   exact ⟨rfl, by rw [← hff, ← hI.all hr', List.map_take]; rfl⟩
end Go.Proofs.YtahgkiicjohonaaGreat

