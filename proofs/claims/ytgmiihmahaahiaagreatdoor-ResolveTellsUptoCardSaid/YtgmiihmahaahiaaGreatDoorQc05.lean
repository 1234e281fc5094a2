/- Parts of the proof, in build order. No condition. -/
import Derived.Test.YtgmiihmahaahiaaGreatDoorQc04
import Derived.DeepKeys3
import Derived.Test.YtgmiihmahaahiaaGreatDoorQc03
set_option linter.unusedSimpArgs false
set_option linter.unusedVariables false
set_option maxHeartbeats 1000000
set_option maxRecDepth 20000
namespace Go.Sy
open Go.RowKit Go.Lp Go.MapKept
section
variable {P : Program}
def cj (k : ByteArray × ByteArray) : Value := .agg #[.string k.1, .string k.2]
theorem jY (a b : ByteArray × ByteArray) (h : cj a = cj b) : a = b := by
 unfold cj at h
 injection h with h
 simp at h
 exact Prod.ext h.1 h.2
theorem fR (d : Nat) (t : TypeId) (a b : ByteArray) (w : World) (h : P.underlying t = some .string) : (Op.equalIn (d + 1) t (.string a) (.string b)).run P w = .ok (decide (a = b)) w := by
 have : (a == b) = decide (a = b) := by rw [Bool.eq_iff_iff, bytes_beq, decide_eq_true_eq]
 simp [Op.equalIn, run_underlying h, this]
theorem fS {e : TypeId} (he : P.underlying e = some .string) {xs : Array Value} {off : Nat} {v : Value} (hx : xs[off]? = some v) (w : World) : (part e xs off).run P w = .ok v w :=
 run_part_plain w (by unfold Program.plainKey; rw [he]) hx
theorem ob {kt : TypeId} (hwide : (match P.underlying kt with | some (.array _ _) | some (.struct _) => true | _ => false) = true) (heq : ∀ (w : World) (a b : ByteArray × ByteArray), (Op.equal kt (cj a) (cj b)).run P w = .ok (decide (a = b)) w) (w : World) (x : ByteArray × ByteArray) (es : List MapEntry) (hes : ∀ e ∈ es, ∃ a, e.key = cj a) :
   ((Instr.findKey kt (cj x) es).run P w = .ok none w ∧ ∀ e ∈ es, e.key ≠ cj x) ∨ ∃ j e, (Instr.findKey kt (cj x) es).run P w = .ok (some (j, e.val)) w ∧ es[j]? = some e ∧ e.key = cj x := by
 have key : ∀ (es : List MapEntry) (i : Nat), (∀ e ∈ es, ∃ a, e.key = cj a) →
     ((Instr.findAsking kt (cj x) es i).run P w = .ok none w ∧ ∀ e ∈ es, e.key ≠ cj x) ∨ ∃ j e, (Instr.findAsking kt (cj x) es i).run P w = .ok (some (i + j, e.val)) w ∧ es[j]? = some e ∧ e.key = cj x := by
   intro es
   induction es with
   | nil => intro i _; exact .inl ⟨by simp [Instr.findAsking], fun e he => by cases he⟩
   | cons e es ih =>
     intro i hall
     obtain ⟨a, ha⟩ := hall e List.mem_cons_self
     have hr := heq w x a
     by_cases hxa : x = a
     · refine .inr ⟨0, e, ?_, rfl, by rw [ha, hxa]⟩
       rw [decide_eq_true hxa] at hr
       simp [Instr.findAsking, ha, hr]
     · rw [decide_eq_false hxa] at hr
       rcases ih (i + 1) (fun y hy => hall y (List.mem_cons_of_mem _ hy)) with ⟨h1, h2⟩ | ⟨j, e', h1, h2, h3⟩
       · refine .inl ⟨by simp [Instr.findAsking, ha, hr, h1], fun y hy => ?_⟩
         rcases List.mem_cons.1 hy with rfl | hy
         · rw [ha]; exact fun hh => hxa (jY _ _ hh).symm
         · exact h2 y hy
       · exact .inr ⟨j + 1, e', by simp [Instr.findAsking, ha, hr, h1, Nat.add_assoc, Nat.add_comm 1 j], by simpa using h2, h3⟩
 rw [run_findKey_eq w hwide]
 rcases key es 0 hes with h | ⟨j, e, h1, h2, h3⟩
 · exact .inl h
 · exact .inr ⟨j, e, by simpa using h1, h2, h3⟩
theorem lO (w : World) (a : ByteArray × ByteArray) : (Instr.keyThatStays (cj a) (cj a)).run P w = .ok (cj a) w := by
 have : Instr.sameBits 10000 (cj a) (cj a) = true := by simp [cj, Instr.sameBits, bytes_beq]
 simp [Instr.keyThatStays, this]
theorem ki (em : Bool) (m : Nat) {e : TypeId} (he : P.underlying e = some .string) (v : ByteArray) (w : World) : (Instr.checkKey em (m + 1) e (.string v)).run P w = .ok () w := by simp [Instr.checkKey, run_underlying he]
theorem qZ {kt e : TypeId} {i : TypeInfo} (hu : P.underlying kt = some (.array 2 e)) (hi : P.info? e = some i) (hc : P.cellsOf e = 1) (he : P.underlying e = some .string) (w : World) (em : Bool) (m : Nat) (a : ByteArray × ByteArray) : (Instr.checkKey em (m + 1 + 1) kt (cj a)).run P w = .ok () w := by
 have h1 : (part e #[Value.string a.1, Value.string a.2] 0).run P w = .ok (.string a.1) w := fS he rfl w
 have h2 : (part e #[Value.string a.1, Value.string a.2] 1).run P w = .ok (.string a.2) w := fS he rfl w
 unfold cj Instr.checkKey
 simp only [Sem.run_bind, run_underlying hu, Result.andThen_ok]
 simp only [Std.Legacy.Range.forIn_eq_forIn_range', Std.Legacy.Range.size]
 simp [List.range', run_sizeOf w hi, hc, h1, h2, ki em m he]
theorem qx {kt : TypeId} (hu : P.underlying kt = some (.struct (P.fieldsOf kt))) {f g : Field} (hf : (P.fieldsOf kt).toList = [f, g]) (n1 : f.name ≠ "_") (n2 : g.name ≠ "_") (o1 : f.offset = 0) (o2 : g.offset = 1) (t1 : P.underlying f.type = some .string) (t2 : P.underlying g.type = some .string) (w : World) (em : Bool) (m : Nat) (a : ByteArray × ByteArray) : (Instr.checkKey em (m + 1 + 1) kt (cj a)).run P w = .ok () w := by
 have h1 : (part f.type #[Value.string a.1, Value.string a.2] 0).run P w = .ok (.string a.1) w := fS t1 rfl w
 have h2 : (part g.type #[Value.string a.1, Value.string a.2] 1).run P w = .ok (.string a.2) w := fS t2 rfl w
 unfold cj Instr.checkKey
 simp only [Sem.run_bind, run_underlying hu, Result.andThen_ok]
 rw [← Array.forIn_toList, hf]
 simp [n1, n2, o1, o2, h1, h2, ki em m t1, ki em m t2]
theorem wh {kt e : TypeId} {i : TypeInfo} (hu : P.underlying kt = some (.array 2 e)) (hi : P.info? e = some i) (hc : P.cellsOf e = 1) (he : P.underlying e = some .string) (w : World) (m : Nat) (a b : ByteArray × ByteArray) : (Op.equalIn (m + 1 + 1) kt (cj a) (cj b)).run P w = .ok (decide (a = b)) w := by
 have h1 : ∀ x y : ByteArray, (part e #[Value.string x, Value.string y] 0).run P w = .ok (.string x) w := fun x y => fS he rfl w
 have h2 : ∀ x y : ByteArray, (part e #[Value.string x, Value.string y] 1).run P w = .ok (.string y) w := fun x y => fS he rfl w
 unfold cj
 rw [run_equalIn_array w (m + 1) _ _ hu hi, hc]
 simp only [List.range_succ, List.range_zero, List.nil_append, List.cons_append, Op.eqItems, Sem.run_bind, Nat.zero_mul, Nat.one_mul, h1, h2, Result.andThen_ok, fR m e _ _ w he]
 by_cases e1 : a.1 = b.1 <;> by_cases e2 : a.2 = b.2 <;> simp [e1, e2, h2, fR m e _ _ w he, Prod.ext_iff]
theorem xx {kt : TypeId} (hu : P.underlying kt = some (.struct (P.fieldsOf kt))) (hp : P.stoodInHeld kt = false) {f g : Field} (hf : (P.fieldsOf kt).toList = [f, g]) (n1 : f.name ≠ "_") (n2 : g.name ≠ "_") (o1 : f.offset = 0) (o2 : g.offset = 1) (t1 : P.underlying f.type = some .string) (t2 : P.underlying g.type = some .string) (w : World) (m : Nat) (a b : ByteArray × ByteArray) : (Op.equalIn (m + 1 + 1) kt (cj a) (cj b)).run P w = .ok (decide (a = b)) w := by
 have h1 : ∀ x y : ByteArray, (part f.type #[Value.string x, Value.string y] 0).run P w = .ok (.string x) w := fun x y => fS t1 rfl w
 have h2 : ∀ x y : ByteArray, (part g.type #[Value.string x, Value.string y] 1).run P w = .ok (.string y) w := fun x y => fS t2 rfl w
 unfold cj
 rw [run_equalIn_struct w (m + 1) kt _ _ hu hp, hf]
 simp only [Op.eqFields, if_pos n1, if_pos n2, o1, o2, Sem.run_bind, h1, h2, Result.andThen_ok, fR m _ _ _ w t1, fR m _ _ _ w t2]
 by_cases e1 : a.1 = b.1 <;> by_cases e2 : a.2 = b.2 <;> simp [e1, e2, h2, fR m _ _ _ w t2, Prod.ext_iff]
theorem vX {kt e : TypeId} {i : TypeInfo} (hu : P.underlying kt = some (.array 2 e)) (hi : P.info? e = some i) (hc : P.cellsOf e = 1) (he : P.underlying e = some .string) : ek P kt cj where
 inj := jY
 check w em a := qZ hu hi hc he w em 9998 a
 find := ob (by rw [hu]) fun w a b => wh hu hi hc he w 9998 a b
 stays := lO
theorem va {kt e : TypeId} (hu : P.underlying kt = some (.array 2 e)) (hi : (P.info? e).isSome = true) (hc : P.cellsOf e = 1) (he : P.underlying e = some .string) : ek P kt cj :=
 let ⟨_, h⟩ := Option.isSome_iff_exists.1 hi
 vX hu h hc he
theorem xa {kt : TypeId} (hu : P.underlying kt = some (.struct (P.fieldsOf kt))) (hp : P.stoodInHeld kt = false) {f g : Field} (hf : (P.fieldsOf kt).toList = [f, g]) (n1 : f.name ≠ "_") (n2 : g.name ≠ "_") (o1 : f.offset = 0) (o2 : g.offset = 1) (t1 : P.underlying f.type = some .string) (t2 : P.underlying g.type = some .string) : ek P kt cj where
 inj := jY
 check w em a := qx hu hf n1 n2 o1 o2 t1 t2 w em 9998 a
 find := ob (by rw [hu]) fun w a b => xx hu hp hf n1 n2 o1 o2 t1 t2 w 9998 a b
 stays := lO
end
end Go.Sy

namespace Go.Sy
open Go.RowKit Go.Lp
abbrev eI (z : Int) : Value := .int .i64 z
def dK (s : ByteArray) : Value := .string s
def vBo (b : Bool) : Value := .bool b
def k4 {α : Type} [DecidableEq α] (l : List α) : α → Option Bool := fun a => if a ∈ l then some true else none
theorem wQ {α : Type} [DecidableEq α] (l : List α) (a : α) : k4 (l ++ [a]) = cC (k4 l) a true := by
 funext b; unfold k4 cC
 by_cases h : b = a
 · subst h; simp
 · by_cases hb : b ∈ l <;> simp [h, hb]
theorem my {α : Type} [DecidableEq α] (l : List α) (a : α) : (k4 l a).getD false = decide (a ∈ l) := by
 unfold k4; by_cases h : a ∈ l <;> simp [h]
end Go.Sy

namespace Go.Proofs.YtgmiihmahaahiaaGreatDoor
open Go.RowKit Go.Lp Go.Sy
open Go.Proofs.Tryz
attribute [local irreducible] aL aB awp aC fwp
theorem tk221 : tyk Tryz.prog 221 = some (false, 1) := by kernel_rfl
theorem kA (l : Sl bH) (F : FuncId) (caps : List Value) (p q : Per) (Ψ : bH → Bool → Prop) (hF : bE Tryz.prog F = true) (h : ∀ a ∈ l.l, Con Tryz.prog F (a.val :: caps) [p, q] [] (YN Value.bool (Ψ a))) : Con Tryz.prog 270 [l.val, .func (.func F) #[] caps.toArray] [ShF bH.row l, p, q] []
   (YN (fun z : Int => .int .i64 z) (fun z => (z ≥ 0 → ∃ a ∈ l.l, Ψ a true) ∧ (¬ z ≥ 0 → ∀ a ∈ l.l, Ψ a false))) := by
 refine Con.enter Tryz.func270 rfl (by simp [Tryz.ntmps270]) ?_
 show awp _ _ _ _ ⟨[(0, true, _), (1, true, _)], _, _⟩
 refine bd (.of (an 0 rfl)) (fun hlen => ?_)
 refine aSR (aA rfl (aNs (aSR (aM rfl (aU rfl (aZ Tryz.underlying50 rfl) (aM rfl (aNn (aw ?_))))))))
 refine aP [0, 1, 7, 8] [2, 1, 0] [] (fun (k : Nat) s => (k ≤ l.l.length ∧ ∀ a ∈ l.l.take k, Ψ a false) ∧ s = ⟨[(0, true, l.val), (1, true, .func (.func F) #[] caps.toArray), (7, true, .int .i64 l.l.length), (8, true, .int .i64 k)], [ShF bH.row l, p, q], []⟩) (fun k => l.l.length - k) rfl (⟨0, ⟨Nat.zero_le _, fun a ha => by cases ha⟩, rfl⟩) ?_
 rintro k s ⟨⟨hk, hno⟩, rfl⟩
 refine aSR (aU rfl (bt rfl rfl) (aNs ?_))
 refine ah _ rfl (fun h1 => ?_) (fun h1 => ?_)
 ·skip
  have hk' : k < l.l.length := by simpa using h1
  obtain ⟨a, ha⟩ : ∃ a, l.l[k]? = some a := ⟨l.l[k]'hk', by simp⟩
  refine au (av (az (aw (aSR (aM rfl (aA rfl (aNn (aSR (aM rfl (aM rfl (aM rfl ?_)))))))))))
  refine ck true rfl rfl (fun _ => ai Tryz.underlying50 tk85 rfl ((.of (an 0 rfl))) rfl (aJ ha) rfl rfl) (fun h => absurd h (by decide)) (fun ⟨b4_3, o4_3⟩ => ?_)
  refine aU rfl (aF (o := 0) tk85 rfl (an 0 rfl) rfl rfl) ?_
  refine aQ [1, 0] (false) hF true rfl rfl (fun _ => rfl) (fun hc => rfl) (fun hc => h a (List.mem_of_getElem? ha)) (fun c hc => ?_)
  refine aNn ?_
  refine ah _ rfl (fun h2 => ?_) (fun h2 => ?_)
  ·skip
   refine aSR (aM rfl (aA rfl (aNn (aq (bj (aK (aK (bj (aK ?_)))))))))
   refine aV [] [] rfl Tryz.results270 rfl ?_ (.inr rfl)
   exact ⟨⟨rfl, rfl⟩, _, rfl, fun _ => ⟨a, List.mem_of_getElem? ha, h2 ▸ hc rfl⟩, fun hz => (hz (Int.natCast_nonneg k)).elim⟩
  ·skip
   refine au (bu (av (ae ?_)))
   refine aU rfl (bf rfl rfl (by omega)) ?_
   refine aM rfl (aNn ?_)
   refine ⟨[0, 1, 7, 8], [2, 1, 0], [], rfl, ?_⟩
   refine ⟨k + 1, ⟨⟨by omega, ?_⟩, rfl⟩, by omega⟩
   intro y hy
   rw [List.take_add_one, ha, List.mem_append] at hy
   rcases hy with hy | hy
   · exact hno y hy
   · simp at hy; subst hy; exact h2 ▸ hc rfl
 ·skip
  refine aR (aS (aS (aY (av (aSR (aA rfl (aNn (aq ?_))))))))
  refine aV [] [] rfl Tryz.results270 rfl ?_ (.inr rfl)
  refine ⟨⟨rfl, rfl⟩, _, rfl, fun hz => absurd hz (by decide), fun _ => ?_⟩
  rw [List.take_of_length_le (by simpa using h1)] at hno; exact hno
theorem j8 (l : Sl bH) (F : FuncId) (caps : List Value) (p q : Per) (Ψ : bH → Bool → Prop) (hF : bE Tryz.prog F = true) (h : ∀ a ∈ l.l, Con Tryz.prog F (a.val :: caps) [p, q] [] (YN Value.bool (Ψ a))) : Con Tryz.prog 222 [l.val, .func (.func F) #[] caps.toArray] [ShF bH.row l, p, q] []
   (YN Value.bool (fun b => (b = true → ∃ a ∈ l.l, Ψ a true) ∧ (b = false → ∀ a ∈ l.l, Ψ a false))) := by
 refine Con.enter Tryz.func222 rfl (by simp [Tryz.ntmps222]) ?_
 show awp _ _ _ _ ⟨[(0, true, _), (1, true, _)], _, _⟩
 refine aSR (aA rfl (aNn (aSR (aM rfl (aM rfl ?_)))))
 refine aj (q := true) rfl (bF [2, 1, 0] [] (by kernel_rfl) rfl rfl rfl rfl (kA l F caps p q Ψ hF h) ?_)
 rintro _ _ _ ⟨⟨rfl, rfl⟩, z, rfl, hz⟩
 refine aST ?_
 refine aU rfl (cL rfl rfl) (aA rfl (aNn (aq ?_)))
 refine aV [] [] rfl Tryz.results222 rfl ?_ (.inr rfl)
 exact ⟨⟨rfl, rfl⟩, _, rfl, fun hb => hz.1 (by simpa using hb), fun hb => hz.2 (by simpa using hb)⟩
theorem jn (b : Nat) (F : FuncId) (caps : List Value) (p : Per) (a : bH) (Φ : Prop) (hF : bE Tryz.prog F = true) (h : Con Tryz.prog F (a.val :: caps) [p] [] (YB Φ)) : Con Tryz.prog 223 [a.val, .pointer (some ⟨b, 0, none⟩)] [At b 0 [.v (.func (.func F) #[] caps.toArray)], p] []
   (YN Value.bool (fun b => b = false → Φ)) := by
 refine Con.enter Tryz.func223 rfl (by simp [Tryz.ntmps223]) ?_
 show awp _ _ _ _ ⟨[(0, true, _), (1, true, _)], _, _⟩
 refine aSR ?_
 refine aj (q := true) rfl (bI rfl rfl rfl (fun b0_0 => ?_))
 refine aHN ?_
 refine aA rfl (aNn (aSR (aU rfl (aN (o := 0) tk221 rfl (.of (an 0 rfl)) rfl) (aU rfl (ab 0 tk85 rfl rfl rfl) ?_))))
 refine aQ [0] (false) hF true rfl rfl (fun _ => rfl) (fun hc => rfl) (fun hc => h) (fun c hc => ?_)
 refine aU rfl (bT rfl) (aA rfl (aNn (aq ?_)))
 refine aV [] [] rfl Tryz.results223 rfl ?_ (.inr rfl)
 exact ⟨⟨rfl, rfl⟩, _, rfl, fun hb => hc rfl (by simpa using hb)⟩
theorem jC (l : Sl bH) (F : FuncId) (caps : List Value) (p : Per) (Φ : bH → Prop) (hF : bE Tryz.prog F = true) (h : ∀ a ∈ l.l, Con Tryz.prog F (a.val :: caps) [p] [] (YB (Φ a))) : Con Tryz.prog 130 [l.val, .func (.func F) #[] caps.toArray] [ShF bH.row l, p] []
   (YB (∀ a ∈ l.l, Φ a)) := by
 refine Con.enter Tryz.func130 rfl (by simp [Tryz.ntmps130]) ?_
 show awp _ _ _ _ ⟨[(0, true, _), (1, true, _)], _, _⟩
 refine aSR ?_
 refine aj (q := true) rfl (bI rfl rfl rfl (fun b0_0 => ?_))
 refine aHN ?_
 refine aA rfl (aNs (bL 0 rfl rfl ?_))
 show awp _ _ _ _ ⟨_, At _ 0 _ :: _, _⟩
 refine ae (aM rfl (aU rfl (dq (l := [.tmp 3]) rfl) ?_))
 refine aQ (caps := []) [1, 2, 0] (false) (by kernel_rfl) true rfl rfl (fun _ => rfl) (fun hc => rfl) (fun hc => by rw [List.append_nil]; exact j8 l 223 [.pointer (some ⟨b0_0, 0, none⟩)] (At b0_0 0 [.v (.func (.func F) #[] caps.toArray)]) p (fun a b => b = false → Φ a) (by kernel_rfl) (fun a ha => jn b0_0 F caps p a (Φ a) hF (h a ha))) (fun c hc => ?_)
 refine aU rfl (bT rfl) (aA rfl (aNn (aq ?_)))
 refine aV [] [] rfl Tryz.results130 rfl ?_ (.inr rfl)
 exact ⟨⟨rfl, rfl⟩, _, rfl, fun hb a ha => (hc rfl).2 (by simpa using hb) a ha rfl⟩
theorem tk227 : tyk Tryz.prog 227 = some (false, 1) := by kernel_rfl
theorem kW (l : Sl bg) (F : FuncId) (caps : List Value) (p q : Per) (Ψ : bg → Bool → Prop) (hF : bE Tryz.prog F = true) (h : ∀ a ∈ l.l, Con Tryz.prog F (a.val :: caps) [p, q] [] (YN Value.bool (Ψ a))) : Con Tryz.prog 271 [l.val, .func (.func F) #[] caps.toArray] [ShF bg.row l, p, q] []
   (YN (fun z : Int => .int .i64 z) (fun z => (z ≥ 0 → ∃ a ∈ l.l, Ψ a true) ∧ (¬ z ≥ 0 → ∀ a ∈ l.l, Ψ a false))) := by
 refine Con.enter Tryz.func271 rfl (by simp [Tryz.ntmps271]) ?_
 show awp _ _ _ _ ⟨[(0, true, _), (1, true, _)], _, _⟩
 refine bd (.of (an 0 rfl)) (fun hlen => ?_)
 refine aSR (aA rfl (aNs (aSR (aM rfl (aU rfl (aZ Tryz.underlying51 rfl) (aM rfl (aNn (aw ?_))))))))
 refine aP [0, 1, 7, 8] [2, 1, 0] [] (fun (k : Nat) s => (k ≤ l.l.length ∧ ∀ a ∈ l.l.take k, Ψ a false) ∧ s = ⟨[(0, true, l.val), (1, true, .func (.func F) #[] caps.toArray), (7, true, .int .i64 l.l.length), (8, true, .int .i64 k)], [ShF bg.row l, p, q], []⟩) (fun k => l.l.length - k) rfl (⟨0, ⟨Nat.zero_le _, fun a ha => by cases ha⟩, rfl⟩) ?_
 rintro k s ⟨⟨hk, hno⟩, rfl⟩
 refine aSR (aU rfl (bt rfl rfl) (aNs ?_))
 refine ah _ rfl (fun h1 => ?_) (fun h1 => ?_)
 ·skip
  have hk' : k < l.l.length := by simpa using h1
  obtain ⟨a, ha⟩ : ∃ a, l.l[k]? = some a := ⟨l.l[k]'hk', by simp⟩
  refine au (av (az (aw (aSR (aM rfl (aA rfl (aNn (aSR (aM rfl (aM rfl (aM rfl ?_)))))))))))
  refine ck true rfl rfl (fun _ => ai Tryz.underlying51 tk63 rfl ((.of (an 0 rfl))) rfl (aJ ha) rfl rfl) (fun h => absurd h (by decide)) (fun ⟨b4_3, o4_3⟩ => ?_)
  refine aU rfl (aF (o := 0) tk63 rfl (an 0 rfl) rfl rfl) ?_
  refine aQ [1, 0] (false) hF true rfl rfl (fun _ => rfl) (fun hc => rfl) (fun hc => h a (List.mem_of_getElem? ha)) (fun c hc => ?_)
  refine aNn ?_
  refine ah _ rfl (fun h2 => ?_) (fun h2 => ?_)
  ·skip
   refine aSR (aM rfl (aA rfl (aNn (aq (bj (aK (aK (bj (aK ?_)))))))))
   refine aV [] [] rfl Tryz.results271 rfl ?_ (.inr rfl)
   exact ⟨⟨rfl, rfl⟩, _, rfl, fun _ => ⟨a, List.mem_of_getElem? ha, h2 ▸ hc rfl⟩, fun hz => (hz (Int.natCast_nonneg k)).elim⟩
  ·skip
   refine au (bu (av (ae ?_)))
   refine aU rfl (bf rfl rfl (by omega)) ?_
   refine aM rfl (aNn ?_)
   refine ⟨[0, 1, 7, 8], [2, 1, 0], [], rfl, ?_⟩
   refine ⟨k + 1, ⟨⟨by omega, ?_⟩, rfl⟩, by omega⟩
   intro y hy
   rw [List.take_add_one, ha, List.mem_append] at hy
   rcases hy with hy | hy
   · exact hno y hy
   · simp at hy; subst hy; exact h2 ▸ hc rfl
 ·skip
  refine aR (aS (aS (aY (av (aSR (aA rfl (aNn (aq ?_))))))))
  refine aV [] [] rfl Tryz.results271 rfl ?_ (.inr rfl)
  refine ⟨⟨rfl, rfl⟩, _, rfl, fun hz => absurd hz (by decide), fun _ => ?_⟩
  rw [List.take_of_length_le (by simpa using h1)] at hno; exact hno
theorem la (l : Sl bg) (F : FuncId) (caps : List Value) (p q : Per) (Ψ : bg → Bool → Prop) (hF : bE Tryz.prog F = true) (h : ∀ a ∈ l.l, Con Tryz.prog F (a.val :: caps) [p, q] [] (YN Value.bool (Ψ a))) : Con Tryz.prog 224 [l.val, .func (.func F) #[] caps.toArray] [ShF bg.row l, p, q] []
   (YN Value.bool (fun b => (b = true → ∃ a ∈ l.l, Ψ a true) ∧ (b = false → ∀ a ∈ l.l, Ψ a false))) := by
 refine Con.enter Tryz.func224 rfl (by simp [Tryz.ntmps224]) ?_
 show awp _ _ _ _ ⟨[(0, true, _), (1, true, _)], _, _⟩
 refine aSR (aA rfl (aNn (aSR (aM rfl (aM rfl ?_)))))
 refine aj (q := true) rfl (bF [2, 1, 0] [] (by kernel_rfl) rfl rfl rfl rfl (kW l F caps p q Ψ hF h) ?_)
 rintro _ _ _ ⟨⟨rfl, rfl⟩, z, rfl, hz⟩
 refine aST ?_
 refine aU rfl (cL rfl rfl) (aA rfl (aNn (aq ?_)))
 refine aV [] [] rfl Tryz.results224 rfl ?_ (.inr rfl)
 exact ⟨⟨rfl, rfl⟩, _, rfl, fun hb => hz.1 (by simpa using hb), fun hb => hz.2 (by simpa using hb)⟩
theorem jq (b : Nat) (F : FuncId) (caps : List Value) (p : Per) (a : bg) (Φ : Prop) (hF : bE Tryz.prog F = true) (h : Con Tryz.prog F (a.val :: caps) [p] [] (YB Φ)) : Con Tryz.prog 225 [a.val, .pointer (some ⟨b, 0, none⟩)] [At b 0 [.v (.func (.func F) #[] caps.toArray)], p] []
   (YN Value.bool (fun b => b = false → Φ)) := by
 refine Con.enter Tryz.func225 rfl (by simp [Tryz.ntmps225]) ?_
 show awp _ _ _ _ ⟨[(0, true, _), (1, true, _)], _, _⟩
 refine aSR ?_
 refine aj (q := true) rfl (bI rfl rfl rfl (fun b0_0 => ?_))
 refine aHN ?_
 refine aA rfl (aNn (aSR (aU rfl (aN (o := 0) tk227 rfl (.of (an 0 rfl)) rfl) (aU rfl (ab 0 tk63 rfl rfl rfl) ?_))))
 refine aQ [0] (false) hF true rfl rfl (fun _ => rfl) (fun hc => rfl) (fun hc => h) (fun c hc => ?_)
 refine aU rfl (bT rfl) (aA rfl (aNn (aq ?_)))
 refine aV [] [] rfl Tryz.results225 rfl ?_ (.inr rfl)
 exact ⟨⟨rfl, rfl⟩, _, rfl, fun hb => hc rfl (by simpa using hb)⟩
theorem j5 (l : Sl bg) (F : FuncId) (caps : List Value) (p : Per) (Φ : bg → Prop) (hF : bE Tryz.prog F = true) (h : ∀ a ∈ l.l, Con Tryz.prog F (a.val :: caps) [p] [] (YB (Φ a))) : Con Tryz.prog 136 [l.val, .func (.func F) #[] caps.toArray] [ShF bg.row l, p] []
   (YB (∀ a ∈ l.l, Φ a)) := by
 refine Con.enter Tryz.func136 rfl (by simp [Tryz.ntmps136]) ?_
 show awp _ _ _ _ ⟨[(0, true, _), (1, true, _)], _, _⟩
 refine aSR ?_
 refine aj (q := true) rfl (bI rfl rfl rfl (fun b0_0 => ?_))
 refine aHN ?_
 refine aA rfl (aNs (bL 0 rfl rfl ?_))
 show awp _ _ _ _ ⟨_, At _ 0 _ :: _, _⟩
 refine ae (aM rfl (aU rfl (dq (l := [.tmp 3]) rfl) ?_))
 refine aQ (caps := []) [1, 2, 0] (false) (by kernel_rfl) true rfl rfl (fun _ => rfl) (fun hc => rfl) (fun hc => by rw [List.append_nil]; exact la l 225 [.pointer (some ⟨b0_0, 0, none⟩)] (At b0_0 0 [.v (.func (.func F) #[] caps.toArray)]) p (fun a b => b = false → Φ a) (by kernel_rfl) (fun a ha => jq b0_0 F caps p a (Φ a) hF (h a ha))) (fun c hc => ?_)
 refine aU rfl (bT rfl) (aA rfl (aNn (aq ?_)))
 refine aV [] [] rfl Tryz.results136 rfl ?_ (.inr rfl)
 exact ⟨⟨rfl, rfl⟩, _, rfl, fun hb a ha => (hc rfl).2 (by simpa using hb) a ha rfl⟩
theorem tk237 : tyk Tryz.prog 237 = some (false, 1) := by kernel_rfl
theorem ph (l : Sl fU) (F : FuncId) (caps : List Value) (p q : Per) (Ψ : fU → Bool → Prop) (hF : bE Tryz.prog F = true) (h : ∀ a ∈ l.l, Con Tryz.prog F (a.val :: caps) [p, q] [] (YN Value.bool (Ψ a))) : Con Tryz.prog 276 [l.val, .func (.func F) #[] caps.toArray] [ShF fU.row l, p, q] []
   (YN (fun z : Int => .int .i64 z) (fun z => (z ≥ 0 → ∃ a ∈ l.l, Ψ a true) ∧ (¬ z ≥ 0 → ∀ a ∈ l.l, Ψ a false))) := by
 refine Con.enter Tryz.func276 rfl (by simp [Tryz.ntmps276]) ?_
 show awp _ _ _ _ ⟨[(0, true, _), (1, true, _)], _, _⟩
 refine bd (.of (an 0 rfl)) (fun hlen => ?_)
 refine aSR (aA rfl (aNs (aSR (aM rfl (aU rfl (aZ Tryz.underlying52 rfl) (aM rfl (aNn (aw ?_))))))))
 refine aP [0, 1, 7, 8] [2, 1, 0] [] (fun (k : Nat) s => (k ≤ l.l.length ∧ ∀ a ∈ l.l.take k, Ψ a false) ∧ s = ⟨[(0, true, l.val), (1, true, .func (.func F) #[] caps.toArray), (7, true, .int .i64 l.l.length), (8, true, .int .i64 k)], [ShF fU.row l, p, q], []⟩) (fun k => l.l.length - k) rfl (⟨0, ⟨Nat.zero_le _, fun a ha => by cases ha⟩, rfl⟩) ?_
 rintro k s ⟨⟨hk, hno⟩, rfl⟩
 refine aSR (aU rfl (bt rfl rfl) (aNs ?_))
 refine ah _ rfl (fun h1 => ?_) (fun h1 => ?_)
 ·skip
  have hk' : k < l.l.length := by simpa using h1
  obtain ⟨a, ha⟩ : ∃ a, l.l[k]? = some a := ⟨l.l[k]'hk', by simp⟩
  refine au (av (az (aw (aSR (aM rfl (aA rfl (aNn (aSR (aM rfl (aM rfl (aM rfl ?_)))))))))))
  refine ck true rfl rfl (fun _ => ai Tryz.underlying52 tk182 rfl ((.of (an 0 rfl))) rfl (aJ ha) rfl rfl) (fun h => absurd h (by decide)) (fun ⟨b4_3, o4_3⟩ => ?_)
  refine aU rfl (aF (o := 0) tk182 rfl (an 0 rfl) rfl rfl) ?_
  refine aQ [1, 0] (false) hF true rfl rfl (fun _ => rfl) (fun hc => rfl) (fun hc => h a (List.mem_of_getElem? ha)) (fun c hc => ?_)
  refine aNn ?_
  refine ah _ rfl (fun h2 => ?_) (fun h2 => ?_)
  ·skip
   refine aSR (aM rfl (aA rfl (aNn (aq (bj (aK (aK (bj (aK ?_)))))))))
   refine aV [] [] rfl Tryz.results276 rfl ?_ (.inr rfl)
   exact ⟨⟨rfl, rfl⟩, _, rfl, fun _ => ⟨a, List.mem_of_getElem? ha, h2 ▸ hc rfl⟩, fun hz => (hz (Int.natCast_nonneg k)).elim⟩
  ·skip
   refine au (bu (av (ae ?_)))
   refine aU rfl (bf rfl rfl (by omega)) ?_
   refine aM rfl (aNn ?_)
   refine ⟨[0, 1, 7, 8], [2, 1, 0], [], rfl, ?_⟩
   refine ⟨k + 1, ⟨⟨by omega, ?_⟩, rfl⟩, by omega⟩
   intro y hy
   rw [List.take_add_one, ha, List.mem_append] at hy
   rcases hy with hy | hy
   · exact hno y hy
   · simp at hy; subst hy; exact h2 ▸ hc rfl
 ·skip
  refine aR (aS (aS (aY (av (aSR (aA rfl (aNn (aq ?_))))))))
  refine aV [] [] rfl Tryz.results276 rfl ?_ (.inr rfl)
  refine ⟨⟨rfl, rfl⟩, _, rfl, fun hz => absurd hz (by decide), fun _ => ?_⟩
  rw [List.take_of_length_le (by simpa using h1)] at hno; exact hno
theorem oJ (l : Sl fU) (F : FuncId) (caps : List Value) (p q : Per) (Ψ : fU → Bool → Prop) (hF : bE Tryz.prog F = true) (h : ∀ a ∈ l.l, Con Tryz.prog F (a.val :: caps) [p, q] [] (YN Value.bool (Ψ a))) : Con Tryz.prog 229 [l.val, .func (.func F) #[] caps.toArray] [ShF fU.row l, p, q] []
   (YN Value.bool (fun b => (b = true → ∃ a ∈ l.l, Ψ a true) ∧ (b = false → ∀ a ∈ l.l, Ψ a false))) := by
 refine Con.enter Tryz.func229 rfl (by simp [Tryz.ntmps229]) ?_
 show awp _ _ _ _ ⟨[(0, true, _), (1, true, _)], _, _⟩
 refine aSR (aA rfl (aNn (aSR (aM rfl (aM rfl ?_)))))
 refine aj (q := true) rfl (bF [2, 1, 0] [] (by kernel_rfl) rfl rfl rfl rfl (ph l F caps p q Ψ hF h) ?_)
 rintro _ _ _ ⟨⟨rfl, rfl⟩, z, rfl, hz⟩
 refine aST ?_
 refine aU rfl (cL rfl rfl) (aA rfl (aNn (aq ?_)))
 refine aV [] [] rfl Tryz.results229 rfl ?_ (.inr rfl)
 exact ⟨⟨rfl, rfl⟩, _, rfl, fun hb => hz.1 (by simpa using hb), fun hb => hz.2 (by simpa using hb)⟩
theorem lG (b : Nat) (F : FuncId) (caps : List Value) (p : Per) (a : fU) (Φ : Prop) (hF : bE Tryz.prog F = true) (h : Con Tryz.prog F (a.val :: caps) [p] [] (YB Φ)) : Con Tryz.prog 230 [a.val, .pointer (some ⟨b, 0, none⟩)] [At b 0 [.v (.func (.func F) #[] caps.toArray)], p] []
   (YN Value.bool (fun b => b = false → Φ)) := by
 refine Con.enter Tryz.func230 rfl (by simp [Tryz.ntmps230]) ?_
 show awp _ _ _ _ ⟨[(0, true, _), (1, true, _)], _, _⟩
 refine aSR ?_
 refine aj (q := true) rfl (bI rfl rfl rfl (fun b0_0 => ?_))
 refine aHN ?_
 refine aA rfl (aNn (aSR (aU rfl (aN (o := 0) tk237 rfl (.of (an 0 rfl)) rfl) (aU rfl (ab 0 tk182 rfl rfl rfl) ?_))))
 refine aQ [0] (false) hF true rfl rfl (fun _ => rfl) (fun hc => rfl) (fun hc => h) (fun c hc => ?_)
 refine aU rfl (bT rfl) (aA rfl (aNn (aq ?_)))
 refine aV [] [] rfl Tryz.results230 rfl ?_ (.inr rfl)
 exact ⟨⟨rfl, rfl⟩, _, rfl, fun hb => hc rfl (by simpa using hb)⟩
theorem mI (l : Sl fU) (F : FuncId) (caps : List Value) (p : Per) (Φ : fU → Prop) (hF : bE Tryz.prog F = true) (h : ∀ a ∈ l.l, Con Tryz.prog F (a.val :: caps) [p] [] (YB (Φ a))) : Con Tryz.prog 145 [l.val, .func (.func F) #[] caps.toArray] [ShF fU.row l, p] []
   (YB (∀ a ∈ l.l, Φ a)) := by
 refine Con.enter Tryz.func145 rfl (by simp [Tryz.ntmps145]) ?_
 show awp _ _ _ _ ⟨[(0, true, _), (1, true, _)], _, _⟩
 refine aSR ?_
 refine aj (q := true) rfl (bI rfl rfl rfl (fun b0_0 => ?_))
 refine aHN ?_
 refine aA rfl (aNs (bL 0 rfl rfl ?_))
 show awp _ _ _ _ ⟨_, At _ 0 _ :: _, _⟩
 refine ae (aM rfl (aU rfl (dq (l := [.tmp 3]) rfl) ?_))
 refine aQ (caps := []) [1, 2, 0] (false) (by kernel_rfl) true rfl rfl (fun _ => rfl) (fun hc => rfl) (fun hc => by rw [List.append_nil]; exact oJ l 230 [.pointer (some ⟨b0_0, 0, none⟩)] (At b0_0 0 [.v (.func (.func F) #[] caps.toArray)]) p (fun a b => b = false → Φ a) (by kernel_rfl) (fun a ha => lG b0_0 F caps p a (Φ a) hF (h a ha))) (fun c hc => ?_)
 refine aU rfl (bT rfl) (aA rfl (aNn (aq ?_)))
 refine aV [] [] rfl Tryz.results145 rfl ?_ (.inr rfl)
 exact ⟨⟨rfl, rfl⟩, _, rfl, fun hb a ha => (hc rfl).2 (by simpa using hb) a ha rfl⟩
theorem mO (l : Sl fU) (F : FuncId) (caps : List Value) (p : Per) (hF : bE Tryz.prog F = true) (h : ∀ a ∈ l.l, ∀ b ∈ l.l, Con Tryz.prog F (a.val :: b.val :: caps) [p] [] (YB True)) : Con Tryz.prog 146 [l.val, .func (.func F) #[] caps.toArray] [ShF fU.row l, p] [] (YB True) := by
 refine Con.enter Tryz.func146 rfl (by simp [Tryz.ntmps146]) ?_
 show awp _ _ _ _ ⟨[(0, true, _), (1, true, _)], _, _⟩
 refine bd (.of (an 0 rfl)) (fun hlen => ?_)
 refine aSR (aA rfl (aNs (aSR ?_)))
 refine aA rfl (aNn (aw (aP [0, 1, 5] [1, 0] [] (fun (k : Nat) s => k ≤ l.l.length ∧ s = ⟨[(0, true, l.val), (1, true, .func (.func F) #[] caps.toArray), (5, true, .int .i64 ((k + 1 : Nat) : Int))], [ShF fU.row l, p], []⟩) (fun k => l.l.length - k) rfl (⟨0, Nat.zero_le _, rfl⟩) ?_)))
 rintro k s ⟨hk, rfl⟩
 refine az (aSR (aM rfl (aM rfl (aU rfl (aZ Tryz.underlying52 rfl) (aU rfl (bt rfl rfl) (aNn ?_))))))
 refine ah _ rfl (fun h1 => ?_) (fun h1 => ?_)
 ·skip
  have hk' : k + 1 < l.l.length := by simp at h1; omega
  have ha := bN (l := l.l) (i := k) (by omega)
  have hb := bN (l := l.l) (i := k + 1) hk'
  refine au (av (az (aw (az ?_))))
  refine aX [] (by kernel_rfl) ?_
  show aB _ _ _ _ _ 12 #[false, false, false, false, false, false, false, false, false, false, false, false] _
  refine bV 0 rfl rfl (ar rfl) ?_
  refine bV 1 rfl rfl (ar rfl) ?_
  refine bV 2 rfl rfl (ar rfl) ?_
  refine bV 3 rfl rfl (dX rfl rfl (by omega)) ?_
  refine cD 4 rfl (by kernel_rfl) true rfl rfl (fun _ => ai Tryz.underlying52 tk182 rfl ((.of (an 0 rfl))) rfl (aJ ha) (by omega) rfl) (fun h => absurd h (by decide)) (fun ⟨b4_4, o4_4⟩ => ?_)
  refine bV 5 rfl rfl (aF (o := 0) tk182 rfl (an 0 rfl) rfl rfl) ?_
  refine bV 6 rfl rfl (ar rfl) ?_
  refine bV 7 rfl rfl (ar rfl) ?_
  refine cD 8 rfl (by kernel_rfl) true rfl rfl (fun _ => ai Tryz.underlying52 tk182 rfl ((.of (an 1 rfl))) rfl (aJ hb) rfl rfl) (fun h => absurd h (by decide)) (fun ⟨b4_8, o4_8⟩ => ?_)
  refine bV 9 rfl rfl (aF (o := 0) tk182 rfl (an 0 rfl) rfl rfl) ?_
  refine el 10 rfl (by kernel_rfl) [0] (false) hF true rfl rfl (fun _ => rfl) (fun hc => rfl) (fun hc => h _ (List.mem_of_getElem? ha) _ (List.mem_of_getElem? hb)) (fun c hc => ?_)
  refine bV 11 rfl rfl (bT rfl) ?_
  refine bD (by kernel_rfl) ?_
  refine av ?_
  refine ah _ rfl (fun h2 => ?_) (fun h2 => ?_)
  ·skip
   refine aSR (aA rfl (aNn (aq (bj (aK (aK (bj (aK ?_))))))))
   refine aV [] [] rfl Tryz.results146 rfl ?_ (.inr rfl)
   exact ⟨⟨rfl, rfl⟩, _, rfl, fun _ => trivial⟩
  ·skip
   refine au (bu (av (ae (aM rfl ?_))))
   refine aU rfl (bf rfl rfl (by omega)) ?_
   refine aA rfl (aNn ?_)
   refine ⟨[0, 1, 5], [1, 0], [], rfl, ?_⟩
   exact ⟨k + 1, ⟨by omega, rfl⟩, by omega⟩
 ·skip
  refine aR (aS (aS (aY (av (aSR (aA rfl (aNn (aq ?_))))))))
  refine aV [] [] rfl Tryz.results146 rfl ?_ (.inr rfl)
  exact ⟨⟨rfl, rfl⟩, _, rfl, fun _ => trivial⟩
theorem oN (l : Sl Int) (F : FuncId) (caps : List Value) (p q : Per) (Ψ : Int → Bool → Prop) (hF : bE Tryz.prog F = true) (h : ∀ a ∈ l.l, Con Tryz.prog F ((eI a) :: caps) [p, q] [] (YN Value.bool (Ψ a))) : Con Tryz.prog 186 [l.val, .func (.func F) #[] caps.toArray] [ShF (fun z : Int => [D.v (eI z)]) l, p, q] []
   (YN (fun z : Int => .int .i64 z) (fun z => (z ≥ 0 → ∃ a ∈ l.l, Ψ a true) ∧ (¬ z ≥ 0 → ∀ a ∈ l.l, Ψ a false))) := by
 refine Con.enter Tryz.func186 rfl (by simp [Tryz.ntmps186]) ?_
 show awp _ _ _ _ ⟨[(0, true, _), (1, true, _)], _, _⟩
 refine bd (.of (an 0 rfl)) (fun hlen => ?_)
 refine aSR (aA rfl (aNs (aSR (aM rfl (aU rfl (aZ Tryz.underlying90 rfl) (aM rfl (aNn (aw ?_))))))))
 refine aP [0, 1, 7, 8] [2, 1, 0] [] (fun (k : Nat) s => (k ≤ l.l.length ∧ ∀ a ∈ l.l.take k, Ψ a false) ∧ s = ⟨[(0, true, l.val), (1, true, .func (.func F) #[] caps.toArray), (7, true, .int .i64 l.l.length), (8, true, .int .i64 k)], [ShF (fun z : Int => [D.v (eI z)]) l, p, q], []⟩) (fun k => l.l.length - k) rfl (⟨0, ⟨Nat.zero_le _, fun a ha => by cases ha⟩, rfl⟩) ?_
 rintro k s ⟨⟨hk, hno⟩, rfl⟩
 refine aSR (aU rfl (bt rfl rfl) (aNs ?_))
 refine ah _ rfl (fun h1 => ?_) (fun h1 => ?_)
 ·skip
  have hk' : k < l.l.length := by simpa using h1
  obtain ⟨a, ha⟩ : ∃ a, l.l[k]? = some a := ⟨l.l[k]'hk', by simp⟩
  refine au (av (az (aw (aSR (aM rfl (aA rfl (aNn (aSR (aM rfl (aM rfl (aM rfl ?_)))))))))))
  refine ck true rfl rfl (fun _ => ai Tryz.underlying90 tk3 rfl ((.of (an 0 rfl))) rfl (aJ ha) rfl rfl) (fun h => absurd h (by decide)) (fun ⟨b4_3, o4_3⟩ => ?_)
  refine aU rfl (aF (o := 0) tk3 rfl (an 0 rfl) rfl rfl) ?_
  refine aQ [1, 0] (false) hF true rfl rfl (fun _ => rfl) (fun hc => rfl) (fun hc => h a (List.mem_of_getElem? ha)) (fun c hc => ?_)
  refine aNn ?_
  refine ah _ rfl (fun h2 => ?_) (fun h2 => ?_)
  ·skip
   refine aSR (aM rfl (aA rfl (aNn (aq (bj (aK (aK (bj (aK ?_)))))))))
   refine aV [] [] rfl Tryz.results186 rfl ?_ (.inr rfl)
   exact ⟨⟨rfl, rfl⟩, _, rfl, fun _ => ⟨a, List.mem_of_getElem? ha, h2 ▸ hc rfl⟩, fun hz => (hz (Int.natCast_nonneg k)).elim⟩
  ·skip
   refine au (bu (av (ae ?_)))
   refine aU rfl (bf rfl rfl (by omega)) ?_
   refine aM rfl (aNn ?_)
   refine ⟨[0, 1, 7, 8], [2, 1, 0], [], rfl, ?_⟩
   refine ⟨k + 1, ⟨⟨by omega, ?_⟩, rfl⟩, by omega⟩
   intro y hy
   rw [List.take_add_one, ha, List.mem_append] at hy
   rcases hy with hy | hy
   · exact hno y hy
   · simp at hy; subst hy; exact h2 ▸ hc rfl
 ·skip
  refine aR (aS (aS (aY (av (aSR (aA rfl (aNn (aq ?_))))))))
  refine aV [] [] rfl Tryz.results186 rfl ?_ (.inr rfl)
  refine ⟨⟨rfl, rfl⟩, _, rfl, fun hz => absurd hz (by decide), fun _ => ?_⟩
  rw [List.take_of_length_le (by simpa using h1)] at hno; exact hno
theorem pw (l : Sl Int) (F : FuncId) (caps : List Value) (p q : Per) (Ψ : Int → Bool → Prop) (hF : bE Tryz.prog F = true) (h : ∀ a ∈ l.l, Con Tryz.prog F ((eI a) :: caps) [p, q] [] (YN Value.bool (Ψ a))) : Con Tryz.prog 231 [l.val, .func (.func F) #[] caps.toArray] [ShF (fun z : Int => [D.v (eI z)]) l, p, q] []
   (YN Value.bool (fun b => (b = true → ∃ a ∈ l.l, Ψ a true) ∧ (b = false → ∀ a ∈ l.l, Ψ a false))) := by
 refine Con.enter Tryz.func231 rfl (by simp [Tryz.ntmps231]) ?_
 show awp _ _ _ _ ⟨[(0, true, _), (1, true, _)], _, _⟩
 refine aSR (aA rfl (aNn (aSR (aM rfl (aM rfl ?_)))))
 refine aj (q := true) rfl (bF [2, 1, 0] [] (by kernel_rfl) rfl rfl rfl rfl (oN l F caps p q Ψ hF h) ?_)
 rintro _ _ _ ⟨⟨rfl, rfl⟩, z, rfl, hz⟩
 refine aST ?_
 refine aU rfl (cL rfl rfl) (aA rfl (aNn (aq ?_)))
 refine aV [] [] rfl Tryz.results231 rfl ?_ (.inr rfl)
 exact ⟨⟨rfl, rfl⟩, _, rfl, fun hb => hz.1 (by simpa using hb), fun hb => hz.2 (by simpa using hb)⟩
theorem mq (b : Nat) (F : FuncId) (caps : List Value) (p : Per) (a : Int) (Φ : Prop) (hF : bE Tryz.prog F = true) (h : Con Tryz.prog F ((eI a) :: caps) [p] [] (YB Φ)) : Con Tryz.prog 232 [(eI a), .pointer (some ⟨b, 0, none⟩)] [At b 0 [.v (.func (.func F) #[] caps.toArray)], p] []
   (YN Value.bool (fun b => b = false → Φ)) := by
 refine Con.enter Tryz.func232 rfl (by simp [Tryz.ntmps232]) ?_
 show awp _ _ _ _ ⟨[(0, true, _), (1, true, _)], _, _⟩
 refine aSR (aA rfl (aNn (aSR (aU rfl (aN (o := 0) tk152 rfl (.of (an 0 rfl)) rfl) (aM rfl ?_)))))
 refine aQ [0] (false) hF true rfl rfl (fun _ => rfl) (fun hc => rfl) (fun hc => h) (fun c hc => ?_)
 refine aU rfl (bT rfl) (aA rfl (aNn (aq ?_)))
 refine aV [] [] rfl Tryz.results232 rfl ?_ (.inr rfl)
 exact ⟨⟨rfl, rfl⟩, _, rfl, fun hb => hc rfl (by simpa using hb)⟩
theorem mP (l : Sl Int) (F : FuncId) (caps : List Value) (p : Per) (Φ : Int → Prop) (hF : bE Tryz.prog F = true) (h : ∀ a ∈ l.l, Con Tryz.prog F ((eI a) :: caps) [p] [] (YB (Φ a))) : Con Tryz.prog 147 [l.val, .func (.func F) #[] caps.toArray] [ShF (fun z : Int => [D.v (eI z)]) l, p] []
   (YB (∀ a ∈ l.l, Φ a)) := by
 refine Con.enter Tryz.func147 rfl (by simp [Tryz.ntmps147]) ?_
 show awp _ _ _ _ ⟨[(0, true, _), (1, true, _)], _, _⟩
 refine aSR ?_
 refine aj (q := true) rfl (bI rfl rfl rfl (fun b0_0 => ?_))
 refine aHN ?_
 refine aA rfl (aNs (bL 0 rfl rfl ?_))
 show awp _ _ _ _ ⟨_, At _ 0 _ :: _, _⟩
 refine ae (aM rfl (aU rfl (dq (l := [.tmp 3]) rfl) ?_))
 refine aQ (caps := []) [1, 2, 0] (false) (by kernel_rfl) true rfl rfl (fun _ => rfl) (fun hc => rfl) (fun hc => by rw [List.append_nil]; exact pw l 232 [.pointer (some ⟨b0_0, 0, none⟩)] (At b0_0 0 [.v (.func (.func F) #[] caps.toArray)]) p (fun a b => b = false → Φ a) (by kernel_rfl) (fun a ha => mq b0_0 F caps p a (Φ a) hF (h a ha))) (fun c hc => ?_)
 refine aU rfl (bT rfl) (aA rfl (aNn (aq ?_)))
 refine aV [] [] rfl Tryz.results147 rfl ?_ (.inr rfl)
 exact ⟨⟨rfl, rfl⟩, _, rfl, fun hb a ha => (hc rfl).2 (by simpa using hb) a ha rfl⟩
theorem tk247 : tyk Tryz.prog 247 = some (false, 1) := by kernel_rfl
theorem mK (l : Sl eQ) (F : FuncId) (caps : List Value) (p q : Per) (Ψ : eQ → Bool → Prop) (hF : bE Tryz.prog F = true) (h : ∀ a ∈ l.l, Con Tryz.prog F (a.val :: caps) [p, q] [] (YN Value.bool (Ψ a))) : Con Tryz.prog 277 [l.val, .func (.func F) #[] caps.toArray] [ShF eQ.row l, p, q] []
   (YN (fun z : Int => .int .i64 z) (fun z => (z ≥ 0 → ∃ a ∈ l.l, Ψ a true) ∧ (¬ z ≥ 0 → ∀ a ∈ l.l, Ψ a false))) := by
 refine Con.enter Tryz.func277 rfl (by simp [Tryz.ntmps277]) ?_
 show awp _ _ _ _ ⟨[(0, true, _), (1, true, _)], _, _⟩
 refine bd (.of (an 0 rfl)) (fun hlen => ?_)
 refine aSR (aA rfl (aNs (aSR (aM rfl (aU rfl (aZ Tryz.underlying54 rfl) (aM rfl (aNn (aw ?_))))))))
 refine aP [0, 1, 7, 8] [2, 1, 0] [] (fun (k : Nat) s => (k ≤ l.l.length ∧ ∀ a ∈ l.l.take k, Ψ a false) ∧ s = ⟨[(0, true, l.val), (1, true, .func (.func F) #[] caps.toArray), (7, true, .int .i64 l.l.length), (8, true, .int .i64 k)], [ShF eQ.row l, p, q], []⟩) (fun k => l.l.length - k) rfl (⟨0, ⟨Nat.zero_le _, fun a ha => by cases ha⟩, rfl⟩) ?_
 rintro k s ⟨⟨hk, hno⟩, rfl⟩
 refine aSR (aU rfl (bt rfl rfl) (aNs ?_))
 refine ah _ rfl (fun h1 => ?_) (fun h1 => ?_)
 ·skip
  have hk' : k < l.l.length := by simpa using h1
  obtain ⟨a, ha⟩ : ∃ a, l.l[k]? = some a := ⟨l.l[k]'hk', by simp⟩
  refine au (av (az (aw (aSR (aM rfl (aA rfl (aNn (aSR (aM rfl (aM rfl (aM rfl ?_)))))))))))
  refine ck true rfl rfl (fun _ => ai Tryz.underlying54 tk195 rfl ((.of (an 0 rfl))) rfl (aJ ha) rfl rfl) (fun h => absurd h (by decide)) (fun ⟨b4_3, o4_3⟩ => ?_)
  refine aU rfl (aF (o := 0) tk195 rfl (an 0 rfl) rfl rfl) ?_
  refine aQ [1, 0] (false) hF true rfl rfl (fun _ => rfl) (fun hc => rfl) (fun hc => h a (List.mem_of_getElem? ha)) (fun c hc => ?_)
  refine aNn ?_
  refine ah _ rfl (fun h2 => ?_) (fun h2 => ?_)
  ·skip
   refine aSR (aM rfl (aA rfl (aNn (aq (bj (aK (aK (bj (aK ?_)))))))))
   refine aV [] [] rfl Tryz.results277 rfl ?_ (.inr rfl)
   exact ⟨⟨rfl, rfl⟩, _, rfl, fun _ => ⟨a, List.mem_of_getElem? ha, h2 ▸ hc rfl⟩, fun hz => (hz (Int.natCast_nonneg k)).elim⟩
  ·skip
   refine au (bu (av (ae ?_)))
   refine aU rfl (bf rfl rfl (by omega)) ?_
   refine aM rfl (aNn ?_)
   refine ⟨[0, 1, 7, 8], [2, 1, 0], [], rfl, ?_⟩
   refine ⟨k + 1, ⟨⟨by omega, ?_⟩, rfl⟩, by omega⟩
   intro y hy
   rw [List.take_add_one, ha, List.mem_append] at hy
   rcases hy with hy | hy
   · exact hno y hy
   · simp at hy; subst hy; exact h2 ▸ hc rfl
 ·skip
  refine aR (aS (aS (aY (av (aSR (aA rfl (aNn (aq ?_))))))))
  refine aV [] [] rfl Tryz.results277 rfl ?_ (.inr rfl)
  refine ⟨⟨rfl, rfl⟩, _, rfl, fun hz => absurd hz (by decide), fun _ => ?_⟩
  rw [List.take_of_length_le (by simpa using h1)] at hno; exact hno
theorem mX (l : Sl eQ) (F : FuncId) (caps : List Value) (p q : Per) (Ψ : eQ → Bool → Prop) (hF : bE Tryz.prog F = true) (h : ∀ a ∈ l.l, Con Tryz.prog F (a.val :: caps) [p, q] [] (YN Value.bool (Ψ a))) : Con Tryz.prog 233 [l.val, .func (.func F) #[] caps.toArray] [ShF eQ.row l, p, q] []
   (YN Value.bool (fun b => (b = true → ∃ a ∈ l.l, Ψ a true) ∧ (b = false → ∀ a ∈ l.l, Ψ a false))) := by
 refine Con.enter Tryz.func233 rfl (by simp [Tryz.ntmps233]) ?_
 show awp _ _ _ _ ⟨[(0, true, _), (1, true, _)], _, _⟩
 refine aSR (aA rfl (aNn (aSR (aM rfl (aM rfl ?_)))))
 refine aj (q := true) rfl (bF [2, 1, 0] [] (by kernel_rfl) rfl rfl rfl rfl (mK l F caps p q Ψ hF h) ?_)
 rintro _ _ _ ⟨⟨rfl, rfl⟩, z, rfl, hz⟩
 refine aST ?_
 refine aU rfl (cL rfl rfl) (aA rfl (aNn (aq ?_)))
 refine aV [] [] rfl Tryz.results233 rfl ?_ (.inr rfl)
 exact ⟨⟨rfl, rfl⟩, _, rfl, fun hb => hz.1 (by simpa using hb), fun hb => hz.2 (by simpa using hb)⟩
theorem lg (b : Nat) (F : FuncId) (caps : List Value) (p : Per) (a : eQ) (Φ : Prop) (hF : bE Tryz.prog F = true) (h : Con Tryz.prog F (a.val :: caps) [p] [] (YB Φ)) : Con Tryz.prog 234 [a.val, .pointer (some ⟨b, 0, none⟩)] [At b 0 [.v (.func (.func F) #[] caps.toArray)], p] []
   (YN Value.bool (fun b => b = false → Φ)) := by
 refine Con.enter Tryz.func234 rfl (by simp [Tryz.ntmps234]) ?_
 show awp _ _ _ _ ⟨[(0, true, _), (1, true, _)], _, _⟩
 refine aSR ?_
 refine aj (q := true) rfl (bI rfl rfl rfl (fun b0_0 => ?_))
 refine aHN ?_
 refine aA rfl (aNn (aSR (aU rfl (aN (o := 0) tk247 rfl (.of (an 0 rfl)) rfl) (aU rfl (ab 0 tk195 rfl rfl rfl) ?_))))
 refine aQ [0] (false) hF true rfl rfl (fun _ => rfl) (fun hc => rfl) (fun hc => h) (fun c hc => ?_)
 refine aU rfl (bT rfl) (aA rfl (aNn (aq ?_)))
 refine aV [] [] rfl Tryz.results234 rfl ?_ (.inr rfl)
 exact ⟨⟨rfl, rfl⟩, _, rfl, fun hb => hc rfl (by simpa using hb)⟩
theorem lJ (l : Sl eQ) (F : FuncId) (caps : List Value) (p : Per) (Φ : eQ → Prop) (hF : bE Tryz.prog F = true) (h : ∀ a ∈ l.l, Con Tryz.prog F (a.val :: caps) [p] [] (YB (Φ a))) : Con Tryz.prog 155 [l.val, .func (.func F) #[] caps.toArray] [ShF eQ.row l, p] []
   (YB (∀ a ∈ l.l, Φ a)) := by
 refine Con.enter Tryz.func155 rfl (by simp [Tryz.ntmps155]) ?_
 show awp _ _ _ _ ⟨[(0, true, _), (1, true, _)], _, _⟩
 refine aSR ?_
 refine aj (q := true) rfl (bI rfl rfl rfl (fun b0_0 => ?_))
 refine aHN ?_
 refine aA rfl (aNs (bL 0 rfl rfl ?_))
 show awp _ _ _ _ ⟨_, At _ 0 _ :: _, _⟩
 refine ae (aM rfl (aU rfl (dq (l := [.tmp 3]) rfl) ?_))
 refine aQ (caps := []) [1, 2, 0] (false) (by kernel_rfl) true rfl rfl (fun _ => rfl) (fun hc => rfl) (fun hc => by rw [List.append_nil]; exact mX l 234 [.pointer (some ⟨b0_0, 0, none⟩)] (At b0_0 0 [.v (.func (.func F) #[] caps.toArray)]) p (fun a b => b = false → Φ a) (by kernel_rfl) (fun a ha => lg b0_0 F caps p a (Φ a) hF (h a ha))) (fun c hc => ?_)
 refine aU rfl (bT rfl) (aA rfl (aNn (aq ?_)))
 refine aV [] [] rfl Tryz.results155 rfl ?_ (.inr rfl)
 exact ⟨⟨rfl, rfl⟩, _, rfl, fun hb a ha => (hc rfl).2 (by simpa using hb) a ha rfl⟩
theorem tk248 : tyk Tryz.prog 248 = some (false, 1) := by kernel_rfl
theorem mY (l : Sl dA) (F : FuncId) (caps : List Value) (p q : Per) (Ψ : dA → Bool → Prop) (hF : bE Tryz.prog F = true) (h : ∀ a ∈ l.l, Con Tryz.prog F (a.val :: caps) [p, q] [] (YN Value.bool (Ψ a))) : Con Tryz.prog 278 [l.val, .func (.func F) #[] caps.toArray] [ShF dA.row l, p, q] []
   (YN (fun z : Int => .int .i64 z) (fun z => (z ≥ 0 → ∃ a ∈ l.l, Ψ a true) ∧ (¬ z ≥ 0 → ∀ a ∈ l.l, Ψ a false))) := by
 refine Con.enter Tryz.func278 rfl (by simp [Tryz.ntmps278]) ?_
 show awp _ _ _ _ ⟨[(0, true, _), (1, true, _)], _, _⟩
 refine bd (.of (an 0 rfl)) (fun hlen => ?_)
 refine aSR (aA rfl (aNs (aSR (aM rfl (aU rfl (aZ Tryz.underlying55 rfl) (aM rfl (aNn (aw ?_))))))))
 refine aP [0, 1, 7, 8] [2, 1, 0] [] (fun (k : Nat) s => (k ≤ l.l.length ∧ ∀ a ∈ l.l.take k, Ψ a false) ∧ s = ⟨[(0, true, l.val), (1, true, .func (.func F) #[] caps.toArray), (7, true, .int .i64 l.l.length), (8, true, .int .i64 k)], [ShF dA.row l, p, q], []⟩) (fun k => l.l.length - k) rfl (⟨0, ⟨Nat.zero_le _, fun a ha => by cases ha⟩, rfl⟩) ?_
 rintro k s ⟨⟨hk, hno⟩, rfl⟩
 refine aSR (aU rfl (bt rfl rfl) (aNs ?_))
 refine ah _ rfl (fun h1 => ?_) (fun h1 => ?_)
 ·skip
  have hk' : k < l.l.length := by simpa using h1
  obtain ⟨a, ha⟩ : ∃ a, l.l[k]? = some a := ⟨l.l[k]'hk', by simp⟩
  refine au (av (az (aw (aSR (aM rfl (aA rfl (aNn (aSR (aM rfl (aM rfl (aM rfl ?_)))))))))))
  refine ck true rfl rfl (fun _ => ai Tryz.underlying55 tk197 rfl ((.of (an 0 rfl))) rfl (aJ ha) rfl rfl) (fun h => absurd h (by decide)) (fun ⟨b4_3, o4_3⟩ => ?_)
  refine aU rfl (aF (o := 0) tk197 rfl (an 0 rfl) rfl rfl) ?_
  refine aQ [1, 0] (false) hF true rfl rfl (fun _ => rfl) (fun hc => rfl) (fun hc => h a (List.mem_of_getElem? ha)) (fun c hc => ?_)
  refine aNn ?_
  refine ah _ rfl (fun h2 => ?_) (fun h2 => ?_)
  ·skip
   refine aSR (aM rfl (aA rfl (aNn (aq (bj (aK (aK (bj (aK ?_)))))))))
   refine aV [] [] rfl Tryz.results278 rfl ?_ (.inr rfl)
   exact ⟨⟨rfl, rfl⟩, _, rfl, fun _ => ⟨a, List.mem_of_getElem? ha, h2 ▸ hc rfl⟩, fun hz => (hz (Int.natCast_nonneg k)).elim⟩
  ·skip
   refine au (bu (av (ae ?_)))
   refine aU rfl (bf rfl rfl (by omega)) ?_
   refine aM rfl (aNn ?_)
   refine ⟨[0, 1, 7, 8], [2, 1, 0], [], rfl, ?_⟩
   refine ⟨k + 1, ⟨⟨by omega, ?_⟩, rfl⟩, by omega⟩
   intro y hy
   rw [List.take_add_one, ha, List.mem_append] at hy
   rcases hy with hy | hy
   · exact hno y hy
   · simp at hy; subst hy; exact h2 ▸ hc rfl
 ·skip
  refine aR (aS (aS (aY (av (aSR (aA rfl (aNn (aq ?_))))))))
  refine aV [] [] rfl Tryz.results278 rfl ?_ (.inr rfl)
  refine ⟨⟨rfl, rfl⟩, _, rfl, fun hz => absurd hz (by decide), fun _ => ?_⟩
  rw [List.take_of_length_le (by simpa using h1)] at hno; exact hno
theorem mS (l : Sl dA) (F : FuncId) (caps : List Value) (p q : Per) (Ψ : dA → Bool → Prop) (hF : bE Tryz.prog F = true) (h : ∀ a ∈ l.l, Con Tryz.prog F (a.val :: caps) [p, q] [] (YN Value.bool (Ψ a))) : Con Tryz.prog 235 [l.val, .func (.func F) #[] caps.toArray] [ShF dA.row l, p, q] []
   (YN Value.bool (fun b => (b = true → ∃ a ∈ l.l, Ψ a true) ∧ (b = false → ∀ a ∈ l.l, Ψ a false))) := by
 refine Con.enter Tryz.func235 rfl (by simp [Tryz.ntmps235]) ?_
 show awp _ _ _ _ ⟨[(0, true, _), (1, true, _)], _, _⟩
 refine aSR (aA rfl (aNn (aSR (aM rfl (aM rfl ?_)))))
 refine aj (q := true) rfl (bF [2, 1, 0] [] (by kernel_rfl) rfl rfl rfl rfl (mY l F caps p q Ψ hF h) ?_)
 rintro _ _ _ ⟨⟨rfl, rfl⟩, z, rfl, hz⟩
 refine aST ?_
 refine aU rfl (cL rfl rfl) (aA rfl (aNn (aq ?_)))
 refine aV [] [] rfl Tryz.results235 rfl ?_ (.inr rfl)
 exact ⟨⟨rfl, rfl⟩, _, rfl, fun hb => hz.1 (by simpa using hb), fun hb => hz.2 (by simpa using hb)⟩
theorem k9 (b : Nat) (F : FuncId) (caps : List Value) (p : Per) (a : dA) (Φ : Prop) (hF : bE Tryz.prog F = true) (h : Con Tryz.prog F (a.val :: caps) [p] [] (YB Φ)) : Con Tryz.prog 236 [a.val, .pointer (some ⟨b, 0, none⟩)] [At b 0 [.v (.func (.func F) #[] caps.toArray)], p] []
   (YN Value.bool (fun b => b = false → Φ)) := by
 refine Con.enter Tryz.func236 rfl (by simp [Tryz.ntmps236]) ?_
 show awp _ _ _ _ ⟨[(0, true, _), (1, true, _)], _, _⟩
 refine aSR ?_
 refine aj (q := true) rfl (bI rfl rfl rfl (fun b0_0 => ?_))
 refine aHN ?_
 refine aA rfl (aNn (aSR (aU rfl (aN (o := 0) tk248 rfl (.of (an 0 rfl)) rfl) (aU rfl (ab 0 tk197 rfl rfl rfl) ?_))))
 refine aQ [0] (false) hF true rfl rfl (fun _ => rfl) (fun hc => rfl) (fun hc => h) (fun c hc => ?_)
 refine aU rfl (bT rfl) (aA rfl (aNn (aq ?_)))
 refine aV [] [] rfl Tryz.results236 rfl ?_ (.inr rfl)
 exact ⟨⟨rfl, rfl⟩, _, rfl, fun hb => hc rfl (by simpa using hb)⟩
theorem mj (l : Sl dA) (F : FuncId) (caps : List Value) (p : Per) (Φ : dA → Prop) (hF : bE Tryz.prog F = true) (h : ∀ a ∈ l.l, Con Tryz.prog F (a.val :: caps) [p] [] (YB (Φ a))) : Con Tryz.prog 161 [l.val, .func (.func F) #[] caps.toArray] [ShF dA.row l, p] []
   (YB (∀ a ∈ l.l, Φ a)) := by
 refine Con.enter Tryz.func161 rfl (by simp [Tryz.ntmps161]) ?_
 show awp _ _ _ _ ⟨[(0, true, _), (1, true, _)], _, _⟩
 refine aSR ?_
 refine aj (q := true) rfl (bI rfl rfl rfl (fun b0_0 => ?_))
 refine aHN ?_
 refine aA rfl (aNs (bL 0 rfl rfl ?_))
 show awp _ _ _ _ ⟨_, At _ 0 _ :: _, _⟩
 refine ae (aM rfl (aU rfl (dq (l := [.tmp 3]) rfl) ?_))
 refine aQ (caps := []) [1, 2, 0] (false) (by kernel_rfl) true rfl rfl (fun _ => rfl) (fun hc => rfl) (fun hc => by rw [List.append_nil]; exact mS l 236 [.pointer (some ⟨b0_0, 0, none⟩)] (At b0_0 0 [.v (.func (.func F) #[] caps.toArray)]) p (fun a b => b = false → Φ a) (by kernel_rfl) (fun a ha => k9 b0_0 F caps p a (Φ a) hF (h a ha))) (fun c hc => ?_)
 refine aU rfl (bT rfl) (aA rfl (aNn (aq ?_)))
 refine aV [] [] rfl Tryz.results161 rfl ?_ (.inr rfl)
 exact ⟨⟨rfl, rfl⟩, _, rfl, fun hb a ha => (hc rfl).2 (by simpa using hb) a ha rfl⟩
theorem l8 (l : Sl dA) (F : FuncId) (caps : List Value) (p : Per) (hF : bE Tryz.prog F = true) (h : ∀ a ∈ l.l, ∀ b ∈ l.l, Con Tryz.prog F (a.val :: b.val :: caps) [p] [] (YB True)) : Con Tryz.prog 162 [l.val, .func (.func F) #[] caps.toArray] [ShF dA.row l, p] [] (YB True) := by
 refine Con.enter Tryz.func162 rfl (by simp [Tryz.ntmps162]) ?_
 show awp _ _ _ _ ⟨[(0, true, _), (1, true, _)], _, _⟩
 refine bd (.of (an 0 rfl)) (fun hlen => ?_)
 refine aSR (aA rfl (aNs (aSR ?_)))
 refine aA rfl (aNn (aw (aP [0, 1, 5] [1, 0] [] (fun (k : Nat) s => k ≤ l.l.length ∧ s = ⟨[(0, true, l.val), (1, true, .func (.func F) #[] caps.toArray), (5, true, .int .i64 ((k + 1 : Nat) : Int))], [ShF dA.row l, p], []⟩) (fun k => l.l.length - k) rfl (⟨0, Nat.zero_le _, rfl⟩) ?_)))
 rintro k s ⟨hk, rfl⟩
 refine az (aSR (aM rfl (aM rfl (aU rfl (aZ Tryz.underlying55 rfl) (aU rfl (bt rfl rfl) (aNn ?_))))))
 refine ah _ rfl (fun h1 => ?_) (fun h1 => ?_)
 ·skip
  have hk' : k + 1 < l.l.length := by simp at h1; omega
  have ha := bN (l := l.l) (i := k) (by omega)
  have hb := bN (l := l.l) (i := k + 1) hk'
  refine au (av (az (aw (az ?_))))
  refine aX [] (by kernel_rfl) ?_
  show aB _ _ _ _ _ 12 #[false, false, false, false, false, false, false, false, false, false, false, false] _
  refine bV 0 rfl rfl (ar rfl) ?_
  refine bV 1 rfl rfl (ar rfl) ?_
  refine bV 2 rfl rfl (ar rfl) ?_
  refine bV 3 rfl rfl (dX rfl rfl (by omega)) ?_
  refine cD 4 rfl (by kernel_rfl) true rfl rfl (fun _ => ai Tryz.underlying55 tk197 rfl ((.of (an 0 rfl))) rfl (aJ ha) (by omega) rfl) (fun h => absurd h (by decide)) (fun ⟨b4_4, o4_4⟩ => ?_)
  refine bV 5 rfl rfl (aF (o := 0) tk197 rfl (an 0 rfl) rfl rfl) ?_
  refine bV 6 rfl rfl (ar rfl) ?_
  refine bV 7 rfl rfl (ar rfl) ?_
  refine cD 8 rfl (by kernel_rfl) true rfl rfl (fun _ => ai Tryz.underlying55 tk197 rfl ((.of (an 1 rfl))) rfl (aJ hb) rfl rfl) (fun h => absurd h (by decide)) (fun ⟨b4_8, o4_8⟩ => ?_)
  refine bV 9 rfl rfl (aF (o := 0) tk197 rfl (an 0 rfl) rfl rfl) ?_
  refine el 10 rfl (by kernel_rfl) [0] (false) hF true rfl rfl (fun _ => rfl) (fun hc => rfl) (fun hc => h _ (List.mem_of_getElem? ha) _ (List.mem_of_getElem? hb)) (fun c hc => ?_)
  refine bV 11 rfl rfl (bT rfl) ?_
  refine bD (by kernel_rfl) ?_
  refine av ?_
  refine ah _ rfl (fun h2 => ?_) (fun h2 => ?_)
  ·skip
   refine aSR (aA rfl (aNn (aq (bj (aK (aK (bj (aK ?_))))))))
   refine aV [] [] rfl Tryz.results162 rfl ?_ (.inr rfl)
   exact ⟨⟨rfl, rfl⟩, _, rfl, fun _ => trivial⟩
  ·skip
   refine au (bu (av (ae (aM rfl ?_))))
   refine aU rfl (bf rfl rfl (by omega)) ?_
   refine aA rfl (aNn ?_)
   refine ⟨[0, 1, 5], [1, 0], [], rfl, ?_⟩
   exact ⟨k + 1, ⟨by omega, rfl⟩, by omega⟩
 ·skip
  refine aR (aS (aS (aY (av (aSR (aA rfl (aNn (aq ?_))))))))
  refine aV [] [] rfl Tryz.results162 rfl ?_ (.inr rfl)
  exact ⟨⟨rfl, rfl⟩, _, rfl, fun _ => trivial⟩
theorem tk253 : tyk Tryz.prog 253 = some (false, 1) := by kernel_rfl
theorem k8 (l : Sl cg) (F : FuncId) (caps : List Value) (p q : Per) (Ψ : cg → Bool → Prop) (hF : bE Tryz.prog F = true) (h : ∀ a ∈ l.l, Con Tryz.prog F (a.val :: caps) [p, q] [] (YN Value.bool (Ψ a))) : Con Tryz.prog 279 [l.val, .func (.func F) #[] caps.toArray] [ShF cg.row l, p, q] []
   (YN (fun z : Int => .int .i64 z) (fun z => (z ≥ 0 → ∃ a ∈ l.l, Ψ a true) ∧ (¬ z ≥ 0 → ∀ a ∈ l.l, Ψ a false))) := by
 refine Con.enter Tryz.func279 rfl (by simp [Tryz.ntmps279]) ?_
 show awp _ _ _ _ ⟨[(0, true, _), (1, true, _)], _, _⟩
 refine bd (.of (an 0 rfl)) (fun hlen => ?_)
 refine aSR (aA rfl (aNs (aSR (aM rfl (aU rfl (aZ Tryz.underlying56 rfl) (aM rfl (aNn (aw ?_))))))))
 refine aP [0, 1, 7, 8] [2, 1, 0] [] (fun (k : Nat) s => (k ≤ l.l.length ∧ ∀ a ∈ l.l.take k, Ψ a false) ∧ s = ⟨[(0, true, l.val), (1, true, .func (.func F) #[] caps.toArray), (7, true, .int .i64 l.l.length), (8, true, .int .i64 k)], [ShF cg.row l, p, q], []⟩) (fun k => l.l.length - k) rfl (⟨0, ⟨Nat.zero_le _, fun a ha => by cases ha⟩, rfl⟩) ?_
 rintro k s ⟨⟨hk, hno⟩, rfl⟩
 refine aSR (aU rfl (bt rfl rfl) (aNs ?_))
 refine ah _ rfl (fun h1 => ?_) (fun h1 => ?_)
 ·skip
  have hk' : k < l.l.length := by simpa using h1
  obtain ⟨a, ha⟩ : ∃ a, l.l[k]? = some a := ⟨l.l[k]'hk', by simp⟩
  refine au (av (az (aw (aSR (aM rfl (aA rfl (aNn (aSR (aM rfl (aM rfl (aM rfl ?_)))))))))))
  refine ck true rfl rfl (fun _ => ai Tryz.underlying56 tk200 rfl ((.of (an 0 rfl))) rfl (aJ ha) rfl rfl) (fun h => absurd h (by decide)) (fun ⟨b4_3, o4_3⟩ => ?_)
  refine aU rfl (aF (o := 0) tk200 rfl (an 0 rfl) rfl rfl) ?_
  refine aQ [1, 0] (false) hF true rfl rfl (fun _ => rfl) (fun hc => rfl) (fun hc => h a (List.mem_of_getElem? ha)) (fun c hc => ?_)
  refine aNn ?_
  refine ah _ rfl (fun h2 => ?_) (fun h2 => ?_)
  ·skip
   refine aSR (aM rfl (aA rfl (aNn (aq (bj (aK (aK (bj (aK ?_)))))))))
   refine aV [] [] rfl Tryz.results279 rfl ?_ (.inr rfl)
   exact ⟨⟨rfl, rfl⟩, _, rfl, fun _ => ⟨a, List.mem_of_getElem? ha, h2 ▸ hc rfl⟩, fun hz => (hz (Int.natCast_nonneg k)).elim⟩
  ·skip
   refine au (bu (av (ae ?_)))
   refine aU rfl (bf rfl rfl (by omega)) ?_
   refine aM rfl (aNn ?_)
   refine ⟨[0, 1, 7, 8], [2, 1, 0], [], rfl, ?_⟩
   refine ⟨k + 1, ⟨⟨by omega, ?_⟩, rfl⟩, by omega⟩
   intro y hy
   rw [List.take_add_one, ha, List.mem_append] at hy
   rcases hy with hy | hy
   · exact hno y hy
   · simp at hy; subst hy; exact h2 ▸ hc rfl
 ·skip
  refine aR (aS (aS (aY (av (aSR (aA rfl (aNn (aq ?_))))))))
  refine aV [] [] rfl Tryz.results279 rfl ?_ (.inr rfl)
  refine ⟨⟨rfl, rfl⟩, _, rfl, fun hz => absurd hz (by decide), fun _ => ?_⟩
  rw [List.take_of_length_le (by simpa using h1)] at hno; exact hno
theorem k6 (l : Sl cg) (F : FuncId) (caps : List Value) (p q : Per) (Ψ : cg → Bool → Prop) (hF : bE Tryz.prog F = true) (h : ∀ a ∈ l.l, Con Tryz.prog F (a.val :: caps) [p, q] [] (YN Value.bool (Ψ a))) : Con Tryz.prog 237 [l.val, .func (.func F) #[] caps.toArray] [ShF cg.row l, p, q] []
   (YN Value.bool (fun b => (b = true → ∃ a ∈ l.l, Ψ a true) ∧ (b = false → ∀ a ∈ l.l, Ψ a false))) := by
 refine Con.enter Tryz.func237 rfl (by simp [Tryz.ntmps237]) ?_
 show awp _ _ _ _ ⟨[(0, true, _), (1, true, _)], _, _⟩
 refine aSR (aA rfl (aNn (aSR (aM rfl (aM rfl ?_)))))
 refine aj (q := true) rfl (bF [2, 1, 0] [] (by kernel_rfl) rfl rfl rfl rfl (k8 l F caps p q Ψ hF h) ?_)
 rintro _ _ _ ⟨⟨rfl, rfl⟩, z, rfl, hz⟩
 refine aST ?_
 refine aU rfl (cL rfl rfl) (aA rfl (aNn (aq ?_)))
 refine aV [] [] rfl Tryz.results237 rfl ?_ (.inr rfl)
 exact ⟨⟨rfl, rfl⟩, _, rfl, fun hb => hz.1 (by simpa using hb), fun hb => hz.2 (by simpa using hb)⟩
theorem jr (b : Nat) (F : FuncId) (caps : List Value) (p : Per) (a : cg) (Φ : Prop) (hF : bE Tryz.prog F = true) (h : Con Tryz.prog F (a.val :: caps) [p] [] (YB Φ)) : Con Tryz.prog 238 [a.val, .pointer (some ⟨b, 0, none⟩)] [At b 0 [.v (.func (.func F) #[] caps.toArray)], p] []
   (YN Value.bool (fun b => b = false → Φ)) := by
 refine Con.enter Tryz.func238 rfl (by simp [Tryz.ntmps238]) ?_
 show awp _ _ _ _ ⟨[(0, true, _), (1, true, _)], _, _⟩
 refine aSR ?_
 refine aj (q := true) rfl (bI rfl rfl rfl (fun b0_0 => ?_))
 refine aHN ?_
 refine aA rfl (aNn (aSR (aU rfl (aN (o := 0) tk253 rfl (.of (an 0 rfl)) rfl) (aU rfl (ab 0 tk200 rfl rfl rfl) ?_))))
 refine aQ [0] (false) hF true rfl rfl (fun _ => rfl) (fun hc => rfl) (fun hc => h) (fun c hc => ?_)
 refine aU rfl (bT rfl) (aA rfl (aNn (aq ?_)))
 refine aV [] [] rfl Tryz.results238 rfl ?_ (.inr rfl)
 exact ⟨⟨rfl, rfl⟩, _, rfl, fun hb => hc rfl (by simpa using hb)⟩
theorem j2 (l : Sl cg) (F : FuncId) (caps : List Value) (p : Per) (Φ : cg → Prop) (hF : bE Tryz.prog F = true) (h : ∀ a ∈ l.l, Con Tryz.prog F (a.val :: caps) [p] [] (YB (Φ a))) : Con Tryz.prog 163 [l.val, .func (.func F) #[] caps.toArray] [ShF cg.row l, p] []
   (YB (∀ a ∈ l.l, Φ a)) := by
 refine Con.enter Tryz.func163 rfl (by simp [Tryz.ntmps163]) ?_
 show awp _ _ _ _ ⟨[(0, true, _), (1, true, _)], _, _⟩
 refine aSR ?_
 refine aj (q := true) rfl (bI rfl rfl rfl (fun b0_0 => ?_))
 refine aHN ?_
 refine aA rfl (aNs (bL 0 rfl rfl ?_))
 show awp _ _ _ _ ⟨_, At _ 0 _ :: _, _⟩
 refine ae (aM rfl (aU rfl (dq (l := [.tmp 3]) rfl) ?_))
 refine aQ (caps := []) [1, 2, 0] (false) (by kernel_rfl) true rfl rfl (fun _ => rfl) (fun hc => rfl) (fun hc => by rw [List.append_nil]; exact k6 l 238 [.pointer (some ⟨b0_0, 0, none⟩)] (At b0_0 0 [.v (.func (.func F) #[] caps.toArray)]) p (fun a b => b = false → Φ a) (by kernel_rfl) (fun a ha => jr b0_0 F caps p a (Φ a) hF (h a ha))) (fun c hc => ?_)
 refine aU rfl (bT rfl) (aA rfl (aNn (aq ?_)))
 refine aV [] [] rfl Tryz.results163 rfl ?_ (.inr rfl)
 exact ⟨⟨rfl, rfl⟩, _, rfl, fun hb a ha => (hc rfl).2 (by simpa using hb) a ha rfl⟩
theorem tk255 : tyk Tryz.prog 255 = some (false, 1) := by kernel_rfl
theorem pB (l : Sl eH) (F : FuncId) (caps : List Value) (p q : Per) (Ψ : eH → Bool → Prop) (hF : bE Tryz.prog F = true) (h : ∀ a ∈ l.l, Con Tryz.prog F (a.val :: caps) [p, q] [] (YN Value.bool (Ψ a))) : Con Tryz.prog 280 [l.val, .func (.func F) #[] caps.toArray] [ShF eH.row l, p, q] []
   (YN (fun z : Int => .int .i64 z) (fun z => (z ≥ 0 → ∃ a ∈ l.l, Ψ a true) ∧ (¬ z ≥ 0 → ∀ a ∈ l.l, Ψ a false))) := by
 refine Con.enter Tryz.func280 rfl (by simp [Tryz.ntmps280]) ?_
 show awp _ _ _ _ ⟨[(0, true, _), (1, true, _)], _, _⟩
 refine bd (.of (an 0 rfl)) (fun hlen => ?_)
 refine aSR (aA rfl (aNs (aSR (aM rfl (aU rfl (aZ Tryz.underlying57 rfl) (aM rfl (aNn (aw ?_))))))))
 refine aP [0, 1, 7, 8] [2, 1, 0] [] (fun (k : Nat) s => (k ≤ l.l.length ∧ ∀ a ∈ l.l.take k, Ψ a false) ∧ s = ⟨[(0, true, l.val), (1, true, .func (.func F) #[] caps.toArray), (7, true, .int .i64 l.l.length), (8, true, .int .i64 k)], [ShF eH.row l, p, q], []⟩) (fun k => l.l.length - k) rfl (⟨0, ⟨Nat.zero_le _, fun a ha => by cases ha⟩, rfl⟩) ?_
 rintro k s ⟨⟨hk, hno⟩, rfl⟩
 refine aSR (aU rfl (bt rfl rfl) (aNs ?_))
 refine ah _ rfl (fun h1 => ?_) (fun h1 => ?_)
 ·skip
  have hk' : k < l.l.length := by simpa using h1
  obtain ⟨a, ha⟩ : ∃ a, l.l[k]? = some a := ⟨l.l[k]'hk', by simp⟩
  refine au (av (az (aw (aSR (aM rfl (aA rfl (aNn (aSR (aM rfl (aM rfl (aM rfl ?_)))))))))))
  refine ck true rfl rfl (fun _ => ai Tryz.underlying57 tk204 rfl ((.of (an 0 rfl))) rfl (aJ ha) rfl rfl) (fun h => absurd h (by decide)) (fun ⟨b4_3, o4_3⟩ => ?_)
  refine aU rfl (aF (o := 0) tk204 rfl (an 0 rfl) rfl rfl) ?_
  refine aQ [1, 0] (false) hF true rfl rfl (fun _ => rfl) (fun hc => rfl) (fun hc => h a (List.mem_of_getElem? ha)) (fun c hc => ?_)
  refine aNn ?_
  refine ah _ rfl (fun h2 => ?_) (fun h2 => ?_)
  ·skip
   refine aSR (aM rfl (aA rfl (aNn (aq (bj (aK (aK (bj (aK ?_)))))))))
   refine aV [] [] rfl Tryz.results280 rfl ?_ (.inr rfl)
   exact ⟨⟨rfl, rfl⟩, _, rfl, fun _ => ⟨a, List.mem_of_getElem? ha, h2 ▸ hc rfl⟩, fun hz => (hz (Int.natCast_nonneg k)).elim⟩
  ·skip
   refine au (bu (av (ae ?_)))
   refine aU rfl (bf rfl rfl (by omega)) ?_
   refine aM rfl (aNn ?_)
   refine ⟨[0, 1, 7, 8], [2, 1, 0], [], rfl, ?_⟩
   refine ⟨k + 1, ⟨⟨by omega, ?_⟩, rfl⟩, by omega⟩
   intro y hy
   rw [List.take_add_one, ha, List.mem_append] at hy
   rcases hy with hy | hy
   · exact hno y hy
   · simp at hy; subst hy; exact h2 ▸ hc rfl
 ·skip
  refine aR (aS (aS (aY (av (aSR (aA rfl (aNn (aq ?_))))))))
  refine aV [] [] rfl Tryz.results280 rfl ?_ (.inr rfl)
  refine ⟨⟨rfl, rfl⟩, _, rfl, fun hz => absurd hz (by decide), fun _ => ?_⟩
  rw [List.take_of_length_le (by simpa using h1)] at hno; exact hno
theorem pD (l : Sl eH) (F : FuncId) (caps : List Value) (p q : Per) (Ψ : eH → Bool → Prop) (hF : bE Tryz.prog F = true) (h : ∀ a ∈ l.l, Con Tryz.prog F (a.val :: caps) [p, q] [] (YN Value.bool (Ψ a))) : Con Tryz.prog 240 [l.val, .func (.func F) #[] caps.toArray] [ShF eH.row l, p, q] []
   (YN Value.bool (fun b => (b = true → ∃ a ∈ l.l, Ψ a true) ∧ (b = false → ∀ a ∈ l.l, Ψ a false))) := by
 refine Con.enter Tryz.func240 rfl (by simp [Tryz.ntmps240]) ?_
 show awp _ _ _ _ ⟨[(0, true, _), (1, true, _)], _, _⟩
 refine aSR (aA rfl (aNn (aSR (aM rfl (aM rfl ?_)))))
 refine aj (q := true) rfl (bF [2, 1, 0] [] (by kernel_rfl) rfl rfl rfl rfl (pB l F caps p q Ψ hF h) ?_)
 rintro _ _ _ ⟨⟨rfl, rfl⟩, z, rfl, hz⟩
 refine aST ?_
 refine aU rfl (cL rfl rfl) (aA rfl (aNn (aq ?_)))
 refine aV [] [] rfl Tryz.results240 rfl ?_ (.inr rfl)
 exact ⟨⟨rfl, rfl⟩, _, rfl, fun hb => hz.1 (by simpa using hb), fun hb => hz.2 (by simpa using hb)⟩
theorem lZ (b : Nat) (F : FuncId) (caps : List Value) (p : Per) (a : eH) (Φ : Prop) (hF : bE Tryz.prog F = true) (h : Con Tryz.prog F (a.val :: caps) [p] [] (YB Φ)) : Con Tryz.prog 241 [a.val, .pointer (some ⟨b, 0, none⟩)] [At b 0 [.v (.func (.func F) #[] caps.toArray)], p] []
   (YN Value.bool (fun b => b = false → Φ)) := by
 refine Con.enter Tryz.func241 rfl (by simp [Tryz.ntmps241]) ?_
 show awp _ _ _ _ ⟨[(0, true, _), (1, true, _)], _, _⟩
 refine aSR ?_
 refine aj (q := true) rfl (bI rfl rfl rfl (fun b0_0 => ?_))
 refine aHN ?_
 refine aA rfl (aNn (aSR (aU rfl (aN (o := 0) tk255 rfl (.of (an 0 rfl)) rfl) (aU rfl (ab 0 tk204 rfl rfl rfl) ?_))))
 refine aQ [0] (false) hF true rfl rfl (fun _ => rfl) (fun hc => rfl) (fun hc => h) (fun c hc => ?_)
 refine aU rfl (bT rfl) (aA rfl (aNn (aq ?_)))
 refine aV [] [] rfl Tryz.results241 rfl ?_ (.inr rfl)
 exact ⟨⟨rfl, rfl⟩, _, rfl, fun hb => hc rfl (by simpa using hb)⟩
theorem mT (l : Sl eH) (F : FuncId) (caps : List Value) (p : Per) (Φ : eH → Prop) (hF : bE Tryz.prog F = true) (h : ∀ a ∈ l.l, Con Tryz.prog F (a.val :: caps) [p] [] (YB (Φ a))) : Con Tryz.prog 169 [l.val, .func (.func F) #[] caps.toArray] [ShF eH.row l, p] []
   (YB (∀ a ∈ l.l, Φ a)) := by
 refine Con.enter Tryz.func169 rfl (by simp [Tryz.ntmps169]) ?_
 show awp _ _ _ _ ⟨[(0, true, _), (1, true, _)], _, _⟩
 refine aSR ?_
 refine aj (q := true) rfl (bI rfl rfl rfl (fun b0_0 => ?_))
 refine aHN ?_
 refine aA rfl (aNs (bL 0 rfl rfl ?_))
 show awp _ _ _ _ ⟨_, At _ 0 _ :: _, _⟩
 refine ae (aM rfl (aU rfl (dq (l := [.tmp 3]) rfl) ?_))
 refine aQ (caps := []) [1, 2, 0] (false) (by kernel_rfl) true rfl rfl (fun _ => rfl) (fun hc => rfl) (fun hc => by rw [List.append_nil]; exact pD l 241 [.pointer (some ⟨b0_0, 0, none⟩)] (At b0_0 0 [.v (.func (.func F) #[] caps.toArray)]) p (fun a b => b = false → Φ a) (by kernel_rfl) (fun a ha => lZ b0_0 F caps p a (Φ a) hF (h a ha))) (fun c hc => ?_)
 refine aU rfl (bT rfl) (aA rfl (aNn (aq ?_)))
 refine aV [] [] rfl Tryz.results169 rfl ?_ (.inr rfl)
 exact ⟨⟨rfl, rfl⟩, _, rfl, fun hb a ha => (hc rfl).2 (by simpa using hb) a ha rfl⟩
theorem mG (l : Sl eH) (F : FuncId) (caps : List Value) (p : Per) (hF : bE Tryz.prog F = true) (h : ∀ a ∈ l.l, ∀ b ∈ l.l, Con Tryz.prog F (a.val :: b.val :: caps) [p] [] (YB True)) : Con Tryz.prog 170 [l.val, .func (.func F) #[] caps.toArray] [ShF eH.row l, p] [] (YB True) := by
 refine Con.enter Tryz.func170 rfl (by simp [Tryz.ntmps170]) ?_
 show awp _ _ _ _ ⟨[(0, true, _), (1, true, _)], _, _⟩
 refine bd (.of (an 0 rfl)) (fun hlen => ?_)
 refine aSR (aA rfl (aNs (aSR ?_)))
 refine aA rfl (aNn (aw (aP [0, 1, 5] [1, 0] [] (fun (k : Nat) s => k ≤ l.l.length ∧ s = ⟨[(0, true, l.val), (1, true, .func (.func F) #[] caps.toArray), (5, true, .int .i64 ((k + 1 : Nat) : Int))], [ShF eH.row l, p], []⟩) (fun k => l.l.length - k) rfl (⟨0, Nat.zero_le _, rfl⟩) ?_)))
 rintro k s ⟨hk, rfl⟩
 refine az (aSR (aM rfl (aM rfl (aU rfl (aZ Tryz.underlying57 rfl) (aU rfl (bt rfl rfl) (aNn ?_))))))
 refine ah _ rfl (fun h1 => ?_) (fun h1 => ?_)
 ·skip
  have hk' : k + 1 < l.l.length := by simp at h1; omega
  have ha := bN (l := l.l) (i := k) (by omega)
  have hb := bN (l := l.l) (i := k + 1) hk'
  refine au (av (az (aw (az ?_))))
  refine aX [] (by kernel_rfl) ?_
  show aB _ _ _ _ _ 12 #[false, false, false, false, false, false, false, false, false, false, false, false] _
  refine bV 0 rfl rfl (ar rfl) ?_
  refine bV 1 rfl rfl (ar rfl) ?_
  refine bV 2 rfl rfl (ar rfl) ?_
  refine bV 3 rfl rfl (dX rfl rfl (by omega)) ?_
  refine cD 4 rfl (by kernel_rfl) true rfl rfl (fun _ => ai Tryz.underlying57 tk204 rfl ((.of (an 0 rfl))) rfl (aJ ha) (by omega) rfl) (fun h => absurd h (by decide)) (fun ⟨b4_4, o4_4⟩ => ?_)
  refine bV 5 rfl rfl (aF (o := 0) tk204 rfl (an 0 rfl) rfl rfl) ?_
  refine bV 6 rfl rfl (ar rfl) ?_
  refine bV 7 rfl rfl (ar rfl) ?_
  refine cD 8 rfl (by kernel_rfl) true rfl rfl (fun _ => ai Tryz.underlying57 tk204 rfl ((.of (an 1 rfl))) rfl (aJ hb) rfl rfl) (fun h => absurd h (by decide)) (fun ⟨b4_8, o4_8⟩ => ?_)
  refine bV 9 rfl rfl (aF (o := 0) tk204 rfl (an 0 rfl) rfl rfl) ?_
  refine el 10 rfl (by kernel_rfl) [0] (false) hF true rfl rfl (fun _ => rfl) (fun hc => rfl) (fun hc => h _ (List.mem_of_getElem? ha) _ (List.mem_of_getElem? hb)) (fun c hc => ?_)
  refine bV 11 rfl rfl (bT rfl) ?_
  refine bD (by kernel_rfl) ?_
  refine av ?_
  refine ah _ rfl (fun h2 => ?_) (fun h2 => ?_)
  ·skip
   refine aSR (aA rfl (aNn (aq (bj (aK (aK (bj (aK ?_))))))))
   refine aV [] [] rfl Tryz.results170 rfl ?_ (.inr rfl)
   exact ⟨⟨rfl, rfl⟩, _, rfl, fun _ => trivial⟩
  ·skip
   refine au (bu (av (ae (aM rfl ?_))))
   refine aU rfl (bf rfl rfl (by omega)) ?_
   refine aA rfl (aNn ?_)
   refine ⟨[0, 1, 5], [1, 0], [], rfl, ?_⟩
   exact ⟨k + 1, ⟨by omega, rfl⟩, by omega⟩
 ·skip
  refine aR (aS (aS (aY (av (aSR (aA rfl (aNn (aq ?_))))))))
  refine aV [] [] rfl Tryz.results170 rfl ?_ (.inr rfl)
  exact ⟨⟨rfl, rfl⟩, _, rfl, fun _ => trivial⟩
theorem tk258 : tyk Tryz.prog 258 = some (false, 1) := by kernel_rfl
theorem lz (l : Sl dD) (F : FuncId) (caps : List Value) (p q : Per) (Ψ : dD → Bool → Prop) (hF : bE Tryz.prog F = true) (h : ∀ a ∈ l.l, Con Tryz.prog F (a.val :: caps) [p, q] [] (YN Value.bool (Ψ a))) : Con Tryz.prog 281 [l.val, .func (.func F) #[] caps.toArray] [ShF dD.row l, p, q] []
   (YN (fun z : Int => .int .i64 z) (fun z => (z ≥ 0 → ∃ a ∈ l.l, Ψ a true) ∧ (¬ z ≥ 0 → ∀ a ∈ l.l, Ψ a false))) := by
 refine Con.enter Tryz.func281 rfl (by simp [Tryz.ntmps281]) ?_
 show awp _ _ _ _ ⟨[(0, true, _), (1, true, _)], _, _⟩
 refine bd (.of (an 0 rfl)) (fun hlen => ?_)
 refine aSR (aA rfl (aNs (aSR (aM rfl (aU rfl (aZ Tryz.underlying58 rfl) (aM rfl (aNn (aw ?_))))))))
 refine aP [0, 1, 7, 8] [2, 1, 0] [] (fun (k : Nat) s => (k ≤ l.l.length ∧ ∀ a ∈ l.l.take k, Ψ a false) ∧ s = ⟨[(0, true, l.val), (1, true, .func (.func F) #[] caps.toArray), (7, true, .int .i64 l.l.length), (8, true, .int .i64 k)], [ShF dD.row l, p, q], []⟩) (fun k => l.l.length - k) rfl (⟨0, ⟨Nat.zero_le _, fun a ha => by cases ha⟩, rfl⟩) ?_
 rintro k s ⟨⟨hk, hno⟩, rfl⟩
 refine aSR (aU rfl (bt rfl rfl) (aNs ?_))
 refine ah _ rfl (fun h1 => ?_) (fun h1 => ?_)
 ·skip
  have hk' : k < l.l.length := by simpa using h1
  obtain ⟨a, ha⟩ : ∃ a, l.l[k]? = some a := ⟨l.l[k]'hk', by simp⟩
  refine au (av (az (aw (aSR (aM rfl (aA rfl (aNn (aSR (aM rfl (aM rfl (aM rfl ?_)))))))))))
  refine ck true rfl rfl (fun _ => ai Tryz.underlying58 tk207 rfl ((.of (an 0 rfl))) rfl (aJ ha) rfl rfl) (fun h => absurd h (by decide)) (fun ⟨b4_3, o4_3⟩ => ?_)
  refine aU rfl (aF (o := 0) tk207 rfl (an 0 rfl) rfl rfl) ?_
  refine aQ [1, 0] (false) hF true rfl rfl (fun _ => rfl) (fun hc => rfl) (fun hc => h a (List.mem_of_getElem? ha)) (fun c hc => ?_)
  refine aNn ?_
  refine ah _ rfl (fun h2 => ?_) (fun h2 => ?_)
  ·skip
   refine aSR (aM rfl (aA rfl (aNn (aq (bj (aK (aK (bj (aK ?_)))))))))
   refine aV [] [] rfl Tryz.results281 rfl ?_ (.inr rfl)
   exact ⟨⟨rfl, rfl⟩, _, rfl, fun _ => ⟨a, List.mem_of_getElem? ha, h2 ▸ hc rfl⟩, fun hz => (hz (Int.natCast_nonneg k)).elim⟩
  ·skip
   refine au (bu (av (ae ?_)))
   refine aU rfl (bf rfl rfl (by omega)) ?_
   refine aM rfl (aNn ?_)
   refine ⟨[0, 1, 7, 8], [2, 1, 0], [], rfl, ?_⟩
   refine ⟨k + 1, ⟨⟨by omega, ?_⟩, rfl⟩, by omega⟩
   intro y hy
   rw [List.take_add_one, ha, List.mem_append] at hy
   rcases hy with hy | hy
   · exact hno y hy
   · simp at hy; subst hy; exact h2 ▸ hc rfl
 ·skip
  refine aR (aS (aS (aY (av (aSR (aA rfl (aNn (aq ?_))))))))
  refine aV [] [] rfl Tryz.results281 rfl ?_ (.inr rfl)
  refine ⟨⟨rfl, rfl⟩, _, rfl, fun hz => absurd hz (by decide), fun _ => ?_⟩
  rw [List.take_of_length_le (by simpa using h1)] at hno; exact hno
theorem mm (l : Sl dD) (F : FuncId) (caps : List Value) (p q : Per) (Ψ : dD → Bool → Prop) (hF : bE Tryz.prog F = true) (h : ∀ a ∈ l.l, Con Tryz.prog F (a.val :: caps) [p, q] [] (YN Value.bool (Ψ a))) : Con Tryz.prog 242 [l.val, .func (.func F) #[] caps.toArray] [ShF dD.row l, p, q] []
   (YN Value.bool (fun b => (b = true → ∃ a ∈ l.l, Ψ a true) ∧ (b = false → ∀ a ∈ l.l, Ψ a false))) := by
 refine Con.enter Tryz.func242 rfl (by simp [Tryz.ntmps242]) ?_
 show awp _ _ _ _ ⟨[(0, true, _), (1, true, _)], _, _⟩
 refine aSR (aA rfl (aNn (aSR (aM rfl (aM rfl ?_)))))
 refine aj (q := true) rfl (bF [2, 1, 0] [] (by kernel_rfl) rfl rfl rfl rfl (lz l F caps p q Ψ hF h) ?_)
 rintro _ _ _ ⟨⟨rfl, rfl⟩, z, rfl, hz⟩
 refine aST ?_
 refine aU rfl (cL rfl rfl) (aA rfl (aNn (aq ?_)))
 refine aV [] [] rfl Tryz.results242 rfl ?_ (.inr rfl)
 exact ⟨⟨rfl, rfl⟩, _, rfl, fun hb => hz.1 (by simpa using hb), fun hb => hz.2 (by simpa using hb)⟩
theorem kr (b : Nat) (F : FuncId) (caps : List Value) (p : Per) (a : dD) (Φ : Prop) (hF : bE Tryz.prog F = true) (h : Con Tryz.prog F (a.val :: caps) [p] [] (YB Φ)) : Con Tryz.prog 243 [a.val, .pointer (some ⟨b, 0, none⟩)] [At b 0 [.v (.func (.func F) #[] caps.toArray)], p] []
   (YN Value.bool (fun b => b = false → Φ)) := by
 refine Con.enter Tryz.func243 rfl (by simp [Tryz.ntmps243]) ?_
 show awp _ _ _ _ ⟨[(0, true, _), (1, true, _)], _, _⟩
 refine aSR ?_
 refine aj (q := true) rfl (bI rfl rfl rfl (fun b0_0 => ?_))
 refine aHN ?_
 refine aA rfl (aNn (aSR (aU rfl (aN (o := 0) tk258 rfl (.of (an 0 rfl)) rfl) (aU rfl (ab 0 tk207 rfl rfl rfl) ?_))))
 refine aQ [0] (false) hF true rfl rfl (fun _ => rfl) (fun hc => rfl) (fun hc => h) (fun c hc => ?_)
 refine aU rfl (bT rfl) (aA rfl (aNn (aq ?_)))
 refine aV [] [] rfl Tryz.results243 rfl ?_ (.inr rfl)
 exact ⟨⟨rfl, rfl⟩, _, rfl, fun hb => hc rfl (by simpa using hb)⟩
theorem kV (l : Sl dD) (F : FuncId) (caps : List Value) (p : Per) (Φ : dD → Prop) (hF : bE Tryz.prog F = true) (h : ∀ a ∈ l.l, Con Tryz.prog F (a.val :: caps) [p] [] (YB (Φ a))) : Con Tryz.prog 173 [l.val, .func (.func F) #[] caps.toArray] [ShF dD.row l, p] []
   (YB (∀ a ∈ l.l, Φ a)) := by
 refine Con.enter Tryz.func173 rfl (by simp [Tryz.ntmps173]) ?_
 show awp _ _ _ _ ⟨[(0, true, _), (1, true, _)], _, _⟩
 refine aSR ?_
 refine aj (q := true) rfl (bI rfl rfl rfl (fun b0_0 => ?_))
 refine aHN ?_
 refine aA rfl (aNs (bL 0 rfl rfl ?_))
 show awp _ _ _ _ ⟨_, At _ 0 _ :: _, _⟩
 refine ae (aM rfl (aU rfl (dq (l := [.tmp 3]) rfl) ?_))
 refine aQ (caps := []) [1, 2, 0] (false) (by kernel_rfl) true rfl rfl (fun _ => rfl) (fun hc => rfl) (fun hc => by rw [List.append_nil]; exact mm l 243 [.pointer (some ⟨b0_0, 0, none⟩)] (At b0_0 0 [.v (.func (.func F) #[] caps.toArray)]) p (fun a b => b = false → Φ a) (by kernel_rfl) (fun a ha => kr b0_0 F caps p a (Φ a) hF (h a ha))) (fun c hc => ?_)
 refine aU rfl (bT rfl) (aA rfl (aNn (aq ?_)))
 refine aV [] [] rfl Tryz.results173 rfl ?_ (.inr rfl)
 exact ⟨⟨rfl, rfl⟩, _, rfl, fun hb a ha => (hc rfl).2 (by simpa using hb) a ha rfl⟩
theorem k7 (l : Sl dD) (F : FuncId) (caps : List Value) (p : Per) (hF : bE Tryz.prog F = true) (h : ∀ a ∈ l.l, ∀ b ∈ l.l, Con Tryz.prog F (a.val :: b.val :: caps) [p] [] (YB True)) : Con Tryz.prog 174 [l.val, .func (.func F) #[] caps.toArray] [ShF dD.row l, p] [] (YB True) := by
 refine Con.enter Tryz.func174 rfl (by simp [Tryz.ntmps174]) ?_
 show awp _ _ _ _ ⟨[(0, true, _), (1, true, _)], _, _⟩
 refine bd (.of (an 0 rfl)) (fun hlen => ?_)
 refine aSR (aA rfl (aNs (aSR ?_)))
 refine aA rfl (aNn (aw (aP [0, 1, 5] [1, 0] [] (fun (k : Nat) s => k ≤ l.l.length ∧ s = ⟨[(0, true, l.val), (1, true, .func (.func F) #[] caps.toArray), (5, true, .int .i64 ((k + 1 : Nat) : Int))], [ShF dD.row l, p], []⟩) (fun k => l.l.length - k) rfl (⟨0, Nat.zero_le _, rfl⟩) ?_)))
 rintro k s ⟨hk, rfl⟩
 refine az (aSR (aM rfl (aM rfl (aU rfl (aZ Tryz.underlying58 rfl) (aU rfl (bt rfl rfl) (aNn ?_))))))
 refine ah _ rfl (fun h1 => ?_) (fun h1 => ?_)
 ·skip
  have hk' : k + 1 < l.l.length := by simp at h1; omega
  have ha := bN (l := l.l) (i := k) (by omega)
  have hb := bN (l := l.l) (i := k + 1) hk'
  refine au (av (az (aw (az ?_))))
  refine aX [] (by kernel_rfl) ?_
  show aB _ _ _ _ _ 12 #[false, false, false, false, false, false, false, false, false, false, false, false] _
  refine bV 0 rfl rfl (ar rfl) ?_
  refine bV 1 rfl rfl (ar rfl) ?_
  refine bV 2 rfl rfl (ar rfl) ?_
  refine bV 3 rfl rfl (dX rfl rfl (by omega)) ?_
  refine cD 4 rfl (by kernel_rfl) true rfl rfl (fun _ => ai Tryz.underlying58 tk207 rfl ((.of (an 0 rfl))) rfl (aJ ha) (by omega) rfl) (fun h => absurd h (by decide)) (fun ⟨b4_4, o4_4⟩ => ?_)
  refine bV 5 rfl rfl (aF (o := 0) tk207 rfl (an 0 rfl) rfl rfl) ?_
  refine bV 6 rfl rfl (ar rfl) ?_
  refine bV 7 rfl rfl (ar rfl) ?_
  refine cD 8 rfl (by kernel_rfl) true rfl rfl (fun _ => ai Tryz.underlying58 tk207 rfl ((.of (an 1 rfl))) rfl (aJ hb) rfl rfl) (fun h => absurd h (by decide)) (fun ⟨b4_8, o4_8⟩ => ?_)
  refine bV 9 rfl rfl (aF (o := 0) tk207 rfl (an 0 rfl) rfl rfl) ?_
  refine el 10 rfl (by kernel_rfl) [0] (false) hF true rfl rfl (fun _ => rfl) (fun hc => rfl) (fun hc => h _ (List.mem_of_getElem? ha) _ (List.mem_of_getElem? hb)) (fun c hc => ?_)
  refine bV 11 rfl rfl (bT rfl) ?_
  refine bD (by kernel_rfl) ?_
  refine av ?_
  refine ah _ rfl (fun h2 => ?_) (fun h2 => ?_)
  ·skip
   refine aSR (aA rfl (aNn (aq (bj (aK (aK (bj (aK ?_))))))))
   refine aV [] [] rfl Tryz.results174 rfl ?_ (.inr rfl)
   exact ⟨⟨rfl, rfl⟩, _, rfl, fun _ => trivial⟩
  ·skip
   refine au (bu (av (ae (aM rfl ?_))))
   refine aU rfl (bf rfl rfl (by omega)) ?_
   refine aA rfl (aNn ?_)
   refine ⟨[0, 1, 5], [1, 0], [], rfl, ?_⟩
   exact ⟨k + 1, ⟨by omega, rfl⟩, by omega⟩
 ·skip
  refine aR (aS (aS (aY (av (aSR (aA rfl (aNn (aq ?_))))))))
  refine aV [] [] rfl Tryz.results174 rfl ?_ (.inr rfl)
  exact ⟨⟨rfl, rfl⟩, _, rfl, fun _ => trivial⟩
theorem tk265 : tyk Tryz.prog 265 = some (false, 1) := by kernel_rfl
theorem lT (l : Sl dC) (F : FuncId) (caps : List Value) (p q : Per) (Ψ : dC → Bool → Prop) (hF : bE Tryz.prog F = true) (h : ∀ a ∈ l.l, Con Tryz.prog F (a.val :: caps) [p, q] [] (YN Value.bool (Ψ a))) : Con Tryz.prog 282 [l.val, .func (.func F) #[] caps.toArray] [ShF dC.row l, p, q] []
   (YN (fun z : Int => .int .i64 z) (fun z => (z ≥ 0 → ∃ a ∈ l.l, Ψ a true) ∧ (¬ z ≥ 0 → ∀ a ∈ l.l, Ψ a false))) := by
 refine Con.enter Tryz.func282 rfl (by simp [Tryz.ntmps282]) ?_
 show awp _ _ _ _ ⟨[(0, true, _), (1, true, _)], _, _⟩
 refine bd (.of (an 0 rfl)) (fun hlen => ?_)
 refine aSR (aA rfl (aNs (aSR (aM rfl (aU rfl (aZ Tryz.underlying208 rfl) (aM rfl (aNn (aw ?_))))))))
 refine aP [0, 1, 7, 8] [2, 1, 0] [] (fun (k : Nat) s => (k ≤ l.l.length ∧ ∀ a ∈ l.l.take k, Ψ a false) ∧ s = ⟨[(0, true, l.val), (1, true, .func (.func F) #[] caps.toArray), (7, true, .int .i64 l.l.length), (8, true, .int .i64 k)], [ShF dC.row l, p, q], []⟩) (fun k => l.l.length - k) rfl (⟨0, ⟨Nat.zero_le _, fun a ha => by cases ha⟩, rfl⟩) ?_
 rintro k s ⟨⟨hk, hno⟩, rfl⟩
 refine aSR (aU rfl (bt rfl rfl) (aNs ?_))
 refine ah _ rfl (fun h1 => ?_) (fun h1 => ?_)
 ·skip
  have hk' : k < l.l.length := by simpa using h1
  obtain ⟨a, ha⟩ : ∃ a, l.l[k]? = some a := ⟨l.l[k]'hk', by simp⟩
  refine au (av (az (aw (aSR (aM rfl (aA rfl (aNn (aSR (aM rfl (aM rfl (aM rfl ?_)))))))))))
  refine ck true rfl rfl (fun _ => ai Tryz.underlying208 tk264 rfl ((.of (an 0 rfl))) rfl (aJ ha) rfl rfl) (fun h => absurd h (by decide)) (fun ⟨b4_3, o4_3⟩ => ?_)
  refine aU rfl (aF (o := 0) tk264 rfl (an 0 rfl) rfl rfl) ?_
  refine aQ [1, 0] (false) hF true rfl rfl (fun _ => rfl) (fun hc => rfl) (fun hc => h a (List.mem_of_getElem? ha)) (fun c hc => ?_)
  refine aNn ?_
  refine ah _ rfl (fun h2 => ?_) (fun h2 => ?_)
  ·skip
   refine aSR (aM rfl (aA rfl (aNn (aq (bj (aK (aK (bj (aK ?_)))))))))
   refine aV [] [] rfl Tryz.results282 rfl ?_ (.inr rfl)
   exact ⟨⟨rfl, rfl⟩, _, rfl, fun _ => ⟨a, List.mem_of_getElem? ha, h2 ▸ hc rfl⟩, fun hz => (hz (Int.natCast_nonneg k)).elim⟩
  ·skip
   refine au (bu (av (ae ?_)))
   refine aU rfl (bf rfl rfl (by omega)) ?_
   refine aM rfl (aNn ?_)
   refine ⟨[0, 1, 7, 8], [2, 1, 0], [], rfl, ?_⟩
   refine ⟨k + 1, ⟨⟨by omega, ?_⟩, rfl⟩, by omega⟩
   intro y hy
   rw [List.take_add_one, ha, List.mem_append] at hy
   rcases hy with hy | hy
   · exact hno y hy
   · simp at hy; subst hy; exact h2 ▸ hc rfl
 ·skip
  refine aR (aS (aS (aY (av (aSR (aA rfl (aNn (aq ?_))))))))
  refine aV [] [] rfl Tryz.results282 rfl ?_ (.inr rfl)
  refine ⟨⟨rfl, rfl⟩, _, rfl, fun hz => absurd hz (by decide), fun _ => ?_⟩
  rw [List.take_of_length_le (by simpa using h1)] at hno; exact hno
theorem lW (l : Sl dC) (F : FuncId) (caps : List Value) (p q : Per) (Ψ : dC → Bool → Prop) (hF : bE Tryz.prog F = true) (h : ∀ a ∈ l.l, Con Tryz.prog F (a.val :: caps) [p, q] [] (YN Value.bool (Ψ a))) : Con Tryz.prog 244 [l.val, .func (.func F) #[] caps.toArray] [ShF dC.row l, p, q] []
   (YN Value.bool (fun b => (b = true → ∃ a ∈ l.l, Ψ a true) ∧ (b = false → ∀ a ∈ l.l, Ψ a false))) := by
 refine Con.enter Tryz.func244 rfl (by simp [Tryz.ntmps244]) ?_
 show awp _ _ _ _ ⟨[(0, true, _), (1, true, _)], _, _⟩
 refine aSR (aA rfl (aNn (aSR (aM rfl (aM rfl ?_)))))
 refine aj (q := true) rfl (bF [2, 1, 0] [] (by kernel_rfl) rfl rfl rfl rfl (lT l F caps p q Ψ hF h) ?_)
 rintro _ _ _ ⟨⟨rfl, rfl⟩, z, rfl, hz⟩
 refine aST ?_
 refine aU rfl (cL rfl rfl) (aA rfl (aNn (aq ?_)))
 refine aV [] [] rfl Tryz.results244 rfl ?_ (.inr rfl)
 exact ⟨⟨rfl, rfl⟩, _, rfl, fun hb => hz.1 (by simpa using hb), fun hb => hz.2 (by simpa using hb)⟩
theorem j4 (b : Nat) (F : FuncId) (caps : List Value) (p : Per) (a : dC) (Φ : Prop) (hF : bE Tryz.prog F = true) (h : Con Tryz.prog F (a.val :: caps) [p] [] (YB Φ)) : Con Tryz.prog 245 [a.val, .pointer (some ⟨b, 0, none⟩)] [At b 0 [.v (.func (.func F) #[] caps.toArray)], p] []
   (YN Value.bool (fun b => b = false → Φ)) := by
 refine Con.enter Tryz.func245 rfl (by simp [Tryz.ntmps245]) ?_
 show awp _ _ _ _ ⟨[(0, true, _), (1, true, _)], _, _⟩
 refine aSR ?_
 refine aj (q := true) rfl (bI rfl rfl rfl (fun b0_0 => ?_))
 refine aHN ?_
 refine aA rfl (aNn (aSR (aU rfl (aN (o := 0) tk265 rfl (.of (an 0 rfl)) rfl) (aU rfl (ab 0 tk264 rfl rfl rfl) ?_))))
 refine aQ [0] (false) hF true rfl rfl (fun _ => rfl) (fun hc => rfl) (fun hc => h) (fun c hc => ?_)
 refine aU rfl (bT rfl) (aA rfl (aNn (aq ?_)))
 refine aV [] [] rfl Tryz.results245 rfl ?_ (.inr rfl)
 exact ⟨⟨rfl, rfl⟩, _, rfl, fun hb => hc rfl (by simpa using hb)⟩
theorem kZ (l : Sl dC) (F : FuncId) (caps : List Value) (p : Per) (Φ : dC → Prop) (hF : bE Tryz.prog F = true) (h : ∀ a ∈ l.l, Con Tryz.prog F (a.val :: caps) [p] [] (YB (Φ a))) : Con Tryz.prog 177 [l.val, .func (.func F) #[] caps.toArray] [ShF dC.row l, p] []
   (YB (∀ a ∈ l.l, Φ a)) := by
 refine Con.enter Tryz.func177 rfl (by simp [Tryz.ntmps177]) ?_
 show awp _ _ _ _ ⟨[(0, true, _), (1, true, _)], _, _⟩
 refine aSR ?_
 refine aj (q := true) rfl (bI rfl rfl rfl (fun b0_0 => ?_))
 refine aHN ?_
 refine aA rfl (aNs (bL 0 rfl rfl ?_))
 show awp _ _ _ _ ⟨_, At _ 0 _ :: _, _⟩
 refine ae (aM rfl (aU rfl (dq (l := [.tmp 3]) rfl) ?_))
 refine aQ (caps := []) [1, 2, 0] (false) (by kernel_rfl) true rfl rfl (fun _ => rfl) (fun hc => rfl) (fun hc => by rw [List.append_nil]; exact lW l 245 [.pointer (some ⟨b0_0, 0, none⟩)] (At b0_0 0 [.v (.func (.func F) #[] caps.toArray)]) p (fun a b => b = false → Φ a) (by kernel_rfl) (fun a ha => j4 b0_0 F caps p a (Φ a) hF (h a ha))) (fun c hc => ?_)
 refine aU rfl (bT rfl) (aA rfl (aNn (aq ?_)))
 refine aV [] [] rfl Tryz.results177 rfl ?_ (.inr rfl)
 exact ⟨⟨rfl, rfl⟩, _, rfl, fun hb a ha => (hc rfl).2 (by simpa using hb) a ha rfl⟩
theorem kT (l : Sl dC) (F : FuncId) (caps : List Value) (p : Per) (hF : bE Tryz.prog F = true) (h : ∀ a ∈ l.l, ∀ b ∈ l.l, Con Tryz.prog F (a.val :: b.val :: caps) [p] [] (YB True)) : Con Tryz.prog 179 [l.val, .func (.func F) #[] caps.toArray] [ShF dC.row l, p] [] (YB True) := by
 refine Con.enter Tryz.func179 rfl (by simp [Tryz.ntmps179]) ?_
 show awp _ _ _ _ ⟨[(0, true, _), (1, true, _)], _, _⟩
 refine bd (.of (an 0 rfl)) (fun hlen => ?_)
 refine aSR (aA rfl (aNs (aSR ?_)))
 refine aA rfl (aNn (aw (aP [0, 1, 5] [1, 0] [] (fun (k : Nat) s => k ≤ l.l.length ∧ s = ⟨[(0, true, l.val), (1, true, .func (.func F) #[] caps.toArray), (5, true, .int .i64 ((k + 1 : Nat) : Int))], [ShF dC.row l, p], []⟩) (fun k => l.l.length - k) rfl (⟨0, Nat.zero_le _, rfl⟩) ?_)))
 rintro k s ⟨hk, rfl⟩
 refine az (aSR (aM rfl (aM rfl (aU rfl (aZ Tryz.underlying208 rfl) (aU rfl (bt rfl rfl) (aNn ?_))))))
 refine ah _ rfl (fun h1 => ?_) (fun h1 => ?_)
 ·skip
  have hk' : k + 1 < l.l.length := by simp at h1; omega
  have ha := bN (l := l.l) (i := k) (by omega)
  have hb := bN (l := l.l) (i := k + 1) hk'
  refine au (av (az (aw (az ?_))))
  refine aX [] (by kernel_rfl) ?_
  show aB _ _ _ _ _ 12 #[false, false, false, false, false, false, false, false, false, false, false, false] _
  refine bV 0 rfl rfl (ar rfl) ?_
  refine bV 1 rfl rfl (ar rfl) ?_
  refine bV 2 rfl rfl (ar rfl) ?_
  refine bV 3 rfl rfl (dX rfl rfl (by omega)) ?_
  refine cD 4 rfl (by kernel_rfl) true rfl rfl (fun _ => ai Tryz.underlying208 tk264 rfl ((.of (an 0 rfl))) rfl (aJ ha) (by omega) rfl) (fun h => absurd h (by decide)) (fun ⟨b4_4, o4_4⟩ => ?_)
  refine bV 5 rfl rfl (aF (o := 0) tk264 rfl (an 0 rfl) rfl rfl) ?_
  refine bV 6 rfl rfl (ar rfl) ?_
  refine bV 7 rfl rfl (ar rfl) ?_
  refine cD 8 rfl (by kernel_rfl) true rfl rfl (fun _ => ai Tryz.underlying208 tk264 rfl ((.of (an 1 rfl))) rfl (aJ hb) rfl rfl) (fun h => absurd h (by decide)) (fun ⟨b4_8, o4_8⟩ => ?_)
  refine bV 9 rfl rfl (aF (o := 0) tk264 rfl (an 0 rfl) rfl rfl) ?_
  refine el 10 rfl (by kernel_rfl) [0] (false) hF true rfl rfl (fun _ => rfl) (fun hc => rfl) (fun hc => h _ (List.mem_of_getElem? ha) _ (List.mem_of_getElem? hb)) (fun c hc => ?_)
  refine bV 11 rfl rfl (bT rfl) ?_
  refine bD (by kernel_rfl) ?_
  refine av ?_
  refine ah _ rfl (fun h2 => ?_) (fun h2 => ?_)
  ·skip
   refine aSR (aA rfl (aNn (aq (bj (aK (aK (bj (aK ?_))))))))
   refine aV [] [] rfl Tryz.results179 rfl ?_ (.inr rfl)
   exact ⟨⟨rfl, rfl⟩, _, rfl, fun _ => trivial⟩
  ·skip
   refine au (bu (av (ae (aM rfl ?_))))
   refine aU rfl (bf rfl rfl (by omega)) ?_
   refine aA rfl (aNn ?_)
   refine ⟨[0, 1, 5], [1, 0], [], rfl, ?_⟩
   exact ⟨k + 1, ⟨by omega, rfl⟩, by omega⟩
 ·skip
  refine aR (aS (aS (aY (av (aSR (aA rfl (aNn (aq ?_))))))))
  refine aV [] [] rfl Tryz.results179 rfl ?_ (.inr rfl)
  exact ⟨⟨rfl, rfl⟩, _, rfl, fun _ => trivial⟩
theorem tk268 : tyk Tryz.prog 268 = some (false, 1) := by kernel_rfl
theorem kx (l : Sl bZ) (F : FuncId) (caps : List Value) (p q : Per) (Ψ : bZ → Bool → Prop) (hF : bE Tryz.prog F = true) (h : ∀ a ∈ l.l, Con Tryz.prog F (a.val :: caps) [p, q] [] (YN Value.bool (Ψ a))) : Con Tryz.prog 283 [l.val, .func (.func F) #[] caps.toArray] [ShF bZ.row l, p, q] []
   (YN (fun z : Int => .int .i64 z) (fun z => (z ≥ 0 → ∃ a ∈ l.l, Ψ a true) ∧ (¬ z ≥ 0 → ∀ a ∈ l.l, Ψ a false))) := by
 refine Con.enter Tryz.func283 rfl (by simp [Tryz.ntmps283]) ?_
 show awp _ _ _ _ ⟨[(0, true, _), (1, true, _)], _, _⟩
 refine bd (.of (an 0 rfl)) (fun hlen => ?_)
 refine aSR (aA rfl (aNs (aSR (aM rfl (aU rfl (aZ Tryz.underlying59 rfl) (aM rfl (aNn (aw ?_))))))))
 refine aP [0, 1, 7, 8] [2, 1, 0] [] (fun (k : Nat) s => (k ≤ l.l.length ∧ ∀ a ∈ l.l.take k, Ψ a false) ∧ s = ⟨[(0, true, l.val), (1, true, .func (.func F) #[] caps.toArray), (7, true, .int .i64 l.l.length), (8, true, .int .i64 k)], [ShF bZ.row l, p, q], []⟩) (fun k => l.l.length - k) rfl (⟨0, ⟨Nat.zero_le _, fun a ha => by cases ha⟩, rfl⟩) ?_
 rintro k s ⟨⟨hk, hno⟩, rfl⟩
 refine aSR (aU rfl (bt rfl rfl) (aNs ?_))
 refine ah _ rfl (fun h1 => ?_) (fun h1 => ?_)
 ·skip
  have hk' : k < l.l.length := by simpa using h1
  obtain ⟨a, ha⟩ : ∃ a, l.l[k]? = some a := ⟨l.l[k]'hk', by simp⟩
  refine au (av (az (aw (aSR (aM rfl (aA rfl (aNn (aSR (aM rfl (aM rfl (aM rfl ?_)))))))))))
  refine ck true rfl rfl (fun _ => ai Tryz.underlying59 tk210 rfl ((.of (an 0 rfl))) rfl (aJ ha) rfl rfl) (fun h => absurd h (by decide)) (fun ⟨b4_3, o4_3⟩ => ?_)
  refine aU rfl (aF (o := 0) tk210 rfl (an 0 rfl) rfl rfl) ?_
  refine aQ [1, 0] (false) hF true rfl rfl (fun _ => rfl) (fun hc => rfl) (fun hc => h a (List.mem_of_getElem? ha)) (fun c hc => ?_)
  refine aNn ?_
  refine ah _ rfl (fun h2 => ?_) (fun h2 => ?_)
  ·skip
   refine aSR (aM rfl (aA rfl (aNn (aq (bj (aK (aK (bj (aK ?_)))))))))
   refine aV [] [] rfl Tryz.results283 rfl ?_ (.inr rfl)
   exact ⟨⟨rfl, rfl⟩, _, rfl, fun _ => ⟨a, List.mem_of_getElem? ha, h2 ▸ hc rfl⟩, fun hz => (hz (Int.natCast_nonneg k)).elim⟩
  ·skip
   refine au (bu (av (ae ?_)))
   refine aU rfl (bf rfl rfl (by omega)) ?_
   refine aM rfl (aNn ?_)
   refine ⟨[0, 1, 7, 8], [2, 1, 0], [], rfl, ?_⟩
   refine ⟨k + 1, ⟨⟨by omega, ?_⟩, rfl⟩, by omega⟩
   intro y hy
   rw [List.take_add_one, ha, List.mem_append] at hy
   rcases hy with hy | hy
   · exact hno y hy
   · simp at hy; subst hy; exact h2 ▸ hc rfl
 ·skip
  refine aR (aS (aS (aY (av (aSR (aA rfl (aNn (aq ?_))))))))
  refine aV [] [] rfl Tryz.results283 rfl ?_ (.inr rfl)
  refine ⟨⟨rfl, rfl⟩, _, rfl, fun hz => absurd hz (by decide), fun _ => ?_⟩
  rw [List.take_of_length_le (by simpa using h1)] at hno; exact hno
theorem kF (l : Sl bZ) (F : FuncId) (caps : List Value) (p q : Per) (Ψ : bZ → Bool → Prop) (hF : bE Tryz.prog F = true) (h : ∀ a ∈ l.l, Con Tryz.prog F (a.val :: caps) [p, q] [] (YN Value.bool (Ψ a))) : Con Tryz.prog 246 [l.val, .func (.func F) #[] caps.toArray] [ShF bZ.row l, p, q] []
   (YN Value.bool (fun b => (b = true → ∃ a ∈ l.l, Ψ a true) ∧ (b = false → ∀ a ∈ l.l, Ψ a false))) := by
 refine Con.enter Tryz.func246 rfl (by simp [Tryz.ntmps246]) ?_
 show awp _ _ _ _ ⟨[(0, true, _), (1, true, _)], _, _⟩
 refine aSR (aA rfl (aNn (aSR (aM rfl (aM rfl ?_)))))
 refine aj (q := true) rfl (bF [2, 1, 0] [] (by kernel_rfl) rfl rfl rfl rfl (kx l F caps p q Ψ hF h) ?_)
 rintro _ _ _ ⟨⟨rfl, rfl⟩, z, rfl, hz⟩
 refine aST ?_
 refine aU rfl (cL rfl rfl) (aA rfl (aNn (aq ?_)))
 refine aV [] [] rfl Tryz.results246 rfl ?_ (.inr rfl)
 exact ⟨⟨rfl, rfl⟩, _, rfl, fun hb => hz.1 (by simpa using hb), fun hb => hz.2 (by simpa using hb)⟩
theorem je (b : Nat) (F : FuncId) (caps : List Value) (p : Per) (a : bZ) (Φ : Prop) (hF : bE Tryz.prog F = true) (h : Con Tryz.prog F (a.val :: caps) [p] [] (YB Φ)) : Con Tryz.prog 247 [a.val, .pointer (some ⟨b, 0, none⟩)] [At b 0 [.v (.func (.func F) #[] caps.toArray)], p] []
   (YN Value.bool (fun b => b = false → Φ)) := by
 refine Con.enter Tryz.func247 rfl (by simp [Tryz.ntmps247]) ?_
 show awp _ _ _ _ ⟨[(0, true, _), (1, true, _)], _, _⟩
 refine aSR ?_
 refine aj (q := true) rfl (bI rfl rfl rfl (fun b0_0 => ?_))
 refine aHN ?_
 refine aA rfl (aNn (aSR (aU rfl (aN (o := 0) tk268 rfl (.of (an 0 rfl)) rfl) (aU rfl (ab 0 tk210 rfl rfl rfl) ?_))))
 refine aQ [0] (false) hF true rfl rfl (fun _ => rfl) (fun hc => rfl) (fun hc => h) (fun c hc => ?_)
 refine aU rfl (bT rfl) (aA rfl (aNn (aq ?_)))
 refine aV [] [] rfl Tryz.results247 rfl ?_ (.inr rfl)
 exact ⟨⟨rfl, rfl⟩, _, rfl, fun hb => hc rfl (by simpa using hb)⟩
theorem jS (l : Sl bZ) (F : FuncId) (caps : List Value) (p : Per) (Φ : bZ → Prop) (hF : bE Tryz.prog F = true) (h : ∀ a ∈ l.l, Con Tryz.prog F (a.val :: caps) [p] [] (YB (Φ a))) : Con Tryz.prog 182 [l.val, .func (.func F) #[] caps.toArray] [ShF bZ.row l, p] []
   (YB (∀ a ∈ l.l, Φ a)) := by
 refine Con.enter Tryz.func182 rfl (by simp [Tryz.ntmps182]) ?_
 show awp _ _ _ _ ⟨[(0, true, _), (1, true, _)], _, _⟩
 refine aSR ?_
 refine aj (q := true) rfl (bI rfl rfl rfl (fun b0_0 => ?_))
 refine aHN ?_
 refine aA rfl (aNs (bL 0 rfl rfl ?_))
 show awp _ _ _ _ ⟨_, At _ 0 _ :: _, _⟩
 refine ae (aM rfl (aU rfl (dq (l := [.tmp 3]) rfl) ?_))
 refine aQ (caps := []) [1, 2, 0] (false) (by kernel_rfl) true rfl rfl (fun _ => rfl) (fun hc => rfl) (fun hc => by rw [List.append_nil]; exact kF l 247 [.pointer (some ⟨b0_0, 0, none⟩)] (At b0_0 0 [.v (.func (.func F) #[] caps.toArray)]) p (fun a b => b = false → Φ a) (by kernel_rfl) (fun a ha => je b0_0 F caps p a (Φ a) hF (h a ha))) (fun c hc => ?_)
 refine aU rfl (bT rfl) (aA rfl (aNn (aq ?_)))
 refine aV [] [] rfl Tryz.results182 rfl ?_ (.inr rfl)
 exact ⟨⟨rfl, rfl⟩, _, rfl, fun hb a ha => (hc rfl).2 (by simpa using hb) a ha rfl⟩
theorem jK (l : Sl bZ) (F : FuncId) (caps : List Value) (p : Per) (hF : bE Tryz.prog F = true) (h : ∀ a ∈ l.l, ∀ b ∈ l.l, Con Tryz.prog F (a.val :: b.val :: caps) [p] [] (YB True)) : Con Tryz.prog 183 [l.val, .func (.func F) #[] caps.toArray] [ShF bZ.row l, p] [] (YB True) := by
 refine Con.enter Tryz.func183 rfl (by simp [Tryz.ntmps183]) ?_
 show awp _ _ _ _ ⟨[(0, true, _), (1, true, _)], _, _⟩
 refine bd (.of (an 0 rfl)) (fun hlen => ?_)
 refine aSR (aA rfl (aNs (aSR ?_)))
 refine aA rfl (aNn (aw (aP [0, 1, 5] [1, 0] [] (fun (k : Nat) s => k ≤ l.l.length ∧ s = ⟨[(0, true, l.val), (1, true, .func (.func F) #[] caps.toArray), (5, true, .int .i64 ((k + 1 : Nat) : Int))], [ShF bZ.row l, p], []⟩) (fun k => l.l.length - k) rfl (⟨0, Nat.zero_le _, rfl⟩) ?_)))
 rintro k s ⟨hk, rfl⟩
 refine az (aSR (aM rfl (aM rfl (aU rfl (aZ Tryz.underlying59 rfl) (aU rfl (bt rfl rfl) (aNn ?_))))))
 refine ah _ rfl (fun h1 => ?_) (fun h1 => ?_)
 ·skip
  have hk' : k + 1 < l.l.length := by simp at h1; omega
  have ha := bN (l := l.l) (i := k) (by omega)
  have hb := bN (l := l.l) (i := k + 1) hk'
  refine au (av (az (aw (az ?_))))
  refine aX [] (by kernel_rfl) ?_
  show aB _ _ _ _ _ 12 #[false, false, false, false, false, false, false, false, false, false, false, false] _
  refine bV 0 rfl rfl (ar rfl) ?_
  refine bV 1 rfl rfl (ar rfl) ?_
  refine bV 2 rfl rfl (ar rfl) ?_
  refine bV 3 rfl rfl (dX rfl rfl (by omega)) ?_
  refine cD 4 rfl (by kernel_rfl) true rfl rfl (fun _ => ai Tryz.underlying59 tk210 rfl ((.of (an 0 rfl))) rfl (aJ ha) (by omega) rfl) (fun h => absurd h (by decide)) (fun ⟨b4_4, o4_4⟩ => ?_)
  refine bV 5 rfl rfl (aF (o := 0) tk210 rfl (an 0 rfl) rfl rfl) ?_
  refine bV 6 rfl rfl (ar rfl) ?_
  refine bV 7 rfl rfl (ar rfl) ?_
  refine cD 8 rfl (by kernel_rfl) true rfl rfl (fun _ => ai Tryz.underlying59 tk210 rfl ((.of (an 1 rfl))) rfl (aJ hb) rfl rfl) (fun h => absurd h (by decide)) (fun ⟨b4_8, o4_8⟩ => ?_)
  refine bV 9 rfl rfl (aF (o := 0) tk210 rfl (an 0 rfl) rfl rfl) ?_
  refine el 10 rfl (by kernel_rfl) [0] (false) hF true rfl rfl (fun _ => rfl) (fun hc => rfl) (fun hc => h _ (List.mem_of_getElem? ha) _ (List.mem_of_getElem? hb)) (fun c hc => ?_)
  refine bV 11 rfl rfl (bT rfl) ?_
  refine bD (by kernel_rfl) ?_
  refine av ?_
  refine ah _ rfl (fun h2 => ?_) (fun h2 => ?_)
  ·skip
   refine aSR (aA rfl (aNn (aq (bj (aK (aK (bj (aK ?_))))))))
   refine aV [] [] rfl Tryz.results183 rfl ?_ (.inr rfl)
   exact ⟨⟨rfl, rfl⟩, _, rfl, fun _ => trivial⟩
  ·skip
   refine au (bu (av (ae (aM rfl ?_))))
   refine aU rfl (bf rfl rfl (by omega)) ?_
   refine aA rfl (aNn ?_)
   refine ⟨[0, 1, 5], [1, 0], [], rfl, ?_⟩
   exact ⟨k + 1, ⟨by omega, rfl⟩, by omega⟩
 ·skip
  refine aR (aS (aS (aY (av (aSR (aA rfl (aNn (aq ?_))))))))
  refine aV [] [] rfl Tryz.results183 rfl ?_ (.inr rfl)
  exact ⟨⟨rfl, rfl⟩, _, rfl, fun _ => trivial⟩
end Go.Proofs.YtgmiihmahaahiaaGreatDoor

