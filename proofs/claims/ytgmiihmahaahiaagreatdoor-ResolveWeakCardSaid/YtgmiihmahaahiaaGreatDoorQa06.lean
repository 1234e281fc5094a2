/- Parts of the proof, in build order. No condition. -/
import Derived.Test.YtgmiihmahaahiaaGreatDoorQa04
import Derived.Test.YtgmiihmahaahiaaGreatDoorQa05
import Derived.Test.YtgmiihmahaahiaaGreatDoorQa03
set_option linter.unusedSimpArgs false
set_option linter.unusedVariables false
set_option maxHeartbeats 1000000
set_option maxRecDepth 20000
namespace Go.Proofs.YtgmiihmahaahiaaGreatDoor
open Go.RowKit Go.Lp Go.Sy
open Go.Proofs.Tryz
attribute [local irreducible] aL aB awp aC fwp
theorem tk221 : tyk Tryz.prog 221 = some (false, 1) := by kernel_rfl
theorem con_idxf_section (l : Sl GSection) (F : FuncId) (caps : List Value) (p q : Per) (Ψ : GSection → Bool → Prop) (hF : callOk Tryz.prog F = true) (h : ∀ a ∈ l.l, Con Tryz.prog F (a.val :: caps) [p, q] [] (YN Value.bool (Ψ a))) : Con Tryz.prog 270 [l.val, .func (.func F) #[] caps.toArray] [ShF GSection.row l, p, q] []
   (YN (fun z : Int => .int .i64 z) (fun z => (z ≥ 0 → ∃ a ∈ l.l, Ψ a true) ∧ (¬ z ≥ 0 → ∀ a ∈ l.l, Ψ a false))) := by
 refine Con.enter Tryz.func270 rfl (by simp [Tryz.ntmps270]) ?_
 show awp _ _ _ _ ⟨[(0, true, _), (1, true, _)], _, _⟩
 refine awp_lenE (.of (psAt 0 rfl)) (fun hlen => ?_)
 refine aSR (aA rfl (aNs (aSR (aM rfl (aU rfl (q_lenS Tryz.underlying50 rfl) (aM rfl (aNn (awp_block ?_))))))))
 refine awp_loopK [0, 1, 7, 8] [2, 1, 0] [] (fun (k : Nat) s => (k ≤ l.l.length ∧ ∀ a ∈ l.l.take k, Ψ a false) ∧ s = ⟨[(0, true, l.val), (1, true, .func (.func F) #[] caps.toArray), (7, true, .int .i64 l.l.length), (8, true, .int .i64 k)], [ShF GSection.row l, p, q], []⟩) (fun k => l.l.length - k) rfl (⟨0, ⟨Nat.zero_le _, fun a ha => by cases ha⟩, rfl⟩) ?_
 rintro k s ⟨⟨hk, hno⟩, rfl⟩
 refine aSR (aU rfl (q_lss rfl rfl) (aNs ?_))
 refine awp_cond _ rfl (fun h1 => ?_) (fun h1 => ?_)
 ·skip
  have hk' : k < l.l.length := by simpa using h1
  obtain ⟨a, ha⟩ : ∃ a, l.l[k]? = some a := ⟨l.l[k]'hk', by simp⟩
  refine awp_skip (thn_n (awp_seq (awp_block (aSR (aM rfl (aA rfl (aNn (aSR (aM rfl (aM rfl (aM rfl ?_)))))))))))
  refine aL_E true rfl rfl (fun _ => q_indexAddrG Tryz.underlying50 tk85 rfl ((.of (psAt 0 rfl))) rfl (rows_get ha) rfl rfl) (fun h => absurd h (by decide)) (fun ⟨b4_3, o4_3⟩ => ?_)
  refine aU rfl (q_loadD (o := 0) tk85 rfl (psAt 0 rfl) rfl rfl) ?_
  refine aL_callN [1, 0] (false) hF true rfl rfl (fun _ => rfl) (fun hc => rfl) (fun hc => h a (List.mem_of_getElem? ha)) (fun c hc => ?_)
  refine aNn ?_
  refine awp_cond _ rfl (fun h2 => ?_) (fun h2 => ?_)
  ·skip
   refine aSR (aM rfl (aA rfl (aNn (awp_ret (blk_r (thn_r (thn_r (blk_r (thn_r ?_)))))))))
   refine fin1 [] [] rfl Tryz.results270 rfl ?_ (.inr rfl)
   exact ⟨⟨rfl, rfl⟩, _, rfl, fun _ => ⟨a, List.mem_of_getElem? ha, h2 ▸ hc rfl⟩, fun hz => (hz (Int.natCast_nonneg k)).elim⟩
  ·skip
   refine awp_skip (blk_n (thn_n (awp_region ?_)))
   refine aU rfl (q_addi rfl rfl (by omega)) ?_
   refine aM rfl (aNn ?_)
   refine ⟨[0, 1, 7, 8], [2, 1, 0], [], rfl, ?_⟩
   refine ⟨k + 1, ⟨⟨by omega, ?_⟩, rfl⟩, by omega⟩
   intro y hy
   rw [List.take_add_one, ha, List.mem_append] at hy
   rcases hy with hy | hy
   · exact hno y hy
   · simp at hy; subst hy; exact h2 ▸ hc rfl
 ·skip
  refine awp_exit (thn_e (thn_e (blk_hit (thn_n (aSR (aA rfl (aNn (awp_ret ?_))))))))
  refine fin1 [] [] rfl Tryz.results270 rfl ?_ (.inr rfl)
  refine ⟨⟨rfl, rfl⟩, _, rfl, fun hz => absurd hz (by decide), fun _ => ?_⟩
  rw [List.take_of_length_le (by simpa using h1)] at hno; exact hno
theorem con_cont_section (l : Sl GSection) (F : FuncId) (caps : List Value) (p q : Per) (Ψ : GSection → Bool → Prop) (hF : callOk Tryz.prog F = true) (h : ∀ a ∈ l.l, Con Tryz.prog F (a.val :: caps) [p, q] [] (YN Value.bool (Ψ a))) : Con Tryz.prog 222 [l.val, .func (.func F) #[] caps.toArray] [ShF GSection.row l, p, q] []
   (YN Value.bool (fun b => (b = true → ∃ a ∈ l.l, Ψ a true) ∧ (b = false → ∀ a ∈ l.l, Ψ a false))) := by
 refine Con.enter Tryz.func222 rfl (by simp [Tryz.ntmps222]) ?_
 show awp _ _ _ _ ⟨[(0, true, _), (1, true, _)], _, _⟩
 refine aSR (aA rfl (aNn (aSR (aM rfl (aM rfl ?_)))))
 refine aL_eff (q := true) rfl (e_call [2, 1, 0] [] (by kernel_rfl) rfl rfl rfl rfl (con_idxf_section l F caps p q Ψ hF h) ?_)
 rintro _ _ _ ⟨⟨rfl, rfl⟩, z, rfl, hz⟩
 refine aL_st (by (try simp only [nM, nN]); rfl) (by (try simp only [putB, place, Nat.reduceBEq, if_true, if_false, reduceIte, Nat.reduceAdd, nW]); rfl) ?_
 refine aU rfl (q_geq rfl rfl) (aA rfl (aNn (awp_ret ?_)))
 refine fin1 [] [] rfl Tryz.results222 rfl ?_ (.inr rfl)
 exact ⟨⟨rfl, rfl⟩, _, rfl, fun hb => hz.1 (by simpa using hb), fun hb => hz.2 (by simpa using hb)⟩
theorem con_every1_section (b : Nat) (F : FuncId) (caps : List Value) (p : Per) (a : GSection) (Φ : Prop) (hF : callOk Tryz.prog F = true) (h : Con Tryz.prog F (a.val :: caps) [p] [] (YB Φ)) : Con Tryz.prog 223 [a.val, .pointer (some ⟨b, 0, none⟩)] [At b 0 [.v (.func (.func F) #[] caps.toArray)], p] []
   (YN Value.bool (fun b => b = false → Φ)) := by
 refine Con.enter Tryz.func223 rfl (by simp [Tryz.ntmps223]) ?_
 show awp _ _ _ _ ⟨[(0, true, _), (1, true, _)], _, _⟩
 refine aSR ?_
 refine aL_eff (q := true) rfl (x_box rfl rfl rfl (fun b0_0 => ?_))
 refine aL_hp (by (try simp only [nM, nN]); rfl) ?_
 refine aA rfl (aNn (aSR (aU rfl (q_loadDE (o := 0) tk221 rfl (.of (psAt 0 rfl)) rfl) (aU rfl (q_load 0 tk85 rfl rfl rfl) ?_))))
 refine aL_callN [0] (false) hF true rfl rfl (fun _ => rfl) (fun hc => rfl) (fun hc => h) (fun c hc => ?_)
 refine aU rfl (q_not rfl) (aA rfl (aNn (awp_ret ?_)))
 refine fin1 [] [] rfl Tryz.results223 rfl ?_ (.inr rfl)
 exact ⟨⟨rfl, rfl⟩, _, rfl, fun hb => hc rfl (by simpa using hb)⟩
theorem con_every_section (l : Sl GSection) (F : FuncId) (caps : List Value) (p : Per) (Φ : GSection → Prop) (hF : callOk Tryz.prog F = true) (h : ∀ a ∈ l.l, Con Tryz.prog F (a.val :: caps) [p] [] (YB (Φ a))) : Con Tryz.prog 130 [l.val, .func (.func F) #[] caps.toArray] [ShF GSection.row l, p] []
   (YB (∀ a ∈ l.l, Φ a)) := by
 refine Con.enter Tryz.func130 rfl (by simp [Tryz.ntmps130]) ?_
 show awp _ _ _ _ ⟨[(0, true, _), (1, true, _)], _, _⟩
 refine aSR ?_
 refine aL_eff (q := true) rfl (x_box rfl rfl rfl (fun b0_0 => ?_))
 refine aL_hp (by (try simp only [nM, nN]); rfl) ?_
 refine aA rfl (aNs (awp_shareB 0 rfl rfl ?_))
 show awp _ _ _ _ ⟨_, At _ 0 _ :: _, _⟩
 refine awp_region (aM rfl (aU rfl (q_func (l := [.tmp 3]) rfl) ?_))
 refine aL_callN (caps := []) [1, 2, 0] (false) (by kernel_rfl) true rfl rfl (fun _ => rfl) (fun hc => rfl) (fun hc => by rw [List.append_nil]; exact con_cont_section l 223 [.pointer (some ⟨b0_0, 0, none⟩)] (At b0_0 0 [.v (.func (.func F) #[] caps.toArray)]) p (fun a b => b = false → Φ a) (by kernel_rfl) (fun a ha => con_every1_section b0_0 F caps p a (Φ a) hF (h a ha))) (fun c hc => ?_)
 refine aU rfl (q_not rfl) (aA rfl (aNn (awp_ret ?_)))
 refine fin1 [] [] rfl Tryz.results130 rfl ?_ (.inr rfl)
 exact ⟨⟨rfl, rfl⟩, _, rfl, fun hb a ha => (hc rfl).2 (by simpa using hb) a ha rfl⟩
theorem tk227 : tyk Tryz.prog 227 = some (false, 1) := by kernel_rfl
theorem con_idxf_symbol (l : Sl GSymbol) (F : FuncId) (caps : List Value) (p q : Per) (Ψ : GSymbol → Bool → Prop) (hF : callOk Tryz.prog F = true) (h : ∀ a ∈ l.l, Con Tryz.prog F (a.val :: caps) [p, q] [] (YN Value.bool (Ψ a))) : Con Tryz.prog 271 [l.val, .func (.func F) #[] caps.toArray] [ShF GSymbol.row l, p, q] []
   (YN (fun z : Int => .int .i64 z) (fun z => (z ≥ 0 → ∃ a ∈ l.l, Ψ a true) ∧ (¬ z ≥ 0 → ∀ a ∈ l.l, Ψ a false))) := by
 refine Con.enter Tryz.func271 rfl (by simp [Tryz.ntmps271]) ?_
 show awp _ _ _ _ ⟨[(0, true, _), (1, true, _)], _, _⟩
 refine awp_lenE (.of (psAt 0 rfl)) (fun hlen => ?_)
 refine aSR (aA rfl (aNs (aSR (aM rfl (aU rfl (q_lenS Tryz.underlying51 rfl) (aM rfl (aNn (awp_block ?_))))))))
 refine awp_loopK [0, 1, 7, 8] [2, 1, 0] [] (fun (k : Nat) s => (k ≤ l.l.length ∧ ∀ a ∈ l.l.take k, Ψ a false) ∧ s = ⟨[(0, true, l.val), (1, true, .func (.func F) #[] caps.toArray), (7, true, .int .i64 l.l.length), (8, true, .int .i64 k)], [ShF GSymbol.row l, p, q], []⟩) (fun k => l.l.length - k) rfl (⟨0, ⟨Nat.zero_le _, fun a ha => by cases ha⟩, rfl⟩) ?_
 rintro k s ⟨⟨hk, hno⟩, rfl⟩
 refine aSR (aU rfl (q_lss rfl rfl) (aNs ?_))
 refine awp_cond _ rfl (fun h1 => ?_) (fun h1 => ?_)
 ·skip
  have hk' : k < l.l.length := by simpa using h1
  obtain ⟨a, ha⟩ : ∃ a, l.l[k]? = some a := ⟨l.l[k]'hk', by simp⟩
  refine awp_skip (thn_n (awp_seq (awp_block (aSR (aM rfl (aA rfl (aNn (aSR (aM rfl (aM rfl (aM rfl ?_)))))))))))
  refine aL_E true rfl rfl (fun _ => q_indexAddrG Tryz.underlying51 tk63 rfl ((.of (psAt 0 rfl))) rfl (rows_get ha) rfl rfl) (fun h => absurd h (by decide)) (fun ⟨b4_3, o4_3⟩ => ?_)
  refine aU rfl (q_loadD (o := 0) tk63 rfl (psAt 0 rfl) rfl rfl) ?_
  refine aL_callN [1, 0] (false) hF true rfl rfl (fun _ => rfl) (fun hc => rfl) (fun hc => h a (List.mem_of_getElem? ha)) (fun c hc => ?_)
  refine aNn ?_
  refine awp_cond _ rfl (fun h2 => ?_) (fun h2 => ?_)
  ·skip
   refine aSR (aM rfl (aA rfl (aNn (awp_ret (blk_r (thn_r (thn_r (blk_r (thn_r ?_)))))))))
   refine fin1 [] [] rfl Tryz.results271 rfl ?_ (.inr rfl)
   exact ⟨⟨rfl, rfl⟩, _, rfl, fun _ => ⟨a, List.mem_of_getElem? ha, h2 ▸ hc rfl⟩, fun hz => (hz (Int.natCast_nonneg k)).elim⟩
  ·skip
   refine awp_skip (blk_n (thn_n (awp_region ?_)))
   refine aU rfl (q_addi rfl rfl (by omega)) ?_
   refine aM rfl (aNn ?_)
   refine ⟨[0, 1, 7, 8], [2, 1, 0], [], rfl, ?_⟩
   refine ⟨k + 1, ⟨⟨by omega, ?_⟩, rfl⟩, by omega⟩
   intro y hy
   rw [List.take_add_one, ha, List.mem_append] at hy
   rcases hy with hy | hy
   · exact hno y hy
   · simp at hy; subst hy; exact h2 ▸ hc rfl
 ·skip
  refine awp_exit (thn_e (thn_e (blk_hit (thn_n (aSR (aA rfl (aNn (awp_ret ?_))))))))
  refine fin1 [] [] rfl Tryz.results271 rfl ?_ (.inr rfl)
  refine ⟨⟨rfl, rfl⟩, _, rfl, fun hz => absurd hz (by decide), fun _ => ?_⟩
  rw [List.take_of_length_le (by simpa using h1)] at hno; exact hno
theorem con_cont_symbol (l : Sl GSymbol) (F : FuncId) (caps : List Value) (p q : Per) (Ψ : GSymbol → Bool → Prop) (hF : callOk Tryz.prog F = true) (h : ∀ a ∈ l.l, Con Tryz.prog F (a.val :: caps) [p, q] [] (YN Value.bool (Ψ a))) : Con Tryz.prog 224 [l.val, .func (.func F) #[] caps.toArray] [ShF GSymbol.row l, p, q] []
   (YN Value.bool (fun b => (b = true → ∃ a ∈ l.l, Ψ a true) ∧ (b = false → ∀ a ∈ l.l, Ψ a false))) := by
 refine Con.enter Tryz.func224 rfl (by simp [Tryz.ntmps224]) ?_
 show awp _ _ _ _ ⟨[(0, true, _), (1, true, _)], _, _⟩
 refine aSR (aA rfl (aNn (aSR (aM rfl (aM rfl ?_)))))
 refine aL_eff (q := true) rfl (e_call [2, 1, 0] [] (by kernel_rfl) rfl rfl rfl rfl (con_idxf_symbol l F caps p q Ψ hF h) ?_)
 rintro _ _ _ ⟨⟨rfl, rfl⟩, z, rfl, hz⟩
 refine aL_st (by (try simp only [nM, nN]); rfl) (by (try simp only [putB, place, Nat.reduceBEq, if_true, if_false, reduceIte, Nat.reduceAdd, nW]); rfl) ?_
 refine aU rfl (q_geq rfl rfl) (aA rfl (aNn (awp_ret ?_)))
 refine fin1 [] [] rfl Tryz.results224 rfl ?_ (.inr rfl)
 exact ⟨⟨rfl, rfl⟩, _, rfl, fun hb => hz.1 (by simpa using hb), fun hb => hz.2 (by simpa using hb)⟩
theorem con_every1_symbol (b : Nat) (F : FuncId) (caps : List Value) (p : Per) (a : GSymbol) (Φ : Prop) (hF : callOk Tryz.prog F = true) (h : Con Tryz.prog F (a.val :: caps) [p] [] (YB Φ)) : Con Tryz.prog 225 [a.val, .pointer (some ⟨b, 0, none⟩)] [At b 0 [.v (.func (.func F) #[] caps.toArray)], p] []
   (YN Value.bool (fun b => b = false → Φ)) := by
 refine Con.enter Tryz.func225 rfl (by simp [Tryz.ntmps225]) ?_
 show awp _ _ _ _ ⟨[(0, true, _), (1, true, _)], _, _⟩
 refine aSR ?_
 refine aL_eff (q := true) rfl (x_box rfl rfl rfl (fun b0_0 => ?_))
 refine aL_hp (by (try simp only [nM, nN]); rfl) ?_
 refine aA rfl (aNn (aSR (aU rfl (q_loadDE (o := 0) tk227 rfl (.of (psAt 0 rfl)) rfl) (aU rfl (q_load 0 tk63 rfl rfl rfl) ?_))))
 refine aL_callN [0] (false) hF true rfl rfl (fun _ => rfl) (fun hc => rfl) (fun hc => h) (fun c hc => ?_)
 refine aU rfl (q_not rfl) (aA rfl (aNn (awp_ret ?_)))
 refine fin1 [] [] rfl Tryz.results225 rfl ?_ (.inr rfl)
 exact ⟨⟨rfl, rfl⟩, _, rfl, fun hb => hc rfl (by simpa using hb)⟩
theorem con_every_symbol (l : Sl GSymbol) (F : FuncId) (caps : List Value) (p : Per) (Φ : GSymbol → Prop) (hF : callOk Tryz.prog F = true) (h : ∀ a ∈ l.l, Con Tryz.prog F (a.val :: caps) [p] [] (YB (Φ a))) : Con Tryz.prog 136 [l.val, .func (.func F) #[] caps.toArray] [ShF GSymbol.row l, p] []
   (YB (∀ a ∈ l.l, Φ a)) := by
 refine Con.enter Tryz.func136 rfl (by simp [Tryz.ntmps136]) ?_
 show awp _ _ _ _ ⟨[(0, true, _), (1, true, _)], _, _⟩
 refine aSR ?_
 refine aL_eff (q := true) rfl (x_box rfl rfl rfl (fun b0_0 => ?_))
 refine aL_hp (by (try simp only [nM, nN]); rfl) ?_
 refine aA rfl (aNs (awp_shareB 0 rfl rfl ?_))
 show awp _ _ _ _ ⟨_, At _ 0 _ :: _, _⟩
 refine awp_region (aM rfl (aU rfl (q_func (l := [.tmp 3]) rfl) ?_))
 refine aL_callN (caps := []) [1, 2, 0] (false) (by kernel_rfl) true rfl rfl (fun _ => rfl) (fun hc => rfl) (fun hc => by rw [List.append_nil]; exact con_cont_symbol l 225 [.pointer (some ⟨b0_0, 0, none⟩)] (At b0_0 0 [.v (.func (.func F) #[] caps.toArray)]) p (fun a b => b = false → Φ a) (by kernel_rfl) (fun a ha => con_every1_symbol b0_0 F caps p a (Φ a) hF (h a ha))) (fun c hc => ?_)
 refine aU rfl (q_not rfl) (aA rfl (aNn (awp_ret ?_)))
 refine fin1 [] [] rfl Tryz.results136 rfl ?_ (.inr rfl)
 exact ⟨⟨rfl, rfl⟩, _, rfl, fun hb a ha => (hc rfl).2 (by simpa using hb) a ha rfl⟩
theorem tk237 : tyk Tryz.prog 237 = some (false, 1) := by kernel_rfl
theorem con_idxf_rel (l : Sl GRel) (F : FuncId) (caps : List Value) (p q : Per) (Ψ : GRel → Bool → Prop) (hF : callOk Tryz.prog F = true) (h : ∀ a ∈ l.l, Con Tryz.prog F (a.val :: caps) [p, q] [] (YN Value.bool (Ψ a))) : Con Tryz.prog 276 [l.val, .func (.func F) #[] caps.toArray] [ShF GRel.row l, p, q] []
   (YN (fun z : Int => .int .i64 z) (fun z => (z ≥ 0 → ∃ a ∈ l.l, Ψ a true) ∧ (¬ z ≥ 0 → ∀ a ∈ l.l, Ψ a false))) := by
 refine Con.enter Tryz.func276 rfl (by simp [Tryz.ntmps276]) ?_
 show awp _ _ _ _ ⟨[(0, true, _), (1, true, _)], _, _⟩
 refine awp_lenE (.of (psAt 0 rfl)) (fun hlen => ?_)
 refine aSR (aA rfl (aNs (aSR (aM rfl (aU rfl (q_lenS Tryz.underlying52 rfl) (aM rfl (aNn (awp_block ?_))))))))
 refine awp_loopK [0, 1, 7, 8] [2, 1, 0] [] (fun (k : Nat) s => (k ≤ l.l.length ∧ ∀ a ∈ l.l.take k, Ψ a false) ∧ s = ⟨[(0, true, l.val), (1, true, .func (.func F) #[] caps.toArray), (7, true, .int .i64 l.l.length), (8, true, .int .i64 k)], [ShF GRel.row l, p, q], []⟩) (fun k => l.l.length - k) rfl (⟨0, ⟨Nat.zero_le _, fun a ha => by cases ha⟩, rfl⟩) ?_
 rintro k s ⟨⟨hk, hno⟩, rfl⟩
 refine aSR (aU rfl (q_lss rfl rfl) (aNs ?_))
 refine awp_cond _ rfl (fun h1 => ?_) (fun h1 => ?_)
 ·skip
  have hk' : k < l.l.length := by simpa using h1
  obtain ⟨a, ha⟩ : ∃ a, l.l[k]? = some a := ⟨l.l[k]'hk', by simp⟩
  refine awp_skip (thn_n (awp_seq (awp_block (aSR (aM rfl (aA rfl (aNn (aSR (aM rfl (aM rfl (aM rfl ?_)))))))))))
  refine aL_E true rfl rfl (fun _ => q_indexAddrG Tryz.underlying52 tk182 rfl ((.of (psAt 0 rfl))) rfl (rows_get ha) rfl rfl) (fun h => absurd h (by decide)) (fun ⟨b4_3, o4_3⟩ => ?_)
  refine aU rfl (q_loadD (o := 0) tk182 rfl (psAt 0 rfl) rfl rfl) ?_
  refine aL_callN [1, 0] (false) hF true rfl rfl (fun _ => rfl) (fun hc => rfl) (fun hc => h a (List.mem_of_getElem? ha)) (fun c hc => ?_)
  refine aNn ?_
  refine awp_cond _ rfl (fun h2 => ?_) (fun h2 => ?_)
  ·skip
   refine aSR (aM rfl (aA rfl (aNn (awp_ret (blk_r (thn_r (thn_r (blk_r (thn_r ?_)))))))))
   refine fin1 [] [] rfl Tryz.results276 rfl ?_ (.inr rfl)
   exact ⟨⟨rfl, rfl⟩, _, rfl, fun _ => ⟨a, List.mem_of_getElem? ha, h2 ▸ hc rfl⟩, fun hz => (hz (Int.natCast_nonneg k)).elim⟩
  ·skip
   refine awp_skip (blk_n (thn_n (awp_region ?_)))
   refine aU rfl (q_addi rfl rfl (by omega)) ?_
   refine aM rfl (aNn ?_)
   refine ⟨[0, 1, 7, 8], [2, 1, 0], [], rfl, ?_⟩
   refine ⟨k + 1, ⟨⟨by omega, ?_⟩, rfl⟩, by omega⟩
   intro y hy
   rw [List.take_add_one, ha, List.mem_append] at hy
   rcases hy with hy | hy
   · exact hno y hy
   · simp at hy; subst hy; exact h2 ▸ hc rfl
 ·skip
  refine awp_exit (thn_e (thn_e (blk_hit (thn_n (aSR (aA rfl (aNn (awp_ret ?_))))))))
  refine fin1 [] [] rfl Tryz.results276 rfl ?_ (.inr rfl)
  refine ⟨⟨rfl, rfl⟩, _, rfl, fun hz => absurd hz (by decide), fun _ => ?_⟩
  rw [List.take_of_length_le (by simpa using h1)] at hno; exact hno
theorem con_cont_rel (l : Sl GRel) (F : FuncId) (caps : List Value) (p q : Per) (Ψ : GRel → Bool → Prop) (hF : callOk Tryz.prog F = true) (h : ∀ a ∈ l.l, Con Tryz.prog F (a.val :: caps) [p, q] [] (YN Value.bool (Ψ a))) : Con Tryz.prog 229 [l.val, .func (.func F) #[] caps.toArray] [ShF GRel.row l, p, q] []
   (YN Value.bool (fun b => (b = true → ∃ a ∈ l.l, Ψ a true) ∧ (b = false → ∀ a ∈ l.l, Ψ a false))) := by
 refine Con.enter Tryz.func229 rfl (by simp [Tryz.ntmps229]) ?_
 show awp _ _ _ _ ⟨[(0, true, _), (1, true, _)], _, _⟩
 refine aSR (aA rfl (aNn (aSR (aM rfl (aM rfl ?_)))))
 refine aL_eff (q := true) rfl (e_call [2, 1, 0] [] (by kernel_rfl) rfl rfl rfl rfl (con_idxf_rel l F caps p q Ψ hF h) ?_)
 rintro _ _ _ ⟨⟨rfl, rfl⟩, z, rfl, hz⟩
 refine aL_st (by (try simp only [nM, nN]); rfl) (by (try simp only [putB, place, Nat.reduceBEq, if_true, if_false, reduceIte, Nat.reduceAdd, nW]); rfl) ?_
 refine aU rfl (q_geq rfl rfl) (aA rfl (aNn (awp_ret ?_)))
 refine fin1 [] [] rfl Tryz.results229 rfl ?_ (.inr rfl)
 exact ⟨⟨rfl, rfl⟩, _, rfl, fun hb => hz.1 (by simpa using hb), fun hb => hz.2 (by simpa using hb)⟩
theorem con_every1_rel (b : Nat) (F : FuncId) (caps : List Value) (p : Per) (a : GRel) (Φ : Prop) (hF : callOk Tryz.prog F = true) (h : Con Tryz.prog F (a.val :: caps) [p] [] (YB Φ)) : Con Tryz.prog 230 [a.val, .pointer (some ⟨b, 0, none⟩)] [At b 0 [.v (.func (.func F) #[] caps.toArray)], p] []
   (YN Value.bool (fun b => b = false → Φ)) := by
 refine Con.enter Tryz.func230 rfl (by simp [Tryz.ntmps230]) ?_
 show awp _ _ _ _ ⟨[(0, true, _), (1, true, _)], _, _⟩
 refine aSR ?_
 refine aL_eff (q := true) rfl (x_box rfl rfl rfl (fun b0_0 => ?_))
 refine aL_hp (by (try simp only [nM, nN]); rfl) ?_
 refine aA rfl (aNn (aSR (aU rfl (q_loadDE (o := 0) tk237 rfl (.of (psAt 0 rfl)) rfl) (aU rfl (q_load 0 tk182 rfl rfl rfl) ?_))))
 refine aL_callN [0] (false) hF true rfl rfl (fun _ => rfl) (fun hc => rfl) (fun hc => h) (fun c hc => ?_)
 refine aU rfl (q_not rfl) (aA rfl (aNn (awp_ret ?_)))
 refine fin1 [] [] rfl Tryz.results230 rfl ?_ (.inr rfl)
 exact ⟨⟨rfl, rfl⟩, _, rfl, fun hb => hc rfl (by simpa using hb)⟩
theorem con_every_rel (l : Sl GRel) (F : FuncId) (caps : List Value) (p : Per) (Φ : GRel → Prop) (hF : callOk Tryz.prog F = true) (h : ∀ a ∈ l.l, Con Tryz.prog F (a.val :: caps) [p] [] (YB (Φ a))) : Con Tryz.prog 145 [l.val, .func (.func F) #[] caps.toArray] [ShF GRel.row l, p] []
   (YB (∀ a ∈ l.l, Φ a)) := by
 refine Con.enter Tryz.func145 rfl (by simp [Tryz.ntmps145]) ?_
 show awp _ _ _ _ ⟨[(0, true, _), (1, true, _)], _, _⟩
 refine aSR ?_
 refine aL_eff (q := true) rfl (x_box rfl rfl rfl (fun b0_0 => ?_))
 refine aL_hp (by (try simp only [nM, nN]); rfl) ?_
 refine aA rfl (aNs (awp_shareB 0 rfl rfl ?_))
 show awp _ _ _ _ ⟨_, At _ 0 _ :: _, _⟩
 refine awp_region (aM rfl (aU rfl (q_func (l := [.tmp 3]) rfl) ?_))
 refine aL_callN (caps := []) [1, 2, 0] (false) (by kernel_rfl) true rfl rfl (fun _ => rfl) (fun hc => rfl) (fun hc => by rw [List.append_nil]; exact con_cont_rel l 230 [.pointer (some ⟨b0_0, 0, none⟩)] (At b0_0 0 [.v (.func (.func F) #[] caps.toArray)]) p (fun a b => b = false → Φ a) (by kernel_rfl) (fun a ha => con_every1_rel b0_0 F caps p a (Φ a) hF (h a ha))) (fun c hc => ?_)
 refine aU rfl (q_not rfl) (aA rfl (aNn (awp_ret ?_)))
 refine fin1 [] [] rfl Tryz.results145 rfl ?_ (.inr rfl)
 exact ⟨⟨rfl, rfl⟩, _, rfl, fun hb a ha => (hc rfl).2 (by simpa using hb) a ha rfl⟩
theorem con_pairs_rel (l : Sl GRel) (F : FuncId) (caps : List Value) (p : Per) (hF : callOk Tryz.prog F = true) (h : ∀ a ∈ l.l, ∀ b ∈ l.l, Con Tryz.prog F (a.val :: b.val :: caps) [p] [] (YB True)) : Con Tryz.prog 146 [l.val, .func (.func F) #[] caps.toArray] [ShF GRel.row l, p] [] (YB True) := by
 refine Con.enter Tryz.func146 rfl (by simp [Tryz.ntmps146]) ?_
 show awp _ _ _ _ ⟨[(0, true, _), (1, true, _)], _, _⟩
 refine awp_lenE (.of (psAt 0 rfl)) (fun hlen => ?_)
 refine aSR (aA rfl (aNs (aSR ?_)))
 refine aA rfl (aNn (awp_block (awp_loopK [0, 1, 5] [1, 0] [] (fun (k : Nat) s => k ≤ l.l.length ∧ s = ⟨[(0, true, l.val), (1, true, .func (.func F) #[] caps.toArray), (5, true, .int .i64 ((k + 1 : Nat) : Int))], [ShF GRel.row l, p], []⟩) (fun k => l.l.length - k) rfl (⟨0, Nat.zero_le _, rfl⟩) ?_)))
 rintro k s ⟨hk, rfl⟩
 refine awp_seq (aSR (aM rfl (aM rfl (aU rfl (q_lenS Tryz.underlying52 rfl) (aU rfl (q_lss rfl rfl) (aNn ?_))))))
 refine awp_cond _ rfl (fun h1 => ?_) (fun h1 => ?_)
 ·skip
  have hk' : k + 1 < l.l.length := by simp at h1; omega
  have ha := elt_nat (l := l.l) (i := k) (by omega)
  have hb := elt_nat (l := l.l) (i := k + 1) hk'
  refine awp_skip (thn_n (awp_seq (awp_block (awp_seq ?_))))
  refine awp_drawn [] (by kernel_rfl) ?_
  show aB _ _ _ _ _ 12 #[false, false, false, false, false, false, false, false, false, false, false, false] _
  refine bU 0 rfl (by kernel_rfl) rfl (q_move rfl) ?_
  refine bU 1 rfl (by kernel_rfl) rfl (q_move rfl) ?_
  refine bU 2 rfl (by kernel_rfl) rfl (q_move rfl) ?_
  refine bU 3 rfl (by kernel_rfl) rfl (q_subi rfl rfl (by omega)) ?_
  refine aB_E 4 rfl (by kernel_rfl) true rfl rfl (fun _ => q_indexAddrG Tryz.underlying52 tk182 rfl ((.of (psAt 0 rfl))) rfl (rows_get ha) (by omega) rfl) (fun h => absurd h (by decide)) (fun ⟨b4_4, o4_4⟩ => ?_)
  refine bU 5 rfl (by kernel_rfl) rfl (q_loadD (o := 0) tk182 rfl (psAt 0 rfl) rfl rfl) ?_
  refine bU 6 rfl (by kernel_rfl) rfl (q_move rfl) ?_
  refine bU 7 rfl (by kernel_rfl) rfl (q_move rfl) ?_
  refine aB_E 8 rfl (by kernel_rfl) true rfl rfl (fun _ => q_indexAddrG Tryz.underlying52 tk182 rfl ((.of (psAt 1 rfl))) rfl (rows_get hb) rfl rfl) (fun h => absurd h (by decide)) (fun ⟨b4_8, o4_8⟩ => ?_)
  refine bU 9 rfl (by kernel_rfl) rfl (q_loadD (o := 0) tk182 rfl (psAt 0 rfl) rfl rfl) ?_
  refine aB_callN 10 rfl (by kernel_rfl) [0] (false) hF true rfl rfl (fun _ => rfl) (fun hc => rfl) (fun hc => h _ (List.mem_of_getElem? ha) _ (List.mem_of_getElem? hb)) (fun c hc => ?_)
  refine bU 11 rfl (by kernel_rfl) rfl (q_not rfl) ?_
  refine aB_nil (by kernel_rfl) ?_
  refine thn_n ?_
  refine awp_cond _ rfl (fun h2 => ?_) (fun h2 => ?_)
  ·skip
   refine aSR (aA rfl (aNn (awp_ret (blk_r (thn_r (thn_r (blk_r (thn_r ?_))))))))
   refine fin1 [] [] rfl Tryz.results146 rfl ?_ (.inr rfl)
   exact ⟨⟨rfl, rfl⟩, _, rfl, fun _ => trivial⟩
  ·skip
   refine awp_skip (blk_n (thn_n (awp_region (aM rfl ?_))))
   refine aU rfl (q_addi rfl rfl (by omega)) ?_
   refine aA rfl (aNn ?_)
   refine ⟨[0, 1, 5], [1, 0], [], rfl, ?_⟩
   exact ⟨k + 1, ⟨by omega, rfl⟩, by omega⟩
 ·skip
  refine awp_exit (thn_e (thn_e (blk_hit (thn_n (aSR (aA rfl (aNn (awp_ret ?_))))))))
  refine fin1 [] [] rfl Tryz.results146 rfl ?_ (.inr rfl)
  exact ⟨⟨rfl, rfl⟩, _, rfl, fun _ => trivial⟩
theorem con_idxf_int (l : Sl Int) (F : FuncId) (caps : List Value) (p q : Per) (Ψ : Int → Bool → Prop) (hF : callOk Tryz.prog F = true) (h : ∀ a ∈ l.l, Con Tryz.prog F ((eI a) :: caps) [p, q] [] (YN Value.bool (Ψ a))) : Con Tryz.prog 186 [l.val, .func (.func F) #[] caps.toArray] [ShF (fun z : Int => [D.v (eI z)]) l, p, q] []
   (YN (fun z : Int => .int .i64 z) (fun z => (z ≥ 0 → ∃ a ∈ l.l, Ψ a true) ∧ (¬ z ≥ 0 → ∀ a ∈ l.l, Ψ a false))) := by
 refine Con.enter Tryz.func186 rfl (by simp [Tryz.ntmps186]) ?_
 show awp _ _ _ _ ⟨[(0, true, _), (1, true, _)], _, _⟩
 refine awp_lenE (.of (psAt 0 rfl)) (fun hlen => ?_)
 refine aSR (aA rfl (aNs (aSR (aM rfl (aU rfl (q_lenS Tryz.underlying90 rfl) (aM rfl (aNn (awp_block ?_))))))))
 refine awp_loopK [0, 1, 7, 8] [2, 1, 0] [] (fun (k : Nat) s => (k ≤ l.l.length ∧ ∀ a ∈ l.l.take k, Ψ a false) ∧ s = ⟨[(0, true, l.val), (1, true, .func (.func F) #[] caps.toArray), (7, true, .int .i64 l.l.length), (8, true, .int .i64 k)], [ShF (fun z : Int => [D.v (eI z)]) l, p, q], []⟩) (fun k => l.l.length - k) rfl (⟨0, ⟨Nat.zero_le _, fun a ha => by cases ha⟩, rfl⟩) ?_
 rintro k s ⟨⟨hk, hno⟩, rfl⟩
 refine aSR (aU rfl (q_lss rfl rfl) (aNs ?_))
 refine awp_cond _ rfl (fun h1 => ?_) (fun h1 => ?_)
 ·skip
  have hk' : k < l.l.length := by simpa using h1
  obtain ⟨a, ha⟩ : ∃ a, l.l[k]? = some a := ⟨l.l[k]'hk', by simp⟩
  refine awp_skip (thn_n (awp_seq (awp_block (aSR (aM rfl (aA rfl (aNn (aSR (aM rfl (aM rfl (aM rfl ?_)))))))))))
  refine aL_E true rfl rfl (fun _ => q_indexAddrG Tryz.underlying90 tk3 rfl ((.of (psAt 0 rfl))) rfl (rows_get ha) rfl rfl) (fun h => absurd h (by decide)) (fun ⟨b4_3, o4_3⟩ => ?_)
  refine aU rfl (q_loadD (o := 0) tk3 rfl (psAt 0 rfl) rfl rfl) ?_
  refine aL_callN [1, 0] (false) hF true rfl rfl (fun _ => rfl) (fun hc => rfl) (fun hc => h a (List.mem_of_getElem? ha)) (fun c hc => ?_)
  refine aNn ?_
  refine awp_cond _ rfl (fun h2 => ?_) (fun h2 => ?_)
  ·skip
   refine aSR (aM rfl (aA rfl (aNn (awp_ret (blk_r (thn_r (thn_r (blk_r (thn_r ?_)))))))))
   refine fin1 [] [] rfl Tryz.results186 rfl ?_ (.inr rfl)
   exact ⟨⟨rfl, rfl⟩, _, rfl, fun _ => ⟨a, List.mem_of_getElem? ha, h2 ▸ hc rfl⟩, fun hz => (hz (Int.natCast_nonneg k)).elim⟩
  ·skip
   refine awp_skip (blk_n (thn_n (awp_region ?_)))
   refine aU rfl (q_addi rfl rfl (by omega)) ?_
   refine aM rfl (aNn ?_)
   refine ⟨[0, 1, 7, 8], [2, 1, 0], [], rfl, ?_⟩
   refine ⟨k + 1, ⟨⟨by omega, ?_⟩, rfl⟩, by omega⟩
   intro y hy
   rw [List.take_add_one, ha, List.mem_append] at hy
   rcases hy with hy | hy
   · exact hno y hy
   · simp at hy; subst hy; exact h2 ▸ hc rfl
 ·skip
  refine awp_exit (thn_e (thn_e (blk_hit (thn_n (aSR (aA rfl (aNn (awp_ret ?_))))))))
  refine fin1 [] [] rfl Tryz.results186 rfl ?_ (.inr rfl)
  refine ⟨⟨rfl, rfl⟩, _, rfl, fun hz => absurd hz (by decide), fun _ => ?_⟩
  rw [List.take_of_length_le (by simpa using h1)] at hno; exact hno
theorem con_cont_int (l : Sl Int) (F : FuncId) (caps : List Value) (p q : Per) (Ψ : Int → Bool → Prop) (hF : callOk Tryz.prog F = true) (h : ∀ a ∈ l.l, Con Tryz.prog F ((eI a) :: caps) [p, q] [] (YN Value.bool (Ψ a))) : Con Tryz.prog 231 [l.val, .func (.func F) #[] caps.toArray] [ShF (fun z : Int => [D.v (eI z)]) l, p, q] []
   (YN Value.bool (fun b => (b = true → ∃ a ∈ l.l, Ψ a true) ∧ (b = false → ∀ a ∈ l.l, Ψ a false))) := by
 refine Con.enter Tryz.func231 rfl (by simp [Tryz.ntmps231]) ?_
 show awp _ _ _ _ ⟨[(0, true, _), (1, true, _)], _, _⟩
 refine aSR (aA rfl (aNn (aSR (aM rfl (aM rfl ?_)))))
 refine aL_eff (q := true) rfl (e_call [2, 1, 0] [] (by kernel_rfl) rfl rfl rfl rfl (con_idxf_int l F caps p q Ψ hF h) ?_)
 rintro _ _ _ ⟨⟨rfl, rfl⟩, z, rfl, hz⟩
 refine aL_st (by (try simp only [nM, nN]); rfl) (by (try simp only [putB, place, Nat.reduceBEq, if_true, if_false, reduceIte, Nat.reduceAdd, nW]); rfl) ?_
 refine aU rfl (q_geq rfl rfl) (aA rfl (aNn (awp_ret ?_)))
 refine fin1 [] [] rfl Tryz.results231 rfl ?_ (.inr rfl)
 exact ⟨⟨rfl, rfl⟩, _, rfl, fun hb => hz.1 (by simpa using hb), fun hb => hz.2 (by simpa using hb)⟩
theorem con_every1_int (b : Nat) (F : FuncId) (caps : List Value) (p : Per) (a : Int) (Φ : Prop) (hF : callOk Tryz.prog F = true) (h : Con Tryz.prog F ((eI a) :: caps) [p] [] (YB Φ)) : Con Tryz.prog 232 [(eI a), .pointer (some ⟨b, 0, none⟩)] [At b 0 [.v (.func (.func F) #[] caps.toArray)], p] []
   (YN Value.bool (fun b => b = false → Φ)) := by
 refine Con.enter Tryz.func232 rfl (by simp [Tryz.ntmps232]) ?_
 show awp _ _ _ _ ⟨[(0, true, _), (1, true, _)], _, _⟩
 refine aSR (aA rfl (aNn (aSR (aU rfl (q_loadDE (o := 0) tk152 rfl (.of (psAt 0 rfl)) rfl) (aM rfl ?_)))))
 refine aL_callN [0] (false) hF true rfl rfl (fun _ => rfl) (fun hc => rfl) (fun hc => h) (fun c hc => ?_)
 refine aU rfl (q_not rfl) (aA rfl (aNn (awp_ret ?_)))
 refine fin1 [] [] rfl Tryz.results232 rfl ?_ (.inr rfl)
 exact ⟨⟨rfl, rfl⟩, _, rfl, fun hb => hc rfl (by simpa using hb)⟩
theorem con_every_int (l : Sl Int) (F : FuncId) (caps : List Value) (p : Per) (Φ : Int → Prop) (hF : callOk Tryz.prog F = true) (h : ∀ a ∈ l.l, Con Tryz.prog F ((eI a) :: caps) [p] [] (YB (Φ a))) : Con Tryz.prog 147 [l.val, .func (.func F) #[] caps.toArray] [ShF (fun z : Int => [D.v (eI z)]) l, p] []
   (YB (∀ a ∈ l.l, Φ a)) := by
 refine Con.enter Tryz.func147 rfl (by simp [Tryz.ntmps147]) ?_
 show awp _ _ _ _ ⟨[(0, true, _), (1, true, _)], _, _⟩
 refine aSR ?_
 refine aL_eff (q := true) rfl (x_box rfl rfl rfl (fun b0_0 => ?_))
 refine aL_hp (by (try simp only [nM, nN]); rfl) ?_
 refine aA rfl (aNs (awp_shareB 0 rfl rfl ?_))
 show awp _ _ _ _ ⟨_, At _ 0 _ :: _, _⟩
 refine awp_region (aM rfl (aU rfl (q_func (l := [.tmp 3]) rfl) ?_))
 refine aL_callN (caps := []) [1, 2, 0] (false) (by kernel_rfl) true rfl rfl (fun _ => rfl) (fun hc => rfl) (fun hc => by rw [List.append_nil]; exact con_cont_int l 232 [.pointer (some ⟨b0_0, 0, none⟩)] (At b0_0 0 [.v (.func (.func F) #[] caps.toArray)]) p (fun a b => b = false → Φ a) (by kernel_rfl) (fun a ha => con_every1_int b0_0 F caps p a (Φ a) hF (h a ha))) (fun c hc => ?_)
 refine aU rfl (q_not rfl) (aA rfl (aNn (awp_ret ?_)))
 refine fin1 [] [] rfl Tryz.results147 rfl ?_ (.inr rfl)
 exact ⟨⟨rfl, rfl⟩, _, rfl, fun hb a ha => (hc rfl).2 (by simpa using hb) a ha rfl⟩
theorem tk247 : tyk Tryz.prog 247 = some (false, 1) := by kernel_rfl
theorem con_idxf_init (l : Sl GInit) (F : FuncId) (caps : List Value) (p q : Per) (Ψ : GInit → Bool → Prop) (hF : callOk Tryz.prog F = true) (h : ∀ a ∈ l.l, Con Tryz.prog F (a.val :: caps) [p, q] [] (YN Value.bool (Ψ a))) : Con Tryz.prog 277 [l.val, .func (.func F) #[] caps.toArray] [ShF GInit.row l, p, q] []
   (YN (fun z : Int => .int .i64 z) (fun z => (z ≥ 0 → ∃ a ∈ l.l, Ψ a true) ∧ (¬ z ≥ 0 → ∀ a ∈ l.l, Ψ a false))) := by
 refine Con.enter Tryz.func277 rfl (by simp [Tryz.ntmps277]) ?_
 show awp _ _ _ _ ⟨[(0, true, _), (1, true, _)], _, _⟩
 refine awp_lenE (.of (psAt 0 rfl)) (fun hlen => ?_)
 refine aSR (aA rfl (aNs (aSR (aM rfl (aU rfl (q_lenS Tryz.underlying54 rfl) (aM rfl (aNn (awp_block ?_))))))))
 refine awp_loopK [0, 1, 7, 8] [2, 1, 0] [] (fun (k : Nat) s => (k ≤ l.l.length ∧ ∀ a ∈ l.l.take k, Ψ a false) ∧ s = ⟨[(0, true, l.val), (1, true, .func (.func F) #[] caps.toArray), (7, true, .int .i64 l.l.length), (8, true, .int .i64 k)], [ShF GInit.row l, p, q], []⟩) (fun k => l.l.length - k) rfl (⟨0, ⟨Nat.zero_le _, fun a ha => by cases ha⟩, rfl⟩) ?_
 rintro k s ⟨⟨hk, hno⟩, rfl⟩
 refine aSR (aU rfl (q_lss rfl rfl) (aNs ?_))
 refine awp_cond _ rfl (fun h1 => ?_) (fun h1 => ?_)
 ·skip
  have hk' : k < l.l.length := by simpa using h1
  obtain ⟨a, ha⟩ : ∃ a, l.l[k]? = some a := ⟨l.l[k]'hk', by simp⟩
  refine awp_skip (thn_n (awp_seq (awp_block (aSR (aM rfl (aA rfl (aNn (aSR (aM rfl (aM rfl (aM rfl ?_)))))))))))
  refine aL_E true rfl rfl (fun _ => q_indexAddrG Tryz.underlying54 tk195 rfl ((.of (psAt 0 rfl))) rfl (rows_get ha) rfl rfl) (fun h => absurd h (by decide)) (fun ⟨b4_3, o4_3⟩ => ?_)
  refine aU rfl (q_loadD (o := 0) tk195 rfl (psAt 0 rfl) rfl rfl) ?_
  refine aL_callN [1, 0] (false) hF true rfl rfl (fun _ => rfl) (fun hc => rfl) (fun hc => h a (List.mem_of_getElem? ha)) (fun c hc => ?_)
  refine aNn ?_
  refine awp_cond _ rfl (fun h2 => ?_) (fun h2 => ?_)
  ·skip
   refine aSR (aM rfl (aA rfl (aNn (awp_ret (blk_r (thn_r (thn_r (blk_r (thn_r ?_)))))))))
   refine fin1 [] [] rfl Tryz.results277 rfl ?_ (.inr rfl)
   exact ⟨⟨rfl, rfl⟩, _, rfl, fun _ => ⟨a, List.mem_of_getElem? ha, h2 ▸ hc rfl⟩, fun hz => (hz (Int.natCast_nonneg k)).elim⟩
  ·skip
   refine awp_skip (blk_n (thn_n (awp_region ?_)))
   refine aU rfl (q_addi rfl rfl (by omega)) ?_
   refine aM rfl (aNn ?_)
   refine ⟨[0, 1, 7, 8], [2, 1, 0], [], rfl, ?_⟩
   refine ⟨k + 1, ⟨⟨by omega, ?_⟩, rfl⟩, by omega⟩
   intro y hy
   rw [List.take_add_one, ha, List.mem_append] at hy
   rcases hy with hy | hy
   · exact hno y hy
   · simp at hy; subst hy; exact h2 ▸ hc rfl
 ·skip
  refine awp_exit (thn_e (thn_e (blk_hit (thn_n (aSR (aA rfl (aNn (awp_ret ?_))))))))
  refine fin1 [] [] rfl Tryz.results277 rfl ?_ (.inr rfl)
  refine ⟨⟨rfl, rfl⟩, _, rfl, fun hz => absurd hz (by decide), fun _ => ?_⟩
  rw [List.take_of_length_le (by simpa using h1)] at hno; exact hno
theorem con_cont_init (l : Sl GInit) (F : FuncId) (caps : List Value) (p q : Per) (Ψ : GInit → Bool → Prop) (hF : callOk Tryz.prog F = true) (h : ∀ a ∈ l.l, Con Tryz.prog F (a.val :: caps) [p, q] [] (YN Value.bool (Ψ a))) : Con Tryz.prog 233 [l.val, .func (.func F) #[] caps.toArray] [ShF GInit.row l, p, q] []
   (YN Value.bool (fun b => (b = true → ∃ a ∈ l.l, Ψ a true) ∧ (b = false → ∀ a ∈ l.l, Ψ a false))) := by
 refine Con.enter Tryz.func233 rfl (by simp [Tryz.ntmps233]) ?_
 show awp _ _ _ _ ⟨[(0, true, _), (1, true, _)], _, _⟩
 refine aSR (aA rfl (aNn (aSR (aM rfl (aM rfl ?_)))))
 refine aL_eff (q := true) rfl (e_call [2, 1, 0] [] (by kernel_rfl) rfl rfl rfl rfl (con_idxf_init l F caps p q Ψ hF h) ?_)
 rintro _ _ _ ⟨⟨rfl, rfl⟩, z, rfl, hz⟩
 refine aL_st (by (try simp only [nM, nN]); rfl) (by (try simp only [putB, place, Nat.reduceBEq, if_true, if_false, reduceIte, Nat.reduceAdd, nW]); rfl) ?_
 refine aU rfl (q_geq rfl rfl) (aA rfl (aNn (awp_ret ?_)))
 refine fin1 [] [] rfl Tryz.results233 rfl ?_ (.inr rfl)
 exact ⟨⟨rfl, rfl⟩, _, rfl, fun hb => hz.1 (by simpa using hb), fun hb => hz.2 (by simpa using hb)⟩
theorem con_every1_init (b : Nat) (F : FuncId) (caps : List Value) (p : Per) (a : GInit) (Φ : Prop) (hF : callOk Tryz.prog F = true) (h : Con Tryz.prog F (a.val :: caps) [p] [] (YB Φ)) : Con Tryz.prog 234 [a.val, .pointer (some ⟨b, 0, none⟩)] [At b 0 [.v (.func (.func F) #[] caps.toArray)], p] []
   (YN Value.bool (fun b => b = false → Φ)) := by
 refine Con.enter Tryz.func234 rfl (by simp [Tryz.ntmps234]) ?_
 show awp _ _ _ _ ⟨[(0, true, _), (1, true, _)], _, _⟩
 refine aSR ?_
 refine aL_eff (q := true) rfl (x_box rfl rfl rfl (fun b0_0 => ?_))
 refine aL_hp (by (try simp only [nM, nN]); rfl) ?_
 refine aA rfl (aNn (aSR (aU rfl (q_loadDE (o := 0) tk247 rfl (.of (psAt 0 rfl)) rfl) (aU rfl (q_load 0 tk195 rfl rfl rfl) ?_))))
 refine aL_callN [0] (false) hF true rfl rfl (fun _ => rfl) (fun hc => rfl) (fun hc => h) (fun c hc => ?_)
 refine aU rfl (q_not rfl) (aA rfl (aNn (awp_ret ?_)))
 refine fin1 [] [] rfl Tryz.results234 rfl ?_ (.inr rfl)
 exact ⟨⟨rfl, rfl⟩, _, rfl, fun hb => hc rfl (by simpa using hb)⟩
theorem con_every_init (l : Sl GInit) (F : FuncId) (caps : List Value) (p : Per) (Φ : GInit → Prop) (hF : callOk Tryz.prog F = true) (h : ∀ a ∈ l.l, Con Tryz.prog F (a.val :: caps) [p] [] (YB (Φ a))) : Con Tryz.prog 155 [l.val, .func (.func F) #[] caps.toArray] [ShF GInit.row l, p] []
   (YB (∀ a ∈ l.l, Φ a)) := by
 refine Con.enter Tryz.func155 rfl (by simp [Tryz.ntmps155]) ?_
 show awp _ _ _ _ ⟨[(0, true, _), (1, true, _)], _, _⟩
 refine aSR ?_
 refine aL_eff (q := true) rfl (x_box rfl rfl rfl (fun b0_0 => ?_))
 refine aL_hp (by (try simp only [nM, nN]); rfl) ?_
 refine aA rfl (aNs (awp_shareB 0 rfl rfl ?_))
 show awp _ _ _ _ ⟨_, At _ 0 _ :: _, _⟩
 refine awp_region (aM rfl (aU rfl (q_func (l := [.tmp 3]) rfl) ?_))
 refine aL_callN (caps := []) [1, 2, 0] (false) (by kernel_rfl) true rfl rfl (fun _ => rfl) (fun hc => rfl) (fun hc => by rw [List.append_nil]; exact con_cont_init l 234 [.pointer (some ⟨b0_0, 0, none⟩)] (At b0_0 0 [.v (.func (.func F) #[] caps.toArray)]) p (fun a b => b = false → Φ a) (by kernel_rfl) (fun a ha => con_every1_init b0_0 F caps p a (Φ a) hF (h a ha))) (fun c hc => ?_)
 refine aU rfl (q_not rfl) (aA rfl (aNn (awp_ret ?_)))
 refine fin1 [] [] rfl Tryz.results155 rfl ?_ (.inr rfl)
 exact ⟨⟨rfl, rfl⟩, _, rfl, fun hb a ha => (hc rfl).2 (by simpa using hb) a ha rfl⟩
theorem tk248 : tyk Tryz.prog 248 = some (false, 1) := by kernel_rfl
theorem con_idxf_line (l : Sl GLine) (F : FuncId) (caps : List Value) (p q : Per) (Ψ : GLine → Bool → Prop) (hF : callOk Tryz.prog F = true) (h : ∀ a ∈ l.l, Con Tryz.prog F (a.val :: caps) [p, q] [] (YN Value.bool (Ψ a))) : Con Tryz.prog 278 [l.val, .func (.func F) #[] caps.toArray] [ShF GLine.row l, p, q] []
   (YN (fun z : Int => .int .i64 z) (fun z => (z ≥ 0 → ∃ a ∈ l.l, Ψ a true) ∧ (¬ z ≥ 0 → ∀ a ∈ l.l, Ψ a false))) := by
 refine Con.enter Tryz.func278 rfl (by simp [Tryz.ntmps278]) ?_
 show awp _ _ _ _ ⟨[(0, true, _), (1, true, _)], _, _⟩
 refine awp_lenE (.of (psAt 0 rfl)) (fun hlen => ?_)
 refine aSR (aA rfl (aNs (aSR (aM rfl (aU rfl (q_lenS Tryz.underlying55 rfl) (aM rfl (aNn (awp_block ?_))))))))
 refine awp_loopK [0, 1, 7, 8] [2, 1, 0] [] (fun (k : Nat) s => (k ≤ l.l.length ∧ ∀ a ∈ l.l.take k, Ψ a false) ∧ s = ⟨[(0, true, l.val), (1, true, .func (.func F) #[] caps.toArray), (7, true, .int .i64 l.l.length), (8, true, .int .i64 k)], [ShF GLine.row l, p, q], []⟩) (fun k => l.l.length - k) rfl (⟨0, ⟨Nat.zero_le _, fun a ha => by cases ha⟩, rfl⟩) ?_
 rintro k s ⟨⟨hk, hno⟩, rfl⟩
 refine aSR (aU rfl (q_lss rfl rfl) (aNs ?_))
 refine awp_cond _ rfl (fun h1 => ?_) (fun h1 => ?_)
 ·skip
  have hk' : k < l.l.length := by simpa using h1
  obtain ⟨a, ha⟩ : ∃ a, l.l[k]? = some a := ⟨l.l[k]'hk', by simp⟩
  refine awp_skip (thn_n (awp_seq (awp_block (aSR (aM rfl (aA rfl (aNn (aSR (aM rfl (aM rfl (aM rfl ?_)))))))))))
  refine aL_E true rfl rfl (fun _ => q_indexAddrG Tryz.underlying55 tk197 rfl ((.of (psAt 0 rfl))) rfl (rows_get ha) rfl rfl) (fun h => absurd h (by decide)) (fun ⟨b4_3, o4_3⟩ => ?_)
  refine aU rfl (q_loadD (o := 0) tk197 rfl (psAt 0 rfl) rfl rfl) ?_
  refine aL_callN [1, 0] (false) hF true rfl rfl (fun _ => rfl) (fun hc => rfl) (fun hc => h a (List.mem_of_getElem? ha)) (fun c hc => ?_)
  refine aNn ?_
  refine awp_cond _ rfl (fun h2 => ?_) (fun h2 => ?_)
  ·skip
   refine aSR (aM rfl (aA rfl (aNn (awp_ret (blk_r (thn_r (thn_r (blk_r (thn_r ?_)))))))))
   refine fin1 [] [] rfl Tryz.results278 rfl ?_ (.inr rfl)
   exact ⟨⟨rfl, rfl⟩, _, rfl, fun _ => ⟨a, List.mem_of_getElem? ha, h2 ▸ hc rfl⟩, fun hz => (hz (Int.natCast_nonneg k)).elim⟩
  ·skip
   refine awp_skip (blk_n (thn_n (awp_region ?_)))
   refine aU rfl (q_addi rfl rfl (by omega)) ?_
   refine aM rfl (aNn ?_)
   refine ⟨[0, 1, 7, 8], [2, 1, 0], [], rfl, ?_⟩
   refine ⟨k + 1, ⟨⟨by omega, ?_⟩, rfl⟩, by omega⟩
   intro y hy
   rw [List.take_add_one, ha, List.mem_append] at hy
   rcases hy with hy | hy
   · exact hno y hy
   · simp at hy; subst hy; exact h2 ▸ hc rfl
 ·skip
  refine awp_exit (thn_e (thn_e (blk_hit (thn_n (aSR (aA rfl (aNn (awp_ret ?_))))))))
  refine fin1 [] [] rfl Tryz.results278 rfl ?_ (.inr rfl)
  refine ⟨⟨rfl, rfl⟩, _, rfl, fun hz => absurd hz (by decide), fun _ => ?_⟩
  rw [List.take_of_length_le (by simpa using h1)] at hno; exact hno
theorem con_cont_line (l : Sl GLine) (F : FuncId) (caps : List Value) (p q : Per) (Ψ : GLine → Bool → Prop) (hF : callOk Tryz.prog F = true) (h : ∀ a ∈ l.l, Con Tryz.prog F (a.val :: caps) [p, q] [] (YN Value.bool (Ψ a))) : Con Tryz.prog 235 [l.val, .func (.func F) #[] caps.toArray] [ShF GLine.row l, p, q] []
   (YN Value.bool (fun b => (b = true → ∃ a ∈ l.l, Ψ a true) ∧ (b = false → ∀ a ∈ l.l, Ψ a false))) := by
 refine Con.enter Tryz.func235 rfl (by simp [Tryz.ntmps235]) ?_
 show awp _ _ _ _ ⟨[(0, true, _), (1, true, _)], _, _⟩
 refine aSR (aA rfl (aNn (aSR (aM rfl (aM rfl ?_)))))
 refine aL_eff (q := true) rfl (e_call [2, 1, 0] [] (by kernel_rfl) rfl rfl rfl rfl (con_idxf_line l F caps p q Ψ hF h) ?_)
 rintro _ _ _ ⟨⟨rfl, rfl⟩, z, rfl, hz⟩
 refine aL_st (by (try simp only [nM, nN]); rfl) (by (try simp only [putB, place, Nat.reduceBEq, if_true, if_false, reduceIte, Nat.reduceAdd, nW]); rfl) ?_
 refine aU rfl (q_geq rfl rfl) (aA rfl (aNn (awp_ret ?_)))
 refine fin1 [] [] rfl Tryz.results235 rfl ?_ (.inr rfl)
 exact ⟨⟨rfl, rfl⟩, _, rfl, fun hb => hz.1 (by simpa using hb), fun hb => hz.2 (by simpa using hb)⟩
theorem con_every1_line (b : Nat) (F : FuncId) (caps : List Value) (p : Per) (a : GLine) (Φ : Prop) (hF : callOk Tryz.prog F = true) (h : Con Tryz.prog F (a.val :: caps) [p] [] (YB Φ)) : Con Tryz.prog 236 [a.val, .pointer (some ⟨b, 0, none⟩)] [At b 0 [.v (.func (.func F) #[] caps.toArray)], p] []
   (YN Value.bool (fun b => b = false → Φ)) := by
 refine Con.enter Tryz.func236 rfl (by simp [Tryz.ntmps236]) ?_
 show awp _ _ _ _ ⟨[(0, true, _), (1, true, _)], _, _⟩
 refine aSR ?_
 refine aL_eff (q := true) rfl (x_box rfl rfl rfl (fun b0_0 => ?_))
 refine aL_hp (by (try simp only [nM, nN]); rfl) ?_
 refine aA rfl (aNn (aSR (aU rfl (q_loadDE (o := 0) tk248 rfl (.of (psAt 0 rfl)) rfl) (aU rfl (q_load 0 tk197 rfl rfl rfl) ?_))))
 refine aL_callN [0] (false) hF true rfl rfl (fun _ => rfl) (fun hc => rfl) (fun hc => h) (fun c hc => ?_)
 refine aU rfl (q_not rfl) (aA rfl (aNn (awp_ret ?_)))
 refine fin1 [] [] rfl Tryz.results236 rfl ?_ (.inr rfl)
 exact ⟨⟨rfl, rfl⟩, _, rfl, fun hb => hc rfl (by simpa using hb)⟩
theorem con_every_line (l : Sl GLine) (F : FuncId) (caps : List Value) (p : Per) (Φ : GLine → Prop) (hF : callOk Tryz.prog F = true) (h : ∀ a ∈ l.l, Con Tryz.prog F (a.val :: caps) [p] [] (YB (Φ a))) : Con Tryz.prog 161 [l.val, .func (.func F) #[] caps.toArray] [ShF GLine.row l, p] []
   (YB (∀ a ∈ l.l, Φ a)) := by
 refine Con.enter Tryz.func161 rfl (by simp [Tryz.ntmps161]) ?_
 show awp _ _ _ _ ⟨[(0, true, _), (1, true, _)], _, _⟩
 refine aSR ?_
 refine aL_eff (q := true) rfl (x_box rfl rfl rfl (fun b0_0 => ?_))
 refine aL_hp (by (try simp only [nM, nN]); rfl) ?_
 refine aA rfl (aNs (awp_shareB 0 rfl rfl ?_))
 show awp _ _ _ _ ⟨_, At _ 0 _ :: _, _⟩
 refine awp_region (aM rfl (aU rfl (q_func (l := [.tmp 3]) rfl) ?_))
 refine aL_callN (caps := []) [1, 2, 0] (false) (by kernel_rfl) true rfl rfl (fun _ => rfl) (fun hc => rfl) (fun hc => by rw [List.append_nil]; exact con_cont_line l 236 [.pointer (some ⟨b0_0, 0, none⟩)] (At b0_0 0 [.v (.func (.func F) #[] caps.toArray)]) p (fun a b => b = false → Φ a) (by kernel_rfl) (fun a ha => con_every1_line b0_0 F caps p a (Φ a) hF (h a ha))) (fun c hc => ?_)
 refine aU rfl (q_not rfl) (aA rfl (aNn (awp_ret ?_)))
 refine fin1 [] [] rfl Tryz.results161 rfl ?_ (.inr rfl)
 exact ⟨⟨rfl, rfl⟩, _, rfl, fun hb a ha => (hc rfl).2 (by simpa using hb) a ha rfl⟩
theorem con_pairs_line (l : Sl GLine) (F : FuncId) (caps : List Value) (p : Per) (hF : callOk Tryz.prog F = true) (h : ∀ a ∈ l.l, ∀ b ∈ l.l, Con Tryz.prog F (a.val :: b.val :: caps) [p] [] (YB True)) : Con Tryz.prog 162 [l.val, .func (.func F) #[] caps.toArray] [ShF GLine.row l, p] [] (YB True) := by
 refine Con.enter Tryz.func162 rfl (by simp [Tryz.ntmps162]) ?_
 show awp _ _ _ _ ⟨[(0, true, _), (1, true, _)], _, _⟩
 refine awp_lenE (.of (psAt 0 rfl)) (fun hlen => ?_)
 refine aSR (aA rfl (aNs (aSR ?_)))
 refine aA rfl (aNn (awp_block (awp_loopK [0, 1, 5] [1, 0] [] (fun (k : Nat) s => k ≤ l.l.length ∧ s = ⟨[(0, true, l.val), (1, true, .func (.func F) #[] caps.toArray), (5, true, .int .i64 ((k + 1 : Nat) : Int))], [ShF GLine.row l, p], []⟩) (fun k => l.l.length - k) rfl (⟨0, Nat.zero_le _, rfl⟩) ?_)))
 rintro k s ⟨hk, rfl⟩
 refine awp_seq (aSR (aM rfl (aM rfl (aU rfl (q_lenS Tryz.underlying55 rfl) (aU rfl (q_lss rfl rfl) (aNn ?_))))))
 refine awp_cond _ rfl (fun h1 => ?_) (fun h1 => ?_)
 ·skip
  have hk' : k + 1 < l.l.length := by simp at h1; omega
  have ha := elt_nat (l := l.l) (i := k) (by omega)
  have hb := elt_nat (l := l.l) (i := k + 1) hk'
  refine awp_skip (thn_n (awp_seq (awp_block (awp_seq ?_))))
  refine awp_drawn [] (by kernel_rfl) ?_
  show aB _ _ _ _ _ 12 #[false, false, false, false, false, false, false, false, false, false, false, false] _
  refine bU 0 rfl (by kernel_rfl) rfl (q_move rfl) ?_
  refine bU 1 rfl (by kernel_rfl) rfl (q_move rfl) ?_
  refine bU 2 rfl (by kernel_rfl) rfl (q_move rfl) ?_
  refine bU 3 rfl (by kernel_rfl) rfl (q_subi rfl rfl (by omega)) ?_
  refine aB_E 4 rfl (by kernel_rfl) true rfl rfl (fun _ => q_indexAddrG Tryz.underlying55 tk197 rfl ((.of (psAt 0 rfl))) rfl (rows_get ha) (by omega) rfl) (fun h => absurd h (by decide)) (fun ⟨b4_4, o4_4⟩ => ?_)
  refine bU 5 rfl (by kernel_rfl) rfl (q_loadD (o := 0) tk197 rfl (psAt 0 rfl) rfl rfl) ?_
  refine bU 6 rfl (by kernel_rfl) rfl (q_move rfl) ?_
  refine bU 7 rfl (by kernel_rfl) rfl (q_move rfl) ?_
  refine aB_E 8 rfl (by kernel_rfl) true rfl rfl (fun _ => q_indexAddrG Tryz.underlying55 tk197 rfl ((.of (psAt 1 rfl))) rfl (rows_get hb) rfl rfl) (fun h => absurd h (by decide)) (fun ⟨b4_8, o4_8⟩ => ?_)
  refine bU 9 rfl (by kernel_rfl) rfl (q_loadD (o := 0) tk197 rfl (psAt 0 rfl) rfl rfl) ?_
  refine aB_callN 10 rfl (by kernel_rfl) [0] (false) hF true rfl rfl (fun _ => rfl) (fun hc => rfl) (fun hc => h _ (List.mem_of_getElem? ha) _ (List.mem_of_getElem? hb)) (fun c hc => ?_)
  refine bU 11 rfl (by kernel_rfl) rfl (q_not rfl) ?_
  refine aB_nil (by kernel_rfl) ?_
  refine thn_n ?_
  refine awp_cond _ rfl (fun h2 => ?_) (fun h2 => ?_)
  ·skip
   refine aSR (aA rfl (aNn (awp_ret (blk_r (thn_r (thn_r (blk_r (thn_r ?_))))))))
   refine fin1 [] [] rfl Tryz.results162 rfl ?_ (.inr rfl)
   exact ⟨⟨rfl, rfl⟩, _, rfl, fun _ => trivial⟩
  ·skip
   refine awp_skip (blk_n (thn_n (awp_region (aM rfl ?_))))
   refine aU rfl (q_addi rfl rfl (by omega)) ?_
   refine aA rfl (aNn ?_)
   refine ⟨[0, 1, 5], [1, 0], [], rfl, ?_⟩
   exact ⟨k + 1, ⟨by omega, rfl⟩, by omega⟩
 ·skip
  refine awp_exit (thn_e (thn_e (blk_hit (thn_n (aSR (aA rfl (aNn (awp_ret ?_))))))))
  refine fin1 [] [] rfl Tryz.results162 rfl ?_ (.inr rfl)
  exact ⟨⟨rfl, rfl⟩, _, rfl, fun _ => trivial⟩
theorem tk253 : tyk Tryz.prog 253 = some (false, 1) := by kernel_rfl
theorem con_idxf_inline (l : Sl GInline) (F : FuncId) (caps : List Value) (p q : Per) (Ψ : GInline → Bool → Prop) (hF : callOk Tryz.prog F = true) (h : ∀ a ∈ l.l, Con Tryz.prog F (a.val :: caps) [p, q] [] (YN Value.bool (Ψ a))) : Con Tryz.prog 279 [l.val, .func (.func F) #[] caps.toArray] [ShF GInline.row l, p, q] []
   (YN (fun z : Int => .int .i64 z) (fun z => (z ≥ 0 → ∃ a ∈ l.l, Ψ a true) ∧ (¬ z ≥ 0 → ∀ a ∈ l.l, Ψ a false))) := by
 refine Con.enter Tryz.func279 rfl (by simp [Tryz.ntmps279]) ?_
 show awp _ _ _ _ ⟨[(0, true, _), (1, true, _)], _, _⟩
 refine awp_lenE (.of (psAt 0 rfl)) (fun hlen => ?_)
 refine aSR (aA rfl (aNs (aSR (aM rfl (aU rfl (q_lenS Tryz.underlying56 rfl) (aM rfl (aNn (awp_block ?_))))))))
 refine awp_loopK [0, 1, 7, 8] [2, 1, 0] [] (fun (k : Nat) s => (k ≤ l.l.length ∧ ∀ a ∈ l.l.take k, Ψ a false) ∧ s = ⟨[(0, true, l.val), (1, true, .func (.func F) #[] caps.toArray), (7, true, .int .i64 l.l.length), (8, true, .int .i64 k)], [ShF GInline.row l, p, q], []⟩) (fun k => l.l.length - k) rfl (⟨0, ⟨Nat.zero_le _, fun a ha => by cases ha⟩, rfl⟩) ?_
 rintro k s ⟨⟨hk, hno⟩, rfl⟩
 refine aSR (aU rfl (q_lss rfl rfl) (aNs ?_))
 refine awp_cond _ rfl (fun h1 => ?_) (fun h1 => ?_)
 ·skip
  have hk' : k < l.l.length := by simpa using h1
  obtain ⟨a, ha⟩ : ∃ a, l.l[k]? = some a := ⟨l.l[k]'hk', by simp⟩
  refine awp_skip (thn_n (awp_seq (awp_block (aSR (aM rfl (aA rfl (aNn (aSR (aM rfl (aM rfl (aM rfl ?_)))))))))))
  refine aL_E true rfl rfl (fun _ => q_indexAddrG Tryz.underlying56 tk200 rfl ((.of (psAt 0 rfl))) rfl (rows_get ha) rfl rfl) (fun h => absurd h (by decide)) (fun ⟨b4_3, o4_3⟩ => ?_)
  refine aU rfl (q_loadD (o := 0) tk200 rfl (psAt 0 rfl) rfl rfl) ?_
  refine aL_callN [1, 0] (false) hF true rfl rfl (fun _ => rfl) (fun hc => rfl) (fun hc => h a (List.mem_of_getElem? ha)) (fun c hc => ?_)
  refine aNn ?_
  refine awp_cond _ rfl (fun h2 => ?_) (fun h2 => ?_)
  ·skip
   refine aSR (aM rfl (aA rfl (aNn (awp_ret (blk_r (thn_r (thn_r (blk_r (thn_r ?_)))))))))
   refine fin1 [] [] rfl Tryz.results279 rfl ?_ (.inr rfl)
   exact ⟨⟨rfl, rfl⟩, _, rfl, fun _ => ⟨a, List.mem_of_getElem? ha, h2 ▸ hc rfl⟩, fun hz => (hz (Int.natCast_nonneg k)).elim⟩
  ·skip
   refine awp_skip (blk_n (thn_n (awp_region ?_)))
   refine aU rfl (q_addi rfl rfl (by omega)) ?_
   refine aM rfl (aNn ?_)
   refine ⟨[0, 1, 7, 8], [2, 1, 0], [], rfl, ?_⟩
   refine ⟨k + 1, ⟨⟨by omega, ?_⟩, rfl⟩, by omega⟩
   intro y hy
   rw [List.take_add_one, ha, List.mem_append] at hy
   rcases hy with hy | hy
   · exact hno y hy
   · simp at hy; subst hy; exact h2 ▸ hc rfl
 ·skip
  refine awp_exit (thn_e (thn_e (blk_hit (thn_n (aSR (aA rfl (aNn (awp_ret ?_))))))))
  refine fin1 [] [] rfl Tryz.results279 rfl ?_ (.inr rfl)
  refine ⟨⟨rfl, rfl⟩, _, rfl, fun hz => absurd hz (by decide), fun _ => ?_⟩
  rw [List.take_of_length_le (by simpa using h1)] at hno; exact hno
theorem con_cont_inline (l : Sl GInline) (F : FuncId) (caps : List Value) (p q : Per) (Ψ : GInline → Bool → Prop) (hF : callOk Tryz.prog F = true) (h : ∀ a ∈ l.l, Con Tryz.prog F (a.val :: caps) [p, q] [] (YN Value.bool (Ψ a))) : Con Tryz.prog 237 [l.val, .func (.func F) #[] caps.toArray] [ShF GInline.row l, p, q] []
   (YN Value.bool (fun b => (b = true → ∃ a ∈ l.l, Ψ a true) ∧ (b = false → ∀ a ∈ l.l, Ψ a false))) := by
 refine Con.enter Tryz.func237 rfl (by simp [Tryz.ntmps237]) ?_
 show awp _ _ _ _ ⟨[(0, true, _), (1, true, _)], _, _⟩
 refine aSR (aA rfl (aNn (aSR (aM rfl (aM rfl ?_)))))
 refine aL_eff (q := true) rfl (e_call [2, 1, 0] [] (by kernel_rfl) rfl rfl rfl rfl (con_idxf_inline l F caps p q Ψ hF h) ?_)
 rintro _ _ _ ⟨⟨rfl, rfl⟩, z, rfl, hz⟩
 refine aL_st (by (try simp only [nM, nN]); rfl) (by (try simp only [putB, place, Nat.reduceBEq, if_true, if_false, reduceIte, Nat.reduceAdd, nW]); rfl) ?_
 refine aU rfl (q_geq rfl rfl) (aA rfl (aNn (awp_ret ?_)))
 refine fin1 [] [] rfl Tryz.results237 rfl ?_ (.inr rfl)
 exact ⟨⟨rfl, rfl⟩, _, rfl, fun hb => hz.1 (by simpa using hb), fun hb => hz.2 (by simpa using hb)⟩
theorem con_every1_inline (b : Nat) (F : FuncId) (caps : List Value) (p : Per) (a : GInline) (Φ : Prop) (hF : callOk Tryz.prog F = true) (h : Con Tryz.prog F (a.val :: caps) [p] [] (YB Φ)) : Con Tryz.prog 238 [a.val, .pointer (some ⟨b, 0, none⟩)] [At b 0 [.v (.func (.func F) #[] caps.toArray)], p] []
   (YN Value.bool (fun b => b = false → Φ)) := by
 refine Con.enter Tryz.func238 rfl (by simp [Tryz.ntmps238]) ?_
 show awp _ _ _ _ ⟨[(0, true, _), (1, true, _)], _, _⟩
 refine aSR ?_
 refine aL_eff (q := true) rfl (x_box rfl rfl rfl (fun b0_0 => ?_))
 refine aL_hp (by (try simp only [nM, nN]); rfl) ?_
 refine aA rfl (aNn (aSR (aU rfl (q_loadDE (o := 0) tk253 rfl (.of (psAt 0 rfl)) rfl) (aU rfl (q_load 0 tk200 rfl rfl rfl) ?_))))
 refine aL_callN [0] (false) hF true rfl rfl (fun _ => rfl) (fun hc => rfl) (fun hc => h) (fun c hc => ?_)
 refine aU rfl (q_not rfl) (aA rfl (aNn (awp_ret ?_)))
 refine fin1 [] [] rfl Tryz.results238 rfl ?_ (.inr rfl)
 exact ⟨⟨rfl, rfl⟩, _, rfl, fun hb => hc rfl (by simpa using hb)⟩
theorem con_every_inline (l : Sl GInline) (F : FuncId) (caps : List Value) (p : Per) (Φ : GInline → Prop) (hF : callOk Tryz.prog F = true) (h : ∀ a ∈ l.l, Con Tryz.prog F (a.val :: caps) [p] [] (YB (Φ a))) : Con Tryz.prog 163 [l.val, .func (.func F) #[] caps.toArray] [ShF GInline.row l, p] []
   (YB (∀ a ∈ l.l, Φ a)) := by
 refine Con.enter Tryz.func163 rfl (by simp [Tryz.ntmps163]) ?_
 show awp _ _ _ _ ⟨[(0, true, _), (1, true, _)], _, _⟩
 refine aSR ?_
 refine aL_eff (q := true) rfl (x_box rfl rfl rfl (fun b0_0 => ?_))
 refine aL_hp (by (try simp only [nM, nN]); rfl) ?_
 refine aA rfl (aNs (awp_shareB 0 rfl rfl ?_))
 show awp _ _ _ _ ⟨_, At _ 0 _ :: _, _⟩
 refine awp_region (aM rfl (aU rfl (q_func (l := [.tmp 3]) rfl) ?_))
 refine aL_callN (caps := []) [1, 2, 0] (false) (by kernel_rfl) true rfl rfl (fun _ => rfl) (fun hc => rfl) (fun hc => by rw [List.append_nil]; exact con_cont_inline l 238 [.pointer (some ⟨b0_0, 0, none⟩)] (At b0_0 0 [.v (.func (.func F) #[] caps.toArray)]) p (fun a b => b = false → Φ a) (by kernel_rfl) (fun a ha => con_every1_inline b0_0 F caps p a (Φ a) hF (h a ha))) (fun c hc => ?_)
 refine aU rfl (q_not rfl) (aA rfl (aNn (awp_ret ?_)))
 refine fin1 [] [] rfl Tryz.results163 rfl ?_ (.inr rfl)
 exact ⟨⟨rfl, rfl⟩, _, rfl, fun hb a ha => (hc rfl).2 (by simpa using hb) a ha rfl⟩
theorem tk255 : tyk Tryz.prog 255 = some (false, 1) := by kernel_rfl
theorem con_idxf_var (l : Sl GVar) (F : FuncId) (caps : List Value) (p q : Per) (Ψ : GVar → Bool → Prop) (hF : callOk Tryz.prog F = true) (h : ∀ a ∈ l.l, Con Tryz.prog F (a.val :: caps) [p, q] [] (YN Value.bool (Ψ a))) : Con Tryz.prog 280 [l.val, .func (.func F) #[] caps.toArray] [ShF GVar.row l, p, q] []
   (YN (fun z : Int => .int .i64 z) (fun z => (z ≥ 0 → ∃ a ∈ l.l, Ψ a true) ∧ (¬ z ≥ 0 → ∀ a ∈ l.l, Ψ a false))) := by
 refine Con.enter Tryz.func280 rfl (by simp [Tryz.ntmps280]) ?_
 show awp _ _ _ _ ⟨[(0, true, _), (1, true, _)], _, _⟩
 refine awp_lenE (.of (psAt 0 rfl)) (fun hlen => ?_)
 refine aSR (aA rfl (aNs (aSR (aM rfl (aU rfl (q_lenS Tryz.underlying57 rfl) (aM rfl (aNn (awp_block ?_))))))))
 refine awp_loopK [0, 1, 7, 8] [2, 1, 0] [] (fun (k : Nat) s => (k ≤ l.l.length ∧ ∀ a ∈ l.l.take k, Ψ a false) ∧ s = ⟨[(0, true, l.val), (1, true, .func (.func F) #[] caps.toArray), (7, true, .int .i64 l.l.length), (8, true, .int .i64 k)], [ShF GVar.row l, p, q], []⟩) (fun k => l.l.length - k) rfl (⟨0, ⟨Nat.zero_le _, fun a ha => by cases ha⟩, rfl⟩) ?_
 rintro k s ⟨⟨hk, hno⟩, rfl⟩
 refine aSR (aU rfl (q_lss rfl rfl) (aNs ?_))
 refine awp_cond _ rfl (fun h1 => ?_) (fun h1 => ?_)
 ·skip
  have hk' : k < l.l.length := by simpa using h1
  obtain ⟨a, ha⟩ : ∃ a, l.l[k]? = some a := ⟨l.l[k]'hk', by simp⟩
  refine awp_skip (thn_n (awp_seq (awp_block (aSR (aM rfl (aA rfl (aNn (aSR (aM rfl (aM rfl (aM rfl ?_)))))))))))
  refine aL_E true rfl rfl (fun _ => q_indexAddrG Tryz.underlying57 tk204 rfl ((.of (psAt 0 rfl))) rfl (rows_get ha) rfl rfl) (fun h => absurd h (by decide)) (fun ⟨b4_3, o4_3⟩ => ?_)
  refine aU rfl (q_loadD (o := 0) tk204 rfl (psAt 0 rfl) rfl rfl) ?_
  refine aL_callN [1, 0] (false) hF true rfl rfl (fun _ => rfl) (fun hc => rfl) (fun hc => h a (List.mem_of_getElem? ha)) (fun c hc => ?_)
  refine aNn ?_
  refine awp_cond _ rfl (fun h2 => ?_) (fun h2 => ?_)
  ·skip
   refine aSR (aM rfl (aA rfl (aNn (awp_ret (blk_r (thn_r (thn_r (blk_r (thn_r ?_)))))))))
   refine fin1 [] [] rfl Tryz.results280 rfl ?_ (.inr rfl)
   exact ⟨⟨rfl, rfl⟩, _, rfl, fun _ => ⟨a, List.mem_of_getElem? ha, h2 ▸ hc rfl⟩, fun hz => (hz (Int.natCast_nonneg k)).elim⟩
  ·skip
   refine awp_skip (blk_n (thn_n (awp_region ?_)))
   refine aU rfl (q_addi rfl rfl (by omega)) ?_
   refine aM rfl (aNn ?_)
   refine ⟨[0, 1, 7, 8], [2, 1, 0], [], rfl, ?_⟩
   refine ⟨k + 1, ⟨⟨by omega, ?_⟩, rfl⟩, by omega⟩
   intro y hy
   rw [List.take_add_one, ha, List.mem_append] at hy
   rcases hy with hy | hy
   · exact hno y hy
   · simp at hy; subst hy; exact h2 ▸ hc rfl
 ·skip
  refine awp_exit (thn_e (thn_e (blk_hit (thn_n (aSR (aA rfl (aNn (awp_ret ?_))))))))
  refine fin1 [] [] rfl Tryz.results280 rfl ?_ (.inr rfl)
  refine ⟨⟨rfl, rfl⟩, _, rfl, fun hz => absurd hz (by decide), fun _ => ?_⟩
  rw [List.take_of_length_le (by simpa using h1)] at hno; exact hno
theorem con_cont_var (l : Sl GVar) (F : FuncId) (caps : List Value) (p q : Per) (Ψ : GVar → Bool → Prop) (hF : callOk Tryz.prog F = true) (h : ∀ a ∈ l.l, Con Tryz.prog F (a.val :: caps) [p, q] [] (YN Value.bool (Ψ a))) : Con Tryz.prog 240 [l.val, .func (.func F) #[] caps.toArray] [ShF GVar.row l, p, q] []
   (YN Value.bool (fun b => (b = true → ∃ a ∈ l.l, Ψ a true) ∧ (b = false → ∀ a ∈ l.l, Ψ a false))) := by
 refine Con.enter Tryz.func240 rfl (by simp [Tryz.ntmps240]) ?_
 show awp _ _ _ _ ⟨[(0, true, _), (1, true, _)], _, _⟩
 refine aSR (aA rfl (aNn (aSR (aM rfl (aM rfl ?_)))))
 refine aL_eff (q := true) rfl (e_call [2, 1, 0] [] (by kernel_rfl) rfl rfl rfl rfl (con_idxf_var l F caps p q Ψ hF h) ?_)
 rintro _ _ _ ⟨⟨rfl, rfl⟩, z, rfl, hz⟩
 refine aL_st (by (try simp only [nM, nN]); rfl) (by (try simp only [putB, place, Nat.reduceBEq, if_true, if_false, reduceIte, Nat.reduceAdd, nW]); rfl) ?_
 refine aU rfl (q_geq rfl rfl) (aA rfl (aNn (awp_ret ?_)))
 refine fin1 [] [] rfl Tryz.results240 rfl ?_ (.inr rfl)
 exact ⟨⟨rfl, rfl⟩, _, rfl, fun hb => hz.1 (by simpa using hb), fun hb => hz.2 (by simpa using hb)⟩
theorem con_every1_var (b : Nat) (F : FuncId) (caps : List Value) (p : Per) (a : GVar) (Φ : Prop) (hF : callOk Tryz.prog F = true) (h : Con Tryz.prog F (a.val :: caps) [p] [] (YB Φ)) : Con Tryz.prog 241 [a.val, .pointer (some ⟨b, 0, none⟩)] [At b 0 [.v (.func (.func F) #[] caps.toArray)], p] []
   (YN Value.bool (fun b => b = false → Φ)) := by
 refine Con.enter Tryz.func241 rfl (by simp [Tryz.ntmps241]) ?_
 show awp _ _ _ _ ⟨[(0, true, _), (1, true, _)], _, _⟩
 refine aSR ?_
 refine aL_eff (q := true) rfl (x_box rfl rfl rfl (fun b0_0 => ?_))
 refine aL_hp (by (try simp only [nM, nN]); rfl) ?_
 refine aA rfl (aNn (aSR (aU rfl (q_loadDE (o := 0) tk255 rfl (.of (psAt 0 rfl)) rfl) (aU rfl (q_load 0 tk204 rfl rfl rfl) ?_))))
 refine aL_callN [0] (false) hF true rfl rfl (fun _ => rfl) (fun hc => rfl) (fun hc => h) (fun c hc => ?_)
 refine aU rfl (q_not rfl) (aA rfl (aNn (awp_ret ?_)))
 refine fin1 [] [] rfl Tryz.results241 rfl ?_ (.inr rfl)
 exact ⟨⟨rfl, rfl⟩, _, rfl, fun hb => hc rfl (by simpa using hb)⟩
theorem con_every_var (l : Sl GVar) (F : FuncId) (caps : List Value) (p : Per) (Φ : GVar → Prop) (hF : callOk Tryz.prog F = true) (h : ∀ a ∈ l.l, Con Tryz.prog F (a.val :: caps) [p] [] (YB (Φ a))) : Con Tryz.prog 169 [l.val, .func (.func F) #[] caps.toArray] [ShF GVar.row l, p] []
   (YB (∀ a ∈ l.l, Φ a)) := by
 refine Con.enter Tryz.func169 rfl (by simp [Tryz.ntmps169]) ?_
 show awp _ _ _ _ ⟨[(0, true, _), (1, true, _)], _, _⟩
 refine aSR ?_
 refine aL_eff (q := true) rfl (x_box rfl rfl rfl (fun b0_0 => ?_))
 refine aL_hp (by (try simp only [nM, nN]); rfl) ?_
 refine aA rfl (aNs (awp_shareB 0 rfl rfl ?_))
 show awp _ _ _ _ ⟨_, At _ 0 _ :: _, _⟩
 refine awp_region (aM rfl (aU rfl (q_func (l := [.tmp 3]) rfl) ?_))
 refine aL_callN (caps := []) [1, 2, 0] (false) (by kernel_rfl) true rfl rfl (fun _ => rfl) (fun hc => rfl) (fun hc => by rw [List.append_nil]; exact con_cont_var l 241 [.pointer (some ⟨b0_0, 0, none⟩)] (At b0_0 0 [.v (.func (.func F) #[] caps.toArray)]) p (fun a b => b = false → Φ a) (by kernel_rfl) (fun a ha => con_every1_var b0_0 F caps p a (Φ a) hF (h a ha))) (fun c hc => ?_)
 refine aU rfl (q_not rfl) (aA rfl (aNn (awp_ret ?_)))
 refine fin1 [] [] rfl Tryz.results169 rfl ?_ (.inr rfl)
 exact ⟨⟨rfl, rfl⟩, _, rfl, fun hb a ha => (hc rfl).2 (by simpa using hb) a ha rfl⟩
theorem con_pairs_var (l : Sl GVar) (F : FuncId) (caps : List Value) (p : Per) (hF : callOk Tryz.prog F = true) (h : ∀ a ∈ l.l, ∀ b ∈ l.l, Con Tryz.prog F (a.val :: b.val :: caps) [p] [] (YB True)) : Con Tryz.prog 170 [l.val, .func (.func F) #[] caps.toArray] [ShF GVar.row l, p] [] (YB True) := by
 refine Con.enter Tryz.func170 rfl (by simp [Tryz.ntmps170]) ?_
 show awp _ _ _ _ ⟨[(0, true, _), (1, true, _)], _, _⟩
 refine awp_lenE (.of (psAt 0 rfl)) (fun hlen => ?_)
 refine aSR (aA rfl (aNs (aSR ?_)))
 refine aA rfl (aNn (awp_block (awp_loopK [0, 1, 5] [1, 0] [] (fun (k : Nat) s => k ≤ l.l.length ∧ s = ⟨[(0, true, l.val), (1, true, .func (.func F) #[] caps.toArray), (5, true, .int .i64 ((k + 1 : Nat) : Int))], [ShF GVar.row l, p], []⟩) (fun k => l.l.length - k) rfl (⟨0, Nat.zero_le _, rfl⟩) ?_)))
 rintro k s ⟨hk, rfl⟩
 refine awp_seq (aSR (aM rfl (aM rfl (aU rfl (q_lenS Tryz.underlying57 rfl) (aU rfl (q_lss rfl rfl) (aNn ?_))))))
 refine awp_cond _ rfl (fun h1 => ?_) (fun h1 => ?_)
 ·skip
  have hk' : k + 1 < l.l.length := by simp at h1; omega
  have ha := elt_nat (l := l.l) (i := k) (by omega)
  have hb := elt_nat (l := l.l) (i := k + 1) hk'
  refine awp_skip (thn_n (awp_seq (awp_block (awp_seq ?_))))
  refine awp_drawn [] (by kernel_rfl) ?_
  show aB _ _ _ _ _ 12 #[false, false, false, false, false, false, false, false, false, false, false, false] _
  refine bU 0 rfl (by kernel_rfl) rfl (q_move rfl) ?_
  refine bU 1 rfl (by kernel_rfl) rfl (q_move rfl) ?_
  refine bU 2 rfl (by kernel_rfl) rfl (q_move rfl) ?_
  refine bU 3 rfl (by kernel_rfl) rfl (q_subi rfl rfl (by omega)) ?_
  refine aB_E 4 rfl (by kernel_rfl) true rfl rfl (fun _ => q_indexAddrG Tryz.underlying57 tk204 rfl ((.of (psAt 0 rfl))) rfl (rows_get ha) (by omega) rfl) (fun h => absurd h (by decide)) (fun ⟨b4_4, o4_4⟩ => ?_)
  refine bU 5 rfl (by kernel_rfl) rfl (q_loadD (o := 0) tk204 rfl (psAt 0 rfl) rfl rfl) ?_
  refine bU 6 rfl (by kernel_rfl) rfl (q_move rfl) ?_
  refine bU 7 rfl (by kernel_rfl) rfl (q_move rfl) ?_
  refine aB_E 8 rfl (by kernel_rfl) true rfl rfl (fun _ => q_indexAddrG Tryz.underlying57 tk204 rfl ((.of (psAt 1 rfl))) rfl (rows_get hb) rfl rfl) (fun h => absurd h (by decide)) (fun ⟨b4_8, o4_8⟩ => ?_)
  refine bU 9 rfl (by kernel_rfl) rfl (q_loadD (o := 0) tk204 rfl (psAt 0 rfl) rfl rfl) ?_
  refine aB_callN 10 rfl (by kernel_rfl) [0] (false) hF true rfl rfl (fun _ => rfl) (fun hc => rfl) (fun hc => h _ (List.mem_of_getElem? ha) _ (List.mem_of_getElem? hb)) (fun c hc => ?_)
  refine bU 11 rfl (by kernel_rfl) rfl (q_not rfl) ?_
  refine aB_nil (by kernel_rfl) ?_
  refine thn_n ?_
  refine awp_cond _ rfl (fun h2 => ?_) (fun h2 => ?_)
  ·skip
   refine aSR (aA rfl (aNn (awp_ret (blk_r (thn_r (thn_r (blk_r (thn_r ?_))))))))
   refine fin1 [] [] rfl Tryz.results170 rfl ?_ (.inr rfl)
   exact ⟨⟨rfl, rfl⟩, _, rfl, fun _ => trivial⟩
  ·skip
   refine awp_skip (blk_n (thn_n (awp_region (aM rfl ?_))))
   refine aU rfl (q_addi rfl rfl (by omega)) ?_
   refine aA rfl (aNn ?_)
   refine ⟨[0, 1, 5], [1, 0], [], rfl, ?_⟩
   exact ⟨k + 1, ⟨by omega, rfl⟩, by omega⟩
 ·skip
  refine awp_exit (thn_e (thn_e (blk_hit (thn_n (aSR (aA rfl (aNn (awp_ret ?_))))))))
  refine fin1 [] [] rfl Tryz.results170 rfl ?_ (.inr rfl)
  exact ⟨⟨rfl, rfl⟩, _, rfl, fun _ => trivial⟩
theorem tk258 : tyk Tryz.prog 258 = some (false, 1) := by kernel_rfl
theorem con_idxf_depth (l : Sl GDepth) (F : FuncId) (caps : List Value) (p q : Per) (Ψ : GDepth → Bool → Prop) (hF : callOk Tryz.prog F = true) (h : ∀ a ∈ l.l, Con Tryz.prog F (a.val :: caps) [p, q] [] (YN Value.bool (Ψ a))) : Con Tryz.prog 281 [l.val, .func (.func F) #[] caps.toArray] [ShF GDepth.row l, p, q] []
   (YN (fun z : Int => .int .i64 z) (fun z => (z ≥ 0 → ∃ a ∈ l.l, Ψ a true) ∧ (¬ z ≥ 0 → ∀ a ∈ l.l, Ψ a false))) := by
 refine Con.enter Tryz.func281 rfl (by simp [Tryz.ntmps281]) ?_
 show awp _ _ _ _ ⟨[(0, true, _), (1, true, _)], _, _⟩
 refine awp_lenE (.of (psAt 0 rfl)) (fun hlen => ?_)
 refine aSR (aA rfl (aNs (aSR (aM rfl (aU rfl (q_lenS Tryz.underlying58 rfl) (aM rfl (aNn (awp_block ?_))))))))
 refine awp_loopK [0, 1, 7, 8] [2, 1, 0] [] (fun (k : Nat) s => (k ≤ l.l.length ∧ ∀ a ∈ l.l.take k, Ψ a false) ∧ s = ⟨[(0, true, l.val), (1, true, .func (.func F) #[] caps.toArray), (7, true, .int .i64 l.l.length), (8, true, .int .i64 k)], [ShF GDepth.row l, p, q], []⟩) (fun k => l.l.length - k) rfl (⟨0, ⟨Nat.zero_le _, fun a ha => by cases ha⟩, rfl⟩) ?_
 rintro k s ⟨⟨hk, hno⟩, rfl⟩
 refine aSR (aU rfl (q_lss rfl rfl) (aNs ?_))
 refine awp_cond _ rfl (fun h1 => ?_) (fun h1 => ?_)
 ·skip
  have hk' : k < l.l.length := by simpa using h1
  obtain ⟨a, ha⟩ : ∃ a, l.l[k]? = some a := ⟨l.l[k]'hk', by simp⟩
  refine awp_skip (thn_n (awp_seq (awp_block (aSR (aM rfl (aA rfl (aNn (aSR (aM rfl (aM rfl (aM rfl ?_)))))))))))
  refine aL_E true rfl rfl (fun _ => q_indexAddrG Tryz.underlying58 tk207 rfl ((.of (psAt 0 rfl))) rfl (rows_get ha) rfl rfl) (fun h => absurd h (by decide)) (fun ⟨b4_3, o4_3⟩ => ?_)
  refine aU rfl (q_loadD (o := 0) tk207 rfl (psAt 0 rfl) rfl rfl) ?_
  refine aL_callN [1, 0] (false) hF true rfl rfl (fun _ => rfl) (fun hc => rfl) (fun hc => h a (List.mem_of_getElem? ha)) (fun c hc => ?_)
  refine aNn ?_
  refine awp_cond _ rfl (fun h2 => ?_) (fun h2 => ?_)
  ·skip
   refine aSR (aM rfl (aA rfl (aNn (awp_ret (blk_r (thn_r (thn_r (blk_r (thn_r ?_)))))))))
   refine fin1 [] [] rfl Tryz.results281 rfl ?_ (.inr rfl)
   exact ⟨⟨rfl, rfl⟩, _, rfl, fun _ => ⟨a, List.mem_of_getElem? ha, h2 ▸ hc rfl⟩, fun hz => (hz (Int.natCast_nonneg k)).elim⟩
  ·skip
   refine awp_skip (blk_n (thn_n (awp_region ?_)))
   refine aU rfl (q_addi rfl rfl (by omega)) ?_
   refine aM rfl (aNn ?_)
   refine ⟨[0, 1, 7, 8], [2, 1, 0], [], rfl, ?_⟩
   refine ⟨k + 1, ⟨⟨by omega, ?_⟩, rfl⟩, by omega⟩
   intro y hy
   rw [List.take_add_one, ha, List.mem_append] at hy
   rcases hy with hy | hy
   · exact hno y hy
   · simp at hy; subst hy; exact h2 ▸ hc rfl
 ·skip
  refine awp_exit (thn_e (thn_e (blk_hit (thn_n (aSR (aA rfl (aNn (awp_ret ?_))))))))
  refine fin1 [] [] rfl Tryz.results281 rfl ?_ (.inr rfl)
  refine ⟨⟨rfl, rfl⟩, _, rfl, fun hz => absurd hz (by decide), fun _ => ?_⟩
  rw [List.take_of_length_le (by simpa using h1)] at hno; exact hno
theorem con_cont_depth (l : Sl GDepth) (F : FuncId) (caps : List Value) (p q : Per) (Ψ : GDepth → Bool → Prop) (hF : callOk Tryz.prog F = true) (h : ∀ a ∈ l.l, Con Tryz.prog F (a.val :: caps) [p, q] [] (YN Value.bool (Ψ a))) : Con Tryz.prog 242 [l.val, .func (.func F) #[] caps.toArray] [ShF GDepth.row l, p, q] []
   (YN Value.bool (fun b => (b = true → ∃ a ∈ l.l, Ψ a true) ∧ (b = false → ∀ a ∈ l.l, Ψ a false))) := by
 refine Con.enter Tryz.func242 rfl (by simp [Tryz.ntmps242]) ?_
 show awp _ _ _ _ ⟨[(0, true, _), (1, true, _)], _, _⟩
 refine aSR (aA rfl (aNn (aSR (aM rfl (aM rfl ?_)))))
 refine aL_eff (q := true) rfl (e_call [2, 1, 0] [] (by kernel_rfl) rfl rfl rfl rfl (con_idxf_depth l F caps p q Ψ hF h) ?_)
 rintro _ _ _ ⟨⟨rfl, rfl⟩, z, rfl, hz⟩
 refine aL_st (by (try simp only [nM, nN]); rfl) (by (try simp only [putB, place, Nat.reduceBEq, if_true, if_false, reduceIte, Nat.reduceAdd, nW]); rfl) ?_
 refine aU rfl (q_geq rfl rfl) (aA rfl (aNn (awp_ret ?_)))
 refine fin1 [] [] rfl Tryz.results242 rfl ?_ (.inr rfl)
 exact ⟨⟨rfl, rfl⟩, _, rfl, fun hb => hz.1 (by simpa using hb), fun hb => hz.2 (by simpa using hb)⟩
theorem con_every1_depth (b : Nat) (F : FuncId) (caps : List Value) (p : Per) (a : GDepth) (Φ : Prop) (hF : callOk Tryz.prog F = true) (h : Con Tryz.prog F (a.val :: caps) [p] [] (YB Φ)) : Con Tryz.prog 243 [a.val, .pointer (some ⟨b, 0, none⟩)] [At b 0 [.v (.func (.func F) #[] caps.toArray)], p] []
   (YN Value.bool (fun b => b = false → Φ)) := by
 refine Con.enter Tryz.func243 rfl (by simp [Tryz.ntmps243]) ?_
 show awp _ _ _ _ ⟨[(0, true, _), (1, true, _)], _, _⟩
 refine aSR ?_
 refine aL_eff (q := true) rfl (x_box rfl rfl rfl (fun b0_0 => ?_))
 refine aL_hp (by (try simp only [nM, nN]); rfl) ?_
 refine aA rfl (aNn (aSR (aU rfl (q_loadDE (o := 0) tk258 rfl (.of (psAt 0 rfl)) rfl) (aU rfl (q_load 0 tk207 rfl rfl rfl) ?_))))
 refine aL_callN [0] (false) hF true rfl rfl (fun _ => rfl) (fun hc => rfl) (fun hc => h) (fun c hc => ?_)
 refine aU rfl (q_not rfl) (aA rfl (aNn (awp_ret ?_)))
 refine fin1 [] [] rfl Tryz.results243 rfl ?_ (.inr rfl)
 exact ⟨⟨rfl, rfl⟩, _, rfl, fun hb => hc rfl (by simpa using hb)⟩
theorem con_every_depth (l : Sl GDepth) (F : FuncId) (caps : List Value) (p : Per) (Φ : GDepth → Prop) (hF : callOk Tryz.prog F = true) (h : ∀ a ∈ l.l, Con Tryz.prog F (a.val :: caps) [p] [] (YB (Φ a))) : Con Tryz.prog 173 [l.val, .func (.func F) #[] caps.toArray] [ShF GDepth.row l, p] []
   (YB (∀ a ∈ l.l, Φ a)) := by
 refine Con.enter Tryz.func173 rfl (by simp [Tryz.ntmps173]) ?_
 show awp _ _ _ _ ⟨[(0, true, _), (1, true, _)], _, _⟩
 refine aSR ?_
 refine aL_eff (q := true) rfl (x_box rfl rfl rfl (fun b0_0 => ?_))
 refine aL_hp (by (try simp only [nM, nN]); rfl) ?_
 refine aA rfl (aNs (awp_shareB 0 rfl rfl ?_))
 show awp _ _ _ _ ⟨_, At _ 0 _ :: _, _⟩
 refine awp_region (aM rfl (aU rfl (q_func (l := [.tmp 3]) rfl) ?_))
 refine aL_callN (caps := []) [1, 2, 0] (false) (by kernel_rfl) true rfl rfl (fun _ => rfl) (fun hc => rfl) (fun hc => by rw [List.append_nil]; exact con_cont_depth l 243 [.pointer (some ⟨b0_0, 0, none⟩)] (At b0_0 0 [.v (.func (.func F) #[] caps.toArray)]) p (fun a b => b = false → Φ a) (by kernel_rfl) (fun a ha => con_every1_depth b0_0 F caps p a (Φ a) hF (h a ha))) (fun c hc => ?_)
 refine aU rfl (q_not rfl) (aA rfl (aNn (awp_ret ?_)))
 refine fin1 [] [] rfl Tryz.results173 rfl ?_ (.inr rfl)
 exact ⟨⟨rfl, rfl⟩, _, rfl, fun hb a ha => (hc rfl).2 (by simpa using hb) a ha rfl⟩
theorem con_pairs_depth (l : Sl GDepth) (F : FuncId) (caps : List Value) (p : Per) (hF : callOk Tryz.prog F = true) (h : ∀ a ∈ l.l, ∀ b ∈ l.l, Con Tryz.prog F (a.val :: b.val :: caps) [p] [] (YB True)) : Con Tryz.prog 174 [l.val, .func (.func F) #[] caps.toArray] [ShF GDepth.row l, p] [] (YB True) := by
 refine Con.enter Tryz.func174 rfl (by simp [Tryz.ntmps174]) ?_
 show awp _ _ _ _ ⟨[(0, true, _), (1, true, _)], _, _⟩
 refine awp_lenE (.of (psAt 0 rfl)) (fun hlen => ?_)
 refine aSR (aA rfl (aNs (aSR ?_)))
 refine aA rfl (aNn (awp_block (awp_loopK [0, 1, 5] [1, 0] [] (fun (k : Nat) s => k ≤ l.l.length ∧ s = ⟨[(0, true, l.val), (1, true, .func (.func F) #[] caps.toArray), (5, true, .int .i64 ((k + 1 : Nat) : Int))], [ShF GDepth.row l, p], []⟩) (fun k => l.l.length - k) rfl (⟨0, Nat.zero_le _, rfl⟩) ?_)))
 rintro k s ⟨hk, rfl⟩
 refine awp_seq (aSR (aM rfl (aM rfl (aU rfl (q_lenS Tryz.underlying58 rfl) (aU rfl (q_lss rfl rfl) (aNn ?_))))))
 refine awp_cond _ rfl (fun h1 => ?_) (fun h1 => ?_)
 ·skip
  have hk' : k + 1 < l.l.length := by simp at h1; omega
  have ha := elt_nat (l := l.l) (i := k) (by omega)
  have hb := elt_nat (l := l.l) (i := k + 1) hk'
  refine awp_skip (thn_n (awp_seq (awp_block (awp_seq ?_))))
  refine awp_drawn [] (by kernel_rfl) ?_
  show aB _ _ _ _ _ 12 #[false, false, false, false, false, false, false, false, false, false, false, false] _
  refine bU 0 rfl (by kernel_rfl) rfl (q_move rfl) ?_
  refine bU 1 rfl (by kernel_rfl) rfl (q_move rfl) ?_
  refine bU 2 rfl (by kernel_rfl) rfl (q_move rfl) ?_
  refine bU 3 rfl (by kernel_rfl) rfl (q_subi rfl rfl (by omega)) ?_
  refine aB_E 4 rfl (by kernel_rfl) true rfl rfl (fun _ => q_indexAddrG Tryz.underlying58 tk207 rfl ((.of (psAt 0 rfl))) rfl (rows_get ha) (by omega) rfl) (fun h => absurd h (by decide)) (fun ⟨b4_4, o4_4⟩ => ?_)
  refine bU 5 rfl (by kernel_rfl) rfl (q_loadD (o := 0) tk207 rfl (psAt 0 rfl) rfl rfl) ?_
  refine bU 6 rfl (by kernel_rfl) rfl (q_move rfl) ?_
  refine bU 7 rfl (by kernel_rfl) rfl (q_move rfl) ?_
  refine aB_E 8 rfl (by kernel_rfl) true rfl rfl (fun _ => q_indexAddrG Tryz.underlying58 tk207 rfl ((.of (psAt 1 rfl))) rfl (rows_get hb) rfl rfl) (fun h => absurd h (by decide)) (fun ⟨b4_8, o4_8⟩ => ?_)
  refine bU 9 rfl (by kernel_rfl) rfl (q_loadD (o := 0) tk207 rfl (psAt 0 rfl) rfl rfl) ?_
  refine aB_callN 10 rfl (by kernel_rfl) [0] (false) hF true rfl rfl (fun _ => rfl) (fun hc => rfl) (fun hc => h _ (List.mem_of_getElem? ha) _ (List.mem_of_getElem? hb)) (fun c hc => ?_)
  refine bU 11 rfl (by kernel_rfl) rfl (q_not rfl) ?_
  refine aB_nil (by kernel_rfl) ?_
  refine thn_n ?_
  refine awp_cond _ rfl (fun h2 => ?_) (fun h2 => ?_)
  ·skip
   refine aSR (aA rfl (aNn (awp_ret (blk_r (thn_r (thn_r (blk_r (thn_r ?_))))))))
   refine fin1 [] [] rfl Tryz.results174 rfl ?_ (.inr rfl)
   exact ⟨⟨rfl, rfl⟩, _, rfl, fun _ => trivial⟩
  ·skip
   refine awp_skip (blk_n (thn_n (awp_region (aM rfl ?_))))
   refine aU rfl (q_addi rfl rfl (by omega)) ?_
   refine aA rfl (aNn ?_)
   refine ⟨[0, 1, 5], [1, 0], [], rfl, ?_⟩
   exact ⟨k + 1, ⟨by omega, rfl⟩, by omega⟩
 ·skip
  refine awp_exit (thn_e (thn_e (blk_hit (thn_n (aSR (aA rfl (aNn (awp_ret ?_))))))))
  refine fin1 [] [] rfl Tryz.results174 rfl ?_ (.inr rfl)
  exact ⟨⟨rfl, rfl⟩, _, rfl, fun _ => trivial⟩
theorem tk265 : tyk Tryz.prog 265 = some (false, 1) := by kernel_rfl
theorem con_idxf_piece (l : Sl GPiece) (F : FuncId) (caps : List Value) (p q : Per) (Ψ : GPiece → Bool → Prop) (hF : callOk Tryz.prog F = true) (h : ∀ a ∈ l.l, Con Tryz.prog F (a.val :: caps) [p, q] [] (YN Value.bool (Ψ a))) : Con Tryz.prog 282 [l.val, .func (.func F) #[] caps.toArray] [ShF GPiece.row l, p, q] []
   (YN (fun z : Int => .int .i64 z) (fun z => (z ≥ 0 → ∃ a ∈ l.l, Ψ a true) ∧ (¬ z ≥ 0 → ∀ a ∈ l.l, Ψ a false))) := by
 refine Con.enter Tryz.func282 rfl (by simp [Tryz.ntmps282]) ?_
 show awp _ _ _ _ ⟨[(0, true, _), (1, true, _)], _, _⟩
 refine awp_lenE (.of (psAt 0 rfl)) (fun hlen => ?_)
 refine aSR (aA rfl (aNs (aSR (aM rfl (aU rfl (q_lenS Tryz.underlying208 rfl) (aM rfl (aNn (awp_block ?_))))))))
 refine awp_loopK [0, 1, 7, 8] [2, 1, 0] [] (fun (k : Nat) s => (k ≤ l.l.length ∧ ∀ a ∈ l.l.take k, Ψ a false) ∧ s = ⟨[(0, true, l.val), (1, true, .func (.func F) #[] caps.toArray), (7, true, .int .i64 l.l.length), (8, true, .int .i64 k)], [ShF GPiece.row l, p, q], []⟩) (fun k => l.l.length - k) rfl (⟨0, ⟨Nat.zero_le _, fun a ha => by cases ha⟩, rfl⟩) ?_
 rintro k s ⟨⟨hk, hno⟩, rfl⟩
 refine aSR (aU rfl (q_lss rfl rfl) (aNs ?_))
 refine awp_cond _ rfl (fun h1 => ?_) (fun h1 => ?_)
 ·skip
  have hk' : k < l.l.length := by simpa using h1
  obtain ⟨a, ha⟩ : ∃ a, l.l[k]? = some a := ⟨l.l[k]'hk', by simp⟩
  refine awp_skip (thn_n (awp_seq (awp_block (aSR (aM rfl (aA rfl (aNn (aSR (aM rfl (aM rfl (aM rfl ?_)))))))))))
  refine aL_E true rfl rfl (fun _ => q_indexAddrG Tryz.underlying208 tk264 rfl ((.of (psAt 0 rfl))) rfl (rows_get ha) rfl rfl) (fun h => absurd h (by decide)) (fun ⟨b4_3, o4_3⟩ => ?_)
  refine aU rfl (q_loadD (o := 0) tk264 rfl (psAt 0 rfl) rfl rfl) ?_
  refine aL_callN [1, 0] (false) hF true rfl rfl (fun _ => rfl) (fun hc => rfl) (fun hc => h a (List.mem_of_getElem? ha)) (fun c hc => ?_)
  refine aNn ?_
  refine awp_cond _ rfl (fun h2 => ?_) (fun h2 => ?_)
  ·skip
   refine aSR (aM rfl (aA rfl (aNn (awp_ret (blk_r (thn_r (thn_r (blk_r (thn_r ?_)))))))))
   refine fin1 [] [] rfl Tryz.results282 rfl ?_ (.inr rfl)
   exact ⟨⟨rfl, rfl⟩, _, rfl, fun _ => ⟨a, List.mem_of_getElem? ha, h2 ▸ hc rfl⟩, fun hz => (hz (Int.natCast_nonneg k)).elim⟩
  ·skip
   refine awp_skip (blk_n (thn_n (awp_region ?_)))
   refine aU rfl (q_addi rfl rfl (by omega)) ?_
   refine aM rfl (aNn ?_)
   refine ⟨[0, 1, 7, 8], [2, 1, 0], [], rfl, ?_⟩
   refine ⟨k + 1, ⟨⟨by omega, ?_⟩, rfl⟩, by omega⟩
   intro y hy
   rw [List.take_add_one, ha, List.mem_append] at hy
   rcases hy with hy | hy
   · exact hno y hy
   · simp at hy; subst hy; exact h2 ▸ hc rfl
 ·skip
  refine awp_exit (thn_e (thn_e (blk_hit (thn_n (aSR (aA rfl (aNn (awp_ret ?_))))))))
  refine fin1 [] [] rfl Tryz.results282 rfl ?_ (.inr rfl)
  refine ⟨⟨rfl, rfl⟩, _, rfl, fun hz => absurd hz (by decide), fun _ => ?_⟩
  rw [List.take_of_length_le (by simpa using h1)] at hno; exact hno
theorem con_cont_piece (l : Sl GPiece) (F : FuncId) (caps : List Value) (p q : Per) (Ψ : GPiece → Bool → Prop) (hF : callOk Tryz.prog F = true) (h : ∀ a ∈ l.l, Con Tryz.prog F (a.val :: caps) [p, q] [] (YN Value.bool (Ψ a))) : Con Tryz.prog 244 [l.val, .func (.func F) #[] caps.toArray] [ShF GPiece.row l, p, q] []
   (YN Value.bool (fun b => (b = true → ∃ a ∈ l.l, Ψ a true) ∧ (b = false → ∀ a ∈ l.l, Ψ a false))) := by
 refine Con.enter Tryz.func244 rfl (by simp [Tryz.ntmps244]) ?_
 show awp _ _ _ _ ⟨[(0, true, _), (1, true, _)], _, _⟩
 refine aSR (aA rfl (aNn (aSR (aM rfl (aM rfl ?_)))))
 refine aL_eff (q := true) rfl (e_call [2, 1, 0] [] (by kernel_rfl) rfl rfl rfl rfl (con_idxf_piece l F caps p q Ψ hF h) ?_)
 rintro _ _ _ ⟨⟨rfl, rfl⟩, z, rfl, hz⟩
 refine aL_st (by (try simp only [nM, nN]); rfl) (by (try simp only [putB, place, Nat.reduceBEq, if_true, if_false, reduceIte, Nat.reduceAdd, nW]); rfl) ?_
 refine aU rfl (q_geq rfl rfl) (aA rfl (aNn (awp_ret ?_)))
 refine fin1 [] [] rfl Tryz.results244 rfl ?_ (.inr rfl)
 exact ⟨⟨rfl, rfl⟩, _, rfl, fun hb => hz.1 (by simpa using hb), fun hb => hz.2 (by simpa using hb)⟩
theorem con_every1_piece (b : Nat) (F : FuncId) (caps : List Value) (p : Per) (a : GPiece) (Φ : Prop) (hF : callOk Tryz.prog F = true) (h : Con Tryz.prog F (a.val :: caps) [p] [] (YB Φ)) : Con Tryz.prog 245 [a.val, .pointer (some ⟨b, 0, none⟩)] [At b 0 [.v (.func (.func F) #[] caps.toArray)], p] []
   (YN Value.bool (fun b => b = false → Φ)) := by
 refine Con.enter Tryz.func245 rfl (by simp [Tryz.ntmps245]) ?_
 show awp _ _ _ _ ⟨[(0, true, _), (1, true, _)], _, _⟩
 refine aSR ?_
 refine aL_eff (q := true) rfl (x_box rfl rfl rfl (fun b0_0 => ?_))
 refine aL_hp (by (try simp only [nM, nN]); rfl) ?_
 refine aA rfl (aNn (aSR (aU rfl (q_loadDE (o := 0) tk265 rfl (.of (psAt 0 rfl)) rfl) (aU rfl (q_load 0 tk264 rfl rfl rfl) ?_))))
 refine aL_callN [0] (false) hF true rfl rfl (fun _ => rfl) (fun hc => rfl) (fun hc => h) (fun c hc => ?_)
 refine aU rfl (q_not rfl) (aA rfl (aNn (awp_ret ?_)))
 refine fin1 [] [] rfl Tryz.results245 rfl ?_ (.inr rfl)
 exact ⟨⟨rfl, rfl⟩, _, rfl, fun hb => hc rfl (by simpa using hb)⟩
theorem con_every_piece (l : Sl GPiece) (F : FuncId) (caps : List Value) (p : Per) (Φ : GPiece → Prop) (hF : callOk Tryz.prog F = true) (h : ∀ a ∈ l.l, Con Tryz.prog F (a.val :: caps) [p] [] (YB (Φ a))) : Con Tryz.prog 177 [l.val, .func (.func F) #[] caps.toArray] [ShF GPiece.row l, p] []
   (YB (∀ a ∈ l.l, Φ a)) := by
 refine Con.enter Tryz.func177 rfl (by simp [Tryz.ntmps177]) ?_
 show awp _ _ _ _ ⟨[(0, true, _), (1, true, _)], _, _⟩
 refine aSR ?_
 refine aL_eff (q := true) rfl (x_box rfl rfl rfl (fun b0_0 => ?_))
 refine aL_hp (by (try simp only [nM, nN]); rfl) ?_
 refine aA rfl (aNs (awp_shareB 0 rfl rfl ?_))
 show awp _ _ _ _ ⟨_, At _ 0 _ :: _, _⟩
 refine awp_region (aM rfl (aU rfl (q_func (l := [.tmp 3]) rfl) ?_))
 refine aL_callN (caps := []) [1, 2, 0] (false) (by kernel_rfl) true rfl rfl (fun _ => rfl) (fun hc => rfl) (fun hc => by rw [List.append_nil]; exact con_cont_piece l 245 [.pointer (some ⟨b0_0, 0, none⟩)] (At b0_0 0 [.v (.func (.func F) #[] caps.toArray)]) p (fun a b => b = false → Φ a) (by kernel_rfl) (fun a ha => con_every1_piece b0_0 F caps p a (Φ a) hF (h a ha))) (fun c hc => ?_)
 refine aU rfl (q_not rfl) (aA rfl (aNn (awp_ret ?_)))
 refine fin1 [] [] rfl Tryz.results177 rfl ?_ (.inr rfl)
 exact ⟨⟨rfl, rfl⟩, _, rfl, fun hb a ha => (hc rfl).2 (by simpa using hb) a ha rfl⟩
theorem con_pairs_piece (l : Sl GPiece) (F : FuncId) (caps : List Value) (p : Per) (hF : callOk Tryz.prog F = true) (h : ∀ a ∈ l.l, ∀ b ∈ l.l, Con Tryz.prog F (a.val :: b.val :: caps) [p] [] (YB True)) : Con Tryz.prog 179 [l.val, .func (.func F) #[] caps.toArray] [ShF GPiece.row l, p] [] (YB True) := by
 refine Con.enter Tryz.func179 rfl (by simp [Tryz.ntmps179]) ?_
 show awp _ _ _ _ ⟨[(0, true, _), (1, true, _)], _, _⟩
 refine awp_lenE (.of (psAt 0 rfl)) (fun hlen => ?_)
 refine aSR (aA rfl (aNs (aSR ?_)))
 refine aA rfl (aNn (awp_block (awp_loopK [0, 1, 5] [1, 0] [] (fun (k : Nat) s => k ≤ l.l.length ∧ s = ⟨[(0, true, l.val), (1, true, .func (.func F) #[] caps.toArray), (5, true, .int .i64 ((k + 1 : Nat) : Int))], [ShF GPiece.row l, p], []⟩) (fun k => l.l.length - k) rfl (⟨0, Nat.zero_le _, rfl⟩) ?_)))
 rintro k s ⟨hk, rfl⟩
 refine awp_seq (aSR (aM rfl (aM rfl (aU rfl (q_lenS Tryz.underlying208 rfl) (aU rfl (q_lss rfl rfl) (aNn ?_))))))
 refine awp_cond _ rfl (fun h1 => ?_) (fun h1 => ?_)
 ·skip
  have hk' : k + 1 < l.l.length := by simp at h1; omega
  have ha := elt_nat (l := l.l) (i := k) (by omega)
  have hb := elt_nat (l := l.l) (i := k + 1) hk'
  refine awp_skip (thn_n (awp_seq (awp_block (awp_seq ?_))))
  refine awp_drawn [] (by kernel_rfl) ?_
  show aB _ _ _ _ _ 12 #[false, false, false, false, false, false, false, false, false, false, false, false] _
  refine bU 0 rfl (by kernel_rfl) rfl (q_move rfl) ?_
  refine bU 1 rfl (by kernel_rfl) rfl (q_move rfl) ?_
  refine bU 2 rfl (by kernel_rfl) rfl (q_move rfl) ?_
  refine bU 3 rfl (by kernel_rfl) rfl (q_subi rfl rfl (by omega)) ?_
  refine aB_E 4 rfl (by kernel_rfl) true rfl rfl (fun _ => q_indexAddrG Tryz.underlying208 tk264 rfl ((.of (psAt 0 rfl))) rfl (rows_get ha) (by omega) rfl) (fun h => absurd h (by decide)) (fun ⟨b4_4, o4_4⟩ => ?_)
  refine bU 5 rfl (by kernel_rfl) rfl (q_loadD (o := 0) tk264 rfl (psAt 0 rfl) rfl rfl) ?_
  refine bU 6 rfl (by kernel_rfl) rfl (q_move rfl) ?_
  refine bU 7 rfl (by kernel_rfl) rfl (q_move rfl) ?_
  refine aB_E 8 rfl (by kernel_rfl) true rfl rfl (fun _ => q_indexAddrG Tryz.underlying208 tk264 rfl ((.of (psAt 1 rfl))) rfl (rows_get hb) rfl rfl) (fun h => absurd h (by decide)) (fun ⟨b4_8, o4_8⟩ => ?_)
  refine bU 9 rfl (by kernel_rfl) rfl (q_loadD (o := 0) tk264 rfl (psAt 0 rfl) rfl rfl) ?_
  refine aB_callN 10 rfl (by kernel_rfl) [0] (false) hF true rfl rfl (fun _ => rfl) (fun hc => rfl) (fun hc => h _ (List.mem_of_getElem? ha) _ (List.mem_of_getElem? hb)) (fun c hc => ?_)
  refine bU 11 rfl (by kernel_rfl) rfl (q_not rfl) ?_
  refine aB_nil (by kernel_rfl) ?_
  refine thn_n ?_
  refine awp_cond _ rfl (fun h2 => ?_) (fun h2 => ?_)
  ·skip
   refine aSR (aA rfl (aNn (awp_ret (blk_r (thn_r (thn_r (blk_r (thn_r ?_))))))))
   refine fin1 [] [] rfl Tryz.results179 rfl ?_ (.inr rfl)
   exact ⟨⟨rfl, rfl⟩, _, rfl, fun _ => trivial⟩
  ·skip
   refine awp_skip (blk_n (thn_n (awp_region (aM rfl ?_))))
   refine aU rfl (q_addi rfl rfl (by omega)) ?_
   refine aA rfl (aNn ?_)
   refine ⟨[0, 1, 5], [1, 0], [], rfl, ?_⟩
   exact ⟨k + 1, ⟨by omega, rfl⟩, by omega⟩
 ·skip
  refine awp_exit (thn_e (thn_e (blk_hit (thn_n (aSR (aA rfl (aNn (awp_ret ?_))))))))
  refine fin1 [] [] rfl Tryz.results179 rfl ?_ (.inr rfl)
  exact ⟨⟨rfl, rfl⟩, _, rfl, fun _ => trivial⟩
theorem tk268 : tyk Tryz.prog 268 = some (false, 1) := by kernel_rfl
theorem con_idxf_convert (l : Sl GConvert) (F : FuncId) (caps : List Value) (p q : Per) (Ψ : GConvert → Bool → Prop) (hF : callOk Tryz.prog F = true) (h : ∀ a ∈ l.l, Con Tryz.prog F (a.val :: caps) [p, q] [] (YN Value.bool (Ψ a))) : Con Tryz.prog 283 [l.val, .func (.func F) #[] caps.toArray] [ShF GConvert.row l, p, q] []
   (YN (fun z : Int => .int .i64 z) (fun z => (z ≥ 0 → ∃ a ∈ l.l, Ψ a true) ∧ (¬ z ≥ 0 → ∀ a ∈ l.l, Ψ a false))) := by
 refine Con.enter Tryz.func283 rfl (by simp [Tryz.ntmps283]) ?_
 show awp _ _ _ _ ⟨[(0, true, _), (1, true, _)], _, _⟩
 refine awp_lenE (.of (psAt 0 rfl)) (fun hlen => ?_)
 refine aSR (aA rfl (aNs (aSR (aM rfl (aU rfl (q_lenS Tryz.underlying59 rfl) (aM rfl (aNn (awp_block ?_))))))))
 refine awp_loopK [0, 1, 7, 8] [2, 1, 0] [] (fun (k : Nat) s => (k ≤ l.l.length ∧ ∀ a ∈ l.l.take k, Ψ a false) ∧ s = ⟨[(0, true, l.val), (1, true, .func (.func F) #[] caps.toArray), (7, true, .int .i64 l.l.length), (8, true, .int .i64 k)], [ShF GConvert.row l, p, q], []⟩) (fun k => l.l.length - k) rfl (⟨0, ⟨Nat.zero_le _, fun a ha => by cases ha⟩, rfl⟩) ?_
 rintro k s ⟨⟨hk, hno⟩, rfl⟩
 refine aSR (aU rfl (q_lss rfl rfl) (aNs ?_))
 refine awp_cond _ rfl (fun h1 => ?_) (fun h1 => ?_)
 ·skip
  have hk' : k < l.l.length := by simpa using h1
  obtain ⟨a, ha⟩ : ∃ a, l.l[k]? = some a := ⟨l.l[k]'hk', by simp⟩
  refine awp_skip (thn_n (awp_seq (awp_block (aSR (aM rfl (aA rfl (aNn (aSR (aM rfl (aM rfl (aM rfl ?_)))))))))))
  refine aL_E true rfl rfl (fun _ => q_indexAddrG Tryz.underlying59 tk210 rfl ((.of (psAt 0 rfl))) rfl (rows_get ha) rfl rfl) (fun h => absurd h (by decide)) (fun ⟨b4_3, o4_3⟩ => ?_)
  refine aU rfl (q_loadD (o := 0) tk210 rfl (psAt 0 rfl) rfl rfl) ?_
  refine aL_callN [1, 0] (false) hF true rfl rfl (fun _ => rfl) (fun hc => rfl) (fun hc => h a (List.mem_of_getElem? ha)) (fun c hc => ?_)
  refine aNn ?_
  refine awp_cond _ rfl (fun h2 => ?_) (fun h2 => ?_)
  ·skip
   refine aSR (aM rfl (aA rfl (aNn (awp_ret (blk_r (thn_r (thn_r (blk_r (thn_r ?_)))))))))
   refine fin1 [] [] rfl Tryz.results283 rfl ?_ (.inr rfl)
   exact ⟨⟨rfl, rfl⟩, _, rfl, fun _ => ⟨a, List.mem_of_getElem? ha, h2 ▸ hc rfl⟩, fun hz => (hz (Int.natCast_nonneg k)).elim⟩
  ·skip
   refine awp_skip (blk_n (thn_n (awp_region ?_)))
   refine aU rfl (q_addi rfl rfl (by omega)) ?_
   refine aM rfl (aNn ?_)
   refine ⟨[0, 1, 7, 8], [2, 1, 0], [], rfl, ?_⟩
   refine ⟨k + 1, ⟨⟨by omega, ?_⟩, rfl⟩, by omega⟩
   intro y hy
   rw [List.take_add_one, ha, List.mem_append] at hy
   rcases hy with hy | hy
   · exact hno y hy
   · simp at hy; subst hy; exact h2 ▸ hc rfl
 ·skip
  refine awp_exit (thn_e (thn_e (blk_hit (thn_n (aSR (aA rfl (aNn (awp_ret ?_))))))))
  refine fin1 [] [] rfl Tryz.results283 rfl ?_ (.inr rfl)
  refine ⟨⟨rfl, rfl⟩, _, rfl, fun hz => absurd hz (by decide), fun _ => ?_⟩
  rw [List.take_of_length_le (by simpa using h1)] at hno; exact hno
theorem con_cont_convert (l : Sl GConvert) (F : FuncId) (caps : List Value) (p q : Per) (Ψ : GConvert → Bool → Prop) (hF : callOk Tryz.prog F = true) (h : ∀ a ∈ l.l, Con Tryz.prog F (a.val :: caps) [p, q] [] (YN Value.bool (Ψ a))) : Con Tryz.prog 246 [l.val, .func (.func F) #[] caps.toArray] [ShF GConvert.row l, p, q] []
   (YN Value.bool (fun b => (b = true → ∃ a ∈ l.l, Ψ a true) ∧ (b = false → ∀ a ∈ l.l, Ψ a false))) := by
 refine Con.enter Tryz.func246 rfl (by simp [Tryz.ntmps246]) ?_
 show awp _ _ _ _ ⟨[(0, true, _), (1, true, _)], _, _⟩
 refine aSR (aA rfl (aNn (aSR (aM rfl (aM rfl ?_)))))
 refine aL_eff (q := true) rfl (e_call [2, 1, 0] [] (by kernel_rfl) rfl rfl rfl rfl (con_idxf_convert l F caps p q Ψ hF h) ?_)
 rintro _ _ _ ⟨⟨rfl, rfl⟩, z, rfl, hz⟩
 refine aL_st (by (try simp only [nM, nN]); rfl) (by (try simp only [putB, place, Nat.reduceBEq, if_true, if_false, reduceIte, Nat.reduceAdd, nW]); rfl) ?_
 refine aU rfl (q_geq rfl rfl) (aA rfl (aNn (awp_ret ?_)))
 refine fin1 [] [] rfl Tryz.results246 rfl ?_ (.inr rfl)
 exact ⟨⟨rfl, rfl⟩, _, rfl, fun hb => hz.1 (by simpa using hb), fun hb => hz.2 (by simpa using hb)⟩
theorem con_every1_convert (b : Nat) (F : FuncId) (caps : List Value) (p : Per) (a : GConvert) (Φ : Prop) (hF : callOk Tryz.prog F = true) (h : Con Tryz.prog F (a.val :: caps) [p] [] (YB Φ)) : Con Tryz.prog 247 [a.val, .pointer (some ⟨b, 0, none⟩)] [At b 0 [.v (.func (.func F) #[] caps.toArray)], p] []
   (YN Value.bool (fun b => b = false → Φ)) := by
 refine Con.enter Tryz.func247 rfl (by simp [Tryz.ntmps247]) ?_
 show awp _ _ _ _ ⟨[(0, true, _), (1, true, _)], _, _⟩
 refine aSR ?_
 refine aL_eff (q := true) rfl (x_box rfl rfl rfl (fun b0_0 => ?_))
 refine aL_hp (by (try simp only [nM, nN]); rfl) ?_
 refine aA rfl (aNn (aSR (aU rfl (q_loadDE (o := 0) tk268 rfl (.of (psAt 0 rfl)) rfl) (aU rfl (q_load 0 tk210 rfl rfl rfl) ?_))))
 refine aL_callN [0] (false) hF true rfl rfl (fun _ => rfl) (fun hc => rfl) (fun hc => h) (fun c hc => ?_)
 refine aU rfl (q_not rfl) (aA rfl (aNn (awp_ret ?_)))
 refine fin1 [] [] rfl Tryz.results247 rfl ?_ (.inr rfl)
 exact ⟨⟨rfl, rfl⟩, _, rfl, fun hb => hc rfl (by simpa using hb)⟩
theorem con_every_convert (l : Sl GConvert) (F : FuncId) (caps : List Value) (p : Per) (Φ : GConvert → Prop) (hF : callOk Tryz.prog F = true) (h : ∀ a ∈ l.l, Con Tryz.prog F (a.val :: caps) [p] [] (YB (Φ a))) : Con Tryz.prog 182 [l.val, .func (.func F) #[] caps.toArray] [ShF GConvert.row l, p] []
   (YB (∀ a ∈ l.l, Φ a)) := by
 refine Con.enter Tryz.func182 rfl (by simp [Tryz.ntmps182]) ?_
 show awp _ _ _ _ ⟨[(0, true, _), (1, true, _)], _, _⟩
 refine aSR ?_
 refine aL_eff (q := true) rfl (x_box rfl rfl rfl (fun b0_0 => ?_))
 refine aL_hp (by (try simp only [nM, nN]); rfl) ?_
 refine aA rfl (aNs (awp_shareB 0 rfl rfl ?_))
 show awp _ _ _ _ ⟨_, At _ 0 _ :: _, _⟩
 refine awp_region (aM rfl (aU rfl (q_func (l := [.tmp 3]) rfl) ?_))
 refine aL_callN (caps := []) [1, 2, 0] (false) (by kernel_rfl) true rfl rfl (fun _ => rfl) (fun hc => rfl) (fun hc => by rw [List.append_nil]; exact con_cont_convert l 247 [.pointer (some ⟨b0_0, 0, none⟩)] (At b0_0 0 [.v (.func (.func F) #[] caps.toArray)]) p (fun a b => b = false → Φ a) (by kernel_rfl) (fun a ha => con_every1_convert b0_0 F caps p a (Φ a) hF (h a ha))) (fun c hc => ?_)
 refine aU rfl (q_not rfl) (aA rfl (aNn (awp_ret ?_)))
 refine fin1 [] [] rfl Tryz.results182 rfl ?_ (.inr rfl)
 exact ⟨⟨rfl, rfl⟩, _, rfl, fun hb a ha => (hc rfl).2 (by simpa using hb) a ha rfl⟩
theorem con_pairs_convert (l : Sl GConvert) (F : FuncId) (caps : List Value) (p : Per) (hF : callOk Tryz.prog F = true) (h : ∀ a ∈ l.l, ∀ b ∈ l.l, Con Tryz.prog F (a.val :: b.val :: caps) [p] [] (YB True)) : Con Tryz.prog 183 [l.val, .func (.func F) #[] caps.toArray] [ShF GConvert.row l, p] [] (YB True) := by
 refine Con.enter Tryz.func183 rfl (by simp [Tryz.ntmps183]) ?_
 show awp _ _ _ _ ⟨[(0, true, _), (1, true, _)], _, _⟩
 refine awp_lenE (.of (psAt 0 rfl)) (fun hlen => ?_)
 refine aSR (aA rfl (aNs (aSR ?_)))
 refine aA rfl (aNn (awp_block (awp_loopK [0, 1, 5] [1, 0] [] (fun (k : Nat) s => k ≤ l.l.length ∧ s = ⟨[(0, true, l.val), (1, true, .func (.func F) #[] caps.toArray), (5, true, .int .i64 ((k + 1 : Nat) : Int))], [ShF GConvert.row l, p], []⟩) (fun k => l.l.length - k) rfl (⟨0, Nat.zero_le _, rfl⟩) ?_)))
 rintro k s ⟨hk, rfl⟩
 refine awp_seq (aSR (aM rfl (aM rfl (aU rfl (q_lenS Tryz.underlying59 rfl) (aU rfl (q_lss rfl rfl) (aNn ?_))))))
 refine awp_cond _ rfl (fun h1 => ?_) (fun h1 => ?_)
 ·skip
  have hk' : k + 1 < l.l.length := by simp at h1; omega
  have ha := elt_nat (l := l.l) (i := k) (by omega)
  have hb := elt_nat (l := l.l) (i := k + 1) hk'
  refine awp_skip (thn_n (awp_seq (awp_block (awp_seq ?_))))
  refine awp_drawn [] (by kernel_rfl) ?_
  show aB _ _ _ _ _ 12 #[false, false, false, false, false, false, false, false, false, false, false, false] _
  refine bU 0 rfl (by kernel_rfl) rfl (q_move rfl) ?_
  refine bU 1 rfl (by kernel_rfl) rfl (q_move rfl) ?_
  refine bU 2 rfl (by kernel_rfl) rfl (q_move rfl) ?_
  refine bU 3 rfl (by kernel_rfl) rfl (q_subi rfl rfl (by omega)) ?_
  refine aB_E 4 rfl (by kernel_rfl) true rfl rfl (fun _ => q_indexAddrG Tryz.underlying59 tk210 rfl ((.of (psAt 0 rfl))) rfl (rows_get ha) (by omega) rfl) (fun h => absurd h (by decide)) (fun ⟨b4_4, o4_4⟩ => ?_)
  refine bU 5 rfl (by kernel_rfl) rfl (q_loadD (o := 0) tk210 rfl (psAt 0 rfl) rfl rfl) ?_
  refine bU 6 rfl (by kernel_rfl) rfl (q_move rfl) ?_
  refine bU 7 rfl (by kernel_rfl) rfl (q_move rfl) ?_
  refine aB_E 8 rfl (by kernel_rfl) true rfl rfl (fun _ => q_indexAddrG Tryz.underlying59 tk210 rfl ((.of (psAt 1 rfl))) rfl (rows_get hb) rfl rfl) (fun h => absurd h (by decide)) (fun ⟨b4_8, o4_8⟩ => ?_)
  refine bU 9 rfl (by kernel_rfl) rfl (q_loadD (o := 0) tk210 rfl (psAt 0 rfl) rfl rfl) ?_
  refine aB_callN 10 rfl (by kernel_rfl) [0] (false) hF true rfl rfl (fun _ => rfl) (fun hc => rfl) (fun hc => h _ (List.mem_of_getElem? ha) _ (List.mem_of_getElem? hb)) (fun c hc => ?_)
  refine bU 11 rfl (by kernel_rfl) rfl (q_not rfl) ?_
  refine aB_nil (by kernel_rfl) ?_
  refine thn_n ?_
  refine awp_cond _ rfl (fun h2 => ?_) (fun h2 => ?_)
  ·skip
   refine aSR (aA rfl (aNn (awp_ret (blk_r (thn_r (thn_r (blk_r (thn_r ?_))))))))
   refine fin1 [] [] rfl Tryz.results183 rfl ?_ (.inr rfl)
   exact ⟨⟨rfl, rfl⟩, _, rfl, fun _ => trivial⟩
  ·skip
   refine awp_skip (blk_n (thn_n (awp_region (aM rfl ?_))))
   refine aU rfl (q_addi rfl rfl (by omega)) ?_
   refine aA rfl (aNn ?_)
   refine ⟨[0, 1, 5], [1, 0], [], rfl, ?_⟩
   exact ⟨k + 1, ⟨by omega, rfl⟩, by omega⟩
 ·skip
  refine awp_exit (thn_e (thn_e (blk_hit (thn_n (aSR (aA rfl (aNn (awp_ret ?_))))))))
  refine fin1 [] [] rfl Tryz.results183 rfl ?_ (.inr rfl)
  exact ⟨⟨rfl, rfl⟩, _, rfl, fun _ => trivial⟩
end Go.Proofs.YtgmiihmahaahiaaGreatDoor

