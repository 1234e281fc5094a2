/- Proved: for every stack, all registers and two numbers of a register the law MachineStack of the given program answers true and leaves what it was handed as it was; the card, tied to the program's text. Conditions: none but those in the given statement itself. -/
import Derived.Test.YtpgcoceggacplaaDoorMgC
import Derived.Test.YtpgcoceggacplaaDoorCards
import Derived.Test.YtpgcoceggacplaaDoorTie
import Derived.SevenTiedAt
set_option linter.unusedVariables false
set_option linter.unusedSimpArgs false
set_option maxRecDepth 20000
namespace Go.Lp
open Go.RowKit Go.Proofs.YtpgcoceggacplaaDoor
theorem used_all : ∀ op : Nat, op < 31 → (opds op).contains 65 = (ops9 op).contains 1 ∧ (opds op).contains 66 = (ops9 op).contains 2 ∧ (opds op).contains 67 = (ops9 op).contains 3 ∧ (opds op).contains 73 = (ops9 op).contains 4 := by decide +kernel
theorem imm_z (op : Nat) (n : Int) : imm9 op n = immB op n := by
  unfold imm9 immB
  have e1 : ((op : Int) = 19 ∨ (op : Int) = 20 ∨ (op : Int) = 21 ∨ (op : Int) = 24 ∨ (op : Int) = 25) ↔ (op = 19 ∨ op = 20 ∨ op = 21 ∨ op = 24 ∨ op = 25) := by omega
  have e2 : ((op : Int) = 22) ↔ op = 22 := by omega
  have e3 : ((op : Int) = 30) ↔ op = 30 := by omega
  have e4 : decide (n ≤ 7) = decide (n < 8) := decide_eq_decide.2 (by omega)
  simp only [e1, e2, e3, e4]
theorem right_z (i : Ins) : right9 i.z = rightB i := by
  by_cases hop : i.op < 31
  · obtain ⟨u1, u2, u3, u4⟩ := used_all i.op hop
    have e1 : (decide (1 ≤ i.z.op) && decide (i.z.op ≤ 30)) = (decide (1 ≤ i.op) && decide (i.op ≤ 30)) := by
      show (decide (1 ≤ (i.op : Int)) && decide ((i.op : Int) ≤ 30)) = _
      rw [Bool.eq_iff_iff]; simp; omega
    have b1 : okOp i 65 = !bad9 i.z 1 := by unfold okOp bad9; rw [u1]; rfl
    have b2 : okOp i 66 = !bad9 i.z 2 := by unfold okOp bad9; rw [u2]; rfl
    have b3 : okOp i 67 = !bad9 i.z 3 := by unfold okOp bad9; rw [u3]; rfl
    have b4 : okOp i 73 = !bad9 i.z 4 := by unfold okOp bad9; rw [u4]; rfl
    have e2 : imm9 i.z.op i.z.imm = immB i.op i.imm := imm_z i.op i.imm
    unfold right9 rightB
    rw [e1, e2]
    simp only [List.all_cons, List.all_nil, b1, b2, b3, b4]
    cases decide (1 ≤ i.op) <;> cases decide (i.op ≤ 30) <;> cases bad9 i.z 1 <;> cases bad9 i.z 2 <;> cases bad9 i.z 3 <;> cases bad9 i.z 4 <;> cases immB i.op i.imm <;> rfl
  · have h1 : right9 i.z = false := by
      unfold right9
      have : decide (i.z.op ≤ 30) = false := decide_eq_false (by show ¬ (i.op : Int) ≤ 30; omega)
      rw [this]; simp
    have h2 : rightB i = false := by
      unfold rightB
      have : decide (i.op ≤ 30) = false := decide_eq_false (by omega)
      rw [this]; simp
    rw [h1, h2]
theorem byte_small' {n : Nat} (h : n < 256) : (byteI (n : Int)).toNat = n := by have := byteI_nat (n : Int); omega
theorem fits_of {i : Ins} (h : rightB i = true) : -2147483648 ≤ i.imm ∧ i.imm ≤ 2147483647 := by
  have := (rightB_iff.1 h).2.1
  unfold immB fitsB at this
  split at this
  · simp at this; omega
  · split at this
    · simp at this; omega
    · split at this
      · simp at this; omega
      · simp at this; omega
theorem w64_id {n : Int} (h : -9223372036854775808 ≤ n ∧ n ≤ 9223372036854775807) : w64 n = n := by unfold w64; rw [IntKind.wrap_i64]; omega
theorem insOf_enc {i : Ins} (h : rightB i = true) : insOf (enc9 i.z) = i := by
  obtain ⟨ha, hb, hc⟩ := right_abc h
  have hop := (rightB_iff.1 h).1
  have hf := fits_of h
  obtain ⟨op, a, b, c, imm⟩ := i
  dsimp only at ha hb hc hop hf
  have hn : 0 ≤ n9 imm ∧ n9 imm < 4294967296 ∧ (imm = n9 imm ∧ imm < 2147483648 ∧ 0 ≤ imm ∨ imm = n9 imm - 4294967296 ∧ imm < 0) := by
    unfold n9
    split
    · rw [w64_id (by omega)]; omega
    · omega
  have e : ∀ k, (byteI k).toNat = (k % 256).toNat := fun k => by have := byteI_nat k; omega
  have hleq : (leNat [byteI ((n9 imm).tmod 256), byteI ((w64 ((n9 imm).tdiv 256)).tmod 256), byteI ((w64 ((n9 imm).tdiv 65536)).tmod 256), byteI (w64 ((n9 imm).tdiv 16777216))] : Int) = n9 imm := by
    obtain ⟨h1, h2, _⟩ := hn
    generalize n9 imm = z at h1 h2
    rw [Int.tdiv_eq_ediv_of_nonneg h1, Int.tdiv_eq_ediv_of_nonneg h1, Int.tdiv_eq_ediv_of_nonneg h1, Int.tmod_eq_emod_of_nonneg h1]
    rw [w64_id (by omega), w64_id (by omega), w64_id (by omega), Int.tmod_eq_emod_of_nonneg (by omega), Int.tmod_eq_emod_of_nonneg (by omega)]
    simp only [leNat]
    have q1 := byteI_nat (z % 256)
    have q2 := byteI_nat (z / 256 % 256)
    have q3 := byteI_nat (z / 65536 % 256)
    have q4 := byteI_nat (z / 16777216)
    omega
  unfold insOf
  show (⟨(byteI (op : Int)).toNat, (byteI (a : Int)).toNat, (byteI (b : Int)).toNat, (byteI (c : Int)).toNat, toS (leNat [byteI ((n9 imm).tmod 256), byteI ((w64 ((n9 imm).tdiv 256)).tmod 256), byteI ((w64 ((n9 imm).tdiv 65536)).tmod 256), byteI (w64 ((n9 imm).tdiv 16777216))]) 4⟩ : Ins) = _
  rw [byte_small' (by omega), byte_small' (by omega), byte_small' (by omega), byte_small' (by omega)]
  congr 1
  unfold toS
  split <;> omega
theorem encB_right {i : Ins} (h : rightB i = true) : encB i.z = enc9 i.z := by unfold encB; rw [if_pos (by rw [right_z]; exact h)]
theorem decI_enc {i : Ins} (h : rightB i = true) : decI (encB i.z) = some i := by
  rw [encB_right h]
  have := insOf_enc h
  unfold decI
  rw [if_neg (by simp [enc9]), this, if_pos h]
theorem codeB_at : ∀ (l : List Ins) (k : Nat) (i : Ins), (∀ j ∈ l, rightB j = true) → l[k]? = some i → ((codeB (l.map Ins.z)).drop (8 * k)).take 8 = encB i.z ∧ 8 * k + 8 ≤ (codeB (l.map Ins.z)).length
  | [], k, i, _, h => by simp at h
  | j :: l, k, i, hr, h => by
    have hj : (encB j.z).length = 8 := by rw [encB_right (hr j (by simp))]; rfl
    have e : codeB ((j :: l).map Ins.z) = encB j.z ++ codeB (l.map Ins.z) := rfl
    cases k with
    | zero =>
      simp only [List.getElem?_cons_zero, Option.some.injEq] at h
      subst h
      rw [e]
      refine ⟨?_, by simp [hj]⟩
      rw [Nat.mul_zero, List.drop_zero, List.take_append_of_le_length (by omega), List.take_of_length_le (by omega)]
    | succ k =>
      obtain ⟨h1, h2⟩ := codeB_at l k i (fun x hx => hr x (by simp [hx])) (by simpa using h)
      rw [e]
      refine ⟨?_, by rw [List.length_append]; omega⟩
      rw [show 8 * (k + 1) = (encB j.z).length + 8 * k by omega, List.drop_append, List.drop_of_length_le (by omega), List.nil_append, show (encB j.z).length + 8 * k - (encB j.z).length = 8 * k by omega]
      exact h1
/-- an instruction of the code is fetched -/
theorem fetch_at {M : Mem} (hI : MInv M) {l : List Ins} (hr : ∀ j ∈ l, rightB j = true) (hc : CodeIn M (codeB (l.map Ins.z))) {k : Nat} {i : Ins} (hk : l[k]? = some i) : fetchM M (512 + (8 * k : Nat)) = (some i, 0) := by
  obtain ⟨h1, h2⟩ := codeB_at l k i hr hk
  obtain ⟨g1, g2, g3⟩ := code_read hI hc (8 * k) 8 (by omega) h2
  have g1 : readM M (512 + ((8 * k : Nat) : Int)) 8 = (((codeB (l.map Ins.z)).drop (8 * k)).take 8, 0) := g1
  unfold fetchM
  rw [if_neg, g1]
  · dsimp only
    rw [h1, decI_enc (hr i (List.mem_of_getElem? hk))]
  · rw [g1, g2]
    rintro (h | h | h | h)
    · cases h
    · exact h g3
    · exact h rfl
    · omega
theorem step_at {M : Mem} {c : Cpu} {i : Ins} (h0 : c.pc ≠ 0) (hf : fetchM M c.pc = (some i, 0)) : stepM M c = if ((run0 0 i c).exec M i.op).1.bad then (c, (5, 6), ((run0 0 i c).exec M i.op).2) else (((run0 0 i c).exec M i.op).1.nx, (((run0 0 i c).exec M i.op).1.ek, ((run0 0 i c).exec M i.op).1.en), ((run0 0 i c).exec M i.op).2) := by
  unfold stepM; rw [if_neg h0, hf]
def iCall (w : Nat) : Ins := ⟨22, 0, 0, 0, 8 * (w + 1 : Nat)⟩
def iNop : Ins := ⟨1, 0, 0, 0, 0⟩
def iRet : Ins := ⟨26, 0, 0, 0, 0⟩
def lCall (w : Nat) : List Ins := [iCall w] ++ (List.replicate w iNop ++ [iRet])
theorem lCall_right {w : Nat} (hw : w ≤ 20) : ∀ j ∈ lCall w, rightB j = true := by
  intro j hj
  unfold lCall at hj
  rcases List.mem_append.1 hj with hj | hj
  · rw [List.mem_singleton.1 hj]
    have : ∀ w, w < 21 → rightB (iCall w) = true := by decide +kernel
    exact this w (by omega)
  · rcases List.mem_append.1 hj with hj | hj
    · rw [List.eq_of_mem_replicate hj]; decide +kernel
    · rw [List.mem_singleton.1 hj]; decide +kernel
theorem upd_back {r : Nat → Int} (h : I64 (r 15)) : upd (upd r 15 (w64 (r 15 - 8))) 15 (w64 (w64 (r 15 - 8) + 8)) = r := by
  funext j
  unfold upd
  by_cases hj : j = 15
  · subst hj
    rw [if_pos rfl]
    unfold I64 at h
    unfold w64; rw [IntKind.wrap_i64, IntKind.wrap_i64]; omega
  · rw [if_neg hj, if_neg hj]
theorem w64_I (n : Int) : I64 (w64 n) := by unfold I64 w64; rw [IntKind.wrap_i64]; omega
/-- a call and a return -/
theorem calls_law {M : Mem} (hI : MInv M) {w : Nat} (hw : w ≤ 20) (hc : CodeIn M (codeB ((lCall w).map Ins.z))) {c : Cpu} (hok : CpuOk c) (hpc : c.pc = 512) :
    ((stepM M c).2.1.1 = 5 → (stepM M c).1 = c) ∧ ((stepM M c).2.1.1 ≠ 5 → (stepM M c).1.pc = 520 + 8 * w ∧ (stepM M c).1.r 15 = w64 (c.r 15 - 8) ∧
      (stepM (stepM M c).2.2 (stepM M c).1).2.1 = (0, 0) ∧ (stepM (stepM M c).2.2 (stepM M c).1).1 = ⟨c.r, 520⟩ ∧ loadM (stepM (stepM M c).2.2 (stepM M c).1).2.2 (w64 (c.r 15 - 8)) 8 = (520, 0)) := by
  have hf1 : fetchM M c.pc = (some (iCall w), 0) := by
    rw [hpc]; exact fetch_at hI (lCall_right hw) hc (k := 0) rfl
  have s1 := step_at (by rw [hpc]; decide) hf1
  by_cases hst : (storeM M (w64 (c.r 15 - 8)) 8 (w64 (c.pc + 8))).2 = 0
  · have hb : ((run0 0 (iCall w) c).exec M (iCall w).op).1.bad = false := by
      show (!decide ((storeM M (w64 (c.r 15 - 8)) 8 (w64 (c.pc + 8))).2 = 0)) = false
      rw [hst]; rfl
    rw [hb] at s1
    have s1' : stepM M c = (⟨upd c.r 15 (w64 (c.r 15 - 8)), w64 (c.pc + 8 * (w + 1 : Nat))⟩, (0, 0), (storeM M (w64 (c.r 15 - 8)) 8 (w64 (c.pc + 8))).1) := s1
    have e8 : w64 (c.pc + 8) = 520 := by rw [hpc]; decide
    have ep : w64 (c.pc + 8 * (w + 1 : Nat)) = 520 + 8 * w := by rw [hpc, w64_id (by omega)]; omega
    rw [e8, ep] at s1'
    rw [e8] at hst
    rw [s1']
    dsimp only
    obtain ⟨hs, hwr⟩ := store_ok hst
    have hlb := load_back hI (n := 520) (s := 8) (by unfold I64; decide) hs hwr
    have hlb : loadM (storeM M (w64 (c.r 15 - 8)) 8 520).1 (w64 (c.r 15 - 8)) 8 = (520, 0) := hlb
    have hM : MemAs M (storeM M (w64 (c.r 15 - 8)) 8 520).1 := memAs_store _ _ _ _
    have hf2 : fetchM (storeM M (w64 (c.r 15 - 8)) 8 520).1 (520 + 8 * w : Int) = (some iRet, 0) := by
      have := fetch_at (memAs_inv hI hM) (lCall_right hw) (code_kept hI hc hM) (k := w + 1) (i := iRet) (by unfold lCall; simp)
      rwa [show (512 + ((8 * (w + 1) : Nat) : Int)) = 520 + 8 * w by omega] at this
    have s2 := step_at (c := ⟨upd c.r 15 (w64 (c.r 15 - 8)), (520 + 8 * w : Int)⟩) (by show (520 + 8 * (w : Int)) ≠ 0; omega) hf2
    have hu : upd c.r 15 (w64 (c.r 15 - 8)) 15 = w64 (c.r 15 - 8) := by unfold upd; rw [if_pos rfl]
    have hb2 : ((run0 0 iRet ⟨upd c.r 15 (w64 (c.r 15 - 8)), (520 + 8 * w : Int)⟩).exec (storeM M (w64 (c.r 15 - 8)) 8 520).1 iRet.op).1.bad = false := by
      show (!decide ((loadM (storeM M (w64 (c.r 15 - 8)) 8 520).1 (upd c.r 15 (w64 (c.r 15 - 8)) 15) 8).2 = 0)) = false
      rw [hu, hlb]; rfl
    rw [hb2] at s2
    have s2' : stepM (storeM M (w64 (c.r 15 - 8)) 8 520).1 ⟨upd c.r 15 (w64 (c.r 15 - 8)), (520 + 8 * w : Int)⟩ = (⟨upd (upd c.r 15 (w64 (c.r 15 - 8))) 15 (w64 (upd c.r 15 (w64 (c.r 15 - 8)) 15 + 8)), (loadM (storeM M (w64 (c.r 15 - 8)) 8 520).1 (upd c.r 15 (w64 (c.r 15 - 8)) 15) 8).1⟩, (0, 0), (storeM M (w64 (c.r 15 - 8)) 8 520).1) := s2
    rw [hu, hlb, upd_back (hok.r 15)] at s2'
    rw [s2']
    exact ⟨fun h => absurd h (by decide), fun _ => ⟨rfl, hu, rfl, rfl, hlb⟩⟩
  · have hb : ((run0 0 (iCall w) c).exec M (iCall w).op).1.bad = true := by
      show (!decide ((storeM M (w64 (c.r 15 - 8)) 8 (w64 (c.pc + 8))).2 = 0)) = true
      rw [decide_eq_false hst]; rfl
    rw [hb] at s1
    rw [s1]
    exact ⟨fun _ => rfl, fun h => absurd rfl h⟩
def iPush (a : Nat) : Ins := ⟨27, a, 0, 0, 0⟩
def iPop (a : Nat) : Ins := ⟨28, a, 0, 0, 0⟩
theorem pp_right {a b : Nat} (ha : a ≤ 15) (hb : b ≤ 15) : ∀ j ∈ [iPush a, iPop b], rightB j = true := by
  have h1 : ∀ a, a < 16 → rightB (iPush a) = true := by decide +kernel
  have h2 : ∀ a, a < 16 → rightB (iPop a) = true := by decide +kernel
  intro j hj
  simp only [List.mem_cons, List.not_mem_nil, or_false] at hj
  rcases hj with rfl | rfl
  · exact h1 a (by omega)
  · exact h2 b (by omega)
/-- a push and a pop -/
theorem stack_law {M : Mem} (hI : MInv M) {a b : Nat} (ha : a ≤ 15) (hb : b ≤ 14) (hc : CodeIn M (codeB ([iPush a, iPop b].map Ins.z))) {c : Cpu} (hok : CpuOk c) (hpc : c.pc = 512) :
    ((stepM M c).2.1.1 = 5 → (stepM M c).1 = c) ∧ ((stepM M c).2.1.1 ≠ 5 → (stepM (stepM M c).2.2 (stepM M c).1).2.1 = (0, 0) ∧ (stepM (stepM M c).2.2 (stepM M c).1).1 = ⟨upd c.r b (c.r a), 528⟩) := by
  have hr := pp_right ha (show b ≤ 15 by omega)
  have hf1 : fetchM M c.pc = (some (iPush a), 0) := by
    rw [hpc]; exact fetch_at hI hr hc (k := 0) rfl
  have s1 := step_at (by rw [hpc]; decide) hf1
  by_cases hst : (storeM M (w64 (c.r 15 - 8)) 8 (c.r a)).2 = 0
  · have hbd : ((run0 0 (iPush a) c).exec M (iPush a).op).1.bad = false := by
      show (!decide ((storeM M (w64 (c.r 15 - 8)) 8 (c.r a)).2 = 0)) = false
      rw [hst]; rfl
    rw [hbd] at s1
    have s1' : stepM M c = (⟨upd c.r 15 (w64 (c.r 15 - 8)), w64 (c.pc + 8)⟩, (0, 0), (storeM M (w64 (c.r 15 - 8)) 8 (c.r a)).1) := s1
    have e8 : w64 (c.pc + 8) = 520 := by rw [hpc]; decide
    rw [e8] at s1'
    rw [s1']
    dsimp only
    obtain ⟨hs, hwr⟩ := store_ok hst
    have hlb := load_back hI (n := c.r a) (s := 8) (hok.r a) hs hwr
    have hlb : loadM (storeM M (w64 (c.r 15 - 8)) 8 (c.r a)).1 (w64 (c.r 15 - 8)) 8 = (c.r a, 0) := hlb
    have hM : MemAs M (storeM M (w64 (c.r 15 - 8)) 8 (c.r a)).1 := memAs_store _ _ _ _
    have hf2 : fetchM (storeM M (w64 (c.r 15 - 8)) 8 (c.r a)).1 (520 : Int) = (some (iPop b), 0) := fetch_at (memAs_inv hI hM) hr (code_kept hI hc hM) (k := 1) rfl
    have s2 := step_at (c := ⟨upd c.r 15 (w64 (c.r 15 - 8)), 520⟩) (by show (520 : Int) ≠ 0; decide) hf2
    have hu : upd c.r 15 (w64 (c.r 15 - 8)) 15 = w64 (c.r 15 - 8) := by unfold upd; rw [if_pos rfl]
    have hb2 : ((run0 0 (iPop b) ⟨upd c.r 15 (w64 (c.r 15 - 8)), 520⟩).exec (storeM M (w64 (c.r 15 - 8)) 8 (c.r a)).1 (iPop b).op).1.bad = false := by
      show (!decide ((loadM (storeM M (w64 (c.r 15 - 8)) 8 (c.r a)).1 (upd c.r 15 (w64 (c.r 15 - 8)) 15) 8).2 = 0)) = false
      rw [hu, hlb]; rfl
    rw [hb2] at s2
    have s2' : stepM (storeM M (w64 (c.r 15 - 8)) 8 (c.r a)).1 ⟨upd c.r 15 (w64 (c.r 15 - 8)), 520⟩ = (⟨upd (upd (upd c.r 15 (w64 (c.r 15 - 8))) 15 (w64 (upd c.r 15 (w64 (c.r 15 - 8)) 15 + 8))) b (loadM (storeM M (w64 (c.r 15 - 8)) 8 (c.r a)).1 (upd c.r 15 (w64 (c.r 15 - 8)) 15) 8).1, 528⟩, (0, 0), (storeM M (w64 (c.r 15 - 8)) 8 (c.r a)).1) := s2
    rw [hu, hlb, upd_back (hok.r 15)] at s2'
    rw [s2']
    exact ⟨fun h => absurd h (by decide), fun _ => ⟨rfl, rfl⟩⟩
  · have hbd : ((run0 0 (iPush a) c).exec M (iPush a).op).1.bad = true := by
      show (!decide ((storeM M (w64 (c.r 15 - 8)) 8 (c.r a)).2 = 0)) = true
      rw [decide_eq_false hst]; rfl
    rw [hbd] at s1
    rw [s1]
    exact ⟨fun _ => rfl, fun h => absurd rfl h⟩
end Go.Lp
namespace Go.Lp
open Go.RowKit Go.Proofs.YtpgcoceggacplaaDoor Go.Sy
theorem eqInts_self (xs : Array Value) (l : List Nat) : eqInts xs xs l = true := by
  unfold eqInts
  refine List.all_eq_true.2 fun o _ => ?_
  cases intAt xs o with
  | none => rfl
  | some a => simp
end Go.Lp
namespace Go.Proofs.YtpgcoceggacplaaDoor
open Go.RowKit Go.Lp Go.Sy
def rowsK (w k : Nat) : List (List D) := (([iCall w] ++ List.replicate k iNop).map Ins.z).map insRow
@[simp] theorem rowsK_len (w k : Nat) : (rowsK w k).length = k + 1 := by simp [rowsK]
@[simp] theorem lCall_len (w : Nat) : (lCall w).length = w + 2 := by simp [lCall]
theorem rowsK_snoc (l : List Ins) (i : Ins) : ((l ++ [i]).map Ins.z).map insRow = (l.map Ins.z).map insRow ++ [insRow i.z] := by
  rw [List.map_append, List.map_append]; rfl
theorem rowsK_succ (w k : Nat) : rowsK w k ++ [[.v (.int .i64 1), .v (.int .i64 0), .v (.int .i64 0), .v (.int .i64 0), .v (.int .i64 0)]] = rowsK w (k + 1) := by
  unfold rowsK
  rw [List.replicate_succ', ← List.append_assoc, rowsK_snoc]; rfl
theorem rowsK_end (w : Nat) : rowsK w w ++ [[.v (.int .i64 26), .v (.int .i64 0), .v (.int .i64 0), .v (.int .i64 0), .v (.int .i64 0)]] = ((lCall w).map Ins.z).map insRow := by
  have e : lCall w = ([iCall w] ++ List.replicate w iNop) ++ [iRet] := by unfold lCall; rw [List.append_assoc]
  rw [e, rowsK_snoc]; rfl
def stgC (w : Nat) (stack : Int) (regs : List Int) : Stg := ⟨ofBytes (codeB ((lCall w).map Ins.z)), ⟨#[]⟩, stack, regs, 512⟩
theorem stgC_code {w : Nat} (hw : w ≤ 20) (stack : Int) (regs : List Int) (hf : fewS (stgC w stack regs) = true) : CodeIn (memS (stgC w stack regs)) (codeB ((lCall w).map Ins.z)) := by
  have h := codeB_at (lCall w) 0 (iCall w) (lCall_right hw) rfl
  exact memS_code hf (by show 1 ≤ (codeB ((lCall w).map Ins.z)).length; omega)
set_option maxHeartbeats 1000000 in
theorem calls_con (stack : Int) (regs : List Int) (ad : Option Addr) (c : Nat) (words : Int) (hr : ∀ z ∈ regs, I64 z) : Con Tryd.prog 4 [.int .i64 stack, .slice ad regs.length c, .int .i64 words] [Sh (.slice ad regs.length c) (.sl (irows regs)), formsAt] [] fun r _ _ => r = .bool true := by
  refine Con.enter Tryd.func4 rfl (by simp [Tryd.ntmps4]) ?_
  show awp _ _ _ _ ⟨[(0, true, _), (1, true, _), (2, true, _)], _, _⟩
  refine awp_seq ?_
  refine awp_region ?_
  refine aL_s true rfl rfl (fun _ => q_assign rfl) ?_
  refine aL_nil ?_
  refine thn_n ?_
  refine awp_seq ?_
  refine awp_region ?_
  refine aL_s true rfl rfl (fun _ => q_call (by kernel_rfl) rfl (fun w S fp hst => small29_fn.quiet1 (psAt 1 rfl) hst)) ?_
  refine aL_s true rfl rfl (fun _ => q_assign rfl) ?_
  refine aL_nil ?_
  refine thn_n ?_
  refine awp_seq ?_
  refine awp_seq ?_
  refine awp_region ?_
  refine aL_s true rfl rfl (fun _ => q_move rfl) ?_
  refine aL_s true rfl rfl (fun _ => q_lss rfl rfl) ?_
  refine aL_s true rfl rfl (fun _ => q_move rfl) ?_
  refine aL_s _ rfl rfl (fun hc => q_move rfl) ?_
  refine aL_s _ rfl rfl (fun hc => q_gtr (ev_yes rfl hc) rfl) ?_
  refine aL_s true rfl rfl (fun _ => q_or rfl rfl (fun h => gf rfl h)) ?_
  refine aL_s true rfl rfl (fun _ => q_move rfl) ?_
  refine aL_s _ rfl rfl (fun hc => q_move rfl) ?_
  refine aL_s _ rfl rfl (fun hc => q_gtr (ev_yes rfl hc) rfl) ?_
  refine aL_s true rfl rfl (fun _ => q_or rfl rfl (fun h => gf rfl h)) ?_
  refine aL_nil ?_
  refine thn_n ?_
  refine awp_cond _ rfl (fun h1 => ?_) (fun h1 => ?_)
  · skip
    refine awp_seq ?_
    refine awp_region ?_
    refine aL_s true rfl rfl (fun _ => q_move rfl) ?_
    refine aL_s true rfl rfl (fun _ => q_assign rfl) ?_
    refine aL_nil ?_
    refine thn_n ?_
    refine awp_ret ?_
    refine thn_r ?_
    refine fin1 [] [] rfl Tryd.results4 rfl ?_ (.inr rfl)
    rfl
  · skip
    have hw0 : 0 ≤ words ∧ words ≤ 20 ∧ stack ≤ 200 := by simp at h1; omega
    obtain ⟨w, rfl⟩ : ∃ w : Nat, words = w := ⟨words.toNat, by omega⟩
    have hw : w ≤ 20 := by omega
    clear h1
    refine awp_skip ?_
    refine thn_n ?_
    refine awp_seq ?_
    refine awp_region ?_
    refine aL_s true rfl rfl (fun _ => q_move rfl) ?_
    refine aL_s true rfl rfl (fun _ => q_addi rfl rfl (by omega)) ?_
    refine aL_s true rfl rfl (fun _ => q_muli rfl rfl (by omega)) ?_
    refine aL_s true rfl rfl (fun _ => q_bld (l := [(0, .const (.int .i64 22)), (4, .tmp 34)]) (zs := [.int .i64 0, .int .i64 0, .int .i64 0, .int .i64 0, .int .i64 0]) (pl := [(0, 1), (1, 1), (2, 1), (3, 1), (4, 1)]) (by kernel_rfl) (by kernel_rfl) (by kernel_rfl) rfl rfl rfl) ?_
    refine aL_eff (q := true) rfl (w_lit (zs := [.int .i64 0, .int .i64 0, .int .i64 0, .int .i64 0, .int .i64 0]) (l := [(0, .tmp 35)]) el40 (by kernel_rfl) (by decide) (by decide) (by decide) rfl rfl rfl (.more rfl (.v rfl (.v rfl (.v rfl (.v rfl (.v rfl .nil))))) .nil) rfl rfl (fun v4_4 => ?_))
    refine aL_hp (by simp only [List.cons_append, List.nil_append]; rfl) ?_
    refine aL_s true rfl rfl (fun _ => q_assign rfl) ?_
    refine aL_nil ?_
    refine thn_n ?_
    refine awp_seq ?_
    refine awp_seq ?_
    refine awp_region ?_
    refine aL_s true rfl rfl (fun _ => q_assign rfl) ?_
    refine aL_nil ?_
    refine thn_n ?_
    refine awp_block ?_
    refine awp_loopK [0, 1, 2, 7, 8, 9] [1, 0] [0] (fun (k : Nat) s => k ≤ w ∧ ∃ a' c', s = ⟨[(0, true, .int .i64 stack), (1, true, .slice ad regs.length c), (2, true, .int .i64 w), (7, true, .bool true), (8, true, .slice a' (k + 1) c'), (9, true, .int .i64 k)], [Sh (.slice ad regs.length c) (.sl (irows regs)), formsAt], [OwnS (.slice a' (k + 1) c') 39 5 (rowsK w k)]⟩) (fun k => w - k) rfl (⟨0, Nat.zero_le _, v4_4, 1, rfl⟩) ?_
    rintro k s ⟨hk, a', c', rfl⟩
    refine awp_seq ?_
    refine awp_seq ?_
    refine awp_region ?_
    refine aL_s true rfl rfl (fun _ => q_move rfl) ?_
    refine aL_s true rfl rfl (fun _ => q_move rfl) ?_
    refine aL_s true rfl rfl (fun _ => q_lss rfl rfl) ?_
    refine aL_nil ?_
    refine thn_n ?_
    refine awp_cond _ rfl (fun h2 => ?_) (fun h2 => ?_)
    · skip
      have hk' : k < w := by simp at h2; omega
      refine awp_skip ?_
      refine thn_n ?_
      refine awp_seq ?_
      refine awp_block ?_
      refine awp_region ?_
      refine aL_s true rfl rfl (fun _ => q_move rfl) ?_
      refine aL_s true rfl rfl (fun _ => q_bld (l := [(0, .const (.int .i64 1))]) (zs := [.int .i64 0, .int .i64 0, .int .i64 0, .int .i64 0, .int .i64 0]) (pl := [(0, 1), (1, 1), (2, 1), (3, 1), (4, 1)]) (by kernel_rfl) (by kernel_rfl) (by kernel_rfl) rfl rfl rfl) ?_
      refine aL_eff (q := true) rfl (w_lit (zs := [.int .i64 0, .int .i64 0, .int .i64 0, .int .i64 0, .int .i64 0]) (l := [(0, .tmp 43)]) el40 (by kernel_rfl) (by decide) (by decide) (by decide) rfl rfl rfl (.more rfl (.v rfl (.v rfl (.v rfl (.v rfl (.v rfl .nil))))) .nil) rfl rfl (fun v8_2 => ?_))
      refine aL_hp (by simp only [List.cons_append, List.nil_append]; rfl) ?_
      refine aL_eff rfl (w_append 0 el40 rfl rfl rfl rfl (w_srcO 1 el40 rfl (by simp)) (by first | assumption | simp) (by simp; omega) (k + 1 + 1) (by simp) (fun v8_3 c8_3 => ?_))
      refine aL_hp (by simp only [List.set_cons_succ, List.set_cons_zero]; rfl) ?_
      refine aL_s true rfl rfl (fun _ => q_assign rfl) ?_
      refine aL_nil ?_
      refine blk_n ?_
      refine thn_n ?_
      refine awp_region ?_
      refine aL_s true rfl rfl (fun _ => q_move rfl) ?_
      refine aL_s true rfl rfl (fun _ => q_addi rfl rfl (by omega)) ?_
      refine aL_s true rfl rfl (fun _ => q_assign rfl) ?_
      refine aL_nil ?_
      refine thn_n ?_
      refine ⟨[0, 1, 2, 7, 8, 9], [1, 0], [0], rfl, ?_⟩
      refine ⟨k + 1, ⟨by omega, v8_3, c8_3, ?_⟩, by omega⟩
      rw [← rowsK_succ]; rfl
    · skip
      refine awp_exit ?_
      refine thn_e ?_
      refine thn_e ?_
      refine blk_hit ?_
      refine thn_n ?_
      refine awp_seq ?_
      obtain rfl : k = w := by simp at h2; omega
      refine awp_region ?_
      refine aL_s true rfl rfl (fun _ => q_move rfl) ?_
      refine aL_s true rfl rfl (fun _ => q_bld (l := [(0, .const (.int .i64 26))]) (zs := [.int .i64 0, .int .i64 0, .int .i64 0, .int .i64 0, .int .i64 0]) (pl := [(0, 1), (1, 1), (2, 1), (3, 1), (4, 1)]) (by kernel_rfl) (by kernel_rfl) (by kernel_rfl) rfl rfl rfl) ?_
      refine aL_eff (q := true) rfl (w_lit (zs := [.int .i64 0, .int .i64 0, .int .i64 0, .int .i64 0, .int .i64 0]) (l := [(0, .tmp 47)]) el40 (by kernel_rfl) (by decide) (by decide) (by decide) rfl rfl rfl (.more rfl (.v rfl (.v rfl (.v rfl (.v rfl (.v rfl .nil))))) .nil) rfl rfl (fun v9_2 => ?_))
      refine aL_hp (by simp only [List.cons_append, List.nil_append]; rfl) ?_
      refine aL_eff rfl (w_append 0 el40 rfl rfl rfl rfl (w_srcO 1 el40 rfl (by simp)) (by first | assumption | simp) (by simp; omega) (((lCall k).map Ins.z).length) (by simp) (fun v9_3 c9_3 => ?_))
      refine aL_hp (by simp only [List.set_cons_succ, List.set_cons_zero]; rfl) ?_
      refine aL_s true rfl rfl (fun _ => q_call (by kernel_rfl) rfl (fun w S fp hst => (by rw [rowsK_end] at hst; exact (code_fn ((lCall k).map Ins.z) v9_3 c9_3 (fun z hz => by obtain ⟨j, hj, rfl⟩ := List.mem_map.1 hz; have := fits_of (lCall_right hw j hj); unfold I64; show -9223372036854775808 ≤ j.imm ∧ j.imm ≤ 9223372036854775807; omega) (by simp; omega)).quiet1 (.head _) (st_share hst 0 rfl)))) ?_
      refine aL_s true rfl rfl (fun _ => q_move rfl) ?_
      refine aL_s true rfl rfl (fun _ => q_move rfl) ?_
      refine aL_s true rfl rfl (fun _ => q_bld (l := [(0, .tmp 50), (2, .tmp 51), (3, .tmp 52), (4, .const (.int .i64 512))]) (zs := [.string .empty, .string .empty, .int .i64 0, .slice none 0 0, .int .i64 0]) (pl := [(0, 1), (1, 1), (2, 1), (3, 1), (4, 1)]) (by kernel_rfl) (by kernel_rfl) (by kernel_rfl) rfl rfl rfl) ?_
      refine aL_eff (q := true) rfl (x_alloc (zs := [.string .empty, .string .empty, .int .i64 0, .slice none 0 0, .int .i64 0]) (by kernel_rfl) rfl (fun b9_8 => ?_))
      refine aL_hp (by simp only [List.cons_append, List.nil_append]; rfl) ?_
      refine aL_eff rfl (x_store 2 tk24 rfl rfl rfl rfl ?_)
      refine aL_hp (by simp only [List.set_cons_succ, List.set_cons_zero]; rfl) ?_
      refine aL_nil ?_
      refine thn_n ?_
      refine awp_seq ?_
      refine awp_seq ?_
      refine awp_region ?_
      refine aL_s true rfl rfl (fun _ => q_load 2 tk24 rfl rfl rfl) ?_
      refine aL_s true rfl rfl (fun _ => q_call (by kernel_rfl) rfl (fun w S fp hst => (few29_fn (stgC k stack regs) ad c).quiet0 hst)) ?_
      refine aL_s true rfl rfl (fun _ => q_not rfl) ?_
      refine aL_nil ?_
      refine thn_n ?_
      refine awp_cond _ rfl (fun h3 => ?_) (fun h3 => ?_)
      · skip
        refine awp_seq ?_
        refine awp_region ?_
        refine aL_s true rfl rfl (fun _ => q_move rfl) ?_
        refine aL_s true rfl rfl (fun _ => q_assign rfl) ?_
        refine aL_nil ?_
        refine thn_n ?_
        refine awp_ret ?_
        refine thn_r ?_
        refine fin1 [] [] rfl Tryd.results4 rfl ?_ (.inr rfl)
        rfl
      · skip
        have hf : fewS (stgC k stack regs) = true := by simpa using h3
        obtain ⟨f1, f2, f3, f4⟩ := few_of hf
        have hok : CpuOk (cpuS (stgC k stack regs)) := cpuK_ok _ _ hr (by show I64 512; unfold I64; omega)
        have law := Lib.hid (calls_law (memS_inv hf) hw (stgC_code hw stack regs hf) hok rfl)
        have hok1 := Lib.hid (step_ok hok (memS (stgC k stack regs)))
        refine awp_skip ?_
        refine thn_n ?_
        refine awp_seq ?_
        refine awp_region ?_
        refine aL_s true rfl rfl (fun _ => q_load 2 tk24 rfl rfl rfl) ?_
        refine aL_eff (q := true) rfl (e_call [] [] (by kernel_rfl) rfl rfl rfl rfl (memory_fn (stgC k stack regs) ad c (by omega) (by omega)) ?_)
        rintro v ps' hp' ⟨rfl, p, rfl, rfl⟩
        refine aL_st (by (try simp only [List.cons_append, List.nil_append]); rfl) (by (try simp only [putB, place, Nat.reduceBEq, Bool.false_eq_true, if_true, if_false, reduceIte, Option.map_none, Option.map_some, List.getD_cons_zero, List.getD_cons_succ, List.drop_succ_cons, List.drop_zero, List.length_cons, List.length_nil, Nat.reduceAdd, List.drop_nil, beq_self_eq_true, List.set_cons_succ, List.set_cons_zero, List.cons_append, List.nil_append]); rfl) ?_
        refine aL_s true rfl rfl (fun _ => q_assign rfl) ?_
        refine aL_nil ?_
        refine thn_n ?_
        refine awp_seq ?_
        refine awp_seq ?_
        refine awp_region ?_
        refine aL_s true rfl rfl (fun _ => q_move rfl) ?_
        refine aL_s true rfl rfl (fun _ => q_ptrNil (by kernel_rfl) rfl) ?_
        refine aL_nil ?_
        refine thn_n ?_
        refine awp_cond _ rfl (fun h4 => ?_) (fun h4 => ?_)
        · skip
          exact absurd h4 (by simp)
        · skip
          refine awp_skip ?_
          refine thn_n ?_
          refine awp_seq ?_
          refine awp_region ?_
          refine aL_s true rfl rfl (fun _ => q_load 2 tk24 rfl rfl rfl) ?_
          refine aL_s true rfl rfl (fun _ => q_call (by kernel_rfl) rfl (fun w S fp hst => (cpu_fn (stgC k stack regs) ad c).quiet1 (psAt 0 rfl) hst)) ?_
          refine aL_eff (q := true) rfl (x_alloc (zs := [.int .i64 0, .int .i64 0, .int .i64 0, .int .i64 0, .int .i64 0, .int .i64 0, .int .i64 0, .int .i64 0, .int .i64 0, .int .i64 0, .int .i64 0, .int .i64 0, .int .i64 0, .int .i64 0, .int .i64 0, .int .i64 0, .int .i64 0]) (by kernel_rfl) rfl (fun b15_2 => ?_))
          refine aL_hp (by simp only [List.cons_append, List.nil_append]; rfl) ?_
          refine aL_eff rfl (x_store 4 tk32 rfl rfl rfl rfl ?_)
          refine aL_hp (by simp only [List.set_cons_succ, List.set_cons_zero]; rfl) ?_
          refine aL_nil ?_
          refine thn_n ?_
          refine awp_seq ?_
          generalize hC : cpuS (stgC k stack regs) = C at hok hok1 law ⊢
          generalize hM : memS (stgC k stack regs) = M at hok1 law ⊢
          refine awp_region ?_
          refine aL_s true rfl rfl (fun _ => q_move rfl) ?_
          refine aL_s true rfl rfl (fun _ => q_load 4 tk32 rfl rfl rfl) ?_
          refine aL_eff (q := false) rfl (e_call [0] [3] (by kernel_rfl) rfl rfl rfl rfl (step_fn p M C hok) ?_)
          rintro v ps' hp' ⟨rfl, rfl, rfl⟩; generalize hS1 : stepM M C = S1 at hok1 law ⊢
          refine aL_st (by (try simp only [List.cons_append, List.nil_append]); rfl) (by (try simp only [putB, place, Nat.reduceBEq, Bool.false_eq_true, if_true, if_false, reduceIte, Option.map_none, Option.map_some, List.getD_cons_zero, List.getD_cons_succ, List.drop_succ_cons, List.drop_zero, List.length_cons, List.length_nil, Nat.reduceAdd, List.drop_nil, beq_self_eq_true, List.set_cons_succ, List.set_cons_zero, List.cons_append, List.nil_append]); rfl) ?_
          refine aL_s true rfl rfl (fun _ => q_move rfl) ?_
          refine aL_s true rfl rfl (fun _ => q_extract rfl rfl) ?_
          refine aL_s true rfl rfl (fun _ => q_extract rfl rfl) ?_
          refine aL_eff (q := true) rfl (x_alloc (zs := [.int .i64 0, .int .i64 0, .int .i64 0, .int .i64 0, .int .i64 0, .int .i64 0, .int .i64 0, .int .i64 0, .int .i64 0, .int .i64 0, .int .i64 0, .int .i64 0, .int .i64 0, .int .i64 0, .int .i64 0, .int .i64 0, .int .i64 0]) (by kernel_rfl) rfl (fun b16_6 => ?_))
          refine aL_hp (by simp only [List.cons_append, List.nil_append]; rfl) ?_
          refine aL_eff (q := true) rfl (x_alloc (zs := [.int .i64 0, .int .i64 0]) (by kernel_rfl) rfl (fun b16_7 => ?_))
          refine aL_hp (by simp only [List.cons_append, List.nil_append]; rfl) ?_
          refine aL_eff rfl (x_store 5 tk32 rfl rfl rfl rfl ?_)
          refine aL_hp (by simp only [List.set_cons_succ, List.set_cons_zero]; rfl) ?_
          refine aL_eff rfl (x_store 6 tk34 rfl rfl rfl rfl ?_)
          refine aL_hp (by simp only [List.set_cons_succ, List.set_cons_zero]; rfl) ?_
          refine aL_nil ?_
          refine thn_n ?_
          refine awp_seq ?_
          refine awp_seq ?_
          refine awp_region ?_
          refine aL_s true rfl rfl (fun _ => q_fieldAddr (off := 0) (by kernel_rfl) rfl) ?_
          refine aL_s true rfl rfl (fun _ => q_load 6 tk3 rfl rfl rfl) ?_
          refine aL_s true rfl rfl (fun _ => q_eql rfl rfl) ?_
          refine aL_nil ?_
          refine thn_n ?_
          refine awp_cond _ rfl (fun h5 => ?_) (fun h5 => ?_)
          · skip
            refine awp_seq ?_
            refine awp_region ?_
            refine aL_s true rfl rfl (fun _ => q_move rfl) ?_
            refine aL_s true rfl rfl (fun _ => q_move rfl) ?_
            refine aL_s _ rfl rfl (fun hc => q_load 5 tk32 rfl rfl rfl) ?_
            refine aL_s _ rfl rfl (fun hc => q_load 4 tk32 rfl rfl rfl) ?_
            refine aL_s _ rfl rfl (fun hc => qa_eql (by kernel_rfl) (by kernel_rfl) (by kernel_rfl) (fun w => eqFields_mix 9997 _ _ _ [0, 1, 2, 3, 4, 5, 6, 7, 8, 9, 10, 11, 12, 13, 14, 15, 16] w (by kernel_rfl) (by kernel_rfl) rfl rfl) (ev_yes rfl hc) (ev_yes rfl hc)) ?_
            refine aL_s true rfl rfl (fun _ => q_and rfl rfl (fun h => gt rfl h)) ?_
            refine aL_s true rfl rfl (fun _ => q_assign rfl) ?_
            refine aL_nil ?_
            refine thn_n ?_
            refine awp_ret ?_
            refine thn_r ?_
            refine fin1 [] [] rfl Tryd.results4 rfl ?_ (.inr rfl)
            refine congrArg Value.bool ?_
            have h5 : S1.2.1.1 = 5 := by simpa using h5
            rw [law.out.1 h5]
            simp [eqInts_self]
          · skip
            refine awp_skip ?_
            refine thn_n ?_
            refine awp_seq ?_
            refine awp_region ?_
            refine aL_s true rfl rfl (fun _ => q_move rfl) ?_
            refine aL_s true rfl rfl (fun _ => q_load 5 tk32 rfl rfl rfl) ?_
            refine aL_eff (q := false) rfl (e_call [0] [3] (by kernel_rfl) rfl rfl rfl rfl (step_fn p S1.2.2 S1.1 hok1.out) ?_)
            rintro v ps' hp' ⟨rfl, rfl, rfl⟩; generalize hS2 : stepM S1.2.2 S1.1 = S2 at law ⊢
            refine aL_st (by (try simp only [List.cons_append, List.nil_append]); rfl) (by (try simp only [putB, place, Nat.reduceBEq, Bool.false_eq_true, if_true, if_false, reduceIte, Option.map_none, Option.map_some, List.getD_cons_zero, List.getD_cons_succ, List.drop_succ_cons, List.drop_zero, List.length_cons, List.length_nil, Nat.reduceAdd, List.drop_nil, beq_self_eq_true, List.set_cons_succ, List.set_cons_zero, List.cons_append, List.nil_append]); rfl) ?_
            refine aL_s true rfl rfl (fun _ => q_move rfl) ?_
            refine aL_s true rfl rfl (fun _ => q_extract rfl rfl) ?_
            refine aL_s true rfl rfl (fun _ => q_extract rfl rfl) ?_
            refine aL_eff (q := true) rfl (x_alloc (zs := [.int .i64 0, .int .i64 0, .int .i64 0, .int .i64 0, .int .i64 0, .int .i64 0, .int .i64 0, .int .i64 0, .int .i64 0, .int .i64 0, .int .i64 0, .int .i64 0, .int .i64 0, .int .i64 0, .int .i64 0, .int .i64 0, .int .i64 0]) (by kernel_rfl) rfl (fun b19_6 => ?_))
            refine aL_hp (by simp only [List.cons_append, List.nil_append]; rfl) ?_
            refine aL_eff (q := true) rfl (x_alloc (zs := [.int .i64 0, .int .i64 0]) (by kernel_rfl) rfl (fun b19_7 => ?_))
            refine aL_hp (by simp only [List.cons_append, List.nil_append]; rfl) ?_
            refine aL_eff rfl (x_store 7 tk32 rfl rfl rfl rfl ?_)
            refine aL_hp (by simp only [List.set_cons_succ, List.set_cons_zero]; rfl) ?_
            refine aL_eff rfl (x_store 8 tk34 rfl rfl rfl rfl ?_)
            refine aL_hp (by simp only [List.set_cons_succ, List.set_cons_zero]; rfl) ?_
            refine aL_nil ?_
            refine thn_n ?_
            refine awp_seq ?_
            refine awp_region ?_
            refine aL_s true rfl rfl (fun _ => q_move rfl) ?_
            refine aL_s true rfl rfl (fun _ => q_fieldAddr (off := 0) (by kernel_rfl) rfl) ?_
            refine aL_s true rfl rfl (fun _ => q_idxArr (15) Tryd.underlying30 tk3 rfl rfl (rfl) (by decide)) ?_
            refine aL_s true rfl rfl (fun _ => q_load 4 tk3 rfl rfl rfl) ?_
            refine aL_s true rfl rfl (fun _ => q_sub rfl rfl) ?_
            refine aL_s true rfl rfl (fun _ => q_call (by kernel_rfl) rfl (fun w S fp hst => q_spload hst 3 rfl _ 8 (wrap_in _))) ?_
            refine aL_s true rfl rfl (fun _ => q_move rfl) ?_
            refine aL_s true rfl rfl (fun _ => q_extract rfl rfl) ?_
            refine aL_s true rfl rfl (fun _ => q_extract rfl rfl) ?_
            refine aL_s true rfl rfl (fun _ => q_assign rfl) ?_
            refine aL_s true rfl rfl (fun _ => q_assign rfl) ?_
            refine aL_nil ?_
            refine thn_n ?_
            refine awp_seq ?_
            refine awp_region ?_
            refine aL_s true rfl rfl (fun _ => q_load 4 tk32 rfl rfl rfl) ?_
            refine aL_eff (q := true) rfl (x_alloc (zs := [.int .i64 0, .int .i64 0, .int .i64 0, .int .i64 0, .int .i64 0, .int .i64 0, .int .i64 0, .int .i64 0, .int .i64 0, .int .i64 0, .int .i64 0, .int .i64 0, .int .i64 0, .int .i64 0, .int .i64 0, .int .i64 0, .int .i64 0]) (by kernel_rfl) rfl (fun b21_1 => ?_))
            refine aL_hp (by simp only [List.cons_append, List.nil_append]; rfl) ?_
            refine aL_eff rfl (x_store 9 tk32 rfl rfl rfl rfl ?_)
            refine aL_hp (by simp only [List.set_cons_succ, List.set_cons_zero]; rfl) ?_
            refine aL_nil ?_
            refine thn_n ?_
            refine awp_seq ?_
            refine awp_region ?_
            refine aL_s true rfl rfl (fun _ => q_fieldAddr (off := 16) (by kernel_rfl) rfl) ?_
            refine aL_eff rfl (x_store 9 tk3 rfl rfl rfl rfl ?_)
            refine aL_hp (by simp only [List.set_cons_succ, List.set_cons_zero]; rfl) ?_
            refine aL_nil ?_
            refine thn_n ?_
            refine awp_seq ?_
            refine awp_region ?_
            refine aL_s true rfl rfl (fun _ => q_move rfl) ?_
            refine aL_s true rfl rfl (fun _ => q_move rfl) ?_
            refine aL_s _ rfl rfl (fun hc => q_fieldAddr (off := 16) (by kernel_rfl) rfl) ?_
            refine aL_s _ rfl rfl (fun hc => q_load 5 tk3 (ev_yes rfl hc) rfl rfl) ?_
            refine aL_s _ rfl rfl (fun hc => q_move rfl) ?_
            refine aL_s _ rfl rfl (fun hc => q_muli rfl (ev_yes rfl hc) (by (first | omega | (simp at hc; omega)))) ?_
            refine aL_s _ rfl rfl (fun hc => q_addi rfl (ev_yes rfl hc) (by (first | omega | (simp at hc; omega)))) ?_
            refine aL_s _ rfl rfl (fun hc => q_eql (ev_yes rfl hc) (ev_yes rfl hc)) ?_
            refine aL_s true rfl rfl (fun _ => q_and rfl rfl (fun h => gt rfl h)) ?_
            refine aL_s true rfl rfl (fun _ => q_move rfl) ?_
            refine aL_s _ rfl rfl (fun hc => q_fieldAddr (off := 0) (by kernel_rfl) rfl) ?_
            refine aL_s _ rfl rfl (fun hc => q_idxArr (15) Tryd.underlying30 tk3 (ev_yes rfl hc) rfl (rfl) (by decide)) ?_
            refine aL_s _ rfl rfl (fun hc => q_load 5 tk3 (ev_yes rfl hc) rfl rfl) ?_
            refine aL_s _ rfl rfl (fun hc => q_fieldAddr (off := 0) (by kernel_rfl) rfl) ?_
            refine aL_s _ rfl rfl (fun hc => q_idxArr (15) Tryd.underlying30 tk3 (ev_yes rfl hc) rfl (rfl) (by decide)) ?_
            refine aL_s _ rfl rfl (fun hc => q_load 4 tk3 (ev_yes rfl hc) rfl rfl) ?_
            refine aL_s _ rfl rfl (fun hc => q_sub (ev_yes rfl hc) rfl) ?_
            refine aL_s _ rfl rfl (fun hc => q_eql (ev_yes rfl hc) (ev_yes rfl hc)) ?_
            refine aL_s true rfl rfl (fun _ => q_and rfl rfl (fun h => gt rfl h)) ?_
            refine aL_s true rfl rfl (fun _ => q_move rfl) ?_
            refine aL_s _ rfl rfl (fun hc => q_move rfl) ?_
            refine aL_s _ rfl rfl (fun hc => q_eql (ev_yes rfl hc) rfl) ?_
            refine aL_s true rfl rfl (fun _ => q_and rfl rfl (fun h => gt rfl h)) ?_
            refine aL_s true rfl rfl (fun _ => q_move rfl) ?_
            refine aL_s _ rfl rfl (fun hc => q_move rfl) ?_
            refine aL_s _ rfl rfl (fun hc => q_eql (ev_yes rfl hc) rfl) ?_
            refine aL_s true rfl rfl (fun _ => q_and rfl rfl (fun h => gt rfl h)) ?_
            refine aL_s true rfl rfl (fun _ => q_move rfl) ?_
            refine aL_s _ rfl rfl (fun hc => q_load 8 tk34 rfl rfl rfl) ?_
            refine aL_s _ rfl rfl (fun hc => q_bld (l := []) (zs := [.int .i64 0, .int .i64 0]) (pl := [(0, 1), (1, 1)]) (by kernel_rfl) (by kernel_rfl) (by kernel_rfl) rfl rfl rfl) ?_
            refine aL_s _ rfl rfl (fun hc => qa_eql (by kernel_rfl) (by kernel_rfl) (by kernel_rfl) (fun w => eqFields_mix 9997 _ _ _ [0, 1] w (by kernel_rfl) (by kernel_rfl) rfl rfl) (ev_yes rfl hc) (ev_yes rfl hc)) ?_
            refine aL_s true rfl rfl (fun _ => q_and rfl rfl (fun h => gt rfl h)) ?_
            refine aL_s true rfl rfl (fun _ => q_move rfl) ?_
            refine aL_s _ rfl rfl (fun hc => q_load 7 tk32 rfl rfl rfl) ?_
            refine aL_s _ rfl rfl (fun hc => q_load 9 tk32 rfl rfl rfl) ?_
            refine aL_s _ rfl rfl (fun hc => qa_eql (by kernel_rfl) (by kernel_rfl) (by kernel_rfl) (fun w => eqFields_mix 9997 _ _ _ [0, 1, 2, 3, 4, 5, 6, 7, 8, 9, 10, 11, 12, 13, 14, 15, 16] w (by kernel_rfl) (by kernel_rfl) rfl rfl) (ev_yes rfl hc) (ev_yes rfl hc)) ?_
            refine aL_s true rfl rfl (fun _ => q_and rfl rfl (fun h => gt rfl h)) ?_
            refine aL_s true rfl rfl (fun _ => q_assign rfl) ?_
            refine aL_nil ?_
            refine thn_n ?_
            refine awp_ret ?_
            refine fin1 [] [] rfl Tryd.results4 rfl ?_ (.inr rfl)
            refine congrArg Value.bool ?_
            have h5 : S1.2.1.1 ≠ 5 := by simpa using h5
            obtain ⟨g1, g2, g3, g4, g5⟩ := law.out.2 h5
            simp [g1, g2, g3, g4, g5, eqInts_self]
end Go.Proofs.YtpgcoceggacplaaDoor
namespace Go.Proofs.YtpgcoceggacplaaDoor
open Go.RowKit Go.Lp Go.Sy
theorem cpu_wr (c : Cpu) (n : Int) {k : Nat} (hk : k < 16) : wrC (cpuV c) k [.int .i64 n] = cpuV (c.set k n) := by
  rw [← cpuV_set c n hk]
  unfold wrC
  rw [List.set_eq_take_append_cons_drop, if_pos (show k < (cpuV c).length by rw [show (cpuV c).length = 17 from rfl]; omega)]
  rfl
def zPP (f t : Int) : List InsZ := [⟨27, f, 0, 0, 0⟩, ⟨28, t, 0, 0, 0⟩]
def stgP (f t stack : Int) (regs : List Int) : Stg := ⟨ofBytes (codeB (zPP f t)), ⟨#[]⟩, stack, regs, 512⟩
theorem zPP_imm (f t : Int) : ∀ z ∈ zPP f t, I64 z.imm := fun z hz => by
  simp only [zPP, List.mem_cons, List.not_mem_nil, or_false] at hz
  unfold I64
  rcases hz with rfl | rfl <;> (show -9223372036854775808 ≤ (0 : Int) ∧ (0 : Int) ≤ 9223372036854775807; decide)
theorem stgP_code {a b : Nat} (ha : a ≤ 15) (hb : b ≤ 14) (stack : Int) (regs : List Int) (hf : fewS (stgP a b stack regs) = true) : CodeIn (memS (stgP a b stack regs)) (codeB ([iPush a, iPop b].map Ins.z)) := by
  have h := codeB_at [iPush a, iPop b] 0 (iPush a) (pp_right ha (by omega)) rfl
  exact memS_code hf (by show 1 ≤ (codeB ([iPush a, iPop b].map Ins.z)).length; omega)
set_option maxHeartbeats 1000000 in
theorem stack_con (stack : Int) (regs : List Int) (ad : Option Addr) (c : Nat) (f t : Int) (hr : ∀ z ∈ regs, I64 z) : Con Tryd.prog 5 [.int .i64 stack, .slice ad regs.length c, .int .i64 f, .int .i64 t] [Sh (.slice ad regs.length c) (.sl (irows regs)), formsAt] [] fun r _ _ => r = .bool true := by
  refine Con.enter Tryd.func5 rfl (by simp [Tryd.ntmps5]) ?_
  show awp _ _ _ _ ⟨[(0, true, _), (1, true, _), (2, true, _), (3, true, _)], _, _⟩
  refine awp_seq ?_
  refine awp_region ?_
  refine aL_s true rfl rfl (fun _ => q_assign rfl) ?_
  refine aL_nil ?_
  refine thn_n ?_
  refine awp_seq ?_
  refine awp_region ?_
  refine aL_s true rfl rfl (fun _ => q_call (by kernel_rfl) rfl (fun w S fp hst => small29_fn.quiet1 (psAt 1 rfl) hst)) ?_
  refine aL_s true rfl rfl (fun _ => q_assign rfl) ?_
  refine aL_nil ?_
  refine thn_n ?_
  refine awp_seq ?_
  refine awp_region ?_
  refine aL_s true rfl rfl (fun _ => q_move rfl) ?_
  refine aL_s true rfl rfl (fun _ => q_bld (l := [(0, .const (.int .i64 27)), (1, .tmp 19)]) (zs := [.int .i64 0, .int .i64 0, .int .i64 0, .int .i64 0, .int .i64 0]) (pl := [(0, 1), (1, 1), (2, 1), (3, 1), (4, 1)]) (by kernel_rfl) (by kernel_rfl) (by kernel_rfl) rfl rfl rfl) ?_
  refine aL_s true rfl rfl (fun _ => q_move rfl) ?_
  refine aL_s true rfl rfl (fun _ => q_bld (l := [(0, .const (.int .i64 28)), (1, .tmp 21)]) (zs := [.int .i64 0, .int .i64 0, .int .i64 0, .int .i64 0, .int .i64 0]) (pl := [(0, 1), (1, 1), (2, 1), (3, 1), (4, 1)]) (by kernel_rfl) (by kernel_rfl) (by kernel_rfl) rfl rfl rfl) ?_
  refine aL_eff (q := true) rfl (w_lit (zs := [.int .i64 0, .int .i64 0, .int .i64 0, .int .i64 0, .int .i64 0]) (l := [(0, .tmp 20), (1, .tmp 22)]) el40 (by kernel_rfl) (by decide) (by decide) (by decide) rfl rfl rfl (.more rfl (.v rfl (.v rfl (.v rfl (.v rfl (.v rfl .nil))))) (.more rfl (.v rfl (.v rfl (.v rfl (.v rfl (.v rfl .nil))))) .nil)) rfl rfl (fun v2_4 => ?_))
  refine aL_hp (by simp only [List.cons_append, List.nil_append]; rfl) ?_
  refine aL_s true rfl rfl (fun _ => q_call (by kernel_rfl) rfl (fun w S fp hst => (code_fn (zPP f t) v2_4 2 (zPP_imm f t) (by show 2 ≤ 1000; omega)).quiet1 (.head _) (st_share hst 0 rfl))) ?_
  refine aL_s true rfl rfl (fun _ => q_move rfl) ?_
  refine aL_s true rfl rfl (fun _ => q_move rfl) ?_
  refine aL_s true rfl rfl (fun _ => q_bld (l := [(0, .tmp 24), (2, .tmp 25), (3, .tmp 26), (4, .const (.int .i64 512))]) (zs := [.string .empty, .string .empty, .int .i64 0, .slice none 0 0, .int .i64 0]) (pl := [(0, 1), (1, 1), (2, 1), (3, 1), (4, 1)]) (by kernel_rfl) (by kernel_rfl) (by kernel_rfl) rfl rfl rfl) ?_
  refine aL_eff (q := true) rfl (x_alloc (zs := [.string .empty, .string .empty, .int .i64 0, .slice none 0 0, .int .i64 0]) (by kernel_rfl) rfl (fun b2_9 => ?_))
  refine aL_hp (by simp only [List.cons_append, List.nil_append]; rfl) ?_
  refine aL_eff rfl (x_store 1 tk24 rfl rfl rfl rfl ?_)
  refine aL_hp (by simp only [List.set_cons_succ, List.set_cons_zero]; rfl) ?_
  refine aL_nil ?_
  refine thn_n ?_
  refine awp_seq ?_
  refine awp_seq ?_
  refine awp_region ?_
  refine aL_s true rfl rfl (fun _ => q_load 1 tk24 rfl rfl rfl) ?_
  refine aL_s true rfl rfl (fun _ => q_call (by kernel_rfl) rfl (fun w S fp hst => (few29_fn (stgP f t stack regs) ad c).quiet0 hst)) ?_
  refine aL_s true rfl rfl (fun _ => q_not rfl) ?_
  refine aL_s true rfl rfl (fun _ => q_move rfl) ?_
  refine aL_s _ rfl rfl (fun hc => q_move rfl) ?_
  refine aL_s _ rfl rfl (fun hc => q_lss (ev_yes rfl hc) rfl) ?_
  refine aL_s true rfl rfl (fun _ => q_or rfl rfl (fun h => gf rfl h)) ?_
  refine aL_s true rfl rfl (fun _ => q_move rfl) ?_
  refine aL_s _ rfl rfl (fun hc => q_move rfl) ?_
  refine aL_s _ rfl rfl (fun hc => q_gtr (ev_yes rfl hc) rfl) ?_
  refine aL_s true rfl rfl (fun _ => q_or rfl rfl (fun h => gf rfl h)) ?_
  refine aL_s true rfl rfl (fun _ => q_move rfl) ?_
  refine aL_s _ rfl rfl (fun hc => q_move rfl) ?_
  refine aL_s _ rfl rfl (fun hc => q_lss (ev_yes rfl hc) rfl) ?_
  refine aL_s true rfl rfl (fun _ => q_or rfl rfl (fun h => gf rfl h)) ?_
  refine aL_s true rfl rfl (fun _ => q_move rfl) ?_
  refine aL_s _ rfl rfl (fun hc => q_move rfl) ?_
  refine aL_s _ rfl rfl (fun hc => q_gtr (ev_yes rfl hc) rfl) ?_
  refine aL_s true rfl rfl (fun _ => q_or rfl rfl (fun h => gf rfl h)) ?_
  refine aL_nil ?_
  refine thn_n ?_
  refine awp_cond _ rfl (fun h1 => ?_) (fun h1 => ?_)
  · skip
    refine awp_seq ?_
    refine awp_region ?_
    refine aL_s true rfl rfl (fun _ => q_move rfl) ?_
    refine aL_s true rfl rfl (fun _ => q_assign rfl) ?_
    refine aL_nil ?_
    refine thn_n ?_
    refine awp_ret ?_
    refine thn_r ?_
    refine fin1 [] [] rfl Tryd.results5 rfl ?_ (.inr rfl)
    rfl
  · skip
    have hw0 : fewS (stgP f t stack regs) = true ∧ 0 ≤ f ∧ f ≤ 15 ∧ 0 ≤ t ∧ t ≤ 14 := by
      simp only [Bool.or_eq_false_iff, Bool.not_eq_false', decide_eq_false_iff_not] at h1
      obtain ⟨⟨⟨⟨q0, q1⟩, q2⟩, q3⟩, q4⟩ := h1
      exact ⟨q0, by omega, by omega, by omega, by omega⟩
    obtain ⟨hf, r1, r2, r3, r4⟩ := hw0
    obtain ⟨a, rfl⟩ : ∃ a : Nat, f = a := ⟨f.toNat, by omega⟩
    obtain ⟨b, rfl⟩ : ∃ b : Nat, t = b := ⟨t.toNat, by omega⟩
    have ha : a ≤ 15 := by omega
    have hb : b ≤ 14 := by omega
    clear h1
    obtain ⟨f1, f2, f3, f4⟩ := few_of hf
    have hok : CpuOk (cpuS (stgP a b stack regs)) := cpuK_ok _ _ hr (by show I64 512; unfold I64; omega)
    have law := Lib.hid (stack_law (memS_inv hf) ha hb (stgP_code ha hb stack regs hf) hok rfl)
    have hok1 := Lib.hid (step_ok hok (memS (stgP a b stack regs)))
    refine awp_skip ?_
    refine thn_n ?_
    refine awp_seq ?_
    refine awp_region ?_
    refine aL_s true rfl rfl (fun _ => q_load 1 tk24 rfl rfl rfl) ?_
    refine aL_eff (q := true) rfl (e_call [] [] (by kernel_rfl) rfl rfl rfl rfl (memory_fn (stgP a b stack regs) ad c (by omega) (by omega)) ?_)
    rintro v ps' hp' ⟨rfl, p, rfl, rfl⟩
    refine aL_st (by (try simp only [List.cons_append, List.nil_append]); rfl) (by (try simp only [putB, place, Nat.reduceBEq, Bool.false_eq_true, if_true, if_false, reduceIte, Option.map_none, Option.map_some, List.getD_cons_zero, List.getD_cons_succ, List.drop_succ_cons, List.drop_zero, List.length_cons, List.length_nil, Nat.reduceAdd, List.drop_nil, beq_self_eq_true, List.set_cons_succ, List.set_cons_zero, List.cons_append, List.nil_append]); rfl) ?_
    refine aL_s true rfl rfl (fun _ => q_assign rfl) ?_
    refine aL_nil ?_
    refine thn_n ?_
    refine awp_seq ?_
    refine awp_seq ?_
    refine awp_region ?_
    refine aL_s true rfl rfl (fun _ => q_move rfl) ?_
    refine aL_s true rfl rfl (fun _ => q_ptrNil (by kernel_rfl) rfl) ?_
    refine aL_nil ?_
    refine thn_n ?_
    refine awp_cond _ rfl (fun h2 => ?_) (fun h2 => ?_)
    · skip
      exact absurd h2 (by simp)
    · skip
      refine awp_skip ?_
      refine thn_n ?_
      refine awp_seq ?_
      refine awp_region ?_
      refine aL_s true rfl rfl (fun _ => q_load 1 tk24 rfl rfl rfl) ?_
      refine aL_s true rfl rfl (fun _ => q_call (by kernel_rfl) rfl (fun w S fp hst => (cpu_fn (stgP a b stack regs) ad c).quiet1 (psAt 0 rfl) hst)) ?_
      refine aL_eff (q := true) rfl (x_alloc (zs := [.int .i64 0, .int .i64 0, .int .i64 0, .int .i64 0, .int .i64 0, .int .i64 0, .int .i64 0, .int .i64 0, .int .i64 0, .int .i64 0, .int .i64 0, .int .i64 0, .int .i64 0, .int .i64 0, .int .i64 0, .int .i64 0, .int .i64 0]) (by kernel_rfl) rfl (fun b8_2 => ?_))
      refine aL_hp (by simp only [List.cons_append, List.nil_append]; rfl) ?_
      refine aL_eff rfl (x_store 3 tk32 rfl rfl rfl rfl ?_)
      refine aL_hp (by simp only [List.set_cons_succ, List.set_cons_zero]; rfl) ?_
      refine aL_nil ?_
      refine thn_n ?_
      refine awp_seq ?_
      generalize hC : cpuS (stgP a b stack regs) = C at hok hok1 law ⊢
      generalize hM : memS (stgP a b stack regs) = M at hok1 law ⊢
      refine awp_region ?_
      refine aL_s true rfl rfl (fun _ => q_move rfl) ?_
      refine aL_s true rfl rfl (fun _ => q_load 3 tk32 rfl rfl rfl) ?_
      refine aL_eff (q := false) rfl (e_call [0] [2] (by kernel_rfl) rfl rfl rfl rfl (step_fn p M C hok) ?_)
      rintro v ps' hp' ⟨rfl, rfl, rfl⟩; generalize hS1 : stepM M C = S1 at hok1 law ⊢
      refine aL_st (by (try simp only [List.cons_append, List.nil_append]); rfl) (by (try simp only [putB, place, Nat.reduceBEq, Bool.false_eq_true, if_true, if_false, reduceIte, Option.map_none, Option.map_some, List.getD_cons_zero, List.getD_cons_succ, List.drop_succ_cons, List.drop_zero, List.length_cons, List.length_nil, Nat.reduceAdd, List.drop_nil, beq_self_eq_true, List.set_cons_succ, List.set_cons_zero, List.cons_append, List.nil_append]); rfl) ?_
      refine aL_s true rfl rfl (fun _ => q_move rfl) ?_
      refine aL_s true rfl rfl (fun _ => q_extract rfl rfl) ?_
      refine aL_s true rfl rfl (fun _ => q_extract rfl rfl) ?_
      refine aL_eff (q := true) rfl (x_alloc (zs := [.int .i64 0, .int .i64 0, .int .i64 0, .int .i64 0, .int .i64 0, .int .i64 0, .int .i64 0, .int .i64 0, .int .i64 0, .int .i64 0, .int .i64 0, .int .i64 0, .int .i64 0, .int .i64 0, .int .i64 0, .int .i64 0, .int .i64 0]) (by kernel_rfl) rfl (fun b9_6 => ?_))
      refine aL_hp (by simp only [List.cons_append, List.nil_append]; rfl) ?_
      refine aL_eff (q := true) rfl (x_alloc (zs := [.int .i64 0, .int .i64 0]) (by kernel_rfl) rfl (fun b9_7 => ?_))
      refine aL_hp (by simp only [List.cons_append, List.nil_append]; rfl) ?_
      refine aL_eff rfl (x_store 4 tk32 rfl rfl rfl rfl ?_)
      refine aL_hp (by simp only [List.set_cons_succ, List.set_cons_zero]; rfl) ?_
      refine aL_eff rfl (x_store 5 tk34 rfl rfl rfl rfl ?_)
      refine aL_hp (by simp only [List.set_cons_succ, List.set_cons_zero]; rfl) ?_
      refine aL_nil ?_
      refine thn_n ?_
      refine awp_seq ?_
      refine awp_seq ?_
      refine awp_region ?_
      refine aL_s true rfl rfl (fun _ => q_fieldAddr (off := 0) (by kernel_rfl) rfl) ?_
      refine aL_s true rfl rfl (fun _ => q_load 5 tk3 rfl rfl rfl) ?_
      refine aL_s true rfl rfl (fun _ => q_eql rfl rfl) ?_
      refine aL_nil ?_
      refine thn_n ?_
      refine awp_cond _ rfl (fun h3 => ?_) (fun h3 => ?_)
      · skip
        refine awp_seq ?_
        refine awp_region ?_
        refine aL_s true rfl rfl (fun _ => q_move rfl) ?_
        refine aL_s true rfl rfl (fun _ => q_move rfl) ?_
        refine aL_s _ rfl rfl (fun hc => q_load 4 tk32 rfl rfl rfl) ?_
        refine aL_s _ rfl rfl (fun hc => q_load 3 tk32 rfl rfl rfl) ?_
        refine aL_s _ rfl rfl (fun hc => qa_eql (by kernel_rfl) (by kernel_rfl) (by kernel_rfl) (fun w => eqFields_mix 9997 _ _ _ [0, 1, 2, 3, 4, 5, 6, 7, 8, 9, 10, 11, 12, 13, 14, 15, 16] w (by kernel_rfl) (by kernel_rfl) rfl rfl) (ev_yes rfl hc) (ev_yes rfl hc)) ?_
        refine aL_s true rfl rfl (fun _ => q_and rfl rfl (fun h => gt rfl h)) ?_
        refine aL_s true rfl rfl (fun _ => q_assign rfl) ?_
        refine aL_nil ?_
        refine thn_n ?_
        refine awp_ret ?_
        refine thn_r ?_
        refine fin1 [] [] rfl Tryd.results5 rfl ?_ (.inr rfl)
        refine congrArg Value.bool ?_
        have h3 : S1.2.1.1 = 5 := by simpa using h3
        rw [law.out.1 h3]
        simp [eqInts_self]
      · skip
        refine awp_skip ?_
        refine thn_n ?_
        refine awp_seq ?_
        refine awp_region ?_
        refine aL_s true rfl rfl (fun _ => q_move rfl) ?_
        refine aL_s true rfl rfl (fun _ => q_load 4 tk32 rfl rfl rfl) ?_
        refine aL_eff (q := false) rfl (e_call [0] [2] (by kernel_rfl) rfl rfl rfl rfl (step_fn p S1.2.2 S1.1 hok1.out) ?_)
        rintro v ps' hp' ⟨rfl, rfl, rfl⟩; generalize hS2 : stepM S1.2.2 S1.1 = S2 at law ⊢
        refine aL_st (by (try simp only [List.cons_append, List.nil_append]); rfl) (by (try simp only [putB, place, Nat.reduceBEq, Bool.false_eq_true, if_true, if_false, reduceIte, Option.map_none, Option.map_some, List.getD_cons_zero, List.getD_cons_succ, List.drop_succ_cons, List.drop_zero, List.length_cons, List.length_nil, Nat.reduceAdd, List.drop_nil, beq_self_eq_true, List.set_cons_succ, List.set_cons_zero, List.cons_append, List.nil_append]); rfl) ?_
        refine aL_s true rfl rfl (fun _ => q_move rfl) ?_
        refine aL_s true rfl rfl (fun _ => q_extract rfl rfl) ?_
        refine aL_s true rfl rfl (fun _ => q_extract rfl rfl) ?_
        refine aL_eff (q := true) rfl (x_alloc (zs := [.int .i64 0, .int .i64 0, .int .i64 0, .int .i64 0, .int .i64 0, .int .i64 0, .int .i64 0, .int .i64 0, .int .i64 0, .int .i64 0, .int .i64 0, .int .i64 0, .int .i64 0, .int .i64 0, .int .i64 0, .int .i64 0, .int .i64 0]) (by kernel_rfl) rfl (fun b12_6 => ?_))
        refine aL_hp (by simp only [List.cons_append, List.nil_append]; rfl) ?_
        refine aL_eff (q := true) rfl (x_alloc (zs := [.int .i64 0, .int .i64 0]) (by kernel_rfl) rfl (fun b12_7 => ?_))
        refine aL_hp (by simp only [List.cons_append, List.nil_append]; rfl) ?_
        refine aL_eff rfl (x_store 6 tk32 rfl rfl rfl rfl ?_)
        refine aL_hp (by simp only [List.set_cons_succ, List.set_cons_zero]; rfl) ?_
        refine aL_eff rfl (x_store 7 tk34 rfl rfl rfl rfl ?_)
        refine aL_hp (by simp only [List.set_cons_succ, List.set_cons_zero]; rfl) ?_
        refine aL_nil ?_
        refine thn_n ?_
        refine awp_seq ?_
        refine awp_region ?_
        refine aL_s true rfl rfl (fun _ => q_load 3 tk32 rfl rfl rfl) ?_
        refine aL_eff (q := true) rfl (x_alloc (zs := [.int .i64 0, .int .i64 0, .int .i64 0, .int .i64 0, .int .i64 0, .int .i64 0, .int .i64 0, .int .i64 0, .int .i64 0, .int .i64 0, .int .i64 0, .int .i64 0, .int .i64 0, .int .i64 0, .int .i64 0, .int .i64 0, .int .i64 0]) (by kernel_rfl) rfl (fun b13_1 => ?_))
        refine aL_hp (by simp only [List.cons_append, List.nil_append]; rfl) ?_
        refine aL_eff rfl (x_store 8 tk32 rfl rfl rfl rfl ?_)
        refine aL_hp (by simp only [List.set_cons_succ, List.set_cons_zero]; rfl) ?_
        refine aL_nil ?_
        refine thn_n ?_
        refine awp_seq ?_
        refine awp_region ?_
        refine aL_s true rfl rfl (fun _ => q_fieldAddr (off := 16) (by kernel_rfl) rfl) ?_
        refine aL_eff rfl (x_store 8 tk3 rfl rfl rfl rfl ?_)
        refine aL_hp (by simp only [List.set_cons_succ, List.set_cons_zero]; rfl) ?_
        refine aL_nil ?_
        refine thn_n ?_
        refine awp_seq ?_
        refine awp_region ?_
        refine aL_s true rfl rfl (fun _ => q_move rfl) ?_
        refine aL_s true rfl rfl (fun _ => q_move rfl) ?_
        refine aL_s true rfl rfl (fun _ => q_fieldAddr (off := 0) (by kernel_rfl) rfl) ?_
        refine aL_s true rfl rfl (fun _ => q_idxArr (a) Tryd.underlying30 tk3 rfl rfl (rfl) (by omega)) ?_
        refine aL_s true rfl rfl (fun _ => q_load (v := .int .i64 (C.r a)) 3 tk3 rfl rfl (by show (cpuV C)[0 + 0 + a * 1]? = _; rw [show 0 + 0 + a * 1 = a by omega]; exact cpuV_get C (by omega))) ?_
        refine aL_s true rfl rfl (fun _ => q_fieldAddr (off := 0) (by kernel_rfl) rfl) ?_
        refine aL_s true rfl rfl (fun _ => q_idxArr (b) Tryd.underlying30 tk3 rfl rfl (rfl) (by omega)) ?_
        refine aL_eff rfl (e_storeW 8 ([.int .i64 (C.r a)]) (cpuV (Cpu.set ⟨C.r, 528⟩ b (C.r a))) tk3 rfl rfl rfl rfl rfl (fun v hv => by rw [List.mem_singleton.1 hv]; rfl) (by show _ ≤ 17; omega) (by show wrC (cpuV ⟨C.r, 528⟩) (0 + 0 + b * 1) _ = _; rw [show 0 + 0 + b * 1 = b by omega]; exact cpu_wr ⟨C.r, 528⟩ (C.r a) (by omega)) ?_)
        refine aL_hp (by simp only [List.set_cons_succ, List.set_cons_zero]; rfl) ?_
        refine aL_nil ?_
        refine thn_n ?_
        refine awp_seq ?_
        refine awp_region ?_
        refine aL_s true rfl rfl (fun _ => q_move rfl) ?_
        refine aL_s true rfl rfl (fun _ => q_move rfl) ?_
        refine aL_s _ rfl rfl (fun hc => q_load 7 tk34 rfl rfl rfl) ?_
        refine aL_s _ rfl rfl (fun hc => q_bld (l := []) (zs := [.int .i64 0, .int .i64 0]) (pl := [(0, 1), (1, 1)]) (by kernel_rfl) (by kernel_rfl) (by kernel_rfl) rfl rfl rfl) ?_
        refine aL_s _ rfl rfl (fun hc => qa_eql (by kernel_rfl) (by kernel_rfl) (by kernel_rfl) (fun w => eqFields_mix 9997 _ _ _ [0, 1] w (by kernel_rfl) (by kernel_rfl) rfl rfl) (ev_yes rfl hc) (ev_yes rfl hc)) ?_
        refine aL_s true rfl rfl (fun _ => q_and rfl rfl (fun h => gt rfl h)) ?_
        refine aL_s true rfl rfl (fun _ => q_move rfl) ?_
        refine aL_s _ rfl rfl (fun hc => q_load 6 tk32 rfl rfl rfl) ?_
        refine aL_s _ rfl rfl (fun hc => q_load 8 tk32 rfl rfl rfl) ?_
        refine aL_s _ rfl rfl (fun hc => qa_eql (by kernel_rfl) (by kernel_rfl) (by kernel_rfl) (fun w => eqFields_mix 9997 _ _ _ [0, 1, 2, 3, 4, 5, 6, 7, 8, 9, 10, 11, 12, 13, 14, 15, 16] w (by kernel_rfl) (by kernel_rfl) rfl rfl) (ev_yes rfl hc) (ev_yes rfl hc)) ?_
        refine aL_s true rfl rfl (fun _ => q_and rfl rfl (fun h => gt rfl h)) ?_
        refine aL_s true rfl rfl (fun _ => q_assign rfl) ?_
        refine aL_nil ?_
        refine thn_n ?_
        refine awp_ret ?_
        refine fin1 [] [] rfl Tryd.results5 rfl ?_ (.inr rfl)
        refine congrArg Value.bool ?_
        have h3 : S1.2.1.1 ≠ 5 := by simpa using h3
        obtain ⟨g3, g4⟩ := law.out.2 h3
        rw [g3, g4]
        show (true && eqInts #[.int .i64 0, .int .i64 0] #[.int .i64 0, .int .i64 0] _ && eqInts (cpuV ⟨upd C.r b (C.r a), 528⟩).toArray (cpuV ⟨upd C.r b (C.r a), 528⟩).toArray _) = true
        rw [eqInts_self, eqInts_self]; rfl
end Go.Proofs.YtpgcoceggacplaaDoor
namespace Go.Proofs.YtpgcoceggacplaaDoor.machineStack
open Go.ChangeShapes Go.WideShapes Go.ChangeAt Go.RowKit
open Go.Lp Go.Sy
open Go.ChangeMaps (open_string shut_string)
/-- what the start-up code leaves -/
theorem door_met (os : Os) (args : Array Value) : laidMetH Tryd.prog Rows.machineStackRow.laid ((World.doorLaid Tryd.prog 400 os).forCall (fun _ _ => 0) ⟨#[], args, []⟩).memory :=
  laidMetH_of_parts3 (fuel := 8) (laidMet_of_run' 8 (by kernel_rfl) (by kernel_rfl)) (by kernel_rfl) (by kernel_rfl)
theorem of_laid {W : World} (h : laidMetH Tryd.prog Rows.machineStackRow.laid W) : formsAt.holds W (fun b => b < W.heap.size) := by
  rw [MakeChecks.laidMetH_plain _ _ _ (by kernel_rfl)] at h
  obtain ⟨ps, ⟨g0, t0, cs0, f0, p0, q0, hg0, ht0, hv0, hd0, _, _⟩, _, _⟩ := h
  obtain rfl := Option.some.inj (gForms.symm.trans hg0)
  obtain rfl := Option.some.inj (tForms.symm.trans ht0)
  have hl := lit_rep 3 _ _ _ _ (by kernel_rfl) hd0
  have e : cs0.toList = formsV := Option.some.inj (hl.symm.trans forms_lit)
  exact cells_at (by decide) (fun i => by rw [World.var?_cell hg0 hv0 i, ← e, Array.getElem?_toList]) forms_one
set_option maxRecDepth 100000 in
theorem lifted (os : Os) (started : os.Started) (H : Type) (enc : TypeId × Value → H) :
    ReturnsInHanded {} Tryd.checked os 5 .any (fun w args => (Rows.machineStackSpec.pre enc Tryd.prog Tryd.f5 [] false w args ∧ laidMetH Tryd.prog Rows.machineStackRow.laid w) ∧ sizedMet enc Tryd.prog Tryd.f5 (OpenSpec.ofChange Rows.machineStackSpec) false w args)
      (Rows.machineStackSpec.post enc Tryd.prog Tryd.f5 false true false false) := by
  refine returnsInHanded_of_change_and (C := Tryd.checked) (X := fun w _ => laidMetH Tryd.prog Rows.machineStackRow.laid w) (fun _ _ _ hh h => h.of_heap hh) own started (by kernel_rfl) Tryd.func5
    (ChangeSpec.witness_shaped (enc := enc) (C := Tryd.checked) (os := os) (X := fun w _ => laidMetH Tryd.prog Rows.machineStackRow.laid w) false (World.doorLaid Tryd.prog 400 os) #[.int .i64 0, .slice none 0 0, .int .i64 0, .int .i64 0] 8 rfl (World.shaped_of_RefB (by kernel_rfl) (by kernel_rfl)) (by kernel_rfl) (by kernel_rfl) (by kernel_rfl) (door_met os _)) ?_
  intro W base args ds gs before hval0 hW _ _ hL _
  have hval : ∀ (j : Nat) t v, Tryd.f5.params[j]? = some t → args[j]? = some v → Value.okWide Tryd.prog W .any base t v := hval0
  have hW' := hW
  obtain ⟨p, q, hA0, hV, rfl, hfz, hnd⟩ := hW
  have hA : DataW.TrodAll enc Tryd.prog W 0 (fun _ => true) true Tryd.f5.params.toList args.toList ds p := hA0
  rw [Tryd.params5] at hA hval
  obtain ⟨v0, vs0, d0, ds0, p0, q0, hargs, rfl, rfl, h0, r0⟩ := trodAll_cons hA
  obtain ⟨v1, vs1, d1, ds1, p1, q1, rfl, rfl, rfl, h1, r1⟩ := trodAll_cons r0
  obtain ⟨v2, vs2, d2, ds2, p2, q2, rfl, rfl, rfl, h2, r2⟩ := trodAll_cons r1
  obtain ⟨v3, vs3, d3, ds3, p3, q3, rfl, rfl, rfl, h3, r3⟩ := trodAll_cons r2
  obtain ⟨rfl, rfl, rfl⟩ := trodAll_nil r3
  obtain rfl : args = #[v0, v1, v2, v3] := by cases args; simp_all
  obtain ⟨rfl, rfl⟩ := trodVars_none hV
  have hforms := of_laid hL
  obtain ⟨a0, rfl, rfl, rfl, w0⟩ := open_int Tryd.underlying3 (hval 0 3 v0 rfl rfl) h0
  obtain ⟨ad1, len1, cap1, rfl⟩ := okWide_slice Tryd.underlying22 (hval 1 22 v1 rfl rfl)
  have k1 := h1
  have lt1 : ∀ x ∈ p1, x.block < W.heap.size := by obtain ⟨m, hm⟩ := k1; exact DataW.trod_lt m _ _ _ hm
  obtain ⟨l1, rfl, hl1, hrep1⟩ : ∃ l : List Int, len1 = l.length ∧ (∀ z ∈ l, I64 z) ∧ RepD W (fun b => b < W.heap.size) (.slice ad1 l.length cap1) (.sl (irows l)) := by
    obtain ⟨fuel, hf⟩ := h1
    exact slice_in (k := 1) Tryd.underlying22 (by kernel_rfl) (fun r => int_of) (by simpa [Value.cells] using hf)
  obtain ⟨a2, rfl, rfl, rfl, w2⟩ := open_int Tryd.underlying3 (hval 2 3 v2 rfl rfl) h2
  obtain ⟨a3, rfl, rfl, rfl, w3⟩ := open_int Tryd.underlying3 (hval 3 3 v3 rfl rfl) h3
  clear hA0 hval0
  have hc := (stack_con a0 l1 ad1 cap1 a2 a3 hl1).quiet (fun _ h => h) (st_in (w := W) (ps := [Sh (.slice ad1 l1.length cap1) (.sl (irows l1)), formsAt]) fun p hp => by
    rcases List.mem_cons.1 hp with rfl | hp
    · exact hrep1
    · rw [List.mem_singleton.1 hp]; exact hforms)
  refine hc.mono fun e W' ⟨he, bel⟩ => ?_
  subst he
  exact ⟨_, rfl, _, _, _, [], _, [], hW', trodAll_mk1 (shut_bool Tryd.underlying4 _), (trodAll_cons_mk (shut_int Tryd.underlying3 w0) (trodAll_cons_mk (Below.trod laidOut (by kernel_rfl) (of_decide_eq_true (by kernel_rfl)) k1 bel lt1) (trodAll_cons_mk (shut_int Tryd.underlying3 w2) (trodAll_cons_mk (shut_int Tryd.underlying3 w3) trodAll_mk0)))), rfl, bel.frame _, fun h => by cases h⟩
theorem over : Rows.MachineStackSaid :=
  OpenClaim.holds_of_wide 5 Tryd.f5 rfl rfl rfl rfl rfl rfl rfl ⟨rfl, rfl, rfl, rfl, rfl⟩ rfl rfl rfl rfl rfl (by kernel_rfl) Tryd.func5 (by kernel_rfl)
    (of_decide_eq_true (by kernel_rfl)) (by unfold Func.isWrapper; first | (rw [if_pos (by decide +kernel)]; kernel_rfl) | (rw [if_neg (by decide +kernel)]; exact ⟨rfl, rfl⟩))
    (fun os started H enc _ => lifted os started H enc)
theorem proved : Rows.MachineStackCardSaid :=
  Claim7.holds_tied_plain_at .later [] [.widerDeep] true _ false
    over (fun _ h => by cases h) (by kernel_rfl) (fun _ h => by cases h) machineStack_row_tie rfl ⟨rfl, rfl⟩ (by kernel_rfl) rfl
    (fun f fn hf hfn => by
      obtain rfl : f = 5 := Option.some.inj ((show Tryd.prog.funcNamed "linchpin/linchpinlaw29.MachineStack" = some 5 by kernel_rfl).symm.trans hf) |>.symm
      obtain rfl : fn = Tryd.f5 := (Option.some.inj (Tryd.func5.symm.trans hfn)).symm
      exact ⟨by kernel_rfl, fun j t ht => by
        rw [Tryd.params5] at ht
        have hm : t ∈ [3, 22, 3, 3] := by simpa using Array.mem_of_getElem? ht
        have hall : ([3, 22, 3, 3].all fun u => !Tryd.prog.wantsStandIn u) = true := by kernel_rfl
        exact (show Tryd.prog.wantsStandIn t = false by simpa using List.all_eq_true.1 hall t (by simpa using hm))⟩)
    (by kernel_rfl)
end Go.Proofs.YtpgcoceggacplaaDoor.machineStack
