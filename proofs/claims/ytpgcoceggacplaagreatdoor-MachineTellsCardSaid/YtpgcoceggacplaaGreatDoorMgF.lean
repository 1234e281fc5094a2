/- The contracts of the reference of the machine: memory, flow. -/
import Derived.Test.YtpgcoceggacplaaGreatDoorMgC
import Derived.Test.YtpgcoceggacplaaGreatDoorMgB
import Derived.Test.YtpgcoceggacplaaGreatDoorMgG
import Derived.Test.YtpgcoceggacplaaGreatDoorMgE
import Derived.Test.YtpgcoceggacplaaGreatDoorMgA
set_option linter.unusedVariables false
set_option linter.unusedSimpArgs false
set_option maxRecDepth 20000
namespace Go.Lp
open Go.RowKit Go.Proofs.YtpgcoceggacplaaGreatDoor
theorem used_all : ∀ op : Nat, op < 31 → (opds op).contains 65 = (ops9 op).contains 1 ∧ (opds op).contains 66 = (ops9 op).contains 2 ∧ (opds op).contains 67 = (ops9 op).contains 3 ∧ (opds op).contains 73 = (ops9 op).contains 4 := by decide +kernel
theorem imm_z (op : Nat) (n : Int) : imm9 op n = immB op n := by
  unfold imm9 immB
  have e1 : ((op : Int) = 19 ∨ (op : Int) = 20 ∨ (op : Int) = 21 ∨ (op : Int) = 24 ∨ (op : Int) = 25) ↔ (op = 19 ∨ op = 20 ∨ op = 21 ∨ op = 24 ∨ op = 25) := by omega
  have e2 : ((op : Int) = 22) ↔ op = 22 := by omega
  have e3 : ((op : Int) = 30) ↔ op = 30 := by omega
  have e4 : decide (n ≤ 7) = decide (n < 8) := decide_eq_decide.2 (by omega)
  simp only [e1, e2, e3, e4]
theorem right_z (i : Ins) : right9 i.z = rightB i := by
  by_cases hop : i.op < 31
  · obtain ⟨u1, u2, u3, u4⟩ := used_all i.op hop
    have e1 : (decide (1 ≤ i.z.op) && decide (i.z.op ≤ 30)) = (decide (1 ≤ i.op) && decide (i.op ≤ 30)) := by
      show (decide (1 ≤ (i.op : Int)) && decide ((i.op : Int) ≤ 30)) = _
      rw [Bool.eq_iff_iff]; simp; omega
    have b1 : okOp i 65 = !bad9 i.z 1 := by unfold okOp bad9; rw [u1]; rfl
    have b2 : okOp i 66 = !bad9 i.z 2 := by unfold okOp bad9; rw [u2]; rfl
    have b3 : okOp i 67 = !bad9 i.z 3 := by unfold okOp bad9; rw [u3]; rfl
    have b4 : okOp i 73 = !bad9 i.z 4 := by unfold okOp bad9; rw [u4]; rfl
    have e2 : imm9 i.z.op i.z.imm = immB i.op i.imm := imm_z i.op i.imm
    unfold right9 rightB
    rw [e1, e2]
    simp only [List.all_cons, List.all_nil, b1, b2, b3, b4]
    cases decide (1 ≤ i.op) <;> cases decide (i.op ≤ 30) <;> cases bad9 i.z 1 <;> cases bad9 i.z 2 <;> cases bad9 i.z 3 <;> cases bad9 i.z 4 <;> cases immB i.op i.imm <;> rfl
  · have h1 : right9 i.z = false := by
      unfold right9
      have : decide (i.z.op ≤ 30) = false := decide_eq_false (by show ¬ (i.op : Int) ≤ 30; omega)
      rw [this]; simp
    have h2 : rightB i = false := by
      unfold rightB
      have : decide (i.op ≤ 30) = false := decide_eq_false (by omega)
      rw [this]; simp
    rw [h1, h2]
theorem byte_small' {n : Nat} (h : n < 256) : (byteI (n : Int)).toNat = n := by have := byteI_nat (n : Int); omega
theorem fits_of {i : Ins} (h : rightB i = true) : -2147483648 ≤ i.imm ∧ i.imm ≤ 2147483647 := by
  have := (rightB_iff.1 h).2.1
  unfold immB fitsB at this
  split at this
  · simp at this; omega
  · split at this
    · simp at this; omega
    · split at this
      · simp at this; omega
      · simp at this; omega
theorem w64_id {n : Int} (h : -9223372036854775808 ≤ n ∧ n ≤ 9223372036854775807) : w64 n = n := by unfold w64; rw [IntKind.wrap_i64]; omega
theorem insOf_enc {i : Ins} (h : rightB i = true) : insOf (enc9 i.z) = i := by
  obtain ⟨ha, hb, hc⟩ := right_abc h
  have hop := (rightB_iff.1 h).1
  have hf := fits_of h
  obtain ⟨op, a, b, c, imm⟩ := i
  dsimp only at ha hb hc hop hf
  have hn : 0 ≤ n9 imm ∧ n9 imm < 4294967296 ∧ (imm = n9 imm ∧ imm < 2147483648 ∧ 0 ≤ imm ∨ imm = n9 imm - 4294967296 ∧ imm < 0) := by
    unfold n9
    split
    · rw [w64_id (by omega)]; omega
    · omega
  have e : ∀ k, (byteI k).toNat = (k % 256).toNat := fun k => by have := byteI_nat k; omega
  have hleq : (leNat [byteI ((n9 imm).tmod 256), byteI ((w64 ((n9 imm).tdiv 256)).tmod 256), byteI ((w64 ((n9 imm).tdiv 65536)).tmod 256), byteI (w64 ((n9 imm).tdiv 16777216))] : Int) = n9 imm := by
    obtain ⟨h1, h2, _⟩ := hn
    generalize n9 imm = z at h1 h2
    rw [Int.tdiv_eq_ediv_of_nonneg h1, Int.tdiv_eq_ediv_of_nonneg h1, Int.tdiv_eq_ediv_of_nonneg h1, Int.tmod_eq_emod_of_nonneg h1]
    rw [w64_id (by omega), w64_id (by omega), w64_id (by omega), Int.tmod_eq_emod_of_nonneg (by omega), Int.tmod_eq_emod_of_nonneg (by omega)]
    simp only [leNat]
    have q1 := byteI_nat (z % 256)
    have q2 := byteI_nat (z / 256 % 256)
    have q3 := byteI_nat (z / 65536 % 256)
    have q4 := byteI_nat (z / 16777216)
    omega
  unfold insOf
  show (⟨(byteI (op : Int)).toNat, (byteI (a : Int)).toNat, (byteI (b : Int)).toNat, (byteI (c : Int)).toNat, toS (leNat [byteI ((n9 imm).tmod 256), byteI ((w64 ((n9 imm).tdiv 256)).tmod 256), byteI ((w64 ((n9 imm).tdiv 65536)).tmod 256), byteI (w64 ((n9 imm).tdiv 16777216))]) 4⟩ : Ins) = _
  rw [byte_small' (by omega), byte_small' (by omega), byte_small' (by omega), byte_small' (by omega)]
  congr 1
  unfold toS
  split <;> omega
theorem encB_right {i : Ins} (h : rightB i = true) : encB i.z = enc9 i.z := by unfold encB; rw [if_pos (by rw [right_z]; exact h)]
theorem decI_enc {i : Ins} (h : rightB i = true) : decI (encB i.z) = some i := by
  rw [encB_right h]
  have := insOf_enc h
  unfold decI
  rw [if_neg (by simp [enc9]), this, if_pos h]
theorem codeB_at : ∀ (l : List Ins) (k : Nat) (i : Ins), (∀ j ∈ l, rightB j = true) → l[k]? = some i → ((codeB (l.map Ins.z)).drop (8 * k)).take 8 = encB i.z ∧ 8 * k + 8 ≤ (codeB (l.map Ins.z)).length
  | [], k, i, _, h => by simp at h
  | j :: l, k, i, hr, h => by
    have hj : (encB j.z).length = 8 := by rw [encB_right (hr j (by simp))]; rfl
    have e : codeB ((j :: l).map Ins.z) = encB j.z ++ codeB (l.map Ins.z) := rfl
    cases k with
    | zero =>
      simp only [List.getElem?_cons_zero, Option.some.injEq] at h
      subst h
      rw [e]
      refine ⟨?_, by simp [hj]⟩
      rw [Nat.mul_zero, List.drop_zero, List.take_append_of_le_length (by omega), List.take_of_length_le (by omega)]
    | succ k =>
      obtain ⟨h1, h2⟩ := codeB_at l k i (fun x hx => hr x (by simp [hx])) (by simpa using h)
      rw [e]
      refine ⟨?_, by rw [List.length_append]; omega⟩
      rw [show 8 * (k + 1) = (encB j.z).length + 8 * k by omega, List.drop_append, List.drop_of_length_le (by omega), List.nil_append, show (encB j.z).length + 8 * k - (encB j.z).length = 8 * k by omega]
      exact h1
/-- an instruction of the code is fetched -/
theorem fetch_at {M : Mem} (hI : MInv M) {l : List Ins} (hr : ∀ j ∈ l, rightB j = true) (hc : CodeIn M (codeB (l.map Ins.z))) {k : Nat} {i : Ins} (hk : l[k]? = some i) : fetchM M (512 + (8 * k : Nat)) = (some i, 0) := by
  obtain ⟨h1, h2⟩ := codeB_at l k i hr hk
  obtain ⟨g1, g2, g3⟩ := code_read hI hc (8 * k) 8 (by omega) h2
  have g1 : readM M (512 + ((8 * k : Nat) : Int)) 8 = (((codeB (l.map Ins.z)).drop (8 * k)).take 8, 0) := g1
  unfold fetchM
  rw [if_neg, g1]
  · dsimp only
    rw [h1, decI_enc (hr i (List.mem_of_getElem? hk))]
  · rw [g1, g2]
    rintro (h | h | h | h)
    · cases h
    · exact h g3
    · exact h rfl
    · omega
theorem step_at {M : Mem} {c : Cpu} {i : Ins} (h0 : c.pc ≠ 0) (hf : fetchM M c.pc = (some i, 0)) : stepM M c = if ((run0 0 i c).exec M i.op).1.bad then (c, (5, 6), ((run0 0 i c).exec M i.op).2) else (((run0 0 i c).exec M i.op).1.nx, (((run0 0 i c).exec M i.op).1.ek, ((run0 0 i c).exec M i.op).1.en), ((run0 0 i c).exec M i.op).2) := by
  unfold stepM; rw [if_neg h0, hf]
def iCall (w : Nat) : Ins := ⟨22, 0, 0, 0, 8 * (w + 1 : Nat)⟩
def iNop : Ins := ⟨1, 0, 0, 0, 0⟩
def iRet : Ins := ⟨26, 0, 0, 0, 0⟩
def lCall (w : Nat) : List Ins := [iCall w] ++ (List.replicate w iNop ++ [iRet])
theorem lCall_right {w : Nat} (hw : w ≤ 20) : ∀ j ∈ lCall w, rightB j = true := by
  intro j hj
  unfold lCall at hj
  rcases List.mem_append.1 hj with hj | hj
  · rw [List.mem_singleton.1 hj]
    have : ∀ w, w < 21 → rightB (iCall w) = true := by decide +kernel
    exact this w (by omega)
  · rcases List.mem_append.1 hj with hj | hj
    · rw [List.eq_of_mem_replicate hj]; decide +kernel
    · rw [List.mem_singleton.1 hj]; decide +kernel
theorem upd_back {r : Nat → Int} (h : I64 (r 15)) : upd (upd r 15 (w64 (r 15 - 8))) 15 (w64 (w64 (r 15 - 8) + 8)) = r := by
  funext j
  unfold upd
  by_cases hj : j = 15
  · subst hj
    rw [if_pos rfl]
    unfold I64 at h
    unfold w64; rw [IntKind.wrap_i64, IntKind.wrap_i64]; omega
  · rw [if_neg hj, if_neg hj]
theorem w64_I (n : Int) : I64 (w64 n) := by unfold I64 w64; rw [IntKind.wrap_i64]; omega
/-- a call and a return -/
theorem calls_law {M : Mem} (hI : MInv M) {w : Nat} (hw : w ≤ 20) (hc : CodeIn M (codeB ((lCall w).map Ins.z))) {c : Cpu} (hok : CpuOk c) (hpc : c.pc = 512) :
    ((stepM M c).2.1.1 = 5 → (stepM M c).1 = c) ∧ ((stepM M c).2.1.1 ≠ 5 → (stepM M c).1.pc = 520 + 8 * w ∧ (stepM M c).1.r 15 = w64 (c.r 15 - 8) ∧
      (stepM (stepM M c).2.2 (stepM M c).1).2.1 = (0, 0) ∧ (stepM (stepM M c).2.2 (stepM M c).1).1 = ⟨c.r, 520⟩ ∧ loadM (stepM (stepM M c).2.2 (stepM M c).1).2.2 (w64 (c.r 15 - 8)) 8 = (520, 0)) := by
  have hf1 : fetchM M c.pc = (some (iCall w), 0) := by
    rw [hpc]; exact fetch_at hI (lCall_right hw) hc (k := 0) rfl
  have s1 := step_at (by rw [hpc]; decide) hf1
  by_cases hst : (storeM M (w64 (c.r 15 - 8)) 8 (w64 (c.pc + 8))).2 = 0
  · have hb : ((run0 0 (iCall w) c).exec M (iCall w).op).1.bad = false := by
      show (!decide ((storeM M (w64 (c.r 15 - 8)) 8 (w64 (c.pc + 8))).2 = 0)) = false
      rw [hst]; rfl
    rw [hb] at s1
    have s1' : stepM M c = (⟨upd c.r 15 (w64 (c.r 15 - 8)), w64 (c.pc + 8 * (w + 1 : Nat))⟩, (0, 0), (storeM M (w64 (c.r 15 - 8)) 8 (w64 (c.pc + 8))).1) := s1
    have e8 : w64 (c.pc + 8) = 520 := by rw [hpc]; decide
    have ep : w64 (c.pc + 8 * (w + 1 : Nat)) = 520 + 8 * w := by rw [hpc, w64_id (by omega)]; omega
    rw [e8, ep] at s1'
    rw [e8] at hst
    rw [s1']
    dsimp only
    obtain ⟨hs, hwr⟩ := store_ok hst
    have hlb := load_back hI (n := 520) (s := 8) (by unfold I64; decide) hs hwr
    have hlb : loadM (storeM M (w64 (c.r 15 - 8)) 8 520).1 (w64 (c.r 15 - 8)) 8 = (520, 0) := hlb
    have hM : MemAs M (storeM M (w64 (c.r 15 - 8)) 8 520).1 := memAs_store _ _ _ _
    have hf2 : fetchM (storeM M (w64 (c.r 15 - 8)) 8 520).1 (520 + 8 * w : Int) = (some iRet, 0) := by
      have := fetch_at (memAs_inv hI hM) (lCall_right hw) (code_kept hI hc hM) (k := w + 1) (i := iRet) (by unfold lCall; simp)
      rwa [show (512 + ((8 * (w + 1) : Nat) : Int)) = 520 + 8 * w by omega] at this
    have s2 := step_at (c := ⟨upd c.r 15 (w64 (c.r 15 - 8)), (520 + 8 * w : Int)⟩) (by show (520 + 8 * (w : Int)) ≠ 0; omega) hf2
    have hu : upd c.r 15 (w64 (c.r 15 - 8)) 15 = w64 (c.r 15 - 8) := by unfold upd; rw [if_pos rfl]
    have hb2 : ((run0 0 iRet ⟨upd c.r 15 (w64 (c.r 15 - 8)), (520 + 8 * w : Int)⟩).exec (storeM M (w64 (c.r 15 - 8)) 8 520).1 iRet.op).1.bad = false := by
      show (!decide ((loadM (storeM M (w64 (c.r 15 - 8)) 8 520).1 (upd c.r 15 (w64 (c.r 15 - 8)) 15) 8).2 = 0)) = false
      rw [hu, hlb]; rfl
    rw [hb2] at s2
    have s2' : stepM (storeM M (w64 (c.r 15 - 8)) 8 520).1 ⟨upd c.r 15 (w64 (c.r 15 - 8)), (520 + 8 * w : Int)⟩ = (⟨upd (upd c.r 15 (w64 (c.r 15 - 8))) 15 (w64 (upd c.r 15 (w64 (c.r 15 - 8)) 15 + 8)), (loadM (storeM M (w64 (c.r 15 - 8)) 8 520).1 (upd c.r 15 (w64 (c.r 15 - 8)) 15) 8).1⟩, (0, 0), (storeM M (w64 (c.r 15 - 8)) 8 520).1) := s2
    rw [hu, hlb, upd_back (hok.r 15)] at s2'
    rw [s2']
    exact ⟨fun h => absurd h (by decide), fun _ => ⟨rfl, hu, rfl, rfl, hlb⟩⟩
  · have hb : ((run0 0 (iCall w) c).exec M (iCall w).op).1.bad = true := by
      show (!decide ((storeM M (w64 (c.r 15 - 8)) 8 (w64 (c.pc + 8))).2 = 0)) = true
      rw [decide_eq_false hst]; rfl
    rw [hb] at s1
    rw [s1]
    exact ⟨fun _ => rfl, fun h => absurd rfl h⟩
def iPush (a : Nat) : Ins := ⟨27, a, 0, 0, 0⟩
def iPop (a : Nat) : Ins := ⟨28, a, 0, 0, 0⟩
theorem pp_right {a b : Nat} (ha : a ≤ 15) (hb : b ≤ 15) : ∀ j ∈ [iPush a, iPop b], rightB j = true := by
  have h1 : ∀ a, a < 16 → rightB (iPush a) = true := by decide +kernel
  have h2 : ∀ a, a < 16 → rightB (iPop a) = true := by decide +kernel
  intro j hj
  simp only [List.mem_cons, List.not_mem_nil, or_false] at hj
  rcases hj with rfl | rfl
  · exact h1 a (by omega)
  · exact h2 b (by omega)
/-- a push and a pop -/
theorem stack_law {M : Mem} (hI : MInv M) {a b : Nat} (ha : a ≤ 15) (hb : b ≤ 14) (hc : CodeIn M (codeB ([iPush a, iPop b].map Ins.z))) {c : Cpu} (hok : CpuOk c) (hpc : c.pc = 512) :
    ((stepM M c).2.1.1 = 5 → (stepM M c).1 = c) ∧ ((stepM M c).2.1.1 ≠ 5 → (stepM (stepM M c).2.2 (stepM M c).1).2.1 = (0, 0) ∧ (stepM (stepM M c).2.2 (stepM M c).1).1 = ⟨upd c.r b (c.r a), 528⟩) := by
  have hr := pp_right ha (show b ≤ 15 by omega)
  have hf1 : fetchM M c.pc = (some (iPush a), 0) := by
    rw [hpc]; exact fetch_at hI hr hc (k := 0) rfl
  have s1 := step_at (by rw [hpc]; decide) hf1
  by_cases hst : (storeM M (w64 (c.r 15 - 8)) 8 (c.r a)).2 = 0
  · have hbd : ((run0 0 (iPush a) c).exec M (iPush a).op).1.bad = false := by
      show (!decide ((storeM M (w64 (c.r 15 - 8)) 8 (c.r a)).2 = 0)) = false
      rw [hst]; rfl
    rw [hbd] at s1
    have s1' : stepM M c = (⟨upd c.r 15 (w64 (c.r 15 - 8)), w64 (c.pc + 8)⟩, (0, 0), (storeM M (w64 (c.r 15 - 8)) 8 (c.r a)).1) := s1
    have e8 : w64 (c.pc + 8) = 520 := by rw [hpc]; decide
    rw [e8] at s1'
    rw [s1']
    dsimp only
    obtain ⟨hs, hwr⟩ := store_ok hst
    have hlb := load_back hI (n := c.r a) (s := 8) (hok.r a) hs hwr
    have hlb : loadM (storeM M (w64 (c.r 15 - 8)) 8 (c.r a)).1 (w64 (c.r 15 - 8)) 8 = (c.r a, 0) := hlb
    have hM : MemAs M (storeM M (w64 (c.r 15 - 8)) 8 (c.r a)).1 := memAs_store _ _ _ _
    have hf2 : fetchM (storeM M (w64 (c.r 15 - 8)) 8 (c.r a)).1 (520 : Int) = (some (iPop b), 0) := fetch_at (memAs_inv hI hM) hr (code_kept hI hc hM) (k := 1) rfl
    have s2 := step_at (c := ⟨upd c.r 15 (w64 (c.r 15 - 8)), 520⟩) (by show (520 : Int) ≠ 0; decide) hf2
    have hu : upd c.r 15 (w64 (c.r 15 - 8)) 15 = w64 (c.r 15 - 8) := by unfold upd; rw [if_pos rfl]
    have hb2 : ((run0 0 (iPop b) ⟨upd c.r 15 (w64 (c.r 15 - 8)), 520⟩).exec (storeM M (w64 (c.r 15 - 8)) 8 (c.r a)).1 (iPop b).op).1.bad = false := by
      show (!decide ((loadM (storeM M (w64 (c.r 15 - 8)) 8 (c.r a)).1 (upd c.r 15 (w64 (c.r 15 - 8)) 15) 8).2 = 0)) = false
      rw [hu, hlb]; rfl
    rw [hb2] at s2
    have s2' : stepM (storeM M (w64 (c.r 15 - 8)) 8 (c.r a)).1 ⟨upd c.r 15 (w64 (c.r 15 - 8)), 520⟩ = (⟨upd (upd (upd c.r 15 (w64 (c.r 15 - 8))) 15 (w64 (upd c.r 15 (w64 (c.r 15 - 8)) 15 + 8))) b (loadM (storeM M (w64 (c.r 15 - 8)) 8 (c.r a)).1 (upd c.r 15 (w64 (c.r 15 - 8)) 15) 8).1, 528⟩, (0, 0), (storeM M (w64 (c.r 15 - 8)) 8 (c.r a)).1) := s2
    rw [hu, hlb, upd_back (hok.r 15)] at s2'
    rw [s2']
    exact ⟨fun h => absurd h (by decide), fun _ => ⟨rfl, rfl⟩⟩
  · have hbd : ((run0 0 (iPush a) c).exec M (iPush a).op).1.bad = true := by
      show (!decide ((storeM M (w64 (c.r 15 - 8)) 8 (c.r a)).2 = 0)) = true
      rw [decide_eq_false hst]; rfl
    rw [hbd] at s1
    rw [s1]
    exact ⟨fun _ => rfl, fun h => absurd rfl h⟩
end Go.Lp
namespace Go.Lp
open Go.RowKit Go.Proofs.YtpgcoceggacplaaGreatDoor
def pc8 (c : Cpu) : Cpu := ⟨c.r, w64 (c.pc + 8)⟩
def hiO (a imm : Int) : Int := orI (andI a 4294967295) (w64 (imm * 2 ^ min 32 64))
def valO (i : Ins) (c : Cpu) : Nat → Option Int
  | 3 => some i.imm
  | 4 => some (hiO (c.r i.a) i.imm)
  | 5 => some (c.r i.b)
  | 6 => some (w64 (c.r i.b + c.r i.c))
  | 7 => some (w64 (c.r i.b - c.r i.c))
  | 8 => some (w64 (c.r i.b * c.r i.c))
  | 9 => some (andI (c.r i.b) (c.r i.c))
  | 10 => some (orI (c.r i.b) (c.r i.c))
  | 11 => some (truthI (decide (c.r i.b < c.r i.c)))
  | 12 => some (truthI (decide (c.r i.b = c.r i.c)))
  | 13 => some (w64 (c.r i.b + i.imm))
  | 14 => some (w64 (c.pc + i.imm))
  | 29 => some (c.r i.b)
  | _ => none
def pushO (M : Mem) (c : Cpu) (n : Int) : Cpu × Int × Mem :=
  (if (storeM M (w64 (c.r 15 - 8)) 8 n).2 = 0 then c.set 15 (w64 (c.r 15 - 8)) else c, (storeM M (w64 (c.r 15 - 8)) 8 n).2, (storeM M (w64 (c.r 15 - 8)) 8 n).1)
def memO (M : Mem) (c : Cpu) (i : Ins) : Nat → Cpu × Int × Mem
  | 15 => (pc8 (c.set i.a (loadM M (w64 (c.r i.b + i.imm)) 8).1), (loadM M (w64 (c.r i.b + i.imm)) 8).2, M)
  | 16 => (pc8 (c.set i.a (loadM M (w64 (c.r i.b + i.imm)) 1).1), (loadM M (w64 (c.r i.b + i.imm)) 1).2, M)
  | 17 => (pc8 c, (storeM M (w64 (c.r i.b + i.imm)) 8 (c.r i.a)).2, (storeM M (w64 (c.r i.b + i.imm)) 8 (c.r i.a)).1)
  | 18 => (pc8 c, (storeM M (w64 (c.r i.b + i.imm)) 1 (c.r i.a)).2, (storeM M (w64 (c.r i.b + i.imm)) 1 (c.r i.a)).1)
  | 27 => (pc8 (pushO M c (c.r i.a)).1, (pushO M c (c.r i.a)).2)
  | 28 => (pc8 ((c.set 15 (w64 (c.r 15 + 8))).set i.a (loadM M (c.r 15) 8).1), (loadM M (c.r 15) 8).2, M)
  | _ => (pc8 c, 0, M)
def flowO (M : Mem) (c : Cpu) (i : Ins) : Nat → Cpu × Int × Mem
  | 19 => (⟨c.r, w64 (c.pc + i.imm)⟩, 0, M)
  | 20 => (⟨c.r, if c.r i.a = 0 then w64 (c.pc + i.imm) else w64 (c.pc + 8)⟩, 0, M)
  | 21 => (⟨c.r, if c.r i.a = 0 then w64 (c.pc + 8) else w64 (c.pc + i.imm)⟩, 0, M)
  | 22 => (⟨(pushO M c (w64 (c.pc + 8))).1.r, w64 (c.pc + i.imm)⟩, (pushO M c (w64 (c.pc + 8))).2)
  | 23 => (⟨(pushO M c (w64 (c.pc + 8))).1.r, c.r i.a⟩, (pushO M c (w64 (c.pc + 8))).2)
  | 26 => (⟨(c.set 15 (w64 (c.r 15 + 8))).r, (loadM M (c.r 15) 8).1⟩, (loadM M (c.r 15) 8).2, M)
  | 24 => if (loadM M (w64 (c.pc + i.imm)) 8).2 = 0 then (⟨(pushO M c (w64 (c.pc + 8))).1.r, (loadM M (w64 (c.pc + i.imm)) 8).1⟩, (pushO M c (w64 (c.pc + 8))).2)
    else (⟨c.r, (loadM M (w64 (c.pc + i.imm)) 8).1⟩, (loadM M (w64 (c.pc + i.imm)) 8).2, M)
  | _ => (⟨c.r, (loadM M (w64 (c.pc + i.imm)) 8).1⟩, (loadM M (w64 (c.pc + i.imm)) 8).2, M)
def emptyO (M : Mem) (at_ : Int) : Bool := decide ((loadM M at_ 8).2 = 0) && decide ((loadM M at_ 8).1 = 0)
/-- what is put into register A -/
def nxO (i : Ins) (c : Cpu) : Cpu := match valO i c i.op with
  | some n => (pc8 c).set i.a n
  | none => pc8 c
def endO (c : Cpu) (x : Cpu × Int × Mem) : Cpu × (Int × Int) × Mem := if x.2.1 = 0 then (x.1, (0, 0), x.2.2) else (c, (5, 6), x.2.2)
def insO (M : Mem) (c : Cpu) (i : Ins) : Cpu × (Int × Int) × Mem :=
  if i.op = 1 then (nxO i c, (0, 0), M) else if i.op = 2 then (nxO i c, (1, 0), M) else if i.op = 30 then (nxO i c, (2, i.imm), M)
  else if i.op = 29 then (nxO i c, (2, w64 (8 + i.a)), M)
  else if i.op = 15 ∨ i.op = 16 ∨ i.op = 17 ∨ i.op = 18 ∨ i.op = 27 ∨ i.op = 28 then endO c (memO M c i i.op)
  else if 19 ≤ i.op ∧ i.op ≤ 26 then if (i.op = 24 ∨ i.op = 25) ∧ emptyO M (w64 (c.pc + i.imm)) = true then (c, (3, w64 (c.pc + i.imm)), M) else endO c (flowO M c i i.op)
  else (nxO i c, (0, 0), M)
theorem bad_ld (R : Run) (M : Mem) (a s : Int) : (R.ld M a s).bad = !decide ((loadM M a s).2 = 0) := rfl
theorem bad_st' (R : Run) (M : Mem) (a s n : Int) : (R.st M a s n).bad = !decide ((storeM M a s n).2 = 0) := rfl
/-- the instruction in execution, when it is over -/
def overO (c : Cpu) (x : Run × Mem) : Cpu × (Int × Int) × Mem := if x.1.bad then (c, (5, 6), x.2) else (x.1.nx, (x.1.ek, x.1.en), x.2)
theorem over_end {c : Cpu} {R : Run} {M : Mem} {c1 : Cpu} {e : Int} (hb : R.bad = !decide (e = 0)) (h1 : e = 0 → R.nx = c1 ∧ R.ek = 0 ∧ R.en = 0) : overO c (R, M) = endO c (c1, e, M) := by
  unfold overO endO
  dsimp only
  rw [hb]
  by_cases h : e = 0
  · obtain ⟨g1, g2, g3⟩ := h1 h
    rw [if_neg (by simp [h]), if_pos h, g1, g2, g3]
  · rw [if_pos (by simp [h]), if_neg h]
section
variable (M : Mem) (c : Cpu) (i : Ins)
theorem put_O (R : Run) (n : Int) : (R.put n).nx = R.nx.set R.i.a n := rfl
theorem slot_O (call : Bool) (hop : i.op = if call then 24 else 25) : overO c (Run.slot (run0 0 i c) M call) = if emptyO M (w64 (c.pc + i.imm)) = true then (c, (3, w64 (c.pc + i.imm)), M) else endO c (flowO M c i i.op) := by
  have hbad := bad_ld (run0 0 i c) M (w64 (c.pc + i.imm)) 8
  have e0 : ((run0 0 i c).c.pc + (run0 0 i c).i.imm) = c.pc + i.imm := rfl
  unfold Run.slot
  dsimp only
  rw [e0]
  by_cases h0 : (loadM M (w64 (c.pc + i.imm)) 8).2 = 0
  · rw [if_neg (by rw [hbad]; simp [h0])]
    by_cases hn : (loadM M (w64 (c.pc + i.imm)) 8).1 = 0
    · rw [if_pos hn, if_pos (by unfold emptyO; simp [h0, hn])]
      unfold overO
      dsimp only
      rw [if_neg (by rw [hbad]; simp [h0])]
      rfl
    · have hE : ¬ emptyO M (w64 (c.pc + i.imm)) = true := by unfold emptyO; simp [hn]
      rw [if_neg hn]
      cases call with
      | true =>
        rw [if_pos rfl, if_neg hE]
        have e24 : i.op = 24 := hop
        rw [e24]
        show _ = endO c (if (loadM M (w64 (c.pc + i.imm)) 8).2 = 0 then (⟨(pushO M c (w64 (c.pc + 8))).1.r, (loadM M (w64 (c.pc + i.imm)) 8).1⟩, (pushO M c (w64 (c.pc + 8))).2) else (⟨c.r, (loadM M (w64 (c.pc + i.imm)) 8).1⟩, (loadM M (w64 (c.pc + i.imm)) 8).2, M))
        rw [if_pos h0]
        exact over_end (R := (Run.push ((run0 0 i c).ld M (w64 (c.pc + i.imm)) 8) M (w64 (c.pc + 8))).1.to (loadM M (w64 (c.pc + i.imm)) 8).1) (e := (storeM M (w64 (c.r 15 - 8)) 8 (w64 (c.pc + 8))).2) rfl fun h => ⟨by unfold pushO; dsimp only; rw [if_pos h]; rfl, rfl, rfl⟩
      | false =>
        rw [if_neg (by decide), if_neg hE]
        have e25 : i.op = 25 := hop
        rw [e25]
        exact over_end (R := ((run0 0 i c).ld M (w64 (c.pc + i.imm)) 8).to (loadM M (w64 (c.pc + i.imm)) 8).1) (e := (loadM M (w64 (c.pc + i.imm)) 8).2) rfl fun h => ⟨rfl, rfl, rfl⟩
  · rw [if_pos (by rw [hbad]; simp [h0]), if_neg (by unfold emptyO; simp [h0])]
    have hO : overO c (Run.ld (run0 0 i c) M (w64 (c.pc + i.imm)) 8, M) = (c, (5, 6), M) := by
      unfold overO; dsimp only; rw [if_pos (by rw [hbad]; simp [h0])]
    rw [hO]
    cases call with
    | true =>
      have e24 : i.op = 24 := hop
      rw [e24]
      show _ = endO c (if (loadM M (w64 (c.pc + i.imm)) 8).2 = 0 then (⟨(pushO M c (w64 (c.pc + 8))).1.r, (loadM M (w64 (c.pc + i.imm)) 8).1⟩, (pushO M c (w64 (c.pc + 8))).2) else (⟨c.r, (loadM M (w64 (c.pc + i.imm)) 8).1⟩, (loadM M (w64 (c.pc + i.imm)) 8).2, M))
      rw [if_neg h0]
      unfold endO; dsimp only; rw [if_neg h0]
    | false =>
      have e25 : i.op = 25 := hop
      rw [e25]
      show _ = endO c (⟨c.r, (loadM M (w64 (c.pc + i.imm)) 8).1⟩, (loadM M (w64 (c.pc + i.imm)) 8).2, M)
      unfold endO; dsimp only; rw [if_neg h0]
theorem ins_exec (h1 : 1 ≤ i.op) (h30 : i.op ≤ 30) : overO c ((run0 0 i c).exec M i.op) = insO M c i := by
  have hb : ∀ n, overO c ((run0 0 i c).put n, M) = ((pc8 c).set i.a n, (0, 0), M) := fun n => rfl
  obtain ⟨op, a, b, d, imm⟩ := i
  dsimp only at h1 h30 hb ⊢
  have hop : op < 31 := by omega
  rcases thirtyone hop with rfl | rfl | rfl | rfl | rfl | rfl | rfl | rfl | rfl | rfl | rfl | rfl | rfl | rfl | rfl | rfl | rfl | rfl | rfl | rfl | rfl | rfl | rfl | rfl | rfl | rfl | rfl | rfl | rfl | rfl | rfl
  · omega
  · rfl
  · rfl
  · exact hb _
  · exact hb _
  · exact hb _
  · exact hb _
  · exact hb _
  · exact hb _
  · exact hb _
  · exact hb _
  · exact hb _
  · exact hb _
  · exact hb _
  · exact hb _
  · exact over_end (R := ((run0 0 ⟨15, a, b, d, imm⟩ c).ld M (w64 (c.r b + imm)) 8).put (loadM M (w64 (c.r b + imm)) 8).1) rfl fun _ => ⟨rfl, rfl, rfl⟩
  · exact over_end (R := ((run0 0 ⟨16, a, b, d, imm⟩ c).ld M (w64 (c.r b + imm)) 1).put (loadM M (w64 (c.r b + imm)) 1).1) rfl fun _ => ⟨rfl, rfl, rfl⟩
  · exact over_end (R := (run0 0 ⟨17, a, b, d, imm⟩ c).st M (w64 (c.r b + imm)) 8 (c.r a)) rfl fun _ => ⟨rfl, rfl, rfl⟩
  · exact over_end (R := (run0 0 ⟨18, a, b, d, imm⟩ c).st M (w64 (c.r b + imm)) 1 (c.r a)) rfl fun _ => ⟨rfl, rfl, rfl⟩
  · rfl
  · show overO c (Run.jump (run0 0 ⟨20, a, b, d, imm⟩ c) (decide (c.r a = 0)), M) = endO c (⟨c.r, if c.r a = 0 then w64 (c.pc + imm) else w64 (c.pc + 8)⟩, 0, M)
    by_cases h : c.r a = 0
    · rw [if_pos h, decide_eq_true h]; rfl
    · rw [if_neg h, decide_eq_false h]; rfl
  · show overO c (Run.jump (run0 0 ⟨21, a, b, d, imm⟩ c) (!decide (c.r a = 0)), M) = endO c (⟨c.r, if c.r a = 0 then w64 (c.pc + 8) else w64 (c.pc + imm)⟩, 0, M)
    by_cases h : c.r a = 0
    · rw [if_pos h, decide_eq_true h]; rfl
    · rw [if_neg h, decide_eq_false h]; rfl
  · exact over_end (R := ((run0 0 ⟨22, a, b, d, imm⟩ c).push M (w64 (c.pc + 8))).1.jump true) (e := (storeM M (w64 (c.r 15 - 8)) 8 (w64 (c.pc + 8))).2) rfl fun h => ⟨by unfold pushO; dsimp only; rw [if_pos h]; rfl, rfl, rfl⟩
  · exact over_end (R := ((run0 0 ⟨23, a, b, d, imm⟩ c).push M (w64 (c.pc + 8))).1.to (c.r a)) (e := (storeM M (w64 (c.r 15 - 8)) 8 (w64 (c.pc + 8))).2) rfl fun h => ⟨by unfold pushO; dsimp only; rw [if_pos h]; rfl, rfl, rfl⟩
  · refine (slot_O M c ⟨24, a, b, d, imm⟩ true rfl).trans ?_
    by_cases h : emptyO M (w64 (c.pc + imm)) = true
    · rw [if_pos h]; unfold insO; dsimp only; rw [if_neg (by decide), if_neg (by decide), if_neg (by decide), if_neg (by decide), if_neg (by decide), if_pos (by decide), if_pos ⟨by decide, h⟩]
    · rw [if_neg h]; unfold insO; dsimp only; rw [if_neg (by decide), if_neg (by decide), if_neg (by decide), if_neg (by decide), if_neg (by decide), if_pos (by decide), if_neg (fun g => h g.2)]
  · refine (slot_O M c ⟨25, a, b, d, imm⟩ false rfl).trans ?_
    by_cases h : emptyO M (w64 (c.pc + imm)) = true
    · rw [if_pos h]; unfold insO; dsimp only; rw [if_neg (by decide), if_neg (by decide), if_neg (by decide), if_neg (by decide), if_neg (by decide), if_pos (by decide), if_pos ⟨by decide, h⟩]
    · rw [if_neg h]; unfold insO; dsimp only; rw [if_neg (by decide), if_neg (by decide), if_neg (by decide), if_neg (by decide), if_neg (by decide), if_pos (by decide), if_neg (fun g => h g.2)]
  · exact over_end (R := ((run0 0 ⟨26, a, b, d, imm⟩ c).pop M).to (loadM M (c.r 15) 8).1) (e := (loadM M (c.r 15) 8).2) rfl fun h => ⟨rfl, rfl, rfl⟩
  · exact over_end (R := ((run0 0 ⟨27, a, b, d, imm⟩ c).push M (c.r a)).1) (e := (storeM M (w64 (c.r 15 - 8)) 8 (c.r a)).2) rfl fun h => ⟨by unfold pushO; dsimp only; rw [if_pos h]; rfl, rfl, rfl⟩
  · exact over_end (R := ((run0 0 ⟨28, a, b, d, imm⟩ c).pop M).put (loadM M (c.r 15) 8).1) (e := (loadM M (c.r 15) 8).2) rfl fun h => ⟨rfl, rfl, rfl⟩
  · rfl
  · rfl
end
/-- a step of the reference -/
def stepR (M : Mem) (c : Cpu) : Cpu × (Int × Int) × Mem :=
  if c.pc = 0 then (c, (4, 0), M) else match fetchM M c.pc with
  | (none, e) => (c, (5, e), M)
  | (some i, _) => insO M c i
theorem stepR_eq (M : Mem) (c : Cpu) : stepR M c = stepM M c := by
  unfold stepR stepM
  split
  · rfl
  · cases hf : fetchM M c.pc with
    | mk o e =>
      cases o with
      | none => rfl
      | some i =>
        obtain ⟨⟨h1, h2⟩, _, _⟩ := rightB_iff.1 (fetch_some hf).2.1
        exact (ins_exec M c i h1 h2).symm
end Go.Lp
namespace Go.Lp
open Go.RowKit Go.Proofs.YtpgcoceggacplaaGreatDoor
theorem cpuV_get0 (c : Cpu) {a : Nat} (h : a < 16) : (cpuV c)[0 + 0 + a * 1]? = some (.int .i64 (c.r a)) := by rw [show 0 + 0 + a * 1 = a by omega]; exact cpuV_get c h
theorem valO_none (i : Ins) (c : Cpu) (k : Nat) (h : k < 31) (h1 : ¬ (3 ≤ k ∧ k ≤ 14)) (h2 : k ≠ 29) : valO i c k = none := by
  rcases thirtyone h with rfl | rfl | rfl | rfl | rfl | rfl | rfl | rfl | rfl | rfl | rfl | rfl | rfl | rfl | rfl | rfl | rfl | rfl | rfl | rfl | rfl | rfl | rfl | rfl | rfl | rfl | rfl | rfl | rfl | rfl | rfl <;> first | rfl | omega
theorem four_of (l : List UInt8) (h : 8 ≤ l.length) : (l.drop 4).take 4 = [l.getD 4 0, l.getD 5 0, l.getD 6 0, l.getD 7 0] := by
  match l, h with
  | _ :: _ :: _ :: _ :: _ :: _ :: _ :: _ :: _, _ => rfl
theorem insOf_z (l : List UInt8) (h : 8 ≤ l.length) : (insOf l).z = ⟨(l.getD 0 0).toNat, (l.getD 1 0).toNat, (l.getD 2 0).toNat, (l.getD 3 0).toNat, if ((l.getD 4 0).toNat : Int) + 256 * (l.getD 5 0).toNat + 65536 * (l.getD 6 0).toNat + 16777216 * (l.getD 7 0).toNat ≥ 2147483648 then ((l.getD 4 0).toNat : Int) + 256 * (l.getD 5 0).toNat + 65536 * (l.getD 6 0).toNat + 16777216 * (l.getD 7 0).toNat - 4294967296 else ((l.getD 4 0).toNat : Int) + 256 * (l.getD 5 0).toNat + 65536 * (l.getD 6 0).toNat + 16777216 * (l.getD 7 0).toNat⟩ := by
  have e : toS (leNat ((l.drop 4).take 4)) 4 = if ((l.getD 4 0).toNat : Int) + 256 * (l.getD 5 0).toNat + 65536 * (l.getD 6 0).toNat + 16777216 * (l.getD 7 0).toNat ≥ 2147483648 then ((l.getD 4 0).toNat : Int) + 256 * (l.getD 5 0).toNat + 65536 * (l.getD 6 0).toNat + 16777216 * (l.getD 7 0).toNat - 4294967296 else ((l.getD 4 0).toNat : Int) + 256 * (l.getD 5 0).toNat + 65536 * (l.getD 6 0).toNat + 16777216 * (l.getD 7 0).toNat := by
    rw [four_of l h]
    generalize (l.getD 4 0) = a
    generalize (l.getD 5 0) = b
    generalize (l.getD 6 0) = c
    generalize (l.getD 7 0) = d
    unfold toS
    have e : leNat [a, b, c, d] = a.toNat + 256 * (b.toNat + 256 * (c.toNat + 256 * (d.toNat + 256 * 0))) := rfl
    rw [e]
    have p4 : (256 : Nat) ^ 4 = 4294967296 := rfl
    have p4' : (256 : Int) ^ 4 = 4294967296 := rfl
    rw [p4, p4']
    by_cases hlt : 2 * (a.toNat + 256 * (b.toNat + 256 * (c.toNat + 256 * (d.toNat + 256 * 0)))) < 4294967296
    · rw [if_pos hlt, if_neg (by omega)]; omega
    · rw [if_neg hlt, if_pos (by omega)]; omega
  unfold insOf Ins.z
  dsimp only
  rw [e]
end Go.Lp
namespace Go.Proofs.YtpgcoceggacplaaGreatDoor
open Go.RowKit Go.Lp Go.Sy
theorem insOf_right (l : List UInt8) (h : 8 ≤ l.length) (b : Bool) (i : InsZ) (hi : (insOf l).z = i) (hb : right9 i = b) : rightB (insOf l) = b := by rw [← right_z, hi]; exact hb
theorem decode9_fn (s : ByteArray) (hs : s.size ≤ maxLen) : Con Tryz.prog 85 [.string s, .int .i64 0] [] []
    fun r _ _ => r = .tuple #[.agg (insV ((decI s.data.toList).getD ins0)).toArray, .bool (decI s.data.toList).isSome] := by
  have hm := hs
  unfold maxLen at hm
  have hsz : s.data.toList.length = s.size := by simp
  obtain ⟨l, hl⟩ : ∃ l, l = s.data.toList := ⟨_, rfl⟩
  rw [← hl] at hsz ⊢
  have hu : ∀ k, (l.getD k 0).toNat < 256 := fun k => UInt8.toNat_lt _
  have g4 := hu 4
  have g5 := hu 5
  have g6 := hu 6
  have g7 := hu 7
  refine Con.enter Tryz.func85 rfl (by simp [Tryz.ntmps85]) ?_
  show awp _ _ _ _ ⟨[(0, true, _), (1, true, _)], _, _⟩
  refine awp_seq (awp_region ?_)
  refine aL_eff (q := true) rfl (x_alloc (zs := [.int .i64 0, .int .i64 0, .int .i64 0, .int .i64 0, .int .i64 0]) (by kernel_rfl) rfl (fun b0_0 => ?_))
  refine aL_hp (by (try simp only [nM, nN]); rfl) ?_
  refine aL_s true rfl rfl (fun _ => q_assign rfl) (aL_nil (thn_n (awp_seq (awp_seq (awp_region (aL_s true rfl rfl (fun _ => q_move rfl) (aL_s true rfl rfl (fun _ => q_lss rfl rfl) ?_)))))))
  refine aL_s true rfl rfl (fun _ => q_move rfl) (aL_s _ rfl rfl (fun hc => q_move rfl) (aL_s _ rfl rfl (fun hc => q_move rfl) (aL_s _ rfl rfl (fun hc => q_lenStr Tryz.underlying9 (ev_yes rfl hc)) (aL_s _ rfl rfl (fun hc => q_gtr (ev_yes rfl hc) (ev_yes rfl hc)) (aL_s true rfl rfl (fun _ => q_or rfl rfl (fun h => gf rfl h)) (aL_nil (thn_n ?_)))))))
  refine awp_cond _ rfl (fun h1 => ?_) (fun h1 => ?_)
  ·skip
   simp at h1; omega
  ·skip
   refine awp_skip (thn_n (awp_seq (awp_seq (awp_region (aL_s true rfl rfl (fun _ => q_move rfl) (aL_s true rfl rfl (fun _ => q_lenStr Tryz.underlying9 rfl) (aL_s true rfl rfl (fun _ => q_move rfl) ?_)))))))
   refine aL_s true rfl rfl (fun _ => q_subi rfl rfl (by omega)) ?_
   refine aL_s true rfl rfl (fun _ => q_lss rfl rfl) (aL_nil (thn_n ?_))
   refine awp_cond _ rfl (fun h2 => ?_) (fun h2 => ?_)
   ·skip
    refine awp_seq (awp_region ?_)
    refine aL_s true rfl rfl (fun _ => q_bld (l := []) (zs := [.int .i64 0, .int .i64 0, .int .i64 0, .int .i64 0, .int .i64 0]) (pl := [(0, 1), (1, 1), (2, 1), (3, 1), (4, 1)]) (by kernel_rfl) (by kernel_rfl) (by kernel_rfl) rfl rfl rfl) ?_
    refine aL_eff rfl (x_store 0 tk46 rfl rfl rfl rfl ?_)
    refine aL_hp (by simp only [nK, nL]; rfl) ?_
    refine aL_s true rfl rfl (fun _ => q_assign rfl) (aL_nil (thn_n (awp_ret (thn_r ?_))))
    refine finR2 [] [] rfl Tryz.results85 (rv_cell 0 tk46 rfl rfl rfl) (rv_tmp rfl) ?_ (.inr rfl)
    rw [decI_no (by simp at h2; omega)]; rfl
   ·skip
    have hlen : ¬ l.length < 8 := by simp at h2; omega
    have hu : ∀ k, k < 8 → s.data.toList[k]? = some (l.getD k 0) := fun k hk => by
      rw [← hl, List.getD_eq_getElem?_getD, List.getElem?_eq_getElem (by omega)]; rfl
    have hz := insOf_z l (by omega)
    refine awp_skip (thn_n (awp_seq ?_))
    refine awp_drawnC [] [] [] (by kernel_rfl) ?_
    show aC _ _ _ _ _ _ _ 27 #[false, false, false, false, false, false, false, false, false, false, false, false, false, false, false, false, false, false, false, false, false, false, false, false, false, false, false] _
    refine aC_f 0 rfl (by kernel_rfl) true rfl rfl (fun _ => q_move rfl) ?_
    refine aC_f 1 rfl (by kernel_rfl) true rfl rfl (fun _ => q_move rfl) ?_
    refine aC_f 2 rfl (by kernel_rfl) true rfl rfl (fun _ => q_addi rfl rfl (by omega)) ?_
    refine aC_f 3 rfl (by kernel_rfl) true rfl rfl (fun _ => q_idxStr (4) Tryz.underlying9 rfl rfl (rfl) (hu 4 (by omega))) ?_
    refine aC_f 4 rfl (by kernel_rfl) true rfl rfl (fun _ => q_convU (by kernel_rfl) Tryz.underlying3 rfl) ?_
    refine aC_f 5 rfl (by kernel_rfl) true rfl rfl (fun _ => q_move rfl) ?_
    refine aC_f 6 rfl (by kernel_rfl) true rfl rfl (fun _ => q_move rfl) ?_
    refine aC_f 7 rfl (by kernel_rfl) true rfl rfl (fun _ => q_addi rfl rfl (by omega)) ?_
    refine aC_f 8 rfl (by kernel_rfl) true rfl rfl (fun _ => q_idxStr (5) Tryz.underlying9 rfl rfl (rfl) (hu 5 (by omega))) ?_
    refine aC_f 9 rfl (by kernel_rfl) true rfl rfl (fun _ => q_convU (by kernel_rfl) Tryz.underlying3 rfl) ?_
    refine aC_f 10 rfl (by kernel_rfl) true rfl rfl (fun _ => q_muli rfl rfl (by omega)) ?_
    refine aC_f 11 rfl (by kernel_rfl) true rfl rfl (fun _ => q_addi rfl rfl (by omega)) ?_
    refine aC_f 12 rfl (by kernel_rfl) true rfl rfl (fun _ => q_move rfl) ?_
    refine aC_f 13 rfl (by kernel_rfl) true rfl rfl (fun _ => q_move rfl) ?_
    refine aC_f 14 rfl (by kernel_rfl) true rfl rfl (fun _ => q_addi rfl rfl (by omega)) ?_
    refine aC_f 15 rfl (by kernel_rfl) true rfl rfl (fun _ => q_idxStr (6) Tryz.underlying9 rfl rfl (rfl) (hu 6 (by omega))) ?_
    refine aC_f 16 rfl (by kernel_rfl) true rfl rfl (fun _ => q_convU (by kernel_rfl) Tryz.underlying3 rfl) ?_
    refine aC_f 17 rfl (by kernel_rfl) true rfl rfl (fun _ => q_muli rfl rfl (by omega)) ?_
    refine aC_f 18 rfl (by kernel_rfl) true rfl rfl (fun _ => q_addi rfl rfl (by omega)) ?_
    refine aC_f 19 rfl (by kernel_rfl) true rfl rfl (fun _ => q_move rfl) ?_
    refine aC_f 20 rfl (by kernel_rfl) true rfl rfl (fun _ => q_move rfl) ?_
    refine aC_f 21 rfl (by kernel_rfl) true rfl rfl (fun _ => q_addi rfl rfl (by omega)) ?_
    refine aC_f 22 rfl (by kernel_rfl) true rfl rfl (fun _ => q_idxStr (7) Tryz.underlying9 rfl rfl (rfl) (hu 7 (by omega))) ?_
    refine aC_f 23 rfl (by kernel_rfl) true rfl rfl (fun _ => q_convU (by kernel_rfl) Tryz.underlying3 rfl) ?_
    refine aC_f 24 rfl (by kernel_rfl) true rfl rfl (fun _ => q_muli rfl rfl (by omega)) ?_
    refine aC_f 25 rfl (by kernel_rfl) true rfl rfl (fun _ => q_addi rfl rfl (by omega)) ?_
    refine aC_f 26 rfl (by kernel_rfl) true rfl rfl (fun _ => q_assign rfl) ?_
    refine aC_nil (by kernel_rfl) ?_
    refine thn_n (awp_seq (awp_seq (awp_region (aL_s true rfl rfl (fun _ => q_move rfl) (aL_s true rfl rfl (fun _ => q_geq rfl rfl) (aL_nil (thn_n ?_)))))))
    refine awp_cond _ rfl (fun h3 => ?_) (fun h3 => ?_)
    ·skip
     rw [if_pos (of_decide_eq_true h3)] at hz
     refine awp_region (aL_s true rfl rfl (fun _ => q_move rfl) ?_)
     refine aL_s true rfl rfl (fun _ => q_subi rfl rfl (by omega)) ?_
     refine aL_s true rfl rfl (fun _ => q_assign rfl) (aL_nil (thn_n (awp_seq ?_)))
     refine awp_drawnC [22] [22] [] (by kernel_rfl) ?_
     show aC _ _ _ _ _ _ _ 23 #[false, false, false, false, false, false, false, false, false, false, false, false, false, false, false, false, false, false, false, false, false, false, false] _
     refine aC_f 0 rfl (by kernel_rfl) true rfl rfl (fun _ => q_move rfl) ?_
     refine aC_f 1 rfl (by kernel_rfl) true rfl rfl (fun _ => q_move rfl) ?_
     refine aC_f 2 rfl (by kernel_rfl) true rfl rfl (fun _ => q_idxStr (0) Tryz.underlying9 rfl rfl (rfl) (hu 0 (by omega))) ?_
     refine aC_f 3 rfl (by kernel_rfl) true rfl rfl (fun _ => q_convU (by kernel_rfl) Tryz.underlying3 rfl) ?_
     refine aC_f 4 rfl (by kernel_rfl) true rfl rfl (fun _ => q_move rfl) ?_
     refine aC_f 5 rfl (by kernel_rfl) true rfl rfl (fun _ => q_move rfl) ?_
     refine aC_f 6 rfl (by kernel_rfl) true rfl rfl (fun _ => q_addi rfl rfl (by omega)) ?_
     refine aC_f 7 rfl (by kernel_rfl) true rfl rfl (fun _ => q_idxStr (1) Tryz.underlying9 rfl rfl (rfl) (hu 1 (by omega))) ?_
     refine aC_f 8 rfl (by kernel_rfl) true rfl rfl (fun _ => q_convU (by kernel_rfl) Tryz.underlying3 rfl) ?_
     refine aC_f 9 rfl (by kernel_rfl) true rfl rfl (fun _ => q_move rfl) ?_
     refine aC_f 10 rfl (by kernel_rfl) true rfl rfl (fun _ => q_move rfl) ?_
     refine aC_f 11 rfl (by kernel_rfl) true rfl rfl (fun _ => q_addi rfl rfl (by omega)) ?_
     refine aC_f 12 rfl (by kernel_rfl) true rfl rfl (fun _ => q_idxStr (2) Tryz.underlying9 rfl rfl (rfl) (hu 2 (by omega))) ?_
     refine aC_f 13 rfl (by kernel_rfl) true rfl rfl (fun _ => q_convU (by kernel_rfl) Tryz.underlying3 rfl) ?_
     refine aC_f 14 rfl (by kernel_rfl) true rfl rfl (fun _ => q_move rfl) ?_
     refine aC_f 15 rfl (by kernel_rfl) true rfl rfl (fun _ => q_move rfl) ?_
     refine aC_f 16 rfl (by kernel_rfl) true rfl rfl (fun _ => q_addi rfl rfl (by omega)) ?_
     refine aC_f 17 rfl (by kernel_rfl) true rfl rfl (fun _ => q_idxStr (3) Tryz.underlying9 rfl rfl (rfl) (hu 3 (by omega))) ?_
     refine aC_f 18 rfl (by kernel_rfl) true rfl rfl (fun _ => q_convU (by kernel_rfl) Tryz.underlying3 rfl) ?_
     refine aC_f 19 rfl (by kernel_rfl) true rfl rfl (fun _ => q_move rfl) ?_
     refine aC_f 20 rfl (by kernel_rfl) true rfl rfl (fun _ => q_bld (l := [(0, .tmp 56), (1, .tmp 61), (2, .tmp 66), (3, .tmp 71), (4, .tmp 72)]) (zs := [.int .i64 0, .int .i64 0, .int .i64 0, .int .i64 0, .int .i64 0]) (pl := [(0, 1), (1, 1), (2, 1), (3, 1), (4, 1)]) (by kernel_rfl) (by kernel_rfl) (by kernel_rfl) rfl rfl rfl) ?_
     refine aC_arms 21 [] (by kernel_rfl) (arms_cons ?_ arms_nil)
     refine aC_arm 21 rfl rfl (Eff.x ?_)
     refine id (x_alloc (zs := [.int .i64 0, .int .i64 0, .int .i64 0, .int .i64 0, .int .i64 0]) (by kernel_rfl) rfl (fun b8_21 => ?_))
     refine aC_st (by (try simp only [nO, nK, nL]); rfl) (by (try simp only [nM, nN]); rfl) (by (try simp only [keepH, nQ, nR, putB, place, Nat.reduceBEq, nA, if_true, if_false, reduceIte, nB, nC, nD, nE, nF, nG, nH, nI, Nat.reduceAdd, nJ, beq_self_eq_true, nK, nL, nM, nN]); rfl) ?_
     refine aC_arms 22 [] (by kernel_rfl) (arms_cons ?_ arms_nil)
     refine aC_arm 22 rfl rfl (Eff.wild (q := false) ?_)
     refine id (x_store 1 tk46 rfl rfl rfl rfl ?_)
     refine aC_st (by (try simp only [nO, nK, nL]); rfl) (by (try simp only [nM, nN]); rfl) (by (try simp only [keepH, nQ, nR, putB, place, Nat.reduceBEq, nA, if_true, if_false, reduceIte, nB, nC, nD, nE, nF, nG, nH, nI, Nat.reduceAdd, nJ, beq_self_eq_true, nK, nL, nM, nN]); rfl) ?_
     refine aC_nil (by kernel_rfl) ?_
     refine thn_n (awp_seq (awp_seq (awp_region (aL_s true rfl rfl (fun _ => q_load 1 tk46 rfl rfl rfl) ?_))))
     refine aL_s true rfl rfl (fun _ => q_call (by kernel_rfl) rfl (fun w S fp hst => (right9_fn ⟨_, _, _, _, _⟩ (by unfold I64; dsimp only; omega)).quiet0 hst)) ?_
     refine aL_s true rfl rfl (fun _ => q_not rfl) (aL_nil (thn_n ?_))
     refine awp_cond _ rfl (fun h4 => ?_) (fun h4 => ?_)
     ·skip
      refine awp_seq (awp_region ?_)
      refine aL_s true rfl rfl (fun _ => q_bld (l := []) (zs := [.int .i64 0, .int .i64 0, .int .i64 0, .int .i64 0, .int .i64 0]) (pl := [(0, 1), (1, 1), (2, 1), (3, 1), (4, 1)]) (by kernel_rfl) (by kernel_rfl) (by kernel_rfl) rfl rfl rfl) ?_
      refine aL_eff rfl (x_store 0 tk46 rfl rfl rfl rfl ?_)
      refine aL_hp (by simp only [nK, nL]; rfl) ?_
      refine aL_s true rfl rfl (fun _ => q_assign rfl) (aL_nil (thn_n (awp_ret (thn_r ?_))))
      refine finR2 [] [] rfl Tryz.results85 (rv_cell 0 tk46 rfl rfl rfl) (rv_tmp rfl) ?_ (.inr rfl)
      have hr := insOf_right l (by omega) false _ hz (by simpa using h4)
      rw [decI_bad hr]; rfl
     ·skip
      refine awp_skip (thn_n (awp_seq (awp_region (aL_s true rfl rfl (fun _ => q_load 1 tk46 rfl rfl rfl) ?_))))
      refine aL_eff rfl (x_store 0 tk46 rfl rfl rfl rfl ?_)
      refine aL_hp (by simp only [nK, nL]; rfl) ?_
      refine aL_s true rfl rfl (fun _ => q_assign rfl) (aL_nil (thn_n (awp_ret ?_)))
      refine finR2 [] [] rfl Tryz.results85 (rv_cell 0 tk46 rfl rfl rfl) (rv_tmp rfl) ?_ (.inr rfl)
      have hr := insOf_right l (by omega) true _ hz (by simpa using h4)
      rw [decI_yes hlen hr]
      show _ = Value.tuple #[.agg (insZ (insOf l).z).toArray, _]
      rw [hz]; rfl
    ·skip
     rw [if_neg (of_decide_eq_false h3)] at hz
     refine awp_skip (thn_n (awp_seq ?_))
     refine awp_drawnC [22] [22] [] (by kernel_rfl) ?_
     show aC _ _ _ _ _ _ _ 23 #[false, false, false, false, false, false, false, false, false, false, false, false, false, false, false, false, false, false, false, false, false, false, false] _
     refine aC_f 0 rfl (by kernel_rfl) true rfl rfl (fun _ => q_move rfl) ?_
     refine aC_f 1 rfl (by kernel_rfl) true rfl rfl (fun _ => q_move rfl) ?_
     refine aC_f 2 rfl (by kernel_rfl) true rfl rfl (fun _ => q_idxStr (0) Tryz.underlying9 rfl rfl (rfl) (hu 0 (by omega))) ?_
     refine aC_f 3 rfl (by kernel_rfl) true rfl rfl (fun _ => q_convU (by kernel_rfl) Tryz.underlying3 rfl) ?_
     refine aC_f 4 rfl (by kernel_rfl) true rfl rfl (fun _ => q_move rfl) ?_
     refine aC_f 5 rfl (by kernel_rfl) true rfl rfl (fun _ => q_move rfl) ?_
     refine aC_f 6 rfl (by kernel_rfl) true rfl rfl (fun _ => q_addi rfl rfl (by omega)) ?_
     refine aC_f 7 rfl (by kernel_rfl) true rfl rfl (fun _ => q_idxStr (1) Tryz.underlying9 rfl rfl (rfl) (hu 1 (by omega))) ?_
     refine aC_f 8 rfl (by kernel_rfl) true rfl rfl (fun _ => q_convU (by kernel_rfl) Tryz.underlying3 rfl) ?_
     refine aC_f 9 rfl (by kernel_rfl) true rfl rfl (fun _ => q_move rfl) ?_
     refine aC_f 10 rfl (by kernel_rfl) true rfl rfl (fun _ => q_move rfl) ?_
     refine aC_f 11 rfl (by kernel_rfl) true rfl rfl (fun _ => q_addi rfl rfl (by omega)) ?_
     refine aC_f 12 rfl (by kernel_rfl) true rfl rfl (fun _ => q_idxStr (2) Tryz.underlying9 rfl rfl (rfl) (hu 2 (by omega))) ?_
     refine aC_f 13 rfl (by kernel_rfl) true rfl rfl (fun _ => q_convU (by kernel_rfl) Tryz.underlying3 rfl) ?_
     refine aC_f 14 rfl (by kernel_rfl) true rfl rfl (fun _ => q_move rfl) ?_
     refine aC_f 15 rfl (by kernel_rfl) true rfl rfl (fun _ => q_move rfl) ?_
     refine aC_f 16 rfl (by kernel_rfl) true rfl rfl (fun _ => q_addi rfl rfl (by omega)) ?_
     refine aC_f 17 rfl (by kernel_rfl) true rfl rfl (fun _ => q_idxStr (3) Tryz.underlying9 rfl rfl (rfl) (hu 3 (by omega))) ?_
     refine aC_f 18 rfl (by kernel_rfl) true rfl rfl (fun _ => q_convU (by kernel_rfl) Tryz.underlying3 rfl) ?_
     refine aC_f 19 rfl (by kernel_rfl) true rfl rfl (fun _ => q_move rfl) ?_
     refine aC_f 20 rfl (by kernel_rfl) true rfl rfl (fun _ => q_bld (l := [(0, .tmp 56), (1, .tmp 61), (2, .tmp 66), (3, .tmp 71), (4, .tmp 72)]) (zs := [.int .i64 0, .int .i64 0, .int .i64 0, .int .i64 0, .int .i64 0]) (pl := [(0, 1), (1, 1), (2, 1), (3, 1), (4, 1)]) (by kernel_rfl) (by kernel_rfl) (by kernel_rfl) rfl rfl rfl) ?_
     refine aC_arms 21 [] (by kernel_rfl) (arms_cons ?_ arms_nil)
     refine aC_arm 21 rfl rfl (Eff.x ?_)
     refine id (x_alloc (zs := [.int .i64 0, .int .i64 0, .int .i64 0, .int .i64 0, .int .i64 0]) (by kernel_rfl) rfl (fun b8_21 => ?_))
     refine aC_st (by (try simp only [nO, nK, nL]); rfl) (by (try simp only [nM, nN]); rfl) (by (try simp only [keepH, nQ, nR, putB, place, Nat.reduceBEq, nA, if_true, if_false, reduceIte, nB, nC, nD, nE, nF, nG, nH, nI, Nat.reduceAdd, nJ, beq_self_eq_true, nK, nL, nM, nN]); rfl) ?_
     refine aC_arms 22 [] (by kernel_rfl) (arms_cons ?_ arms_nil)
     refine aC_arm 22 rfl rfl (Eff.wild (q := false) ?_)
     refine id (x_store 1 tk46 rfl rfl rfl rfl ?_)
     refine aC_st (by (try simp only [nO, nK, nL]); rfl) (by (try simp only [nM, nN]); rfl) (by (try simp only [keepH, nQ, nR, putB, place, Nat.reduceBEq, nA, if_true, if_false, reduceIte, nB, nC, nD, nE, nF, nG, nH, nI, Nat.reduceAdd, nJ, beq_self_eq_true, nK, nL, nM, nN]); rfl) ?_
     refine aC_nil (by kernel_rfl) ?_
     refine thn_n (awp_seq (awp_seq (awp_region (aL_s true rfl rfl (fun _ => q_load 1 tk46 rfl rfl rfl) ?_))))
     refine aL_s true rfl rfl (fun _ => q_call (by kernel_rfl) rfl (fun w S fp hst => (right9_fn ⟨_, _, _, _, _⟩ (by unfold I64; dsimp only; omega)).quiet0 hst)) ?_
     refine aL_s true rfl rfl (fun _ => q_not rfl) (aL_nil (thn_n ?_))
     refine awp_cond _ rfl (fun h5 => ?_) (fun h5 => ?_)
     ·skip
      refine awp_seq (awp_region ?_)
      refine aL_s true rfl rfl (fun _ => q_bld (l := []) (zs := [.int .i64 0, .int .i64 0, .int .i64 0, .int .i64 0, .int .i64 0]) (pl := [(0, 1), (1, 1), (2, 1), (3, 1), (4, 1)]) (by kernel_rfl) (by kernel_rfl) (by kernel_rfl) rfl rfl rfl) ?_
      refine aL_eff rfl (x_store 0 tk46 rfl rfl rfl rfl ?_)
      refine aL_hp (by simp only [nK, nL]; rfl) ?_
      refine aL_s true rfl rfl (fun _ => q_assign rfl) (aL_nil (thn_n (awp_ret (thn_r ?_))))
      refine finR2 [] [] rfl Tryz.results85 (rv_cell 0 tk46 rfl rfl rfl) (rv_tmp rfl) ?_ (.inr rfl)
      have hr := insOf_right l (by omega) false _ hz (by simpa using h5)
      rw [decI_bad hr]; rfl
     ·skip
      refine awp_skip (thn_n (awp_seq (awp_region (aL_s true rfl rfl (fun _ => q_load 1 tk46 rfl rfl rfl) ?_))))
      refine aL_eff rfl (x_store 0 tk46 rfl rfl rfl rfl ?_)
      refine aL_hp (by simp only [nK, nL]; rfl) ?_
      refine aL_s true rfl rfl (fun _ => q_assign rfl) (aL_nil (thn_n (awp_ret ?_)))
      refine finR2 [] [] rfl Tryz.results85 (rv_cell 0 tk46 rfl rfl rfl) (rv_tmp rfl) ?_ (.inr rfl)
      have hr := insOf_right l (by omega) true _ hz (by simpa using h5)
      rw [decI_yes hlen hr]
      show _ = Value.tuple #[.agg (insZ (insOf l).z).toArray, _]
      rw [hz]; rfl
theorem fault_fn (e : Int) : Con Tryz.prog 28 [.int .i64 e] [] [] fun r _ _ => r = .agg (evV 5 e).toArray := by
  refine Con.enter Tryz.func28 rfl (by simp [Tryz.ntmps28]) ?_
  show awp _ _ _ _ ⟨[(0, true, _)], _, _⟩
  refine awp_seq (awp_region ?_)
  refine aL_eff (q := true) rfl (x_alloc (zs := [.int .i64 0, .int .i64 0]) (by kernel_rfl) rfl (fun b0_0 => ?_))
  refine aL_hp (by (try simp only [nM, nN]); rfl) ?_
  refine aL_nil (thn_n (awp_seq (awp_region (aL_s true rfl rfl (fun _ => q_move rfl) ?_))))
  refine aL_s true rfl rfl (fun _ => q_bld (l := [(0, .const (.int .i64 5)), (1, .tmp 3)]) (zs := [.int .i64 0, .int .i64 0]) (pl := [(0, 1), (1, 1)]) (by kernel_rfl) (by kernel_rfl) (by kernel_rfl) rfl rfl rfl) ?_
  refine aL_eff rfl (x_store 0 tk36 rfl rfl rfl rfl ?_)
  refine aL_hp (by simp only [nK, nL]; rfl) ?_
  refine aL_nil (thn_n (awp_ret ?_))
  refine finR1 [] [] rfl Tryz.results28 (rv_cell 0 tk36 rfl rfl rfl) ?_ (.inr rfl)
  rfl
theorem truth29_fn (b : Bool) : Con Tryz.prog 86 [.bool b] [] [] fun r _ _ => r = .int .i64 (truthI b) := by
  refine Con.enter Tryz.func86 rfl (by simp [Tryz.ntmps86]) ?_
  show awp _ _ _ _ ⟨[(0, true, _)], _, _⟩
  refine awp_seq (awp_region (aL_s true rfl rfl (fun _ => q_assign rfl) (aL_nil (thn_n (awp_seq (awp_seq (awp_region ?_)))))))
  refine aL_s true rfl rfl (fun _ => q_move rfl) (aL_nil (thn_n ?_))
  refine awp_cond _ rfl (fun h1 => ?_) (fun h1 => ?_)
  ·skip
   refine awp_seq (awp_region (aL_s true rfl rfl (fun _ => q_assign rfl) (aL_nil (thn_n (awp_ret (thn_r ?_))))))
   refine fin1 [] [] rfl Tryz.results86 rfl ?_ (.inr rfl)
   rw [h1]; rfl
  ·skip
   refine awp_skip (thn_n (awp_seq (awp_region (aL_s true rfl rfl (fun _ => q_assign rfl) (aL_nil (thn_n (awp_ret ?_)))))))
   refine fin1 [] [] rfl Tryz.results86 rfl ?_ (.inr rfl)
   rw [h1]; rfl
theorem fetch29_fn (p : Nat) (M : Mem) (at_ : Int) (hat : I64 at_) : Con Tryz.prog 27 [.pointer (some ⟨p, 0, none⟩), .int .i64 at_] [] [RfR p M]
    fun r ps' hp' => r = .tuple #[.agg (insV ((fetchM M at_).1.getD ins0)).toArray, .int .i64 (fetchM M at_).2] ∧ ps' = [] ∧ hp' = [RfR p M] := by
  have hlen := readM_len M at_ 8
  have e8 : (at_.tmod 8 = 0) ↔ at_ % 8 = 0 := by rw [← Int.dvd_iff_tmod_eq_zero, Int.dvd_iff_emod_eq_zero]
  have hoff : (ofBytes (readM M at_ 8).1).data.toList = (readM M at_ 8).1 := rfl
  refine Con.enter Tryz.func27 rfl (by simp [Tryz.ntmps27]) ?_
  show awp _ _ _ _ ⟨[(0, true, _), (1, true, _)], _, _⟩
  refine awp_seq (awp_region ?_)
  refine aL_eff (q := true) rfl (x_alloc (zs := [.int .i64 0, .int .i64 0, .int .i64 0, .int .i64 0, .int .i64 0]) (by kernel_rfl) rfl (fun b0_0 => ?_))
  refine aL_hp (by (try simp only [nM, nN]); rfl) ?_
  refine aL_s true rfl rfl (fun _ => q_assign rfl) (aL_nil (thn_n (awp_seq (awp_region (aL_s true rfl rfl (fun _ => q_move rfl) (aL_s true rfl rfl (fun _ => q_move rfl) ?_))))))
  refine aL_s true rfl rfl (fun _ => q_call (by kernel_rfl) rfl (fun w S fp hst => q_lendR (fun dA dB cA cB hI hl => area28_fn p M dA dB cA cB hI.right hl at_ hat) hst 0 rfl)) ?_
  refine aL_s true rfl rfl (fun _ => q_move rfl) (aL_s true rfl rfl (fun _ => q_extract rfl rfl) (aL_s true rfl rfl (fun _ => q_extract rfl rfl) ?_))
  refine aL_eff (q := true) rfl (x_alloc (zs := [.int .i64 0, .int .i64 0, .int .i64 0, .int .i64 0, .int .i64 0]) (by kernel_rfl) rfl (fun b1_6 => ?_))
  refine aL_hp (by (try simp only [nM, nN]); rfl) ?_
  refine aL_eff rfl (x_store 2 tk58 rfl rfl rfl rfl ?_)
  refine aL_hp (by simp only [nK, nL]; rfl) ?_
  refine aL_s true rfl rfl (fun _ => q_assign rfl) (aL_nil (thn_n (awp_seq (awp_region (aL_s true rfl rfl (fun _ => q_move rfl) (aL_s true rfl rfl (fun _ => q_move rfl) ?_))))))
  refine aL_s true rfl rfl (fun _ => q_call (by kernel_rfl) rfl (fun w S fp hst => q_lendR (fun dA dB cA cB hI hl => read28_fn p M dA dB cA cB hI hl at_ 8 hat (by unfold I64; omega)) hst 0 rfl)) ?_
  refine aL_s true rfl rfl (fun _ => q_move rfl) (aL_s true rfl rfl (fun _ => q_extract rfl rfl) (aL_s true rfl rfl (fun _ => q_extract rfl rfl) (aL_s true rfl rfl (fun _ => q_assign rfl) (aL_s true rfl rfl (fun _ => q_assign rfl) (aL_nil (thn_n (awp_seq ?_)))))))
  refine awp_seq (awp_region (aL_s true rfl rfl (fun _ => q_move rfl) ?_))
  refine aL_s true rfl rfl (fun _ => q_rem rfl rfl (by decide)) ?_
  refine aL_s true rfl rfl (fun _ => q_neq rfl rfl) (aL_s true rfl rfl (fun _ => q_move rfl) (aL_s _ rfl rfl (fun hc => q_move rfl) (aL_s _ rfl rfl (fun hc => q_not (ev_yes rfl hc)) (aL_s true rfl rfl (fun _ => q_or rfl rfl (fun h => gf rfl h)) (aL_s true rfl rfl (fun _ => q_move rfl) ?_)))))
  refine aL_s _ rfl rfl (fun hc => q_fieldAddr (off := 2) (by kernel_rfl) rfl) ?_
  refine aL_s _ rfl rfl (fun hc => q_load 2 tk3 (ev_yes rfl hc) rfl rfl) (aL_s _ rfl rfl (fun hc => q_neq (ev_yes rfl hc) rfl) (aL_s true rfl rfl (fun _ => q_or rfl rfl (fun h => gf rfl h)) (aL_s true rfl rfl (fun _ => q_move rfl) (aL_s _ rfl rfl (fun hc => q_move rfl) (aL_s _ rfl rfl (fun hc => q_neq (ev_yes rfl hc) rfl) (aL_s true rfl rfl (fun _ => q_or rfl rfl (fun h => gf rfl h)) (aL_nil ?_)))))))
  refine thn_n ?_
  refine awp_cond _ rfl (fun h1 => ?_) (fun h1 => ?_)
  ·skip
   refine awp_seq (awp_region ?_)
   refine aL_s true rfl rfl (fun _ => q_bld (l := []) (zs := [.int .i64 0, .int .i64 0, .int .i64 0, .int .i64 0, .int .i64 0]) (pl := [(0, 1), (1, 1), (2, 1), (3, 1), (4, 1)]) (by kernel_rfl) (by kernel_rfl) (by kernel_rfl) rfl rfl rfl) ?_
   refine aL_eff rfl (x_store 1 tk46 rfl rfl rfl rfl ?_)
   refine aL_hp (by simp only [nK, nL]; rfl) ?_
   refine aL_s true rfl rfl (fun _ => q_assign rfl) (aL_nil (thn_n (awp_ret (thn_r ?_))))
   refine finR2 [] [0] rfl Tryz.results27 (rv_cell 1 tk46 rfl rfl rfl) (rv_tmp rfl) ?_ (.inr rfl)
   have e : fetchM M at_ = (none, 6) := by
     unfold fetchM
     rw [if_pos]
     simp only [Bool.or_eq_true, Bool.not_eq_true', decide_eq_false_iff_not, decide_eq_true_eq] at h1
     rcases h1 with ((h | h) | h) | h
     · exact .inr (.inr (.inr (fun h' => h (e8.2 h'))))
     · exact .inl h
     · exact .inr (.inl h)
     · exact .inr (.inr (.inl h))
   rw [e]; exact ⟨rfl, rfl, rfl⟩
  ·skip
   have hno : ¬ ((areaM M at_).2 = false ∨ (areaM M at_).1.kind ≠ 0 ∨ (readM M at_ 8).2 ≠ 0 ∨ at_ % 8 ≠ 0) := by
     simp only [Bool.or_eq_false_iff, Bool.not_eq_false', decide_eq_true_eq, decide_eq_false_iff_not, Classical.not_not] at h1
     obtain ⟨⟨⟨g4, g1⟩, g2⟩, g3⟩ := h1
     rintro (h | h | h | h)
     · rw [g1] at h; cases h
     · exact h g2
     · exact h g3
     · exact h (e8.1 g4)
   refine awp_skip (thn_n (awp_seq (awp_region (aL_s true rfl rfl (fun _ => q_move rfl) ?_))))
   refine aL_s true rfl rfl (fun _ => q_call (by kernel_rfl) rfl (fun w S fp hst => (decode9_fn (ofBytes (readM M at_ 8).1) (by rw [ofBytes_size]; unfold maxLen; omega)).quiet0 hst)) ?_
   refine aL_s true rfl rfl (fun _ => q_move rfl) (aL_s true rfl rfl (fun _ => q_extract rfl rfl) (aL_s true rfl rfl (fun _ => q_extract rfl rfl) ?_))
   refine aL_eff (q := true) rfl (x_alloc (zs := [.int .i64 0, .int .i64 0, .int .i64 0, .int .i64 0, .int .i64 0]) (by kernel_rfl) rfl (fun b5_5 => ?_))
   refine aL_hp (by (try simp only [nM, nN]); rfl) ?_
   refine aL_eff rfl (x_store 3 tk46 rfl rfl rfl rfl ?_)
   refine aL_hp (by simp only [nK, nL]; rfl) ?_
   refine aL_s true rfl rfl (fun _ => q_assign rfl) (aL_nil (thn_n (awp_seq (awp_seq (awp_region (aL_s true rfl rfl (fun _ => q_move rfl) (aL_s true rfl rfl (fun _ => q_not rfl) ?_)))))))
   refine aL_nil (thn_n ?_)
   refine awp_cond _ rfl (fun h2 => ?_) (fun h2 => ?_)
   ·skip
    refine awp_seq (awp_region ?_)
    refine aL_s true rfl rfl (fun _ => q_bld (l := []) (zs := [.int .i64 0, .int .i64 0, .int .i64 0, .int .i64 0, .int .i64 0]) (pl := [(0, 1), (1, 1), (2, 1), (3, 1), (4, 1)]) (by kernel_rfl) (by kernel_rfl) (by kernel_rfl) rfl rfl rfl) ?_
    refine aL_eff rfl (x_store 1 tk46 rfl rfl rfl rfl ?_)
    refine aL_hp (by simp only [nK, nL]; rfl) ?_
    refine aL_s true rfl rfl (fun _ => q_assign rfl) (aL_nil (thn_n (awp_ret (thn_r ?_))))
    refine finR2 [] [0] rfl Tryz.results27 (rv_cell 1 tk46 rfl rfl rfl) (rv_tmp rfl) ?_ (.inr rfl)
    have e : fetchM M at_ = (none, 2) := by
      unfold fetchM
      rw [if_neg hno]
      rw [hoff] at h2
      cases hd : decI (readM M at_ 8).1 with
      | none => rfl
      | some i => rw [hd] at h2; simp at h2
    rw [e]; exact ⟨rfl, rfl, rfl⟩
   ·skip
    refine awp_skip (thn_n (awp_seq (awp_region (aL_s true rfl rfl (fun _ => q_load 3 tk46 rfl rfl rfl) ?_))))
    refine aL_eff rfl (x_store 1 tk46 rfl rfl rfl rfl ?_)
    refine aL_hp (by simp only [nK, nL]; rfl) ?_
    refine aL_s true rfl rfl (fun _ => q_assign rfl) (aL_nil (thn_n (awp_ret ?_)))
    refine finR2 [] [0] rfl Tryz.results27 (rv_cell 1 tk46 rfl rfl rfl) (rv_tmp rfl) ?_ (.inr rfl)
    rw [hoff] at h2 ⊢
    cases hd : decI (readM M at_ 8).1 with
    | none => rw [hd] at h2; simp at h2
    | some i =>
      have e : fetchM M at_ = (some i, 0) := by
        unfold fetchM
        rw [if_neg hno, hd]
      rw [e]; exact ⟨rfl, rfl, rfl⟩
theorem empty29_fn (p : Nat) (M : Mem) (dA dB : Option Addr) (cA cB : Nat) (hI : MInv M) (hl : M.length ≤ 4096) (at_ : Int) (hat : I64 at_) : Con Tryz.prog 31 [.pointer (some ⟨p, 0, none⟩), .int .i64 at_] (rfP M p cA cB dA dB) [] fun r _ _ => r = .bool (emptyO M at_) := by
  have HI := Lib.hid hI
  clear hI
  refine Con.enter Tryz.func31 rfl (by simp [Tryz.ntmps31]) ?_
  show awp _ _ _ _ ⟨[(0, true, _), (1, true, _)], _, _⟩
  refine awp_seq (awp_region (aL_s true rfl rfl (fun _ => q_assign rfl) (aL_nil (thn_n (awp_seq (awp_region (aL_s true rfl rfl (fun _ => q_move rfl) ?_)))))))
  refine aL_s true rfl rfl (fun _ => q_move rfl) ?_
  refine aL_s true rfl rfl (fun _ => q_call (by kernel_rfl) rfl (fun w S fp hst => (load28_fn p M dA dB cA cB HI.out hl at_ 8 hat (by unfold I64; omega)).quiet (fun _ h => h) hst)) ?_
  refine aL_s true rfl rfl (fun _ => q_move rfl) (aL_s true rfl rfl (fun _ => q_extract rfl rfl) (aL_s true rfl rfl (fun _ => q_extract rfl rfl) (aL_s true rfl rfl (fun _ => q_assign rfl) (aL_s true rfl rfl (fun _ => q_assign rfl) (aL_nil (thn_n (awp_seq ?_)))))))
  refine awp_region (aL_s true rfl rfl (fun _ => q_move rfl) (aL_s true rfl rfl (fun _ => q_eql rfl rfl) (aL_s true rfl rfl (fun _ => q_move rfl) (aL_s _ rfl rfl (fun hc => q_move rfl) (aL_s _ rfl rfl (fun hc => q_eql (ev_yes rfl hc) rfl) (aL_s true rfl rfl (fun _ => q_and rfl rfl (fun h => gt rfl h)) (aL_s true rfl rfl (fun _ => q_assign rfl) ?_)))))))
  refine aL_nil (thn_n (awp_ret ?_))
  refine fin1 [] [] rfl Tryz.results31 rfl ?_ (.inr rfl)
  rfl
theorem push29_fn (p : Nat) (M : Mem) (c : Cpu) (n : Int) (hn : I64 n) : Con Tryz.prog 89 [.pointer (some ⟨p, 0, none⟩), .agg (cpuV c).toArray, .int .i64 n] [] [RfR p M]
    fun r ps' hp' => r = .tuple #[.agg (cpuV (pushO M c n).1).toArray, .int .i64 (pushO M c n).2.1] ∧ ps' = [] ∧ hp' = [RfR p (pushO M c n).2.2] := by
  refine Con.enter Tryz.func89 rfl (by simp [Tryz.ntmps89]) ?_
  show awp _ _ _ _ ⟨[(0, true, _), (1, true, _), (2, true, _)], _, _⟩
  refine awp_seq (awp_region ?_)
  refine aL_eff (q := true) rfl (x_box rfl rfl rfl (fun b0_0 => ?_))
  refine aL_hp (by (try simp only [nM, nN]); rfl) ?_
  refine aL_eff (q := true) rfl (x_alloc (zs := [.int .i64 0, .int .i64 0, .int .i64 0, .int .i64 0, .int .i64 0, .int .i64 0, .int .i64 0, .int .i64 0, .int .i64 0, .int .i64 0, .int .i64 0, .int .i64 0, .int .i64 0, .int .i64 0, .int .i64 0, .int .i64 0, .int .i64 0]) (by kernel_rfl) rfl (fun b0_1 => ?_))
  refine aL_hp (by (try simp only [nM, nN]); rfl) ?_
  refine aL_s true rfl rfl (fun _ => q_assign rfl) (aL_nil (thn_n (awp_seq (awp_region (aL_s true rfl rfl (fun _ => q_move rfl) ?_)))))
  refine aL_s true rfl rfl (fun _ => q_fieldAddr (off := 0) (by kernel_rfl) rfl) ?_
  refine aL_s true rfl rfl (fun _ => q_idxArr (15) Tryz.underlying31 tk3 rfl rfl (rfl) (by decide)) ?_
  refine aL_s true rfl rfl (fun _ => q_load 1 tk3 rfl rfl rfl) (aL_s true rfl rfl (fun _ => q_sub rfl rfl) (aL_s true rfl rfl (fun _ => q_move rfl) ?_))
  refine aL_eff (q := false) rfl (e_call [] [0] (by kernel_rfl) rfl rfl rfl rfl (store28_fn p M (w64 (c.r 15 - 8)) 8 n (wrI _) (by unfold I64; omega) hn) ?_)
  rintro v ps' hp' ⟨rfl, rfl, rfl⟩
  refine aL_st (by (try simp only [nM, nN]); rfl) (by (try simp only [putB, place, Nat.reduceBEq, nA, if_true, if_false, reduceIte, nB, nC, nD, nE, nF, nG, nH, nI, Nat.reduceAdd, nJ, beq_self_eq_true, nK, nL, nM, nN]); rfl) ?_
  refine aL_s true rfl rfl (fun _ => q_assign rfl) (aL_nil (thn_n (awp_seq (awp_seq (awp_region (aL_s true rfl rfl (fun _ => q_move rfl) (aL_s true rfl rfl (fun _ => q_eql rfl rfl) ?_)))))))
  refine aL_nil (thn_n ?_)
  refine awp_cond _ rfl (fun h1 => ?_) (fun h1 => ?_)
  ·skip
   refine awp_region ?_
   refine aL_s true rfl rfl (fun _ => q_fieldAddr (off := 0) (by kernel_rfl) rfl) ?_
   refine aL_s true rfl rfl (fun _ => q_idxArr (15) Tryz.underlying31 tk3 rfl rfl (rfl) (by decide)) ?_
   refine aL_s true rfl rfl (fun _ => q_load 1 tk3 rfl rfl rfl) (aL_s true rfl rfl (fun _ => q_sub rfl rfl) ?_)
   refine aL_s true rfl rfl (fun _ => q_fieldAddr (off := 0) (by kernel_rfl) rfl) ?_
   refine aL_s true rfl rfl (fun _ => q_idxArr (15) Tryz.underlying31 tk3 rfl rfl (rfl) (by decide)) ?_
   refine aL_eff rfl (x_store 1 tk3 rfl rfl rfl rfl ?_)
   refine aL_hp (by simp only [nK, nL]; rfl) ?_
   refine aL_nil (thn_n (awp_seq (awp_region (aL_s true rfl rfl (fun _ => q_load 1 tk33 rfl rfl rfl) (aL_s true rfl rfl (fun _ => q_move rfl) ?_)))))
   refine aL_eff rfl (x_store 2 tk33 rfl rfl rfl rfl ?_)
   refine aL_hp (by simp only [nK, nL]; rfl) ?_
   refine aL_s true rfl rfl (fun _ => q_assign rfl) (aL_nil (thn_n (awp_ret ?_)))
   refine finR2 [] [0] rfl Tryz.results89 (rv_cell 2 tk33 rfl rfl rfl) (rv_tmp rfl) ?_ (.inr rfl)
   unfold pushO; rw [if_pos (of_decide_eq_true h1)]; exact ⟨rfl, rfl, rfl⟩
  ·skip
   refine awp_skip (thn_n (awp_seq (awp_region (aL_s true rfl rfl (fun _ => q_load 1 tk33 rfl rfl rfl) (aL_s true rfl rfl (fun _ => q_move rfl) ?_)))))
   refine aL_eff rfl (x_store 2 tk33 rfl rfl rfl rfl ?_)
   refine aL_hp (by simp only [nK, nL]; rfl) ?_
   refine aL_s true rfl rfl (fun _ => q_assign rfl) (aL_nil (thn_n (awp_ret ?_)))
   refine finR2 [] [0] rfl Tryz.results89 (rv_cell 2 tk33 rfl rfl rfl) (rv_tmp rfl) ?_ (.inr rfl)
   unfold pushO; rw [if_neg (of_decide_eq_false h1)]; exact ⟨rfl, rfl, rfl⟩
theorem val29_fn (i : Ins) (c : Cpu) (hr : rightB i = true) : Con Tryz.prog 29 [.agg (insV i).toArray, .agg (cpuV c).toArray] [] [] fun r _ _ => r = .tuple #[.int .i64 ((valO i c i.op).getD 0), .bool (valO i c i.op).isSome] := by
  obtain ⟨ha, hb, hc⟩ := right_abc hr
  obtain ⟨⟨o1, o2⟩, _, _⟩ := rightB_iff.1 hr
  refine Con.enter Tryz.func29 rfl (by simp [Tryz.ntmps29]) ?_
  show awp _ _ _ _ ⟨[(0, true, _), (1, true, _)], _, _⟩
  refine awp_seq (awp_region ?_)
  refine aL_eff (q := true) rfl (x_box rfl rfl rfl (fun b0_0 => ?_))
  refine aL_hp (by (try simp only [nM, nN]); rfl) ?_
  refine aL_eff (q := true) rfl (x_box rfl rfl rfl (fun b0_1 => ?_))
  refine aL_hp (by (try simp only [nM, nN]); rfl) ?_
  refine aL_s true rfl rfl (fun _ => q_assign rfl) (aL_s true rfl rfl (fun _ => q_assign rfl) (aL_nil (thn_n (awp_seq (awp_region ?_)))))
  refine aL_s true rfl rfl (fun _ => q_fieldAddr (off := 1) (by kernel_rfl) rfl) ?_
  refine aL_s true rfl rfl (fun _ => q_load 0 tk3 rfl rfl rfl) ?_
  refine aL_s true rfl rfl (fun _ => q_fieldAddr (off := 0) (by kernel_rfl) rfl) ?_
  refine aL_s true rfl rfl (fun _ => q_idxArr (i.a) Tryz.underlying31 tk3 rfl rfl (rfl) (ha)) (aL_s true rfl rfl (fun _ => q_load (v := .int .i64 (c.r i.a)) 1 tk3 rfl rfl (cpuV_get0 c ha)) (aL_s true rfl rfl (fun _ => q_assign rfl) (aL_nil (thn_n (awp_seq (awp_region ?_))))))
  refine aL_s true rfl rfl (fun _ => q_fieldAddr (off := 2) (by kernel_rfl) rfl) ?_
  refine aL_s true rfl rfl (fun _ => q_load 0 tk3 rfl rfl rfl) ?_
  refine aL_s true rfl rfl (fun _ => q_fieldAddr (off := 0) (by kernel_rfl) rfl) ?_
  refine aL_s true rfl rfl (fun _ => q_idxArr (i.b) Tryz.underlying31 tk3 rfl rfl (rfl) (hb)) (aL_s true rfl rfl (fun _ => q_load (v := .int .i64 (c.r i.b)) 1 tk3 rfl rfl (cpuV_get0 c hb)) (aL_s true rfl rfl (fun _ => q_assign rfl) (aL_nil (thn_n (awp_seq (awp_region ?_))))))
  refine aL_s true rfl rfl (fun _ => q_fieldAddr (off := 3) (by kernel_rfl) rfl) ?_
  refine aL_s true rfl rfl (fun _ => q_load 0 tk3 rfl rfl rfl) ?_
  refine aL_s true rfl rfl (fun _ => q_fieldAddr (off := 0) (by kernel_rfl) rfl) ?_
  refine aL_s true rfl rfl (fun _ => q_idxArr (i.c) Tryz.underlying31 tk3 rfl rfl (rfl) (hc)) (aL_s true rfl rfl (fun _ => q_load (v := .int .i64 (c.r i.c)) 1 tk3 rfl rfl (cpuV_get0 c hc)) (aL_s true rfl rfl (fun _ => q_assign rfl) (aL_nil (thn_n (awp_seq (awp_seq (awp_region ?_)))))))
  refine aL_s true rfl rfl (fun _ => q_fieldAddr (off := 0) (by kernel_rfl) rfl) ?_
  refine aL_s true rfl rfl (fun _ => q_load 0 tk3 rfl rfl rfl) (aL_nil (thn_n (awp_block (awp_seq (awp_region (aL_s true rfl rfl (fun _ => q_eql rfl rfl) (aL_s true rfl rfl (fun _ => q_assign rfl) ?_)))))))
  refine aL_nil (thn_n ?_)
  refine awp_cond _ rfl (fun h1 => ?_) (fun h1 => ?_)
  ·skip
   refine awp_seq (awp_region ?_)
   refine aL_s true rfl rfl (fun _ => q_fieldAddr (off := 4) (by kernel_rfl) rfl) ?_
   refine aL_s true rfl rfl (fun _ => q_load 0 tk3 rfl rfl rfl) (aL_s true rfl rfl (fun _ => q_assign rfl) (aL_s true rfl rfl (fun _ => q_assign rfl) (aL_nil (thn_n (awp_ret (blk_r (thn_r ?_)))))))
   refine fin2 [] [] rfl Tryz.results29 rfl rfl ?_ (.inr rfl)
   simp only [decide_eq_true_eq, decide_eq_false_iff_not] at *
   first
   | (have e : i.op = 3 := by omega
      rw [e]; rfl)
   | (have e : i.op = 4 := by omega
      rw [e]; rfl)
   | (have e : i.op = 5 := by omega
      rw [e]; rfl)
   | (have e : i.op = 29 := by omega
      rw [e]; rfl)
   | (have e : i.op = 6 := by omega
      rw [e]; rfl)
   | (have e : i.op = 7 := by omega
      rw [e]; rfl)
   | (have e : i.op = 8 := by omega
      rw [e]; rfl)
   | (have e : i.op = 9 := by omega
      rw [e]; rfl)
   | (have e : i.op = 10 := by omega
      rw [e]; rfl)
   | (have e : i.op = 11 := by omega
      rw [e]; rfl)
   | (have e : i.op = 12 := by omega
      rw [e]; rfl)
   | (have e : i.op = 13 := by omega
      rw [e]; rfl)
   | (have e : i.op = 14 := by omega
      rw [e]; rfl)
   | (rw [valO_none i c i.op (by omega) (by omega) (by omega)]; rfl)
  ·skip
   refine awp_seq (awp_region (aL_s true rfl rfl (fun _ => q_eql rfl rfl) (aL_s true rfl rfl (fun _ => q_assign rfl) (aL_nil (thn_n ?_)))))
   refine awp_cond _ rfl (fun h2 => ?_) (fun h2 => ?_)
   ·skip
    refine awp_seq (awp_region (aL_s true rfl rfl (fun _ => q_move rfl) (aL_s true rfl rfl (fun _ => q_andB rfl rfl) ?_)))
    refine aL_s true rfl rfl (fun _ => q_fieldAddr (off := 4) (by kernel_rfl) rfl) ?_
    refine aL_s true rfl rfl (fun _ => q_load 0 tk3 rfl rfl rfl) ?_
    refine aL_s true rfl rfl (fun _ => q_shl rfl rfl (by decide)) ?_
    refine aL_s true rfl rfl (fun _ => q_orB rfl rfl) (aL_s true rfl rfl (fun _ => q_assign rfl) (aL_s true rfl rfl (fun _ => q_assign rfl) (aL_nil (thn_n (awp_ret (blk_r (thn_r ?_)))))))
    refine fin2 [] [] rfl Tryz.results29 rfl rfl ?_ (.inr rfl)
    simp only [decide_eq_true_eq, decide_eq_false_iff_not] at *
    first
    | (have e : i.op = 3 := by omega
       rw [e]; rfl)
    | (have e : i.op = 4 := by omega
       rw [e]; rfl)
    | (have e : i.op = 5 := by omega
       rw [e]; rfl)
    | (have e : i.op = 29 := by omega
       rw [e]; rfl)
    | (have e : i.op = 6 := by omega
       rw [e]; rfl)
    | (have e : i.op = 7 := by omega
       rw [e]; rfl)
    | (have e : i.op = 8 := by omega
       rw [e]; rfl)
    | (have e : i.op = 9 := by omega
       rw [e]; rfl)
    | (have e : i.op = 10 := by omega
       rw [e]; rfl)
    | (have e : i.op = 11 := by omega
       rw [e]; rfl)
    | (have e : i.op = 12 := by omega
       rw [e]; rfl)
    | (have e : i.op = 13 := by omega
       rw [e]; rfl)
    | (have e : i.op = 14 := by omega
       rw [e]; rfl)
    | (rw [valO_none i c i.op (by omega) (by omega) (by omega)]; rfl)
   ·skip
    refine awp_seq (awp_seq (awp_region (aL_s true rfl rfl (fun _ => q_eql rfl rfl) (aL_s true rfl rfl (fun _ => q_assign rfl) (aL_nil (thn_n ?_))))))
    refine awp_cond _ rfl (fun h3 => ?_) (fun h3 => ?_)
    ·skip
     refine awp_skip (thn_n ?_)
     refine awp_cond _ rfl (fun _ => ?_) (fun h => absurd (h3.symm.trans h) (by decide))
     refine awp_seq (awp_region (aL_s true rfl rfl (fun _ => q_move rfl) (aL_s true rfl rfl (fun _ => q_assign rfl) (aL_s true rfl rfl (fun _ => q_assign rfl) (aL_nil (thn_n (awp_ret ?_)))))))
     refine blk_r (thn_r ?_)
     refine fin2 [] [] rfl Tryz.results29 rfl rfl ?_ (.inr rfl)
     simp only [decide_eq_true_eq, decide_eq_false_iff_not] at *
     first
     | (have e : i.op = 3 := by omega
        rw [e]; rfl)
     | (have e : i.op = 4 := by omega
        rw [e]; rfl)
     | (have e : i.op = 5 := by omega
        rw [e]; rfl)
     | (have e : i.op = 29 := by omega
        rw [e]; rfl)
     | (have e : i.op = 6 := by omega
        rw [e]; rfl)
     | (have e : i.op = 7 := by omega
        rw [e]; rfl)
     | (have e : i.op = 8 := by omega
        rw [e]; rfl)
     | (have e : i.op = 9 := by omega
        rw [e]; rfl)
     | (have e : i.op = 10 := by omega
        rw [e]; rfl)
     | (have e : i.op = 11 := by omega
        rw [e]; rfl)
     | (have e : i.op = 12 := by omega
        rw [e]; rfl)
     | (have e : i.op = 13 := by omega
        rw [e]; rfl)
     | (have e : i.op = 14 := by omega
        rw [e]; rfl)
     | (rw [valO_none i c i.op (by omega) (by omega) (by omega)]; rfl)
    ·skip
     refine awp_region (aL_s true rfl rfl (fun _ => q_eql rfl rfl) (aL_s true rfl rfl (fun _ => q_assign rfl) (aL_nil (thn_n ?_))))
     refine awp_cond _ rfl (fun h4 => ?_) (fun h4 => ?_)
     ·skip
      refine awp_seq (awp_region (aL_s true rfl rfl (fun _ => q_move rfl) (aL_s true rfl rfl (fun _ => q_assign rfl) (aL_s true rfl rfl (fun _ => q_assign rfl) (aL_nil (thn_n (awp_ret ?_)))))))
      refine blk_r (thn_r ?_)
      refine fin2 [] [] rfl Tryz.results29 rfl rfl ?_ (.inr rfl)
      simp only [decide_eq_true_eq, decide_eq_false_iff_not] at *
      first
      | (have e : i.op = 3 := by omega
         rw [e]; rfl)
      | (have e : i.op = 4 := by omega
         rw [e]; rfl)
      | (have e : i.op = 5 := by omega
         rw [e]; rfl)
      | (have e : i.op = 29 := by omega
         rw [e]; rfl)
      | (have e : i.op = 6 := by omega
         rw [e]; rfl)
      | (have e : i.op = 7 := by omega
         rw [e]; rfl)
      | (have e : i.op = 8 := by omega
         rw [e]; rfl)
      | (have e : i.op = 9 := by omega
         rw [e]; rfl)
      | (have e : i.op = 10 := by omega
         rw [e]; rfl)
      | (have e : i.op = 11 := by omega
         rw [e]; rfl)
      | (have e : i.op = 12 := by omega
         rw [e]; rfl)
      | (have e : i.op = 13 := by omega
         rw [e]; rfl)
      | (have e : i.op = 14 := by omega
         rw [e]; rfl)
      | (rw [valO_none i c i.op (by omega) (by omega) (by omega)]; rfl)
     ·skip
      refine awp_seq (awp_region (aL_s true rfl rfl (fun _ => q_eql rfl rfl) (aL_s true rfl rfl (fun _ => q_assign rfl) (aL_nil (thn_n ?_)))))
      refine awp_cond _ rfl (fun h5 => ?_) (fun h5 => ?_)
      ·skip
       refine awp_seq (awp_region (aL_s true rfl rfl (fun _ => q_move rfl) (aL_s true rfl rfl (fun _ => q_move rfl) (aL_s true rfl rfl (fun _ => q_add rfl rfl) (aL_s true rfl rfl (fun _ => q_assign rfl) (aL_s true rfl rfl (fun _ => q_assign rfl) (aL_nil ?_)))))))
       refine thn_n (awp_ret (blk_r (thn_r ?_)))
       refine fin2 [] [] rfl Tryz.results29 rfl rfl ?_ (.inr rfl)
       simp only [decide_eq_true_eq, decide_eq_false_iff_not] at *
       first
       | (have e : i.op = 3 := by omega
          rw [e]; rfl)
       | (have e : i.op = 4 := by omega
          rw [e]; rfl)
       | (have e : i.op = 5 := by omega
          rw [e]; rfl)
       | (have e : i.op = 29 := by omega
          rw [e]; rfl)
       | (have e : i.op = 6 := by omega
          rw [e]; rfl)
       | (have e : i.op = 7 := by omega
          rw [e]; rfl)
       | (have e : i.op = 8 := by omega
          rw [e]; rfl)
       | (have e : i.op = 9 := by omega
          rw [e]; rfl)
       | (have e : i.op = 10 := by omega
          rw [e]; rfl)
       | (have e : i.op = 11 := by omega
          rw [e]; rfl)
       | (have e : i.op = 12 := by omega
          rw [e]; rfl)
       | (have e : i.op = 13 := by omega
          rw [e]; rfl)
       | (have e : i.op = 14 := by omega
          rw [e]; rfl)
       | (rw [valO_none i c i.op (by omega) (by omega) (by omega)]; rfl)
      ·skip
       refine awp_seq (awp_region (aL_s true rfl rfl (fun _ => q_eql rfl rfl) (aL_s true rfl rfl (fun _ => q_assign rfl) (aL_nil (thn_n ?_)))))
       refine awp_cond _ rfl (fun h6 => ?_) (fun h6 => ?_)
       ·skip
        refine awp_seq (awp_region (aL_s true rfl rfl (fun _ => q_move rfl) (aL_s true rfl rfl (fun _ => q_move rfl) (aL_s true rfl rfl (fun _ => q_sub rfl rfl) (aL_s true rfl rfl (fun _ => q_assign rfl) (aL_s true rfl rfl (fun _ => q_assign rfl) (aL_nil ?_)))))))
        refine thn_n (awp_ret (blk_r (thn_r ?_)))
        refine fin2 [] [] rfl Tryz.results29 rfl rfl ?_ (.inr rfl)
        simp only [decide_eq_true_eq, decide_eq_false_iff_not] at *
        first
        | (have e : i.op = 3 := by omega
           rw [e]; rfl)
        | (have e : i.op = 4 := by omega
           rw [e]; rfl)
        | (have e : i.op = 5 := by omega
           rw [e]; rfl)
        | (have e : i.op = 29 := by omega
           rw [e]; rfl)
        | (have e : i.op = 6 := by omega
           rw [e]; rfl)
        | (have e : i.op = 7 := by omega
           rw [e]; rfl)
        | (have e : i.op = 8 := by omega
           rw [e]; rfl)
        | (have e : i.op = 9 := by omega
           rw [e]; rfl)
        | (have e : i.op = 10 := by omega
           rw [e]; rfl)
        | (have e : i.op = 11 := by omega
           rw [e]; rfl)
        | (have e : i.op = 12 := by omega
           rw [e]; rfl)
        | (have e : i.op = 13 := by omega
           rw [e]; rfl)
        | (have e : i.op = 14 := by omega
           rw [e]; rfl)
        | (rw [valO_none i c i.op (by omega) (by omega) (by omega)]; rfl)
       ·skip
        refine awp_seq (awp_region (aL_s true rfl rfl (fun _ => q_eql rfl rfl) (aL_s true rfl rfl (fun _ => q_assign rfl) (aL_nil (thn_n ?_)))))
        refine awp_cond _ rfl (fun h7 => ?_) (fun h7 => ?_)
        ·skip
         refine awp_seq (awp_region (aL_s true rfl rfl (fun _ => q_move rfl) (aL_s true rfl rfl (fun _ => q_move rfl) (aL_s true rfl rfl (fun _ => q_mul rfl rfl) (aL_s true rfl rfl (fun _ => q_assign rfl) (aL_s true rfl rfl (fun _ => q_assign rfl) (aL_nil ?_)))))))
         refine thn_n (awp_ret (blk_r (thn_r ?_)))
         refine fin2 [] [] rfl Tryz.results29 rfl rfl ?_ (.inr rfl)
         simp only [decide_eq_true_eq, decide_eq_false_iff_not] at *
         first
         | (have e : i.op = 3 := by omega
            rw [e]; rfl)
         | (have e : i.op = 4 := by omega
            rw [e]; rfl)
         | (have e : i.op = 5 := by omega
            rw [e]; rfl)
         | (have e : i.op = 29 := by omega
            rw [e]; rfl)
         | (have e : i.op = 6 := by omega
            rw [e]; rfl)
         | (have e : i.op = 7 := by omega
            rw [e]; rfl)
         | (have e : i.op = 8 := by omega
            rw [e]; rfl)
         | (have e : i.op = 9 := by omega
            rw [e]; rfl)
         | (have e : i.op = 10 := by omega
            rw [e]; rfl)
         | (have e : i.op = 11 := by omega
            rw [e]; rfl)
         | (have e : i.op = 12 := by omega
            rw [e]; rfl)
         | (have e : i.op = 13 := by omega
            rw [e]; rfl)
         | (have e : i.op = 14 := by omega
            rw [e]; rfl)
         | (rw [valO_none i c i.op (by omega) (by omega) (by omega)]; rfl)
        ·skip
         refine awp_seq (awp_region (aL_s true rfl rfl (fun _ => q_eql rfl rfl) (aL_s true rfl rfl (fun _ => q_assign rfl) (aL_nil (thn_n ?_)))))
         refine awp_cond _ rfl (fun h8 => ?_) (fun h8 => ?_)
         ·skip
          refine awp_seq (awp_region (aL_s true rfl rfl (fun _ => q_move rfl) (aL_s true rfl rfl (fun _ => q_move rfl) (aL_s true rfl rfl (fun _ => q_andB rfl rfl) (aL_s true rfl rfl (fun _ => q_assign rfl) (aL_s true rfl rfl (fun _ => q_assign rfl) (aL_nil ?_)))))))
          refine thn_n (awp_ret (blk_r (thn_r ?_)))
          refine fin2 [] [] rfl Tryz.results29 rfl rfl ?_ (.inr rfl)
          simp only [decide_eq_true_eq, decide_eq_false_iff_not] at *
          first
          | (have e : i.op = 3 := by omega
             rw [e]; rfl)
          | (have e : i.op = 4 := by omega
             rw [e]; rfl)
          | (have e : i.op = 5 := by omega
             rw [e]; rfl)
          | (have e : i.op = 29 := by omega
             rw [e]; rfl)
          | (have e : i.op = 6 := by omega
             rw [e]; rfl)
          | (have e : i.op = 7 := by omega
             rw [e]; rfl)
          | (have e : i.op = 8 := by omega
             rw [e]; rfl)
          | (have e : i.op = 9 := by omega
             rw [e]; rfl)
          | (have e : i.op = 10 := by omega
             rw [e]; rfl)
          | (have e : i.op = 11 := by omega
             rw [e]; rfl)
          | (have e : i.op = 12 := by omega
             rw [e]; rfl)
          | (have e : i.op = 13 := by omega
             rw [e]; rfl)
          | (have e : i.op = 14 := by omega
             rw [e]; rfl)
          | (rw [valO_none i c i.op (by omega) (by omega) (by omega)]; rfl)
         ·skip
          refine awp_seq (awp_region (aL_s true rfl rfl (fun _ => q_eql rfl rfl) (aL_s true rfl rfl (fun _ => q_assign rfl) (aL_nil (thn_n ?_)))))
          refine awp_cond _ rfl (fun h9 => ?_) (fun h9 => ?_)
          ·skip
           refine awp_seq (awp_region (aL_s true rfl rfl (fun _ => q_move rfl) (aL_s true rfl rfl (fun _ => q_move rfl) (aL_s true rfl rfl (fun _ => q_orB rfl rfl) (aL_s true rfl rfl (fun _ => q_assign rfl) (aL_s true rfl rfl (fun _ => q_assign rfl) (aL_nil ?_)))))))
           refine thn_n (awp_ret (blk_r (thn_r ?_)))
           refine fin2 [] [] rfl Tryz.results29 rfl rfl ?_ (.inr rfl)
           simp only [decide_eq_true_eq, decide_eq_false_iff_not] at *
           first
           | (have e : i.op = 3 := by omega
              rw [e]; rfl)
           | (have e : i.op = 4 := by omega
              rw [e]; rfl)
           | (have e : i.op = 5 := by omega
              rw [e]; rfl)
           | (have e : i.op = 29 := by omega
              rw [e]; rfl)
           | (have e : i.op = 6 := by omega
              rw [e]; rfl)
           | (have e : i.op = 7 := by omega
              rw [e]; rfl)
           | (have e : i.op = 8 := by omega
              rw [e]; rfl)
           | (have e : i.op = 9 := by omega
              rw [e]; rfl)
           | (have e : i.op = 10 := by omega
              rw [e]; rfl)
           | (have e : i.op = 11 := by omega
              rw [e]; rfl)
           | (have e : i.op = 12 := by omega
              rw [e]; rfl)
           | (have e : i.op = 13 := by omega
              rw [e]; rfl)
           | (have e : i.op = 14 := by omega
              rw [e]; rfl)
           | (rw [valO_none i c i.op (by omega) (by omega) (by omega)]; rfl)
          ·skip
           refine awp_seq (awp_region (aL_s true rfl rfl (fun _ => q_eql rfl rfl) (aL_s true rfl rfl (fun _ => q_assign rfl) (aL_nil (thn_n ?_)))))
           refine awp_cond _ rfl (fun h10 => ?_) (fun h10 => ?_)
           ·skip
            refine awp_seq (awp_region (aL_s true rfl rfl (fun _ => q_move rfl) (aL_s true rfl rfl (fun _ => q_move rfl) (aL_s true rfl rfl (fun _ => q_lss rfl rfl) ?_))))
            refine aL_s true rfl rfl (fun _ => q_call (by kernel_rfl) rfl (fun w S fp hst => (truth29_fn _).quiet0 hst)) ?_
            refine aL_s true rfl rfl (fun _ => q_assign rfl) (aL_s true rfl rfl (fun _ => q_assign rfl) (aL_nil (thn_n (awp_ret (blk_r (thn_r ?_))))))
            refine fin2 [] [] rfl Tryz.results29 rfl rfl ?_ (.inr rfl)
            simp only [decide_eq_true_eq, decide_eq_false_iff_not] at *
            first
            | (have e : i.op = 3 := by omega
               rw [e]; rfl)
            | (have e : i.op = 4 := by omega
               rw [e]; rfl)
            | (have e : i.op = 5 := by omega
               rw [e]; rfl)
            | (have e : i.op = 29 := by omega
               rw [e]; rfl)
            | (have e : i.op = 6 := by omega
               rw [e]; rfl)
            | (have e : i.op = 7 := by omega
               rw [e]; rfl)
            | (have e : i.op = 8 := by omega
               rw [e]; rfl)
            | (have e : i.op = 9 := by omega
               rw [e]; rfl)
            | (have e : i.op = 10 := by omega
               rw [e]; rfl)
            | (have e : i.op = 11 := by omega
               rw [e]; rfl)
            | (have e : i.op = 12 := by omega
               rw [e]; rfl)
            | (have e : i.op = 13 := by omega
               rw [e]; rfl)
            | (have e : i.op = 14 := by omega
               rw [e]; rfl)
            | (rw [valO_none i c i.op (by omega) (by omega) (by omega)]; rfl)
           ·skip
            refine awp_seq (awp_region (aL_s true rfl rfl (fun _ => q_eql rfl rfl) (aL_s true rfl rfl (fun _ => q_assign rfl) (aL_nil (thn_n ?_)))))
            refine awp_cond _ rfl (fun h11 => ?_) (fun h11 => ?_)
            ·skip
             refine awp_seq (awp_region (aL_s true rfl rfl (fun _ => q_move rfl) (aL_s true rfl rfl (fun _ => q_move rfl) (aL_s true rfl rfl (fun _ => q_eql rfl rfl) ?_))))
             refine aL_s true rfl rfl (fun _ => q_call (by kernel_rfl) rfl (fun w S fp hst => (truth29_fn _).quiet0 hst)) ?_
             refine aL_s true rfl rfl (fun _ => q_assign rfl) (aL_s true rfl rfl (fun _ => q_assign rfl) (aL_nil (thn_n (awp_ret (blk_r (thn_r ?_))))))
             refine fin2 [] [] rfl Tryz.results29 rfl rfl ?_ (.inr rfl)
             simp only [decide_eq_true_eq, decide_eq_false_iff_not] at *
             first
             | (have e : i.op = 3 := by omega
                rw [e]; rfl)
             | (have e : i.op = 4 := by omega
                rw [e]; rfl)
             | (have e : i.op = 5 := by omega
                rw [e]; rfl)
             | (have e : i.op = 29 := by omega
                rw [e]; rfl)
             | (have e : i.op = 6 := by omega
                rw [e]; rfl)
             | (have e : i.op = 7 := by omega
                rw [e]; rfl)
             | (have e : i.op = 8 := by omega
                rw [e]; rfl)
             | (have e : i.op = 9 := by omega
                rw [e]; rfl)
             | (have e : i.op = 10 := by omega
                rw [e]; rfl)
             | (have e : i.op = 11 := by omega
                rw [e]; rfl)
             | (have e : i.op = 12 := by omega
                rw [e]; rfl)
             | (have e : i.op = 13 := by omega
                rw [e]; rfl)
             | (have e : i.op = 14 := by omega
                rw [e]; rfl)
             | (rw [valO_none i c i.op (by omega) (by omega) (by omega)]; rfl)
            ·skip
             refine awp_seq (awp_region (aL_s true rfl rfl (fun _ => q_eql rfl rfl) (aL_s true rfl rfl (fun _ => q_assign rfl) (aL_nil (thn_n ?_)))))
             refine awp_cond _ rfl (fun h12 => ?_) (fun h12 => ?_)
             ·skip
              refine awp_seq (awp_region (aL_s true rfl rfl (fun _ => q_move rfl) ?_))
              refine aL_s true rfl rfl (fun _ => q_fieldAddr (off := 4) (by kernel_rfl) rfl) ?_
              refine aL_s true rfl rfl (fun _ => q_load 0 tk3 rfl rfl rfl) (aL_s true rfl rfl (fun _ => q_add rfl rfl) (aL_s true rfl rfl (fun _ => q_assign rfl) (aL_s true rfl rfl (fun _ => q_assign rfl) (aL_nil (thn_n (awp_ret (blk_r ?_)))))))
              refine thn_r ?_
              refine fin2 [] [] rfl Tryz.results29 rfl rfl ?_ (.inr rfl)
              simp only [decide_eq_true_eq, decide_eq_false_iff_not] at *
              first
              | (have e : i.op = 3 := by omega
                 rw [e]; rfl)
              | (have e : i.op = 4 := by omega
                 rw [e]; rfl)
              | (have e : i.op = 5 := by omega
                 rw [e]; rfl)
              | (have e : i.op = 29 := by omega
                 rw [e]; rfl)
              | (have e : i.op = 6 := by omega
                 rw [e]; rfl)
              | (have e : i.op = 7 := by omega
                 rw [e]; rfl)
              | (have e : i.op = 8 := by omega
                 rw [e]; rfl)
              | (have e : i.op = 9 := by omega
                 rw [e]; rfl)
              | (have e : i.op = 10 := by omega
                 rw [e]; rfl)
              | (have e : i.op = 11 := by omega
                 rw [e]; rfl)
              | (have e : i.op = 12 := by omega
                 rw [e]; rfl)
              | (have e : i.op = 13 := by omega
                 rw [e]; rfl)
              | (have e : i.op = 14 := by omega
                 rw [e]; rfl)
              | (rw [valO_none i c i.op (by omega) (by omega) (by omega)]; rfl)
             ·skip
              refine awp_seq (awp_region (aL_s true rfl rfl (fun _ => q_eql rfl rfl) (aL_s true rfl rfl (fun _ => q_assign rfl) (aL_nil (thn_n ?_)))))
              refine awp_cond _ rfl (fun h13 => ?_) (fun h13 => ?_)
              ·skip
               refine awp_seq (awp_region ?_)
               refine aL_s true rfl rfl (fun _ => q_fieldAddr (off := 16) (by kernel_rfl) rfl) ?_
               refine aL_s true rfl rfl (fun _ => q_load 1 tk3 rfl rfl rfl) ?_
               refine aL_s true rfl rfl (fun _ => q_fieldAddr (off := 4) (by kernel_rfl) rfl) ?_
               refine aL_s true rfl rfl (fun _ => q_load 0 tk3 rfl rfl rfl) (aL_s true rfl rfl (fun _ => q_add rfl rfl) (aL_s true rfl rfl (fun _ => q_assign rfl) (aL_s true rfl rfl (fun _ => q_assign rfl) (aL_nil (thn_n (awp_ret (blk_r ?_)))))))
               refine thn_r ?_
               refine fin2 [] [] rfl Tryz.results29 rfl rfl ?_ (.inr rfl)
               simp only [decide_eq_true_eq, decide_eq_false_iff_not] at *
               first
               | (have e : i.op = 3 := by omega
                  rw [e]; rfl)
               | (have e : i.op = 4 := by omega
                  rw [e]; rfl)
               | (have e : i.op = 5 := by omega
                  rw [e]; rfl)
               | (have e : i.op = 29 := by omega
                  rw [e]; rfl)
               | (have e : i.op = 6 := by omega
                  rw [e]; rfl)
               | (have e : i.op = 7 := by omega
                  rw [e]; rfl)
               | (have e : i.op = 8 := by omega
                  rw [e]; rfl)
               | (have e : i.op = 9 := by omega
                  rw [e]; rfl)
               | (have e : i.op = 10 := by omega
                  rw [e]; rfl)
               | (have e : i.op = 11 := by omega
                  rw [e]; rfl)
               | (have e : i.op = 12 := by omega
                  rw [e]; rfl)
               | (have e : i.op = 13 := by omega
                  rw [e]; rfl)
               | (have e : i.op = 14 := by omega
                  rw [e]; rfl)
               | (rw [valO_none i c i.op (by omega) (by omega) (by omega)]; rfl)
              ·skip
               refine awp_skip (blk_n (thn_n (awp_seq (awp_region (aL_s true rfl rfl (fun _ => q_assign rfl) (aL_s true rfl rfl (fun _ => q_assign rfl) (aL_nil ?_)))))))
               refine thn_n (awp_ret ?_)
               refine fin2 [] [] rfl Tryz.results29 rfl rfl ?_ (.inr rfl)
               simp only [decide_eq_true_eq, decide_eq_false_iff_not] at *
               first
               | (have e : i.op = 3 := by omega
                  rw [e]; rfl)
               | (have e : i.op = 4 := by omega
                  rw [e]; rfl)
               | (have e : i.op = 5 := by omega
                  rw [e]; rfl)
               | (have e : i.op = 29 := by omega
                  rw [e]; rfl)
               | (have e : i.op = 6 := by omega
                  rw [e]; rfl)
               | (have e : i.op = 7 := by omega
                  rw [e]; rfl)
               | (have e : i.op = 8 := by omega
                  rw [e]; rfl)
               | (have e : i.op = 9 := by omega
                  rw [e]; rfl)
               | (have e : i.op = 10 := by omega
                  rw [e]; rfl)
               | (have e : i.op = 11 := by omega
                  rw [e]; rfl)
               | (have e : i.op = 12 := by omega
                  rw [e]; rfl)
               | (have e : i.op = 13 := by omega
                  rw [e]; rfl)
               | (have e : i.op = 14 := by omega
                  rw [e]; rfl)
               | (rw [valO_none i c i.op (by omega) (by omega) (by omega)]; rfl)
end Go.Proofs.YtpgcoceggacplaaGreatDoor
namespace Go.Lp
open Go.RowKit Go.Proofs.YtpgcoceggacplaaGreatDoor Go.Sy
theorem cpu_wr (c : Cpu) (v : Int) {k : Nat} (hk : k < 16) : wrC (cpuV c) (0 + 0 + k * 1) [.int .i64 v] = cpuV (c.set k v) := by
  rw [show 0 + 0 + k * 1 = k by omega, ← cpuV_set c v hk]
  unfold wrC
  rw [List.set_eq_take_append_cons_drop, if_pos (show k < (cpuV c).length by rw [show (cpuV c).length = 17 from rfl]; omega)]
  rfl
end Go.Lp
namespace Go.Proofs.YtpgcoceggacplaaGreatDoor
open Go.RowKit Go.Lp Go.Sy
theorem mem29_fn (p : Nat) (M : Mem) (c : Cpu) (i : Ins) (hc : CpuOk c) (hr : rightB i = true) (hm : i.op = 15 ∨ i.op = 16 ∨ i.op = 17 ∨ i.op = 18 ∨ i.op = 27 ∨ i.op = 28) :
    Con Tryz.prog 30 [.pointer (some ⟨p, 0, none⟩), .agg (cpuV c).toArray, .agg (insV i).toArray] [] [RfR p M]
    fun r ps' hp' => r = .tuple #[.agg (cpuV (memO M c i i.op).1).toArray, .int .i64 (memO M c i i.op).2.1] ∧ ps' = [] ∧ hp' = [RfR p (memO M c i i.op).2.2] := by
  obtain ⟨ha, hb, _⟩ := right_abc hr
  have i8 : I64 8 := by unfold I64; omega
  have i1 : I64 1 := by unfold I64; omega
  refine Con.enter Tryz.func30 rfl (by simp [Tryz.ntmps30]) ?_
  show awp _ _ _ _ ⟨[(0, true, _), (1, true, _), (2, true, _)], _, _⟩
  refine awp_seq (awp_region ?_)
  refine aL_eff (q := true) rfl (x_box rfl rfl rfl (fun b0_0 => ?_))
  refine aL_hp (by (try simp only [nM, nN]); rfl) ?_
  refine aL_eff (q := true) rfl (x_box rfl rfl rfl (fun b0_1 => ?_))
  refine aL_hp (by (try simp only [nM, nN]); rfl) ?_
  refine aL_eff (q := true) rfl (x_alloc (zs := [.int .i64 0, .int .i64 0, .int .i64 0, .int .i64 0, .int .i64 0, .int .i64 0, .int .i64 0, .int .i64 0, .int .i64 0, .int .i64 0, .int .i64 0, .int .i64 0, .int .i64 0, .int .i64 0, .int .i64 0, .int .i64 0, .int .i64 0]) (by kernel_rfl) rfl (fun b0_2 => ?_))
  refine aL_hp (by (try simp only [nM, nN]); rfl) ?_
  refine aL_s true rfl rfl (fun _ => q_assign rfl) (aL_nil (thn_n (awp_seq (awp_region (aL_s true rfl rfl (fun _ => q_assign rfl) (aL_nil (thn_n ?_)))))))
  refine awp_seq (awp_region (aL_s true rfl rfl (fun _ => q_assign rfl) (aL_nil (thn_n (awp_seq ?_)))))
  refine awp_drawn [] (by kernel_rfl) ?_
  show aB _ _ _ _ _ 9 #[false, false, false, false, false, false, false, false, false] _
  refine aB_s 0 rfl (by kernel_rfl) true rfl rfl (fun _ => q_fieldAddr (off := 2) (by kernel_rfl) rfl) ?_
  refine aB_hp (by simp only [nO, nK, nL]; rfl) rfl ?_
  refine aB_s 1 rfl (by kernel_rfl) true rfl rfl (fun _ => q_load 2 tk3 rfl rfl rfl) ?_
  refine aB_hp (by simp only [nO, nK, nL]; rfl) rfl ?_
  refine aB_s 2 rfl (by kernel_rfl) true rfl rfl (fun _ => q_fieldAddr (off := 0) (by kernel_rfl) rfl) ?_
  refine aB_hp (by simp only [nO, nK, nL]; rfl) rfl ?_
  refine aB_s 3 rfl (by kernel_rfl) true rfl rfl (fun _ => q_idxArr (i.b) Tryz.underlying31 tk3 rfl rfl (rfl) (hb)) ?_
  refine aB_hp (by simp only [nO, nK, nL]; rfl) rfl ?_
  refine aB_s 4 rfl (by kernel_rfl) true rfl rfl (fun _ => q_load (v := .int .i64 (c.r i.b)) 1 tk3 rfl rfl (cpuV_get0 c hb)) ?_
  refine aB_hp (by simp only [nO, nK, nL]; rfl) rfl ?_
  refine aB_s 5 rfl (by kernel_rfl) true rfl rfl (fun _ => q_fieldAddr (off := 4) (by kernel_rfl) rfl) ?_
  refine aB_hp (by simp only [nO, nK, nL]; rfl) rfl ?_
  refine aB_s 6 rfl (by kernel_rfl) true rfl rfl (fun _ => q_load 2 tk3 rfl rfl rfl) ?_
  refine aB_hp (by simp only [nO, nK, nL]; rfl) rfl ?_
  refine aB_s 7 rfl (by kernel_rfl) true rfl rfl (fun _ => q_add rfl rfl) ?_
  refine aB_hp (by simp only [nO, nK, nL]; rfl) rfl ?_
  refine aB_s 8 rfl (by kernel_rfl) true rfl rfl (fun _ => q_assign rfl) ?_
  refine aB_hp (by simp only [nO, nK, nL]; rfl) rfl ?_
  refine aB_nil (by kernel_rfl) ?_
  refine thn_n (awp_seq (awp_seq (awp_region ?_)))
  refine aL_s true rfl rfl (fun _ => q_fieldAddr (off := 0) (by kernel_rfl) rfl) ?_
  refine aL_s true rfl rfl (fun _ => q_load 2 tk3 rfl rfl rfl) (aL_nil (thn_n (awp_block (awp_seq (awp_region (aL_s true rfl rfl (fun _ => q_eql rfl rfl) (aL_s true rfl rfl (fun _ => q_assign rfl) ?_)))))))
  refine aL_nil (thn_n ?_)
  refine awp_cond _ rfl (fun h1 => ?_) (fun h1 => ?_)
  ·skip
   refine awp_seq (awp_region (aL_s true rfl rfl (fun _ => q_move rfl) (aL_s true rfl rfl (fun _ => q_move rfl) ?_)))
   refine aL_s true rfl rfl (fun _ => q_call (by kernel_rfl) rfl (fun w S fp hst => q_lendR (fun dA dB cA cB hI hl => load28_fn p M dA dB cA cB hI hl (w64 (c.r i.b + i.imm)) 8 (wrI _) i8) hst 0 rfl)) ?_
   refine aL_s true rfl rfl (fun _ => q_move rfl) (aL_s true rfl rfl (fun _ => q_extract rfl rfl) (aL_s true rfl rfl (fun _ => q_extract rfl rfl) (aL_s true rfl rfl (fun _ => q_assign rfl) (aL_s true rfl rfl (fun _ => q_assign rfl) (aL_nil (thn_n (awp_region ?_)))))))
   refine aL_s true rfl rfl (fun _ => q_fieldAddr (off := 1) (by kernel_rfl) rfl) ?_
   refine aL_s true rfl rfl (fun _ => q_load 2 tk3 rfl rfl rfl) (aL_s true rfl rfl (fun _ => q_move rfl) ?_)
   refine aL_s true rfl rfl (fun _ => q_fieldAddr (off := 0) (by kernel_rfl) rfl) ?_
   refine aL_s true rfl rfl (fun _ => q_idxArr (i.a) Tryz.underlying31 tk3 rfl rfl (rfl) (ha)) ?_
   refine aL_eff rfl (e_storeW 1 ([.int .i64 (loadM M (w64 (c.r i.b + i.imm)) 8).1]) (cpuV (c.set i.a (loadM M (w64 (c.r i.b + i.imm)) 8).1)) tk3 rfl rfl rfl rfl rfl (fun v hv => by rw [List.mem_singleton.1 hv]; rfl) (by show _ ≤ 17; omega) (cpu_wr c _ ha) ?_)
   refine aL_hp (by simp only [nK, nL]; rfl) ?_
   refine aL_nil (blk_n (thn_n (awp_seq (awp_region ?_))))
   refine aL_s true rfl rfl (fun _ => q_fieldAddr (off := 16) (by kernel_rfl) rfl) ?_
   refine aL_s true rfl rfl (fun _ => q_load 1 tk3 rfl rfl rfl) (aL_s true rfl rfl (fun _ => q_add rfl rfl) ?_)
   refine aL_s true rfl rfl (fun _ => q_fieldAddr (off := 16) (by kernel_rfl) rfl) ?_
   refine aL_eff rfl (x_store 1 tk3 rfl rfl rfl rfl ?_)
   refine aL_hp (by simp only [nK, nL]; rfl) ?_
   refine aL_nil (thn_n (awp_seq (awp_region (aL_s true rfl rfl (fun _ => q_load 1 tk33 rfl rfl rfl) (aL_s true rfl rfl (fun _ => q_move rfl) ?_)))))
   refine aL_eff rfl (x_store 3 tk33 rfl rfl rfl rfl ?_)
   refine aL_hp (by simp only [nK, nL]; rfl) ?_
   refine aL_s true rfl rfl (fun _ => q_assign rfl) (aL_nil (thn_n (awp_ret ?_)))
   refine finR2 [] [0] rfl Tryz.results30 (rv_cell 3 tk33 rfl rfl rfl) (rv_tmp rfl) ?_ (.inr rfl)
   simp only [decide_eq_true_eq, decide_eq_false_iff_not] at *
   first
   | (have e : i.op = 15 := by omega
      rw [e]; exact ⟨rfl, rfl, rfl⟩)
   | (have e : i.op = 16 := by omega
      rw [e]; exact ⟨rfl, rfl, rfl⟩)
   | (have e : i.op = 17 := by omega
      rw [e]; exact ⟨rfl, rfl, rfl⟩)
   | (have e : i.op = 18 := by omega
      rw [e]; exact ⟨rfl, rfl, rfl⟩)
   | (have e : i.op = 27 := by omega
      rw [e]; exact ⟨rfl, rfl, rfl⟩)
   | (have e : i.op = 28 := by omega
      rw [e]; exact ⟨rfl, rfl, rfl⟩)
   | (exfalso; omega)
  ·skip
   refine awp_seq (awp_region (aL_s true rfl rfl (fun _ => q_eql rfl rfl) (aL_s true rfl rfl (fun _ => q_assign rfl) (aL_nil (thn_n ?_)))))
   refine awp_cond _ rfl (fun h2 => ?_) (fun h2 => ?_)
   ·skip
    refine awp_seq (awp_region (aL_s true rfl rfl (fun _ => q_move rfl) (aL_s true rfl rfl (fun _ => q_move rfl) ?_)))
    refine aL_s true rfl rfl (fun _ => q_call (by kernel_rfl) rfl (fun w S fp hst => q_lendR (fun dA dB cA cB hI hl => load28_fn p M dA dB cA cB hI hl (w64 (c.r i.b + i.imm)) 1 (wrI _) i1) hst 0 rfl)) ?_
    refine aL_s true rfl rfl (fun _ => q_move rfl) (aL_s true rfl rfl (fun _ => q_extract rfl rfl) (aL_s true rfl rfl (fun _ => q_extract rfl rfl) (aL_s true rfl rfl (fun _ => q_assign rfl) (aL_s true rfl rfl (fun _ => q_assign rfl) (aL_nil (thn_n (awp_region ?_)))))))
    refine aL_s true rfl rfl (fun _ => q_fieldAddr (off := 1) (by kernel_rfl) rfl) ?_
    refine aL_s true rfl rfl (fun _ => q_load 2 tk3 rfl rfl rfl) (aL_s true rfl rfl (fun _ => q_move rfl) ?_)
    refine aL_s true rfl rfl (fun _ => q_fieldAddr (off := 0) (by kernel_rfl) rfl) ?_
    refine aL_s true rfl rfl (fun _ => q_idxArr (i.a) Tryz.underlying31 tk3 rfl rfl (rfl) (ha)) ?_
    refine aL_eff rfl (e_storeW 1 ([.int .i64 (loadM M (w64 (c.r i.b + i.imm)) 1).1]) (cpuV (c.set i.a (loadM M (w64 (c.r i.b + i.imm)) 1).1)) tk3 rfl rfl rfl rfl rfl (fun v hv => by rw [List.mem_singleton.1 hv]; rfl) (by show _ ≤ 17; omega) (cpu_wr c _ ha) ?_)
    refine aL_hp (by simp only [nK, nL]; rfl) ?_
    refine aL_nil (blk_n (thn_n (awp_seq (awp_region ?_))))
    refine aL_s true rfl rfl (fun _ => q_fieldAddr (off := 16) (by kernel_rfl) rfl) ?_
    refine aL_s true rfl rfl (fun _ => q_load 1 tk3 rfl rfl rfl) (aL_s true rfl rfl (fun _ => q_add rfl rfl) ?_)
    refine aL_s true rfl rfl (fun _ => q_fieldAddr (off := 16) (by kernel_rfl) rfl) ?_
    refine aL_eff rfl (x_store 1 tk3 rfl rfl rfl rfl ?_)
    refine aL_hp (by simp only [nK, nL]; rfl) ?_
    refine aL_nil (thn_n (awp_seq (awp_region (aL_s true rfl rfl (fun _ => q_load 1 tk33 rfl rfl rfl) (aL_s true rfl rfl (fun _ => q_move rfl) ?_)))))
    refine aL_eff rfl (x_store 3 tk33 rfl rfl rfl rfl ?_)
    refine aL_hp (by simp only [nK, nL]; rfl) ?_
    refine aL_s true rfl rfl (fun _ => q_assign rfl) (aL_nil (thn_n (awp_ret ?_)))
    refine finR2 [] [0] rfl Tryz.results30 (rv_cell 3 tk33 rfl rfl rfl) (rv_tmp rfl) ?_ (.inr rfl)
    simp only [decide_eq_true_eq, decide_eq_false_iff_not] at *
    first
    | (have e : i.op = 15 := by omega
       rw [e]; exact ⟨rfl, rfl, rfl⟩)
    | (have e : i.op = 16 := by omega
       rw [e]; exact ⟨rfl, rfl, rfl⟩)
    | (have e : i.op = 17 := by omega
       rw [e]; exact ⟨rfl, rfl, rfl⟩)
    | (have e : i.op = 18 := by omega
       rw [e]; exact ⟨rfl, rfl, rfl⟩)
    | (have e : i.op = 27 := by omega
       rw [e]; exact ⟨rfl, rfl, rfl⟩)
    | (have e : i.op = 28 := by omega
       rw [e]; exact ⟨rfl, rfl, rfl⟩)
    | (exfalso; omega)
   ·skip
    refine awp_seq (awp_region (aL_s true rfl rfl (fun _ => q_eql rfl rfl) (aL_s true rfl rfl (fun _ => q_assign rfl) (aL_nil (thn_n ?_)))))
    refine awp_cond _ rfl (fun h3 => ?_) (fun h3 => ?_)
    ·skip
     refine awp_region (aL_s true rfl rfl (fun _ => q_move rfl) (aL_s true rfl rfl (fun _ => q_move rfl) ?_))
     refine aL_s true rfl rfl (fun _ => q_fieldAddr (off := 1) (by kernel_rfl) rfl) ?_
     refine aL_s true rfl rfl (fun _ => q_load 2 tk3 rfl rfl rfl) ?_
     refine aL_s true rfl rfl (fun _ => q_fieldAddr (off := 0) (by kernel_rfl) rfl) ?_
     refine aL_s true rfl rfl (fun _ => q_idxArr (i.a) Tryz.underlying31 tk3 rfl rfl (rfl) (ha)) (aL_s true rfl rfl (fun _ => q_load (v := .int .i64 (c.r i.a)) 1 tk3 rfl rfl (cpuV_get0 c ha)) ?_)
     refine aL_eff (q := false) rfl (e_call [] [0] (by kernel_rfl) rfl rfl rfl rfl (store28_fn p M (w64 (c.r i.b + i.imm)) 8 (c.r i.a) (wrI _) i8 (hc.r _)) ?_)
     rintro v ps' hp' ⟨rfl, rfl, rfl⟩
     refine aL_st (by (try simp only [nM, nN]); rfl) (by (try simp only [putB, place, Nat.reduceBEq, nA, if_true, if_false, reduceIte, nB, nC, nD, nE, nF, nG, nH, nI, Nat.reduceAdd, nJ, beq_self_eq_true, nK, nL, nM, nN]); rfl) ?_
     refine aL_s true rfl rfl (fun _ => q_assign rfl) (aL_nil (blk_n (thn_n (awp_seq (awp_region ?_)))))
     refine aL_s true rfl rfl (fun _ => q_fieldAddr (off := 16) (by kernel_rfl) rfl) ?_
     refine aL_s true rfl rfl (fun _ => q_load 1 tk3 rfl rfl rfl) (aL_s true rfl rfl (fun _ => q_add rfl rfl) ?_)
     refine aL_s true rfl rfl (fun _ => q_fieldAddr (off := 16) (by kernel_rfl) rfl) ?_
     refine aL_eff rfl (x_store 1 tk3 rfl rfl rfl rfl ?_)
     refine aL_hp (by simp only [nK, nL]; rfl) ?_
     refine aL_nil (thn_n (awp_seq (awp_region (aL_s true rfl rfl (fun _ => q_load 1 tk33 rfl rfl rfl) (aL_s true rfl rfl (fun _ => q_move rfl) ?_)))))
     refine aL_eff rfl (x_store 3 tk33 rfl rfl rfl rfl ?_)
     refine aL_hp (by simp only [nK, nL]; rfl) ?_
     refine aL_s true rfl rfl (fun _ => q_assign rfl) (aL_nil (thn_n (awp_ret ?_)))
     refine finR2 [] [0] rfl Tryz.results30 (rv_cell 3 tk33 rfl rfl rfl) (rv_tmp rfl) ?_ (.inr rfl)
     simp only [decide_eq_true_eq, decide_eq_false_iff_not] at *
     first
     | (have e : i.op = 15 := by omega
        rw [e]; exact ⟨rfl, rfl, rfl⟩)
     | (have e : i.op = 16 := by omega
        rw [e]; exact ⟨rfl, rfl, rfl⟩)
     | (have e : i.op = 17 := by omega
        rw [e]; exact ⟨rfl, rfl, rfl⟩)
     | (have e : i.op = 18 := by omega
        rw [e]; exact ⟨rfl, rfl, rfl⟩)
     | (have e : i.op = 27 := by omega
        rw [e]; exact ⟨rfl, rfl, rfl⟩)
     | (have e : i.op = 28 := by omega
        rw [e]; exact ⟨rfl, rfl, rfl⟩)
     | (exfalso; omega)
    ·skip
     refine awp_seq (awp_region (aL_s true rfl rfl (fun _ => q_eql rfl rfl) (aL_s true rfl rfl (fun _ => q_assign rfl) (aL_nil (thn_n ?_)))))
     refine awp_cond _ rfl (fun h4 => ?_) (fun h4 => ?_)
     ·skip
      refine awp_region (aL_s true rfl rfl (fun _ => q_move rfl) (aL_s true rfl rfl (fun _ => q_move rfl) ?_))
      refine aL_s true rfl rfl (fun _ => q_fieldAddr (off := 1) (by kernel_rfl) rfl) ?_
      refine aL_s true rfl rfl (fun _ => q_load 2 tk3 rfl rfl rfl) ?_
      refine aL_s true rfl rfl (fun _ => q_fieldAddr (off := 0) (by kernel_rfl) rfl) ?_
      refine aL_s true rfl rfl (fun _ => q_idxArr (i.a) Tryz.underlying31 tk3 rfl rfl (rfl) (ha)) (aL_s true rfl rfl (fun _ => q_load (v := .int .i64 (c.r i.a)) 1 tk3 rfl rfl (cpuV_get0 c ha)) ?_)
      refine aL_eff (q := false) rfl (e_call [] [0] (by kernel_rfl) rfl rfl rfl rfl (store28_fn p M (w64 (c.r i.b + i.imm)) 1 (c.r i.a) (wrI _) i1 (hc.r _)) ?_)
      rintro v ps' hp' ⟨rfl, rfl, rfl⟩
      refine aL_st (by (try simp only [nM, nN]); rfl) (by (try simp only [putB, place, Nat.reduceBEq, nA, if_true, if_false, reduceIte, nB, nC, nD, nE, nF, nG, nH, nI, Nat.reduceAdd, nJ, beq_self_eq_true, nK, nL, nM, nN]); rfl) ?_
      refine aL_s true rfl rfl (fun _ => q_assign rfl) (aL_nil (blk_n (thn_n (awp_seq (awp_region ?_)))))
      refine aL_s true rfl rfl (fun _ => q_fieldAddr (off := 16) (by kernel_rfl) rfl) ?_
      refine aL_s true rfl rfl (fun _ => q_load 1 tk3 rfl rfl rfl) (aL_s true rfl rfl (fun _ => q_add rfl rfl) ?_)
      refine aL_s true rfl rfl (fun _ => q_fieldAddr (off := 16) (by kernel_rfl) rfl) ?_
      refine aL_eff rfl (x_store 1 tk3 rfl rfl rfl rfl ?_)
      refine aL_hp (by simp only [nK, nL]; rfl) ?_
      refine aL_nil (thn_n (awp_seq (awp_region (aL_s true rfl rfl (fun _ => q_load 1 tk33 rfl rfl rfl) (aL_s true rfl rfl (fun _ => q_move rfl) ?_)))))
      refine aL_eff rfl (x_store 3 tk33 rfl rfl rfl rfl ?_)
      refine aL_hp (by simp only [nK, nL]; rfl) ?_
      refine aL_s true rfl rfl (fun _ => q_assign rfl) (aL_nil (thn_n (awp_ret ?_)))
      refine finR2 [] [0] rfl Tryz.results30 (rv_cell 3 tk33 rfl rfl rfl) (rv_tmp rfl) ?_ (.inr rfl)
      simp only [decide_eq_true_eq, decide_eq_false_iff_not] at *
      first
      | (have e : i.op = 15 := by omega
         rw [e]; exact ⟨rfl, rfl, rfl⟩)
      | (have e : i.op = 16 := by omega
         rw [e]; exact ⟨rfl, rfl, rfl⟩)
      | (have e : i.op = 17 := by omega
         rw [e]; exact ⟨rfl, rfl, rfl⟩)
      | (have e : i.op = 18 := by omega
         rw [e]; exact ⟨rfl, rfl, rfl⟩)
      | (have e : i.op = 27 := by omega
         rw [e]; exact ⟨rfl, rfl, rfl⟩)
      | (have e : i.op = 28 := by omega
         rw [e]; exact ⟨rfl, rfl, rfl⟩)
      | (exfalso; omega)
     ·skip
      refine awp_seq (awp_region (aL_s true rfl rfl (fun _ => q_eql rfl rfl) (aL_s true rfl rfl (fun _ => q_assign rfl) (aL_nil (thn_n ?_)))))
      refine awp_cond _ rfl (fun h5 => ?_) (fun h5 => ?_)
      ·skip
       refine awp_drawnC [7, 11] [11] [b0_0, b0_1] (by kernel_rfl) ?_
       show aC _ _ _ _ _ _ _ 13 #[false, false, false, false, false, false, false, false, false, false, false, false, false] _
       refine aC_f 0 rfl (by kernel_rfl) true rfl rfl (fun _ => q_move rfl) ?_
       refine aC_box 1 1 rfl (by kernel_rfl) true rfl rfl (by simp) tk33 (fun _ => rfl) rfl rfl ?_
       refine aC_f 2 rfl (by kernel_rfl) true rfl rfl (fun _ => q_fieldAddr (off := 1) (by kernel_rfl) rfl) ?_
       refine aC_box 3 2 rfl (by kernel_rfl) true rfl rfl (by simp) tk3 (fun _ => rfl) rfl rfl ?_
       refine aC_f 4 rfl (by kernel_rfl) true rfl rfl (fun _ => q_fieldAddr (off := 0) (by kernel_rfl) rfl) ?_
       refine aC_f 5 rfl (by kernel_rfl) true rfl rfl (fun _ => q_idxArr (i.a) Tryz.underlying31 tk3 rfl rfl (rfl) (ha)) ?_
       refine aC_box (v := .int .i64 (c.r i.a)) 6 1 rfl (by kernel_rfl) true rfl rfl (by simp) tk3 (fun _ => rfl) rfl (cpuV_get0 c ha) ?_
       refine aC_arms 7 [] (by kernel_rfl) (arms_cons ?_ arms_nil)
       refine aC_arm 7 rfl rfl (Eff.framed (q := false) [0] rfl rfl (zcons 1 rfl rfl (zcons 2 rfl rfl znil)) ?_)
       refine id (e_call [] [0] (by kernel_rfl) rfl rfl rfl rfl (push29_fn p M c (c.r i.a) (hc.r _)) ?_)
       rintro v ps' hp' ⟨rfl, rfl, rfl⟩
       refine fr_mk ?_
       refine aC_st (by (try simp only [nO, nK, nL]); rfl) (by (try simp only [nM, nN]); rfl) (by (try simp only [keepH, nQ, nR, putB, place, Nat.reduceBEq, nA, if_true, if_false, reduceIte, nB, nC, nD, nE, nF, nG, nH, nI, Nat.reduceAdd, nJ, beq_self_eq_true, nK, nL, nM, nN]); rfl) ?_
       refine aC_f 8 rfl (by kernel_rfl) true rfl rfl (fun _ => q_move rfl) ?_
       refine aC_f 9 rfl (by kernel_rfl) true rfl rfl (fun _ => q_extract rfl rfl) ?_
       refine aC_f 10 rfl (by kernel_rfl) true rfl rfl (fun _ => q_extract rfl rfl) ?_
       refine aC_arms 11 [] (by kernel_rfl) (arms_cons ?_ arms_nil)
       refine aC_arm 11 rfl rfl (Eff.wild (q := false) ?_)
       refine id (x_store 1 tk33 rfl rfl rfl rfl ?_)
       refine aC_st (by (try simp only [nO, nK, nL]); rfl) (by (try simp only [nM, nN]); rfl) (by (try simp only [keepH, nQ, nR, putB, place, Nat.reduceBEq, nA, if_true, if_false, reduceIte, nB, nC, nD, nE, nF, nG, nH, nI, Nat.reduceAdd, nJ, beq_self_eq_true, nK, nL, nM, nN]); rfl) ?_
       refine aC_f 12 rfl (by kernel_rfl) true rfl rfl (fun _ => q_assign rfl) ?_
       refine aC_nil (by kernel_rfl) ?_
       refine blk_n (thn_n (awp_seq (awp_region ?_)))
       refine aL_s true rfl rfl (fun _ => q_fieldAddr (off := 16) (by kernel_rfl) rfl) ?_
       refine aL_s true rfl rfl (fun _ => q_load 1 tk3 rfl rfl rfl) (aL_s true rfl rfl (fun _ => q_add rfl rfl) ?_)
       refine aL_s true rfl rfl (fun _ => q_fieldAddr (off := 16) (by kernel_rfl) rfl) ?_
       refine aL_eff rfl (x_store 1 tk3 rfl rfl rfl rfl ?_)
       refine aL_hp (by simp only [nK, nL]; rfl) ?_
       refine aL_nil (thn_n (awp_seq (awp_region (aL_s true rfl rfl (fun _ => q_load 1 tk33 rfl rfl rfl) (aL_s true rfl rfl (fun _ => q_move rfl) ?_)))))
       refine aL_eff rfl (x_store 3 tk33 rfl rfl rfl rfl ?_)
       refine aL_hp (by simp only [nK, nL]; rfl) ?_
       refine aL_s true rfl rfl (fun _ => q_assign rfl) (aL_nil (thn_n (awp_ret ?_)))
       refine finR2 [] [0] rfl Tryz.results30 (rv_cell 3 tk33 rfl rfl rfl) (rv_tmp rfl) ?_ (.inr rfl)
       simp only [decide_eq_true_eq, decide_eq_false_iff_not] at *
       first
       | (have e : i.op = 15 := by omega
          rw [e]; exact ⟨rfl, rfl, rfl⟩)
       | (have e : i.op = 16 := by omega
          rw [e]; exact ⟨rfl, rfl, rfl⟩)
       | (have e : i.op = 17 := by omega
          rw [e]; exact ⟨rfl, rfl, rfl⟩)
       | (have e : i.op = 18 := by omega
          rw [e]; exact ⟨rfl, rfl, rfl⟩)
       | (have e : i.op = 27 := by omega
          rw [e]; exact ⟨rfl, rfl, rfl⟩)
       | (have e : i.op = 28 := by omega
          rw [e]; exact ⟨rfl, rfl, rfl⟩)
       | (exfalso; omega)
      ·skip
       refine awp_seq (awp_region (aL_s true rfl rfl (fun _ => q_eql rfl rfl) (aL_s true rfl rfl (fun _ => q_assign rfl) (aL_nil (thn_n ?_)))))
       refine awp_cond _ rfl (fun h6 => ?_) (fun h6 => ?_)
       ·skip
        refine awp_seq (awp_region (aL_s true rfl rfl (fun _ => q_move rfl) ?_))
        refine aL_s true rfl rfl (fun _ => q_fieldAddr (off := 0) (by kernel_rfl) rfl) ?_
        refine aL_s true rfl rfl (fun _ => q_idxArr (15) Tryz.underlying31 tk3 rfl rfl (rfl) (by decide)) ?_
        refine aL_s true rfl rfl (fun _ => q_load 1 tk3 rfl rfl rfl) ?_
        refine aL_s true rfl rfl (fun _ => q_call (by kernel_rfl) rfl (fun w S fp hst => q_lendR (fun dA dB cA cB hI hl => load28_fn p M dA dB cA cB hI hl (c.r 15) 8 (hc.r _) i8) hst 0 rfl)) ?_
        refine aL_s true rfl rfl (fun _ => q_move rfl) (aL_s true rfl rfl (fun _ => q_extract rfl rfl) (aL_s true rfl rfl (fun _ => q_extract rfl rfl) (aL_s true rfl rfl (fun _ => q_assign rfl) (aL_s true rfl rfl (fun _ => q_assign rfl) (aL_nil (thn_n (awp_seq ?_)))))))
        refine awp_region ?_
        refine aL_s true rfl rfl (fun _ => q_fieldAddr (off := 0) (by kernel_rfl) rfl) ?_
        refine aL_s true rfl rfl (fun _ => q_idxArr (15) Tryz.underlying31 tk3 rfl rfl (rfl) (by decide)) ?_
        refine aL_s true rfl rfl (fun _ => q_load 1 tk3 rfl rfl rfl) (aL_s true rfl rfl (fun _ => q_add rfl rfl) ?_)
        refine aL_s true rfl rfl (fun _ => q_fieldAddr (off := 0) (by kernel_rfl) rfl) ?_
        refine aL_s true rfl rfl (fun _ => q_idxArr (15) Tryz.underlying31 tk3 rfl rfl (rfl) (by decide)) ?_
        refine aL_eff rfl (x_store 1 tk3 rfl rfl rfl rfl ?_)
        refine aL_hp (by simp only [nK, nL]; rfl) ?_
        refine aL_nil (thn_n (awp_region ?_))
        refine aL_s true rfl rfl (fun _ => q_fieldAddr (off := 1) (by kernel_rfl) rfl) ?_
        refine aL_s true rfl rfl (fun _ => q_load 2 tk3 rfl rfl rfl) (aL_s true rfl rfl (fun _ => q_move rfl) ?_)
        refine aL_s true rfl rfl (fun _ => q_fieldAddr (off := 0) (by kernel_rfl) rfl) ?_
        refine aL_s true rfl rfl (fun _ => q_idxArr (i.a) Tryz.underlying31 tk3 rfl rfl (rfl) (ha)) ?_
        refine aL_eff rfl (e_storeW 1 ([.int .i64 (loadM M (c.r 15) 8).1]) (cpuV ((c.set 15 (w64 (c.r 15 + 8))).set i.a (loadM M (c.r 15) 8).1)) tk3 rfl rfl rfl rfl rfl (fun v hv => by rw [List.mem_singleton.1 hv]; rfl) (by show _ ≤ 17; omega) (cpu_wr (c.set 15 (w64 (c.r 15 + 8))) _ ha) ?_)
        refine aL_hp (by simp only [nK, nL]; rfl) ?_
        refine aL_nil (blk_n (thn_n (awp_seq (awp_region ?_))))
        refine aL_s true rfl rfl (fun _ => q_fieldAddr (off := 16) (by kernel_rfl) rfl) ?_
        refine aL_s true rfl rfl (fun _ => q_load 1 tk3 rfl rfl rfl) (aL_s true rfl rfl (fun _ => q_add rfl rfl) ?_)
        refine aL_s true rfl rfl (fun _ => q_fieldAddr (off := 16) (by kernel_rfl) rfl) ?_
        refine aL_eff rfl (x_store 1 tk3 rfl rfl rfl rfl ?_)
        refine aL_hp (by simp only [nK, nL]; rfl) ?_
        refine aL_nil (thn_n (awp_seq (awp_region (aL_s true rfl rfl (fun _ => q_load 1 tk33 rfl rfl rfl) (aL_s true rfl rfl (fun _ => q_move rfl) ?_)))))
        refine aL_eff rfl (x_store 3 tk33 rfl rfl rfl rfl ?_)
        refine aL_hp (by simp only [nK, nL]; rfl) ?_
        refine aL_s true rfl rfl (fun _ => q_assign rfl) (aL_nil (thn_n (awp_ret ?_)))
        refine finR2 [] [0] rfl Tryz.results30 (rv_cell 3 tk33 rfl rfl rfl) (rv_tmp rfl) ?_ (.inr rfl)
        simp only [decide_eq_true_eq, decide_eq_false_iff_not] at *
        first
        | (have e : i.op = 15 := by omega
           rw [e]; exact ⟨rfl, rfl, rfl⟩)
        | (have e : i.op = 16 := by omega
           rw [e]; exact ⟨rfl, rfl, rfl⟩)
        | (have e : i.op = 17 := by omega
           rw [e]; exact ⟨rfl, rfl, rfl⟩)
        | (have e : i.op = 18 := by omega
           rw [e]; exact ⟨rfl, rfl, rfl⟩)
        | (have e : i.op = 27 := by omega
           rw [e]; exact ⟨rfl, rfl, rfl⟩)
        | (have e : i.op = 28 := by omega
           rw [e]; exact ⟨rfl, rfl, rfl⟩)
        | (exfalso; omega)
       ·skip
        refine awp_skip (blk_n (thn_n (awp_seq (awp_region ?_))))
        refine aL_s true rfl rfl (fun _ => q_fieldAddr (off := 16) (by kernel_rfl) rfl) ?_
        refine aL_s true rfl rfl (fun _ => q_load 1 tk3 rfl rfl rfl) (aL_s true rfl rfl (fun _ => q_add rfl rfl) ?_)
        refine aL_s true rfl rfl (fun _ => q_fieldAddr (off := 16) (by kernel_rfl) rfl) ?_
        refine aL_eff rfl (x_store 1 tk3 rfl rfl rfl rfl ?_)
        refine aL_hp (by simp only [nK, nL]; rfl) ?_
        refine aL_nil (thn_n (awp_seq (awp_region (aL_s true rfl rfl (fun _ => q_load 1 tk33 rfl rfl rfl) (aL_s true rfl rfl (fun _ => q_move rfl) ?_)))))
        refine aL_eff rfl (x_store 3 tk33 rfl rfl rfl rfl ?_)
        refine aL_hp (by simp only [nK, nL]; rfl) ?_
        refine aL_s true rfl rfl (fun _ => q_assign rfl) (aL_nil (thn_n (awp_ret ?_)))
        refine finR2 [] [0] rfl Tryz.results30 (rv_cell 3 tk33 rfl rfl rfl) (rv_tmp rfl) ?_ (.inr rfl)
        simp only [decide_eq_true_eq, decide_eq_false_iff_not] at *
        first
        | (have e : i.op = 15 := by omega
           rw [e]; exact ⟨rfl, rfl, rfl⟩)
        | (have e : i.op = 16 := by omega
           rw [e]; exact ⟨rfl, rfl, rfl⟩)
        | (have e : i.op = 17 := by omega
           rw [e]; exact ⟨rfl, rfl, rfl⟩)
        | (have e : i.op = 18 := by omega
           rw [e]; exact ⟨rfl, rfl, rfl⟩)
        | (have e : i.op = 27 := by omega
           rw [e]; exact ⟨rfl, rfl, rfl⟩)
        | (have e : i.op = 28 := by omega
           rw [e]; exact ⟨rfl, rfl, rfl⟩)
        | (exfalso; omega)
theorem flow29_fn (p : Nat) (M : Mem) (c : Cpu) (i : Ins) (hc : CpuOk c) (hr : rightB i = true) (hm : 19 ≤ i.op) (hm2 : i.op ≤ 26) :
    Con Tryz.prog 32 [.pointer (some ⟨p, 0, none⟩), .agg (cpuV c).toArray, .agg (insV i).toArray] [] [RfR p M]
    fun r ps' hp' => r = .tuple #[.agg (cpuV (flowO M c i i.op).1).toArray, .int .i64 (flowO M c i i.op).2.1] ∧ ps' = [] ∧ hp' = [RfR p (flowO M c i i.op).2.2] := by
  obtain ⟨ha, hb, _⟩ := right_abc hr
  have i8 : I64 8 := by unfold I64; omega
  refine Con.enter Tryz.func32 rfl (by simp [Tryz.ntmps32]) ?_
  show awp _ _ _ _ ⟨[(0, true, _), (1, true, _), (2, true, _)], _, _⟩
  refine awp_seq (awp_region ?_)
  refine aL_eff (q := true) rfl (x_box rfl rfl rfl (fun b0_0 => ?_))
  refine aL_hp (by (try simp only [nM, nN]); rfl) ?_
  refine aL_eff (q := true) rfl (x_box rfl rfl rfl (fun b0_1 => ?_))
  refine aL_hp (by (try simp only [nM, nN]); rfl) ?_
  refine aL_eff (q := true) rfl (x_alloc (zs := [.int .i64 0, .int .i64 0, .int .i64 0, .int .i64 0, .int .i64 0, .int .i64 0, .int .i64 0, .int .i64 0, .int .i64 0, .int .i64 0, .int .i64 0, .int .i64 0, .int .i64 0, .int .i64 0, .int .i64 0, .int .i64 0, .int .i64 0]) (by kernel_rfl) rfl (fun b0_2 => ?_))
  refine aL_hp (by (try simp only [nM, nN]); rfl) ?_
  refine aL_s true rfl rfl (fun _ => q_assign rfl) (aL_nil (thn_n (awp_seq (awp_region (aL_s true rfl rfl (fun _ => q_assign rfl) (aL_nil (thn_n ?_)))))))
  refine awp_seq (awp_region (aL_s true rfl rfl (fun _ => q_assign rfl) (aL_nil (thn_n (awp_seq (awp_region ?_))))))
  refine aL_s true rfl rfl (fun _ => q_fieldAddr (off := 16) (by kernel_rfl) rfl) ?_
  refine aL_s true rfl rfl (fun _ => q_load 1 tk3 rfl rfl rfl) (aL_s true rfl rfl (fun _ => q_add rfl rfl) (aL_s true rfl rfl (fun _ => q_assign rfl) (aL_nil (thn_n (awp_seq (awp_region ?_))))))
  refine aL_s true rfl rfl (fun _ => q_fieldAddr (off := 16) (by kernel_rfl) rfl) ?_
  refine aL_s true rfl rfl (fun _ => q_load 1 tk3 rfl rfl rfl) ?_
  refine aL_s true rfl rfl (fun _ => q_fieldAddr (off := 4) (by kernel_rfl) rfl) ?_
  refine aL_s true rfl rfl (fun _ => q_load 2 tk3 rfl rfl rfl) (aL_s true rfl rfl (fun _ => q_add rfl rfl) (aL_s true rfl rfl (fun _ => q_assign rfl) (aL_nil (thn_n (awp_seq (awp_seq (awp_region ?_)))))))
  refine aL_s true rfl rfl (fun _ => q_fieldAddr (off := 0) (by kernel_rfl) rfl) ?_
  refine aL_s true rfl rfl (fun _ => q_load 2 tk3 rfl rfl rfl) (aL_nil (thn_n (awp_block (awp_seq (awp_region (aL_s true rfl rfl (fun _ => q_eql rfl rfl) (aL_s true rfl rfl (fun _ => q_assign rfl) ?_)))))))
  refine aL_nil (thn_n ?_)
  refine awp_cond _ rfl (fun h1 => ?_) (fun h1 => ?_)
  ·skip
   refine awp_region (aL_s true rfl rfl (fun _ => q_move rfl) ?_)
   refine aL_s true rfl rfl (fun _ => q_fieldAddr (off := 16) (by kernel_rfl) rfl) ?_
   refine aL_eff rfl (x_store 1 tk3 rfl rfl rfl rfl ?_)
   refine aL_hp (by simp only [nK, nL]; rfl) ?_
   refine aL_nil (blk_n (thn_n (awp_seq (awp_region (aL_s true rfl rfl (fun _ => q_load 1 tk33 rfl rfl rfl) (aL_s true rfl rfl (fun _ => q_move rfl) ?_))))))
   refine aL_eff rfl (x_store 3 tk33 rfl rfl rfl rfl ?_)
   refine aL_hp (by simp only [nK, nL]; rfl) ?_
   refine aL_s true rfl rfl (fun _ => q_assign rfl) (aL_nil (thn_n (awp_ret ?_)))
   refine finR2 [] [0] rfl Tryz.results32 (rv_cell 3 tk33 rfl rfl rfl) (rv_tmp rfl) ?_ (.inr rfl)
   simp only [decide_eq_true_eq, decide_eq_false_iff_not, Bool.and_eq_true, Bool.and_eq_false_iff] at *
   first
   | (have e : i.op = 19 := by omega
      rw [e]; exact ⟨rfl, rfl, rfl⟩)
   | (have e : i.op = 22 := by omega
      rw [e]; exact ⟨rfl, rfl, rfl⟩)
   | (have e : i.op = 23 := by omega
      rw [e]; exact ⟨rfl, rfl, rfl⟩)
   | (have e : i.op = 26 := by omega
      rw [e]; exact ⟨rfl, rfl, rfl⟩)
   | (have e : i.op = 20 := by omega
      have hz : c.r i.a = 0 := by
        have h := ‹(decide (c.r i.a = 0) == decide ((i.op : Int) = 20)) = true›
        rw [e] at h; simpa using h
      rw [e]; refine ⟨?_, rfl, rfl⟩
      show _ = Value.tuple #[.agg (cpuV ⟨c.r, if c.r i.a = 0 then w64 (c.pc + i.imm) else w64 (c.pc + 8)⟩).toArray, .int .i64 0]
      rw [if_pos hz]; rfl)
   | (have e : i.op = 20 := by omega
      have hz : ¬ c.r i.a = 0 := by
        have h := ‹(decide (c.r i.a = 0) == decide ((i.op : Int) = 20)) = false›
        rw [e] at h; simpa using h
      rw [e]; refine ⟨?_, rfl, rfl⟩
      show _ = Value.tuple #[.agg (cpuV ⟨c.r, if c.r i.a = 0 then w64 (c.pc + i.imm) else w64 (c.pc + 8)⟩).toArray, .int .i64 0]
      rw [if_neg hz]; rfl)
   | (have e : i.op = 21 := by omega
      have hz : ¬ c.r i.a = 0 := by
        have h := ‹(decide (c.r i.a = 0) == decide ((i.op : Int) = 20)) = true›
        rw [e] at h; simpa using h
      rw [e]; refine ⟨?_, rfl, rfl⟩
      show _ = Value.tuple #[.agg (cpuV ⟨c.r, if c.r i.a = 0 then w64 (c.pc + 8) else w64 (c.pc + i.imm)⟩).toArray, .int .i64 0]
      rw [if_neg hz]; rfl)
   | (have e : i.op = 21 := by omega
      have hz : c.r i.a = 0 := by
        have h := ‹(decide (c.r i.a = 0) == decide ((i.op : Int) = 20)) = false›
        rw [e] at h; simpa using h
      rw [e]; refine ⟨?_, rfl, rfl⟩
      show _ = Value.tuple #[.agg (cpuV ⟨c.r, if c.r i.a = 0 then w64 (c.pc + 8) else w64 (c.pc + i.imm)⟩).toArray, .int .i64 0]
      rw [if_pos hz]; rfl)
   | (have e : i.op = 24 := by omega
      have hf : flowO M c i 24 = (⟨(pushO M c (w64 (c.pc + 8))).1.r, (loadM M (w64 (c.pc + i.imm)) 8).1⟩, (pushO M c (w64 (c.pc + 8))).2) := if_pos (And.left ‹(loadM M (w64 (c.pc + i.imm)) 8).2 = 0 ∧ (i.op : Int) = 24›)
      rw [e, hf]; exact ⟨rfl, rfl, rfl⟩)
   | (have e : i.op = 25 := by omega
      rw [e]; exact ⟨rfl, rfl, rfl⟩)
   | (have e : i.op = 24 ∨ i.op = 25 := by omega
      rcases e with e | e
      · have hne : ¬ (loadM M (w64 (c.pc + i.imm)) 8).2 = 0 := fun h => by
          rcases ‹¬(loadM M (w64 (c.pc + i.imm)) 8).2 = 0 ∨ ¬(i.op : Int) = 24› with g | g
          · exact g h
          · exact g (by omega)
        have hf : flowO M c i 24 = (⟨c.r, (loadM M (w64 (c.pc + i.imm)) 8).1⟩, (loadM M (w64 (c.pc + i.imm)) 8).2, M) := if_neg hne
        rw [e, hf]; exact ⟨rfl, rfl, rfl⟩
      · rw [e]; exact ⟨rfl, rfl, rfl⟩)
   | (trace_state; sorry)
  ·skip
   refine awp_seq (awp_seq (awp_region (aL_s true rfl rfl (fun _ => q_eql rfl rfl) (aL_s true rfl rfl (fun _ => q_assign rfl) (aL_nil (thn_n ?_))))))
   refine awp_cond _ rfl (fun h2 => ?_) (fun h2 => ?_)
   ·skip
    refine awp_skip (thn_n ?_)
    refine awp_cond _ rfl (fun _ => ?_) (fun h => absurd (h2.symm.trans h) (by decide))
    refine awp_seq (awp_region (aL_s true rfl rfl (fun _ => q_move rfl) ?_))
    refine aL_s true rfl rfl (fun _ => q_fieldAddr (off := 16) (by kernel_rfl) rfl) ?_
    refine aL_eff rfl (x_store 1 tk3 rfl rfl rfl rfl ?_)
    refine aL_hp (by simp only [nK, nL]; rfl) ?_
    refine aL_nil (thn_n (awp_seq ?_))
    refine awp_drawn [] (by kernel_rfl) ?_
    show aB _ _ _ _ _ 10 #[false, false, false, false, false, false, false, false, false, false] _
    refine aB_s 0 rfl (by kernel_rfl) true rfl rfl (fun _ => q_fieldAddr (off := 1) (by kernel_rfl) rfl) ?_
    refine aB_hp (by simp only [nO, nK, nL]; rfl) rfl ?_
    refine aB_s 1 rfl (by kernel_rfl) true rfl rfl (fun _ => q_load 2 tk3 rfl rfl rfl) ?_
    refine aB_hp (by simp only [nO, nK, nL]; rfl) rfl ?_
    refine aB_s 2 rfl (by kernel_rfl) true rfl rfl (fun _ => q_fieldAddr (off := 0) (by kernel_rfl) rfl) ?_
    refine aB_hp (by simp only [nO, nK, nL]; rfl) rfl ?_
    refine aB_s 3 rfl (by kernel_rfl) true rfl rfl (fun _ => q_idxArr (i.a) Tryz.underlying31 tk3 rfl rfl (rfl) (ha)) ?_
    refine aB_hp (by simp only [nO, nK, nL]; rfl) rfl ?_
    refine aB_s 4 rfl (by kernel_rfl) true rfl rfl (fun _ => q_load (v := .int .i64 (c.r i.a)) 1 tk3 rfl rfl (cpuV_get0 ⟨c.r, w64 (c.pc + 8)⟩ ha)) ?_
    refine aB_hp (by simp only [nO, nK, nL]; rfl) rfl ?_
    refine aB_s 5 rfl (by kernel_rfl) true rfl rfl (fun _ => q_eql rfl rfl) ?_
    refine aB_hp (by simp only [nO, nK, nL]; rfl) rfl ?_
    refine aB_s 6 rfl (by kernel_rfl) true rfl rfl (fun _ => q_fieldAddr (off := 0) (by kernel_rfl) rfl) ?_
    refine aB_hp (by simp only [nO, nK, nL]; rfl) rfl ?_
    refine aB_s 7 rfl (by kernel_rfl) true rfl rfl (fun _ => q_load 2 tk3 rfl rfl rfl) ?_
    refine aB_hp (by simp only [nO, nK, nL]; rfl) rfl ?_
    refine aB_s 8 rfl (by kernel_rfl) true rfl rfl (fun _ => q_eql rfl rfl) ?_
    refine aB_hp (by simp only [nO, nK, nL]; rfl) rfl ?_
    refine aB_s 9 rfl (by kernel_rfl) true rfl rfl (fun _ => qb_eql (by kernel_rfl) rfl rfl) ?_
    refine aB_hp (by simp only [nO, nK, nL]; rfl) rfl ?_
    refine aB_nil (by kernel_rfl) ?_
    refine thn_n ?_
    refine awp_cond _ rfl (fun h3 => ?_) (fun h3 => ?_)
    ·skip
     refine awp_region (aL_s true rfl rfl (fun _ => q_move rfl) ?_)
     refine aL_s true rfl rfl (fun _ => q_fieldAddr (off := 16) (by kernel_rfl) rfl) ?_
     refine aL_eff rfl (x_store 1 tk3 rfl rfl rfl rfl ?_)
     refine aL_hp (by simp only [nK, nL]; rfl) ?_
     refine aL_nil (blk_n (thn_n (awp_seq (awp_region (aL_s true rfl rfl (fun _ => q_load 1 tk33 rfl rfl rfl) (aL_s true rfl rfl (fun _ => q_move rfl) ?_))))))
     refine aL_eff rfl (x_store 3 tk33 rfl rfl rfl rfl ?_)
     refine aL_hp (by simp only [nK, nL]; rfl) ?_
     refine aL_s true rfl rfl (fun _ => q_assign rfl) (aL_nil (thn_n (awp_ret ?_)))
     refine finR2 [] [0] rfl Tryz.results32 (rv_cell 3 tk33 rfl rfl rfl) (rv_tmp rfl) ?_ (.inr rfl)
     simp only [decide_eq_true_eq, decide_eq_false_iff_not, Bool.and_eq_true, Bool.and_eq_false_iff] at *
     first
     | (have e : i.op = 19 := by omega
        rw [e]; exact ⟨rfl, rfl, rfl⟩)
     | (have e : i.op = 22 := by omega
        rw [e]; exact ⟨rfl, rfl, rfl⟩)
     | (have e : i.op = 23 := by omega
        rw [e]; exact ⟨rfl, rfl, rfl⟩)
     | (have e : i.op = 26 := by omega
        rw [e]; exact ⟨rfl, rfl, rfl⟩)
     | (have e : i.op = 20 := by omega
        have hz : c.r i.a = 0 := by
          have h := ‹(decide (c.r i.a = 0) == decide ((i.op : Int) = 20)) = true›
          rw [e] at h; simpa using h
        rw [e]; refine ⟨?_, rfl, rfl⟩
        show _ = Value.tuple #[.agg (cpuV ⟨c.r, if c.r i.a = 0 then w64 (c.pc + i.imm) else w64 (c.pc + 8)⟩).toArray, .int .i64 0]
        rw [if_pos hz]; rfl)
     | (have e : i.op = 20 := by omega
        have hz : ¬ c.r i.a = 0 := by
          have h := ‹(decide (c.r i.a = 0) == decide ((i.op : Int) = 20)) = false›
          rw [e] at h; simpa using h
        rw [e]; refine ⟨?_, rfl, rfl⟩
        show _ = Value.tuple #[.agg (cpuV ⟨c.r, if c.r i.a = 0 then w64 (c.pc + i.imm) else w64 (c.pc + 8)⟩).toArray, .int .i64 0]
        rw [if_neg hz]; rfl)
     | (have e : i.op = 21 := by omega
        have hz : ¬ c.r i.a = 0 := by
          have h := ‹(decide (c.r i.a = 0) == decide ((i.op : Int) = 20)) = true›
          rw [e] at h; simpa using h
        rw [e]; refine ⟨?_, rfl, rfl⟩
        show _ = Value.tuple #[.agg (cpuV ⟨c.r, if c.r i.a = 0 then w64 (c.pc + 8) else w64 (c.pc + i.imm)⟩).toArray, .int .i64 0]
        rw [if_neg hz]; rfl)
     | (have e : i.op = 21 := by omega
        have hz : c.r i.a = 0 := by
          have h := ‹(decide (c.r i.a = 0) == decide ((i.op : Int) = 20)) = false›
          rw [e] at h; simpa using h
        rw [e]; refine ⟨?_, rfl, rfl⟩
        show _ = Value.tuple #[.agg (cpuV ⟨c.r, if c.r i.a = 0 then w64 (c.pc + 8) else w64 (c.pc + i.imm)⟩).toArray, .int .i64 0]
        rw [if_pos hz]; rfl)
     | (have e : i.op = 24 := by omega
        have hf : flowO M c i 24 = (⟨(pushO M c (w64 (c.pc + 8))).1.r, (loadM M (w64 (c.pc + i.imm)) 8).1⟩, (pushO M c (w64 (c.pc + 8))).2) := if_pos (And.left ‹(loadM M (w64 (c.pc + i.imm)) 8).2 = 0 ∧ (i.op : Int) = 24›)
        rw [e, hf]; exact ⟨rfl, rfl, rfl⟩)
     | (have e : i.op = 25 := by omega
        rw [e]; exact ⟨rfl, rfl, rfl⟩)
     | (have e : i.op = 24 ∨ i.op = 25 := by omega
        rcases e with e | e
        · have hne : ¬ (loadM M (w64 (c.pc + i.imm)) 8).2 = 0 := fun h => by
            rcases ‹¬(loadM M (w64 (c.pc + i.imm)) 8).2 = 0 ∨ ¬(i.op : Int) = 24› with g | g
            · exact g h
            · exact g (by omega)
          have hf : flowO M c i 24 = (⟨c.r, (loadM M (w64 (c.pc + i.imm)) 8).1⟩, (loadM M (w64 (c.pc + i.imm)) 8).2, M) := if_neg hne
          rw [e, hf]; exact ⟨rfl, rfl, rfl⟩
        · rw [e]; exact ⟨rfl, rfl, rfl⟩)
     | (trace_state; sorry)
    ·skip
     refine awp_skip (blk_n (thn_n (awp_seq (awp_region (aL_s true rfl rfl (fun _ => q_load 1 tk33 rfl rfl rfl) (aL_s true rfl rfl (fun _ => q_move rfl) ?_))))))
     refine aL_eff rfl (x_store 3 tk33 rfl rfl rfl rfl ?_)
     refine aL_hp (by simp only [nK, nL]; rfl) ?_
     refine aL_s true rfl rfl (fun _ => q_assign rfl) (aL_nil (thn_n (awp_ret ?_)))
     refine finR2 [] [0] rfl Tryz.results32 (rv_cell 3 tk33 rfl rfl rfl) (rv_tmp rfl) ?_ (.inr rfl)
     simp only [decide_eq_true_eq, decide_eq_false_iff_not, Bool.and_eq_true, Bool.and_eq_false_iff] at *
     first
     | (have e : i.op = 19 := by omega
        rw [e]; exact ⟨rfl, rfl, rfl⟩)
     | (have e : i.op = 22 := by omega
        rw [e]; exact ⟨rfl, rfl, rfl⟩)
     | (have e : i.op = 23 := by omega
        rw [e]; exact ⟨rfl, rfl, rfl⟩)
     | (have e : i.op = 26 := by omega
        rw [e]; exact ⟨rfl, rfl, rfl⟩)
     | (have e : i.op = 20 := by omega
        have hz : c.r i.a = 0 := by
          have h := ‹(decide (c.r i.a = 0) == decide ((i.op : Int) = 20)) = true›
          rw [e] at h; simpa using h
        rw [e]; refine ⟨?_, rfl, rfl⟩
        show _ = Value.tuple #[.agg (cpuV ⟨c.r, if c.r i.a = 0 then w64 (c.pc + i.imm) else w64 (c.pc + 8)⟩).toArray, .int .i64 0]
        rw [if_pos hz]; rfl)
     | (have e : i.op = 20 := by omega
        have hz : ¬ c.r i.a = 0 := by
          have h := ‹(decide (c.r i.a = 0) == decide ((i.op : Int) = 20)) = false›
          rw [e] at h; simpa using h
        rw [e]; refine ⟨?_, rfl, rfl⟩
        show _ = Value.tuple #[.agg (cpuV ⟨c.r, if c.r i.a = 0 then w64 (c.pc + i.imm) else w64 (c.pc + 8)⟩).toArray, .int .i64 0]
        rw [if_neg hz]; rfl)
     | (have e : i.op = 21 := by omega
        have hz : ¬ c.r i.a = 0 := by
          have h := ‹(decide (c.r i.a = 0) == decide ((i.op : Int) = 20)) = true›
          rw [e] at h; simpa using h
        rw [e]; refine ⟨?_, rfl, rfl⟩
        show _ = Value.tuple #[.agg (cpuV ⟨c.r, if c.r i.a = 0 then w64 (c.pc + 8) else w64 (c.pc + i.imm)⟩).toArray, .int .i64 0]
        rw [if_neg hz]; rfl)
     | (have e : i.op = 21 := by omega
        have hz : c.r i.a = 0 := by
          have h := ‹(decide (c.r i.a = 0) == decide ((i.op : Int) = 20)) = false›
          rw [e] at h; simpa using h
        rw [e]; refine ⟨?_, rfl, rfl⟩
        show _ = Value.tuple #[.agg (cpuV ⟨c.r, if c.r i.a = 0 then w64 (c.pc + 8) else w64 (c.pc + i.imm)⟩).toArray, .int .i64 0]
        rw [if_pos hz]; rfl)
     | (have e : i.op = 24 := by omega
        have hf : flowO M c i 24 = (⟨(pushO M c (w64 (c.pc + 8))).1.r, (loadM M (w64 (c.pc + i.imm)) 8).1⟩, (pushO M c (w64 (c.pc + 8))).2) := if_pos (And.left ‹(loadM M (w64 (c.pc + i.imm)) 8).2 = 0 ∧ (i.op : Int) = 24›)
        rw [e, hf]; exact ⟨rfl, rfl, rfl⟩)
     | (have e : i.op = 25 := by omega
        rw [e]; exact ⟨rfl, rfl, rfl⟩)
     | (have e : i.op = 24 ∨ i.op = 25 := by omega
        rcases e with e | e
        · have hne : ¬ (loadM M (w64 (c.pc + i.imm)) 8).2 = 0 := fun h => by
            rcases ‹¬(loadM M (w64 (c.pc + i.imm)) 8).2 = 0 ∨ ¬(i.op : Int) = 24› with g | g
            · exact g h
            · exact g (by omega)
          have hf : flowO M c i 24 = (⟨c.r, (loadM M (w64 (c.pc + i.imm)) 8).1⟩, (loadM M (w64 (c.pc + i.imm)) 8).2, M) := if_neg hne
          rw [e, hf]; exact ⟨rfl, rfl, rfl⟩
        · rw [e]; exact ⟨rfl, rfl, rfl⟩)
     | (trace_state; sorry)
   ·skip
    refine awp_region (aL_s true rfl rfl (fun _ => q_eql rfl rfl) (aL_s true rfl rfl (fun _ => q_assign rfl) (aL_nil (thn_n ?_))))
    refine awp_cond _ rfl (fun h4 => ?_) (fun h4 => ?_)
    ·skip
     refine awp_seq (awp_region (aL_s true rfl rfl (fun _ => q_move rfl) ?_))
     refine aL_s true rfl rfl (fun _ => q_fieldAddr (off := 16) (by kernel_rfl) rfl) ?_
     refine aL_eff rfl (x_store 1 tk3 rfl rfl rfl rfl ?_)
     refine aL_hp (by simp only [nK, nL]; rfl) ?_
     refine aL_nil (thn_n (awp_seq ?_))
     refine awp_drawn [] (by kernel_rfl) ?_
     show aB _ _ _ _ _ 10 #[false, false, false, false, false, false, false, false, false, false] _
     refine aB_s 0 rfl (by kernel_rfl) true rfl rfl (fun _ => q_fieldAddr (off := 1) (by kernel_rfl) rfl) ?_
     refine aB_hp (by simp only [nO, nK, nL]; rfl) rfl ?_
     refine aB_s 1 rfl (by kernel_rfl) true rfl rfl (fun _ => q_load 2 tk3 rfl rfl rfl) ?_
     refine aB_hp (by simp only [nO, nK, nL]; rfl) rfl ?_
     refine aB_s 2 rfl (by kernel_rfl) true rfl rfl (fun _ => q_fieldAddr (off := 0) (by kernel_rfl) rfl) ?_
     refine aB_hp (by simp only [nO, nK, nL]; rfl) rfl ?_
     refine aB_s 3 rfl (by kernel_rfl) true rfl rfl (fun _ => q_idxArr (i.a) Tryz.underlying31 tk3 rfl rfl (rfl) (ha)) ?_
     refine aB_hp (by simp only [nO, nK, nL]; rfl) rfl ?_
     refine aB_s 4 rfl (by kernel_rfl) true rfl rfl (fun _ => q_load (v := .int .i64 (c.r i.a)) 1 tk3 rfl rfl (cpuV_get0 ⟨c.r, w64 (c.pc + 8)⟩ ha)) ?_
     refine aB_hp (by simp only [nO, nK, nL]; rfl) rfl ?_
     refine aB_s 5 rfl (by kernel_rfl) true rfl rfl (fun _ => q_eql rfl rfl) ?_
     refine aB_hp (by simp only [nO, nK, nL]; rfl) rfl ?_
     refine aB_s 6 rfl (by kernel_rfl) true rfl rfl (fun _ => q_fieldAddr (off := 0) (by kernel_rfl) rfl) ?_
     refine aB_hp (by simp only [nO, nK, nL]; rfl) rfl ?_
     refine aB_s 7 rfl (by kernel_rfl) true rfl rfl (fun _ => q_load 2 tk3 rfl rfl rfl) ?_
     refine aB_hp (by simp only [nO, nK, nL]; rfl) rfl ?_
     refine aB_s 8 rfl (by kernel_rfl) true rfl rfl (fun _ => q_eql rfl rfl) ?_
     refine aB_hp (by simp only [nO, nK, nL]; rfl) rfl ?_
     refine aB_s 9 rfl (by kernel_rfl) true rfl rfl (fun _ => qb_eql (by kernel_rfl) rfl rfl) ?_
     refine aB_hp (by simp only [nO, nK, nL]; rfl) rfl ?_
     refine aB_nil (by kernel_rfl) ?_
     refine thn_n ?_
     refine awp_cond _ rfl (fun h5 => ?_) (fun h5 => ?_)
     ·skip
      refine awp_region (aL_s true rfl rfl (fun _ => q_move rfl) ?_)
      refine aL_s true rfl rfl (fun _ => q_fieldAddr (off := 16) (by kernel_rfl) rfl) ?_
      refine aL_eff rfl (x_store 1 tk3 rfl rfl rfl rfl ?_)
      refine aL_hp (by simp only [nK, nL]; rfl) ?_
      refine aL_nil (blk_n (thn_n (awp_seq (awp_region (aL_s true rfl rfl (fun _ => q_load 1 tk33 rfl rfl rfl) (aL_s true rfl rfl (fun _ => q_move rfl) ?_))))))
      refine aL_eff rfl (x_store 3 tk33 rfl rfl rfl rfl ?_)
      refine aL_hp (by simp only [nK, nL]; rfl) ?_
      refine aL_s true rfl rfl (fun _ => q_assign rfl) (aL_nil (thn_n (awp_ret ?_)))
      refine finR2 [] [0] rfl Tryz.results32 (rv_cell 3 tk33 rfl rfl rfl) (rv_tmp rfl) ?_ (.inr rfl)
      simp only [decide_eq_true_eq, decide_eq_false_iff_not, Bool.and_eq_true, Bool.and_eq_false_iff] at *
      first
      | (have e : i.op = 19 := by omega
         rw [e]; exact ⟨rfl, rfl, rfl⟩)
      | (have e : i.op = 22 := by omega
         rw [e]; exact ⟨rfl, rfl, rfl⟩)
      | (have e : i.op = 23 := by omega
         rw [e]; exact ⟨rfl, rfl, rfl⟩)
      | (have e : i.op = 26 := by omega
         rw [e]; exact ⟨rfl, rfl, rfl⟩)
      | (have e : i.op = 20 := by omega
         have hz : c.r i.a = 0 := by
           have h := ‹(decide (c.r i.a = 0) == decide ((i.op : Int) = 20)) = true›
           rw [e] at h; simpa using h
         rw [e]; refine ⟨?_, rfl, rfl⟩
         show _ = Value.tuple #[.agg (cpuV ⟨c.r, if c.r i.a = 0 then w64 (c.pc + i.imm) else w64 (c.pc + 8)⟩).toArray, .int .i64 0]
         rw [if_pos hz]; rfl)
      | (have e : i.op = 20 := by omega
         have hz : ¬ c.r i.a = 0 := by
           have h := ‹(decide (c.r i.a = 0) == decide ((i.op : Int) = 20)) = false›
           rw [e] at h; simpa using h
         rw [e]; refine ⟨?_, rfl, rfl⟩
         show _ = Value.tuple #[.agg (cpuV ⟨c.r, if c.r i.a = 0 then w64 (c.pc + i.imm) else w64 (c.pc + 8)⟩).toArray, .int .i64 0]
         rw [if_neg hz]; rfl)
      | (have e : i.op = 21 := by omega
         have hz : ¬ c.r i.a = 0 := by
           have h := ‹(decide (c.r i.a = 0) == decide ((i.op : Int) = 20)) = true›
           rw [e] at h; simpa using h
         rw [e]; refine ⟨?_, rfl, rfl⟩
         show _ = Value.tuple #[.agg (cpuV ⟨c.r, if c.r i.a = 0 then w64 (c.pc + 8) else w64 (c.pc + i.imm)⟩).toArray, .int .i64 0]
         rw [if_neg hz]; rfl)
      | (have e : i.op = 21 := by omega
         have hz : c.r i.a = 0 := by
           have h := ‹(decide (c.r i.a = 0) == decide ((i.op : Int) = 20)) = false›
           rw [e] at h; simpa using h
         rw [e]; refine ⟨?_, rfl, rfl⟩
         show _ = Value.tuple #[.agg (cpuV ⟨c.r, if c.r i.a = 0 then w64 (c.pc + 8) else w64 (c.pc + i.imm)⟩).toArray, .int .i64 0]
         rw [if_pos hz]; rfl)
      | (have e : i.op = 24 := by omega
         have hf : flowO M c i 24 = (⟨(pushO M c (w64 (c.pc + 8))).1.r, (loadM M (w64 (c.pc + i.imm)) 8).1⟩, (pushO M c (w64 (c.pc + 8))).2) := if_pos (And.left ‹(loadM M (w64 (c.pc + i.imm)) 8).2 = 0 ∧ (i.op : Int) = 24›)
         rw [e, hf]; exact ⟨rfl, rfl, rfl⟩)
      | (have e : i.op = 25 := by omega
         rw [e]; exact ⟨rfl, rfl, rfl⟩)
      | (have e : i.op = 24 ∨ i.op = 25 := by omega
         rcases e with e | e
         · have hne : ¬ (loadM M (w64 (c.pc + i.imm)) 8).2 = 0 := fun h => by
             rcases ‹¬(loadM M (w64 (c.pc + i.imm)) 8).2 = 0 ∨ ¬(i.op : Int) = 24› with g | g
             · exact g h
             · exact g (by omega)
           have hf : flowO M c i 24 = (⟨c.r, (loadM M (w64 (c.pc + i.imm)) 8).1⟩, (loadM M (w64 (c.pc + i.imm)) 8).2, M) := if_neg hne
           rw [e, hf]; exact ⟨rfl, rfl, rfl⟩
         · rw [e]; exact ⟨rfl, rfl, rfl⟩)
      | (trace_state; sorry)
     ·skip
      refine awp_skip (blk_n (thn_n (awp_seq (awp_region (aL_s true rfl rfl (fun _ => q_load 1 tk33 rfl rfl rfl) (aL_s true rfl rfl (fun _ => q_move rfl) ?_))))))
      refine aL_eff rfl (x_store 3 tk33 rfl rfl rfl rfl ?_)
      refine aL_hp (by simp only [nK, nL]; rfl) ?_
      refine aL_s true rfl rfl (fun _ => q_assign rfl) (aL_nil (thn_n (awp_ret ?_)))
      refine finR2 [] [0] rfl Tryz.results32 (rv_cell 3 tk33 rfl rfl rfl) (rv_tmp rfl) ?_ (.inr rfl)
      simp only [decide_eq_true_eq, decide_eq_false_iff_not, Bool.and_eq_true, Bool.and_eq_false_iff] at *
      first
      | (have e : i.op = 19 := by omega
         rw [e]; exact ⟨rfl, rfl, rfl⟩)
      | (have e : i.op = 22 := by omega
         rw [e]; exact ⟨rfl, rfl, rfl⟩)
      | (have e : i.op = 23 := by omega
         rw [e]; exact ⟨rfl, rfl, rfl⟩)
      | (have e : i.op = 26 := by omega
         rw [e]; exact ⟨rfl, rfl, rfl⟩)
      | (have e : i.op = 20 := by omega
         have hz : c.r i.a = 0 := by
           have h := ‹(decide (c.r i.a = 0) == decide ((i.op : Int) = 20)) = true›
           rw [e] at h; simpa using h
         rw [e]; refine ⟨?_, rfl, rfl⟩
         show _ = Value.tuple #[.agg (cpuV ⟨c.r, if c.r i.a = 0 then w64 (c.pc + i.imm) else w64 (c.pc + 8)⟩).toArray, .int .i64 0]
         rw [if_pos hz]; rfl)
      | (have e : i.op = 20 := by omega
         have hz : ¬ c.r i.a = 0 := by
           have h := ‹(decide (c.r i.a = 0) == decide ((i.op : Int) = 20)) = false›
           rw [e] at h; simpa using h
         rw [e]; refine ⟨?_, rfl, rfl⟩
         show _ = Value.tuple #[.agg (cpuV ⟨c.r, if c.r i.a = 0 then w64 (c.pc + i.imm) else w64 (c.pc + 8)⟩).toArray, .int .i64 0]
         rw [if_neg hz]; rfl)
      | (have e : i.op = 21 := by omega
         have hz : ¬ c.r i.a = 0 := by
           have h := ‹(decide (c.r i.a = 0) == decide ((i.op : Int) = 20)) = true›
           rw [e] at h; simpa using h
         rw [e]; refine ⟨?_, rfl, rfl⟩
         show _ = Value.tuple #[.agg (cpuV ⟨c.r, if c.r i.a = 0 then w64 (c.pc + 8) else w64 (c.pc + i.imm)⟩).toArray, .int .i64 0]
         rw [if_neg hz]; rfl)
      | (have e : i.op = 21 := by omega
         have hz : c.r i.a = 0 := by
           have h := ‹(decide (c.r i.a = 0) == decide ((i.op : Int) = 20)) = false›
           rw [e] at h; simpa using h
         rw [e]; refine ⟨?_, rfl, rfl⟩
         show _ = Value.tuple #[.agg (cpuV ⟨c.r, if c.r i.a = 0 then w64 (c.pc + 8) else w64 (c.pc + i.imm)⟩).toArray, .int .i64 0]
         rw [if_pos hz]; rfl)
      | (have e : i.op = 24 := by omega
         have hf : flowO M c i 24 = (⟨(pushO M c (w64 (c.pc + 8))).1.r, (loadM M (w64 (c.pc + i.imm)) 8).1⟩, (pushO M c (w64 (c.pc + 8))).2) := if_pos (And.left ‹(loadM M (w64 (c.pc + i.imm)) 8).2 = 0 ∧ (i.op : Int) = 24›)
         rw [e, hf]; exact ⟨rfl, rfl, rfl⟩)
      | (have e : i.op = 25 := by omega
         rw [e]; exact ⟨rfl, rfl, rfl⟩)
      | (have e : i.op = 24 ∨ i.op = 25 := by omega
         rcases e with e | e
         · have hne : ¬ (loadM M (w64 (c.pc + i.imm)) 8).2 = 0 := fun h => by
             rcases ‹¬(loadM M (w64 (c.pc + i.imm)) 8).2 = 0 ∨ ¬(i.op : Int) = 24› with g | g
             · exact g h
             · exact g (by omega)
           have hf : flowO M c i 24 = (⟨c.r, (loadM M (w64 (c.pc + i.imm)) 8).1⟩, (loadM M (w64 (c.pc + i.imm)) 8).2, M) := if_neg hne
           rw [e, hf]; exact ⟨rfl, rfl, rfl⟩
         · rw [e]; exact ⟨rfl, rfl, rfl⟩)
      | (trace_state; sorry)
    ·skip
     refine awp_seq (awp_region (aL_s true rfl rfl (fun _ => q_eql rfl rfl) (aL_s true rfl rfl (fun _ => q_assign rfl) (aL_nil (thn_n ?_)))))
     refine awp_cond _ rfl (fun h6 => ?_) (fun h6 => ?_)
     ·skip
      refine awp_seq (awp_region (aL_s true rfl rfl (fun _ => q_move rfl) (aL_s true rfl rfl (fun _ => q_load 1 tk33 rfl rfl rfl) (aL_s true rfl rfl (fun _ => q_move rfl) ?_))))
      refine aL_eff (q := false) rfl (e_call [] [0] (by kernel_rfl) rfl rfl rfl rfl (push29_fn p M c (w64 (c.pc + 8)) (wrI _)) ?_)
      rintro v ps' hp' ⟨rfl, rfl, rfl⟩
      refine aL_st (by (try simp only [nM, nN]); rfl) (by (try simp only [putB, place, Nat.reduceBEq, nA, if_true, if_false, reduceIte, nB, nC, nD, nE, nF, nG, nH, nI, Nat.reduceAdd, nJ, beq_self_eq_true, nK, nL, nM, nN]); rfl) ?_
      refine aL_s true rfl rfl (fun _ => q_move rfl) (aL_s true rfl rfl (fun _ => q_extract rfl rfl) (aL_s true rfl rfl (fun _ => q_extract rfl rfl) ?_))
      refine aL_eff rfl (x_store 1 tk33 rfl rfl rfl rfl ?_)
      refine aL_hp (by simp only [nK, nL]; rfl) ?_
      refine aL_s true rfl rfl (fun _ => q_assign rfl) (aL_nil (thn_n (awp_region (aL_s true rfl rfl (fun _ => q_move rfl) ?_))))
      refine aL_s true rfl rfl (fun _ => q_fieldAddr (off := 16) (by kernel_rfl) rfl) ?_
      refine aL_eff rfl (x_store 1 tk3 rfl rfl rfl rfl ?_)
      refine aL_hp (by simp only [nK, nL]; rfl) ?_
      refine aL_nil (blk_n (thn_n (awp_seq (awp_region (aL_s true rfl rfl (fun _ => q_load 1 tk33 rfl rfl rfl) (aL_s true rfl rfl (fun _ => q_move rfl) ?_))))))
      refine aL_eff rfl (x_store 3 tk33 rfl rfl rfl rfl ?_)
      refine aL_hp (by simp only [nK, nL]; rfl) ?_
      refine aL_s true rfl rfl (fun _ => q_assign rfl) (aL_nil (thn_n (awp_ret ?_)))
      refine finR2 [] [0] rfl Tryz.results32 (rv_cell 3 tk33 rfl rfl rfl) (rv_tmp rfl) ?_ (.inr rfl)
      simp only [decide_eq_true_eq, decide_eq_false_iff_not, Bool.and_eq_true, Bool.and_eq_false_iff] at *
      first
      | (have e : i.op = 19 := by omega
         rw [e]; exact ⟨rfl, rfl, rfl⟩)
      | (have e : i.op = 22 := by omega
         rw [e]; exact ⟨rfl, rfl, rfl⟩)
      | (have e : i.op = 23 := by omega
         rw [e]; exact ⟨rfl, rfl, rfl⟩)
      | (have e : i.op = 26 := by omega
         rw [e]; exact ⟨rfl, rfl, rfl⟩)
      | (have e : i.op = 20 := by omega
         have hz : c.r i.a = 0 := by
           have h := ‹(decide (c.r i.a = 0) == decide ((i.op : Int) = 20)) = true›
           rw [e] at h; simpa using h
         rw [e]; refine ⟨?_, rfl, rfl⟩
         show _ = Value.tuple #[.agg (cpuV ⟨c.r, if c.r i.a = 0 then w64 (c.pc + i.imm) else w64 (c.pc + 8)⟩).toArray, .int .i64 0]
         rw [if_pos hz]; rfl)
      | (have e : i.op = 20 := by omega
         have hz : ¬ c.r i.a = 0 := by
           have h := ‹(decide (c.r i.a = 0) == decide ((i.op : Int) = 20)) = false›
           rw [e] at h; simpa using h
         rw [e]; refine ⟨?_, rfl, rfl⟩
         show _ = Value.tuple #[.agg (cpuV ⟨c.r, if c.r i.a = 0 then w64 (c.pc + i.imm) else w64 (c.pc + 8)⟩).toArray, .int .i64 0]
         rw [if_neg hz]; rfl)
      | (have e : i.op = 21 := by omega
         have hz : ¬ c.r i.a = 0 := by
           have h := ‹(decide (c.r i.a = 0) == decide ((i.op : Int) = 20)) = true›
           rw [e] at h; simpa using h
         rw [e]; refine ⟨?_, rfl, rfl⟩
         show _ = Value.tuple #[.agg (cpuV ⟨c.r, if c.r i.a = 0 then w64 (c.pc + 8) else w64 (c.pc + i.imm)⟩).toArray, .int .i64 0]
         rw [if_neg hz]; rfl)
      | (have e : i.op = 21 := by omega
         have hz : c.r i.a = 0 := by
           have h := ‹(decide (c.r i.a = 0) == decide ((i.op : Int) = 20)) = false›
           rw [e] at h; simpa using h
         rw [e]; refine ⟨?_, rfl, rfl⟩
         show _ = Value.tuple #[.agg (cpuV ⟨c.r, if c.r i.a = 0 then w64 (c.pc + 8) else w64 (c.pc + i.imm)⟩).toArray, .int .i64 0]
         rw [if_pos hz]; rfl)
      | (have e : i.op = 24 := by omega
         have hf : flowO M c i 24 = (⟨(pushO M c (w64 (c.pc + 8))).1.r, (loadM M (w64 (c.pc + i.imm)) 8).1⟩, (pushO M c (w64 (c.pc + 8))).2) := if_pos (And.left ‹(loadM M (w64 (c.pc + i.imm)) 8).2 = 0 ∧ (i.op : Int) = 24›)
         rw [e, hf]; exact ⟨rfl, rfl, rfl⟩)
      | (have e : i.op = 25 := by omega
         rw [e]; exact ⟨rfl, rfl, rfl⟩)
      | (have e : i.op = 24 ∨ i.op = 25 := by omega
         rcases e with e | e
         · have hne : ¬ (loadM M (w64 (c.pc + i.imm)) 8).2 = 0 := fun h => by
             rcases ‹¬(loadM M (w64 (c.pc + i.imm)) 8).2 = 0 ∨ ¬(i.op : Int) = 24› with g | g
             · exact g h
             · exact g (by omega)
           have hf : flowO M c i 24 = (⟨c.r, (loadM M (w64 (c.pc + i.imm)) 8).1⟩, (loadM M (w64 (c.pc + i.imm)) 8).2, M) := if_neg hne
           rw [e, hf]; exact ⟨rfl, rfl, rfl⟩
         · rw [e]; exact ⟨rfl, rfl, rfl⟩)
      | (trace_state; sorry)
     ·skip
      refine awp_seq (awp_region (aL_s true rfl rfl (fun _ => q_eql rfl rfl) (aL_s true rfl rfl (fun _ => q_assign rfl) (aL_nil (thn_n ?_)))))
      refine awp_cond _ rfl (fun h7 => ?_) (fun h7 => ?_)
      ·skip
       refine awp_seq (awp_region ?_)
       refine aL_s true rfl rfl (fun _ => q_fieldAddr (off := 1) (by kernel_rfl) rfl) ?_
       refine aL_s true rfl rfl (fun _ => q_load 2 tk3 rfl rfl rfl) ?_
       refine aL_s true rfl rfl (fun _ => q_fieldAddr (off := 0) (by kernel_rfl) rfl) ?_
       refine aL_s true rfl rfl (fun _ => q_idxArr (i.a) Tryz.underlying31 tk3 rfl rfl (rfl) (ha)) (aL_s true rfl rfl (fun _ => q_load (v := .int .i64 (c.r i.a)) 1 tk3 rfl rfl (cpuV_get0 c ha)) (aL_s true rfl rfl (fun _ => q_assign rfl) (aL_nil (thn_n (awp_seq (awp_region (aL_s true rfl rfl (fun _ => q_move rfl) ?_)))))))
       refine aL_s true rfl rfl (fun _ => q_load 1 tk33 rfl rfl rfl) (aL_s true rfl rfl (fun _ => q_move rfl) ?_)
       refine aL_eff (q := false) rfl (e_call [] [0] (by kernel_rfl) rfl rfl rfl rfl (push29_fn p M c (w64 (c.pc + 8)) (wrI _)) ?_)
       rintro v ps' hp' ⟨rfl, rfl, rfl⟩
       refine aL_st (by (try simp only [nM, nN]); rfl) (by (try simp only [putB, place, Nat.reduceBEq, nA, if_true, if_false, reduceIte, nB, nC, nD, nE, nF, nG, nH, nI, Nat.reduceAdd, nJ, beq_self_eq_true, nK, nL, nM, nN]); rfl) ?_
       refine aL_s true rfl rfl (fun _ => q_move rfl) (aL_s true rfl rfl (fun _ => q_extract rfl rfl) (aL_s true rfl rfl (fun _ => q_extract rfl rfl) ?_))
       refine aL_eff rfl (x_store 1 tk33 rfl rfl rfl rfl ?_)
       refine aL_hp (by simp only [nK, nL]; rfl) ?_
       refine aL_s true rfl rfl (fun _ => q_assign rfl) (aL_nil (thn_n (awp_region (aL_s true rfl rfl (fun _ => q_move rfl) ?_))))
       refine aL_s true rfl rfl (fun _ => q_fieldAddr (off := 16) (by kernel_rfl) rfl) ?_
       refine aL_eff rfl (x_store 1 tk3 rfl rfl rfl rfl ?_)
       refine aL_hp (by simp only [nK, nL]; rfl) ?_
       refine aL_nil (blk_n (thn_n (awp_seq (awp_region (aL_s true rfl rfl (fun _ => q_load 1 tk33 rfl rfl rfl) (aL_s true rfl rfl (fun _ => q_move rfl) ?_))))))
       refine aL_eff rfl (x_store 3 tk33 rfl rfl rfl rfl ?_)
       refine aL_hp (by simp only [nK, nL]; rfl) ?_
       refine aL_s true rfl rfl (fun _ => q_assign rfl) (aL_nil (thn_n (awp_ret ?_)))
       refine finR2 [] [0] rfl Tryz.results32 (rv_cell 3 tk33 rfl rfl rfl) (rv_tmp rfl) ?_ (.inr rfl)
       simp only [decide_eq_true_eq, decide_eq_false_iff_not, Bool.and_eq_true, Bool.and_eq_false_iff] at *
       first
       | (have e : i.op = 19 := by omega
          rw [e]; exact ⟨rfl, rfl, rfl⟩)
       | (have e : i.op = 22 := by omega
          rw [e]; exact ⟨rfl, rfl, rfl⟩)
       | (have e : i.op = 23 := by omega
          rw [e]; exact ⟨rfl, rfl, rfl⟩)
       | (have e : i.op = 26 := by omega
          rw [e]; exact ⟨rfl, rfl, rfl⟩)
       | (have e : i.op = 20 := by omega
          have hz : c.r i.a = 0 := by
            have h := ‹(decide (c.r i.a = 0) == decide ((i.op : Int) = 20)) = true›
            rw [e] at h; simpa using h
          rw [e]; refine ⟨?_, rfl, rfl⟩
          show _ = Value.tuple #[.agg (cpuV ⟨c.r, if c.r i.a = 0 then w64 (c.pc + i.imm) else w64 (c.pc + 8)⟩).toArray, .int .i64 0]
          rw [if_pos hz]; rfl)
       | (have e : i.op = 20 := by omega
          have hz : ¬ c.r i.a = 0 := by
            have h := ‹(decide (c.r i.a = 0) == decide ((i.op : Int) = 20)) = false›
            rw [e] at h; simpa using h
          rw [e]; refine ⟨?_, rfl, rfl⟩
          show _ = Value.tuple #[.agg (cpuV ⟨c.r, if c.r i.a = 0 then w64 (c.pc + i.imm) else w64 (c.pc + 8)⟩).toArray, .int .i64 0]
          rw [if_neg hz]; rfl)
       | (have e : i.op = 21 := by omega
          have hz : ¬ c.r i.a = 0 := by
            have h := ‹(decide (c.r i.a = 0) == decide ((i.op : Int) = 20)) = true›
            rw [e] at h; simpa using h
          rw [e]; refine ⟨?_, rfl, rfl⟩
          show _ = Value.tuple #[.agg (cpuV ⟨c.r, if c.r i.a = 0 then w64 (c.pc + 8) else w64 (c.pc + i.imm)⟩).toArray, .int .i64 0]
          rw [if_neg hz]; rfl)
       | (have e : i.op = 21 := by omega
          have hz : c.r i.a = 0 := by
            have h := ‹(decide (c.r i.a = 0) == decide ((i.op : Int) = 20)) = false›
            rw [e] at h; simpa using h
          rw [e]; refine ⟨?_, rfl, rfl⟩
          show _ = Value.tuple #[.agg (cpuV ⟨c.r, if c.r i.a = 0 then w64 (c.pc + 8) else w64 (c.pc + i.imm)⟩).toArray, .int .i64 0]
          rw [if_pos hz]; rfl)
       | (have e : i.op = 24 := by omega
          have hf : flowO M c i 24 = (⟨(pushO M c (w64 (c.pc + 8))).1.r, (loadM M (w64 (c.pc + i.imm)) 8).1⟩, (pushO M c (w64 (c.pc + 8))).2) := if_pos (And.left ‹(loadM M (w64 (c.pc + i.imm)) 8).2 = 0 ∧ (i.op : Int) = 24›)
          rw [e, hf]; exact ⟨rfl, rfl, rfl⟩)
       | (have e : i.op = 25 := by omega
          rw [e]; exact ⟨rfl, rfl, rfl⟩)
       | (have e : i.op = 24 ∨ i.op = 25 := by omega
          rcases e with e | e
          · have hne : ¬ (loadM M (w64 (c.pc + i.imm)) 8).2 = 0 := fun h => by
              rcases ‹¬(loadM M (w64 (c.pc + i.imm)) 8).2 = 0 ∨ ¬(i.op : Int) = 24› with g | g
              · exact g h
              · exact g (by omega)
            have hf : flowO M c i 24 = (⟨c.r, (loadM M (w64 (c.pc + i.imm)) 8).1⟩, (loadM M (w64 (c.pc + i.imm)) 8).2, M) := if_neg hne
            rw [e, hf]; exact ⟨rfl, rfl, rfl⟩
          · rw [e]; exact ⟨rfl, rfl, rfl⟩)
       | (trace_state; sorry)
      ·skip
       refine awp_seq (awp_region (aL_s true rfl rfl (fun _ => q_eql rfl rfl) (aL_s true rfl rfl (fun _ => q_assign rfl) (aL_nil (thn_n ?_)))))
       refine awp_cond _ rfl (fun h8 => ?_) (fun h8 => ?_)
       ·skip
        refine awp_seq (awp_region (aL_s true rfl rfl (fun _ => q_move rfl) ?_))
        refine aL_s true rfl rfl (fun _ => q_fieldAddr (off := 0) (by kernel_rfl) rfl) ?_
        refine aL_s true rfl rfl (fun _ => q_idxArr (15) Tryz.underlying31 tk3 rfl rfl (rfl) (by decide)) ?_
        refine aL_s true rfl rfl (fun _ => q_load 1 tk3 rfl rfl rfl) ?_
        refine aL_s true rfl rfl (fun _ => q_call (by kernel_rfl) rfl (fun w S fp hst => q_lendR (fun dA dB cA cB hI hl => load28_fn p M dA dB cA cB hI hl (c.r 15) 8 (hc.r _) i8) hst 0 rfl)) ?_
        refine aL_s true rfl rfl (fun _ => q_move rfl) (aL_s true rfl rfl (fun _ => q_extract rfl rfl) (aL_s true rfl rfl (fun _ => q_extract rfl rfl) (aL_s true rfl rfl (fun _ => q_assign rfl) (aL_s true rfl rfl (fun _ => q_assign rfl) (aL_nil (thn_n (awp_seq ?_)))))))
        refine awp_region ?_
        refine aL_s true rfl rfl (fun _ => q_fieldAddr (off := 0) (by kernel_rfl) rfl) ?_
        refine aL_s true rfl rfl (fun _ => q_idxArr (15) Tryz.underlying31 tk3 rfl rfl (rfl) (by decide)) ?_
        refine aL_s true rfl rfl (fun _ => q_load 1 tk3 rfl rfl rfl) (aL_s true rfl rfl (fun _ => q_add rfl rfl) ?_)
        refine aL_s true rfl rfl (fun _ => q_fieldAddr (off := 0) (by kernel_rfl) rfl) ?_
        refine aL_s true rfl rfl (fun _ => q_idxArr (15) Tryz.underlying31 tk3 rfl rfl (rfl) (by decide)) ?_
        refine aL_eff rfl (x_store 1 tk3 rfl rfl rfl rfl ?_)
        refine aL_hp (by simp only [nK, nL]; rfl) ?_
        refine aL_nil (thn_n (awp_region (aL_s true rfl rfl (fun _ => q_move rfl) ?_)))
        refine aL_s true rfl rfl (fun _ => q_fieldAddr (off := 16) (by kernel_rfl) rfl) ?_
        refine aL_eff rfl (x_store 1 tk3 rfl rfl rfl rfl ?_)
        refine aL_hp (by simp only [nK, nL]; rfl) ?_
        refine aL_nil (blk_n (thn_n (awp_seq (awp_region (aL_s true rfl rfl (fun _ => q_load 1 tk33 rfl rfl rfl) (aL_s true rfl rfl (fun _ => q_move rfl) ?_))))))
        refine aL_eff rfl (x_store 3 tk33 rfl rfl rfl rfl ?_)
        refine aL_hp (by simp only [nK, nL]; rfl) ?_
        refine aL_s true rfl rfl (fun _ => q_assign rfl) (aL_nil (thn_n (awp_ret ?_)))
        refine finR2 [] [0] rfl Tryz.results32 (rv_cell 3 tk33 rfl rfl rfl) (rv_tmp rfl) ?_ (.inr rfl)
        simp only [decide_eq_true_eq, decide_eq_false_iff_not, Bool.and_eq_true, Bool.and_eq_false_iff] at *
        first
        | (have e : i.op = 19 := by omega
           rw [e]; exact ⟨rfl, rfl, rfl⟩)
        | (have e : i.op = 22 := by omega
           rw [e]; exact ⟨rfl, rfl, rfl⟩)
        | (have e : i.op = 23 := by omega
           rw [e]; exact ⟨rfl, rfl, rfl⟩)
        | (have e : i.op = 26 := by omega
           rw [e]; exact ⟨rfl, rfl, rfl⟩)
        | (have e : i.op = 20 := by omega
           have hz : c.r i.a = 0 := by
             have h := ‹(decide (c.r i.a = 0) == decide ((i.op : Int) = 20)) = true›
             rw [e] at h; simpa using h
           rw [e]; refine ⟨?_, rfl, rfl⟩
           show _ = Value.tuple #[.agg (cpuV ⟨c.r, if c.r i.a = 0 then w64 (c.pc + i.imm) else w64 (c.pc + 8)⟩).toArray, .int .i64 0]
           rw [if_pos hz]; rfl)
        | (have e : i.op = 20 := by omega
           have hz : ¬ c.r i.a = 0 := by
             have h := ‹(decide (c.r i.a = 0) == decide ((i.op : Int) = 20)) = false›
             rw [e] at h; simpa using h
           rw [e]; refine ⟨?_, rfl, rfl⟩
           show _ = Value.tuple #[.agg (cpuV ⟨c.r, if c.r i.a = 0 then w64 (c.pc + i.imm) else w64 (c.pc + 8)⟩).toArray, .int .i64 0]
           rw [if_neg hz]; rfl)
        | (have e : i.op = 21 := by omega
           have hz : ¬ c.r i.a = 0 := by
             have h := ‹(decide (c.r i.a = 0) == decide ((i.op : Int) = 20)) = true›
             rw [e] at h; simpa using h
           rw [e]; refine ⟨?_, rfl, rfl⟩
           show _ = Value.tuple #[.agg (cpuV ⟨c.r, if c.r i.a = 0 then w64 (c.pc + 8) else w64 (c.pc + i.imm)⟩).toArray, .int .i64 0]
           rw [if_neg hz]; rfl)
        | (have e : i.op = 21 := by omega
           have hz : c.r i.a = 0 := by
             have h := ‹(decide (c.r i.a = 0) == decide ((i.op : Int) = 20)) = false›
             rw [e] at h; simpa using h
           rw [e]; refine ⟨?_, rfl, rfl⟩
           show _ = Value.tuple #[.agg (cpuV ⟨c.r, if c.r i.a = 0 then w64 (c.pc + 8) else w64 (c.pc + i.imm)⟩).toArray, .int .i64 0]
           rw [if_pos hz]; rfl)
        | (have e : i.op = 24 := by omega
           have hf : flowO M c i 24 = (⟨(pushO M c (w64 (c.pc + 8))).1.r, (loadM M (w64 (c.pc + i.imm)) 8).1⟩, (pushO M c (w64 (c.pc + 8))).2) := if_pos (And.left ‹(loadM M (w64 (c.pc + i.imm)) 8).2 = 0 ∧ (i.op : Int) = 24›)
           rw [e, hf]; exact ⟨rfl, rfl, rfl⟩)
        | (have e : i.op = 25 := by omega
           rw [e]; exact ⟨rfl, rfl, rfl⟩)
        | (have e : i.op = 24 ∨ i.op = 25 := by omega
           rcases e with e | e
           · have hne : ¬ (loadM M (w64 (c.pc + i.imm)) 8).2 = 0 := fun h => by
               rcases ‹¬(loadM M (w64 (c.pc + i.imm)) 8).2 = 0 ∨ ¬(i.op : Int) = 24› with g | g
               · exact g h
               · exact g (by omega)
             have hf : flowO M c i 24 = (⟨c.r, (loadM M (w64 (c.pc + i.imm)) 8).1⟩, (loadM M (w64 (c.pc + i.imm)) 8).2, M) := if_neg hne
             rw [e, hf]; exact ⟨rfl, rfl, rfl⟩
           · rw [e]; exact ⟨rfl, rfl, rfl⟩)
        | (trace_state; sorry)
       ·skip
        refine awp_seq (awp_region (aL_s true rfl rfl (fun _ => q_move rfl) (aL_s true rfl rfl (fun _ => q_move rfl) ?_)))
        refine aL_s true rfl rfl (fun _ => q_call (by kernel_rfl) rfl (fun w S fp hst => q_lendR (fun dA dB cA cB hI hl => load28_fn p M dA dB cA cB hI hl (w64 (c.pc + i.imm)) 8 (wrI _) i8) hst 0 rfl)) ?_
        refine aL_s true rfl rfl (fun _ => q_move rfl) (aL_s true rfl rfl (fun _ => q_extract rfl rfl) (aL_s true rfl rfl (fun _ => q_extract rfl rfl) (aL_s true rfl rfl (fun _ => q_assign rfl) (aL_s true rfl rfl (fun _ => q_assign rfl) (aL_nil (thn_n (awp_seq ?_)))))))
        refine awp_seq (awp_region (aL_s true rfl rfl (fun _ => q_move rfl) (aL_s true rfl rfl (fun _ => q_eql rfl rfl) (aL_s true rfl rfl (fun _ => q_move rfl) ?_))))
        refine aL_s _ rfl rfl (fun hc => q_fieldAddr (off := 0) (by kernel_rfl) rfl) ?_
        refine aL_s _ rfl rfl (fun hc => q_load 2 tk3 (ev_yes rfl hc) rfl rfl) (aL_s _ rfl rfl (fun hc => q_eql (ev_yes rfl hc) rfl) (aL_s true rfl rfl (fun _ => q_and rfl rfl (fun h => gt rfl h)) (aL_nil (thn_n ?_))))
        refine awp_cond _ rfl (fun h9 => ?_) (fun h9 => ?_)
        ·skip
         refine awp_region (aL_s true rfl rfl (fun _ => q_move rfl) (aL_s true rfl rfl (fun _ => q_load 1 tk33 rfl rfl rfl) (aL_s true rfl rfl (fun _ => q_move rfl) ?_)))
         refine aL_eff (q := false) rfl (e_call [] [0] (by kernel_rfl) rfl rfl rfl rfl (push29_fn p M c (w64 (c.pc + 8)) (wrI _)) ?_)
         rintro v ps' hp' ⟨rfl, rfl, rfl⟩
         refine aL_st (by (try simp only [nM, nN]); rfl) (by (try simp only [putB, place, Nat.reduceBEq, nA, if_true, if_false, reduceIte, nB, nC, nD, nE, nF, nG, nH, nI, Nat.reduceAdd, nJ, beq_self_eq_true, nK, nL, nM, nN]); rfl) ?_
         refine aL_s true rfl rfl (fun _ => q_move rfl) (aL_s true rfl rfl (fun _ => q_extract rfl rfl) (aL_s true rfl rfl (fun _ => q_extract rfl rfl) ?_))
         refine aL_eff rfl (x_store 1 tk33 rfl rfl rfl rfl ?_)
         refine aL_hp (by simp only [nK, nL]; rfl) ?_
         refine aL_s true rfl rfl (fun _ => q_assign rfl) (aL_nil (thn_n (awp_region (aL_s true rfl rfl (fun _ => q_move rfl) ?_))))
         refine aL_s true rfl rfl (fun _ => q_fieldAddr (off := 16) (by kernel_rfl) rfl) ?_
         refine aL_eff rfl (x_store 1 tk3 rfl rfl rfl rfl ?_)
         refine aL_hp (by simp only [nK, nL]; rfl) ?_
         refine aL_nil (blk_n (thn_n (awp_seq (awp_region (aL_s true rfl rfl (fun _ => q_load 1 tk33 rfl rfl rfl) (aL_s true rfl rfl (fun _ => q_move rfl) ?_))))))
         refine aL_eff rfl (x_store 3 tk33 rfl rfl rfl rfl ?_)
         refine aL_hp (by simp only [nK, nL]; rfl) ?_
         refine aL_s true rfl rfl (fun _ => q_assign rfl) (aL_nil (thn_n (awp_ret ?_)))
         refine finR2 [] [0] rfl Tryz.results32 (rv_cell 3 tk33 rfl rfl rfl) (rv_tmp rfl) ?_ (.inr rfl)
         simp only [decide_eq_true_eq, decide_eq_false_iff_not, Bool.and_eq_true, Bool.and_eq_false_iff] at *
         first
         | (have e : i.op = 19 := by omega
            rw [e]; exact ⟨rfl, rfl, rfl⟩)
         | (have e : i.op = 22 := by omega
            rw [e]; exact ⟨rfl, rfl, rfl⟩)
         | (have e : i.op = 23 := by omega
            rw [e]; exact ⟨rfl, rfl, rfl⟩)
         | (have e : i.op = 26 := by omega
            rw [e]; exact ⟨rfl, rfl, rfl⟩)
         | (have e : i.op = 20 := by omega
            have hz : c.r i.a = 0 := by
              have h := ‹(decide (c.r i.a = 0) == decide ((i.op : Int) = 20)) = true›
              rw [e] at h; simpa using h
            rw [e]; refine ⟨?_, rfl, rfl⟩
            show _ = Value.tuple #[.agg (cpuV ⟨c.r, if c.r i.a = 0 then w64 (c.pc + i.imm) else w64 (c.pc + 8)⟩).toArray, .int .i64 0]
            rw [if_pos hz]; rfl)
         | (have e : i.op = 20 := by omega
            have hz : ¬ c.r i.a = 0 := by
              have h := ‹(decide (c.r i.a = 0) == decide ((i.op : Int) = 20)) = false›
              rw [e] at h; simpa using h
            rw [e]; refine ⟨?_, rfl, rfl⟩
            show _ = Value.tuple #[.agg (cpuV ⟨c.r, if c.r i.a = 0 then w64 (c.pc + i.imm) else w64 (c.pc + 8)⟩).toArray, .int .i64 0]
            rw [if_neg hz]; rfl)
         | (have e : i.op = 21 := by omega
            have hz : ¬ c.r i.a = 0 := by
              have h := ‹(decide (c.r i.a = 0) == decide ((i.op : Int) = 20)) = true›
              rw [e] at h; simpa using h
            rw [e]; refine ⟨?_, rfl, rfl⟩
            show _ = Value.tuple #[.agg (cpuV ⟨c.r, if c.r i.a = 0 then w64 (c.pc + 8) else w64 (c.pc + i.imm)⟩).toArray, .int .i64 0]
            rw [if_neg hz]; rfl)
         | (have e : i.op = 21 := by omega
            have hz : c.r i.a = 0 := by
              have h := ‹(decide (c.r i.a = 0) == decide ((i.op : Int) = 20)) = false›
              rw [e] at h; simpa using h
            rw [e]; refine ⟨?_, rfl, rfl⟩
            show _ = Value.tuple #[.agg (cpuV ⟨c.r, if c.r i.a = 0 then w64 (c.pc + 8) else w64 (c.pc + i.imm)⟩).toArray, .int .i64 0]
            rw [if_pos hz]; rfl)
         | (have e : i.op = 24 := by omega
            have hf : flowO M c i 24 = (⟨(pushO M c (w64 (c.pc + 8))).1.r, (loadM M (w64 (c.pc + i.imm)) 8).1⟩, (pushO M c (w64 (c.pc + 8))).2) := if_pos (And.left ‹(loadM M (w64 (c.pc + i.imm)) 8).2 = 0 ∧ (i.op : Int) = 24›)
            rw [e, hf]; exact ⟨rfl, rfl, rfl⟩)
         | (have e : i.op = 25 := by omega
            rw [e]; exact ⟨rfl, rfl, rfl⟩)
         | (have e : i.op = 24 ∨ i.op = 25 := by omega
            rcases e with e | e
            · have hne : ¬ (loadM M (w64 (c.pc + i.imm)) 8).2 = 0 := fun h => by
                rcases ‹¬(loadM M (w64 (c.pc + i.imm)) 8).2 = 0 ∨ ¬(i.op : Int) = 24› with g | g
                · exact g h
                · exact g (by omega)
              have hf : flowO M c i 24 = (⟨c.r, (loadM M (w64 (c.pc + i.imm)) 8).1⟩, (loadM M (w64 (c.pc + i.imm)) 8).2, M) := if_neg hne
              rw [e, hf]; exact ⟨rfl, rfl, rfl⟩
            · rw [e]; exact ⟨rfl, rfl, rfl⟩)
         | (trace_state; sorry)
        ·skip
         refine awp_skip (thn_n (awp_region (aL_s true rfl rfl (fun _ => q_move rfl) ?_)))
         refine aL_s true rfl rfl (fun _ => q_fieldAddr (off := 16) (by kernel_rfl) rfl) ?_
         refine aL_eff rfl (x_store 1 tk3 rfl rfl rfl rfl ?_)
         refine aL_hp (by simp only [nK, nL]; rfl) ?_
         refine aL_nil (blk_n (thn_n (awp_seq (awp_region (aL_s true rfl rfl (fun _ => q_load 1 tk33 rfl rfl rfl) (aL_s true rfl rfl (fun _ => q_move rfl) ?_))))))
         refine aL_eff rfl (x_store 3 tk33 rfl rfl rfl rfl ?_)
         refine aL_hp (by simp only [nK, nL]; rfl) ?_
         refine aL_s true rfl rfl (fun _ => q_assign rfl) (aL_nil (thn_n (awp_ret ?_)))
         refine finR2 [] [0] rfl Tryz.results32 (rv_cell 3 tk33 rfl rfl rfl) (rv_tmp rfl) ?_ (.inr rfl)
         simp only [decide_eq_true_eq, decide_eq_false_iff_not, Bool.and_eq_true, Bool.and_eq_false_iff] at *
         first
         | (have e : i.op = 19 := by omega
            rw [e]; exact ⟨rfl, rfl, rfl⟩)
         | (have e : i.op = 22 := by omega
            rw [e]; exact ⟨rfl, rfl, rfl⟩)
         | (have e : i.op = 23 := by omega
            rw [e]; exact ⟨rfl, rfl, rfl⟩)
         | (have e : i.op = 26 := by omega
            rw [e]; exact ⟨rfl, rfl, rfl⟩)
         | (have e : i.op = 20 := by omega
            have hz : c.r i.a = 0 := by
              have h := ‹(decide (c.r i.a = 0) == decide ((i.op : Int) = 20)) = true›
              rw [e] at h; simpa using h
            rw [e]; refine ⟨?_, rfl, rfl⟩
            show _ = Value.tuple #[.agg (cpuV ⟨c.r, if c.r i.a = 0 then w64 (c.pc + i.imm) else w64 (c.pc + 8)⟩).toArray, .int .i64 0]
            rw [if_pos hz]; rfl)
         | (have e : i.op = 20 := by omega
            have hz : ¬ c.r i.a = 0 := by
              have h := ‹(decide (c.r i.a = 0) == decide ((i.op : Int) = 20)) = false›
              rw [e] at h; simpa using h
            rw [e]; refine ⟨?_, rfl, rfl⟩
            show _ = Value.tuple #[.agg (cpuV ⟨c.r, if c.r i.a = 0 then w64 (c.pc + i.imm) else w64 (c.pc + 8)⟩).toArray, .int .i64 0]
            rw [if_neg hz]; rfl)
         | (have e : i.op = 21 := by omega
            have hz : ¬ c.r i.a = 0 := by
              have h := ‹(decide (c.r i.a = 0) == decide ((i.op : Int) = 20)) = true›
              rw [e] at h; simpa using h
            rw [e]; refine ⟨?_, rfl, rfl⟩
            show _ = Value.tuple #[.agg (cpuV ⟨c.r, if c.r i.a = 0 then w64 (c.pc + 8) else w64 (c.pc + i.imm)⟩).toArray, .int .i64 0]
            rw [if_neg hz]; rfl)
         | (have e : i.op = 21 := by omega
            have hz : c.r i.a = 0 := by
              have h := ‹(decide (c.r i.a = 0) == decide ((i.op : Int) = 20)) = false›
              rw [e] at h; simpa using h
            rw [e]; refine ⟨?_, rfl, rfl⟩
            show _ = Value.tuple #[.agg (cpuV ⟨c.r, if c.r i.a = 0 then w64 (c.pc + 8) else w64 (c.pc + i.imm)⟩).toArray, .int .i64 0]
            rw [if_pos hz]; rfl)
         | (have e : i.op = 24 := by omega
            have hf : flowO M c i 24 = (⟨(pushO M c (w64 (c.pc + 8))).1.r, (loadM M (w64 (c.pc + i.imm)) 8).1⟩, (pushO M c (w64 (c.pc + 8))).2) := if_pos (And.left ‹(loadM M (w64 (c.pc + i.imm)) 8).2 = 0 ∧ (i.op : Int) = 24›)
            rw [e, hf]; exact ⟨rfl, rfl, rfl⟩)
         | (have e : i.op = 25 := by omega
            rw [e]; exact ⟨rfl, rfl, rfl⟩)
         | (have e : i.op = 24 ∨ i.op = 25 := by omega
            rcases e with e | e
            · have hne : ¬ (loadM M (w64 (c.pc + i.imm)) 8).2 = 0 := fun h => by
                rcases ‹¬(loadM M (w64 (c.pc + i.imm)) 8).2 = 0 ∨ ¬(i.op : Int) = 24› with g | g
                · exact g h
                · exact g (by omega)
              have hf : flowO M c i 24 = (⟨c.r, (loadM M (w64 (c.pc + i.imm)) 8).1⟩, (loadM M (w64 (c.pc + i.imm)) 8).2, M) := if_neg hne
              rw [e, hf]; exact ⟨rfl, rfl, rfl⟩
            · rw [e]; exact ⟨rfl, rfl, rfl⟩)
         | (trace_state; sorry)
end Go.Proofs.YtpgcoceggacplaaGreatDoor
