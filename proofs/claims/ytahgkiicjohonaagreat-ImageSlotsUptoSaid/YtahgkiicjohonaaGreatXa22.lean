/- Parts of the proof, in build order. No condition. -/
import Derived.Test.YtahgkiicjohonaaGreatXa21
import Derived.Test.YtahgkiicjohonaaGreatXa05
import Derived.Test.YtahgkiicjohonaaGreatXa09
set_option linter.unusedSimpArgs false
set_option linter.unusedVariables false
set_option maxHeartbeats 1000000
set_option maxRecDepth 20000
namespace Go.Lv
open Go.RowKit Go.Lp Go.Sy
theorem cN {α : Type} {A : Cod α} {vl : α → Value} {un : Value → α} (hz : ∀ r b x, A.one (.R r b) x = A.one (.R r b) A.zero) : ∀ (os : List Nat) (cs : List Value) (r : List UInt8) (b : Bool) {r' : List UInt8} {b' : Bool}, r.length ≤ 4611686018427387904 → (goC A vl un (.R r b) cs os).1 = .R r' b' → r'.length ≤ r.length
 | [], cs, r, b, r', b', _, h => by obtain ⟨rfl, rfl⟩ := CS.R.inj h; exact Nat.le_refl _
 | o :: os, cs, r, b, r', b', hr, h => by
   unfold goC at h
   obtain ⟨r1, b1, h1, h2, _⟩ := A.rd r b hr
   rw [hz, h1] at h
   exact Nat.le_trans (cN hz os _ r1 b1 (by omega) h) h2
theorem ec {α β : Type} (A : Cod α) (B : Cod β) (s : CS) (x : α × β) : (A.prod B).one s x = ((B.one (A.one s x.1).1 x.2).1, ((A.one s x.1).2, (B.one (A.one s x.1).1 x.2).2)) := rfl
theorem dK {α β : Type} (A : Cod α) (B : Cod β) : (A.prod B).zero = (A.zero, B.zero) := rfl
theorem lq {x : Bool} {r r' : List UInt8} {b b' : Bool} (hr : r.length ≤ 4611686018427387904) (h : (bK.one (.R r b) x).1 = .R r' b') : r'.length ≤ r.length := by
 obtain ⟨r1, b1, h1, h2, _⟩ := bK.rd r b hr
 have : (bK.one (.R r b) x).1 = (bK.one (.R r b) bK.zero).1 := rfl
 rw [this, h1] at h
 obtain ⟨rfl, rfl⟩ := CS.R.inj h
 exact h2
end Go.Lv
namespace Go.Proofs.YtahgkiicjohonaaGreat
open Go.RowKit Go.Lp Go.Sy Go.Lv
open Go.Proofs.Tryz
attribute [local irreducible] aL aB awp aC fwp Quiet
theorem ql (b rb bc bx : Nat) (p v : Value) (r : List UInt8) (bad : Bool) (hr : r.length ≤ 1000000) :
   Con Tryz.prog 68 [.pointer (some ⟨bx, 0, none⟩), .pointer (some ⟨bc, 0, none⟩)] [atC bc b] [bO b p v (.pointer (some ⟨rb, 0, none⟩)), rdB rb r bad, Box bx 51 [.string .empty, .string .empty, .int .i64 0, .int .i64 0, .int .i64 0, .string .empty, .string .empty]]
     fun _ ps hp' => ∃ (x : bk) (r' : List UInt8) (bad' : Bool), ee.one (.R r bad) ee.zero = (.R r' bad', ej x) ∧ ps = [] ∧ hp' = [bO b p v (.pointer (some ⟨rb, 0, none⟩)), rdB rb r' bad', Box bx 51 x.vs] := by
 refine EN2 Tryz.func68 rfl (aj (DR [8] 9 (VD 0 0 tk105 0 rfl rfl rfl rfl rfl (VM 1 rfl rfl (VN 2 rfl rfl rfl (VO 3 0 rfl rfl rfl (VM 4 rfl rfl (VN 5 rfl rfl rfl (VO 6 1 rfl rfl rfl (VB (zs := [.pointer none]) 7 rfl el227 rfl rfl rfl rfl (.more rfl (.v rfl .nil) (.more rfl (.v rfl .nil) .nil)) rfl rfl (fun v0_7 => (VE 8 rfl rfl (EC [1] [0, 1, 2] rfl (dL b rb bx 51 ([.string .empty, .string .empty, .int .i64 0, .int .i64 0, .int .i64 0, .string .empty, .string .empty] : List Value) p v r bad (by omega) ⟨v0_7, 2, [0, 1]⟩ (aH ByteArray.empty (by decide) rfl (aH ByteArray.empty (by decide) rfl bz))) ?_)))))))))))))
 rintro _ _ _ ⟨rfl, r_0, b_0, hq_0, rfl⟩; have hl_0 := cN (fun _ _ _ => rfl) _ _ _ _ (by omega) hq_0
 refine bST rfl ?_
 refine BN (an (aj (DR [11] 12 (VD 0 0 tk105 1 rfl rfl rfl rfl rfl (VM 1 rfl rfl (VN 2 rfl rfl rfl (VO 3 2 rfl rfl rfl (VM 4 rfl rfl (VN 5 rfl rfl rfl (VO 6 3 rfl rfl rfl (VM 7 rfl rfl (VN 8 rfl rfl rfl (VO 9 4 rfl rfl rfl (VB (zs := [.pointer none]) 10 rfl el226 rfl rfl rfl rfl (.more rfl (.v rfl .nil) (.more rfl (.v rfl .nil) (.more rfl (.v rfl .nil) .nil))) rfl rfl (fun v1_10 => ?_)))))))))))))))
 refine VE 11 rfl rfl (EC [2] [0, 1, 2] rfl (cP b rb bx 51 (goC ak Value.string unT (.R r bad) ([.string .empty, .string .empty, .int .i64 0, .int .i64 0, .int .i64 0, .string .empty, .string .empty] : List Value) [0, 1]).2 p v r_0 b_0 (by omega) ⟨v1_10, 3, [2, 3, 4]⟩ (aH 0 (by decide) rfl (aH 0 (by decide) rfl (aH 0 (by decide) rfl bz)))) ?_)
 rintro _ _ _ ⟨rfl, r_1, b_1, hq_1, rfl⟩; have hl_1 := cN (fun _ _ _ => rfl) _ _ _ _ (by omega) hq_1
 refine bST rfl ?_
 refine BN (an (DR [8] 9 (VD 0 0 tk105 2 rfl rfl rfl rfl rfl (VM 1 rfl rfl (VN 2 rfl rfl rfl (VO 3 5 rfl rfl rfl (VM 4 rfl rfl (VN 5 rfl rfl rfl (VO 6 6 rfl rfl rfl (VB (zs := [.pointer none]) 7 rfl el227 rfl rfl rfl rfl (.more rfl (.v rfl .nil) (.more rfl (.v rfl .nil) .nil)) rfl rfl (fun v2_7 => (VE 8 rfl rfl (EC [3] [0, 1, 2] rfl (dL b rb bx 51 (goC ai (fun z : Int => Value.int .i64 z) unI (.R r_0 b_0) (goC ak Value.string unT (.R r bad) ([.string .empty, .string .empty, .int .i64 0, .int .i64 0, .int .i64 0, .string .empty, .string .empty] : List Value) [0, 1]).2 [2, 3, 4]).2 p v r_1 b_1 (by omega) ⟨v2_7, 2, [5, 6]⟩ (aH ByteArray.empty (by decide) rfl (aH ByteArray.empty (by decide) rfl bz))) ?_)))))))))))))
 rintro _ _ _ ⟨rfl, r_2, b_2, hq_2, rfl⟩; have hl_2 := cN (fun _ _ _ => rfl) _ _ _ _ (by omega) hq_2
 refine bST rfl ?_
 refine BN (FZ0 [0, 1, 2] Tryz.results68 ?_)
 have k_0 : (ak.one (ak.one (.R r bad) ak.zero).1 ak.zero).1 = .R r_0 b_0 := hq_0
 have k_1 : (ai.one (ai.one (ai.one (.R r_0 b_0) ai.zero).1 ai.zero).1 ai.zero).1 = .R r_1 b_1 := hq_1
 have k_2 : (ak.one (ak.one (.R r_1 b_1) ak.zero).1 ak.zero).1 = .R r_2 b_2 := hq_2
 refine ⟨⟨_, _, _, _, _, _, _⟩, r_2, b_2, ?_, rfl, rfl⟩
 unfold ee
 simp only [ec, dK]
 rw [k_0, k_1, k_2]
 all_goals rfl
theorem p8 (b rb bc bx : Nat) (p v : Value) (r : List UInt8) (bad : Bool) (hr : r.length ≤ 1000000) :
   Con Tryz.prog 70 [.pointer (some ⟨bx, 0, none⟩), .pointer (some ⟨bc, 0, none⟩)] [atC bc b] [bO b p v (.pointer (some ⟨rb, 0, none⟩)), rdB rb r bad, Box bx 96 [.string .empty, .string .empty, .bool false, .int .i64 0, .int .i64 0, .int .i64 0]]
     fun _ ps hp' => ∃ (x : bN) (r' : List UInt8) (bad' : Bool), ed.one (.R r bad) ed.zero = (.R r' bad', et x) ∧ ps = [] ∧ hp' = [bO b p v (.pointer (some ⟨rb, 0, none⟩)), rdB rb r' bad', Box bx 96 x.vs] := by
 refine EN2 Tryz.func70 rfl (aj (DR [8] 9 (VD 0 0 tk105 0 rfl rfl rfl rfl rfl (VM 1 rfl rfl (VN 2 rfl rfl rfl (VO 3 0 rfl rfl rfl (VM 4 rfl rfl (VN 5 rfl rfl rfl (VO 6 1 rfl rfl rfl (VB (zs := [.pointer none]) 7 rfl el227 rfl rfl rfl rfl (.more rfl (.v rfl .nil) (.more rfl (.v rfl .nil) .nil)) rfl rfl (fun v0_7 => (VE 8 rfl rfl (EC [1] [0, 1, 2] rfl (dL b rb bx 96 ([.string .empty, .string .empty, .bool false, .int .i64 0, .int .i64 0, .int .i64 0] : List Value) p v r bad (by omega) ⟨v0_7, 2, [0, 1]⟩ (aH ByteArray.empty (by decide) rfl (aH ByteArray.empty (by decide) rfl bz))) ?_)))))))))))))
 rintro _ _ _ ⟨rfl, r_0, b_0, hq_0, rfl⟩; have hl_0 := cN (fun _ _ _ => rfl) _ _ _ _ (by omega) hq_0
 refine bST rfl ?_
 refine BN (an (aj (DR [4] 5 (VD 0 0 tk105 1 rfl rfl rfl rfl rfl (VM 1 rfl rfl (VN 2 rfl rfl rfl (VO 3 2 rfl rfl rfl (VE 4 rfl rfl (EC [] [0, 1, 2] rfl (kY false b rb bx 96 (goC ak Value.string unT (.R r bad) ([.string .empty, .string .empty, .bool false, .int .i64 0, .int .i64 0, .int .i64 0] : List Value) [0, 1]).2 2 rfl p v r_0 b_0 (by omega)) ?_)))))))))
 rintro _ _ _ ⟨rfl, r_1, b_1, hq_1, rfl⟩; have hl_1 := lq (by omega) hq_1
 refine bST rfl ?_
 refine BN (an (DR [11] 12 (VD 0 0 tk105 1 rfl rfl rfl rfl rfl (VM 1 rfl rfl (VN 2 rfl rfl rfl (VO 3 3 rfl rfl rfl (VM 4 rfl rfl (VN 5 rfl rfl rfl (VO 6 4 rfl rfl rfl (VM 7 rfl rfl (VN 8 rfl rfl rfl (VO 9 5 rfl rfl rfl (VB (zs := [.pointer none]) 10 rfl el226 rfl rfl rfl rfl (.more rfl (.v rfl .nil) (.more rfl (.v rfl .nil) (.more rfl (.v rfl .nil) .nil))) rfl rfl (fun v2_10 => ?_))))))))))))))
 refine VE 11 rfl rfl (EC [2] [0, 1, 2] rfl (cP b rb bx 96 ((goC ak Value.string unT (.R r bad) ([.string .empty, .string .empty, .bool false, .int .i64 0, .int .i64 0, .int .i64 0] : List Value) [0, 1]).2.set 2 (.bool (bK.one (.R r_0 b_0) false).2)) p v r_1 b_1 (by omega) ⟨v2_10, 3, [3, 4, 5]⟩ (aH 0 (by decide) rfl (aH 0 (by decide) rfl (aH 0 (by decide) rfl bz)))) ?_)
 rintro _ _ _ ⟨rfl, r_2, b_2, hq_2, rfl⟩; have hl_2 := cN (fun _ _ _ => rfl) _ _ _ _ (by omega) hq_2
 refine bST rfl ?_
 refine BN (FZ0 [0, 1, 2] Tryz.results70 ?_)
 have k_0 : (ak.one (ak.one (.R r bad) ak.zero).1 ak.zero).1 = .R r_0 b_0 := hq_0
 have k_1 : (bK.one (.R r_0 b_0) bK.zero).1 = .R r_1 b_1 := hq_1
 have k_2 : (ai.one (ai.one (ai.one (.R r_1 b_1) ai.zero).1 ai.zero).1 ai.zero).1 = .R r_2 b_2 := hq_2
 refine ⟨⟨_, _, _, _, _, _⟩, r_2, b_2, ?_, rfl, rfl⟩
 unfold ed
 simp only [ec, dK]
 rw [k_0, k_1, k_2]
 all_goals rfl
theorem pH (b rb bc bx : Nat) (p v : Value) (r : List UInt8) (bad : Bool) (hr : r.length ≤ 1000000) :
   Con Tryz.prog 72 [.pointer (some ⟨bx, 0, none⟩), .pointer (some ⟨bc, 0, none⟩)] [atC bc b] [bO b p v (.pointer (some ⟨rb, 0, none⟩)), rdB rb r bad, Box bx 94 [.string .empty, .string .empty, .int .i64 0, .bool false, .bool false]]
     fun _ ps hp' => ∃ (x : bY) (r' : List UInt8) (bad' : Bool), ef.one (.R r bad) ef.zero = (.R r' bad', eu x) ∧ ps = [] ∧ hp' = [bO b p v (.pointer (some ⟨rb, 0, none⟩)), rdB rb r' bad', Box bx 94 x.vs] := by
 refine EN2 Tryz.func72 rfl (aj (DR [8] 9 (VD 0 0 tk105 0 rfl rfl rfl rfl rfl (VM 1 rfl rfl (VN 2 rfl rfl rfl (VO 3 0 rfl rfl rfl (VM 4 rfl rfl (VN 5 rfl rfl rfl (VO 6 1 rfl rfl rfl (VB (zs := [.pointer none]) 7 rfl el227 rfl rfl rfl rfl (.more rfl (.v rfl .nil) (.more rfl (.v rfl .nil) .nil)) rfl rfl (fun v0_7 => (VE 8 rfl rfl (EC [1] [0, 1, 2] rfl (dL b rb bx 94 ([.string .empty, .string .empty, .int .i64 0, .bool false, .bool false] : List Value) p v r bad (by omega) ⟨v0_7, 2, [0, 1]⟩ (aH ByteArray.empty (by decide) rfl (aH ByteArray.empty (by decide) rfl bz))) ?_)))))))))))))
 rintro _ _ _ ⟨rfl, r_0, b_0, hq_0, rfl⟩; have hl_0 := cN (fun _ _ _ => rfl) _ _ _ _ (by omega) hq_0
 refine bST rfl ?_
 refine BN (an (aj (DR [5] 6 (VD 0 0 tk105 1 rfl rfl rfl rfl rfl (VM 1 rfl rfl (VN 2 rfl rfl rfl (VO 3 2 rfl rfl rfl (VB (zs := [.pointer none]) 4 rfl el226 rfl rfl rfl rfl (.more rfl (.v rfl .nil) .nil) rfl rfl (fun v1_4 => (VE 5 rfl rfl (EC [2] [0, 1, 2] rfl (cP b rb bx 94 (goC ak Value.string unT (.R r bad) ([.string .empty, .string .empty, .int .i64 0, .bool false, .bool false] : List Value) [0, 1]).2 p v r_0 b_0 (by omega) ⟨v1_4, 1, [2]⟩ (aH 0 (by decide) rfl bz)) ?_)))))))))))
 rintro _ _ _ ⟨rfl, r_1, b_1, hq_1, rfl⟩; have hl_1 := cN (fun _ _ _ => rfl) _ _ _ _ (by omega) hq_1
 refine bST rfl ?_
 refine BN (an (aj (DR [4] 5 (VD 0 0 tk105 2 rfl rfl rfl rfl rfl (VM 1 rfl rfl (VN 2 rfl rfl rfl (VO 3 3 rfl rfl rfl (VE 4 rfl rfl (EC [] [0, 1, 2] rfl (kY false b rb bx 94 (goC ai (fun z : Int => Value.int .i64 z) unI (.R r_0 b_0) (goC ak Value.string unT (.R r bad) ([.string .empty, .string .empty, .int .i64 0, .bool false, .bool false] : List Value) [0, 1]).2 [2]).2 3 rfl p v r_1 b_1 (by omega)) ?_)))))))))
 rintro _ _ _ ⟨rfl, r_2, b_2, hq_2, rfl⟩; have hl_2 := lq (by omega) hq_2
 refine bST rfl ?_
 refine BN (an (DR [4] 5 (VD 0 0 tk105 2 rfl rfl rfl rfl rfl (VM 1 rfl rfl (VN 2 rfl rfl rfl (VO 3 4 rfl rfl rfl (VE 4 rfl rfl (EC [] [0, 1, 2] rfl (kY false b rb bx 94 ((goC ai (fun z : Int => Value.int .i64 z) unI (.R r_0 b_0) (goC ak Value.string unT (.R r bad) ([.string .empty, .string .empty, .int .i64 0, .bool false, .bool false] : List Value) [0, 1]).2 [2]).2.set 3 (.bool (bK.one (.R r_1 b_1) false).2)) 4 rfl p v r_2 b_2 (by omega)) ?_))))))))
 rintro _ _ _ ⟨rfl, r_3, b_3, hq_3, rfl⟩; have hl_3 := lq (by omega) hq_3
 refine bST rfl ?_
 refine BN (FZ0 [0, 1, 2] Tryz.results72 ?_)
 have k_0 : (ak.one (ak.one (.R r bad) ak.zero).1 ak.zero).1 = .R r_0 b_0 := hq_0
 have k_1 : (ai.one (.R r_0 b_0) ai.zero).1 = .R r_1 b_1 := hq_1
 have k_2 : (bK.one (.R r_1 b_1) bK.zero).1 = .R r_2 b_2 := hq_2
 have k_3 : (bK.one (.R r_2 b_2) bK.zero).1 = .R r_3 b_3 := hq_3
 refine ⟨⟨_, _, _, _, _⟩, r_3, b_3, ?_, rfl, rfl⟩
 unfold ef
 simp only [ec, dK]
 rw [k_0, k_1, k_2, k_3]
 all_goals rfl
theorem uT (b rb bc bx : Nat) (p v : Value) (r : List UInt8) (bad : Bool) (hr : r.length ≤ 1000000) :
   Con Tryz.prog 75 [.pointer (some ⟨bx, 0, none⟩), .pointer (some ⟨bc, 0, none⟩)] [atC bc b] [bO b p v (.pointer (some ⟨rb, 0, none⟩)), rdB rb r bad, Box bx 55 [.int .i64 0, .int .i64 0, .int .i64 0, .int .i64 0]]
     fun _ ps hp' => ∃ (x : fm) (r' : List UInt8) (bad' : Bool), lC.one (.R r bad) lC.zero = (.R r' bad', jn x) ∧ ps = [] ∧ hp' = [bO b p v (.pointer (some ⟨rb, 0, none⟩)), rdB rb r' bad', Box bx 55 x.vs] := by
 refine EN2 Tryz.func75 rfl (DR [14] 15 (VD 0 0 tk105 0 rfl rfl rfl rfl rfl (VM 1 rfl rfl (VN 2 rfl rfl rfl (VO 3 0 rfl rfl rfl (VM 4 rfl rfl (VN 5 rfl rfl rfl (VO 6 1 rfl rfl rfl (VM 7 rfl rfl (VN 8 rfl rfl rfl (VO 9 2 rfl rfl rfl (VM 10 rfl rfl (VN 11 rfl rfl rfl (VO 12 3 rfl rfl rfl ?_))))))))))))))
 refine VB (zs := [.pointer none]) 13 rfl el226 rfl rfl rfl rfl (.more rfl (.v rfl .nil) (.more rfl (.v rfl .nil) (.more rfl (.v rfl .nil) (.more rfl (.v rfl .nil) .nil)))) rfl rfl (fun v0_13 => (VE 14 rfl rfl (EC [1] [0, 1, 2] rfl (cP b rb bx 55 ([.int .i64 0, .int .i64 0, .int .i64 0, .int .i64 0] : List Value) p v r bad (by omega) ⟨v0_13, 4, [0, 1, 2, 3]⟩ (aH 0 (by decide) rfl (aH 0 (by decide) rfl (aH 0 (by decide) rfl (aH 0 (by decide) rfl bz))))) ?_)))
 rintro _ _ _ ⟨rfl, r_0, b_0, hq_0, rfl⟩; have hl_0 := cN (fun _ _ _ => rfl) _ _ _ _ (by omega) hq_0
 refine bST rfl ?_
 refine BN (FZ0 [0, 1, 2] Tryz.results75 ?_)
 have k_0 : (ai.one (ai.one (ai.one (ai.one (.R r bad) ai.zero).1 ai.zero).1 ai.zero).1 ai.zero).1 = .R r_0 b_0 := hq_0
 refine ⟨⟨_, _, _, _⟩, r_0, b_0, ?_, rfl, rfl⟩
 unfold lC
 simp only [ec, dK]
 rw [k_0]
 all_goals rfl
theorem qZ (b rb bc bx : Nat) (p v : Value) (r : List UInt8) (bad : Bool) (hr : r.length ≤ 1000000) :
   Con Tryz.prog 83 [.pointer (some ⟨bx, 0, none⟩), .pointer (some ⟨bc, 0, none⟩)] [atC bc b] [bO b p v (.pointer (some ⟨rb, 0, none⟩)), rdB rb r bad, Box bx 145 [.int .i64 0, .int .i64 0, .int .i64 0]]
     fun _ ps hp' => ∃ (x : dD) (r' : List UInt8) (bad' : Bool), eX.one (.R r bad) eX.zero = (.R r' bad', fa x) ∧ ps = [] ∧ hp' = [bO b p v (.pointer (some ⟨rb, 0, none⟩)), rdB rb r' bad', Box bx 145 x.vs] := by
 refine EN2 Tryz.func83 rfl (DR [11] 12 (VD 0 0 tk105 0 rfl rfl rfl rfl rfl (VM 1 rfl rfl (VN 2 rfl rfl rfl (VO 3 0 rfl rfl rfl (VM 4 rfl rfl (VN 5 rfl rfl rfl (VO 6 1 rfl rfl rfl (VM 7 rfl rfl (VN 8 rfl rfl rfl (VO 9 2 rfl rfl rfl (VB (zs := [.pointer none]) 10 rfl el226 rfl rfl rfl rfl (.more rfl (.v rfl .nil) (.more rfl (.v rfl .nil) (.more rfl (.v rfl .nil) .nil))) rfl rfl (fun v0_10 => (VE 11 rfl rfl (EC [1] [0, 1, 2] rfl (cP b rb bx 145 ([.int .i64 0, .int .i64 0, .int .i64 0] : List Value) p v r bad (by omega) ⟨v0_10, 3, [0, 1, 2]⟩ (aH 0 (by decide) rfl (aH 0 (by decide) rfl (aH 0 (by decide) rfl bz)))) ?_)))))))))))))))
 rintro _ _ _ ⟨rfl, r_0, b_0, hq_0, rfl⟩; have hl_0 := cN (fun _ _ _ => rfl) _ _ _ _ (by omega) hq_0
 refine bST rfl ?_
 refine BN (FZ0 [0, 1, 2] Tryz.results83 ?_)
 have k_0 : (ai.one (ai.one (ai.one (.R r bad) ai.zero).1 ai.zero).1 ai.zero).1 = .R r_0 b_0 := hq_0
 refine ⟨⟨_, _, _⟩, r_0, b_0, ?_, rfl, rfl⟩
 unfold eX
 simp only [ec, dK]
 rw [k_0]
 all_goals rfl
theorem sZ (b rb bc bx : Nat) (p v : Value) (r : List UInt8) (bad : Bool) (hr : r.length ≤ 1000000) :
   Con Tryz.prog 152 [.pointer (some ⟨bx, 0, none⟩), .pointer (some ⟨bc, 0, none⟩)] [atC bc b] [bO b p v (.pointer (some ⟨rb, 0, none⟩)), rdB rb r bad, Box bx 157 [.string .empty, .int .i64 0, .int .i64 0, .int .i64 0]]
     fun _ ps hp' => ∃ (x : dA) (r' : List UInt8) (bad' : Bool), gi.one (.R r bad) gi.zero = (.R r' bad', ga x) ∧ ps = [] ∧ hp' = [bO b p v (.pointer (some ⟨rb, 0, none⟩)), rdB rb r' bad', Box bx 157 x.vs] := by
 refine EN2 Tryz.func152 rfl (aj (DR [5] 6 (VD 0 0 tk105 0 rfl rfl rfl rfl rfl (VM 1 rfl rfl (VN 2 rfl rfl rfl (VO 3 0 rfl rfl rfl (VB (zs := [.pointer none]) 4 rfl el227 rfl rfl rfl rfl (.more rfl (.v rfl .nil) .nil) rfl rfl (fun v0_4 => (VE 5 rfl rfl (EC [1] [0, 1, 2] rfl (dL b rb bx 157 ([.string .empty, .int .i64 0, .int .i64 0, .int .i64 0] : List Value) p v r bad (by omega) ⟨v0_4, 1, [0]⟩ (aH ByteArray.empty (by decide) rfl bz)) ?_))))))))))
 rintro _ _ _ ⟨rfl, r_0, b_0, hq_0, rfl⟩; have hl_0 := cN (fun _ _ _ => rfl) _ _ _ _ (by omega) hq_0
 refine bST rfl ?_
 refine BN (an (DR [11] 12 (VD 0 0 tk105 1 rfl rfl rfl rfl rfl (VM 1 rfl rfl (VN 2 rfl rfl rfl (VO 3 1 rfl rfl rfl (VM 4 rfl rfl (VN 5 rfl rfl rfl (VO 6 2 rfl rfl rfl (VM 7 rfl rfl (VN 8 rfl rfl rfl (VO 9 3 rfl rfl rfl (VB (zs := [.pointer none]) 10 rfl el226 rfl rfl rfl rfl (.more rfl (.v rfl .nil) (.more rfl (.v rfl .nil) (.more rfl (.v rfl .nil) .nil))) rfl rfl (fun v1_10 => ?_))))))))))))))
 refine VE 11 rfl rfl (EC [2] [0, 1, 2] rfl (cP b rb bx 157 (goC ak Value.string unT (.R r bad) ([.string .empty, .int .i64 0, .int .i64 0, .int .i64 0] : List Value) [0]).2 p v r_0 b_0 (by omega) ⟨v1_10, 3, [1, 2, 3]⟩ (aH 0 (by decide) rfl (aH 0 (by decide) rfl (aH 0 (by decide) rfl bz)))) ?_)
 rintro _ _ _ ⟨rfl, r_1, b_1, hq_1, rfl⟩; have hl_1 := cN (fun _ _ _ => rfl) _ _ _ _ (by omega) hq_1
 refine bST rfl ?_
 refine BN (FZ0 [0, 1, 2] Tryz.results152 ?_)
 have k_0 : (ak.one (.R r bad) ak.zero).1 = .R r_0 b_0 := hq_0
 have k_1 : (ai.one (ai.one (ai.one (.R r_0 b_0) ai.zero).1 ai.zero).1 ai.zero).1 = .R r_1 b_1 := hq_1
 refine ⟨⟨_, _, _, _⟩, r_1, b_1, ?_, rfl, rfl⟩
 unfold gi
 simp only [ec, dK]
 rw [k_0, k_1]
 all_goals rfl
theorem s7 (b rb bc bx : Nat) (p v : Value) (r : List UInt8) (bad : Bool) (hr : r.length ≤ 1000000) :
   Con Tryz.prog 154 [.pointer (some ⟨bx, 0, none⟩), .pointer (some ⟨bc, 0, none⟩)] [atC bc b] [bO b p v (.pointer (some ⟨rb, 0, none⟩)), rdB rb r bad, Box bx 159 [.int .i64 0, .int .i64 0, .string .empty, .int .i64 0]]
     fun _ ps hp' => ∃ (x : du) (r' : List UInt8) (bad' : Bool), fS.one (.R r bad) fS.zero = (.R r' bad', gh x) ∧ ps = [] ∧ hp' = [bO b p v (.pointer (some ⟨rb, 0, none⟩)), rdB rb r' bad', Box bx 159 x.vs] := by
 refine EN2 Tryz.func154 rfl (aj (DR [8] 9 (VD 0 0 tk105 0 rfl rfl rfl rfl rfl (VM 1 rfl rfl (VN 2 rfl rfl rfl (VO 3 0 rfl rfl rfl (VM 4 rfl rfl (VN 5 rfl rfl rfl (VO 6 1 rfl rfl rfl (VB (zs := [.pointer none]) 7 rfl el226 rfl rfl rfl rfl (.more rfl (.v rfl .nil) (.more rfl (.v rfl .nil) .nil)) rfl rfl (fun v0_7 => (VE 8 rfl rfl (EC [1] [0, 1, 2] rfl (cP b rb bx 159 ([.int .i64 0, .int .i64 0, .string .empty, .int .i64 0] : List Value) p v r bad (by omega) ⟨v0_7, 2, [0, 1]⟩ (aH 0 (by decide) rfl (aH 0 (by decide) rfl bz))) ?_)))))))))))))
 rintro _ _ _ ⟨rfl, r_0, b_0, hq_0, rfl⟩; have hl_0 := cN (fun _ _ _ => rfl) _ _ _ _ (by omega) hq_0
 refine bST rfl ?_
 refine BN (an (aj (DR [5] 6 (VD 0 0 tk105 1 rfl rfl rfl rfl rfl (VM 1 rfl rfl (VN 2 rfl rfl rfl (VO 3 2 rfl rfl rfl (VB (zs := [.pointer none]) 4 rfl el227 rfl rfl rfl rfl (.more rfl (.v rfl .nil) .nil) rfl rfl (fun v1_4 => (VE 5 rfl rfl (EC [2] [0, 1, 2] rfl (dL b rb bx 159 (goC ai (fun z : Int => Value.int .i64 z) unI (.R r bad) ([.int .i64 0, .int .i64 0, .string .empty, .int .i64 0] : List Value) [0, 1]).2 p v r_0 b_0 (by omega) ⟨v1_4, 1, [2]⟩ (aH ByteArray.empty (by decide) rfl bz)) ?_)))))))))))
 rintro _ _ _ ⟨rfl, r_1, b_1, hq_1, rfl⟩; have hl_1 := cN (fun _ _ _ => rfl) _ _ _ _ (by omega) hq_1
 refine bST rfl ?_
 refine BN (an (DR [5] 6 (VD 0 0 tk105 2 rfl rfl rfl rfl rfl (VM 1 rfl rfl (VN 2 rfl rfl rfl (VO 3 3 rfl rfl rfl (VB (zs := [.pointer none]) 4 rfl el226 rfl rfl rfl rfl (.more rfl (.v rfl .nil) .nil) rfl rfl (fun v2_4 => (VE 5 rfl rfl (EC [3] [0, 1, 2] rfl (cP b rb bx 159 (goC ak Value.string unT (.R r_0 b_0) (goC ai (fun z : Int => Value.int .i64 z) unI (.R r bad) ([.int .i64 0, .int .i64 0, .string .empty, .int .i64 0] : List Value) [0, 1]).2 [2]).2 p v r_1 b_1 (by omega) ⟨v2_4, 1, [3]⟩ (aH 0 (by decide) rfl bz)) ?_))))))))))
 rintro _ _ _ ⟨rfl, r_2, b_2, hq_2, rfl⟩; have hl_2 := cN (fun _ _ _ => rfl) _ _ _ _ (by omega) hq_2
 refine bST rfl ?_
 refine BN (FZ0 [0, 1, 2] Tryz.results154 ?_)
 have k_0 : (ai.one (ai.one (.R r bad) ai.zero).1 ai.zero).1 = .R r_0 b_0 := hq_0
 have k_1 : (ak.one (.R r_0 b_0) ak.zero).1 = .R r_1 b_1 := hq_1
 have k_2 : (ai.one (.R r_1 b_1) ai.zero).1 = .R r_2 b_2 := hq_2
 refine ⟨⟨_, _, _, _⟩, r_2, b_2, ?_, rfl, rfl⟩
 unfold fS
 simp only [ec, dK]
 rw [k_0, k_1, k_2]
 all_goals rfl
theorem sD (b rb bc bx : Nat) (p v : Value) (r : List UInt8) (bad : Bool) (hr : r.length ≤ 1000000) :
   Con Tryz.prog 156 [.pointer (some ⟨bx, 0, none⟩), .pointer (some ⟨bc, 0, none⟩)] [atC bc b] [bO b p v (.pointer (some ⟨rb, 0, none⟩)), rdB rb r bad, Box bx 161 [.int .i64 0, .int .i64 0]]
     fun _ ps hp' => ∃ (x : bE) (r' : List UInt8) (bad' : Bool), gM.one (.R r bad) gM.zero = (.R r' bad', gz x) ∧ ps = [] ∧ hp' = [bO b p v (.pointer (some ⟨rb, 0, none⟩)), rdB rb r' bad', Box bx 161 x.vs] := by
 refine EN2 Tryz.func156 rfl (DR [8] 9 (VD 0 0 tk105 0 rfl rfl rfl rfl rfl (VM 1 rfl rfl (VN 2 rfl rfl rfl (VO 3 0 rfl rfl rfl (VM 4 rfl rfl (VN 5 rfl rfl rfl (VO 6 1 rfl rfl rfl (VB (zs := [.pointer none]) 7 rfl el226 rfl rfl rfl rfl (.more rfl (.v rfl .nil) (.more rfl (.v rfl .nil) .nil)) rfl rfl (fun v0_7 => (VE 8 rfl rfl (EC [1] [0, 1, 2] rfl (cP b rb bx 161 ([.int .i64 0, .int .i64 0] : List Value) p v r bad (by omega) ⟨v0_7, 2, [0, 1]⟩ (aH 0 (by decide) rfl (aH 0 (by decide) rfl bz))) ?_))))))))))))
 rintro _ _ _ ⟨rfl, r_0, b_0, hq_0, rfl⟩; have hl_0 := cN (fun _ _ _ => rfl) _ _ _ _ (by omega) hq_0
 refine bST rfl ?_
 refine BN (FZ0 [0, 1, 2] Tryz.results156 ?_)
 have k_0 : (ai.one (ai.one (.R r bad) ai.zero).1 ai.zero).1 = .R r_0 b_0 := hq_0
 refine ⟨⟨_, _⟩, r_0, b_0, ?_, rfl, rfl⟩
 unfold gM
 simp only [ec, dK]
 rw [k_0]
 all_goals rfl
theorem pS (b rb bc bx : Nat) (p v : Value) (r : List UInt8) (bad : Bool) (hr : r.length ≤ 1000000) :
   Con Tryz.prog 158 [.pointer (some ⟨bx, 0, none⟩), .pointer (some ⟨bc, 0, none⟩)] [atC bc b] [bO b p v (.pointer (some ⟨rb, 0, none⟩)), rdB rb r bad, Box bx 192 [.int .i64 0, .int .i64 0, .int .i64 0, .string .empty, .string .empty, .int .i64 0]]
     fun _ ps hp' => ∃ (x : b8) (r' : List UInt8) (bad' : Bool), dU.one (.R r bad) dU.zero = (.R r' bad', ep x) ∧ ps = [] ∧ hp' = [bO b p v (.pointer (some ⟨rb, 0, none⟩)), rdB rb r' bad', Box bx 192 x.vs] := by
 refine EN2 Tryz.func158 rfl (aj (DR [11] 12 (VD 0 0 tk105 0 rfl rfl rfl rfl rfl (VM 1 rfl rfl (VN 2 rfl rfl rfl (VO 3 0 rfl rfl rfl (VM 4 rfl rfl (VN 5 rfl rfl rfl (VO 6 1 rfl rfl rfl (VM 7 rfl rfl (VN 8 rfl rfl rfl (VO 9 2 rfl rfl rfl (VB (zs := [.pointer none]) 10 rfl el226 rfl rfl rfl rfl (.more rfl (.v rfl .nil) (.more rfl (.v rfl .nil) (.more rfl (.v rfl .nil) .nil))) rfl rfl (fun v0_10 => ?_))))))))))))))
 refine VE 11 rfl rfl (EC [1] [0, 1, 2] rfl (cP b rb bx 192 ([.int .i64 0, .int .i64 0, .int .i64 0, .string .empty, .string .empty, .int .i64 0] : List Value) p v r bad (by omega) ⟨v0_10, 3, [0, 1, 2]⟩ (aH 0 (by decide) rfl (aH 0 (by decide) rfl (aH 0 (by decide) rfl bz)))) ?_)
 rintro _ _ _ ⟨rfl, r_0, b_0, hq_0, rfl⟩; have hl_0 := cN (fun _ _ _ => rfl) _ _ _ _ (by omega) hq_0
 refine bST rfl ?_
 refine BN (an (aj (DR [8] 9 (VD 0 0 tk105 1 rfl rfl rfl rfl rfl (VM 1 rfl rfl (VN 2 rfl rfl rfl (VO 3 3 rfl rfl rfl (VM 4 rfl rfl (VN 5 rfl rfl rfl (VO 6 4 rfl rfl rfl (VB (zs := [.pointer none]) 7 rfl el227 rfl rfl rfl rfl (.more rfl (.v rfl .nil) (.more rfl (.v rfl .nil) .nil)) rfl rfl (fun v1_7 => (VE 8 rfl rfl (EC [2] [0, 1, 2] rfl (dL b rb bx 192 (goC ai (fun z : Int => Value.int .i64 z) unI (.R r bad) ([.int .i64 0, .int .i64 0, .int .i64 0, .string .empty, .string .empty, .int .i64 0] : List Value) [0, 1, 2]).2 p v r_0 b_0 (by omega) ⟨v1_7, 2, [3, 4]⟩ (aH ByteArray.empty (by decide) rfl (aH ByteArray.empty (by decide) rfl bz))) ?_))))))))))))))
 rintro _ _ _ ⟨rfl, r_1, b_1, hq_1, rfl⟩; have hl_1 := cN (fun _ _ _ => rfl) _ _ _ _ (by omega) hq_1
 refine bST rfl ?_
 refine BN (an (DR [5] 6 (VD 0 0 tk105 2 rfl rfl rfl rfl rfl (VM 1 rfl rfl (VN 2 rfl rfl rfl (VO 3 5 rfl rfl rfl (VB (zs := [.pointer none]) 4 rfl el226 rfl rfl rfl rfl (.more rfl (.v rfl .nil) .nil) rfl rfl (fun v2_4 => (VE 5 rfl rfl (EC [3] [0, 1, 2] rfl (cP b rb bx 192 (goC ak Value.string unT (.R r_0 b_0) (goC ai (fun z : Int => Value.int .i64 z) unI (.R r bad) ([.int .i64 0, .int .i64 0, .int .i64 0, .string .empty, .string .empty, .int .i64 0] : List Value) [0, 1, 2]).2 [3, 4]).2 p v r_1 b_1 (by omega) ⟨v2_4, 1, [5]⟩ (aH 0 (by decide) rfl bz)) ?_))))))))))
 rintro _ _ _ ⟨rfl, r_2, b_2, hq_2, rfl⟩; have hl_2 := cN (fun _ _ _ => rfl) _ _ _ _ (by omega) hq_2
 refine bST rfl ?_
 refine BN (FZ0 [0, 1, 2] Tryz.results158 ?_)
 have k_0 : (ai.one (ai.one (ai.one (.R r bad) ai.zero).1 ai.zero).1 ai.zero).1 = .R r_0 b_0 := hq_0
 have k_1 : (ak.one (ak.one (.R r_0 b_0) ak.zero).1 ak.zero).1 = .R r_1 b_1 := hq_1
 have k_2 : (ai.one (.R r_1 b_1) ai.zero).1 = .R r_2 b_2 := hq_2
 refine ⟨⟨_, _, _, _, _, _⟩, r_2, b_2, ?_, rfl, rfl⟩
 unfold dU
 simp only [ec, dK]
 rw [k_0, k_1, k_2]
 all_goals rfl
theorem vC (b rb bc bx : Nat) (p v : Value) (r : List UInt8) (bad : Bool) (hr : r.length ≤ 1000000) :
   Con Tryz.prog 160 [.pointer (some ⟨bx, 0, none⟩), .pointer (some ⟨bc, 0, none⟩)] [atC bc b] [bO b p v (.pointer (some ⟨rb, 0, none⟩)), rdB rb r bad, Box bx 198 [.int .i64 0, .int .i64 0, .int .i64 0, .string .empty, .int .i64 0, .int .i64 0]]
     fun _ ps hp' => ∃ (x : eh) (r' : List UInt8) (bad' : Bool), jO.one (.R r bad) jO.zero = (.R r' bad', iS x) ∧ ps = [] ∧ hp' = [bO b p v (.pointer (some ⟨rb, 0, none⟩)), rdB rb r' bad', Box bx 198 x.vs] := by
 refine EN2 Tryz.func160 rfl (aj (DR [11] 12 (VD 0 0 tk105 0 rfl rfl rfl rfl rfl (VM 1 rfl rfl (VN 2 rfl rfl rfl (VO 3 0 rfl rfl rfl (VM 4 rfl rfl (VN 5 rfl rfl rfl (VO 6 1 rfl rfl rfl (VM 7 rfl rfl (VN 8 rfl rfl rfl (VO 9 2 rfl rfl rfl (VB (zs := [.pointer none]) 10 rfl el226 rfl rfl rfl rfl (.more rfl (.v rfl .nil) (.more rfl (.v rfl .nil) (.more rfl (.v rfl .nil) .nil))) rfl rfl (fun v0_10 => ?_))))))))))))))
 refine VE 11 rfl rfl (EC [1] [0, 1, 2] rfl (cP b rb bx 198 ([.int .i64 0, .int .i64 0, .int .i64 0, .string .empty, .int .i64 0, .int .i64 0] : List Value) p v r bad (by omega) ⟨v0_10, 3, [0, 1, 2]⟩ (aH 0 (by decide) rfl (aH 0 (by decide) rfl (aH 0 (by decide) rfl bz)))) ?_)
 rintro _ _ _ ⟨rfl, r_0, b_0, hq_0, rfl⟩; have hl_0 := cN (fun _ _ _ => rfl) _ _ _ _ (by omega) hq_0
 refine bST rfl ?_
 refine BN (an (aj (DR [5] 6 (VD 0 0 tk105 1 rfl rfl rfl rfl rfl (VM 1 rfl rfl (VN 2 rfl rfl rfl (VO 3 3 rfl rfl rfl (VB (zs := [.pointer none]) 4 rfl el227 rfl rfl rfl rfl (.more rfl (.v rfl .nil) .nil) rfl rfl (fun v1_4 => (VE 5 rfl rfl (EC [2] [0, 1, 2] rfl (dL b rb bx 198 (goC ai (fun z : Int => Value.int .i64 z) unI (.R r bad) ([.int .i64 0, .int .i64 0, .int .i64 0, .string .empty, .int .i64 0, .int .i64 0] : List Value) [0, 1, 2]).2 p v r_0 b_0 (by omega) ⟨v1_4, 1, [3]⟩ (aH ByteArray.empty (by decide) rfl bz)) ?_)))))))))))
 rintro _ _ _ ⟨rfl, r_1, b_1, hq_1, rfl⟩; have hl_1 := cN (fun _ _ _ => rfl) _ _ _ _ (by omega) hq_1
 refine bST rfl ?_
 refine BN (an (DR [8] 9 (VD 0 0 tk105 2 rfl rfl rfl rfl rfl (VM 1 rfl rfl (VN 2 rfl rfl rfl (VO 3 4 rfl rfl rfl (VM 4 rfl rfl (VN 5 rfl rfl rfl (VO 6 5 rfl rfl rfl (VB (zs := [.pointer none]) 7 rfl el226 rfl rfl rfl rfl (.more rfl (.v rfl .nil) (.more rfl (.v rfl .nil) .nil)) rfl rfl (fun v2_7 => (VE 8 rfl rfl (EC [3] [0, 1, 2] rfl (cP b rb bx 198 (goC ak Value.string unT (.R r_0 b_0) (goC ai (fun z : Int => Value.int .i64 z) unI (.R r bad) ([.int .i64 0, .int .i64 0, .int .i64 0, .string .empty, .int .i64 0, .int .i64 0] : List Value) [0, 1, 2]).2 [3]).2 p v r_1 b_1 (by omega) ⟨v2_7, 2, [4, 5]⟩ (aH 0 (by decide) rfl (aH 0 (by decide) rfl bz))) ?_)))))))))))))
 rintro _ _ _ ⟨rfl, r_2, b_2, hq_2, rfl⟩; have hl_2 := cN (fun _ _ _ => rfl) _ _ _ _ (by omega) hq_2
 refine bST rfl ?_
 refine BN (FZ0 [0, 1, 2] Tryz.results160 ?_)
 have k_0 : (ai.one (ai.one (ai.one (.R r bad) ai.zero).1 ai.zero).1 ai.zero).1 = .R r_0 b_0 := hq_0
 have k_1 : (ak.one (.R r_0 b_0) ak.zero).1 = .R r_1 b_1 := hq_1
 have k_2 : (ai.one (ai.one (.R r_1 b_1) ai.zero).1 ai.zero).1 = .R r_2 b_2 := hq_2
 refine ⟨⟨_, _, _, _, _, _⟩, r_2, b_2, ?_, rfl, rfl⟩
 unfold jO
 simp only [ec, dK]
 rw [k_0, k_1, k_2]
 all_goals rfl
theorem q9 (b rb bc bx : Nat) (p v : Value) (r : List UInt8) (bad : Bool) (hr : r.length ≤ 1000000) :
   Con Tryz.prog 162 [.pointer (some ⟨bx, 0, none⟩), .pointer (some ⟨bc, 0, none⟩)] [atC bc b] [bO b p v (.pointer (some ⟨rb, 0, none⟩)), rdB rb r bad, Box bx 204 [.int .i64 0, .int .i64 0, .int .i64 0, .int .i64 0]]
     fun _ ps hp' => ∃ (x : cC) (r' : List UInt8) (bad' : Bool), fo.one (.R r bad) fo.zero = (.R r' bad', fw x) ∧ ps = [] ∧ hp' = [bO b p v (.pointer (some ⟨rb, 0, none⟩)), rdB rb r' bad', Box bx 204 x.vs] := by
 refine EN2 Tryz.func162 rfl (DR [14] 15 (VD 0 0 tk105 0 rfl rfl rfl rfl rfl (VM 1 rfl rfl (VN 2 rfl rfl rfl (VO 3 0 rfl rfl rfl (VM 4 rfl rfl (VN 5 rfl rfl rfl (VO 6 1 rfl rfl rfl (VM 7 rfl rfl (VN 8 rfl rfl rfl (VO 9 2 rfl rfl rfl (VM 10 rfl rfl (VN 11 rfl rfl rfl (VO 12 3 rfl rfl rfl ?_))))))))))))))
 refine VB (zs := [.pointer none]) 13 rfl el226 rfl rfl rfl rfl (.more rfl (.v rfl .nil) (.more rfl (.v rfl .nil) (.more rfl (.v rfl .nil) (.more rfl (.v rfl .nil) .nil)))) rfl rfl (fun v0_13 => (VE 14 rfl rfl (EC [1] [0, 1, 2] rfl (cP b rb bx 204 ([.int .i64 0, .int .i64 0, .int .i64 0, .int .i64 0] : List Value) p v r bad (by omega) ⟨v0_13, 4, [0, 1, 2, 3]⟩ (aH 0 (by decide) rfl (aH 0 (by decide) rfl (aH 0 (by decide) rfl (aH 0 (by decide) rfl bz))))) ?_)))
 rintro _ _ _ ⟨rfl, r_0, b_0, hq_0, rfl⟩; have hl_0 := cN (fun _ _ _ => rfl) _ _ _ _ (by omega) hq_0
 refine bST rfl ?_
 refine BN (FZ0 [0, 1, 2] Tryz.results162 ?_)
 have k_0 : (ai.one (ai.one (ai.one (ai.one (.R r bad) ai.zero).1 ai.zero).1 ai.zero).1 ai.zero).1 = .R r_0 b_0 := hq_0
 refine ⟨⟨_, _, _, _⟩, r_0, b_0, ?_, rfl, rfl⟩
 unfold fo
 simp only [ec, dK]
 rw [k_0]
 all_goals rfl
end Go.Proofs.YtahgkiicjohonaaGreat

namespace Go.Sy
open Go.RowKit Go.Lp
theorem Con.rdF {P : Program} {f : FuncId} {args : List Value} {ps : List Per} {l : List Res} {α : Type} {C : α → List UInt8 → Bool → Prop} {P1 P2 : α → List Per} {H : α → List UInt8 → Bool → List Res} (h : Con P f args ps l fun _ ps' hp' => ∃ (x : α) (r : List UInt8) (b : Bool), C x r b ∧ ps' = P1 x ∧ hp' = H x r b) (hE : ∀ x r b, C x r b → ∀ p ∈ P2 x, Ent (P1 x) p) : Con P f args ps l fun _ ps' hp' => ∃ (x : α) (r : List UInt8) (b : Bool), C x r b ∧ ps' = P2 x ∧ hp' = H x r b := fun w S fp hst =>
 (h w S fp hst).mono fun e w' ⟨v, ps', hp', S', fp', he, ⟨x, r, b, hc, h1, h2⟩, hst', hEv, hg⟩ => by
   subst h1
   exact ⟨v, P2 x, hp', S', fp', he, ⟨x, r, b, hc, rfl, h2⟩, ⟨fun p hp => hE x r b hc p hp w' S' hst'.per, hst'.res, hst'.lt, hst'.dj, hst'.slt⟩, hEv, hg⟩
theorem Ent.str {ps : List Per} {s : ByteArray} (h : s.size ≤ 4611686018427387904) : Ent ps (dY s) := fun _ _ _ => dY.of (Nat.le_trans h (by decide))
theorem Ent.tt {ps : List Per} : Ent ps (Fa True) := fun _ _ _ => trivial
end Go.Sy
namespace Go.Lv
theorem Cod.okR {α : Type} (A : Cod α) {r r' : List UInt8} {b b' : Bool} {x : α} (hr : r.length ≤ 1000000) (h : A.one (.R r b) A.zero = (.R r' b', x)) : A.ok x := by
 obtain ⟨_, _, _, _, h3, _⟩ := A.rd r b (by omega)
 rw [h] at h3; exact h3
end Go.Lv
namespace Go.Proofs.YtahgkiicjohonaaGreat
open Go.RowKit Go.Lp Go.Sy Go.Lv
open Go.Proofs.Tryz
attribute [local irreducible] aL aB awp aC fwp Quiet
theorem pj (b rb bc bx : Nat) (p v : Value) (r : List UInt8) (bad : Bool) (hr : r.length ≤ 1000000) :
   Con Tryz.prog 68 [.pointer (some ⟨bx, 0, none⟩), .pointer (some ⟨bc, 0, none⟩)] [atC bc b] [bO b p v (.pointer (some ⟨rb, 0, none⟩)), rdB rb r bad, Box bx 51 [.string .empty, .string .empty, .int .i64 0, .int .i64 0, .int .i64 0, .string .empty, .string .empty]]
     fun _ ps hp' => ∃ (x : bk) (r' : List UInt8) (bad' : Bool), ee.one (.R r bad) ee.zero = (.R r' bad', ej x) ∧ ps = [bk.ok x] ∧ hp' = [bO b p v (.pointer (some ⟨rb, 0, none⟩)), rdB rb r' bad', Box bx 51 x.vs] :=
 (ql b rb bc bx p v r bad hr).rdF fun x r' b' h p hp => by
   rw [List.mem_singleton.1 hp]
   have hk : ee.ok (ej x) := ee.okR hr h
   exact Ent.mk2 (Ent.str hk.1) (Ent.mk2 (Ent.str hk.2.1) (Ent.mk2 (Ent.str hk.2.2.2.2.2.1) (Ent.str hk.2.2.2.2.2.2)))
theorem pG (b rb bc bx : Nat) (p v : Value) (r : List UInt8) (bad : Bool) (hr : r.length ≤ 1000000) :
   Con Tryz.prog 70 [.pointer (some ⟨bx, 0, none⟩), .pointer (some ⟨bc, 0, none⟩)] [atC bc b] [bO b p v (.pointer (some ⟨rb, 0, none⟩)), rdB rb r bad, Box bx 96 [.string .empty, .string .empty, .bool false, .int .i64 0, .int .i64 0, .int .i64 0]]
     fun _ ps hp' => ∃ (x : bN) (r' : List UInt8) (bad' : Bool), ed.one (.R r bad) ed.zero = (.R r' bad', et x) ∧ ps = [bN.ok x] ∧ hp' = [bO b p v (.pointer (some ⟨rb, 0, none⟩)), rdB rb r' bad', Box bx 96 x.vs] :=
 (p8 b rb bc bx p v r bad hr).rdF fun x r' b' h p hp => by
   rw [List.mem_singleton.1 hp]
   have hk : ed.ok (et x) := ed.okR hr h
   exact Ent.mk2 (Ent.str hk.1) (Ent.str hk.2.1)
theorem py (b rb bc bx : Nat) (p v : Value) (r : List UInt8) (bad : Bool) (hr : r.length ≤ 1000000) :
   Con Tryz.prog 72 [.pointer (some ⟨bx, 0, none⟩), .pointer (some ⟨bc, 0, none⟩)] [atC bc b] [bO b p v (.pointer (some ⟨rb, 0, none⟩)), rdB rb r bad, Box bx 94 [.string .empty, .string .empty, .int .i64 0, .bool false, .bool false]]
     fun _ ps hp' => ∃ (x : bY) (r' : List UInt8) (bad' : Bool), ef.one (.R r bad) ef.zero = (.R r' bad', eu x) ∧ ps = [bY.ok x] ∧ hp' = [bO b p v (.pointer (some ⟨rb, 0, none⟩)), rdB rb r' bad', Box bx 94 x.vs] :=
 (pH b rb bc bx p v r bad hr).rdF fun x r' b' h p hp => by
   rw [List.mem_singleton.1 hp]
   have hk : ef.ok (eu x) := ef.okR hr h
   exact Ent.mk2 (Ent.str hk.1) (Ent.str hk.2.1)
theorem vf (b rb bc bx : Nat) (p v : Value) (r : List UInt8) (bad : Bool) (hr : r.length ≤ 1000000) :
   Con Tryz.prog 75 [.pointer (some ⟨bx, 0, none⟩), .pointer (some ⟨bc, 0, none⟩)] [atC bc b] [bO b p v (.pointer (some ⟨rb, 0, none⟩)), rdB rb r bad, Box bx 55 [.int .i64 0, .int .i64 0, .int .i64 0, .int .i64 0]]
     fun _ ps hp' => ∃ (x : fm) (r' : List UInt8) (bad' : Bool), lC.one (.R r bad) lC.zero = (.R r' bad', jn x) ∧ ps = [Fa True] ∧ hp' = [bO b p v (.pointer (some ⟨rb, 0, none⟩)), rdB rb r' bad', Box bx 55 x.vs] :=
 (uT b rb bc bx p v r bad hr).rdF fun x r' b' h p hp => by
   rw [List.mem_singleton.1 hp]
   exact Ent.tt
theorem qU (b rb bc bx : Nat) (p v : Value) (r : List UInt8) (bad : Bool) (hr : r.length ≤ 1000000) :
   Con Tryz.prog 83 [.pointer (some ⟨bx, 0, none⟩), .pointer (some ⟨bc, 0, none⟩)] [atC bc b] [bO b p v (.pointer (some ⟨rb, 0, none⟩)), rdB rb r bad, Box bx 145 [.int .i64 0, .int .i64 0, .int .i64 0]]
     fun _ ps hp' => ∃ (x : dD) (r' : List UInt8) (bad' : Bool), eX.one (.R r bad) eX.zero = (.R r' bad', fa x) ∧ ps = [Fa True] ∧ hp' = [bO b p v (.pointer (some ⟨rb, 0, none⟩)), rdB rb r' bad', Box bx 145 x.vs] :=
 (qZ b rb bc bx p v r bad hr).rdF fun x r' b' h p hp => by
   rw [List.mem_singleton.1 hp]
   exact Ent.tt
theorem sV (b rb bc bx : Nat) (p v : Value) (r : List UInt8) (bad : Bool) (hr : r.length ≤ 1000000) :
   Con Tryz.prog 152 [.pointer (some ⟨bx, 0, none⟩), .pointer (some ⟨bc, 0, none⟩)] [atC bc b] [bO b p v (.pointer (some ⟨rb, 0, none⟩)), rdB rb r bad, Box bx 157 [.string .empty, .int .i64 0, .int .i64 0, .int .i64 0]]
     fun _ ps hp' => ∃ (x : dA) (r' : List UInt8) (bad' : Bool), gi.one (.R r bad) gi.zero = (.R r' bad', ga x) ∧ ps = [dA.ok x] ∧ hp' = [bO b p v (.pointer (some ⟨rb, 0, none⟩)), rdB rb r' bad', Box bx 157 x.vs] :=
 (sZ b rb bc bx p v r bad hr).rdF fun x r' b' h p hp => by
   rw [List.mem_singleton.1 hp]
   have hk : gi.ok (ga x) := gi.okR hr h
   exact Ent.str hk.1
theorem tu (b rb bc bx : Nat) (p v : Value) (r : List UInt8) (bad : Bool) (hr : r.length ≤ 1000000) :
   Con Tryz.prog 154 [.pointer (some ⟨bx, 0, none⟩), .pointer (some ⟨bc, 0, none⟩)] [atC bc b] [bO b p v (.pointer (some ⟨rb, 0, none⟩)), rdB rb r bad, Box bx 159 [.int .i64 0, .int .i64 0, .string .empty, .int .i64 0]]
     fun _ ps hp' => ∃ (x : du) (r' : List UInt8) (bad' : Bool), fS.one (.R r bad) fS.zero = (.R r' bad', gh x) ∧ ps = [du.ok x] ∧ hp' = [bO b p v (.pointer (some ⟨rb, 0, none⟩)), rdB rb r' bad', Box bx 159 x.vs] :=
 (s7 b rb bc bx p v r bad hr).rdF fun x r' b' h p hp => by
   rw [List.mem_singleton.1 hp]
   have hk : fS.ok (gh x) := fS.okR hr h
   exact Ent.str hk.2.2.1
theorem sR (b rb bc bx : Nat) (p v : Value) (r : List UInt8) (bad : Bool) (hr : r.length ≤ 1000000) :
   Con Tryz.prog 156 [.pointer (some ⟨bx, 0, none⟩), .pointer (some ⟨bc, 0, none⟩)] [atC bc b] [bO b p v (.pointer (some ⟨rb, 0, none⟩)), rdB rb r bad, Box bx 161 [.int .i64 0, .int .i64 0]]
     fun _ ps hp' => ∃ (x : bE) (r' : List UInt8) (bad' : Bool), gM.one (.R r bad) gM.zero = (.R r' bad', gz x) ∧ ps = [Fa True] ∧ hp' = [bO b p v (.pointer (some ⟨rb, 0, none⟩)), rdB rb r' bad', Box bx 161 x.vs] :=
 (sD b rb bc bx p v r bad hr).rdF fun x r' b' h p hp => by
   rw [List.mem_singleton.1 hp]
   exact Ent.tt
theorem pz (b rb bc bx : Nat) (p v : Value) (r : List UInt8) (bad : Bool) (hr : r.length ≤ 1000000) :
   Con Tryz.prog 158 [.pointer (some ⟨bx, 0, none⟩), .pointer (some ⟨bc, 0, none⟩)] [atC bc b] [bO b p v (.pointer (some ⟨rb, 0, none⟩)), rdB rb r bad, Box bx 192 [.int .i64 0, .int .i64 0, .int .i64 0, .string .empty, .string .empty, .int .i64 0]]
     fun _ ps hp' => ∃ (x : b8) (r' : List UInt8) (bad' : Bool), dU.one (.R r bad) dU.zero = (.R r' bad', ep x) ∧ ps = [b8.ok x] ∧ hp' = [bO b p v (.pointer (some ⟨rb, 0, none⟩)), rdB rb r' bad', Box bx 192 x.vs] :=
 (pS b rb bc bx p v r bad hr).rdF fun x r' b' h p hp => by
   rw [List.mem_singleton.1 hp]
   have hk : dU.ok (ep x) := dU.okR hr h
   exact Ent.mk2 (Ent.str hk.2.2.2.1) (Ent.str hk.2.2.2.2.1)
theorem uU (b rb bc bx : Nat) (p v : Value) (r : List UInt8) (bad : Bool) (hr : r.length ≤ 1000000) :
   Con Tryz.prog 160 [.pointer (some ⟨bx, 0, none⟩), .pointer (some ⟨bc, 0, none⟩)] [atC bc b] [bO b p v (.pointer (some ⟨rb, 0, none⟩)), rdB rb r bad, Box bx 198 [.int .i64 0, .int .i64 0, .int .i64 0, .string .empty, .int .i64 0, .int .i64 0]]
     fun _ ps hp' => ∃ (x : eh) (r' : List UInt8) (bad' : Bool), jO.one (.R r bad) jO.zero = (.R r' bad', iS x) ∧ ps = [eh.ok x] ∧ hp' = [bO b p v (.pointer (some ⟨rb, 0, none⟩)), rdB rb r' bad', Box bx 198 x.vs] :=
 (vC b rb bc bx p v r bad hr).rdF fun x r' b' h p hp => by
   rw [List.mem_singleton.1 hp]
   have hk : jO.ok (iS x) := jO.okR hr h
   exact Ent.str hk.2.2.2.1
theorem q6 (b rb bc bx : Nat) (p v : Value) (r : List UInt8) (bad : Bool) (hr : r.length ≤ 1000000) :
   Con Tryz.prog 162 [.pointer (some ⟨bx, 0, none⟩), .pointer (some ⟨bc, 0, none⟩)] [atC bc b] [bO b p v (.pointer (some ⟨rb, 0, none⟩)), rdB rb r bad, Box bx 204 [.int .i64 0, .int .i64 0, .int .i64 0, .int .i64 0]]
     fun _ ps hp' => ∃ (x : cC) (r' : List UInt8) (bad' : Bool), fo.one (.R r bad) fo.zero = (.R r' bad', fw x) ∧ ps = [Fa True] ∧ hp' = [bO b p v (.pointer (some ⟨rb, 0, none⟩)), rdB rb r' bad', Box bx 204 x.vs] :=
 (q9 b rb bc bx p v r bad hr).rdF fun x r' b' h p hp => by
   rw [List.mem_singleton.1 hp]
   exact Ent.tt
theorem iX (b bc bx : Nat) (x : Int) (hx : Go.Lv.I64 x) (p v : Value) (hp : p = .pointer none ∨ p = .pointer (some ⟨b, 0, none⟩)) (out : List UInt8) (hl : (out ++ ai.enc x).length ≤ 1000000000) :
   Con Tryz.prog 62 [.pointer (some ⟨bx, 0, none⟩), .pointer (some ⟨bc, 0, none⟩)] [atC bc b] [bO b p v (.pointer none), aN v 5 1 (out.map cX), Box bx 3 [.int .i64 x]]
     fun _ ps hp' => ps = [] ∧ ∃ p' v', (p' = .pointer none ∨ p' = .pointer (some ⟨b, 0, none⟩)) ∧ hp' = [bO b p' v' (.pointer none), aN v' 5 1 ((out ++ ai.enc x).map cX), Box bx 3 [.int .i64 x]] := by
 have hall : out ++ bo ai unI [.int .i64 x] [0] = out ++ ai.enc x := by show out ++ (ai.enc x ++ []) = _; rw [List.append_nil]
 refine EN2 Tryz.func62 rfl (aa (UD 0 tk105 0 rfl rfl rfl rfl (aM rfl (LT rfl (WL (zs := [.pointer none]) el226 rfl rfl rfl (.more rfl (.v rfl .nil) .nil) rfl rfl (fun v0_2 => (aHN ?_)))))))
 refine er 3 rfl ?_
 refine LF rfl (EC [1] [0, 1, 2] rfl (cO b bx 3 [.int .i64 x] p v hp out ⟨v0_2, 1, [0]⟩ (aH x hx rfl bz) (by rw [hall]; exact hl)) ?_)
 rintro _ _ _ ⟨rfl, p1, v1, hp1, rfl⟩
 refine aST ?_
 refine bS (FZ0 [0, 1, 2] Tryz.results62 ?_)
 rw [← hall]; exact ⟨rfl, p1, v1, hp1, rfl⟩
theorem iN (b rb bc bx : Nat) (p v : Value) (r : List UInt8) (bad : Bool) (hr : r.length ≤ 1000000) :
   Con Tryz.prog 62 [.pointer (some ⟨bx, 0, none⟩), .pointer (some ⟨bc, 0, none⟩)] [atC bc b] [bO b p v (.pointer (some ⟨rb, 0, none⟩)), rdB rb r bad, Box bx 3 [.int .i64 0]]
     fun _ ps hp' => ∃ (x : Int) (r' : List UInt8) (bad' : Bool), ai.one (.R r bad) ai.zero = (.R r' bad', x) ∧ ps = [Fa True] ∧ hp' = [bO b p v (.pointer (some ⟨rb, 0, none⟩)), rdB rb r' bad', Box bx 3 [.int .i64 x]] := by
 have hE : ∀ (x : Int) (r' : List UInt8) (b' : Bool), ai.one (.R r bad) ai.zero = (.R r' b', x) → ∀ p ∈ [Fa True], Ent [] p := fun x r' b' h p hp => by
   rw [List.mem_singleton.1 hp]
   exact Ent.tt
 refine Con.rdF (P1 := fun _ => []) ?_ hE
 refine EN2 Tryz.func62 rfl (aa (UD 0 tk105 0 rfl rfl rfl rfl (aM rfl (LT rfl (WL (zs := [.pointer none]) el226 rfl rfl rfl (.more rfl (.v rfl .nil) .nil) rfl rfl (fun v0_2 => (aHN ?_)))))))
 refine er 3 rfl (LF rfl (EC [1] [0, 1, 2] rfl (cP b rb bx 3 [.int .i64 0] p v r bad (by omega) ⟨v0_2, 1, [0]⟩ (aH 0 (by decide) rfl bz)) ?_))
 rintro _ _ _ ⟨rfl, r1, b1, hq, rfl⟩
 refine aST ?_
 refine bS (FZ0 [0, 1, 2] Tryz.results62 ?_)
 have k : (ai.one (.R r bad) ai.zero).1 = .R r1 b1 := hq
 exact ⟨(ai.one (.R r bad) ai.zero).2, r1, b1, by rw [← k], rfl, rfl⟩
theorem mw (b bc bx : Nat) (x : ByteArray) (p v : Value) (hp : p = .pointer none ∨ p = .pointer (some ⟨b, 0, none⟩)) (out : List UInt8) (hl : (out ++ ak.enc x).length ≤ 1000000000) :
   Con Tryz.prog 64 [.pointer (some ⟨bx, 0, none⟩), .pointer (some ⟨bc, 0, none⟩)] [atC bc b] [bO b p v (.pointer none), aN v 5 1 (out.map cX), Box bx 9 [.string x]]
     fun _ ps hp' => ps = [] ∧ ∃ p' v', (p' = .pointer none ∨ p' = .pointer (some ⟨b, 0, none⟩)) ∧ hp' = [bO b p' v' (.pointer none), aN v' 5 1 ((out ++ ak.enc x).map cX), Box bx 9 [.string x]] := by
 have hall : out ++ bo ak unT [.string x] [0] = out ++ ak.enc x := by show out ++ (ak.enc x ++ []) = _; rw [List.append_nil]
 refine EN2 Tryz.func64 rfl (aa (UD 0 tk105 0 rfl rfl rfl rfl (aM rfl (LT rfl (WL (zs := [.pointer none]) el227 rfl rfl rfl (.more rfl (.v rfl .nil) .nil) rfl rfl (fun v0_2 => (aHN ?_)))))))
 refine er 3 rfl ?_
 refine LF rfl (EC [1] [0, 1, 2] rfl (dI b bx 9 [.string x] p v hp out ⟨v0_2, 1, [0]⟩ (aH x (by rw [List.length_append, gp] at hl; omega) rfl bz) (by rw [hall]; exact hl)) ?_)
 rintro _ _ _ ⟨rfl, p1, v1, hp1, rfl⟩
 refine aST ?_
 refine bS (FZ0 [0, 1, 2] Tryz.results64 ?_)
 rw [← hall]; exact ⟨rfl, p1, v1, hp1, rfl⟩
theorem ma (b rb bc bx : Nat) (p v : Value) (r : List UInt8) (bad : Bool) (hr : r.length ≤ 1000000) :
   Con Tryz.prog 64 [.pointer (some ⟨bx, 0, none⟩), .pointer (some ⟨bc, 0, none⟩)] [atC bc b] [bO b p v (.pointer (some ⟨rb, 0, none⟩)), rdB rb r bad, Box bx 9 [.string .empty]]
     fun _ ps hp' => ∃ (x : ByteArray) (r' : List UInt8) (bad' : Bool), ak.one (.R r bad) ak.zero = (.R r' bad', x) ∧ ps = [dY x] ∧ hp' = [bO b p v (.pointer (some ⟨rb, 0, none⟩)), rdB rb r' bad', Box bx 9 [.string x]] := by
 have hE : ∀ (x : ByteArray) (r' : List UInt8) (b' : Bool), ak.one (.R r bad) ak.zero = (.R r' b', x) → ∀ p ∈ [dY x], Ent [] p := fun x r' b' h p hp => by
   rw [List.mem_singleton.1 hp]
   exact Ent.str (ak.okR hr h)
 refine Con.rdF (P1 := fun _ => []) ?_ hE
 refine EN2 Tryz.func64 rfl (aa (UD 0 tk105 0 rfl rfl rfl rfl (aM rfl (LT rfl (WL (zs := [.pointer none]) el227 rfl rfl rfl (.more rfl (.v rfl .nil) .nil) rfl rfl (fun v0_2 => (aHN ?_)))))))
 refine er 3 rfl (LF rfl (EC [1] [0, 1, 2] rfl (dL b rb bx 9 [.string .empty] p v r bad (by omega) ⟨v0_2, 1, [0]⟩ (aH .empty (by decide) rfl bz)) ?_))
 rintro _ _ _ ⟨rfl, r1, b1, hq, rfl⟩
 refine aST ?_
 refine bS (FZ0 [0, 1, 2] Tryz.results64 ?_)
 have k : (ak.one (.R r bad) ak.zero).1 = .R r1 b1 := hq
 exact ⟨(ak.one (.R r bad) ak.zero).2, r1, b1, by rw [← k], rfl, rfl⟩
theorem ct {α τ : Type} (A : Cod τ) (pu : α → τ) (l : List α) : (dw A).enc (l.map pu) = aO l.length ++ aK (fun x => A.enc (pu x)) l := by
 show aO (l.map pu).length ++ gK A (l.map pu) = _
 rw [List.length_map]; unfold gK aK; rw [List.map_map]; rfl
theorem tk111 : tyk Tryz.prog 111 = some (false, 1) := by kernel_rfl
abbrev j0 : Type := ByteArray × List ByteArray
def cW : Cod j0 := Cod.prod ak (dw ak)
abbrev di (x : aF) : j0 := (x.name, x.parents.l)
abbrev atT (bt bc : Nat) : Per := At bt 0 [.v (.func (.func 64) #[] #[.pointer (some ⟨bc, 0, none⟩)])]
theorem lU (b bc bt bx : Nat) (x : aF) (p v : Value) (hp : p = .pointer none ∨ p = .pointer (some ⟨b, 0, none⟩)) (out : List UInt8) (hl : (out ++ cW.enc (di x)).length ≤ 1000000000) :
   Con Tryz.prog 78 [.pointer (some ⟨bx, 0, none⟩), .pointer (some ⟨bc, 0, none⟩), .pointer (some ⟨bt, 0, none⟩)] [cD (atC bc b) (cD (atT bt bc) x.ok)] [bO b p v (.pointer none), aN v 5 1 (out.map cX), Box bx 62 x.vs]
     fun _ ps hp' => ps = [] ∧ ∃ p' v', (p' = .pointer none ∨ p' = .pointer (some ⟨b, 0, none⟩)) ∧ hp' = [bO b p' v' (.pointer none), aN v' 5 1 ((out ++ cW.enc (di x)).map cX), Box bx 62 x.vs] := by
 have he : cW.enc (di x) = ak.enc x.name ++ (aO x.parents.l.length ++ aK ak.enc x.parents.l) := rfl
 rw [he] at hl ⊢
 have e0 : bo ak unT x.vs [0] = ak.enc x.name ++ [] := rfl
 have hall : (out ++ bo ak unT x.vs [0]) ++ (aO x.parents.l.length ++ aK ak.enc x.parents.l) = out ++ (ak.enc x.name ++ (aO x.parents.l.length ++ aK ak.enc x.parents.l)) := by simp only [e0, List.append_assoc, List.append_nil]
 have hs := gp x.name
 simp only [List.length_append] at hl
 refine EN3 Tryz.func78 rfl (aY _ (Ent.left (.of (aD 0 rfl))) (aY _ (Ent.left (Ent.right (.of (aD 1 rfl)))) (aY _ (aF.f_parents (Ent.right (Ent.right (.of (aD 2 rfl))))) (aj (DR [5] 6 (VD 0 0 tk105 2 rfl rfl rfl rfl rfl (VM 1 rfl rfl (VN 2 rfl rfl rfl (VO 3 0 rfl rfl rfl (VB (zs := [.pointer none]) 4 rfl el227 rfl rfl rfl rfl (.more rfl (.v rfl .nil) .nil) rfl rfl (fun v0_4 => ?_)))))))))))
 refine VE 5 rfl rfl (EC [4] [0, 1, 2] rfl (dI b bx 62 x.vs p v hp out ⟨v0_4, 1, [0]⟩ (aH x.name (by omega) rfl bz) (by simp only [e0, List.length_append, List.length_nil]; omega)) ?_)
 rintro _ _ _ ⟨rfl, p_0, v_0, hp_0, rfl⟩
 refine bST rfl ?_
 refine BN (an (DR [5] 6 (VD 0 0 tk105 3 rfl rfl rfl rfl rfl (VM 1 rfl rfl (VN 2 rfl rfl rfl (VO 3 1 rfl rfl rfl (VD 4 0 tk111 2 rfl rfl rfl rfl rfl ?_)))))))
 refine VE 5 rfl rfl (EC [3, 1] [0, 1, 2] rfl (jf b bx 62 x.vs 1 x.parents rfl p_0 v_0 hp_0 (out ++ bo ak unT x.vs [0]) ak.enc (by simp only [e0, List.length_append, List.length_nil]; omega) 64 [.pointer (some ⟨bc, 0, none⟩)] (atC bc b) (by kernel_rfl) (fun y p v out bx _ hp hl => mw b bc bx y p v hp out hl)) ?_)
 rintro _ _ _ ⟨rfl, p_1, v_1, hp_1, rfl⟩
 refine bST rfl ?_
 refine BN (FZ0 [0, 1, 2] Tryz.results78 ?_)
 rw [← hall]; exact ⟨rfl, p_1, v_1, hp_1, rfl⟩
theorem lP (b rb bc bt bx : Nat) (p v : Value) (r : List UInt8) (bad : Bool) (hr : r.length ≤ 1000000) :
   Con Tryz.prog 78 [.pointer (some ⟨bx, 0, none⟩), .pointer (some ⟨bc, 0, none⟩), .pointer (some ⟨bt, 0, none⟩)] [cD (atC bc b) (atT bt bc)] [bO b p v (.pointer (some ⟨rb, 0, none⟩)), rdB rb r bad, Box bx 62 [.string .empty, .slice none 0 0]]
     fun _ ps hp' => ∃ (x : aF) (r' : List UInt8) (bad' : Bool), cW.one (.R r bad) cW.zero = (.R r' bad', di x) ∧ ps = [x.ok] ∧ hp' = [bO b p v (.pointer (some ⟨rb, 0, none⟩)), rdB rb r' bad', Box bx 62 x.vs] := by
 refine Con.rdF (P1 := fun x => [ShF (fun s => [.v (.string s)]) x.parents, b7 dY x.parents.l]) ?_ (fun x r' b' h p hp => by
   rw [List.mem_singleton.1 hp]
   have hk : cW.ok (di x) := cW.okR hr h
   exact Ent.mk2 (Ent.str hk.1) (Ent.mk2 (.of (aD 0 rfl)) (.of (aD 1 rfl))))
 refine EN3 Tryz.func78 rfl (aY _ (Ent.left (.of (aD 0 rfl))) (aY _ (Ent.right (.of (aD 1 rfl))) (aj (DR [5] 6 (VD 0 0 tk105 1 rfl rfl rfl rfl rfl (VM 1 rfl rfl (VN 2 rfl rfl rfl (VO 3 0 rfl rfl rfl (VB (zs := [.pointer none]) 4 rfl el227 rfl rfl rfl rfl (.more rfl (.v rfl .nil) .nil) rfl rfl (fun v0_4 => (VE 5 rfl rfl (EC [3] [0, 1, 2] rfl (dL b rb bx 62 [.string .empty, .slice none 0 0] p v r bad (by omega) ⟨v0_4, 1, [0]⟩ (aH .empty (by decide) rfl bz)) ?_))))))))))))
 rintro _ _ _ ⟨rfl, r_0, b_0, hq_0, rfl⟩; have hl_0 := cN (fun _ _ _ => rfl) _ _ _ _ (by omega) hq_0
 refine bST rfl ?_
 refine BN (an (DR [5] 6 (VD 0 0 tk105 2 rfl rfl rfl rfl rfl (VM 1 rfl rfl (VN 2 rfl rfl rfl (VO 3 1 rfl rfl rfl (VD 4 0 tk111 1 rfl rfl rfl rfl rfl (VE 5 rfl rfl (EC [1] [0, 1, 2] rfl (jr b rb bx 62 (goC ak Value.string unT (.R r bad) [.string .empty, .slice none 0 0] [0]).2 1 rfl p v r_0 b_0 (by omega) ak (fun s => s) dY 64 [.pointer (some ⟨bc, 0, none⟩)] (atC bc b) (by kernel_rfl) (fun r bad bx hr => ma b rb bc bx p v r bad hr)) ?_)))))))))
 rintro _ _ _ ⟨l, r_1, b_1, hq_1, rfl, rfl⟩
 refine bST rfl ?_
 refine BN ?_
 refine ta [5, 4] [0, 1, 2] rfl Tryz.results78 ?_ (.inl rfl)
 have k_0 : (ak.one (.R r bad) ak.zero).1 = .R r_0 b_0 := hq_0
 rw [List.map_id'] at hq_1
 refine ⟨⟨(ak.one (.R r bad) ak.zero).2, l⟩, r_1, b_1, ?_, rfl, rfl⟩
 unfold cW
 simp only [ec, dK]
 rw [k_0, show (dw ak).zero = [] from rfl, hq_1]
theorem db {τ : Type} {A : Cod τ} {r r' : List UInt8} {b b' : Bool} {l : List τ} (hr : r.length ≤ 4611686018427387904) (h : (dw A).one (.R r b) [] = (.R r' b', l)) : r'.length ≤ r.length := by
 obtain ⟨r1, b1, h1, h2, _⟩ := (dw A).rd r b hr
 have e : (dw A).zero = [] := rfl
 rw [e, h] at h1
 obtain ⟨rfl, rfl⟩ := CS.R.inj h1
 exact h2
abbrev ace : Type := ByteArray × ByteArray × ByteArray × List wV × Int
def gX : Cod ace := Cod.prod ak (Cod.prod ak (Cod.prod ak (Cod.prod (dw eX) ai)))
abbrev gA (x : cr) : ace := (x.obj, x.sec, x.from_, x.pieces.l.map fa, x.code)
def kQ (x : cr) : Prop := (∀ y ∈ x.pieces.l, kh y) ∧ Go.Lv.I64 x.code
abbrev eP (x : dD) : List UInt8 := eX.enc (fa x)
theorem sI (b bc bx : Nat) (x : cr) (hx : kQ x) (p v : Value) (hp : p = .pointer none ∨ p = .pointer (some ⟨b, 0, none⟩)) (out : List UInt8) (hl : (out ++ gX.enc (gA x)).length ≤ 1000000000) :
   Con Tryz.prog 81 [.pointer (some ⟨bx, 0, none⟩), .pointer (some ⟨bc, 0, none⟩)] [cD (atC bc b) x.ok] [bO b p v (.pointer none), aN v 5 1 (out.map cX), Box bx 65 x.vs]
     fun _ ps hp' => ps = [] ∧ ∃ p' v', (p' = .pointer none ∨ p' = .pointer (some ⟨b, 0, none⟩)) ∧ hp' = [bO b p' v' (.pointer none), aN v' 5 1 ((out ++ gX.enc (gA x)).map cX), Box bx 65 x.vs] := by
 have he : gX.enc (gA x) = ak.enc x.obj ++ (ak.enc x.sec ++ (ak.enc x.from_ ++ ((aO x.pieces.l.length ++ aK eP x.pieces.l) ++ ai.enc x.code))) := by
   rw [← ct eX fa x.pieces.l]; rfl
 rw [he] at hl ⊢
 have e0 : bo ak unT x.vs [0, 1, 2] = ak.enc x.obj ++ (ak.enc x.sec ++ (ak.enc x.from_ ++ [])) := rfl
 have e2 : bo ai unI x.vs [4] = ai.enc x.code ++ [] := rfl
 have hall : ((out ++ bo ak unT x.vs [0, 1, 2]) ++ (aO x.pieces.l.length ++ aK eP x.pieces.l)) ++ bo ai unI x.vs [4] = out ++ (ak.enc x.obj ++ (ak.enc x.sec ++ (ak.enc x.from_ ++ ((aO x.pieces.l.length ++ aK eP x.pieces.l) ++ ai.enc x.code)))) := by simp only [e0, e2, List.append_assoc, List.append_nil]
 have hs1 := gp x.obj
 have hs2 := gp x.sec
 have hs3 := gp x.from_
 simp only [List.length_append] at hl
 refine EN2 Tryz.func81 rfl (aY _ (Ent.left (.of (aD 0 rfl))) (aY _ (cr.f_pieces (Ent.right (.of (aD 1 rfl)))) (aj (DR [11] 12 (VD 0 0 tk105 1 rfl rfl rfl rfl rfl (VM 1 rfl rfl (VN 2 rfl rfl rfl (VO 3 0 rfl rfl rfl (VM 4 rfl rfl (VN 5 rfl rfl rfl (VO 6 1 rfl rfl rfl (VM 7 rfl rfl (VN 8 rfl rfl rfl (VO 9 2 rfl rfl rfl ?_))))))))))))))
 refine VB (zs := [.pointer none]) 10 rfl el227 rfl rfl rfl rfl (.more rfl (.v rfl .nil) (.more rfl (.v rfl .nil) (.more rfl (.v rfl .nil) .nil))) rfl rfl (fun v0_10 => ?_)
 refine VE 11 rfl rfl (EC [3] [0, 1, 2] rfl (dI b bx 65 x.vs p v hp out ⟨v0_10, 3, [0, 1, 2]⟩ (aH x.obj (by omega) rfl (aH x.sec (by omega) rfl (aH x.from_ (by omega) rfl bz))) (by simp only [e0, List.length_append, List.length_nil]; omega)) ?_)
 rintro _ _ _ ⟨rfl, p_0, v_0, hp_0, rfl⟩
 refine bST rfl ?_
 refine BN (an (aj (DR [5] 6 (VD 0 0 tk105 2 rfl rfl rfl rfl rfl (VM 1 rfl rfl (VN 2 rfl rfl rfl (VO 3 3 rfl rfl rfl (bV 4 rfl rfl (cq (l := [.tmp 1]) rfl) ?_))))))))
 refine VE 5 rfl rfl (EC [2, 1] [0, 1, 2] rfl (oF b bx 65 x.vs 3 x.pieces rfl p_0 v_0 hp_0 (out ++ bo ak unT x.vs [0, 1, 2]) eP (by simp only [e0, List.length_append, List.length_nil]; omega) 83 [.pointer (some ⟨bc, 0, none⟩)] (atC bc b) (by kernel_rfl) (fun y p v out bx hy hp hl => re b bc bx y (hx.1 y hy) p v hp out hl)) ?_)
 rintro _ _ _ ⟨rfl, p_1, v_1, hp_1, rfl⟩
 refine bST rfl ?_
 refine BN (an (DR [5] 6 (VD 0 0 tk105 2 rfl rfl rfl rfl rfl (VM 1 rfl rfl (VN 2 rfl rfl rfl (VO 3 4 rfl rfl rfl (VB (zs := [.pointer none]) 4 rfl el226 rfl rfl rfl rfl (.more rfl (.v rfl .nil) .nil) rfl rfl (fun v2_4 => ?_))))))))
 refine VE 5 rfl rfl (EC [4] [0, 1, 2] rfl (cO b bx 65 x.vs p_1 v_1 hp_1 ((out ++ bo ak unT x.vs [0, 1, 2]) ++ (aO x.pieces.l.length ++ aK eP x.pieces.l)) ⟨v2_4, 1, [4]⟩ (aH x.code hx.2 rfl bz) (by simp only [e0, e2, List.length_append, List.length_nil]; omega)) ?_)
 rintro _ _ _ ⟨rfl, p_2, v_2, hp_2, rfl⟩
 refine bST rfl ?_
 refine BN (FZ0 [0, 1, 2] Tryz.results81 ?_)
 rw [← hall]; exact ⟨rfl, p_2, v_2, hp_2, rfl⟩
theorem sJ (b rb bc bx : Nat) (p v : Value) (r : List UInt8) (bad : Bool) (hr : r.length ≤ 1000000) :
   Con Tryz.prog 81 [.pointer (some ⟨bx, 0, none⟩), .pointer (some ⟨bc, 0, none⟩)] [atC bc b] [bO b p v (.pointer (some ⟨rb, 0, none⟩)), rdB rb r bad, Box bx 65 [.string .empty, .string .empty, .string .empty, .slice none 0 0, .int .i64 0]]
     fun _ ps hp' => ∃ (x : cr) (r' : List UInt8) (bad' : Bool), gX.one (.R r bad) gX.zero = (.R r' bad', gA x) ∧ ps = [x.ok] ∧ hp' = [bO b p v (.pointer (some ⟨rb, 0, none⟩)), rdB rb r' bad', Box bx 65 x.vs] := by
 refine Con.rdF (P1 := fun x => [ShF dD.row x.pieces, b7 (fun _ => Fa True) x.pieces.l]) ?_ (fun x r' b' h p hp => by
   rw [List.mem_singleton.1 hp]
   have hk : gX.ok (gA x) := gX.okR hr h
   exact Ent.mk2 (Ent.str hk.1) (Ent.mk2 (Ent.str hk.2.1) (Ent.mk2 (Ent.str hk.2.2.1) (.of (aD 0 rfl)))))
 refine EN2 Tryz.func81 rfl (aj (DR [11] 12 (VD 0 0 tk105 0 rfl rfl rfl rfl rfl (VM 1 rfl rfl (VN 2 rfl rfl rfl (VO 3 0 rfl rfl rfl (VM 4 rfl rfl (VN 5 rfl rfl rfl (VO 6 1 rfl rfl rfl (VM 7 rfl rfl (VN 8 rfl rfl rfl (VO 9 2 rfl rfl rfl (VB (zs := [.pointer none]) 10 rfl el227 rfl rfl rfl rfl (.more rfl (.v rfl .nil) (.more rfl (.v rfl .nil) (.more rfl (.v rfl .nil) .nil))) rfl rfl (fun v0_10 => ?_))))))))))))))
 refine VE 11 rfl rfl (EC [1] [0, 1, 2] rfl (dL b rb bx 65 [.string .empty, .string .empty, .string .empty, .slice none 0 0, .int .i64 0] p v r bad (by omega) ⟨v0_10, 3, [0, 1, 2]⟩ (aH .empty (by decide) rfl (aH .empty (by decide) rfl (aH .empty (by decide) rfl bz)))) ?_)
 rintro _ _ _ ⟨rfl, r_0, b_0, hq_0, rfl⟩; have hl_0 := cN (fun _ _ _ => rfl) _ _ _ _ (by omega) hq_0
 refine bST rfl ?_
 refine BN (an (aj (DR [5] 6 (VD 0 0 tk105 1 rfl rfl rfl rfl rfl (VM 1 rfl rfl (VN 2 rfl rfl rfl (VO 3 3 rfl rfl rfl (bV 4 rfl rfl (cq (l := [.tmp 1]) rfl) (VE 5 rfl rfl (EC [0] [0, 1, 2] rfl (oN b rb bx 65 (goC ak Value.string unT (.R r bad) [.string .empty, .string .empty, .string .empty, .slice none 0 0, .int .i64 0] [0, 1, 2]).2 3 rfl p v r_0 b_0 (by omega) eX fa (fun _ => Fa True) 83 [.pointer (some ⟨bc, 0, none⟩)] (atC bc b) (by kernel_rfl) (fun r bad bx hr => qU b rb bc bx p v r bad hr)) ?_))))))))))
 rintro _ _ _ ⟨l, r_1, b_1, hq_1, rfl, rfl⟩; have hl_1 := db (by omega) hq_1
 refine bST rfl ?_
 refine BN (an (DR [5] 6 (VD 0 0 tk105 3 rfl rfl rfl rfl rfl (VM 1 rfl rfl (VN 2 rfl rfl rfl (VO 3 4 rfl rfl rfl (VB (zs := [.pointer none]) 4 rfl el226 rfl rfl rfl rfl (.more rfl (.v rfl .nil) .nil) rfl rfl (fun v2_4 => (VE 5 rfl rfl (EC [4] [0, 1, 2] rfl (cP b rb bx 65 ((goC ak Value.string unT (.R r bad) [.string .empty, .string .empty, .string .empty, .slice none 0 0, .int .i64 0] [0, 1, 2]).2.set 3 l.val) p v r_1 b_1 (by omega) ⟨v2_4, 1, [4]⟩ (aH 0 (by decide) rfl bz)) ?_))))))))))
 rintro _ _ _ ⟨rfl, r_2, b_2, hq_2, rfl⟩
 refine bST rfl ?_
 refine BN ?_
 refine ta [3, 2] [0, 1, 2] rfl Tryz.results81 ?_ (.inl rfl)
 have k_0 : (ak.one (ak.one (ak.one (.R r bad) ak.zero).1 ak.zero).1 ak.zero).1 = .R r_0 b_0 := hq_0
 have k_2 : (ai.one (.R r_1 b_1) ai.zero).1 = .R r_2 b_2 := hq_2
 refine ⟨⟨_, _, _, l, _⟩, r_2, b_2, ?_, rfl, rfl⟩
 unfold gX
 simp only [ec, dK]
 rw [k_0, show (dw eX).zero = [] from rfl, hq_1]
 dsimp only
 rw [k_2]
 all_goals rfl
end Go.Proofs.YtahgkiicjohonaaGreat

