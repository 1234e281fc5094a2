/- Parts of the proof, in build order. No condition. -/
import Derived.Test.YtahgkiicjohonaaGreatXa20
import Derived.Test.YtahgkiicjohonaaGreatXa05
import Derived.Test.YtahgkiicjohonaaGreatXa09
set_option linter.unusedSimpArgs false
set_option linter.unusedVariables false
set_option maxHeartbeats 1000000
set_option maxRecDepth 20000
namespace Go.Proofs.YtahgkiicjohonaaGreat
open Go.RowKit Go.Lp Go.Sy Go.Lv
open Go.Proofs.Tryz
attribute [local irreducible] aL aB awp aC fwp Quiet
theorem bz {α : Type} {vl : α → Value} {ok : α → Prop} {cs : List Value} : okC vl ok cs [] := fun _ h => by cases h
theorem aH {α : Type} {vl : α → Value} {ok : α → Prop} {cs : List Value} {o : Nat} {os : List Nat} (x : α) (hx : ok x) (h : cs[o]? = some (vl x)) (t : okC vl ok cs os) : okC vl ok cs (o :: os) := fun p hp => by
 rcases List.mem_cons.1 hp with rfl | hp
 · exact ⟨x, hx, h⟩
 · exact t p hp
abbrev atC (bc b : Nat) : Per := At bc 0 [.v (.pointer (some ⟨b, 0, none⟩))]
theorem gp (s : ByteArray) : (ak.enc s).length = (aO s.size).length + s.size := mo s
theorem pK (b bc bx : Nat) (x : bk) (hx : ir x) (p v : Value) (hp : p = .pointer none ∨ p = .pointer (some ⟨b, 0, none⟩)) (out : List UInt8) (hl : (out ++ ee.enc (ej x)).length ≤ 1000000000) :
   Con Tryz.prog 68 [.pointer (some ⟨bx, 0, none⟩), .pointer (some ⟨bc, 0, none⟩)] [atC bc b] [bO b p v (.pointer none), aN v 5 1 (out.map cX), Box bx 51 x.vs]
     fun _ ps hp' => ps = [] ∧ ∃ p' v', (p' = .pointer none ∨ p' = .pointer (some ⟨b, 0, none⟩)) ∧ hp' = [bO b p' v' (.pointer none), aN v' 5 1 ((out ++ ee.enc (ej x)).map cX), Box bx 51 x.vs] := by
 have he : ee.enc (ej x) = ak.enc x.obj ++ (ak.enc x.sec ++ (ai.enc x.kind ++ (ai.enc x.at_ ++ (ai.enc x.size ++ (ak.enc x.digest ++ (ak.enc x.form)))))) := rfl
 rw [he] at hl ⊢
 obtain ⟨hi_kind, hi_at_, hi_size⟩ := hx
 have e0 : bo ak unT x.vs [0, 1] = ak.enc x.obj ++ (ak.enc x.sec ++ ([])) := rfl
 have e1 : bo ai unI x.vs [2, 3, 4] = ai.enc x.kind ++ (ai.enc x.at_ ++ (ai.enc x.size ++ ([]))) := rfl
 have e2 : bo ak unT x.vs [5, 6] = ak.enc x.digest ++ (ak.enc x.form ++ ([])) := rfl
 have hall : (((out ++ bo ak unT x.vs [0, 1]) ++ bo ai unI x.vs [2, 3, 4]) ++ bo ak unT x.vs [5, 6]) = out ++ (ak.enc x.obj ++ (ak.enc x.sec ++ (ai.enc x.kind ++ (ai.enc x.at_ ++ (ai.enc x.size ++ (ak.enc x.digest ++ (ak.enc x.form))))))) := by simp only [e0, e1, e2, List.append_assoc, List.append_nil, List.nil_append, List.cons_append]
 have hs_obj := gp x.obj
 have hs_sec := gp x.sec
 have hs_digest := gp x.digest
 have hs_form := gp x.form
 simp only [List.length_append] at hl
 refine EN2 Tryz.func68 rfl (aj (DR [8] 9 (VD 0 0 tk105 0 rfl rfl rfl rfl rfl (VM 1 rfl rfl (VN 2 rfl rfl rfl (VO 3 0 rfl rfl rfl (VM 4 rfl rfl (VN 5 rfl rfl rfl (VO 6 1 rfl rfl rfl (VB (zs := [.pointer none]) 7 rfl el227 rfl rfl rfl rfl (.more rfl (.v rfl .nil) (.more rfl (.v rfl .nil) .nil)) rfl rfl (fun v0_7 => ?_)))))))))))
 refine VE 8 rfl rfl (EC [1] [0, 1, 2] rfl (dI b bx 51 x.vs p v hp (out) ⟨v0_7, 2, [0, 1]⟩ (aH x.obj (by omega) rfl (aH x.sec (by omega) rfl bz)) (by simp only [e0, e1, e2, List.length_append, List.length_nil]; omega)) ?_)
 rintro _ _ _ ⟨rfl, p_0, v_0, hp_0, rfl⟩
 refine bST rfl ?_
 refine BN (an (aj (DR [11] 12 (VD 0 0 tk105 1 rfl rfl rfl rfl rfl (VM 1 rfl rfl (VN 2 rfl rfl rfl (VO 3 2 rfl rfl rfl (VM 4 rfl rfl (VN 5 rfl rfl rfl (VO 6 3 rfl rfl rfl (VM 7 rfl rfl (VN 8 rfl rfl rfl (VO 9 4 rfl rfl rfl (VB (zs := [.pointer none]) 10 rfl el226 rfl rfl rfl rfl (.more rfl (.v rfl .nil) (.more rfl (.v rfl .nil) (.more rfl (.v rfl .nil) .nil))) rfl rfl (fun v1_10 => ?_)))))))))))))))
 refine VE 11 rfl rfl (EC [2] [0, 1, 2] rfl (cO b bx 51 x.vs p_0 v_0 hp_0 (out ++ bo ak unT x.vs [0, 1]) ⟨v1_10, 3, [2, 3, 4]⟩ (aH x.kind hi_kind rfl (aH x.at_ hi_at_ rfl (aH x.size hi_size rfl bz))) (by simp only [e0, e1, e2, List.length_append, List.length_nil]; omega)) ?_)
 rintro _ _ _ ⟨rfl, p_1, v_1, hp_1, rfl⟩
 refine bST rfl ?_
 refine BN (an (DR [8] 9 (VD 0 0 tk105 2 rfl rfl rfl rfl rfl (VM 1 rfl rfl (VN 2 rfl rfl rfl (VO 3 5 rfl rfl rfl (VM 4 rfl rfl (VN 5 rfl rfl rfl (VO 6 6 rfl rfl rfl (VB (zs := [.pointer none]) 7 rfl el227 rfl rfl rfl rfl (.more rfl (.v rfl .nil) (.more rfl (.v rfl .nil) .nil)) rfl rfl (fun v2_7 => ?_)))))))))))
 refine VE 8 rfl rfl (EC [3] [0, 1, 2] rfl (dI b bx 51 x.vs p_1 v_1 hp_1 ((out ++ bo ak unT x.vs [0, 1]) ++ bo ai unI x.vs [2, 3, 4]) ⟨v2_7, 2, [5, 6]⟩ (aH x.digest (by omega) rfl (aH x.form (by omega) rfl bz)) (by simp only [e0, e1, e2, List.length_append, List.length_nil]; omega)) ?_)
 rintro _ _ _ ⟨rfl, p_2, v_2, hp_2, rfl⟩
 refine bST rfl ?_
 refine BN (FZ0 [0, 1, 2] Tryz.results68 ?_)
 rw [← hall]; exact ⟨rfl, p_2, v_2, hp_2, rfl⟩
theorem o7 (b bc bx : Nat) (x : bN) (hx : iq x) (p v : Value) (hp : p = .pointer none ∨ p = .pointer (some ⟨b, 0, none⟩)) (out : List UInt8) (hl : (out ++ ed.enc (et x)).length ≤ 1000000000) :
   Con Tryz.prog 70 [.pointer (some ⟨bx, 0, none⟩), .pointer (some ⟨bc, 0, none⟩)] [atC bc b] [bO b p v (.pointer none), aN v 5 1 (out.map cX), Box bx 96 x.vs]
     fun _ ps hp' => ps = [] ∧ ∃ p' v', (p' = .pointer none ∨ p' = .pointer (some ⟨b, 0, none⟩)) ∧ hp' = [bO b p' v' (.pointer none), aN v' 5 1 ((out ++ ed.enc (et x)).map cX), Box bx 96 x.vs] := by
 have he : ed.enc (et x) = ak.enc x.name ++ (ak.enc x.version ++ (bK.enc x.main ++ (ai.enc x.kind ++ (ai.enc x.at_ ++ (ai.enc x.size))))) := rfl
 rw [he] at hl ⊢
 obtain ⟨hi_kind, hi_at_, hi_size⟩ := hx
 have e0 : bo ak unT x.vs [0, 1] = ak.enc x.name ++ (ak.enc x.version ++ ([])) := rfl
 have e2 : bo ai unI x.vs [3, 4, 5] = ai.enc x.kind ++ (ai.enc x.at_ ++ (ai.enc x.size ++ ([]))) := rfl
 have hall : (((out ++ bo ak unT x.vs [0, 1]) ++ bK.enc x.main) ++ bo ai unI x.vs [3, 4, 5]) = out ++ (ak.enc x.name ++ (ak.enc x.version ++ (bK.enc x.main ++ (ai.enc x.kind ++ (ai.enc x.at_ ++ (ai.enc x.size)))))) := by simp only [e0, e2, List.append_assoc, List.append_nil, List.nil_append, List.cons_append]
 have hs_name := gp x.name
 have hs_version := gp x.version
 simp only [List.length_append] at hl
 refine EN2 Tryz.func70 rfl (aj (DR [8] 9 (VD 0 0 tk105 0 rfl rfl rfl rfl rfl (VM 1 rfl rfl (VN 2 rfl rfl rfl (VO 3 0 rfl rfl rfl (VM 4 rfl rfl (VN 5 rfl rfl rfl (VO 6 1 rfl rfl rfl (VB (zs := [.pointer none]) 7 rfl el227 rfl rfl rfl rfl (.more rfl (.v rfl .nil) (.more rfl (.v rfl .nil) .nil)) rfl rfl (fun v0_7 => ?_)))))))))))
 refine VE 8 rfl rfl (EC [1] [0, 1, 2] rfl (dI b bx 96 x.vs p v hp (out) ⟨v0_7, 2, [0, 1]⟩ (aH x.name (by omega) rfl (aH x.version (by omega) rfl bz)) (by simp only [e0, e2, List.length_append, List.length_nil]; omega)) ?_)
 rintro _ _ _ ⟨rfl, p_0, v_0, hp_0, rfl⟩
 refine bST rfl ?_
 refine BN (an (aj (DR [4] 5 (VD 0 0 tk105 1 rfl rfl rfl rfl rfl (VM 1 rfl rfl (VN 2 rfl rfl rfl (VO 3 2 rfl rfl rfl ?_)))))))
 refine VE 4 rfl rfl (EC [] [0, 1, 2] rfl (kM x.main b bx 96 x.vs 2 rfl p_0 v_0 hp_0 (out ++ bo ak unT x.vs [0, 1]) (by simp only [e0, e2, List.length_append, List.length_nil]; omega)) ?_)
 rintro _ _ _ ⟨rfl, p_1, v_1, hp_1, rfl⟩
 refine bST rfl ?_
 refine BN (an (DR [11] 12 (VD 0 0 tk105 1 rfl rfl rfl rfl rfl (VM 1 rfl rfl (VN 2 rfl rfl rfl (VO 3 3 rfl rfl rfl (VM 4 rfl rfl (VN 5 rfl rfl rfl (VO 6 4 rfl rfl rfl (VM 7 rfl rfl (VN 8 rfl rfl rfl (VO 9 5 rfl rfl rfl (VB (zs := [.pointer none]) 10 rfl el226 rfl rfl rfl rfl (.more rfl (.v rfl .nil) (.more rfl (.v rfl .nil) (.more rfl (.v rfl .nil) .nil))) rfl rfl (fun v2_10 => ?_))))))))))))))
 refine VE 11 rfl rfl (EC [2] [0, 1, 2] rfl (cO b bx 96 x.vs p_1 v_1 hp_1 ((out ++ bo ak unT x.vs [0, 1]) ++ bK.enc x.main) ⟨v2_10, 3, [3, 4, 5]⟩ (aH x.kind hi_kind rfl (aH x.at_ hi_at_ rfl (aH x.size hi_size rfl bz))) (by simp only [e0, e2, List.length_append, List.length_nil]; omega)) ?_)
 rintro _ _ _ ⟨rfl, p_2, v_2, hp_2, rfl⟩
 refine bST rfl ?_
 refine BN (FZ0 [0, 1, 2] Tryz.results70 ?_)
 rw [← hall]; exact ⟨rfl, p_2, v_2, hp_2, rfl⟩
theorem qc (b bc bx : Nat) (x : bY) (hx : jg x) (p v : Value) (hp : p = .pointer none ∨ p = .pointer (some ⟨b, 0, none⟩)) (out : List UInt8) (hl : (out ++ ef.enc (eu x)).length ≤ 1000000000) :
   Con Tryz.prog 72 [.pointer (some ⟨bx, 0, none⟩), .pointer (some ⟨bc, 0, none⟩)] [atC bc b] [bO b p v (.pointer none), aN v 5 1 (out.map cX), Box bx 94 x.vs]
     fun _ ps hp' => ps = [] ∧ ∃ p' v', (p' = .pointer none ∨ p' = .pointer (some ⟨b, 0, none⟩)) ∧ hp' = [bO b p' v' (.pointer none), aN v' 5 1 ((out ++ ef.enc (eu x)).map cX), Box bx 94 x.vs] := by
 have he : ef.enc (eu x) = ak.enc x.name ++ (ak.enc x.version ++ (ai.enc x.kind ++ (bK.enc x.weak ++ (bK.enc x.own)))) := rfl
 rw [he] at hl ⊢
 have hi_kind := hx
 have e0 : bo ak unT x.vs [0, 1] = ak.enc x.name ++ (ak.enc x.version ++ ([])) := rfl
 have e1 : bo ai unI x.vs [2] = ai.enc x.kind ++ ([]) := rfl
 have hall : ((((out ++ bo ak unT x.vs [0, 1]) ++ bo ai unI x.vs [2]) ++ bK.enc x.weak) ++ bK.enc x.own) = out ++ (ak.enc x.name ++ (ak.enc x.version ++ (ai.enc x.kind ++ (bK.enc x.weak ++ (bK.enc x.own))))) := by simp only [e0, e1, List.append_assoc, List.append_nil, List.nil_append, List.cons_append]
 have hs_name := gp x.name
 have hs_version := gp x.version
 simp only [List.length_append] at hl
 refine EN2 Tryz.func72 rfl (aj (DR [8] 9 (VD 0 0 tk105 0 rfl rfl rfl rfl rfl (VM 1 rfl rfl (VN 2 rfl rfl rfl (VO 3 0 rfl rfl rfl (VM 4 rfl rfl (VN 5 rfl rfl rfl (VO 6 1 rfl rfl rfl (VB (zs := [.pointer none]) 7 rfl el227 rfl rfl rfl rfl (.more rfl (.v rfl .nil) (.more rfl (.v rfl .nil) .nil)) rfl rfl (fun v0_7 => ?_)))))))))))
 refine VE 8 rfl rfl (EC [1] [0, 1, 2] rfl (dI b bx 94 x.vs p v hp (out) ⟨v0_7, 2, [0, 1]⟩ (aH x.name (by omega) rfl (aH x.version (by omega) rfl bz)) (by simp only [e0, e1, List.length_append, List.length_nil]; omega)) ?_)
 rintro _ _ _ ⟨rfl, p_0, v_0, hp_0, rfl⟩
 refine bST rfl ?_
 refine BN (an (aj (DR [5] 6 (VD 0 0 tk105 1 rfl rfl rfl rfl rfl (VM 1 rfl rfl (VN 2 rfl rfl rfl (VO 3 2 rfl rfl rfl (VB (zs := [.pointer none]) 4 rfl el226 rfl rfl rfl rfl (.more rfl (.v rfl .nil) .nil) rfl rfl (fun v1_4 => ?_)))))))))
 refine VE 5 rfl rfl (EC [2] [0, 1, 2] rfl (cO b bx 94 x.vs p_0 v_0 hp_0 (out ++ bo ak unT x.vs [0, 1]) ⟨v1_4, 1, [2]⟩ (aH x.kind hi_kind rfl bz) (by simp only [e0, e1, List.length_append, List.length_nil]; omega)) ?_)
 rintro _ _ _ ⟨rfl, p_1, v_1, hp_1, rfl⟩
 refine bST rfl ?_
 refine BN (an (aj (DR [4] 5 (VD 0 0 tk105 2 rfl rfl rfl rfl rfl (VM 1 rfl rfl (VN 2 rfl rfl rfl (VO 3 3 rfl rfl rfl ?_)))))))
 refine VE 4 rfl rfl (EC [] [0, 1, 2] rfl (kM x.weak b bx 94 x.vs 3 rfl p_1 v_1 hp_1 ((out ++ bo ak unT x.vs [0, 1]) ++ bo ai unI x.vs [2]) (by simp only [e0, e1, List.length_append, List.length_nil]; omega)) ?_)
 rintro _ _ _ ⟨rfl, p_2, v_2, hp_2, rfl⟩
 refine bST rfl ?_
 refine BN (an (DR [4] 5 (VD 0 0 tk105 2 rfl rfl rfl rfl rfl (VM 1 rfl rfl (VN 2 rfl rfl rfl (VO 3 4 rfl rfl rfl ?_))))))
 refine VE 4 rfl rfl (EC [] [0, 1, 2] rfl (kM x.own b bx 94 x.vs 4 rfl p_2 v_2 hp_2 (((out ++ bo ak unT x.vs [0, 1]) ++ bo ai unI x.vs [2]) ++ bK.enc x.weak) (by simp only [e0, e1, List.length_append, List.length_nil]; omega)) ?_)
 rintro _ _ _ ⟨rfl, p_3, v_3, hp_3, rfl⟩
 refine bST rfl ?_
 refine BN (FZ0 [0, 1, 2] Tryz.results72 ?_)
 rw [← hall]; exact ⟨rfl, p_3, v_3, hp_3, rfl⟩
theorem uC (b bc bx : Nat) (x : fm) (hx : qJ x) (p v : Value) (hp : p = .pointer none ∨ p = .pointer (some ⟨b, 0, none⟩)) (out : List UInt8) (hl : (out ++ lC.enc (jn x)).length ≤ 1000000000) :
   Con Tryz.prog 75 [.pointer (some ⟨bx, 0, none⟩), .pointer (some ⟨bc, 0, none⟩)] [atC bc b] [bO b p v (.pointer none), aN v 5 1 (out.map cX), Box bx 55 x.vs]
     fun _ ps hp' => ps = [] ∧ ∃ p' v', (p' = .pointer none ∨ p' = .pointer (some ⟨b, 0, none⟩)) ∧ hp' = [bO b p' v' (.pointer none), aN v' 5 1 ((out ++ lC.enc (jn x)).map cX), Box bx 55 x.vs] := by
 have he : lC.enc (jn x) = ai.enc x.at_ ++ (ai.enc x.kind ++ (ai.enc x.import_ ++ (ai.enc x.add))) := rfl
 rw [he] at hl ⊢
 obtain ⟨hi_at_, hi_kind, hi_import_, hi_add⟩ := hx
 have e0 : bo ai unI x.vs [0, 1, 2, 3] = ai.enc x.at_ ++ (ai.enc x.kind ++ (ai.enc x.import_ ++ (ai.enc x.add ++ ([])))) := rfl
 have hall : (out ++ bo ai unI x.vs [0, 1, 2, 3]) = out ++ (ai.enc x.at_ ++ (ai.enc x.kind ++ (ai.enc x.import_ ++ (ai.enc x.add)))) := by simp only [e0, List.append_assoc, List.append_nil, List.nil_append, List.cons_append]
 simp only [List.length_append] at hl
 refine EN2 Tryz.func75 rfl (DR [14] 15 (VD 0 0 tk105 0 rfl rfl rfl rfl rfl (VM 1 rfl rfl (VN 2 rfl rfl rfl (VO 3 0 rfl rfl rfl (VM 4 rfl rfl (VN 5 rfl rfl rfl (VO 6 1 rfl rfl rfl (VM 7 rfl rfl (VN 8 rfl rfl rfl (VO 9 2 rfl rfl rfl (VM 10 rfl rfl (VN 11 rfl rfl rfl (VO 12 3 rfl rfl rfl ?_))))))))))))))
 refine VB (zs := [.pointer none]) 13 rfl el226 rfl rfl rfl rfl (.more rfl (.v rfl .nil) (.more rfl (.v rfl .nil) (.more rfl (.v rfl .nil) (.more rfl (.v rfl .nil) .nil)))) rfl rfl (fun v0_13 => ?_)
 refine VE 14 rfl rfl (EC [1] [0, 1, 2] rfl (cO b bx 55 x.vs p v hp (out) ⟨v0_13, 4, [0, 1, 2, 3]⟩ (aH x.at_ hi_at_ rfl (aH x.kind hi_kind rfl (aH x.import_ hi_import_ rfl (aH x.add hi_add rfl bz)))) (by simp only [e0, List.length_append, List.length_nil]; omega)) ?_)
 rintro _ _ _ ⟨rfl, p_0, v_0, hp_0, rfl⟩
 refine bST rfl ?_
 refine BN (FZ0 [0, 1, 2] Tryz.results75 ?_)
 rw [← hall]; exact ⟨rfl, p_0, v_0, hp_0, rfl⟩
theorem re (b bc bx : Nat) (x : dD) (hx : kh x) (p v : Value) (hp : p = .pointer none ∨ p = .pointer (some ⟨b, 0, none⟩)) (out : List UInt8) (hl : (out ++ eX.enc (fa x)).length ≤ 1000000000) :
   Con Tryz.prog 83 [.pointer (some ⟨bx, 0, none⟩), .pointer (some ⟨bc, 0, none⟩)] [atC bc b] [bO b p v (.pointer none), aN v 5 1 (out.map cX), Box bx 145 x.vs]
     fun _ ps hp' => ps = [] ∧ ∃ p' v', (p' = .pointer none ∨ p' = .pointer (some ⟨b, 0, none⟩)) ∧ hp' = [bO b p' v' (.pointer none), aN v' 5 1 ((out ++ eX.enc (fa x)).map cX), Box bx 145 x.vs] := by
 have he : eX.enc (fa x) = ai.enc x.from_ ++ (ai.enc x.size ++ (ai.enc x.to_)) := rfl
 rw [he] at hl ⊢
 obtain ⟨hi_from_, hi_size, hi_to_⟩ := hx
 have e0 : bo ai unI x.vs [0, 1, 2] = ai.enc x.from_ ++ (ai.enc x.size ++ (ai.enc x.to_ ++ ([]))) := rfl
 have hall : (out ++ bo ai unI x.vs [0, 1, 2]) = out ++ (ai.enc x.from_ ++ (ai.enc x.size ++ (ai.enc x.to_))) := by simp only [e0, List.append_assoc, List.append_nil, List.nil_append, List.cons_append]
 simp only [List.length_append] at hl
 refine EN2 Tryz.func83 rfl (DR [11] 12 (VD 0 0 tk105 0 rfl rfl rfl rfl rfl (VM 1 rfl rfl (VN 2 rfl rfl rfl (VO 3 0 rfl rfl rfl (VM 4 rfl rfl (VN 5 rfl rfl rfl (VO 6 1 rfl rfl rfl (VM 7 rfl rfl (VN 8 rfl rfl rfl (VO 9 2 rfl rfl rfl (VB (zs := [.pointer none]) 10 rfl el226 rfl rfl rfl rfl (.more rfl (.v rfl .nil) (.more rfl (.v rfl .nil) (.more rfl (.v rfl .nil) .nil))) rfl rfl (fun v0_10 => ?_)))))))))))))
 refine VE 11 rfl rfl (EC [1] [0, 1, 2] rfl (cO b bx 145 x.vs p v hp (out) ⟨v0_10, 3, [0, 1, 2]⟩ (aH x.from_ hi_from_ rfl (aH x.size hi_size rfl (aH x.to_ hi_to_ rfl bz))) (by simp only [e0, List.length_append, List.length_nil]; omega)) ?_)
 rintro _ _ _ ⟨rfl, p_0, v_0, hp_0, rfl⟩
 refine bST rfl ?_
 refine BN (FZ0 [0, 1, 2] Tryz.results83 ?_)
 rw [← hall]; exact ⟨rfl, p_0, v_0, hp_0, rfl⟩
theorem tk (b bc bx : Nat) (x : dA) (hx : mx x) (p v : Value) (hp : p = .pointer none ∨ p = .pointer (some ⟨b, 0, none⟩)) (out : List UInt8) (hl : (out ++ gi.enc (ga x)).length ≤ 1000000000) :
   Con Tryz.prog 152 [.pointer (some ⟨bx, 0, none⟩), .pointer (some ⟨bc, 0, none⟩)] [atC bc b] [bO b p v (.pointer none), aN v 5 1 (out.map cX), Box bx 157 x.vs]
     fun _ ps hp' => ps = [] ∧ ∃ p' v', (p' = .pointer none ∨ p' = .pointer (some ⟨b, 0, none⟩)) ∧ hp' = [bO b p' v' (.pointer none), aN v' 5 1 ((out ++ gi.enc (ga x)).map cX), Box bx 157 x.vs] := by
 have he : gi.enc (ga x) = ak.enc x.name ++ (ai.enc x.kind ++ (ai.enc x.at_ ++ (ai.enc x.size))) := rfl
 rw [he] at hl ⊢
 obtain ⟨hi_kind, hi_at_, hi_size⟩ := hx
 have e0 : bo ak unT x.vs [0] = ak.enc x.name ++ ([]) := rfl
 have e1 : bo ai unI x.vs [1, 2, 3] = ai.enc x.kind ++ (ai.enc x.at_ ++ (ai.enc x.size ++ ([]))) := rfl
 have hall : ((out ++ bo ak unT x.vs [0]) ++ bo ai unI x.vs [1, 2, 3]) = out ++ (ak.enc x.name ++ (ai.enc x.kind ++ (ai.enc x.at_ ++ (ai.enc x.size)))) := by simp only [e0, e1, List.append_assoc, List.append_nil, List.nil_append, List.cons_append]
 have hs_name := gp x.name
 simp only [List.length_append] at hl
 refine EN2 Tryz.func152 rfl (aj (DR [5] 6 (VD 0 0 tk105 0 rfl rfl rfl rfl rfl (VM 1 rfl rfl (VN 2 rfl rfl rfl (VO 3 0 rfl rfl rfl (VB (zs := [.pointer none]) 4 rfl el227 rfl rfl rfl rfl (.more rfl (.v rfl .nil) .nil) rfl rfl (fun v0_4 => ?_))))))))
 refine VE 5 rfl rfl (EC [1] [0, 1, 2] rfl (dI b bx 157 x.vs p v hp (out) ⟨v0_4, 1, [0]⟩ (aH x.name (by omega) rfl bz) (by simp only [e0, e1, List.length_append, List.length_nil]; omega)) ?_)
 rintro _ _ _ ⟨rfl, p_0, v_0, hp_0, rfl⟩
 refine bST rfl ?_
 refine BN (an (DR [11] 12 (VD 0 0 tk105 1 rfl rfl rfl rfl rfl (VM 1 rfl rfl (VN 2 rfl rfl rfl (VO 3 1 rfl rfl rfl (VM 4 rfl rfl (VN 5 rfl rfl rfl (VO 6 2 rfl rfl rfl (VM 7 rfl rfl (VN 8 rfl rfl rfl (VO 9 3 rfl rfl rfl (VB (zs := [.pointer none]) 10 rfl el226 rfl rfl rfl rfl (.more rfl (.v rfl .nil) (.more rfl (.v rfl .nil) (.more rfl (.v rfl .nil) .nil))) rfl rfl (fun v1_10 => ?_))))))))))))))
 refine VE 11 rfl rfl (EC [2] [0, 1, 2] rfl (cO b bx 157 x.vs p_0 v_0 hp_0 (out ++ bo ak unT x.vs [0]) ⟨v1_10, 3, [1, 2, 3]⟩ (aH x.kind hi_kind rfl (aH x.at_ hi_at_ rfl (aH x.size hi_size rfl bz))) (by simp only [e0, e1, List.length_append, List.length_nil]; omega)) ?_)
 rintro _ _ _ ⟨rfl, p_1, v_1, hp_1, rfl⟩
 refine bST rfl ?_
 refine BN (FZ0 [0, 1, 2] Tryz.results152 ?_)
 rw [← hall]; exact ⟨rfl, p_1, v_1, hp_1, rfl⟩
theorem tF (b bc bx : Nat) (x : du) (hx : l9 x) (p v : Value) (hp : p = .pointer none ∨ p = .pointer (some ⟨b, 0, none⟩)) (out : List UInt8) (hl : (out ++ fS.enc (gh x)).length ≤ 1000000000) :
   Con Tryz.prog 154 [.pointer (some ⟨bx, 0, none⟩), .pointer (some ⟨bc, 0, none⟩)] [atC bc b] [bO b p v (.pointer none), aN v 5 1 (out.map cX), Box bx 159 x.vs]
     fun _ ps hp' => ps = [] ∧ ∃ p' v', (p' = .pointer none ∨ p' = .pointer (some ⟨b, 0, none⟩)) ∧ hp' = [bO b p' v' (.pointer none), aN v' 5 1 ((out ++ fS.enc (gh x)).map cX), Box bx 159 x.vs] := by
 have he : fS.enc (gh x) = ai.enc x.sec ++ (ai.enc x.at_ ++ (ak.enc x.file ++ (ai.enc x.line))) := rfl
 rw [he] at hl ⊢
 obtain ⟨hi_sec, hi_at_, hi_line⟩ := hx
 have e0 : bo ai unI x.vs [0, 1] = ai.enc x.sec ++ (ai.enc x.at_ ++ ([])) := rfl
 have e1 : bo ak unT x.vs [2] = ak.enc x.file ++ ([]) := rfl
 have e2 : bo ai unI x.vs [3] = ai.enc x.line ++ ([]) := rfl
 have hall : (((out ++ bo ai unI x.vs [0, 1]) ++ bo ak unT x.vs [2]) ++ bo ai unI x.vs [3]) = out ++ (ai.enc x.sec ++ (ai.enc x.at_ ++ (ak.enc x.file ++ (ai.enc x.line)))) := by simp only [e0, e1, e2, List.append_assoc, List.append_nil, List.nil_append, List.cons_append]
 have hs_file := gp x.file
 simp only [List.length_append] at hl
 refine EN2 Tryz.func154 rfl (aj (DR [8] 9 (VD 0 0 tk105 0 rfl rfl rfl rfl rfl (VM 1 rfl rfl (VN 2 rfl rfl rfl (VO 3 0 rfl rfl rfl (VM 4 rfl rfl (VN 5 rfl rfl rfl (VO 6 1 rfl rfl rfl (VB (zs := [.pointer none]) 7 rfl el226 rfl rfl rfl rfl (.more rfl (.v rfl .nil) (.more rfl (.v rfl .nil) .nil)) rfl rfl (fun v0_7 => ?_)))))))))))
 refine VE 8 rfl rfl (EC [1] [0, 1, 2] rfl (cO b bx 159 x.vs p v hp (out) ⟨v0_7, 2, [0, 1]⟩ (aH x.sec hi_sec rfl (aH x.at_ hi_at_ rfl bz)) (by simp only [e0, e1, e2, List.length_append, List.length_nil]; omega)) ?_)
 rintro _ _ _ ⟨rfl, p_0, v_0, hp_0, rfl⟩
 refine bST rfl ?_
 refine BN (an (aj (DR [5] 6 (VD 0 0 tk105 1 rfl rfl rfl rfl rfl (VM 1 rfl rfl (VN 2 rfl rfl rfl (VO 3 2 rfl rfl rfl (VB (zs := [.pointer none]) 4 rfl el227 rfl rfl rfl rfl (.more rfl (.v rfl .nil) .nil) rfl rfl (fun v1_4 => ?_)))))))))
 refine VE 5 rfl rfl (EC [2] [0, 1, 2] rfl (dI b bx 159 x.vs p_0 v_0 hp_0 (out ++ bo ai unI x.vs [0, 1]) ⟨v1_4, 1, [2]⟩ (aH x.file (by omega) rfl bz) (by simp only [e0, e1, e2, List.length_append, List.length_nil]; omega)) ?_)
 rintro _ _ _ ⟨rfl, p_1, v_1, hp_1, rfl⟩
 refine bST rfl ?_
 refine BN (an (DR [5] 6 (VD 0 0 tk105 2 rfl rfl rfl rfl rfl (VM 1 rfl rfl (VN 2 rfl rfl rfl (VO 3 3 rfl rfl rfl (VB (zs := [.pointer none]) 4 rfl el226 rfl rfl rfl rfl (.more rfl (.v rfl .nil) .nil) rfl rfl (fun v2_4 => ?_))))))))
 refine VE 5 rfl rfl (EC [3] [0, 1, 2] rfl (cO b bx 159 x.vs p_1 v_1 hp_1 ((out ++ bo ai unI x.vs [0, 1]) ++ bo ak unT x.vs [2]) ⟨v2_4, 1, [3]⟩ (aH x.line hi_line rfl bz) (by simp only [e0, e1, e2, List.length_append, List.length_nil]; omega)) ?_)
 rintro _ _ _ ⟨rfl, p_2, v_2, hp_2, rfl⟩
 refine bST rfl ?_
 refine BN (FZ0 [0, 1, 2] Tryz.results154 ?_)
 rw [← hall]; exact ⟨rfl, p_2, v_2, hp_2, rfl⟩
theorem sC (b bc bx : Nat) (x : bE) (hx : mz x) (p v : Value) (hp : p = .pointer none ∨ p = .pointer (some ⟨b, 0, none⟩)) (out : List UInt8) (hl : (out ++ gM.enc (gz x)).length ≤ 1000000000) :
   Con Tryz.prog 156 [.pointer (some ⟨bx, 0, none⟩), .pointer (some ⟨bc, 0, none⟩)] [atC bc b] [bO b p v (.pointer none), aN v 5 1 (out.map cX), Box bx 161 x.vs]
     fun _ ps hp' => ps = [] ∧ ∃ p' v', (p' = .pointer none ∨ p' = .pointer (some ⟨b, 0, none⟩)) ∧ hp' = [bO b p' v' (.pointer none), aN v' 5 1 ((out ++ gM.enc (gz x)).map cX), Box bx 161 x.vs] := by
 have he : gM.enc (gz x) = ai.enc x.at_ ++ (ai.enc x.size) := rfl
 rw [he] at hl ⊢
 obtain ⟨hi_at_, hi_size⟩ := hx
 have e0 : bo ai unI x.vs [0, 1] = ai.enc x.at_ ++ (ai.enc x.size ++ ([])) := rfl
 have hall : (out ++ bo ai unI x.vs [0, 1]) = out ++ (ai.enc x.at_ ++ (ai.enc x.size)) := by simp only [e0, List.append_assoc, List.append_nil, List.nil_append, List.cons_append]
 simp only [List.length_append] at hl
 refine EN2 Tryz.func156 rfl (DR [8] 9 (VD 0 0 tk105 0 rfl rfl rfl rfl rfl (VM 1 rfl rfl (VN 2 rfl rfl rfl (VO 3 0 rfl rfl rfl (VM 4 rfl rfl (VN 5 rfl rfl rfl (VO 6 1 rfl rfl rfl (VB (zs := [.pointer none]) 7 rfl el226 rfl rfl rfl rfl (.more rfl (.v rfl .nil) (.more rfl (.v rfl .nil) .nil)) rfl rfl (fun v0_7 => ?_))))))))))
 refine VE 8 rfl rfl (EC [1] [0, 1, 2] rfl (cO b bx 161 x.vs p v hp (out) ⟨v0_7, 2, [0, 1]⟩ (aH x.at_ hi_at_ rfl (aH x.size hi_size rfl bz)) (by simp only [e0, List.length_append, List.length_nil]; omega)) ?_)
 rintro _ _ _ ⟨rfl, p_0, v_0, hp_0, rfl⟩
 refine bST rfl ?_
 refine BN (FZ0 [0, 1, 2] Tryz.results156 ?_)
 rw [← hall]; exact ⟨rfl, p_0, v_0, hp_0, rfl⟩
theorem qD (b bc bx : Nat) (x : b8) (hx : jw x) (p v : Value) (hp : p = .pointer none ∨ p = .pointer (some ⟨b, 0, none⟩)) (out : List UInt8) (hl : (out ++ dU.enc (ep x)).length ≤ 1000000000) :
   Con Tryz.prog 158 [.pointer (some ⟨bx, 0, none⟩), .pointer (some ⟨bc, 0, none⟩)] [atC bc b] [bO b p v (.pointer none), aN v 5 1 (out.map cX), Box bx 192 x.vs]
     fun _ ps hp' => ps = [] ∧ ∃ p' v', (p' = .pointer none ∨ p' = .pointer (some ⟨b, 0, none⟩)) ∧ hp' = [bO b p' v' (.pointer none), aN v' 5 1 ((out ++ dU.enc (ep x)).map cX), Box bx 192 x.vs] := by
 have he : dU.enc (ep x) = ai.enc x.sec ++ (ai.enc x.from_ ++ (ai.enc x.to_ ++ (ak.enc x.name ++ (ak.enc x.file ++ (ai.enc x.line))))) := rfl
 rw [he] at hl ⊢
 obtain ⟨hi_sec, hi_from_, hi_to_, hi_line⟩ := hx
 have e0 : bo ai unI x.vs [0, 1, 2] = ai.enc x.sec ++ (ai.enc x.from_ ++ (ai.enc x.to_ ++ ([]))) := rfl
 have e1 : bo ak unT x.vs [3, 4] = ak.enc x.name ++ (ak.enc x.file ++ ([])) := rfl
 have e2 : bo ai unI x.vs [5] = ai.enc x.line ++ ([]) := rfl
 have hall : (((out ++ bo ai unI x.vs [0, 1, 2]) ++ bo ak unT x.vs [3, 4]) ++ bo ai unI x.vs [5]) = out ++ (ai.enc x.sec ++ (ai.enc x.from_ ++ (ai.enc x.to_ ++ (ak.enc x.name ++ (ak.enc x.file ++ (ai.enc x.line)))))) := by simp only [e0, e1, e2, List.append_assoc, List.append_nil, List.nil_append, List.cons_append]
 have hs_name := gp x.name
 have hs_file := gp x.file
 simp only [List.length_append] at hl
 refine EN2 Tryz.func158 rfl (aj (DR [11] 12 (VD 0 0 tk105 0 rfl rfl rfl rfl rfl (VM 1 rfl rfl (VN 2 rfl rfl rfl (VO 3 0 rfl rfl rfl (VM 4 rfl rfl (VN 5 rfl rfl rfl (VO 6 1 rfl rfl rfl (VM 7 rfl rfl (VN 8 rfl rfl rfl (VO 9 2 rfl rfl rfl (VB (zs := [.pointer none]) 10 rfl el226 rfl rfl rfl rfl (.more rfl (.v rfl .nil) (.more rfl (.v rfl .nil) (.more rfl (.v rfl .nil) .nil))) rfl rfl (fun v0_10 => ?_))))))))))))))
 refine VE 11 rfl rfl (EC [1] [0, 1, 2] rfl (cO b bx 192 x.vs p v hp (out) ⟨v0_10, 3, [0, 1, 2]⟩ (aH x.sec hi_sec rfl (aH x.from_ hi_from_ rfl (aH x.to_ hi_to_ rfl bz))) (by simp only [e0, e1, e2, List.length_append, List.length_nil]; omega)) ?_)
 rintro _ _ _ ⟨rfl, p_0, v_0, hp_0, rfl⟩
 refine bST rfl ?_
 refine BN (an (aj (DR [8] 9 (VD 0 0 tk105 1 rfl rfl rfl rfl rfl (VM 1 rfl rfl (VN 2 rfl rfl rfl (VO 3 3 rfl rfl rfl (VM 4 rfl rfl (VN 5 rfl rfl rfl (VO 6 4 rfl rfl rfl (VB (zs := [.pointer none]) 7 rfl el227 rfl rfl rfl rfl (.more rfl (.v rfl .nil) (.more rfl (.v rfl .nil) .nil)) rfl rfl (fun v1_7 => ?_))))))))))))
 refine VE 8 rfl rfl (EC [2] [0, 1, 2] rfl (dI b bx 192 x.vs p_0 v_0 hp_0 (out ++ bo ai unI x.vs [0, 1, 2]) ⟨v1_7, 2, [3, 4]⟩ (aH x.name (by omega) rfl (aH x.file (by omega) rfl bz)) (by simp only [e0, e1, e2, List.length_append, List.length_nil]; omega)) ?_)
 rintro _ _ _ ⟨rfl, p_1, v_1, hp_1, rfl⟩
 refine bST rfl ?_
 refine BN (an (DR [5] 6 (VD 0 0 tk105 2 rfl rfl rfl rfl rfl (VM 1 rfl rfl (VN 2 rfl rfl rfl (VO 3 5 rfl rfl rfl (VB (zs := [.pointer none]) 4 rfl el226 rfl rfl rfl rfl (.more rfl (.v rfl .nil) .nil) rfl rfl (fun v2_4 => ?_))))))))
 refine VE 5 rfl rfl (EC [3] [0, 1, 2] rfl (cO b bx 192 x.vs p_1 v_1 hp_1 ((out ++ bo ai unI x.vs [0, 1, 2]) ++ bo ak unT x.vs [3, 4]) ⟨v2_4, 1, [5]⟩ (aH x.line hi_line rfl bz) (by simp only [e0, e1, e2, List.length_append, List.length_nil]; omega)) ?_)
 rintro _ _ _ ⟨rfl, p_2, v_2, hp_2, rfl⟩
 refine bST rfl ?_
 refine BN (FZ0 [0, 1, 2] Tryz.results158 ?_)
 rw [← hall]; exact ⟨rfl, p_2, v_2, hp_2, rfl⟩
theorem ua (b bc bx : Nat) (x : eh) (hx : pL x) (p v : Value) (hp : p = .pointer none ∨ p = .pointer (some ⟨b, 0, none⟩)) (out : List UInt8) (hl : (out ++ jO.enc (iS x)).length ≤ 1000000000) :
   Con Tryz.prog 160 [.pointer (some ⟨bx, 0, none⟩), .pointer (some ⟨bc, 0, none⟩)] [atC bc b] [bO b p v (.pointer none), aN v 5 1 (out.map cX), Box bx 198 x.vs]
     fun _ ps hp' => ps = [] ∧ ∃ p' v', (p' = .pointer none ∨ p' = .pointer (some ⟨b, 0, none⟩)) ∧ hp' = [bO b p' v' (.pointer none), aN v' 5 1 ((out ++ jO.enc (iS x)).map cX), Box bx 198 x.vs] := by
 have he : jO.enc (iS x) = ai.enc x.sec ++ (ai.enc x.from_ ++ (ai.enc x.to_ ++ (ak.enc x.name ++ (ai.enc x.where_ ++ (ai.enc x.n))))) := rfl
 rw [he] at hl ⊢
 obtain ⟨hi_sec, hi_from_, hi_to_, hi_where_, hi_n⟩ := hx
 have e0 : bo ai unI x.vs [0, 1, 2] = ai.enc x.sec ++ (ai.enc x.from_ ++ (ai.enc x.to_ ++ ([]))) := rfl
 have e1 : bo ak unT x.vs [3] = ak.enc x.name ++ ([]) := rfl
 have e2 : bo ai unI x.vs [4, 5] = ai.enc x.where_ ++ (ai.enc x.n ++ ([])) := rfl
 have hall : (((out ++ bo ai unI x.vs [0, 1, 2]) ++ bo ak unT x.vs [3]) ++ bo ai unI x.vs [4, 5]) = out ++ (ai.enc x.sec ++ (ai.enc x.from_ ++ (ai.enc x.to_ ++ (ak.enc x.name ++ (ai.enc x.where_ ++ (ai.enc x.n)))))) := by simp only [e0, e1, e2, List.append_assoc, List.append_nil, List.nil_append, List.cons_append]
 have hs_name := gp x.name
 simp only [List.length_append] at hl
 refine EN2 Tryz.func160 rfl (aj (DR [11] 12 (VD 0 0 tk105 0 rfl rfl rfl rfl rfl (VM 1 rfl rfl (VN 2 rfl rfl rfl (VO 3 0 rfl rfl rfl (VM 4 rfl rfl (VN 5 rfl rfl rfl (VO 6 1 rfl rfl rfl (VM 7 rfl rfl (VN 8 rfl rfl rfl (VO 9 2 rfl rfl rfl (VB (zs := [.pointer none]) 10 rfl el226 rfl rfl rfl rfl (.more rfl (.v rfl .nil) (.more rfl (.v rfl .nil) (.more rfl (.v rfl .nil) .nil))) rfl rfl (fun v0_10 => ?_))))))))))))))
 refine VE 11 rfl rfl (EC [1] [0, 1, 2] rfl (cO b bx 198 x.vs p v hp (out) ⟨v0_10, 3, [0, 1, 2]⟩ (aH x.sec hi_sec rfl (aH x.from_ hi_from_ rfl (aH x.to_ hi_to_ rfl bz))) (by simp only [e0, e1, e2, List.length_append, List.length_nil]; omega)) ?_)
 rintro _ _ _ ⟨rfl, p_0, v_0, hp_0, rfl⟩
 refine bST rfl ?_
 refine BN (an (aj (DR [5] 6 (VD 0 0 tk105 1 rfl rfl rfl rfl rfl (VM 1 rfl rfl (VN 2 rfl rfl rfl (VO 3 3 rfl rfl rfl (VB (zs := [.pointer none]) 4 rfl el227 rfl rfl rfl rfl (.more rfl (.v rfl .nil) .nil) rfl rfl (fun v1_4 => ?_)))))))))
 refine VE 5 rfl rfl (EC [2] [0, 1, 2] rfl (dI b bx 198 x.vs p_0 v_0 hp_0 (out ++ bo ai unI x.vs [0, 1, 2]) ⟨v1_4, 1, [3]⟩ (aH x.name (by omega) rfl bz) (by simp only [e0, e1, e2, List.length_append, List.length_nil]; omega)) ?_)
 rintro _ _ _ ⟨rfl, p_1, v_1, hp_1, rfl⟩
 refine bST rfl ?_
 refine BN (an (DR [8] 9 (VD 0 0 tk105 2 rfl rfl rfl rfl rfl (VM 1 rfl rfl (VN 2 rfl rfl rfl (VO 3 4 rfl rfl rfl (VM 4 rfl rfl (VN 5 rfl rfl rfl (VO 6 5 rfl rfl rfl (VB (zs := [.pointer none]) 7 rfl el226 rfl rfl rfl rfl (.more rfl (.v rfl .nil) (.more rfl (.v rfl .nil) .nil)) rfl rfl (fun v2_7 => ?_)))))))))))
 refine VE 8 rfl rfl (EC [3] [0, 1, 2] rfl (cO b bx 198 x.vs p_1 v_1 hp_1 ((out ++ bo ai unI x.vs [0, 1, 2]) ++ bo ak unT x.vs [3]) ⟨v2_7, 2, [4, 5]⟩ (aH x.where_ hi_where_ rfl (aH x.n hi_n rfl bz)) (by simp only [e0, e1, e2, List.length_append, List.length_nil]; omega)) ?_)
 rintro _ _ _ ⟨rfl, p_2, v_2, hp_2, rfl⟩
 refine bST rfl ?_
 refine BN (FZ0 [0, 1, 2] Tryz.results160 ?_)
 rw [← hall]; exact ⟨rfl, p_2, v_2, hp_2, rfl⟩
theorem rj (b bc bx : Nat) (x : cC) (hx : kq x) (p v : Value) (hp : p = .pointer none ∨ p = .pointer (some ⟨b, 0, none⟩)) (out : List UInt8) (hl : (out ++ fo.enc (fw x)).length ≤ 1000000000) :
   Con Tryz.prog 162 [.pointer (some ⟨bx, 0, none⟩), .pointer (some ⟨bc, 0, none⟩)] [atC bc b] [bO b p v (.pointer none), aN v 5 1 (out.map cX), Box bx 204 x.vs]
     fun _ ps hp' => ps = [] ∧ ∃ p' v', (p' = .pointer none ∨ p' = .pointer (some ⟨b, 0, none⟩)) ∧ hp' = [bO b p' v' (.pointer none), aN v' 5 1 ((out ++ fo.enc (fw x)).map cX), Box bx 204 x.vs] := by
 have he : fo.enc (fw x) = ai.enc x.sec ++ (ai.enc x.from_ ++ (ai.enc x.to_ ++ (ai.enc x.bytes))) := rfl
 rw [he] at hl ⊢
 obtain ⟨hi_sec, hi_from_, hi_to_, hi_bytes⟩ := hx
 have e0 : bo ai unI x.vs [0, 1, 2, 3] = ai.enc x.sec ++ (ai.enc x.from_ ++ (ai.enc x.to_ ++ (ai.enc x.bytes ++ ([])))) := rfl
 have hall : (out ++ bo ai unI x.vs [0, 1, 2, 3]) = out ++ (ai.enc x.sec ++ (ai.enc x.from_ ++ (ai.enc x.to_ ++ (ai.enc x.bytes)))) := by simp only [e0, List.append_assoc, List.append_nil, List.nil_append, List.cons_append]
 simp only [List.length_append] at hl
 refine EN2 Tryz.func162 rfl (DR [14] 15 (VD 0 0 tk105 0 rfl rfl rfl rfl rfl (VM 1 rfl rfl (VN 2 rfl rfl rfl (VO 3 0 rfl rfl rfl (VM 4 rfl rfl (VN 5 rfl rfl rfl (VO 6 1 rfl rfl rfl (VM 7 rfl rfl (VN 8 rfl rfl rfl (VO 9 2 rfl rfl rfl (VM 10 rfl rfl (VN 11 rfl rfl rfl (VO 12 3 rfl rfl rfl ?_))))))))))))))
 refine VB (zs := [.pointer none]) 13 rfl el226 rfl rfl rfl rfl (.more rfl (.v rfl .nil) (.more rfl (.v rfl .nil) (.more rfl (.v rfl .nil) (.more rfl (.v rfl .nil) .nil)))) rfl rfl (fun v0_13 => ?_)
 refine VE 14 rfl rfl (EC [1] [0, 1, 2] rfl (cO b bx 204 x.vs p v hp (out) ⟨v0_13, 4, [0, 1, 2, 3]⟩ (aH x.sec hi_sec rfl (aH x.from_ hi_from_ rfl (aH x.to_ hi_to_ rfl (aH x.bytes hi_bytes rfl bz)))) (by simp only [e0, List.length_append, List.length_nil]; omega)) ?_)
 rintro _ _ _ ⟨rfl, p_0, v_0, hp_0, rfl⟩
 refine bST rfl ?_
 refine BN (FZ0 [0, 1, 2] Tryz.results162 ?_)
 rw [← hall]; exact ⟨rfl, p_0, v_0, hp_0, rfl⟩
end Go.Proofs.YtahgkiicjohonaaGreat

