/- Parts of the proof, in build order. No condition. -/
import Derived.Test.YtahgkiicjohonaaGreatXa22
import Derived.Test.YtahgkiicjohonaaGreatXa05
import Derived.Test.YtahgkiicjohonaaGreatXa09
import Derived.Test.YtahgkiicjohonaaGreatXa07
set_option linter.unusedSimpArgs false
set_option linter.unusedVariables false
set_option maxHeartbeats 1000000
set_option maxRecDepth 20000
namespace Go.Proofs.YtahgkiicjohonaaGreat
open Go.RowKit Go.Lp Go.Sy Go.Lv
abbrev aa6 : Type := List aaq × List abb × List aax × List tB × List adw × List wC
def fb : Cod aa6 := Cod.prod (dw gi) (Cod.prod (dw fS) (Cod.prod (dw gM) (Cod.prod (dw dU) (Cod.prod (dw jO) ((dw fo))))))
abbrev eC (x : cA) : aa6 := (x.marks.l.map ga, x.lines.l.map gh, x.ends.l.map gz, x.inlines.l.map ep, x.vars.l.map iS, x.depths.l.map fw)
def kK (x : cA) : Prop := (∀ y ∈ x.marks.l, mx y) ∧ (∀ y ∈ x.lines.l, l9 y) ∧ (∀ y ∈ x.ends.l, mz y) ∧ (∀ y ∈ x.inlines.l, jw y) ∧ (∀ y ∈ x.vars.l, pL y) ∧ (∀ y ∈ x.depths.l, kq y)
abbrev cV (x : bk) : List UInt8 := ee.enc (ej x)
abbrev cG (x : bN) : List UInt8 := ed.enc (et x)
abbrev dF (x : bY) : List UInt8 := ef.enc (eu x)
abbrev jz (x : fm) : List UInt8 := lC.enc (jn x)
abbrev adu (x : dD) : List UInt8 := eX.enc (fa x)
abbrev iA (x : dA) : List UInt8 := gi.enc (ga x)
abbrev iE (x : du) : List UInt8 := fS.enc (gh x)
abbrev jb (x : bE) : List UInt8 := gM.enc (gz x)
abbrev fA (x : b8) : List UInt8 := dU.enc (ep x)
abbrev oC (x : eh) : List UInt8 := jO.enc (iS x)
abbrev ja (x : cC) : List UInt8 := fo.enc (fw x)
abbrev gO (x : cr) : List UInt8 := gX.enc (gA x)
abbrev cm (x : aF) : List UInt8 := cW.enc (di x)
abbrev aaH : Type := ByteArray × Bool × Int × Int × Int × ByteArray × ByteArray × Int × List sW × List tH × List tv × List Int × List Int × List adE × List Int × List Int × Int × List ByteArray × List j0 × aa6 × List ace
def ba : Cod aaH := Cod.prod ak (Cod.prod bK (Cod.prod ai (Cod.prod ai (Cod.prod ai (Cod.prod ak (Cod.prod ak (Cod.prod ai (Cod.prod (dw ee) (Cod.prod (dw ed) (Cod.prod (dw ef) (Cod.prod (dw ai) (Cod.prod (dw ai) (Cod.prod (dw lC) (Cod.prod (dw ai) (Cod.prod (dw ai) (Cod.prod ai (Cod.prod (dw ak) (Cod.prod (dw cW) (Cod.prod fb ((dw gX)))))))))))))))))))))
abbrev aV (x : ax) : aaH := (x.name, x.lib, x.code, x.data, x.zero, x.bytes, x.tls, x.block, x.nodes.l.map ej, x.exports.l.map et, x.imports.l.map eu, x.slots.l, x.stubs.l, x.dyns.l.map jn, x.inits.l, x.lasts.l, x.entry, x.needs.l, x.versions.l.map di, eC x.info, x.changes.l.map gA)
def cI (x : ax) : Prop := Go.Lv.I64 x.code ∧ Go.Lv.I64 x.data ∧ Go.Lv.I64 x.zero ∧ Go.Lv.I64 x.block ∧ Go.Lv.I64 x.entry ∧ (∀ y ∈ x.nodes.l, ir y) ∧ (∀ y ∈ x.exports.l, iq y) ∧ (∀ y ∈ x.imports.l, jg y) ∧ (∀ y ∈ x.slots.l, Go.Lv.I64 y) ∧ (∀ y ∈ x.stubs.l, Go.Lv.I64 y) ∧ (∀ y ∈ x.dyns.l, qJ y) ∧ (∀ y ∈ x.inits.l, Go.Lv.I64 y) ∧ (∀ y ∈ x.lasts.l, Go.Lv.I64 y) ∧ kK x.info ∧ (∀ y ∈ x.changes.l, kQ y)
theorem xc {x : bk} (h : ee.ok (ej x)) : ir x := ⟨h.2.2.1, h.2.2.2.1, h.2.2.2.2.1⟩
theorem wi {x : bN} (h : ed.ok (et x)) : iq x := ⟨h.2.2.2.1, h.2.2.2.2.1, h.2.2.2.2.2⟩
theorem wG {x : bY} (h : ef.ok (eu x)) : jg x := h.2.2.1
theorem aco {x : fm} (h : lC.ok (jn x)) : qJ x := ⟨h.1, h.2.1, h.2.2.1, h.2.2.2⟩
theorem yy {x : dD} (h : eX.ok (fa x)) : kh x := ⟨h.1, h.2.1, h.2.2⟩
theorem aa0 {x : dA} (h : gi.ok (ga x)) : mx x := ⟨h.2.1, h.2.2.1, h.2.2.2⟩
theorem ab1 {x : du} (h : fS.ok (gh x)) : l9 x := ⟨h.1, h.2.1, h.2.2.2⟩
theorem abk {x : bE} (h : gM.ok (gz x)) : mz x := ⟨h.1, h.2⟩
theorem wg {x : b8} (h : dU.ok (ep x)) : jw x := ⟨h.1, h.2.1, h.2.2.1, h.2.2.2.2.2⟩
theorem acQ {x : eh} (h : jO.ok (iS x)) : pL x := ⟨h.1, h.2.1, h.2.2.1, h.2.2.2.2.1, h.2.2.2.2.2⟩
theorem yG {x : cC} (h : fo.ok (fw x)) : kq x := ⟨h.1, h.2.1, h.2.2.1, h.2.2.2⟩
theorem abV {x : cr} (h : gX.ok (gA x)) : kQ x := ⟨fun y hy => yy (h.2.2.2.1.2 _ (List.mem_map_of_mem hy)), h.2.2.2.2⟩
theorem aaE {x : cA} (h : fb.ok (eC x)) : kK x := ⟨fun y hy => aa0 ((h.1).2 _ (List.mem_map_of_mem hy)), fun y hy => ab1 ((h.2.1).2 _ (List.mem_map_of_mem hy)), fun y hy => abk ((h.2.2.1).2 _ (List.mem_map_of_mem hy)), fun y hy => wg ((h.2.2.2.1).2 _ (List.mem_map_of_mem hy)), fun y hy => acQ ((h.2.2.2.2.1).2 _ (List.mem_map_of_mem hy)), fun y hy => yG ((h.2.2.2.2.2).2 _ (List.mem_map_of_mem hy))⟩
theorem z6 {x : ax} (h : ba.ok (aV x)) : cI x := ⟨h.2.2.1, h.2.2.2.1, h.2.2.2.2.1, h.2.2.2.2.2.2.2.1, h.2.2.2.2.2.2.2.2.2.2.2.2.2.2.2.2.1, fun y hy => xc ((h.2.2.2.2.2.2.2.2.1).2 _ (List.mem_map_of_mem hy)), fun y hy => wi ((h.2.2.2.2.2.2.2.2.2.1).2 _ (List.mem_map_of_mem hy)), fun y hy => wG ((h.2.2.2.2.2.2.2.2.2.2.1).2 _ (List.mem_map_of_mem hy)), fun y hy => (h.2.2.2.2.2.2.2.2.2.2.2.1).2 y hy, fun y hy => (h.2.2.2.2.2.2.2.2.2.2.2.2.1).2 y hy, fun y hy => aco ((h.2.2.2.2.2.2.2.2.2.2.2.2.2.1).2 _ (List.mem_map_of_mem hy)), fun y hy => (h.2.2.2.2.2.2.2.2.2.2.2.2.2.2.1).2 y hy, fun y hy => (h.2.2.2.2.2.2.2.2.2.2.2.2.2.2.2.1).2 y hy, aaE (h.2.2.2.2.2.2.2.2.2.2.2.2.2.2.2.2.2.2.2.1), fun y hy => abV ((h.2.2.2.2.2.2.2.2.2.2.2.2.2.2.2.2.2.2.2.2).2 _ (List.mem_map_of_mem hy))⟩
theorem abn : ba.K ≤ 1000 := by decide
theorem jt {x : ax} {r r' : List UInt8} {b b' : Bool} (hr : r.length ≤ 1000000) (h : ba.one (.R r b) ba.zero = (.R r' b', aV x)) : cI x ∧ (ba.enc (aV x)).length ≤ 1000000000 := by
 obtain ⟨r1, b1, h1, h2, h3, h4⟩ := ba.rd r b (by omega)
 rw [h] at h1 h3 h4
 have hK := abn
 refine ⟨z6 h3, Nat.le_trans h4 ?_⟩
 split <;> omega
open Go.Proofs.Tryz
attribute [local irreducible] aL aB awp aC fwp Quiet
theorem yT (im : ax) (hx : kK im.info) (b bt : Nat) (p v : Value) (hp : p = .pointer none ∨ p = .pointer (some ⟨b, 0, none⟩)) (out : List UInt8) (hl : (out ++ fb.enc (eC im.info)).length ≤ 1000000000) :
   Con Tryz.prog 79 [.pointer (some ⟨b, 0, none⟩), .pointer (some ⟨bt, 19, none⟩)] [im.ok] [bO b p v (.pointer none), aN v 5 1 (out.map cX), Box bt 39 im.vs]
     fun _ ps hp' => ps = [] ∧ ∃ p' v', (p' = .pointer none ∨ p' = .pointer (some ⟨b, 0, none⟩)) ∧ hp' = [bO b p' v' (.pointer none), aN v' 5 1 ((out ++ fb.enc (eC im.info)).map cX), Box bt 39 im.vs] := by
 have he : fb.enc (eC im.info) = (aO im.info.marks.l.length ++ aK iA im.info.marks.l) ++ ((aO im.info.lines.l.length ++ aK iE im.info.lines.l) ++ ((aO im.info.ends.l.length ++ aK jb im.info.ends.l) ++ ((aO im.info.inlines.l.length ++ aK fA im.info.inlines.l) ++ ((aO im.info.vars.l.length ++ aK oC im.info.vars.l) ++ ((aO im.info.depths.l.length ++ aK ja im.info.depths.l)))))) := by
   rw [← ct gi ga im.info.marks.l, ← ct fS gh im.info.lines.l, ← ct gM gz im.info.ends.l, ← ct dU ep im.info.inlines.l, ← ct jO iS im.info.vars.l, ← ct fo fw im.info.depths.l]; rfl
 rw [he] at hl ⊢
 obtain ⟨h_marks, h_lines, h_ends, h_inlines, h_vars, h_depths⟩ := hx
 have hall : ((((((out ++ (aO im.info.marks.l.length ++ aK iA im.info.marks.l)) ++ (aO im.info.lines.l.length ++ aK iE im.info.lines.l)) ++ (aO im.info.ends.l.length ++ aK jb im.info.ends.l)) ++ (aO im.info.inlines.l.length ++ aK fA im.info.inlines.l)) ++ (aO im.info.vars.l.length ++ aK oC im.info.vars.l)) ++ (aO im.info.depths.l.length ++ aK ja im.info.depths.l)) = out ++ ((aO im.info.marks.l.length ++ aK iA im.info.marks.l) ++ ((aO im.info.lines.l.length ++ aK iE im.info.lines.l) ++ ((aO im.info.ends.l.length ++ aK jb im.info.ends.l) ++ ((aO im.info.inlines.l.length ++ aK fA im.info.inlines.l) ++ ((aO im.info.vars.l.length ++ aK oC im.info.vars.l) ++ ((aO im.info.depths.l.length ++ aK ja im.info.depths.l))))))) := by simp only [List.append_assoc]
 simp only [List.length_append] at hl
 refine EN2 Tryz.func79 rfl (aY _ (cA.f_marks (ax.f_info (.of (aD 0 rfl)))) (aY _ (cA.f_lines (ax.f_info (.of (aD 1 rfl)))) (aY _ (cA.f_ends (ax.f_info (.of (aD 2 rfl)))) (aY _ (cA.f_inlines (ax.f_info (.of (aD 3 rfl)))) (aY _ (cA.f_vars (ax.f_info (.of (aD 4 rfl)))) (aY _ (cA.f_depths (ax.f_info (.of (aD 5 rfl)))) (aSR (LT rfl (cx rfl rfl rfl (fun b0_0 => (aHN ?_)))))))))))
 refine aNs (bR 3 rfl rfl ?_)
 show awp _ _ _ _ ⟨_, At _ 0 _ :: _, _⟩
 refine DR [5] 6 (VD 0 0 tk105 0 rfl rfl rfl rfl rfl (VM 1 rfl rfl (VN 2 rfl rfl rfl (VO 3 0 rfl rfl rfl (bV 4 rfl rfl (cq (l := [.tmp 2]) rfl) ?_)))))
 refine VE 5 rfl rfl (EC [1, 7] [0, 1, 2] rfl (pe b bt 39 im.vs 19 im.info.marks rfl p v hp (out) iA (by simp only [List.length_append]; omega) 152 [.pointer (some ⟨b0_0, 0, none⟩)] (atC b0_0 b) (by kernel_rfl) (fun y p v out bx hy hp hl => tk b b0_0 bx y (h_marks y hy) p v hp out hl)) ?_)
 rintro _ _ _ ⟨rfl, p_0, v_0, hp_0, rfl⟩
 refine bST rfl ?_
 refine BN (an (aj (DR [5] 6 (VD 0 0 tk105 0 rfl rfl rfl rfl rfl (VM 1 rfl rfl (VN 2 rfl rfl rfl (VO 3 1 rfl rfl rfl (bV 4 rfl rfl (cq (l := [.tmp 2]) rfl) ?_))))))))
 refine VE 5 rfl rfl (EC [2, 7] [0, 1, 2] rfl (pD b bt 39 im.vs 20 im.info.lines rfl p_0 v_0 hp_0 (out ++ (aO im.info.marks.l.length ++ aK iA im.info.marks.l)) iE (by simp only [List.length_append]; omega) 154 [.pointer (some ⟨b0_0, 0, none⟩)] (atC b0_0 b) (by kernel_rfl) (fun y p v out bx hy hp hl => tF b b0_0 bx y (h_lines y hy) p v hp out hl)) ?_)
 rintro _ _ _ ⟨rfl, p_1, v_1, hp_1, rfl⟩
 refine bST rfl ?_
 refine BN (an (aj (DR [5] 6 (VD 0 0 tk105 0 rfl rfl rfl rfl rfl (VM 1 rfl rfl (VN 2 rfl rfl rfl (VO 3 2 rfl rfl rfl (bV 4 rfl rfl (cq (l := [.tmp 2]) rfl) ?_))))))))
 refine VE 5 rfl rfl (EC [3, 7] [0, 1, 2] rfl (pE b bt 39 im.vs 21 im.info.ends rfl p_1 v_1 hp_1 ((out ++ (aO im.info.marks.l.length ++ aK iA im.info.marks.l)) ++ (aO im.info.lines.l.length ++ aK iE im.info.lines.l)) jb (by simp only [List.length_append]; omega) 156 [.pointer (some ⟨b0_0, 0, none⟩)] (atC b0_0 b) (by kernel_rfl) (fun y p v out bx hy hp hl => sC b b0_0 bx y (h_ends y hy) p v hp out hl)) ?_)
 rintro _ _ _ ⟨rfl, p_2, v_2, hp_2, rfl⟩
 refine bST rfl ?_
 refine BN (an (aj (DR [5] 6 (VD 0 0 tk105 0 rfl rfl rfl rfl rfl (VM 1 rfl rfl (VN 2 rfl rfl rfl (VO 3 3 rfl rfl rfl (bV 4 rfl rfl (cq (l := [.tmp 2]) rfl) ?_))))))))
 refine VE 5 rfl rfl (EC [4, 7] [0, 1, 2] rfl (mP b bt 39 im.vs 22 im.info.inlines rfl p_2 v_2 hp_2 (((out ++ (aO im.info.marks.l.length ++ aK iA im.info.marks.l)) ++ (aO im.info.lines.l.length ++ aK iE im.info.lines.l)) ++ (aO im.info.ends.l.length ++ aK jb im.info.ends.l)) fA (by simp only [List.length_append]; omega) 158 [.pointer (some ⟨b0_0, 0, none⟩)] (atC b0_0 b) (by kernel_rfl) (fun y p v out bx hy hp hl => qD b b0_0 bx y (h_inlines y hy) p v hp out hl)) ?_)
 rintro _ _ _ ⟨rfl, p_3, v_3, hp_3, rfl⟩
 refine bST rfl ?_
 refine BN (an (aj (DR [5] 6 (VD 0 0 tk105 0 rfl rfl rfl rfl rfl (VM 1 rfl rfl (VN 2 rfl rfl rfl (VO 3 4 rfl rfl rfl (bV 4 rfl rfl (cq (l := [.tmp 2]) rfl) ?_))))))))
 refine VE 5 rfl rfl (EC [5, 7] [0, 1, 2] rfl (ra b bt 39 im.vs 23 im.info.vars rfl p_3 v_3 hp_3 ((((out ++ (aO im.info.marks.l.length ++ aK iA im.info.marks.l)) ++ (aO im.info.lines.l.length ++ aK iE im.info.lines.l)) ++ (aO im.info.ends.l.length ++ aK jb im.info.ends.l)) ++ (aO im.info.inlines.l.length ++ aK fA im.info.inlines.l)) oC (by simp only [List.length_append]; omega) 160 [.pointer (some ⟨b0_0, 0, none⟩)] (atC b0_0 b) (by kernel_rfl) (fun y p v out bx hy hp hl => ua b b0_0 bx y (h_vars y hy) p v hp out hl)) ?_)
 rintro _ _ _ ⟨rfl, p_4, v_4, hp_4, rfl⟩
 refine bST rfl ?_
 refine BN (an (DR [5] 6 (VD 0 0 tk105 0 rfl rfl rfl rfl rfl (VM 1 rfl rfl (VN 2 rfl rfl rfl (VO 3 5 rfl rfl rfl (bV 4 rfl rfl (cq (l := [.tmp 2]) rfl) ?_)))))))
 refine VE 5 rfl rfl (EC [6, 7] [0, 1, 2] rfl (oG b bt 39 im.vs 24 im.info.depths rfl p_4 v_4 hp_4 (((((out ++ (aO im.info.marks.l.length ++ aK iA im.info.marks.l)) ++ (aO im.info.lines.l.length ++ aK iE im.info.lines.l)) ++ (aO im.info.ends.l.length ++ aK jb im.info.ends.l)) ++ (aO im.info.inlines.l.length ++ aK fA im.info.inlines.l)) ++ (aO im.info.vars.l.length ++ aK oC im.info.vars.l)) ja (by simp only [List.length_append]; omega) 162 [.pointer (some ⟨b0_0, 0, none⟩)] (atC b0_0 b) (by kernel_rfl) (fun y p v out bx hy hp hl => rj b b0_0 bx y (h_depths y hy) p v hp out hl)) ?_)
 rintro _ _ _ ⟨rfl, p_5, v_5, hp_5, rfl⟩
 refine bST rfl ?_
 refine BN (FZ0 [0, 1, 2] Tryz.results79 ?_)
 rw [← hall]; exact ⟨rfl, p_5, v_5, hp_5, rfl⟩
theorem zU (b rb bt : Nat) (T : TypeId) (cs : List Value) (h0 : cs[19]? = some (.slice none 0 0)) (h1 : cs[20]? = some (.slice none 0 0)) (h2 : cs[21]? = some (.slice none 0 0)) (h3 : cs[22]? = some (.slice none 0 0)) (h4 : cs[23]? = some (.slice none 0 0)) (h5 : cs[24]? = some (.slice none 0 0)) (p v : Value) (r : List UInt8) (bad : Bool) (hr : r.length ≤ 1000000) :
   Con Tryz.prog 79 [.pointer (some ⟨b, 0, none⟩), .pointer (some ⟨bt, 19, none⟩)] [] [bO b p v (.pointer (some ⟨rb, 0, none⟩)), rdB rb r bad, Box bt T cs]
     fun _ ps hp' => ∃ (x : cA) (r' : List UInt8) (bad' : Bool), fb.one (.R r bad) fb.zero = (.R r' bad', eC x) ∧ ps = [x.ok] ∧ hp' = [bO b p v (.pointer (some ⟨rb, 0, none⟩)), rdB rb r' bad', Box bt T ((((((cs.set 19 x.marks.val).set 20 x.lines.val).set 21 x.ends.val).set 22 x.inlines.val).set 23 x.vars.val).set 24 x.depths.val)] := by
 refine Con.rdF (P1 := fun x => [ShF dA.row x.marks, b7 dA.ok x.marks.l, ShF du.row x.lines, b7 du.ok x.lines.l, ShF bE.row x.ends, b7 (fun _ : bE => Fa True) x.ends.l, ShF b8.row x.inlines, b7 b8.ok x.inlines.l, ShF eh.row x.vars, b7 eh.ok x.vars.l, ShF cC.row x.depths, b7 (fun _ : cC => Fa True) x.depths.l]) ?_ (fun x r' b' h p hp => by
   rw [List.mem_singleton.1 hp]
   exact Ent.mk2 (.of (aD 0 rfl)) (Ent.mk2 (.of (aD 1 rfl)) (Ent.mk2 (.of (aD 2 rfl)) (Ent.mk2 (.of (aD 3 rfl)) (Ent.mk2 (.of (aD 4 rfl)) (Ent.mk2 (.of (aD 6 rfl)) (Ent.mk2 (.of (aD 7 rfl)) (Ent.mk2 (.of (aD 8 rfl)) (Ent.mk2 (.of (aD 9 rfl)) ((.of (aD 10 rfl))))))))))))
 refine EN2 Tryz.func79 rfl (aSR (LT rfl (cx rfl rfl rfl (fun b0_0 => (aHN ?_)))))
 refine aNs (bR 3 rfl rfl ?_)
 show awp _ _ _ _ ⟨_, At _ 0 _ :: _, _⟩
 refine DR [5] 6 (VD 0 0 tk105 0 rfl rfl rfl rfl rfl (VM 1 rfl rfl (VN 2 rfl rfl rfl (VO 3 0 rfl rfl rfl (bV 4 rfl rfl (cq (l := [.tmp 2]) rfl) ?_)))))
 refine VE 5 rfl rfl (EC [0] [0, 1, 2] rfl (qA b rb bt T cs 19 (by exact h0) p v r bad (by omega) gi ga dA.ok 152 [.pointer (some ⟨b0_0, 0, none⟩)] (atC b0_0 b) (by kernel_rfl) (fun r bad bx hr => sV b rb b0_0 bx p v r bad hr)) ?_)
 rintro _ _ _ ⟨l_marks, r_0, b_0, hq_0, rfl, rfl⟩; have hl_0 := db (by omega) hq_0
 refine bST rfl ?_
 refine BN (an (aj (DR [5] 6 (VD 0 0 tk105 2 rfl rfl rfl rfl rfl (VM 1 rfl rfl (VN 2 rfl rfl rfl (VO 3 1 rfl rfl rfl (bV 4 rfl rfl (cq (l := [.tmp 2]) rfl) ?_))))))))
 refine VE 5 rfl rfl (EC [0] [0, 1, 2] rfl (pY b rb bt T (cs.set 19 l_marks.val) 20 (by rw [List.getElem?_set_ne (by decide)]; exact h1) p v r_0 b_0 (by omega) fS gh du.ok 154 [.pointer (some ⟨b0_0, 0, none⟩)] (atC b0_0 b) (by kernel_rfl) (fun r bad bx hr => tu b rb b0_0 bx p v r bad hr)) ?_)
 rintro _ _ _ ⟨l_lines, r_1, b_1, hq_1, rfl, rfl⟩; have hl_1 := db (by omega) hq_1
 refine bST rfl ?_
 refine BN (an (aj (DR [5] 6 (VD 0 0 tk105 4 rfl rfl rfl rfl rfl (VM 1 rfl rfl (VN 2 rfl rfl rfl (VO 3 2 rfl rfl rfl (bV 4 rfl rfl (cq (l := [.tmp 2]) rfl) ?_))))))))
 refine VE 5 rfl rfl (EC [0] [0, 1, 2] rfl (pq b rb bt T ((cs.set 19 l_marks.val).set 20 l_lines.val) 21 (by rw [List.getElem?_set_ne (by decide), List.getElem?_set_ne (by decide)]; exact h2) p v r_1 b_1 (by omega) gM gz (fun _ : bE => Fa True) 156 [.pointer (some ⟨b0_0, 0, none⟩)] (atC b0_0 b) (by kernel_rfl) (fun r bad bx hr => sR b rb b0_0 bx p v r bad hr)) ?_)
 rintro _ _ _ ⟨l_ends, r_2, b_2, hq_2, rfl, rfl⟩; have hl_2 := db (by omega) hq_2
 refine bST rfl ?_
 refine BN (an (aj (DR [5] 6 (VD 0 0 tk105 6 rfl rfl rfl rfl rfl (VM 1 rfl rfl (VN 2 rfl rfl rfl (VO 3 3 rfl rfl rfl (bV 4 rfl rfl (cq (l := [.tmp 2]) rfl) ?_))))))))
 refine VE 5 rfl rfl (EC [0] [0, 1, 2] rfl (nr b rb bt T (((cs.set 19 l_marks.val).set 20 l_lines.val).set 21 l_ends.val) 22 (by rw [List.getElem?_set_ne (by decide), List.getElem?_set_ne (by decide), List.getElem?_set_ne (by decide)]; exact h3) p v r_2 b_2 (by omega) dU ep b8.ok 158 [.pointer (some ⟨b0_0, 0, none⟩)] (atC b0_0 b) (by kernel_rfl) (fun r bad bx hr => pz b rb b0_0 bx p v r bad hr)) ?_)
 rintro _ _ _ ⟨l_inlines, r_3, b_3, hq_3, rfl, rfl⟩; have hl_3 := db (by omega) hq_3
 refine bST rfl ?_
 refine BN (an (aj (DR [5] 6 (VD 0 0 tk105 8 rfl rfl rfl rfl rfl (VM 1 rfl rfl (VN 2 rfl rfl rfl (VO 3 4 rfl rfl rfl (bV 4 rfl rfl (cq (l := [.tmp 2]) rfl) ?_))))))))
 refine VE 5 rfl rfl (EC [0] [0, 1, 2] rfl (q5 b rb bt T ((((cs.set 19 l_marks.val).set 20 l_lines.val).set 21 l_ends.val).set 22 l_inlines.val) 23 (by rw [List.getElem?_set_ne (by decide), List.getElem?_set_ne (by decide), List.getElem?_set_ne (by decide), List.getElem?_set_ne (by decide)]; exact h4) p v r_3 b_3 (by omega) jO iS eh.ok 160 [.pointer (some ⟨b0_0, 0, none⟩)] (atC b0_0 b) (by kernel_rfl) (fun r bad bx hr => uU b rb b0_0 bx p v r bad hr)) ?_)
 rintro _ _ _ ⟨l_vars, r_4, b_4, hq_4, rfl, rfl⟩; have hl_4 := db (by omega) hq_4
 refine bST rfl ?_
 refine BN (an (DR [5] 6 (VD 0 0 tk105 10 rfl rfl rfl rfl rfl (VM 1 rfl rfl (VN 2 rfl rfl rfl (VO 3 5 rfl rfl rfl (bV 4 rfl rfl (cq (l := [.tmp 2]) rfl) ?_)))))))
 refine VE 5 rfl rfl (EC [0] [0, 1, 2] rfl (oH b rb bt T (((((cs.set 19 l_marks.val).set 20 l_lines.val).set 21 l_ends.val).set 22 l_inlines.val).set 23 l_vars.val) 24 (by rw [List.getElem?_set_ne (by decide), List.getElem?_set_ne (by decide), List.getElem?_set_ne (by decide), List.getElem?_set_ne (by decide), List.getElem?_set_ne (by decide)]; exact h5) p v r_4 b_4 (by omega) fo fw (fun _ : cC => Fa True) 162 [.pointer (some ⟨b0_0, 0, none⟩)] (atC b0_0 b) (by kernel_rfl) (fun r bad bx hr => q6 b rb b0_0 bx p v r bad hr)) ?_)
 rintro _ _ _ ⟨l_depths, r_5, b_5, hq_5, rfl, rfl⟩; have hl_5 := db (by omega) hq_5
 refine bST rfl ?_
 refine BN ?_
 refine ta [2, 1, 4, 3, 6, 5, 8, 7, 10, 9, 12, 11] [0, 1, 2] rfl Tryz.results79 ?_ (.inl rfl)
 refine ⟨⟨l_marks, l_lines, l_ends, l_inlines, l_vars, l_depths⟩, r_5, b_5, ?_, rfl, rfl⟩
 unfold fb
 simp only [ec, dK]
 rw [show (dw gi).zero = [] from rfl, hq_0]
 dsimp only
 rw [show (dw fS).zero = [] from rfl, hq_1]
 dsimp only
 rw [show (dw gM).zero = [] from rfl, hq_2]
 dsimp only
 rw [show (dw dU).zero = [] from rfl, hq_3]
 dsimp only
 rw [show (dw jO).zero = [] from rfl, hq_4]
 dsimp only
 rw [show (dw fo).zero = [] from rfl, hq_5]
theorem ah {a b : List UInt8} {N : Nat} (h : (a ++ b).length ≤ N) : a.length ≤ N ∧ b.length ≤ N := by rw [List.length_append] at h; omega
theorem cZ {s : ByteArray} (h : (ak.enc s).length ≤ 1000000000) : s.size ≤ 4611686018427387904 := by rw [gp] at h; omega
set_option maxHeartbeats 4000000 in
theorem xf (x : ax) (hx : cI x) (b bt : Nat) (p v : Value) (hp : p = .pointer none ∨ p = .pointer (some ⟨b, 0, none⟩)) (out : List UInt8) (hl : (out ++ ba.enc (aV x)).length ≤ 1000000000) :
   Con Tryz.prog 22 [.pointer (some ⟨b, 0, none⟩), .pointer (some ⟨bt, 0, none⟩)] [x.ok] [bO b p v (.pointer none), aN v 5 1 (out.map cX), Box bt 39 x.vs]
     fun _ ps hp' => ps = [] ∧ ∃ p' v', (p' = .pointer none ∨ p' = .pointer (some ⟨b, 0, none⟩)) ∧ hp' = [bO b p' v' (.pointer none), aN v' 5 1 ((out ++ ba.enc (aV x)).map cX), Box bt 39 x.vs] := by
 have he : ba.enc (aV x) = ak.enc x.name ++ (bK.enc x.lib ++ (ai.enc x.code ++ (ai.enc x.data ++ (ai.enc x.zero ++ (ak.enc x.bytes ++ (ak.enc x.tls ++ (ai.enc x.block ++ ((aO x.nodes.l.length ++ aK cV x.nodes.l) ++ ((aO x.exports.l.length ++ aK cG x.exports.l) ++ ((aO x.imports.l.length ++ aK dF x.imports.l) ++ ((aO x.slots.l.length ++ aK ai.enc x.slots.l) ++ ((aO x.stubs.l.length ++ aK ai.enc x.stubs.l) ++ ((aO x.dyns.l.length ++ aK jz x.dyns.l) ++ ((aO x.inits.l.length ++ aK ai.enc x.inits.l) ++ ((aO x.lasts.l.length ++ aK ai.enc x.lasts.l) ++ (ai.enc x.entry ++ ((aO x.needs.l.length ++ aK ak.enc x.needs.l) ++ ((aO x.versions.l.length ++ aK cm x.versions.l) ++ (fb.enc (eC x.info) ++ ((aO x.changes.l.length ++ aK gO x.changes.l))))))))))))))))))))) := by
   rw [← ct ee ej x.nodes.l, ← ct ed et x.exports.l, ← ct ef eu x.imports.l, ← ct lC jn x.dyns.l, ← ct cW di x.versions.l, ← ct gX gA x.changes.l]; rfl
 rw [he] at hl ⊢
 obtain ⟨hi_code, hi_data, hi_zero, hi_block, hi_entry, hl_nodes, hl_exports, hl_imports, hl_slots, hl_stubs, hl_dyns, hl_inits, hl_lasts, hinf, hl_changes⟩ := hx
 have e0 : bo ak unT x.vs [0] = ak.enc x.name ++ ([]) := rfl
 have e2 : bo ai unI x.vs [2, 3, 4] = ai.enc x.code ++ (ai.enc x.data ++ (ai.enc x.zero ++ ([]))) := rfl
 have e3 : bo ak unT x.vs [5, 6] = ak.enc x.bytes ++ (ak.enc x.tls ++ ([])) := rfl
 have e4 : bo ai unI x.vs [7] = ai.enc x.block ++ ([]) := rfl
 have e13 : bo ai unI x.vs [16] = ai.enc x.entry ++ ([]) := rfl
 have hall : ((((((((((((((((((out ++ bo ak unT x.vs [0]) ++ bK.enc x.lib) ++ bo ai unI x.vs [2, 3, 4]) ++ bo ak unT x.vs [5, 6]) ++ bo ai unI x.vs [7]) ++ (aO x.nodes.l.length ++ aK cV x.nodes.l)) ++ (aO x.exports.l.length ++ aK cG x.exports.l)) ++ (aO x.imports.l.length ++ aK dF x.imports.l)) ++ (aO x.slots.l.length ++ aK ai.enc x.slots.l)) ++ (aO x.stubs.l.length ++ aK ai.enc x.stubs.l)) ++ (aO x.dyns.l.length ++ aK jz x.dyns.l)) ++ (aO x.inits.l.length ++ aK ai.enc x.inits.l)) ++ (aO x.lasts.l.length ++ aK ai.enc x.lasts.l)) ++ bo ai unI x.vs [16]) ++ (aO x.needs.l.length ++ aK ak.enc x.needs.l)) ++ (aO x.versions.l.length ++ aK cm x.versions.l)) ++ fb.enc (eC x.info)) ++ (aO x.changes.l.length ++ aK gO x.changes.l)) = out ++ (ak.enc x.name ++ (bK.enc x.lib ++ (ai.enc x.code ++ (ai.enc x.data ++ (ai.enc x.zero ++ (ak.enc x.bytes ++ (ak.enc x.tls ++ (ai.enc x.block ++ ((aO x.nodes.l.length ++ aK cV x.nodes.l) ++ ((aO x.exports.l.length ++ aK cG x.exports.l) ++ ((aO x.imports.l.length ++ aK dF x.imports.l) ++ ((aO x.slots.l.length ++ aK ai.enc x.slots.l) ++ ((aO x.stubs.l.length ++ aK ai.enc x.stubs.l) ++ ((aO x.dyns.l.length ++ aK jz x.dyns.l) ++ ((aO x.inits.l.length ++ aK ai.enc x.inits.l) ++ ((aO x.lasts.l.length ++ aK ai.enc x.lasts.l) ++ (ai.enc x.entry ++ ((aO x.needs.l.length ++ aK ak.enc x.needs.l) ++ ((aO x.versions.l.length ++ aK cm x.versions.l) ++ (fb.enc (eC x.info) ++ ((aO x.changes.l.length ++ aK gO x.changes.l)))))))))))))))))))))) := by simp only [e0, e2, e3, e4, e13, List.append_assoc, List.append_nil, List.nil_append, List.cons_append]
 have b_17 : ((((((((((((((((((out ++ bo ak unT x.vs [0]) ++ bK.enc x.lib) ++ bo ai unI x.vs [2, 3, 4]) ++ bo ak unT x.vs [5, 6]) ++ bo ai unI x.vs [7]) ++ (aO x.nodes.l.length ++ aK cV x.nodes.l)) ++ (aO x.exports.l.length ++ aK cG x.exports.l)) ++ (aO x.imports.l.length ++ aK dF x.imports.l)) ++ (aO x.slots.l.length ++ aK ai.enc x.slots.l)) ++ (aO x.stubs.l.length ++ aK ai.enc x.stubs.l)) ++ (aO x.dyns.l.length ++ aK jz x.dyns.l)) ++ (aO x.inits.l.length ++ aK ai.enc x.inits.l)) ++ (aO x.lasts.l.length ++ aK ai.enc x.lasts.l)) ++ bo ai unI x.vs [16]) ++ (aO x.needs.l.length ++ aK ak.enc x.needs.l)) ++ (aO x.versions.l.length ++ aK cm x.versions.l)) ++ fb.enc (eC x.info)) ++ (aO x.changes.l.length ++ aK gO x.changes.l)).length ≤ 1000000000 := by rw [hall]; exact hl
 have b_16 := (ah b_17).1
 have b_15 := (ah b_16).1
 have b_14 := (ah b_15).1
 have b_13 := (ah b_14).1
 have b_12 := (ah b_13).1
 have b_11 := (ah b_12).1
 have b_10 := (ah b_11).1
 have b_9 := (ah b_10).1
 have b_8 := (ah b_9).1
 have b_7 := (ah b_8).1
 have b_6 := (ah b_7).1
 have b_5 := (ah b_6).1
 have b_4 := (ah b_5).1
 have b_3 := (ah b_4).1
 have b_2 := (ah b_3).1
 have b_1 := (ah b_2).1
 have b_0 := (ah b_1).1
 have q_0 := ah (ah hl).2
 have q_1 := ah q_0.2
 have q_2 := ah q_1.2
 have q_3 := ah q_2.2
 have q_4 := ah q_3.2
 have q_5 := ah q_4.2
 have q_6 := ah q_5.2
 have q_7 := ah q_6.2
 have q_8 := ah q_7.2
 have q_9 := ah q_8.2
 have q_10 := ah q_9.2
 have q_11 := ah q_10.2
 have q_12 := ah q_11.2
 have q_13 := ah q_12.2
 have q_14 := ah q_13.2
 have q_15 := ah q_14.2
 have q_16 := ah q_15.2
 have q_17 := ah q_16.2
 have q_18 := ah q_17.2
 have q_19 := ah q_18.2
 refine EN2 Tryz.func22 rfl (aY _ (ax.f_nodes (.of (aD 0 rfl))) (aY _ (ax.f_exports (.of (aD 1 rfl))) (aY _ (ax.f_imports (.of (aD 2 rfl))) (aY _ (ax.f_slots (.of (aD 3 rfl))) (aY _ (ax.f_stubs (.of (aD 4 rfl))) (aY _ (ax.f_dyns (.of (aD 5 rfl))) (aY _ (ax.f_inits (.of (aD 6 rfl))) (aY _ (ax.f_lasts (.of (aD 7 rfl))) (aY _ (ax.f_needs (.of (aD 8 rfl))) (aY _ (ax.f_versions (.of (aD 9 rfl))) (aY _ (ax.f_changes (.of (aD 10 rfl))) (aSR (LT rfl (cx rfl rfl rfl (fun b0_0 => ?_)))))))))))))))
 refine aHN ?_
 refine aNs (bR 3 rfl rfl ?_)
 show awp _ _ _ _ ⟨_, At _ 0 _ :: _, _⟩
 refine aa (aU rfl (cq (l := [.tmp 2]) rfl) (aA rfl (aNn (aSR (aU rfl (cq (l := [.tmp 2]) rfl) (LT rfl (bI (zs := [.nilFunc]) (by kernel_rfl) rfl (fun b2_1 => (aHN ?_)))))))))
 refine aT rfl (bg 4 tk111 rfl rfl rfl rfl (aHK ?_))
 refine aNs (bR 4 rfl rfl ?_)
 show awp _ _ _ _ ⟨_, atT b2_1 b0_0 :: _, _⟩
 refine DR [5] 6 (VD 0 0 tk105 1 rfl rfl rfl rfl rfl (VM 1 rfl rfl (VN 2 rfl rfl rfl (VO 3 0 rfl rfl rfl (VB (zs := [.pointer none]) 4 rfl el227 rfl rfl rfl rfl (.more rfl (.v rfl .nil) .nil) rfl rfl (fun v3_4 => (VE 5 rfl rfl (EC [14] [0, 1, 2] rfl (dI b bt 39 x.vs p v hp (out) ⟨v3_4, 1, [0]⟩ (aH x.name (cZ q_0.1) rfl bz) b_0) ?_))))))))
 rintro _ _ _ ⟨rfl, p_0, v_0, hp_0, rfl⟩
 refine bST rfl ?_
 refine BN (an (aj (DR [4] 5 (VD 0 0 tk105 2 rfl rfl rfl rfl rfl (VM 1 rfl rfl (VN 2 rfl rfl rfl (VO 3 1 rfl rfl rfl (VE 4 rfl rfl (EC [] [0, 1, 2] rfl (kM x.lib b bt 39 x.vs 1 rfl p_0 v_0 hp_0 (out ++ bo ak unT x.vs [0]) b_1) ?_)))))))))
 rintro _ _ _ ⟨rfl, p_1, v_1, hp_1, rfl⟩
 refine bST rfl ?_
 refine BN (an (aj (DR [11] 12 (VD 0 0 tk105 2 rfl rfl rfl rfl rfl (VM 1 rfl rfl (VN 2 rfl rfl rfl (VO 3 2 rfl rfl rfl (VM 4 rfl rfl (VN 5 rfl rfl rfl (VO 6 3 rfl rfl rfl (VM 7 rfl rfl (VN 8 rfl rfl rfl (VO 9 4 rfl rfl rfl (VB (zs := [.pointer none]) 10 rfl el226 rfl rfl rfl rfl (.more rfl (.v rfl .nil) (.more rfl (.v rfl .nil) (.more rfl (.v rfl .nil) .nil))) rfl rfl (fun v5_10 => ?_)))))))))))))))
 refine VE 11 rfl rfl (EC [15] [0, 1, 2] rfl (cO b bt 39 x.vs p_1 v_1 hp_1 ((out ++ bo ak unT x.vs [0]) ++ bK.enc x.lib) ⟨v5_10, 3, [2, 3, 4]⟩ (aH x.code hi_code rfl (aH x.data hi_data rfl (aH x.zero hi_zero rfl bz))) b_2) ?_)
 rintro _ _ _ ⟨rfl, p_2, v_2, hp_2, rfl⟩
 refine bST rfl ?_
 refine BN (an (aj (DR [8] 9 (VD 0 0 tk105 3 rfl rfl rfl rfl rfl (VM 1 rfl rfl (VN 2 rfl rfl rfl (VO 3 5 rfl rfl rfl (VM 4 rfl rfl (VN 5 rfl rfl rfl (VO 6 6 rfl rfl rfl (VB (zs := [.pointer none]) 7 rfl el227 rfl rfl rfl rfl (.more rfl (.v rfl .nil) (.more rfl (.v rfl .nil) .nil)) rfl rfl (fun v6_7 => (VE 8 rfl rfl (EC [16] [0, 1, 2] rfl (dI b bt 39 x.vs p_2 v_2 hp_2 (((out ++ bo ak unT x.vs [0]) ++ bK.enc x.lib) ++ bo ai unI x.vs [2, 3, 4]) ⟨v6_7, 2, [5, 6]⟩ (aH x.bytes (cZ q_5.1) rfl (aH x.tls (cZ q_6.1) rfl bz)) b_3) ?_))))))))))))))
 rintro _ _ _ ⟨rfl, p_3, v_3, hp_3, rfl⟩
 refine bST rfl ?_
 refine BN (an (aj (DR [5] 6 (VD 0 0 tk105 4 rfl rfl rfl rfl rfl (VM 1 rfl rfl (VN 2 rfl rfl rfl (VO 3 7 rfl rfl rfl (VB (zs := [.pointer none]) 4 rfl el226 rfl rfl rfl rfl (.more rfl (.v rfl .nil) .nil) rfl rfl (fun v7_4 => (VE 5 rfl rfl (EC [17] [0, 1, 2] rfl (cO b bt 39 x.vs p_3 v_3 hp_3 ((((out ++ bo ak unT x.vs [0]) ++ bK.enc x.lib) ++ bo ai unI x.vs [2, 3, 4]) ++ bo ak unT x.vs [5, 6]) ⟨v7_4, 1, [7]⟩ (aH x.block hi_block rfl bz) b_4) ?_)))))))))))
 rintro _ _ _ ⟨rfl, p_4, v_4, hp_4, rfl⟩
 refine bST rfl ?_
 refine BN (an (aj (DR [5] 6 (VD 0 0 tk105 5 rfl rfl rfl rfl rfl (VM 1 rfl rfl (VN 2 rfl rfl rfl (VO 3 8 rfl rfl rfl (bV 4 rfl rfl (cq (l := [.tmp 2]) rfl) (VE 5 rfl rfl (EC [1, 12] [0, 1, 2] rfl (ng b bt 39 x.vs 8 x.nodes rfl p_4 v_4 hp_4 (((((out ++ bo ak unT x.vs [0]) ++ bK.enc x.lib) ++ bo ai unI x.vs [2, 3, 4]) ++ bo ak unT x.vs [5, 6]) ++ bo ai unI x.vs [7]) cV b_5 68 [.pointer (some ⟨b0_0, 0, none⟩)] (atC b0_0 b) (by kernel_rfl) (fun y p v out bx hy hp hl => pK b b0_0 bx y (hl_nodes y hy) p v hp out hl)) ?_))))))))))
 rintro _ _ _ ⟨rfl, p_5, v_5, hp_5, rfl⟩
 refine bST rfl ?_
 refine BN (an (aj (DR [5] 6 (VD 0 0 tk105 5 rfl rfl rfl rfl rfl (VM 1 rfl rfl (VN 2 rfl rfl rfl (VO 3 9 rfl rfl rfl (bV 4 rfl rfl (cq (l := [.tmp 2]) rfl) (VE 5 rfl rfl (EC [2, 12] [0, 1, 2] rfl (na b bt 39 x.vs 9 x.exports rfl p_5 v_5 hp_5 ((((((out ++ bo ak unT x.vs [0]) ++ bK.enc x.lib) ++ bo ai unI x.vs [2, 3, 4]) ++ bo ak unT x.vs [5, 6]) ++ bo ai unI x.vs [7]) ++ (aO x.nodes.l.length ++ aK cV x.nodes.l)) cG b_6 70 [.pointer (some ⟨b0_0, 0, none⟩)] (atC b0_0 b) (by kernel_rfl) (fun y p v out bx hy hp hl => o7 b b0_0 bx y (hl_exports y hy) p v hp out hl)) ?_))))))))))
 rintro _ _ _ ⟨rfl, p_6, v_6, hp_6, rfl⟩
 refine bST rfl ?_
 refine BN (an (aj (DR [5] 6 (VD 0 0 tk105 5 rfl rfl rfl rfl rfl (VM 1 rfl rfl (VN 2 rfl rfl rfl (VO 3 10 rfl rfl rfl (bV 4 rfl rfl (cq (l := [.tmp 2]) rfl) (VE 5 rfl rfl (EC [3, 12] [0, 1, 2] rfl (mV b bt 39 x.vs 10 x.imports rfl p_6 v_6 hp_6 (((((((out ++ bo ak unT x.vs [0]) ++ bK.enc x.lib) ++ bo ai unI x.vs [2, 3, 4]) ++ bo ak unT x.vs [5, 6]) ++ bo ai unI x.vs [7]) ++ (aO x.nodes.l.length ++ aK cV x.nodes.l)) ++ (aO x.exports.l.length ++ aK cG x.exports.l)) dF b_7 72 [.pointer (some ⟨b0_0, 0, none⟩)] (atC b0_0 b) (by kernel_rfl) (fun y p v out bx hy hp hl => qc b b0_0 bx y (hl_imports y hy) p v hp out hl)) ?_))))))))))
 rintro _ _ _ ⟨rfl, p_7, v_7, hp_7, rfl⟩
 refine bST rfl ?_
 refine BN (an (aj (DR [5] 6 (VD 0 0 tk105 5 rfl rfl rfl rfl rfl (VM 1 rfl rfl (VN 2 rfl rfl rfl (VO 3 11 rfl rfl rfl (VM 4 rfl rfl (VE 5 rfl rfl (EC [4, 12] [0, 1, 2] rfl (gF b bt 39 x.vs 11 x.slots rfl p_7 v_7 hp_7 ((((((((out ++ bo ak unT x.vs [0]) ++ bK.enc x.lib) ++ bo ai unI x.vs [2, 3, 4]) ++ bo ak unT x.vs [5, 6]) ++ bo ai unI x.vs [7]) ++ (aO x.nodes.l.length ++ aK cV x.nodes.l)) ++ (aO x.exports.l.length ++ aK cG x.exports.l)) ++ (aO x.imports.l.length ++ aK dF x.imports.l)) ai.enc b_8 62 [.pointer (some ⟨b0_0, 0, none⟩)] (atC b0_0 b) (by kernel_rfl) (fun y p v out bx hy hp hl => iX b b0_0 bx y (hl_slots y hy) p v hp out hl)) ?_))))))))))
 rintro _ _ _ ⟨rfl, p_8, v_8, hp_8, rfl⟩
 refine bST rfl ?_
 refine BN (an (aj (DR [5] 6 (VD 0 0 tk105 5 rfl rfl rfl rfl rfl (VM 1 rfl rfl (VN 2 rfl rfl rfl (VO 3 12 rfl rfl rfl (VM 4 rfl rfl (VE 5 rfl rfl (EC [5, 12] [0, 1, 2] rfl (gF b bt 39 x.vs 12 x.stubs rfl p_8 v_8 hp_8 (((((((((out ++ bo ak unT x.vs [0]) ++ bK.enc x.lib) ++ bo ai unI x.vs [2, 3, 4]) ++ bo ak unT x.vs [5, 6]) ++ bo ai unI x.vs [7]) ++ (aO x.nodes.l.length ++ aK cV x.nodes.l)) ++ (aO x.exports.l.length ++ aK cG x.exports.l)) ++ (aO x.imports.l.length ++ aK dF x.imports.l)) ++ (aO x.slots.l.length ++ aK ai.enc x.slots.l)) ai.enc b_9 62 [.pointer (some ⟨b0_0, 0, none⟩)] (atC b0_0 b) (by kernel_rfl) (fun y p v out bx hy hp hl => iX b b0_0 bx y (hl_stubs y hy) p v hp out hl)) ?_))))))))))
 rintro _ _ _ ⟨rfl, p_9, v_9, hp_9, rfl⟩
 refine bST rfl ?_
 refine BN (an (aj (DR [5] 6 (VD 0 0 tk105 5 rfl rfl rfl rfl rfl (VM 1 rfl rfl (VN 2 rfl rfl rfl (VO 3 13 rfl rfl rfl (bV 4 rfl rfl (cq (l := [.tmp 2]) rfl) (VE 5 rfl rfl (EC [6, 12] [0, 1, 2] rfl (qW b bt 39 x.vs 13 x.dyns rfl p_9 v_9 hp_9 ((((((((((out ++ bo ak unT x.vs [0]) ++ bK.enc x.lib) ++ bo ai unI x.vs [2, 3, 4]) ++ bo ak unT x.vs [5, 6]) ++ bo ai unI x.vs [7]) ++ (aO x.nodes.l.length ++ aK cV x.nodes.l)) ++ (aO x.exports.l.length ++ aK cG x.exports.l)) ++ (aO x.imports.l.length ++ aK dF x.imports.l)) ++ (aO x.slots.l.length ++ aK ai.enc x.slots.l)) ++ (aO x.stubs.l.length ++ aK ai.enc x.stubs.l)) jz b_10 75 [.pointer (some ⟨b0_0, 0, none⟩)] (atC b0_0 b) (by kernel_rfl) (fun y p v out bx hy hp hl => uC b b0_0 bx y (hl_dyns y hy) p v hp out hl)) ?_))))))))))
 rintro _ _ _ ⟨rfl, p_10, v_10, hp_10, rfl⟩
 refine bST rfl ?_
 refine BN (an (aj (DR [5] 6 (VD 0 0 tk105 5 rfl rfl rfl rfl rfl (VM 1 rfl rfl (VN 2 rfl rfl rfl (VO 3 14 rfl rfl rfl (VM 4 rfl rfl (VE 5 rfl rfl (EC [7, 12] [0, 1, 2] rfl (gF b bt 39 x.vs 14 x.inits rfl p_10 v_10 hp_10 (((((((((((out ++ bo ak unT x.vs [0]) ++ bK.enc x.lib) ++ bo ai unI x.vs [2, 3, 4]) ++ bo ak unT x.vs [5, 6]) ++ bo ai unI x.vs [7]) ++ (aO x.nodes.l.length ++ aK cV x.nodes.l)) ++ (aO x.exports.l.length ++ aK cG x.exports.l)) ++ (aO x.imports.l.length ++ aK dF x.imports.l)) ++ (aO x.slots.l.length ++ aK ai.enc x.slots.l)) ++ (aO x.stubs.l.length ++ aK ai.enc x.stubs.l)) ++ (aO x.dyns.l.length ++ aK jz x.dyns.l)) ai.enc b_11 62 [.pointer (some ⟨b0_0, 0, none⟩)] (atC b0_0 b) (by kernel_rfl) (fun y p v out bx hy hp hl => iX b b0_0 bx y (hl_inits y hy) p v hp out hl)) ?_))))))))))
 rintro _ _ _ ⟨rfl, p_11, v_11, hp_11, rfl⟩
 refine bST rfl ?_
 refine BN (an (aj (DR [5] 6 (VD 0 0 tk105 5 rfl rfl rfl rfl rfl (VM 1 rfl rfl (VN 2 rfl rfl rfl (VO 3 15 rfl rfl rfl (VM 4 rfl rfl (VE 5 rfl rfl (EC [8, 12] [0, 1, 2] rfl (gF b bt 39 x.vs 15 x.lasts rfl p_11 v_11 hp_11 ((((((((((((out ++ bo ak unT x.vs [0]) ++ bK.enc x.lib) ++ bo ai unI x.vs [2, 3, 4]) ++ bo ak unT x.vs [5, 6]) ++ bo ai unI x.vs [7]) ++ (aO x.nodes.l.length ++ aK cV x.nodes.l)) ++ (aO x.exports.l.length ++ aK cG x.exports.l)) ++ (aO x.imports.l.length ++ aK dF x.imports.l)) ++ (aO x.slots.l.length ++ aK ai.enc x.slots.l)) ++ (aO x.stubs.l.length ++ aK ai.enc x.stubs.l)) ++ (aO x.dyns.l.length ++ aK jz x.dyns.l)) ++ (aO x.inits.l.length ++ aK ai.enc x.inits.l)) ai.enc b_12 62 [.pointer (some ⟨b0_0, 0, none⟩)] (atC b0_0 b) (by kernel_rfl) (fun y p v out bx hy hp hl => iX b b0_0 bx y (hl_lasts y hy) p v hp out hl)) ?_))))))))))
 rintro _ _ _ ⟨rfl, p_12, v_12, hp_12, rfl⟩
 refine bST rfl ?_
 refine BN (an (aj (DR [5] 6 (VD 0 0 tk105 5 rfl rfl rfl rfl rfl (VM 1 rfl rfl (VN 2 rfl rfl rfl (VO 3 16 rfl rfl rfl (VB (zs := [.pointer none]) 4 rfl el226 rfl rfl rfl rfl (.more rfl (.v rfl .nil) .nil) rfl rfl (fun v16_4 => (VE 5 rfl rfl (EC [18] [0, 1, 2] rfl (cO b bt 39 x.vs p_12 v_12 hp_12 (((((((((((((out ++ bo ak unT x.vs [0]) ++ bK.enc x.lib) ++ bo ai unI x.vs [2, 3, 4]) ++ bo ak unT x.vs [5, 6]) ++ bo ai unI x.vs [7]) ++ (aO x.nodes.l.length ++ aK cV x.nodes.l)) ++ (aO x.exports.l.length ++ aK cG x.exports.l)) ++ (aO x.imports.l.length ++ aK dF x.imports.l)) ++ (aO x.slots.l.length ++ aK ai.enc x.slots.l)) ++ (aO x.stubs.l.length ++ aK ai.enc x.stubs.l)) ++ (aO x.dyns.l.length ++ aK jz x.dyns.l)) ++ (aO x.inits.l.length ++ aK ai.enc x.inits.l)) ++ (aO x.lasts.l.length ++ aK ai.enc x.lasts.l)) ⟨v16_4, 1, [16]⟩ (aH x.entry hi_entry rfl bz) b_13) ?_)))))))))))
 rintro _ _ _ ⟨rfl, p_13, v_13, hp_13, rfl⟩
 refine bST rfl ?_
 refine BN (an (aj (DR [5] 6 (VD 0 0 tk105 6 rfl rfl rfl rfl rfl (VM 1 rfl rfl (VN 2 rfl rfl rfl (VO 3 17 rfl rfl rfl (VD 4 0 tk111 5 rfl rfl rfl rfl rfl (VE 5 rfl rfl (EC [9, 12] [0, 1, 2] rfl (jf b bt 39 x.vs 17 x.needs rfl p_13 v_13 hp_13 ((((((((((((((out ++ bo ak unT x.vs [0]) ++ bK.enc x.lib) ++ bo ai unI x.vs [2, 3, 4]) ++ bo ak unT x.vs [5, 6]) ++ bo ai unI x.vs [7]) ++ (aO x.nodes.l.length ++ aK cV x.nodes.l)) ++ (aO x.exports.l.length ++ aK cG x.exports.l)) ++ (aO x.imports.l.length ++ aK dF x.imports.l)) ++ (aO x.slots.l.length ++ aK ai.enc x.slots.l)) ++ (aO x.stubs.l.length ++ aK ai.enc x.stubs.l)) ++ (aO x.dyns.l.length ++ aK jz x.dyns.l)) ++ (aO x.inits.l.length ++ aK ai.enc x.inits.l)) ++ (aO x.lasts.l.length ++ aK ai.enc x.lasts.l)) ++ bo ai unI x.vs [16]) ak.enc b_14 64 [.pointer (some ⟨b0_0, 0, none⟩)] (atC b0_0 b) (by kernel_rfl) (fun y p v out bx _ hp hl => mw b b0_0 bx y p v hp out hl)) ?_))))))))))
 rintro _ _ _ ⟨rfl, p_14, v_14, hp_14, rfl⟩
 refine bST rfl ?_
 refine BN (an (aj (aY (cD (atC b0_0 b) (cD (atT b2_1 b0_0) (b7 aF.ok x.versions.l))) (Ent.mk2 (.of (aD 6 rfl)) (Ent.mk2 (.of (aD 5 rfl)) (ax.f_versionsA (.of (aD 18 rfl))))) (DR [5] 6 (VD 0 0 tk105 7 rfl rfl rfl rfl rfl (VM 1 rfl rfl (VN 2 rfl rfl rfl (VO 3 18 rfl rfl rfl (bV 4 rfl rfl (cq (l := [.tmp 2, .tmp 5]) rfl) (VE 5 rfl rfl (EC [10, 19] [0, 1, 2] rfl (ka b bt 39 x.vs 18 x.versions rfl p_14 v_14 hp_14 (((((((((((((((out ++ bo ak unT x.vs [0]) ++ bK.enc x.lib) ++ bo ai unI x.vs [2, 3, 4]) ++ bo ak unT x.vs [5, 6]) ++ bo ai unI x.vs [7]) ++ (aO x.nodes.l.length ++ aK cV x.nodes.l)) ++ (aO x.exports.l.length ++ aK cG x.exports.l)) ++ (aO x.imports.l.length ++ aK dF x.imports.l)) ++ (aO x.slots.l.length ++ aK ai.enc x.slots.l)) ++ (aO x.stubs.l.length ++ aK ai.enc x.stubs.l)) ++ (aO x.dyns.l.length ++ aK jz x.dyns.l)) ++ (aO x.inits.l.length ++ aK ai.enc x.inits.l)) ++ (aO x.lasts.l.length ++ aK ai.enc x.lasts.l)) ++ bo ai unI x.vs [16]) ++ (aO x.needs.l.length ++ aK ak.enc x.needs.l)) cm b_15 78 [.pointer (some ⟨b0_0, 0, none⟩), .pointer (some ⟨b2_1, 0, none⟩)] (cD (atC b0_0 b) (cD (atT b2_1 b0_0) (b7 aF.ok x.versions.l))) (by kernel_rfl) (fun y p v out bx hy hp hl => (lU b b0_0 b2_1 bx y p v hp out hl).pre1 (Ent.mk2 (Ent.left (.of (aD 0 rfl))) (Ent.mk2 (Ent.left (Ent.right (.of (aD 0 rfl)))) ((Ent.right (Ent.right (.of (aD 0 rfl)))).allm hy))))) ?_)))))))))))
 rintro _ _ _ ⟨rfl, p_15, v_15, hp_15, rfl⟩
 refine bST rfl ?_
 refine BN (an (aj (DR [4] 5 (VD 0 0 tk105 7 rfl rfl rfl rfl rfl (VM 1 rfl rfl (VN 2 rfl rfl rfl (VO 3 19 rfl rfl rfl (VE 4 rfl rfl (EC [0] [0, 1, 2] rfl (yT x hinf b bt p_15 v_15 hp_15 ((((((((((((((((out ++ bo ak unT x.vs [0]) ++ bK.enc x.lib) ++ bo ai unI x.vs [2, 3, 4]) ++ bo ak unT x.vs [5, 6]) ++ bo ai unI x.vs [7]) ++ (aO x.nodes.l.length ++ aK cV x.nodes.l)) ++ (aO x.exports.l.length ++ aK cG x.exports.l)) ++ (aO x.imports.l.length ++ aK dF x.imports.l)) ++ (aO x.slots.l.length ++ aK ai.enc x.slots.l)) ++ (aO x.stubs.l.length ++ aK ai.enc x.stubs.l)) ++ (aO x.dyns.l.length ++ aK jz x.dyns.l)) ++ (aO x.inits.l.length ++ aK ai.enc x.inits.l)) ++ (aO x.lasts.l.length ++ aK ai.enc x.lasts.l)) ++ bo ai unI x.vs [16]) ++ (aO x.needs.l.length ++ aK ak.enc x.needs.l)) ++ (aO x.versions.l.length ++ aK cm x.versions.l)) b_16) ?_)))))))))
 rintro _ _ _ ⟨rfl, p_16, v_16, hp_16, rfl⟩
 refine bST rfl ?_
 refine BN (an (aY (cD (atC b0_0 b) (b7 cr.ok x.changes.l)) (Ent.mk2 (.of (aD 7 rfl)) (ax.f_changesA (.of (aD 19 rfl)))) (DR [5] 6 (VD 0 0 tk105 8 rfl rfl rfl rfl rfl (VM 1 rfl rfl (VN 2 rfl rfl rfl (VO 3 25 rfl rfl rfl (bV 4 rfl rfl (cq (l := [.tmp 2]) rfl) (VE 5 rfl rfl (EC [11, 20] [0, 1, 2] rfl (qK b bt 39 x.vs 25 x.changes rfl p_16 v_16 hp_16 (((((((((((((((((out ++ bo ak unT x.vs [0]) ++ bK.enc x.lib) ++ bo ai unI x.vs [2, 3, 4]) ++ bo ak unT x.vs [5, 6]) ++ bo ai unI x.vs [7]) ++ (aO x.nodes.l.length ++ aK cV x.nodes.l)) ++ (aO x.exports.l.length ++ aK cG x.exports.l)) ++ (aO x.imports.l.length ++ aK dF x.imports.l)) ++ (aO x.slots.l.length ++ aK ai.enc x.slots.l)) ++ (aO x.stubs.l.length ++ aK ai.enc x.stubs.l)) ++ (aO x.dyns.l.length ++ aK jz x.dyns.l)) ++ (aO x.inits.l.length ++ aK ai.enc x.inits.l)) ++ (aO x.lasts.l.length ++ aK ai.enc x.lasts.l)) ++ bo ai unI x.vs [16]) ++ (aO x.needs.l.length ++ aK ak.enc x.needs.l)) ++ (aO x.versions.l.length ++ aK cm x.versions.l)) ++ fb.enc (eC x.info)) gO b_17 81 [.pointer (some ⟨b0_0, 0, none⟩)] (cD (atC b0_0 b) (b7 cr.ok x.changes.l)) (by kernel_rfl) (fun y p v out bx hy hp hl => (sI b b0_0 bx y (hl_changes y hy) p v hp out hl).pre1 (Ent.mk2 (Ent.left (.of (aD 0 rfl))) ((Ent.right (.of (aD 0 rfl))).allm hy)))) ?_))))))))))
 rintro _ _ _ ⟨rfl, p_17, v_17, hp_17, rfl⟩
 refine bST rfl ?_
 refine BN (FZ0 [0, 1, 2] Tryz.results22 ?_)
 rw [← hall]; exact ⟨rfl, p_17, v_17, hp_17, rfl⟩
end Go.Proofs.YtahgkiicjohonaaGreat

namespace Go.Proofs.YtahgkiicjohonaaGreat
open Go.RowKit Go.Lp Go.Sy Go.Lv
theorem okL {α τ : Type} {A : Cod τ} {pu : α → τ} {l : List α} (hA : ∀ y ∈ l, (A.enc (pu y)).length ≤ 1000000000 → A.ok (pu y)) (hb : ((dw A).enc (l.map pu)).length ≤ 1000000000) : (dw A).ok (l.map pu) := by
 have hb2 : (gK A (l.map pu)).length ≤ 1000000000 := (ah hb).2
 refine ⟨Nat.le_trans (Nat.le_trans (aci A _) hb2) (by decide), fun x hx => ?_⟩
 obtain ⟨y, hy, rfl⟩ := List.mem_map.1 hx
 refine hA y hy (Nat.le_trans ?_ hb2)
 obtain ⟨a, b, hab⟩ := List.append_of_mem hy
 rw [hab, List.map_append, List.map_cons, j5, nq, List.length_append, List.length_append]; omega
theorem zB {α : Type} {A : Cod α} {l : List α} (hA : ∀ y ∈ l, (A.enc y).length ≤ 1000000000 → A.ok y) (hb : ((dw A).enc l).length ≤ 1000000000) : (dw A).ok l := by
 have := okL (A := A) (pu := fun y => y) (l := l) hA (by rw [List.map_id'] ; exact hb)
 rwa [List.map_id'] at this
theorem zT {x : bk} (h : ir x) (hl : (cV x).length ≤ 1000000000) : ee.ok (ej x) := ⟨cZ ((ah hl).1), cZ ((ah (ah hl).2).1), h.1, h.2.1, h.2.2, cZ ((ah (ah (ah (ah (ah (ah hl).2).2).2).2).2).1), cZ ((ah (ah (ah (ah (ah (ah hl).2).2).2).2).2).2)⟩
theorem yZ {x : bN} (h : iq x) (hl : (cG x).length ≤ 1000000000) : ed.ok (et x) := ⟨cZ ((ah hl).1), cZ ((ah (ah hl).2).1), trivial, h.1, h.2.1, h.2.2⟩
theorem yp {x : bY} (h : jg x) (hl : (dF x).length ≤ 1000000000) : ef.ok (eu x) := ⟨cZ ((ah hl).1), cZ ((ah (ah hl).2).1), h, trivial, trivial⟩
theorem adq {x : fm} (h : qJ x) (hl : (jz x).length ≤ 1000000000) : lC.ok (jn x) := ⟨h.1, h.2.1, h.2.2.1, h.2.2.2⟩
theorem aca {x : dD} (h : kh x) (hl : (adu x).length ≤ 1000000000) : eX.ok (fa x) := ⟨h.1, h.2.1, h.2.2⟩
theorem acH {x : dA} (h : mx x) (hl : (iA x).length ≤ 1000000000) : gi.ok (ga x) := ⟨cZ ((ah hl).1), h.1, h.2.1, h.2.2⟩
theorem acD {x : du} (h : l9 x) (hl : (iE x).length ≤ 1000000000) : fS.ok (gh x) := ⟨h.1, h.2.1, cZ ((ah (ah (ah hl).2).2).1), h.2.2⟩
theorem ac3 {x : bE} (h : mz x) (hl : (jb x).length ≤ 1000000000) : gM.ok (gz x) := ⟨h.1, h.2⟩
theorem y7 {x : b8} (h : jw x) (hl : (fA x).length ≤ 1000000000) : dU.ok (ep x) := ⟨h.1, h.2.1, h.2.2.1, cZ ((ah (ah (ah (ah hl).2).2).2).1), cZ ((ah (ah (ah (ah (ah hl).2).2).2).2).1), h.2.2.2⟩
theorem adT {x : eh} (h : pL x) (hl : (oC x).length ≤ 1000000000) : jO.ok (iS x) := ⟨h.1, h.2.1, h.2.2.1, cZ ((ah (ah (ah (ah hl).2).2).2).1), h.2.2.2.1, h.2.2.2.2⟩
theorem aaA {x : cC} (h : kq x) (hl : (ja x).length ≤ 1000000000) : fo.ok (fw x) := ⟨h.1, h.2.1, h.2.2.1, h.2.2.2⟩
theorem rf {x : aF} (hl : (cm x).length ≤ 1000000000) : cW.ok (di x) := ⟨cZ ((ah hl).1), zB (fun _ _ h => cZ h) ((ah hl).2)⟩
theorem acv {x : cr} (h : kQ x) (hl : (gO x).length ≤ 1000000000) : gX.ok (gA x) := ⟨cZ ((ah hl).1), cZ ((ah (ah hl).2).1), cZ ((ah (ah (ah hl).2).2).1), okL (fun y hy hly => aca (h.1 y hy) hly) ((ah (ah (ah (ah hl).2).2).2).1), h.2⟩
theorem ac8 {x : cA} (h : kK x) (hl : (fb.enc (eC x)).length ≤ 1000000000) : fb.ok (eC x) := ⟨okL (fun y hy hly => acH (h.1 y hy) hly) ((ah hl).1), okL (fun y hy hly => acD (h.2.1 y hy) hly) ((ah (ah hl).2).1), okL (fun y hy hly => ac3 (h.2.2.1 y hy) hly) ((ah (ah (ah hl).2).2).1), okL (fun y hy hly => y7 (h.2.2.2.1 y hy) hly) ((ah (ah (ah (ah hl).2).2).2).1), okL (fun y hy hly => adT (h.2.2.2.2.1 y hy) hly) ((ah (ah (ah (ah (ah hl).2).2).2).2).1), okL (fun y hy hly => aaA (h.2.2.2.2.2 y hy) hly) ((ah (ah (ah (ah (ah hl).2).2).2).2).2)⟩
theorem pd {x : ax} (h : cI x) (hl : (ba.enc (aV x)).length ≤ 1000000000) : ba.ok (aV x) := ⟨cZ ((ah hl).1), trivial, h.1, h.2.1, h.2.2.1, cZ ((ah (ah (ah (ah (ah (ah hl).2).2).2).2).2).1), cZ ((ah (ah (ah (ah (ah (ah (ah hl).2).2).2).2).2).2).1), h.2.2.2.1, okL (fun y hy hly => zT (h.2.2.2.2.2.1 y hy) hly) ((ah (ah (ah (ah (ah (ah (ah (ah (ah hl).2).2).2).2).2).2).2).2).1), okL (fun y hy hly => yZ (h.2.2.2.2.2.2.1 y hy) hly) ((ah (ah (ah (ah (ah (ah (ah (ah (ah (ah hl).2).2).2).2).2).2).2).2).2).1), okL (fun y hy hly => yp (h.2.2.2.2.2.2.2.1 y hy) hly) ((ah (ah (ah (ah (ah (ah (ah (ah (ah (ah (ah hl).2).2).2).2).2).2).2).2).2).2).1), zB (fun y hy _ => h.2.2.2.2.2.2.2.2.1 y hy) ((ah (ah (ah (ah (ah (ah (ah (ah (ah (ah (ah (ah hl).2).2).2).2).2).2).2).2).2).2).2).1), zB (fun y hy _ => h.2.2.2.2.2.2.2.2.2.1 y hy) ((ah (ah (ah (ah (ah (ah (ah (ah (ah (ah (ah (ah (ah hl).2).2).2).2).2).2).2).2).2).2).2).2).1), okL (fun y hy hly => adq (h.2.2.2.2.2.2.2.2.2.2.1 y hy) hly) ((ah (ah (ah (ah (ah (ah (ah (ah (ah (ah (ah (ah (ah (ah hl).2).2).2).2).2).2).2).2).2).2).2).2).2).1), zB (fun y hy _ => h.2.2.2.2.2.2.2.2.2.2.2.1 y hy) ((ah (ah (ah (ah (ah (ah (ah (ah (ah (ah (ah (ah (ah (ah (ah hl).2).2).2).2).2).2).2).2).2).2).2).2).2).2).1), zB (fun y hy _ => h.2.2.2.2.2.2.2.2.2.2.2.2.1 y hy) ((ah (ah (ah (ah (ah (ah (ah (ah (ah (ah (ah (ah (ah (ah (ah (ah hl).2).2).2).2).2).2).2).2).2).2).2).2).2).2).2).1), h.2.2.2.2.1, zB (fun _ _ h => cZ h) ((ah (ah (ah (ah (ah (ah (ah (ah (ah (ah (ah (ah (ah (ah (ah (ah (ah (ah hl).2).2).2).2).2).2).2).2).2).2).2).2).2).2).2).2).2).1), okL (fun _ _ hly => rf hly) ((ah (ah (ah (ah (ah (ah (ah (ah (ah (ah (ah (ah (ah (ah (ah (ah (ah (ah (ah hl).2).2).2).2).2).2).2).2).2).2).2).2).2).2).2).2).2).2).1), ac8 (h.2.2.2.2.2.2.2.2.2.2.2.2.2.1) ((ah (ah (ah (ah (ah (ah (ah (ah (ah (ah (ah (ah (ah (ah (ah (ah (ah (ah (ah (ah hl).2).2).2).2).2).2).2).2).2).2).2).2).2).2).2).2).2).2).2).1), okL (fun y hy hly => acv (h.2.2.2.2.2.2.2.2.2.2.2.2.2.2 y hy) hly) ((ah (ah (ah (ah (ah (ah (ah (ah (ah (ah (ah (ah (ah (ah (ah (ah (ah (ah (ah (ah hl).2).2).2).2).2).2).2).2).2).2).2).2).2).2).2).2).2).2).2).2)⟩
theorem nk {x y : ax} {r : List UInt8} {b : Bool} (h : cI x) (hl : (ba.enc (aV x)).length ≤ 1000000000) {t : List UInt8} (hr : ba.one (.R (ba.enc (aV x) ++ t) false) ba.zero = (.R r b, aV y)) : r = t ∧ b = false ∧ aV y = aV x := by
 rw [ba.r (aV x) t (pd h hl)] at hr
 obtain ⟨h1, h2⟩ := CS.R.inj (congrArg Prod.fst hr)
 exact ⟨h1.symm, h2.symm, (congrArg Prod.snd hr).symm⟩
theorem yR {k : Nat} : Rd Tryz.prog (k + 2) 51 fun w S R => ∀ (y : bk) n, (y.ok).holds w S → ir y → (ee.enc (ej y)).length ≤ n → R y.vs n :=
 rds Tryz.underlying51 (rdc (rdt Tryz.underlying9) (rdc (rdt Tryz.underlying9) (rdc (rdi Tryz.underlying3) (rdc (rdi Tryz.underlying3) (rdc (rdi Tryz.underlying3) (rdc (rdt Tryz.underlying9) (rdc (rdt Tryz.underlying9) (rdn)))))))) fun w S R h x0 n0 o0 e0 x1 n1 o1 e1 x2 n2 w2 e2 x3 n3 w3 e3 x4 n4 w4 e4 x5 n5 o5 e5 x6 n6 o6 e6 => h ⟨x0, x1, x2, x3, x4, x5, x6⟩ _ ⟨o0, o1, o5, o6⟩ ⟨w2, w3, w4⟩ (pl e0 (pl e1 (pl e2 (pl e3 (pl e4 (pl e5 (e6)))))))
theorem zn {k : Nat} : Rd Tryz.prog (k + 2) 96 fun w S R => ∀ (y : bN) n, (y.ok).holds w S → iq y → (ed.enc (et y)).length ≤ n → R y.vs n :=
 rds Tryz.underlying96 (rdc (rdt Tryz.underlying9) (rdc (rdt Tryz.underlying9) (rdc (rdb Tryz.underlying4) (rdc (rdi Tryz.underlying3) (rdc (rdi Tryz.underlying3) (rdc (rdi Tryz.underlying3) (rdn))))))) fun w S R h x0 n0 o0 e0 x1 n1 o1 e1 x2 n2 e2 x3 n3 w3 e3 x4 n4 w4 e4 x5 n5 w5 e5 => h ⟨x0, x1, x2, x3, x4, x5⟩ _ ⟨o0, o1⟩ ⟨w3, w4, w5⟩ (pl e0 (pl e1 (pl e2 (pl e3 (pl e4 (e5))))))
theorem yr {k : Nat} : Rd Tryz.prog (k + 2) 94 fun w S R => ∀ (y : bY) n, (y.ok).holds w S → jg y → (ef.enc (eu y)).length ≤ n → R y.vs n :=
 rds Tryz.underlying94 (rdc (rdt Tryz.underlying9) (rdc (rdt Tryz.underlying9) (rdc (rdi Tryz.underlying3) (rdc (rdb Tryz.underlying4) (rdc (rdb Tryz.underlying4) (rdn)))))) fun w S R h x0 n0 o0 e0 x1 n1 o1 e1 x2 n2 w2 e2 x3 n3 e3 x4 n4 e4 => h ⟨x0, x1, x2, x3, x4⟩ _ ⟨o0, o1⟩ w2 (pl e0 (pl e1 (pl e2 (pl e3 (e4)))))
theorem adR {k : Nat} : Rd Tryz.prog (k + 2) 55 fun w S R => ∀ (y : fm) n, (Fa True).holds w S → qJ y → (lC.enc (jn y)).length ≤ n → R y.vs n :=
 rds Tryz.underlying55 (rdc (rdi Tryz.underlying3) (rdc (rdi Tryz.underlying3) (rdc (rdi Tryz.underlying3) (rdc (rdi Tryz.underlying3) (rdn))))) fun w S R h x0 n0 w0 e0 x1 n1 w1 e1 x2 n2 w2 e2 x3 n3 w3 e3 => h ⟨x0, x1, x2, x3⟩ _ trivial ⟨w0, w1, w2, w3⟩ (pl e0 (pl e1 (pl e2 (e3))))
theorem rm {k : Nat} : Rd Tryz.prog (k + 3) 62 fun w S R => ∀ (y : aF) n, (y.ok).holds w S → True → (cW.enc (di y)).length ≤ n → R y.vs n :=
 rds Tryz.underlying62 (rdc (rdt Tryz.underlying9) (rdc (rlt Tryz.underlying27 Tryz.underlying9) (rdn))) fun w S R h x0 n0 o0 e0 x1 n1 o1 a1 e1 => h ⟨x0, x1⟩ _ ⟨o0, o1, a1⟩ trivial (pl e0 (e1))
theorem acW {k : Nat} : Rd Tryz.prog (k + 2) 157 fun w S R => ∀ (y : dA) n, (y.ok).holds w S → mx y → (gi.enc (ga y)).length ≤ n → R y.vs n :=
 rds Tryz.underlying157 (rdc (rdt Tryz.underlying9) (rdc (rdi Tryz.underlying3) (rdc (rdi Tryz.underlying3) (rdc (rdi Tryz.underlying3) (rdn))))) fun w S R h x0 n0 o0 e0 x1 n1 w1 e1 x2 n2 w2 e2 x3 n3 w3 e3 => h ⟨x0, x1, x2, x3⟩ _ o0 ⟨w1, w2, w3⟩ (pl e0 (pl e1 (pl e2 (e3))))
theorem acw {k : Nat} : Rd Tryz.prog (k + 2) 159 fun w S R => ∀ (y : du) n, (y.ok).holds w S → l9 y → (fS.enc (gh y)).length ≤ n → R y.vs n :=
 rds Tryz.underlying159 (rdc (rdi Tryz.underlying3) (rdc (rdi Tryz.underlying3) (rdc (rdt Tryz.underlying9) (rdc (rdi Tryz.underlying3) (rdn))))) fun w S R h x0 n0 w0 e0 x1 n1 w1 e1 x2 n2 o2 e2 x3 n3 w3 e3 => h ⟨x0, x1, x2, x3⟩ _ o2 ⟨w0, w1, w3⟩ (pl e0 (pl e1 (pl e2 (e3))))
theorem acK {k : Nat} : Rd Tryz.prog (k + 2) 161 fun w S R => ∀ (y : bE) n, (Fa True).holds w S → mz y → (gM.enc (gz y)).length ≤ n → R y.vs n :=
 rds Tryz.underlying161 (rdc (rdi Tryz.underlying3) (rdc (rdi Tryz.underlying3) (rdn))) fun w S R h x0 n0 w0 e0 x1 n1 w1 e1 => h ⟨x0, x1⟩ _ trivial ⟨w0, w1⟩ (pl e0 (e1))
theorem aab {k : Nat} : Rd Tryz.prog (k + 2) 192 fun w S R => ∀ (y : b8) n, (y.ok).holds w S → jw y → (dU.enc (ep y)).length ≤ n → R y.vs n :=
 rds Tryz.underlying192 (rdc (rdi Tryz.underlying3) (rdc (rdi Tryz.underlying3) (rdc (rdi Tryz.underlying3) (rdc (rdt Tryz.underlying9) (rdc (rdt Tryz.underlying9) (rdc (rdi Tryz.underlying3) (rdn))))))) fun w S R h x0 n0 w0 e0 x1 n1 w1 e1 x2 n2 w2 e2 x3 n3 o3 e3 x4 n4 o4 e4 x5 n5 w5 e5 => h ⟨x0, x1, x2, x3, x4, x5⟩ _ ⟨o3, o4⟩ ⟨w0, w1, w2, w5⟩ (pl e0 (pl e1 (pl e2 (pl e3 (pl e4 (e5))))))
theorem adQ {k : Nat} : Rd Tryz.prog (k + 2) 198 fun w S R => ∀ (y : eh) n, (y.ok).holds w S → pL y → (jO.enc (iS y)).length ≤ n → R y.vs n :=
 rds Tryz.underlying198 (rdc (rdi Tryz.underlying3) (rdc (rdi Tryz.underlying3) (rdc (rdi Tryz.underlying3) (rdc (rdt Tryz.underlying9) (rdc (rdi Tryz.underlying3) (rdc (rdi Tryz.underlying3) (rdn))))))) fun w S R h x0 n0 w0 e0 x1 n1 w1 e1 x2 n2 w2 e2 x3 n3 o3 e3 x4 n4 w4 e4 x5 n5 w5 e5 => h ⟨x0, x1, x2, x3, x4, x5⟩ _ o3 ⟨w0, w1, w2, w4, w5⟩ (pl e0 (pl e1 (pl e2 (pl e3 (pl e4 (e5))))))
theorem aaL {k : Nat} : Rd Tryz.prog (k + 2) 204 fun w S R => ∀ (y : cC) n, (Fa True).holds w S → kq y → (fo.enc (fw y)).length ≤ n → R y.vs n :=
 rds Tryz.underlying204 (rdc (rdi Tryz.underlying3) (rdc (rdi Tryz.underlying3) (rdc (rdi Tryz.underlying3) (rdc (rdi Tryz.underlying3) (rdn))))) fun w S R h x0 n0 w0 e0 x1 n1 w1 e1 x2 n2 w2 e2 x3 n3 w3 e3 => h ⟨x0, x1, x2, x3⟩ _ trivial ⟨w0, w1, w2, w3⟩ (pl e0 (pl e1 (pl e2 (e3))))
theorem acV {k : Nat} : Rd Tryz.prog (k + 4) 36 fun w S R => ∀ (y : cA) n, (y.ok).holds w S → kK y → (fb.enc (eC y)).length ≤ n → R y.vs n :=
 rds Tryz.underlying36 (rdc (rdl Tryz.underlying29 (fun _ => rfl) acW) (rdc (rdl Tryz.underlying30 (fun _ => rfl) acw) (rdc (rdl Tryz.underlying31 (fun _ => rfl) acK) (rdc (rdl Tryz.underlying32 (fun _ => rfl) aab) (rdc (rdl Tryz.underlying33 (fun _ => rfl) adQ) (rdc (rdl Tryz.underlying34 (fun _ => rfl) aaL) (rdn))))))) fun w S R h x0 n0 o0 a0 w0 e0 x1 n1 o1 a1 w1 e1 x2 n2 o2 a2 w2 e2 x3 n3 o3 a3 w3 e3 x4 n4 o4 a4 w4 e4 x5 n5 o5 a5 w5 e5 => h ⟨x0, x1, x2, x3, x4, x5⟩ _ ⟨o0, a0, o1, a1, o2, o3, a3, o4, a4, o5⟩ ⟨w0, w1, w2, w3, w4, w5⟩ (pl e0 (pl e1 (pl e2 (pl e3 (pl e4 (e5))))))
theorem abq {k : Nat} : Rd Tryz.prog (k + 2) 145 fun w S R => ∀ (y : dD) n, (Fa True).holds w S → kh y → (eX.enc (fa y)).length ≤ n → R y.vs n :=
 rds Tryz.underlying145 (rdc (rdi Tryz.underlying3) (rdc (rdi Tryz.underlying3) (rdc (rdi Tryz.underlying3) (rdn)))) fun w S R h x0 n0 w0 e0 x1 n1 w1 e1 x2 n2 w2 e2 => h ⟨x0, x1, x2⟩ _ trivial ⟨w0, w1, w2⟩ (pl e0 (pl e1 (e2)))
theorem acP {k : Nat} : Rd Tryz.prog (k + 4) 65 fun w S R => ∀ (y : cr) n, (y.ok).holds w S → kQ y → (gX.enc (gA y)).length ≤ n → R y.vs n :=
 rds Tryz.underlying65 (rdc (rdt Tryz.underlying9) (rdc (rdt Tryz.underlying9) (rdc (rdt Tryz.underlying9) (rdc (rdl Tryz.underlying63 (fun _ => rfl) abq) (rdc (rdi Tryz.underlying3) (rdn)))))) fun w S R h x0 n0 o0 e0 x1 n1 o1 e1 x2 n2 o2 e2 x3 n3 o3 a3 w3 e3 x4 n4 w4 e4 => h ⟨x0, x1, x2, x3, x4⟩ _ ⟨o0, o1, o2, o3⟩ ⟨w3, w4⟩ (pl e0 (pl e1 (pl e2 (pl e3 (e4)))))
theorem uw {k : Nat} : Rd Tryz.prog (k + 6) 39 fun w S R => ∀ (y : ax) n, (y.ok).holds w S → cI y → (ba.enc (aV y)).length ≤ n → R y.vs n :=
 rds Tryz.underlying39 (rdc (rdt Tryz.underlying9) (rdc (rdb Tryz.underlying4) (rdc (rdi Tryz.underlying3) (rdc (rdi Tryz.underlying3) (rdc (rdi Tryz.underlying3) (rdc (rdt Tryz.underlying9) (rdc (rdt Tryz.underlying9) (rdc (rdi Tryz.underlying3) (rdc (rdl Tryz.underlying22 (fun _ => rfl) yR) (rdc (rdl Tryz.underlying23 (fun _ => rfl) zn) (rdc (rdl Tryz.underlying24 (fun _ => rfl) yr) (rdc (rli Tryz.underlying25 Tryz.underlying3) (rdc (rli Tryz.underlying25 Tryz.underlying3) (rdc (rdl Tryz.underlying26 (fun _ => rfl) adR) (rdc (rli Tryz.underlying25 Tryz.underlying3) (rdc (rli Tryz.underlying25 Tryz.underlying3) (rdc (rdi Tryz.underlying3) (rdc (rlt Tryz.underlying27 Tryz.underlying9) (rdc (rdl Tryz.underlying28 (fun _ => rfl) rm) (rdc (acV) (rdc (rdl Tryz.underlying37 (fun _ => rfl) acP) (rdn)))))))))))))))))))))) fun w S R h x0 n0 o0 e0 x1 n1 e1 x2 n2 w2 e2 x3 n3 w3 e3 x4 n4 w4 e4 x5 n5 o5 e5 x6 n6 o6 e6 x7 n7 w7 e7 x8 n8 o8 a8 w8 e8 x9 n9 o9 a9 w9 e9 x10 n10 o10 a10 w10 e10 x11 n11 o11 w11 e11 x12 n12 o12 w12 e12 x13 n13 o13 a13 w13 e13 x14 n14 o14 w14 e14 x15 n15 o15 w15 e15 x16 n16 w16 e16 x17 n17 o17 a17 e17 x18 n18 o18 a18 w18 e18 x19 n19 o19 w19 e19 x20 n20 o20 a20 w20 e20 => h ⟨x0, x1, x2, x3, x4, x5, x6, x7, x8, x9, x10, x11, x12, x13, x14, x15, x16, x17, x18, x19, x20⟩ _ ⟨o0, o5, o6, o8, a8, o9, a9, o10, a10, o11, o12, o13, o14, o15, o17, a17, o18, a18, o19, o20, a20⟩ ⟨w2, w3, w4, w7, w16, w8, w9, w10, w11, w12, w13, w14, w15, w19, w20⟩ (pl e0 (pl e1 (pl e2 (pl e3 (pl e4 (pl e5 (pl e6 (pl e7 (pl e8 (pl e9 (pl e10 (pl e11 (pl e12 (pl e13 (pl e14 (pl e15 (pl e16 (pl e17 (pl e18 (pl e19 (e20)))))))))))))))))))))
end Go.Proofs.YtahgkiicjohonaaGreat

