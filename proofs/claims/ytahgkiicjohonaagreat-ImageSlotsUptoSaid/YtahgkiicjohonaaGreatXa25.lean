/- Parts of the proof, in build order. No condition. -/
import Derived.Test.YtahgkiicjohonaaGreatXa24
import Derived.Test.YtahgkiicjohonaaGreatXa05
import Derived.Test.YtahgkiicjohonaaGreatXa09
set_option linter.unusedSimpArgs false
set_option linter.unusedVariables false
set_option maxHeartbeats 1000000
set_option maxRecDepth 20000
namespace Go.Proofs.YtahgkiicjohonaaGreat
open Go.RowKit Go.Lp Go.Sy Go.Lv
open Go.Proofs.Tryz
attribute [local irreducible] aL aB awp aC fwp Quiet
theorem xL (y : dD) : eP y = aK ai.enc [y.from_, y.size, y.to_] := by
 show ai.enc y.from_ ++ (ai.enc y.size ++ ai.enc y.to_) = _
 simp only [aK, List.map_cons, List.map_nil, List.flatten_cons, List.flatten_nil, List.append_nil]
theorem qE (l : Sl cr) (hI : ∀ y ∈ l.l, kQ y) (hl : (aO l.l.length ++ aK gO l.l).length ≤ 1000000000) : Con Tryz.prog 61 [l.val] [ShF cr.row l, b7 cr.ok l.l] [] fun r ps hp => ps = [] ∧ hp = [] ∧ r = .string (bytesOf (aO l.l.length ++ aK gO l.l)) := by
 rw [List.length_append] at hl
 refine EN1 Tryz.func61 rfl (bQ (.of (aD 0 rfl)) (fun hlen => (aSR (aA rfl (aNn (aSR (aM rfl (aU rfl (aW Tryz.underlying37 rfl) (aU rfl (Q0 rfl (cS l.l.length hlen)) (aA rfl (aNs (aSR (aA rfl (aNn (aq ?_)))))))))))))))
 refine aQ [0, 3, 4] [1, 0] [] (fun (k : Nat) st => k ≤ l.l.length ∧ st = ⟨[(0, true, l.val), (3, true, .string (bytesOf (aO l.l.length ++ aK gO (l.l.take k)))), (4, true, .int .i64 k)], [ShF cr.row l, b7 cr.ok l.l], []⟩) (fun k => l.l.length - k) rfl (⟨0, Nat.zero_le _, by rw [List.take_zero]; show _ = (⟨[_, (3, true, .string (bytesOf (aO l.l.length ++ []))), _], _, _⟩ : Sta); rw [List.append_nil]; rfl⟩) ?_
 rintro k st ⟨hk, rfl⟩
 refine aj (aSR (aM rfl (aM rfl (aU rfl (aW Tryz.underlying37 rfl) (aU rfl (bD rfl rfl) (aNn ?_))))))
 refine ao _ rfl (fun h1 => ?_) (fun h1 => ?_)
 ·skip
  have hk' : k < l.l.length := by simpa using h1
  obtain ⟨x, hx⟩ : ∃ x, l.l[k]? = some x := ⟨_, List.getElem?_eq_getElem hk'⟩
  have hw := hI x (List.mem_of_getElem? hx)
  have hen := eA (e := gO) hx
  have hle := ij (e := gO) l.l (k + 1)
  have hxe : gO x = ak.enc x.obj ++ (ak.enc x.sec ++ (ak.enc x.from_ ++ ((aO x.pieces.l.length ++ aK eP x.pieces.l) ++ ai.enc x.code))) := by
    rw [← ct eX fa x.pieces.l]; rfl
  have ht1 := gp x.obj
  have ht2 := gp x.sec
  have ht3 := gp x.from_
  obtain ⟨S, hS⟩ : ∃ S, S = aO l.l.length ++ aK gO (l.l.take k) := ⟨_, rfl⟩
  have hst : aO l.l.length ++ aK gO (l.l.take (k + 1)) = (((((S ++ ak.enc x.obj) ++ ak.enc x.sec) ++ ak.enc x.from_) ++ aO x.pieces.l.length) ++ aK eP x.pieces.l) ++ ai.enc x.code := by rw [hen, hxe, hS]; simp only [List.append_assoc]
  have hSl : S.length + ((ak.enc x.obj).length + ((ak.enc x.sec).length + ((ak.enc x.from_).length + ((aO x.pieces.l.length).length + ((aK eP x.pieces.l).length + (ai.enc x.code).length))))) ≤ 1000000000 := by
    rw [hen, hxe] at hle
    rw [hS]
    simp only [List.length_append] at hle ⊢
    omega
  rw [← hS]
  clear hle hl hen hxe
  refine aY _ (cr.f_pieces (Ent.all (f := cr.ok) (.of (aD 1 rfl)) hx)) (bQ (.of (aD 0 rfl)) (fun hpl => (ar (an (aj (aq (aSR (aM rfl (aM rfl (UI Tryz.underlying37 tk65 1 rfl rfl rfl rfl rfl (aI hx) rfl rfl (fun ⟨b5_2, o5_2⟩ => (US 0 tk65 0 rfl rfl rfl rfl rfl (LT rfl (bI (zs := [.string .empty, .string .empty, .string .empty, .slice none 0 0, .int .i64 0]) (by kernel_rfl) rfl (fun b5_4 => ?_)))))))))))))))
  refine aHN ?_
  refine aT rfl (bg 0 tk65 rfl rfl rfl rfl (aHK ?_))
  refine aNs (DR [] 19 (VM 0 rfl rfl (VO 1 0 rfl rfl rfl (VL 2 0 tk9 rfl rfl rfl rfl rfl (bV 3 rfl rfl (Q0 rfl (b6 x.obj (by omega))) ?_)))))
  refine bV 4 rfl rfl (eZ rfl rfl (by show S.length + (ak.enc x.obj).length ≤ _; omega)) ?_
  refine VO 5 1 rfl rfl rfl (VL 6 0 tk9 rfl rfl rfl rfl rfl (bV 7 rfl rfl (Q0 rfl (b6 x.sec (by omega))) ?_))
  refine bV 8 rfl rfl (eZ rfl rfl (by show (S ++ ak.enc x.obj).length + (ak.enc x.sec).length ≤ _; simp only [List.length_append]; omega)) ?_
  refine VO 9 2 rfl rfl rfl (VL 10 0 tk9 rfl rfl rfl rfl rfl (bV 11 rfl rfl (Q0 rfl (b6 x.from_ (by omega))) ?_))
  refine bV 12 rfl rfl (eZ rfl rfl (by show ((S ++ ak.enc x.obj) ++ ak.enc x.sec).length + (ak.enc x.from_).length ≤ _; simp only [List.length_append]; omega)) ?_
  refine VO 13 3 rfl rfl rfl (VL 14 0 tk63 rfl rfl rfl rfl rfl (bV 15 rfl rfl (aW Tryz.underlying63 rfl) (bV 16 rfl rfl (Q0 rfl (cS x.pieces.l.length hpl)) ?_)))
  refine bV 17 rfl rfl (eZ rfl rfl (by show (((S ++ ak.enc x.obj) ++ ak.enc x.sec) ++ ak.enc x.from_).length + (aO x.pieces.l.length).length ≤ _; simp only [List.length_append]; omega)) ?_
  refine bV 18 rfl rfl (bw rfl) (BN (an (aj (aSR (aA rfl (aNn (aq ?_)))))))
  refine aQ [0, 3, 4, 5, 6] [2, 1, 0] [0] (fun (j : Nat) st => j ≤ x.pieces.l.length ∧ st = ⟨[(0, true, l.val), (3, true, .string (bytesOf (((((S ++ ak.enc x.obj) ++ ak.enc x.sec) ++ ak.enc x.from_) ++ aO x.pieces.l.length) ++ aK eP (x.pieces.l.take j)))), (4, true, .int .i64 k), (5, true, .pointer (some ⟨b5_4, 0, none⟩)), (6, true, .int .i64 j)], [ShF dD.row x.pieces, ShF cr.row l, b7 cr.ok l.l], [Box b5_4 65 x.vs]⟩) (fun j => x.pieces.l.length - j) rfl (⟨0, Nat.zero_le _, by rw [List.take_zero]; show _ = (⟨[_, (3, true, .string (bytesOf (((((S ++ ak.enc x.obj) ++ ak.enc x.sec) ++ ak.enc x.from_) ++ aO x.pieces.l.length) ++ []))), _, _, _], _, _⟩ : Sta); rw [List.append_nil]; rfl⟩) ?_
  rintro j st ⟨hj, rfl⟩
  refine aj (aSR (aM rfl (UO 3 rfl rfl (UL 0 tk63 rfl rfl rfl rfl (aU rfl (aW Tryz.underlying63 rfl) (aU rfl (bD rfl rfl) (aNn ?_)))))))
  refine ao _ rfl (fun h2 => ?_) (fun h2 => ?_)
  ·skip
   have hj' : j < x.pieces.l.length := by simpa using h2
   obtain ⟨y, hy⟩ : ∃ y, x.pieces.l[j]? = some y := ⟨_, List.getElem?_eq_getElem hj'⟩
   have hwy := hw.1 y (List.mem_of_getElem? hy)
   have hi3 : ∀ z ∈ [y.from_, y.size, y.to_], Go.Lv.I64 z := fun z hz => by
     simp only [List.mem_cons, List.not_mem_nil, or_false] at hz
     rcases hz with rfl | rfl | rfl
     · exact hwy.1
     · exact hwy.2.1
     · exact hwy.2.2
   have hen := eA (e := eP) hy
   have hle := ij (e := eP) x.pieces.l (j + 1)
   rw [hen, xL, List.length_append] at hle
   refine ar (an (aj (aq (DR [] 23 (VM 0 rfl rfl (VO 1 3 rfl rfl rfl (VL 2 0 tk63 rfl rfl rfl rfl rfl (VM 3 rfl rfl (XI 4 Tryz.underlying63 tk145 0 rfl rfl rfl rfl rfl rfl (aI hy) rfl rfl (fun ⟨b10_4, o10_4⟩ => (VO 5 0 rfl rfl rfl (VT 6 0 tk3 0 rfl rfl rfl rfl rfl rfl (VO 7 3 rfl rfl rfl (VL 8 0 tk63 rfl rfl rfl rfl rfl (VM 9 rfl rfl ?_)))))))))))))))
   refine XI 10 Tryz.underlying63 tk145 1 rfl rfl rfl rfl rfl rfl (aI hy) rfl rfl (fun ⟨b10_10, o10_10⟩ => (VO 11 1 rfl rfl rfl (VT 12 1 tk3 0 rfl rfl rfl rfl rfl rfl (VO 13 3 rfl rfl rfl (VL 14 0 tk63 rfl rfl rfl rfl rfl (VM 15 rfl rfl (XI 16 Tryz.underlying63 tk145 2 rfl rfl rfl rfl rfl rfl (aI hy) rfl rfl (fun ⟨b10_16, o10_16⟩ => (VO 17 2 rfl rfl rfl (VT 18 2 tk3 0 rfl rfl rfl rfl rfl rfl (VB (zs := [.int .i64 0]) 19 rfl el25 rfl rfl rfl rfl (.more rfl (.v rfl .nil) (.more rfl (.v rfl .nil) (.more rfl (.v rfl .nil) .nil))) rfl rfl (fun v10_19 => ?_))))))))))))
   refine fh (q := true) 20 rfl (by kernel_rfl) rfl rfl (EC [6] [] rfl (bZ ⟨v10_19, 3, [y.from_, y.size, y.to_]⟩ hi3 (by show (aK ai.enc [y.from_, y.size, y.to_]).length ≤ _; omega)) ?_)
   rintro _ _ _ ⟨rfl, rfl, rfl⟩
   refine bST rfl ?_
   refine bV 21 rfl rfl (eZ rfl rfl (by show (((((S ++ ak.enc x.obj) ++ ak.enc x.sec) ++ ak.enc x.from_) ++ aO x.pieces.l.length) ++ aK eP (x.pieces.l.take j)).length + (aK ai.enc [y.from_, y.size, y.to_]).length ≤ _; simp only [List.length_append]; omega)) ?_
   refine bV 22 rfl rfl (bw rfl) (BN (bA (an (aa (aM rfl (aU rfl (aX rfl rfl (by omega)) (aA rfl (aNn ?_))))))))
   refine ⟨[0, 3, 4, 5, 6], [2, 1, 0], [0], rfl, ?_⟩
   refine ⟨j + 1, ⟨hj', ?_⟩, by omega⟩
   rw [hen, xL, ← List.append_assoc]
   rfl
  ·skip
   have hje : j = x.pieces.l.length := by simp at h2; omega
   subst hje
   rw [List.take_length]
   refine aR (aS (aS (aZ (an (aa (aM rfl (UO 4 rfl rfl (UL 0 tk3 rfl rfl rfl rfl (LT rfl (WL (zs := [.int .i64 0]) el25 rfl rfl rfl (.more rfl (.v rfl .nil) .nil) rfl rfl (fun v11_3 => (aHN ?_))))))))))))
   refine er 1 rfl ?_
   refine LT rfl (EC [3] [] rfl (bZ ⟨v11_3, 1, [x.code]⟩ (fun z hz => by rw [List.mem_singleton.1 hz]; exact hw.2) (by show (ai.enc x.code ++ []).length ≤ _; rw [List.append_nil]; omega)) ?_)
   rintro _ _ _ ⟨rfl, rfl, rfl⟩
   refine aST ?_
   refine aU rfl (eZ rfl rfl (by show ((((((S ++ ak.enc x.obj) ++ ak.enc x.sec) ++ ak.enc x.from_) ++ aO x.pieces.l.length) ++ aK eP x.pieces.l)).length + (ai.enc x.code ++ []).length ≤ _; simp only [List.length_append, List.length_nil]; omega)) ?_
   refine aA rfl (bS (bA (an (aa (aM rfl (aU rfl (aX rfl rfl (by omega)) (aA rfl (aNn ?_))))))))
   refine ⟨[0, 3, 4], [1, 0], [], rfl, ?_⟩
   refine ⟨k + 1, ⟨hk', ?_⟩, by omega⟩
   rw [hst]
   show _ = (⟨[_, (3, true, .string (bytesOf ((((((S ++ ak.enc x.obj) ++ ak.enc x.sec) ++ ak.enc x.from_) ++ aO x.pieces.l.length) ++ aK eP x.pieces.l) ++ ai.enc x.code))), _], _, _⟩ : Sta)
   rw [← List.append_nil (ai.enc x.code)]
   rfl
 ·skip
  have hke : k = l.l.length := by simp at h1; omega
  subst hke
  refine aR (aS (aS (aZ (an (aSR (aM rfl (aA rfl (aNn (az (FZ1 [] Tryz.results61 rfl ?_))))))))))
  exact ⟨rfl, rfl, by rw [List.take_length]⟩
end Go.Proofs.YtahgkiicjohonaaGreat

namespace Go.Sy
open Go.RowKit Go.Lp Go.Lv
theorem bB {P : Program} {n : Fr} {d : Option Tmp} {ty : TypeId} {pos : String} {af : Array Edge} {gd : Option (Nat × Bool)} {s : Sta} {x y : Operand} {t t' : TypeId} {a b : List UInt8} (hx : ev s.env x = some (true, .string (bytesOf a))) (hy : ev s.env y = some (true, .string (bytesOf b))) (h : (a ++ b).length ≤ 1000000000) : Quiet P n ⟨d, .binOp .add t x y t', ty, pos, af, gd⟩ s (.string (bytesOf (a ++ b))) := eZ hx hy (by rw [List.length_append] at h; exact h)
theorem jN {α : Type} {e : α → List UInt8} {S : List UInt8} {l : List α} {N : Nat} (k : Nat) (h : (S ++ aK e l).length ≤ N) : (S ++ aK e (l.take k)).length ≤ N := by
 rw [List.length_append] at h ⊢; have := ij (e := e) l k; omega
end Go.Sy
namespace Go.Proofs.YtahgkiicjohonaaGreat
open Go.RowKit Go.Lp Go.Sy Go.Lv
open Go.Proofs.Tryz
attribute [local irreducible] aL aB awp aC fwp Quiet
theorem vg (x : cA) (hW : kK x) (hl : (fb.enc (eC x)).length ≤ 1000000000) : Con Tryz.prog 60 [x.val] [x.ok] [] fun r ps hp => ps = [] ∧ hp = [] ∧ r = .string (bytesOf (fb.enc (eC x))) := by
 obtain ⟨i_marks, i_lines, i_ends, i_inlines, i_vars, i_depths⟩ := hW
 have he : fb.enc (eC x) = (aO x.marks.l.length ++ aK iA x.marks.l) ++ ((aO x.lines.l.length ++ aK iE x.lines.l) ++ ((aO x.ends.l.length ++ aK jb x.ends.l) ++ ((aO x.inlines.l.length ++ aK fA x.inlines.l) ++ ((aO x.vars.l.length ++ aK oC x.vars.l) ++ ((aO x.depths.l.length ++ aK ja x.depths.l)))))) := by
   rw [← ct gi ga x.marks.l, ← ct fS gh x.lines.l, ← ct gM gz x.ends.l, ← ct dU ep x.inlines.l, ← ct jO iS x.vars.l, ← ct fo fw x.depths.l]; rfl
 obtain ⟨S0, s0⟩ : ∃ S, S = aO x.marks.l.length := ⟨_, rfl⟩
 obtain ⟨T0, t0⟩ : ∃ S, S = S0 ++ aK iA x.marks.l := ⟨_, rfl⟩
 obtain ⟨S1, s1⟩ : ∃ S, S = T0 ++ aO x.lines.l.length := ⟨_, rfl⟩
 obtain ⟨T1, t1⟩ : ∃ S, S = S1 ++ aK iE x.lines.l := ⟨_, rfl⟩
 obtain ⟨S2, s2⟩ : ∃ S, S = T1 ++ aO x.ends.l.length := ⟨_, rfl⟩
 obtain ⟨T2, t2⟩ : ∃ S, S = S2 ++ aK jb x.ends.l := ⟨_, rfl⟩
 obtain ⟨S3, s3⟩ : ∃ S, S = T2 ++ aO x.inlines.l.length := ⟨_, rfl⟩
 obtain ⟨T3, t3⟩ : ∃ S, S = S3 ++ aK fA x.inlines.l := ⟨_, rfl⟩
 obtain ⟨S4, s4⟩ : ∃ S, S = T3 ++ aO x.vars.l.length := ⟨_, rfl⟩
 obtain ⟨T4, t4⟩ : ∃ S, S = S4 ++ aK oC x.vars.l := ⟨_, rfl⟩
 obtain ⟨S5, s5⟩ : ∃ S, S = T4 ++ aO x.depths.l.length := ⟨_, rfl⟩
 obtain ⟨T5, t5⟩ : ∃ S, S = S5 ++ aK ja x.depths.l := ⟨_, rfl⟩
 have hT : fb.enc (eC x) = T5 := by rw [he, t5, s5, t4, s4, t3, s3, t2, s2, t1, s1, t0, s0]; simp only [List.append_assoc]
 rw [hT] at hl ⊢
 have b5 := hl
 rw [t5] at b5
 have c5 := (ah b5).1
 rw [s5] at c5
 have b4 := (ah c5).1
 rw [t4] at b4
 have c4 := (ah b4).1
 rw [s4] at c4
 have b3 := (ah c4).1
 rw [t3] at b3
 have c3 := (ah b3).1
 rw [s3] at c3
 have b2 := (ah c3).1
 rw [t2] at b2
 have c2 := (ah b2).1
 rw [s2] at c2
 have b1 := (ah c2).1
 rw [t1] at b1
 have c1 := (ah b1).1
 rw [s1] at c1
 have b0 := (ah c1).1
 rw [t0] at b0
 have c0 := (ah b0).1
 rw [s0] at c0
 refine EN1 Tryz.func60 rfl (aY _ (cA.f_marks (.of (aD 0 rfl))) (aY _ (cA.f_lines (.of (aD 1 rfl))) (aY _ (cA.f_ends (.of (aD 2 rfl))) (aY _ (cA.f_inlines (.of (aD 3 rfl))) (aY _ (cA.f_vars (.of (aD 4 rfl))) (aY _ (cA.f_depths (.of (aD 5 rfl))) (bQ (.of (aD 5 rfl)) (fun hl_marks => (bQ (.of (aD 4 rfl)) (fun hl_lines => (bQ (.of (aD 3 rfl)) (fun hl_ends => (bQ (.of (aD 2 rfl)) (fun hl_inlines => ?_))))))))))))))
 refine bQ (.of (aD 1 rfl)) (fun hl_vars => (bQ (.of (aD 0 rfl)) (fun hl_depths => ?_)))
 show awp _ _ _ _ ⟨_, [_, _, _, _, _, _, x.ok], _⟩
 refine aSR (LT rfl (cx rfl rfl rfl (fun b0_0 => (aHN ?_))))
 refine aA rfl (aNn (aSR (UO 0 rfl rfl (UL 0 tk29 rfl rfl rfl rfl (aU rfl (aW Tryz.underlying29 rfl) (aU rfl (Q0 rfl (cS x.marks.l.length hl_marks)) (aA rfl (aNs (aSR (aA rfl (aNn (aq ?_))))))))))))
 rw [← s0]
 refine aQ [1, 3, 4] [6, 5, 4, 3, 2, 1, 0] [0] (fun (k : Nat) st => k ≤ x.marks.l.length ∧ st = ⟨[(1, true, .pointer (some ⟨b0_0, 0, none⟩)), (3, true, .string (bytesOf (S0 ++ aK iA (x.marks.l.take k)))), (4, true, .int .i64 k)], [ShF cC.row x.depths, ShF eh.row x.vars, ShF b8.row x.inlines, ShF bE.row x.ends, ShF du.row x.lines, ShF dA.row x.marks, x.ok], [Box b0_0 36 x.vs]⟩) (fun k => x.marks.l.length - k) rfl (⟨0, Nat.zero_le _, by rw [List.take_zero]; show _ = (⟨[_, (3, true, .string (bytesOf (S0 ++ []))), _], _, _⟩ : Sta); rw [List.append_nil]; rfl⟩) ?_
 rintro k st ⟨hk, rfl⟩
 refine aj (aSR (aM rfl (UO 0 rfl rfl (UL 0 tk29 rfl rfl rfl rfl (aU rfl (aW Tryz.underlying29 rfl) (aU rfl (bD rfl rfl) (aNn ?_)))))))
 refine ao _ rfl (fun h1 => ?_) (fun h1 => ?_)
 ·skip
  have hk' : k < x.marks.l.length := by simpa using h1
  obtain ⟨y, hx⟩ : ∃ y, x.marks.l[k]? = some y := ⟨_, List.getElem?_eq_getElem hk'⟩
  obtain ⟨w0, w1, w2⟩ := i_marks y (List.mem_of_getElem? hx)
  have hst : S0 ++ aK iA (x.marks.l.take (k + 1)) = (((S0 ++ aK iA (x.marks.l.take k)) ++ ak.enc y.name) ++ aK ai.enc [y.kind, y.at_, y.size]) := by rw [eA hx]; simp only [aK, List.map_cons, List.map_nil, List.flatten_cons, List.flatten_nil, List.append_nil, List.append_assoc]; rfl
  have d2 := jN (k + 1) b0
  rw [hst] at d2
  have d1 := (ah d2).1
  refine ar (an (aj (aq (DR [] 31 (VM 0 rfl rfl (VO 1 0 rfl rfl rfl (VL 2 0 tk29 rfl rfl rfl rfl rfl (VM 3 rfl rfl (XI 4 Tryz.underlying29 tk157 5 rfl rfl rfl rfl rfl rfl (aI hx) rfl rfl (fun ⟨b5_4, o5_4⟩ => (VO 5 0 rfl rfl rfl (VT 6 0 tk9 0 rfl rfl rfl rfl rfl rfl (bV 7 rfl rfl (Q0 rfl (b6 y.name (cZ (ah d1).2))) (bV 8 rfl rfl (bB rfl rfl d1) (VO 9 0 rfl rfl rfl ?_)))))))))))))))
  refine VL 10 0 tk29 rfl rfl rfl rfl rfl (VM 11 rfl rfl (XI 12 Tryz.underlying29 tk157 6 rfl rfl rfl rfl rfl rfl (aI hx) rfl rfl (fun ⟨b5_12, o5_12⟩ => (VO 13 1 rfl rfl rfl (VT 14 1 tk3 0 rfl rfl rfl rfl rfl rfl (VO 15 0 rfl rfl rfl (VL 16 0 tk29 rfl rfl rfl rfl rfl (VM 17 rfl rfl (XI 18 Tryz.underlying29 tk157 7 rfl rfl rfl rfl rfl rfl (aI hx) rfl rfl (fun ⟨b5_18, o5_18⟩ => (VO 19 2 rfl rfl rfl (VT 20 2 tk3 0 rfl rfl rfl rfl rfl rfl (VO 21 0 rfl rfl rfl (VL 22 0 tk29 rfl rfl rfl rfl rfl (VM 23 rfl rfl ?_)))))))))))))))
  refine XI 24 Tryz.underlying29 tk157 8 rfl rfl rfl rfl rfl rfl (aI hx) rfl rfl (fun ⟨b5_24, o5_24⟩ => (VO 25 3 rfl rfl rfl (VT 26 3 tk3 0 rfl rfl rfl rfl rfl rfl (VB (zs := [.int .i64 0]) 27 rfl el25 rfl rfl rfl rfl (.more rfl (.v rfl .nil) (.more rfl (.v rfl .nil) (.more rfl (.v rfl .nil) .nil))) rfl rfl (fun v5_27 => ?_)))))
  refine bV 28 rfl rfl (Q1 rfl ((bZ ⟨v5_27, 3, [y.kind, y.at_, y.size]⟩ (by intro y hy; simp only [List.mem_cons, List.not_mem_nil, or_false] at hy; rcases hy with rfl | rfl | rfl <;> assumption) ((ah d2).2)).post (fun _ _ _ h => h.2.2)) 0 rfl) ?_
  refine bV 29 rfl rfl (bB rfl rfl d2) (bV 30 rfl rfl (bw rfl) (BN (bA (an (aa (aM rfl (aU rfl (aX rfl rfl (by omega)) (aA rfl (aNn ?_)))))))))
  refine ⟨[1, 3, 4], [6, 5, 4, 3, 2, 1, 0], [0], rfl, ?_⟩
  refine ⟨k + 1, ⟨hk', ?_⟩, by omega⟩
  rw [hst]
  rfl
 ·skip
  have hke : k = x.marks.l.length := by simp at h1; omega
  subst hke
  rw [List.take_length, ← t0]
  refine aR (aS (aS (aZ (an (aSR (aM rfl (UO 1 rfl rfl (UL 0 tk30 rfl rfl rfl rfl (aU rfl (aW Tryz.underlying30 rfl) (aU rfl (Q0 rfl (cS x.lines.l.length hl_lines)) ?_))))))))))
  refine aU rfl (bB rfl rfl c1) (aA rfl (aNs (aSR (aA rfl (aNn (aq ?_))))))
  rw [← s1]
  refine aQ [1, 3, 5] [6, 5, 4, 3, 2, 1, 0] [0] (fun (k : Nat) st => k ≤ x.lines.l.length ∧ st = ⟨[(1, true, .pointer (some ⟨b0_0, 0, none⟩)), (3, true, .string (bytesOf (S1 ++ aK iE (x.lines.l.take k)))), (5, true, .int .i64 k)], [ShF cC.row x.depths, ShF eh.row x.vars, ShF b8.row x.inlines, ShF bE.row x.ends, ShF du.row x.lines, ShF dA.row x.marks, x.ok], [Box b0_0 36 x.vs]⟩) (fun k => x.lines.l.length - k) rfl (⟨0, Nat.zero_le _, by rw [List.take_zero]; show _ = (⟨[_, (3, true, .string (bytesOf (S1 ++ []))), _], _, _⟩ : Sta); rw [List.append_nil]; rfl⟩) ?_
  rintro k st ⟨hk, rfl⟩
  refine aj (aSR (aM rfl (UO 1 rfl rfl (UL 0 tk30 rfl rfl rfl rfl (aU rfl (aW Tryz.underlying30 rfl) (aU rfl (bD rfl rfl) (aNn ?_)))))))
  refine ao _ rfl (fun h2 => ?_) (fun h2 => ?_)
  ·skip
   have hk' : k < x.lines.l.length := by simpa using h2
   obtain ⟨y, hx⟩ : ∃ y, x.lines.l[k]? = some y := ⟨_, List.getElem?_eq_getElem hk'⟩
   obtain ⟨w0, w1, w2⟩ := i_lines y (List.mem_of_getElem? hx)
   have hst : S1 ++ aK iE (x.lines.l.take (k + 1)) = ((((S1 ++ aK iE (x.lines.l.take k)) ++ aK ai.enc [y.sec, y.at_]) ++ ak.enc y.file) ++ aK ai.enc [y.line]) := by rw [eA hx]; simp only [aK, List.map_cons, List.map_nil, List.flatten_cons, List.flatten_nil, List.append_nil, List.append_assoc]; rfl
   have d3 := jN (k + 1) b1
   rw [hst] at d3
   have d2 := (ah d3).1
   have d1 := (ah d2).1
   refine ar (an (aj (aq (DC [] [] [] 34 ?_))))
   refine mK (X := Unit) (fun _ => ⟨[(1, true, .pointer (some ⟨b0_0, 0, none⟩)), (3, true, .string (bytesOf ((((S1 ++ aK iE (x.lines.l.take k)) ++ aK ai.enc [y.sec, y.at_]) ++ ak.enc y.file) ++ aK ai.enc [y.line]))), (5, true, .int .i64 k)], [ShF cC.row x.depths, ShF eh.row x.vars, ShF b8.row x.inlines, ShF bE.row x.ends, ShF du.row x.lines, ShF dA.row x.marks, x.ok], [Box b0_0 36 x.vs]⟩) ?_ ?_
   ·skip
    refine CF 0 rfl rfl rfl (aP rfl) (CF 1 rfl rfl rfl (qFA (off := 1) rfl) (CQ 2 rfl rfl rfl (bC 0 tk30 rfl rfl rfl) (CF 3 rfl rfl rfl (aP rfl) (tQ 4 rfl (by kernel_rfl) rfl rfl (eB Tryz.underlying30 tk159 rfl ((.of (aD 4 rfl))) rfl (aI hx) rfl rfl) (fun ⟨b10_4, o10_4⟩ => (CF 5 rfl rfl rfl (qFA (off := 0) rfl) (CF 6 rfl rfl rfl (bj (o := 0) tk3 rfl (.of (aD 0 rfl)) rfl) (CF 7 rfl rfl rfl (qFA (off := 1) rfl) (CQ 8 rfl rfl rfl (bC 0 tk30 rfl rfl rfl) (CF 9 rfl rfl rfl (aP rfl) (tQ 10 rfl (by kernel_rfl) rfl rfl (eB Tryz.underlying30 tk159 rfl ((.of (aD 5 rfl))) rfl (aI hx) rfl rfl) (fun ⟨b10_10, o10_10⟩ => (CF 11 rfl rfl rfl (qFA (off := 1) rfl) (CF 12 rfl rfl rfl (bj (o := 1) tk3 rfl (.of (aD 0 rfl)) rfl) (CF 16 rfl rfl rfl (qFA (off := 1) rfl) ?_)))))))))))))))
    refine CQ 17 rfl rfl rfl (bC 0 tk30 rfl rfl rfl) (CF 18 rfl rfl rfl (aP rfl) (tQ 19 rfl (by kernel_rfl) rfl rfl (eB Tryz.underlying30 tk159 rfl ((.of (aD 6 rfl))) rfl (aI hx) rfl rfl) (fun ⟨b10_19, o10_19⟩ => (CF 20 rfl rfl rfl (qFA (off := 2) rfl) (CF 21 rfl rfl rfl (bj (o := 2) tk9 rfl (.of (aD 0 rfl)) rfl) (CF 24 rfl rfl rfl (qFA (off := 1) rfl) (CQ 25 rfl rfl rfl (bC 0 tk30 rfl rfl rfl) (CF 26 rfl rfl rfl (aP rfl) (tQ 27 rfl (by kernel_rfl) rfl rfl (eB Tryz.underlying30 tk159 rfl ((.of (aD 7 rfl))) rfl (aI hx) rfl rfl) (fun ⟨b10_27, o10_27⟩ => (CF 28 rfl rfl rfl (qFA (off := 3) rfl) (CF 29 rfl rfl rfl (bj (o := 3) tk3 rfl (.of (aD 0 rfl)) rfl) ?_))))))))))))
    refine cY 13 [30] (by kernel_rfl) (b9 ?_ (b9 ?_ cH))
    ·skip
     refine dq 13 rfl rfl (Eff.x (id (WL (zs := [.int .i64 0]) el25 rfl rfl rfl (.more rfl (.v rfl .nil) (.more rfl (.v rfl .nil) .nil)) rfl rfl (fun v10_13 => (CST ?_)))))
     refine dT 1 rfl (CST ?_)
     refine CF 14 rfl rfl rfl (Q1 rfl ((bZ ⟨v10_13, 2, [y.sec, y.at_]⟩ (by intro y hy; simp only [List.mem_cons, List.not_mem_nil, or_false] at hy; rcases hy with rfl | rfl <;> assumption) ((ah d1).2)).post (fun _ _ _ h => h.2.2)) 0 rfl) ?_
     refine CF 15 rfl rfl rfl (bB rfl rfl d1) (CF 22 rfl rfl rfl (Q0 rfl (b6 y.file (cZ (ah d2).2))) (CF 23 rfl rfl rfl (bB rfl rfl d2) ?_))
     refine cY 30 [] (by kernel_rfl) (b9 ?_ cH)
     refine dq 30 rfl rfl (Eff.x (id (WL (zs := [.int .i64 0]) el25 rfl rfl rfl (.more rfl (.v rfl .nil) .nil) rfl rfl (fun v10_30 => (CST ?_)))))
     refine dT 2 rfl (CST ?_)
     refine CF 31 rfl rfl rfl (Q1 rfl ((bZ ⟨v10_30, 1, [y.line]⟩ (by intro y hy; simp only [List.mem_cons, List.not_mem_nil, or_false] at hy; rw [hy]; assumption) ((ah d3).2)).post (fun _ _ _ h => h.2.2)) 0 rfl) ?_
     refine CF 32 rfl rfl rfl (bB rfl rfl d3) (CF 33 rfl rfl rfl (bw rfl) (fP (by kernel_rfl) ?_))
     exact ⟨rfl, [1, 3, 5], [6, 5, 4, 3, 2, 1, 0], [0], (), rfl, rfl⟩
    ·skip
     refine dq 30 rfl rfl (Eff.x (id (WL (zs := [.int .i64 0]) el25 rfl rfl rfl (.more rfl (.v rfl .nil) .nil) rfl rfl (fun v10_30 => (CST ?_)))))
     refine cY 13 [] (by kernel_rfl) (b9 ?_ cH)
     refine dq 13 rfl rfl (Eff.x (id (WL (zs := [.int .i64 0]) el25 rfl rfl rfl (.more rfl (.v rfl .nil) (.more rfl (.v rfl .nil) .nil)) rfl rfl (fun v10_13 => (CST ?_)))))
     refine dT 2 rfl (CST ?_)
     refine CF 14 rfl rfl rfl (Q1 rfl ((bZ ⟨v10_13, 2, [y.sec, y.at_]⟩ (by intro y hy; simp only [List.mem_cons, List.not_mem_nil, or_false] at hy; rcases hy with rfl | rfl <;> assumption) ((ah d1).2)).post (fun _ _ _ h => h.2.2)) 0 rfl) ?_
     refine CF 15 rfl rfl rfl (bB rfl rfl d1) (CF 22 rfl rfl rfl (Q0 rfl (b6 y.file (cZ (ah d2).2))) (CF 23 rfl rfl rfl (bB rfl rfl d2) (dT 1 rfl (CST ?_))))
     refine CF 31 rfl rfl rfl (Q1 rfl ((bZ ⟨v10_30, 1, [y.line]⟩ (by intro y hy; simp only [List.mem_cons, List.not_mem_nil, or_false] at hy; rw [hy]; assumption) ((ah d3).2)).post (fun _ _ _ h => h.2.2)) 0 rfl) ?_
     refine CF 32 rfl rfl rfl (bB rfl rfl d3) (CF 33 rfl rfl rfl (bw rfl) (fP (by kernel_rfl) ?_))
     exact ⟨rfl, [1, 3, 5], [6, 5, 4, 3, 2, 1, 0], [0], (), rfl, rfl⟩
   ·skip
    rintro ⟨⟩
    refine bA (an (aa (aM rfl (aU rfl (aX rfl rfl (by omega)) (aA rfl (aNn ?_))))))
    refine ⟨[1, 3, 5], [6, 5, 4, 3, 2, 1, 0], [0], rfl, ?_⟩
    refine ⟨k + 1, ⟨hk', ?_⟩, by omega⟩
    rw [hst]
    rfl
  ·skip
   have hke : k = x.lines.l.length := by simp at h2; omega
   subst hke
   rw [List.take_length, ← t1]
   refine aR (aS (aS (aZ (an (aSR (aM rfl (UO 2 rfl rfl (UL 0 tk31 rfl rfl rfl rfl (aU rfl (aW Tryz.underlying31 rfl) (aU rfl (Q0 rfl (cS x.ends.l.length hl_ends)) ?_))))))))))
   refine aU rfl (bB rfl rfl c2) (aA rfl (aNs (aSR (aA rfl (aNn (aq ?_))))))
   rw [← s2]
   refine aQ [1, 3, 6] [6, 5, 4, 3, 2, 1, 0] [0] (fun (k : Nat) st => k ≤ x.ends.l.length ∧ st = ⟨[(1, true, .pointer (some ⟨b0_0, 0, none⟩)), (3, true, .string (bytesOf (S2 ++ aK jb (x.ends.l.take k)))), (6, true, .int .i64 k)], [ShF cC.row x.depths, ShF eh.row x.vars, ShF b8.row x.inlines, ShF bE.row x.ends, ShF du.row x.lines, ShF dA.row x.marks, x.ok], [Box b0_0 36 x.vs]⟩) (fun k => x.ends.l.length - k) rfl (⟨0, Nat.zero_le _, by rw [List.take_zero]; show _ = (⟨[_, (3, true, .string (bytesOf (S2 ++ []))), _], _, _⟩ : Sta); rw [List.append_nil]; rfl⟩) ?_
   rintro k st ⟨hk, rfl⟩
   refine aj (aSR (aM rfl (UO 2 rfl rfl (UL 0 tk31 rfl rfl rfl rfl (aU rfl (aW Tryz.underlying31 rfl) (aU rfl (bD rfl rfl) (aNn ?_)))))))
   refine ao _ rfl (fun h3 => ?_) (fun h3 => ?_)
   ·skip
    have hk' : k < x.ends.l.length := by simpa using h3
    obtain ⟨y, hx⟩ : ∃ y, x.ends.l[k]? = some y := ⟨_, List.getElem?_eq_getElem hk'⟩
    obtain ⟨w0, w1⟩ := i_ends y (List.mem_of_getElem? hx)
    have hst : S2 ++ aK jb (x.ends.l.take (k + 1)) = ((S2 ++ aK jb (x.ends.l.take k)) ++ aK ai.enc [y.at_, y.size]) := by rw [eA hx]; simp only [aK, List.map_cons, List.map_nil, List.flatten_cons, List.flatten_nil, List.append_nil, List.append_assoc]; rfl
    have d1 := jN (k + 1) b2
    rw [hst] at d1
    refine ar (an (aj (aq (DR [] 17 (VM 0 rfl rfl (VO 1 2 rfl rfl rfl (VL 2 0 tk31 rfl rfl rfl rfl rfl (VM 3 rfl rfl (XI 4 Tryz.underlying31 tk161 3 rfl rfl rfl rfl rfl rfl (aI hx) rfl rfl (fun ⟨b15_4, o15_4⟩ => (VO 5 0 rfl rfl rfl (VT 6 0 tk3 0 rfl rfl rfl rfl rfl rfl (VO 7 2 rfl rfl rfl (VL 8 0 tk31 rfl rfl rfl rfl rfl (VM 9 rfl rfl ?_)))))))))))))))
    refine XI 10 Tryz.underlying31 tk161 4 rfl rfl rfl rfl rfl rfl (aI hx) rfl rfl (fun ⟨b15_10, o15_10⟩ => (VO 11 1 rfl rfl rfl (VT 12 1 tk3 0 rfl rfl rfl rfl rfl rfl (VB (zs := [.int .i64 0]) 13 rfl el25 rfl rfl rfl rfl (.more rfl (.v rfl .nil) (.more rfl (.v rfl .nil) .nil)) rfl rfl (fun v15_13 => ?_)))))
    refine bV 14 rfl rfl (Q1 rfl ((bZ ⟨v15_13, 2, [y.at_, y.size]⟩ (by intro y hy; simp only [List.mem_cons, List.not_mem_nil, or_false] at hy; rcases hy with rfl | rfl <;> assumption) ((ah d1).2)).post (fun _ _ _ h => h.2.2)) 0 rfl) ?_
    refine bV 15 rfl rfl (bB rfl rfl d1) (bV 16 rfl rfl (bw rfl) (BN (bA (an (aa (aM rfl (aU rfl (aX rfl rfl (by omega)) (aA rfl (aNn ?_)))))))))
    refine ⟨[1, 3, 6], [6, 5, 4, 3, 2, 1, 0], [0], rfl, ?_⟩
    refine ⟨k + 1, ⟨hk', ?_⟩, by omega⟩
    rw [hst]
    rfl
   ·skip
    have hke : k = x.ends.l.length := by simp at h3; omega
    subst hke
    rw [List.take_length, ← t2]
    refine aR (aS (aS (aZ (an (aSR (aM rfl (UO 3 rfl rfl (UL 0 tk32 rfl rfl rfl rfl (aU rfl (aW Tryz.underlying32 rfl) (aU rfl (Q0 rfl (cS x.inlines.l.length hl_inlines)) ?_))))))))))
    refine aU rfl (bB rfl rfl c3) (aA rfl (aNs (aSR (aA rfl (aNn (aq ?_))))))
    rw [← s3]
    refine aQ [1, 3, 7] [6, 5, 4, 3, 2, 1, 0] [0] (fun (k : Nat) st => k ≤ x.inlines.l.length ∧ st = ⟨[(1, true, .pointer (some ⟨b0_0, 0, none⟩)), (3, true, .string (bytesOf (S3 ++ aK fA (x.inlines.l.take k)))), (7, true, .int .i64 k)], [ShF cC.row x.depths, ShF eh.row x.vars, ShF b8.row x.inlines, ShF bE.row x.ends, ShF du.row x.lines, ShF dA.row x.marks, x.ok], [Box b0_0 36 x.vs]⟩) (fun k => x.inlines.l.length - k) rfl (⟨0, Nat.zero_le _, by rw [List.take_zero]; show _ = (⟨[_, (3, true, .string (bytesOf (S3 ++ []))), _], _, _⟩ : Sta); rw [List.append_nil]; rfl⟩) ?_
    rintro k st ⟨hk, rfl⟩
    refine aj (aSR (aM rfl (UO 3 rfl rfl (UL 0 tk32 rfl rfl rfl rfl (aU rfl (aW Tryz.underlying32 rfl) (aU rfl (bD rfl rfl) (aNn ?_)))))))
    refine ao _ rfl (fun h4 => ?_) (fun h4 => ?_)
    ·skip
     have hk' : k < x.inlines.l.length := by simpa using h4
     obtain ⟨y, hx⟩ : ∃ y, x.inlines.l[k]? = some y := ⟨_, List.getElem?_eq_getElem hk'⟩
     obtain ⟨w0, w1, w2, w3⟩ := i_inlines y (List.mem_of_getElem? hx)
     have hst : S3 ++ aK fA (x.inlines.l.take (k + 1)) = (((((S3 ++ aK fA (x.inlines.l.take k)) ++ aK ai.enc [y.sec, y.from_, y.to_]) ++ ak.enc y.name) ++ ak.enc y.file) ++ aK ai.enc [y.line]) := by rw [eA hx]; simp only [aK, List.map_cons, List.map_nil, List.flatten_cons, List.flatten_nil, List.append_nil, List.append_assoc]; rfl
     have d4 := jN (k + 1) b3
     rw [hst] at d4
     have d3 := (ah d4).1
     have d2 := (ah d3).1
     have d1 := (ah d2).1
     refine ar (an (aj (aq (aSR (UO 3 rfl rfl (UL 0 tk32 rfl rfl rfl rfl (aM rfl (UI Tryz.underlying32 tk192 2 rfl rfl rfl rfl rfl (aI hx) rfl rfl (fun ⟨b20_3, o20_3⟩ => (US 0 tk192 0 rfl rfl rfl rfl rfl (LT rfl (bI (zs := [.int .i64 0, .int .i64 0, .int .i64 0, .string .empty, .string .empty, .int .i64 0]) (by kernel_rfl) rfl (fun b20_5 => (aHN ?_))))))))))))))
     refine aT rfl (bg 1 tk192 rfl rfl rfl rfl (aHK ?_))
     refine aNn (DC [] [] [] 24 ?_)
     refine mK (X := Unit) (fun _ => ⟨[(1, true, .pointer (some ⟨b0_0, 0, none⟩)), (3, true, .string (bytesOf (((((S3 ++ aK fA (x.inlines.l.take k)) ++ aK ai.enc [y.sec, y.from_, y.to_]) ++ ak.enc y.name) ++ ak.enc y.file) ++ aK ai.enc [y.line]))), (7, true, .int .i64 k)], [ShF cC.row x.depths, ShF eh.row x.vars, ShF b8.row x.inlines, ShF bE.row x.ends, ShF du.row x.lines, ShF dA.row x.marks, x.ok], [Box b0_0 36 x.vs]⟩) ?_ ?_
     ·skip
      refine CF 0 rfl rfl rfl (aP rfl) (CF 1 rfl rfl rfl (qFA (off := 0) rfl) (CQ 2 rfl rfl rfl (bC 1 tk3 rfl rfl rfl) (CF 3 rfl rfl rfl (qFA (off := 1) rfl) (CQ 4 rfl rfl rfl (bC 1 tk3 rfl rfl rfl) (CF 5 rfl rfl rfl (qFA (off := 2) rfl) (CQ 6 rfl rfl rfl (bC 1 tk3 rfl rfl rfl) (CF 10 rfl rfl rfl (qFA (off := 3) rfl) (CQ 11 rfl rfl rfl (bC 1 tk9 rfl rfl rfl) (CF 14 rfl rfl rfl (qFA (off := 4) rfl) (CQ 15 rfl rfl rfl (bC 1 tk9 rfl rfl rfl) (CF 18 rfl rfl rfl (qFA (off := 5) rfl) (CQ 19 rfl rfl rfl (bC 1 tk3 rfl rfl rfl) ?_))))))))))))
      refine cY 7 [20] (by kernel_rfl) (b9 ?_ (b9 ?_ cH))
      ·skip
       refine dq 7 rfl rfl (Eff.x (id (WL (zs := [.int .i64 0]) el25 rfl rfl rfl (.more rfl (.v rfl .nil) (.more rfl (.v rfl .nil) (.more rfl (.v rfl .nil) .nil))) rfl rfl (fun v21_7 => (CST ?_)))))
       refine dT 2 rfl (CST ?_)
       refine CF 8 rfl rfl rfl (Q1 rfl ((bZ ⟨v21_7, 3, [y.sec, y.from_, y.to_]⟩ (by intro y hy; simp only [List.mem_cons, List.not_mem_nil, or_false] at hy; rcases hy with rfl | rfl | rfl <;> assumption) ((ah d1).2)).post (fun _ _ _ h => h.2.2)) 0 rfl) ?_
       refine CF 9 rfl rfl rfl (bB rfl rfl d1) (CF 12 rfl rfl rfl (Q0 rfl (b6 y.name (cZ (ah d2).2))) (CF 13 rfl rfl rfl (bB rfl rfl d2) (CF 16 rfl rfl rfl (Q0 rfl (b6 y.file (cZ (ah d3).2))) (CF 17 rfl rfl rfl (bB rfl rfl d3) ?_))))
       refine cY 20 [] (by kernel_rfl) (b9 ?_ cH)
       refine dq 20 rfl rfl (Eff.x (id (WL (zs := [.int .i64 0]) el25 rfl rfl rfl (.more rfl (.v rfl .nil) .nil) rfl rfl (fun v21_20 => (CST ?_)))))
       refine dT 3 rfl (CST ?_)
       refine CF 21 rfl rfl rfl (Q1 rfl ((bZ ⟨v21_20, 1, [y.line]⟩ (by intro y hy; simp only [List.mem_cons, List.not_mem_nil, or_false] at hy; rw [hy]; assumption) ((ah d4).2)).post (fun _ _ _ h => h.2.2)) 0 rfl) ?_
       refine CF 22 rfl rfl rfl (bB rfl rfl d4) (CF 23 rfl rfl rfl (bw rfl) (fP (by kernel_rfl) ?_))
       exact ⟨rfl, [1, 3, 7], [6, 5, 4, 3, 2, 1, 0], [0], (), rfl, rfl⟩
      ·skip
       refine dq 20 rfl rfl (Eff.x (id (WL (zs := [.int .i64 0]) el25 rfl rfl rfl (.more rfl (.v rfl .nil) .nil) rfl rfl (fun v21_20 => (CST ?_)))))
       refine cY 7 [] (by kernel_rfl) (b9 ?_ cH)
       refine dq 7 rfl rfl (Eff.x (id (WL (zs := [.int .i64 0]) el25 rfl rfl rfl (.more rfl (.v rfl .nil) (.more rfl (.v rfl .nil) (.more rfl (.v rfl .nil) .nil))) rfl rfl (fun v21_7 => (CST ?_)))))
       refine dT 3 rfl (CST ?_)
       refine CF 8 rfl rfl rfl (Q1 rfl ((bZ ⟨v21_7, 3, [y.sec, y.from_, y.to_]⟩ (by intro y hy; simp only [List.mem_cons, List.not_mem_nil, or_false] at hy; rcases hy with rfl | rfl | rfl <;> assumption) ((ah d1).2)).post (fun _ _ _ h => h.2.2)) 0 rfl) ?_
       refine CF 9 rfl rfl rfl (bB rfl rfl d1) (CF 12 rfl rfl rfl (Q0 rfl (b6 y.name (cZ (ah d2).2))) (CF 13 rfl rfl rfl (bB rfl rfl d2) (CF 16 rfl rfl rfl (Q0 rfl (b6 y.file (cZ (ah d3).2))) (CF 17 rfl rfl rfl (bB rfl rfl d3) (dT 2 rfl (CST ?_))))))
       refine CF 21 rfl rfl rfl (Q1 rfl ((bZ ⟨v21_20, 1, [y.line]⟩ (by intro y hy; simp only [List.mem_cons, List.not_mem_nil, or_false] at hy; rw [hy]; assumption) ((ah d4).2)).post (fun _ _ _ h => h.2.2)) 0 rfl) ?_
       refine CF 22 rfl rfl rfl (bB rfl rfl d4) (CF 23 rfl rfl rfl (bw rfl) (fP (by kernel_rfl) ?_))
       exact ⟨rfl, [1, 3, 7], [6, 5, 4, 3, 2, 1, 0], [0], (), rfl, rfl⟩
     ·skip
      rintro ⟨⟩
      refine bA (an (aa (aM rfl (aU rfl (aX rfl rfl (by omega)) (aA rfl (aNn ?_))))))
      refine ⟨[1, 3, 7], [6, 5, 4, 3, 2, 1, 0], [0], rfl, ?_⟩
      refine ⟨k + 1, ⟨hk', ?_⟩, by omega⟩
      rw [hst]
      rfl
    ·skip
     have hke : k = x.inlines.l.length := by simp at h4; omega
     subst hke
     rw [List.take_length, ← t3]
     refine aR (aS (aS (aZ (an (aSR (aM rfl (UO 4 rfl rfl (UL 0 tk33 rfl rfl rfl rfl (aU rfl (aW Tryz.underlying33 rfl) (aU rfl (Q0 rfl (cS x.vars.l.length hl_vars)) ?_))))))))))
     refine aU rfl (bB rfl rfl c4) (aA rfl (aNs (aSR (aA rfl (aNn (aq ?_))))))
     rw [← s4]
     refine aQ [1, 3, 9] [6, 5, 4, 3, 2, 1, 0] [0] (fun (k : Nat) st => k ≤ x.vars.l.length ∧ st = ⟨[(1, true, .pointer (some ⟨b0_0, 0, none⟩)), (3, true, .string (bytesOf (S4 ++ aK oC (x.vars.l.take k)))), (9, true, .int .i64 k)], [ShF cC.row x.depths, ShF eh.row x.vars, ShF b8.row x.inlines, ShF bE.row x.ends, ShF du.row x.lines, ShF dA.row x.marks, x.ok], [Box b0_0 36 x.vs]⟩) (fun k => x.vars.l.length - k) rfl (⟨0, Nat.zero_le _, by rw [List.take_zero]; show _ = (⟨[_, (3, true, .string (bytesOf (S4 ++ []))), _], _, _⟩ : Sta); rw [List.append_nil]; rfl⟩) ?_
     rintro k st ⟨hk, rfl⟩
     refine aj (aSR (aM rfl (UO 4 rfl rfl (UL 0 tk33 rfl rfl rfl rfl (aU rfl (aW Tryz.underlying33 rfl) (aU rfl (bD rfl rfl) (aNn ?_)))))))
     refine ao _ rfl (fun h5 => ?_) (fun h5 => ?_)
     ·skip
      have hk' : k < x.vars.l.length := by simpa using h5
      obtain ⟨y, hx⟩ : ∃ y, x.vars.l[k]? = some y := ⟨_, List.getElem?_eq_getElem hk'⟩
      obtain ⟨w0, w1, w2, w3, w4⟩ := i_vars y (List.mem_of_getElem? hx)
      have hst : S4 ++ aK oC (x.vars.l.take (k + 1)) = ((((S4 ++ aK oC (x.vars.l.take k)) ++ aK ai.enc [y.sec, y.from_, y.to_]) ++ ak.enc y.name) ++ aK ai.enc [y.where_, y.n]) := by rw [eA hx]; simp only [aK, List.map_cons, List.map_nil, List.flatten_cons, List.flatten_nil, List.append_nil, List.append_assoc]; rfl
      have d3 := jN (k + 1) b4
      rw [hst] at d3
      have d2 := (ah d3).1
      have d1 := (ah d2).1
      refine ar (an (aj (aq (aSR (UO 4 rfl rfl (UL 0 tk33 rfl rfl rfl rfl (aM rfl (UI Tryz.underlying33 tk198 1 rfl rfl rfl rfl rfl (aI hx) rfl rfl (fun ⟨b26_3, o26_3⟩ => (US 0 tk198 0 rfl rfl rfl rfl rfl (LT rfl (bI (zs := [.int .i64 0, .int .i64 0, .int .i64 0, .string .empty, .int .i64 0, .int .i64 0]) (by kernel_rfl) rfl (fun b26_5 => (aHN ?_))))))))))))))
      refine aT rfl (bg 1 tk198 rfl rfl rfl rfl (aHK ?_))
      refine aNn (DC [] [] [] 22 ?_)
      refine mK (X := Unit) (fun _ => ⟨[(1, true, .pointer (some ⟨b0_0, 0, none⟩)), (3, true, .string (bytesOf ((((S4 ++ aK oC (x.vars.l.take k)) ++ aK ai.enc [y.sec, y.from_, y.to_]) ++ ak.enc y.name) ++ aK ai.enc [y.where_, y.n]))), (9, true, .int .i64 k)], [ShF cC.row x.depths, ShF eh.row x.vars, ShF b8.row x.inlines, ShF bE.row x.ends, ShF du.row x.lines, ShF dA.row x.marks, x.ok], [Box b0_0 36 x.vs]⟩) ?_ ?_
      ·skip
       refine CF 0 rfl rfl rfl (aP rfl) (CF 1 rfl rfl rfl (qFA (off := 0) rfl) (CQ 2 rfl rfl rfl (bC 1 tk3 rfl rfl rfl) (CF 3 rfl rfl rfl (qFA (off := 1) rfl) (CQ 4 rfl rfl rfl (bC 1 tk3 rfl rfl rfl) (CF 5 rfl rfl rfl (qFA (off := 2) rfl) (CQ 6 rfl rfl rfl (bC 1 tk3 rfl rfl rfl) (CF 10 rfl rfl rfl (qFA (off := 3) rfl) (CQ 11 rfl rfl rfl (bC 1 tk9 rfl rfl rfl) (CF 14 rfl rfl rfl (qFA (off := 4) rfl) (CQ 15 rfl rfl rfl (bC 1 tk3 rfl rfl rfl) (CF 16 rfl rfl rfl (qFA (off := 5) rfl) (CQ 17 rfl rfl rfl (bC 1 tk3 rfl rfl rfl) ?_))))))))))))
       refine cY 7 [18] (by kernel_rfl) (b9 ?_ (b9 ?_ cH))
       ·skip
        refine dq 7 rfl rfl (Eff.x (id (WL (zs := [.int .i64 0]) el25 rfl rfl rfl (.more rfl (.v rfl .nil) (.more rfl (.v rfl .nil) (.more rfl (.v rfl .nil) .nil))) rfl rfl (fun v27_7 => (CST ?_)))))
        refine dT 2 rfl (CST ?_)
        refine CF 8 rfl rfl rfl (Q1 rfl ((bZ ⟨v27_7, 3, [y.sec, y.from_, y.to_]⟩ (by intro y hy; simp only [List.mem_cons, List.not_mem_nil, or_false] at hy; rcases hy with rfl | rfl | rfl <;> assumption) ((ah d1).2)).post (fun _ _ _ h => h.2.2)) 0 rfl) ?_
        refine CF 9 rfl rfl rfl (bB rfl rfl d1) (CF 12 rfl rfl rfl (Q0 rfl (b6 y.name (cZ (ah d2).2))) (CF 13 rfl rfl rfl (bB rfl rfl d2) ?_))
        refine cY 18 [] (by kernel_rfl) (b9 ?_ cH)
        refine dq 18 rfl rfl (Eff.x (id (WL (zs := [.int .i64 0]) el25 rfl rfl rfl (.more rfl (.v rfl .nil) (.more rfl (.v rfl .nil) .nil)) rfl rfl (fun v27_18 => (CST ?_)))))
        refine dT 3 rfl (CST ?_)
        refine CF 19 rfl rfl rfl (Q1 rfl ((bZ ⟨v27_18, 2, [y.where_, y.n]⟩ (by intro y hy; simp only [List.mem_cons, List.not_mem_nil, or_false] at hy; rcases hy with rfl | rfl <;> assumption) ((ah d3).2)).post (fun _ _ _ h => h.2.2)) 0 rfl) ?_
        refine CF 20 rfl rfl rfl (bB rfl rfl d3) (CF 21 rfl rfl rfl (bw rfl) (fP (by kernel_rfl) ?_))
        exact ⟨rfl, [1, 3, 9], [6, 5, 4, 3, 2, 1, 0], [0], (), rfl, rfl⟩
       ·skip
        refine dq 18 rfl rfl (Eff.x (id (WL (zs := [.int .i64 0]) el25 rfl rfl rfl (.more rfl (.v rfl .nil) (.more rfl (.v rfl .nil) .nil)) rfl rfl (fun v27_18 => (CST ?_)))))
        refine cY 7 [] (by kernel_rfl) (b9 ?_ cH)
        refine dq 7 rfl rfl (Eff.x (id (WL (zs := [.int .i64 0]) el25 rfl rfl rfl (.more rfl (.v rfl .nil) (.more rfl (.v rfl .nil) (.more rfl (.v rfl .nil) .nil))) rfl rfl (fun v27_7 => (CST ?_)))))
        refine dT 3 rfl (CST ?_)
        refine CF 8 rfl rfl rfl (Q1 rfl ((bZ ⟨v27_7, 3, [y.sec, y.from_, y.to_]⟩ (by intro y hy; simp only [List.mem_cons, List.not_mem_nil, or_false] at hy; rcases hy with rfl | rfl | rfl <;> assumption) ((ah d1).2)).post (fun _ _ _ h => h.2.2)) 0 rfl) ?_
        refine CF 9 rfl rfl rfl (bB rfl rfl d1) (CF 12 rfl rfl rfl (Q0 rfl (b6 y.name (cZ (ah d2).2))) (CF 13 rfl rfl rfl (bB rfl rfl d2) (dT 2 rfl (CST ?_))))
        refine CF 19 rfl rfl rfl (Q1 rfl ((bZ ⟨v27_18, 2, [y.where_, y.n]⟩ (by intro y hy; simp only [List.mem_cons, List.not_mem_nil, or_false] at hy; rcases hy with rfl | rfl <;> assumption) ((ah d3).2)).post (fun _ _ _ h => h.2.2)) 0 rfl) ?_
        refine CF 20 rfl rfl rfl (bB rfl rfl d3) (CF 21 rfl rfl rfl (bw rfl) (fP (by kernel_rfl) ?_))
        exact ⟨rfl, [1, 3, 9], [6, 5, 4, 3, 2, 1, 0], [0], (), rfl, rfl⟩
      ·skip
       rintro ⟨⟩
       refine bA (an (aa (aM rfl (aU rfl (aX rfl rfl (by omega)) (aA rfl (aNn ?_))))))
       refine ⟨[1, 3, 9], [6, 5, 4, 3, 2, 1, 0], [0], rfl, ?_⟩
       refine ⟨k + 1, ⟨hk', ?_⟩, by omega⟩
       rw [hst]
       rfl
     ·skip
      have hke : k = x.vars.l.length := by simp at h5; omega
      subst hke
      rw [List.take_length, ← t4]
      refine aR (aS (aS (aZ (an (aSR (aM rfl (UO 5 rfl rfl (UL 0 tk34 rfl rfl rfl rfl (aU rfl (aW Tryz.underlying34 rfl) (aU rfl (Q0 rfl (cS x.depths.l.length hl_depths)) ?_))))))))))
      refine aU rfl (bB rfl rfl c5) (aA rfl (aNs (aSR (aA rfl (aNn (aq ?_))))))
      rw [← s5]
      refine aQ [1, 3, 11] [6, 5, 4, 3, 2, 1, 0] [0] (fun (k : Nat) st => k ≤ x.depths.l.length ∧ st = ⟨[(1, true, .pointer (some ⟨b0_0, 0, none⟩)), (3, true, .string (bytesOf (S5 ++ aK ja (x.depths.l.take k)))), (11, true, .int .i64 k)], [ShF cC.row x.depths, ShF eh.row x.vars, ShF b8.row x.inlines, ShF bE.row x.ends, ShF du.row x.lines, ShF dA.row x.marks, x.ok], [Box b0_0 36 x.vs]⟩) (fun k => x.depths.l.length - k) rfl (⟨0, Nat.zero_le _, by rw [List.take_zero]; show _ = (⟨[_, (3, true, .string (bytesOf (S5 ++ []))), _], _, _⟩ : Sta); rw [List.append_nil]; rfl⟩) ?_
      rintro k st ⟨hk, rfl⟩
      refine aj (aSR (aM rfl (UO 5 rfl rfl (UL 0 tk34 rfl rfl rfl rfl (aU rfl (aW Tryz.underlying34 rfl) (aU rfl (bD rfl rfl) (aNn ?_)))))))
      refine ao _ rfl (fun h6 => ?_) (fun h6 => ?_)
      ·skip
       have hk' : k < x.depths.l.length := by simpa using h6
       obtain ⟨y, hx⟩ : ∃ y, x.depths.l[k]? = some y := ⟨_, List.getElem?_eq_getElem hk'⟩
       obtain ⟨w0, w1, w2, w3⟩ := i_depths y (List.mem_of_getElem? hx)
       have hst : S5 ++ aK ja (x.depths.l.take (k + 1)) = ((S5 ++ aK ja (x.depths.l.take k)) ++ aK ai.enc [y.sec, y.from_, y.to_, y.bytes]) := by rw [eA hx]; simp only [aK, List.map_cons, List.map_nil, List.flatten_cons, List.flatten_nil, List.append_nil, List.append_assoc]; rfl
       have d1 := jN (k + 1) b5
       rw [hst] at d1
       refine ar (an (aj (aq (aSR (UO 5 rfl rfl (UL 0 tk34 rfl rfl rfl rfl (aM rfl (UI Tryz.underlying34 tk204 0 rfl rfl rfl rfl rfl (aI hx) rfl rfl (fun ⟨b32_3, o32_3⟩ => (US 0 tk204 0 rfl rfl rfl rfl rfl (LT rfl (bI (zs := [.int .i64 0, .int .i64 0, .int .i64 0, .int .i64 0]) (by kernel_rfl) rfl (fun b32_5 => (aHN ?_))))))))))))))
       refine aT rfl (bg 1 tk204 rfl rfl rfl rfl (aHK ?_))
       refine aNn (aa (aM rfl (UO 0 rfl rfl (UL 1 tk3 rfl rfl rfl rfl (UO 1 rfl rfl (UL 1 tk3 rfl rfl rfl rfl (UO 2 rfl rfl (UL 1 tk3 rfl rfl rfl rfl (UO 3 rfl rfl (UL 1 tk3 rfl rfl rfl rfl (LT rfl (WL (zs := [.int .i64 0]) el25 rfl rfl rfl (.more rfl (.v rfl .nil) (.more rfl (.v rfl .nil) (.more rfl (.v rfl .nil) (.more rfl (.v rfl .nil) .nil)))) rfl rfl (fun v33_9 => (aHN ?_))))))))))))))
       refine er 2 rfl ?_
       refine aU rfl (Q1 rfl ((bZ ⟨v33_9, 4, [y.sec, y.from_, y.to_, y.bytes]⟩ (by intro y hy; simp only [List.mem_cons, List.not_mem_nil, or_false] at hy; rcases hy with rfl | rfl | rfl | rfl <;> assumption) ((ah d1).2)).post (fun _ _ _ h => h.2.2)) 0 rfl) ?_
       refine aU rfl (bB rfl rfl d1) (aA rfl (bS (bA (an (aa (aM rfl (aU rfl (aX rfl rfl (by omega)) (aA rfl (aNn ?_)))))))))
       refine ⟨[1, 3, 11], [6, 5, 4, 3, 2, 1, 0], [0], rfl, ?_⟩
       refine ⟨k + 1, ⟨hk', ?_⟩, by omega⟩
       rw [hst]
       rfl
      ·skip
       have hke : k = x.depths.l.length := by simp at h6; omega
       subst hke
       rw [List.take_length, ← t5]
       refine aR (aS (aS (aZ (an (aSR (aM rfl (aA rfl (aNn (az (FZ1 [] Tryz.results60 rfl ?_))))))))))
       exact ⟨rfl, rfl, rfl⟩
end Go.Proofs.YtahgkiicjohonaaGreat

