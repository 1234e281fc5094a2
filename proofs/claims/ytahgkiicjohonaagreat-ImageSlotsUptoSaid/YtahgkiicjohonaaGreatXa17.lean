/- Parts of the proof, in build order. No condition. -/
import Derived.Test.YtahgkiicjohonaaGreatXa16
import Derived.Test.YtahgkiicjohonaaGreatXa05
import Derived.Test.YtahgkiicjohonaaGreatXa09
set_option linter.unusedSimpArgs false
set_option linter.unusedVariables false
set_option maxHeartbeats 1000000
set_option maxRecDepth 20000
namespace Go.Proofs.YtahgkiicjohonaaGreat
open Go.RowKit Go.Lp Go.Sy Go.Lv
open Go.Proofs.Tryz
attribute [local irreducible] aL aB awp aC fwp Quiet
theorem tD (im : ax) (hlen : im.exports.l.length ≤ 4096) (b bm b3 : Nat) (s : List ByteArray) (i : Nat) (x : bN) (hx : im.exports.l[i]? = some x) :
   Con Tryz.prog 99 [.int .i64 i, x.val, .pointer (some ⟨b, 0, none⟩), .pointer (some ⟨b3, 0, none⟩)] [cD (At b 0 im.row) (cD (At b3 0 [.v (.map (some bm))]) im.ok)] [ft bm i6 vBo (fc s)]
     fun r ps hp => ps = [] ∧ r = .bool (wz im s i x).1 ∧ hp = [ft bm i6 vBo (fc (wz im s i x).2)] := by
 have hil := (List.getElem?_eq_some_iff.1 hx).1
 refine EN4 Tryz.func99 rfl (aY _ (Ent.left (.of (aD 0 rfl))) (aY _ (Ent.left (Ent.right (.of (aD 1 rfl)))) (aY _ (Ent.right (Ent.right (.of (aD 2 rfl)))) (fl (bN.f_name (Ent.all (f := bN.ok) (ax.f_exportsA (.of (aD 0 rfl))) hx)) (fun hsn => (fl (bN.f_version (Ent.all (f := bN.ok) (ax.f_exportsA (.of (aD 0 rfl))) hx)) (fun hsv => (aSR (LT rfl (cx rfl rfl rfl (fun b0_0 => (aHN ?_))))))))))))
 refine aA rfl (aNn (aSR (UO 4 rfl rfl (UD 4 tk3 2 rfl rfl rfl rfl (aA rfl (aNs ?_))))))
 refine jl (X := {z : Int // z = yg im x}) (fun q => ⟨[(0, true, .int .i64 i), (2, true, .pointer (some ⟨b, 0, none⟩)), (3, true, .pointer (some ⟨b3, 0, none⟩)), (5, true, .pointer (some ⟨b0_0, 0, none⟩)), (7, true, .int .i64 q.1)], [im.ok, At b3 0 [.v (.map (some bm))], At b 0 im.row, cD (At b 0 im.row) (cD (At b3 0 [.v (.map (some bm))]) im.ok)], [ft bm i6 vBo (fc s), Box b0_0 96 x.vs]⟩) ?_ ?_
 ·skip
  refine aSR (UO 3 rfl rfl (UL 1 tk3 rfl rfl rfl rfl (aU rfl (ck rfl rfl) (aNn ?_))))
  refine ao _ rfl (fun h1 => ?_) (fun h1 => ?_)
  ·skip
   refine aa (UO 7 rfl rfl (UD 7 tk3 2 rfl rfl rfl rfl (aA rfl (aNn ?_))))
   first
   | exact ⟨[0, 2, 3, 5, 7], [3, 2, 1, 0], [0, 1], ⟨im.block, (if_pos (of_decide_eq_true h1)).symm⟩, rfl, rfl⟩
   | exact ⟨[0, 2, 3, 5, 7], [3, 2, 1, 0], [0, 1], ⟨im.zero, (if_neg (of_decide_eq_false h1)).symm⟩, rfl, rfl⟩
  ·skip
   refine ar (an ?_)
   first
   | exact ⟨[0, 2, 3, 5, 7], [3, 2, 1, 0], [0, 1], ⟨im.block, (if_pos (of_decide_eq_true h1)).symm⟩, rfl, rfl⟩
   | exact ⟨[0, 2, 3, 5, 7], [3, 2, 1, 0], [0, 1], ⟨im.zero, (if_neg (of_decide_eq_false h1)).symm⟩, rfl, rfl⟩
 ·skip
  rintro ⟨_, rfl⟩
  refine aj ?_
  refine jl (X := {z : Unit // kr im i x = false}) (fun _ => ⟨[(0, true, .int .i64 i), (2, true, .pointer (some ⟨b, 0, none⟩)), (3, true, .pointer (some ⟨b3, 0, none⟩)), (5, true, .pointer (some ⟨b0_0, 0, none⟩)), (7, true, .int .i64 (yg im x))], [im.ok, At b3 0 [.v (.map (some bm))], At b 0 im.row, cD (At b 0 im.row) (cD (At b3 0 [.v (.map (some bm))]) im.ok)], [ft bm i6 vBo (fc s), Box b0_0 96 x.vs]⟩) ?_ ?_
  ·skip
   refine aSR (aM rfl (aU rfl (cJ rfl rfl) (aNn ?_)))
   refine ao _ rfl (fun h2 => ?_) (fun h2 => ?_)
   ·skip
    refine aSR (UO 9 rfl rfl (UD 9 tk23 2 rfl rfl rfl rfl (aM rfl ?_)))
    refine aU rfl (cU rfl rfl (by (simp at h2; omega))) ?_
    refine iD true rfl rfl (fun _ => bF Tryz.underlying23 tk96 rfl ((ax.f_exports (.of (aD 0 rfl)))) rfl (fq (i := (i : Int) - 1) (by omega) (by simp at h2; omega)) ((Int.toNat_of_nonneg (by simp at h2; omega)).symm) rfl) (fun h => absurd h (by decide)) (fun ⟨b5_4, o5_4⟩ => ?_)
    refine US 0 tk96 0 rfl rfl rfl rfl rfl (LT rfl (bI (zs := [.string .empty, .string .empty, .bool false, .int .i64 0, .int .i64 0, .int .i64 0]) (by kernel_rfl) rfl (fun b5_6 => (aHN ?_))))
    refine aT rfl (bg 2 tk96 rfl rfl rfl rfl (aHK ?_))
    refine aNs (DR [11] 13 (VO 0 0 rfl rfl rfl (VL 1 2 tk9 rfl rfl rfl rfl rfl (VO 2 0 rfl rfl rfl (VL 3 1 tk9 rfl rfl rfl rfl rfl (bV 4 rfl rfl (Q0 rfl (uk _ _)) (VO 5 1 rfl rfl rfl (VL 6 2 tk9 rfl rfl rfl rfl rfl (VO 7 1 rfl rfl rfl (VL 8 1 tk9 rfl rfl rfl rfl rfl (bV 9 rfl rfl (Q0 rfl (uk _ _)) (fh (q := true) 10 rfl (by kernel_rfl) rfl rfl (WL (zs := [.int .i64 0]) el25 rfl rfl rfl (.more rfl (.v rfl .nil) (.more rfl (.v rfl .nil) .nil)) rfl rfl (fun v6_10 => (bST rfl ?_)))))))))))))))
    refine VE 11 rfl rfl (EC [] [3] rfl ((ac0 (.slice v6_10 2 2) _ _).clean (φ := fun r => r = _) (fun _ _ _ h => h)) ?_)
    rintro _ _ _ ⟨rfl, rfl, rfl⟩
    refine bST rfl ?_
    refine bV 12 rfl rfl (fk rfl rfl) (BN (an ?_))
    refine ao _ rfl (fun h3 => ?_) (fun h3 => ?_)
    ·skip
     refine aSR (aA rfl (aNn (az (bu (FZ1 [0] Tryz.results99 rfl ?_)))))
     have hb : kr im i x = true := by unfold kr; rw [decide_eq_true (by simp at h2; omega)]; exact h3
     unfold wz; rw [if_pos hb]; exact ⟨rfl, rfl, rfl⟩
    ·skip
     refine ar (an ?_)
     first
     | exact ⟨[0, 2, 3, 5, 7], [3, 2, 1, 0], [0, 1], ⟨(), by unfold kr; rw [decide_eq_false (by simp at h2; omega)]; rfl⟩, rfl, rfl⟩
     | exact ⟨[0, 2, 3, 5, 7], [3, 2, 1, 0], [0, 1], ⟨(), by unfold kr; rw [decide_eq_true (by simp at h2; omega)]; exact h3⟩, rfl, rfl⟩
   ·skip
    refine ar (an ?_)
    first
    | exact ⟨[0, 2, 3, 5, 7], [3, 2, 1, 0], [0, 1], ⟨(), by unfold kr; rw [decide_eq_false (by simp at h2; omega)]; rfl⟩, rfl, rfl⟩
    | exact ⟨[0, 2, 3, 5, 7], [3, 2, 1, 0], [0, 1], ⟨(), by unfold kr; rw [decide_eq_true (by simp at h2; omega)]; exact h3⟩, rfl, rfl⟩
  ·skip
   rintro ⟨_, hbad⟩
   refine aj ?_
   refine jl (X := {q : List ByteArray // ((oV x = true ∧ (fc s x.name).getD false = false) ∧ q = s ++ [x.name]) ∨ (oV x = false ∧ q = s)}) (fun q => ⟨[(0, true, .int .i64 i), (2, true, .pointer (some ⟨b, 0, none⟩)), (3, true, .pointer (some ⟨b3, 0, none⟩)), (5, true, .pointer (some ⟨b0_0, 0, none⟩)), (7, true, .int .i64 (yg im x))], [im.ok, At b3 0 [.v (.map (some bm))], At b 0 im.row, cD (At b 0 im.row) (cD (At b3 0 [.v (.map (some bm))]) im.ok)], [ft bm i6 vBo (fc q.1), Box b0_0 96 x.vs]⟩) ?_ ?_
   ·skip
    refine aSR (UO 2 rfl rfl (UL 1 tk4 rfl rfl rfl rfl (aM rfl (GO 1 rfl rfl rfl (GL 1 tk9 rfl rfl rfl rfl rfl (aG rfl rfl (fun hc => iY (ae rfl hc) rfl) (aU rfl (cK rfl rfl (fun h => gf rfl h)) (aNn ?_))))))))
    refine ao _ rfl (fun h4 => ?_) (fun h4 => ?_)
    ·skip
     refine aj (aSR (UD 0 tk173 1 rfl rfl rfl rfl (UO 0 rfl rfl (UL 1 tk9 rfl rfl rfl rfl (aU rfl (l4 (k := x.name) (v0 := false) 0 Tryz.underlying173 (kyT) (by kernel_rfl) rfl rfl rfl) (aNn ?_))))))
     refine ao _ rfl (fun h5 => ?_) (fun h5 => ?_)
     ·skip
      refine aSR (aA rfl (aNn (az (bu (bu (FZ1 [0] Tryz.results99 rfl ?_))))))
      have hm : oV x = true := h4
      have hd : (fc s x.name).getD false = true := h5
      unfold wz; rw [if_neg (by rw [hbad]; decide), if_pos hm, if_pos hd]; exact ⟨rfl, rfl, rfl⟩
     ·skip
      refine ar (an (aa (UD 0 tk173 1 rfl rfl rfl rfl (UO 0 rfl rfl (UL 1 tk9 rfl rfl rfl rfl (aT rfl (eN (k := x.name) (v := true) 0 Tryz.underlying173 (kyT) rfl rfl rfl rfl (aHK ?_))))))))
      refine bS ?_
      rw [← gJ]
      refine an ?_
      first
      | exact ⟨[0, 2, 3, 5, 7], [3, 2, 1, 0], [0, 1], ⟨s, .inr ⟨h4, rfl⟩⟩, rfl, rfl⟩
      | exact ⟨[0, 2, 3, 5, 7], [3, 2, 1, 0], [0, 1], ⟨s ++ [x.name], .inl ⟨⟨h4, h5⟩, rfl⟩⟩, rfl, rfl⟩
    ·skip
     refine ar (an ?_)
     first
     | exact ⟨[0, 2, 3, 5, 7], [3, 2, 1, 0], [0, 1], ⟨s, .inr ⟨h4, rfl⟩⟩, rfl, rfl⟩
     | exact ⟨[0, 2, 3, 5, 7], [3, 2, 1, 0], [0, 1], ⟨s ++ [x.name], .inl ⟨⟨h4, h5⟩, rfl⟩⟩, rfl, rfl⟩
   ·skip
    rintro ⟨s2, hs2⟩
    refine aSR (UO 0 rfl rfl (UL 1 tk9 rfl rfl rfl rfl (aU rfl (Q0 rfl (gn _ hsn)) (aM rfl (GO 1 rfl rfl rfl (GL 1 tk9 rfl rfl rfl rfl rfl (aG rfl rfl (fun hc => Q0 (aJ (ae rfl hc) rfl) (jZ _ hsv)) (aU rfl (bp rfl rfl (fun h => gt rfl h)) (aM rfl (GO 3 rfl rfl rfl (GL 1 tk3 rfl rfl rfl rfl rfl (aG rfl rfl (fun hc => eK (by kernel_rfl) (aJ (ae rfl hc) (aJ (ae rfl rfl) (aJ (ae rfl rfl) rfl))) (fun w S fp hst => (dg _ _ _).quiet0 hst)) (aU rfl (bp rfl rfl (fun h => gt rfl h)) (aM rfl (GO 5 rfl rfl rfl ?_)))))))))))))))
    refine GL 1 tk3 rfl rfl rfl rfl rfl (aG rfl rfl (fun hc => fk (ae rfl hc) rfl) (aU rfl (bp rfl rfl (fun h => gt rfl h)) (aM rfl (GO 4 rfl rfl rfl (GL 1 tk3 rfl rfl rfl rfl rfl (aG rfl rfl (fun hc => aP rfl) (aG rfl rfl (fun hc => eK (by kernel_rfl) (aJ (ae rfl hc) (aJ (ae rfl rfl) (aJ (ae rfl hc) rfl))) (fun w S fp hst => (dg _ _ _).quiet0 hst)) (aU rfl (bp rfl rfl (fun h => gt rfl h)) (aA rfl (aNn (az (FZ1 [0] Tryz.results99 rfl ?_))))))))))))
    unfold wz; rw [if_neg (by rw [hbad]; decide)]
    rcases hs2 with ⟨⟨hm, hd⟩, rfl⟩ | ⟨hm, rfl⟩
    · rw [if_pos hm, if_neg (by rw [hd]; decide)]; exact ⟨rfl, rfl, rfl⟩
    · rw [if_neg (by rw [hm]; decide)]; exact ⟨rfl, rfl, rfl⟩
theorem uJ (im : ax) : Con Tryz.prog 42 [im.val] [im.ok] [] fun r _ _ => r = .bool (qq im) := by
 refine EN1 Tryz.func42 rfl (aSR (LT rfl (cx rfl rfl rfl (fun b0_0 => (aHN ?_)))))
 refine aA rfl (aNn (aSR (LT rfl (fQ (i6) (vBo) rfl (fun b1_0 => (aHN ?_))))))
 refine LT rfl (bI (zs := [.map none]) (by kernel_rfl) rfl (fun b1_1 => (aHN ?_)))
 refine aT rfl (bg 2 tk173 rfl rfl rfl rfl (aHK ?_))
 refine aNs (bR 2 rfl rfl ?_)
 show awp _ _ _ _ ⟨_, At b1_1 0 [.v (.map (some b1_0))] :: _, _⟩
 refine bR 0 rfl rfl ?_
 show awp _ _ _ _ ⟨_, At _ 0 _ :: _, _⟩
 refine aa (UO 9 rfl rfl (UD 9 tk23 0 rfl rfl rfl rfl (aU rfl (aW Tryz.underlying23 rfl) (aU rfl (eF rfl rfl) (aM rfl (GO 9 rfl rfl rfl (aG rfl rfl (fun hc => bj (o := 9) tk23 (ae rfl hc) (.of (aD 0 rfl)) rfl) (aG rfl rfl (fun hc => cq (l := [.tmp 1, .tmp 3]) rfl) ?_))))))))
 refine rr (caps := []) [2, 1, 0] 1 (by kernel_rfl) _ rfl rfl (Nat.le_of_ble_eq_true rfl) (fun _ => rfl) (fun hc => (aJ (ae rfl hc) (aJ (ae rfl hc) rfl))) (fun hc => by rw [List.append_nil]; exact (Con.clH (((qG im.exports 99 [.pointer (some ⟨b0_0, 0, none⟩), .pointer (some ⟨b1_1, 0, none⟩)] (cD (At b0_0 0 im.row) (cD (At b1_1 0 [.v (.map (some b1_0))]) im.ok)) (fun s => ft b1_0 i6 vBo (fc s)) (wz im) [] (by kernel_rfl) (fun s i x hx => tD im (by simp at hc; omega) b0_0 b1_0 b1_1 s i x hx)).pre2 (ax.f_exports (.of (aD 2 rfl))) (Ent.mk2 (.of (aD 0 rfl)) (Ent.mk2 (.of (aD 1 rfl)) (.of (aD 2 rfl)))))) (fun _ _ _ h => h.2.1))) ?_
 refine aHK ?_
 refine aU rfl (bp rfl rfl (fun h => gt rfl h)) (aA rfl (aNn (az (FZ1 [] Tryz.results42 rfl ?_))))
 rfl
abbrev ad9 (b1 b2 : Nat) (st : List (ByteArray × ByteArray) × List Int) : List Res := [ft b1 dG vBo (fc st.1), ft b2 kZ vBo (fc st.2)]
abbrev aeu (im : ax) (b b1 b2 b3 b4 : Nat) : Per := cD (At b 0 im.row) (cD (At b3 0 [.v (.map (some b1))]) (cD (At b4 0 [.v (.map (some b2))]) im.ok))
theorem sE (im : ax) (hS : eY im) (hlen : im.imports.l.length ≤ 4096) (hsl : im.slots.l.length = im.imports.l.length) (b b1 b2 b3 b4 : Nat) (st : List (ByteArray × ByteArray) × List Int) (i : Nat) (x : bY) (hx : im.imports.l[i]? = some x) :
   Con Tryz.prog 104 [.int .i64 i, x.val, .pointer (some ⟨b, 0, none⟩), .pointer (some ⟨b3, 0, none⟩), .pointer (some ⟨b4, 0, none⟩)] [aeu im b b1 b2 b3 b4] (ad9 b1 b2 st)
     fun r ps hp => ps = [] ∧ r = .bool (wN im st i x).1 ∧ hp = ad9 b1 b2 (wN im st i x).2 := by
 have hil := (List.getElem?_eq_some_iff.1 hx).1
 have hc0 := hS.c0
 have hcd := hS.cd
 have hdz := hS.dz
 have hzm := hS.zm
 have hs : im.slots.l[i]? = some (mC im i) := eo (by omega)
 refine EN5 Tryz.func104 rfl (aY _ (Ent.left (.of (aD 0 rfl))) (aY _ (Ent.left (Ent.right (.of (aD 1 rfl)))) (aY _ (Ent.left (Ent.right (Ent.right (.of (aD 2 rfl))))) (aY _ (Ent.right (Ent.right (Ent.right (.of (aD 3 rfl))))) (fl (bY.f_name (Ent.all (f := bY.ok) (ax.f_importsA (.of (aD 0 rfl))) hx)) (fun hsn => (fl (bY.f_version (Ent.all (f := bY.ok) (ax.f_importsA (.of (aD 0 rfl))) hx)) (fun hsv => (aSR (LT rfl (cx rfl rfl rfl (fun b0_0 => (aHN ?_)))))))))))))
 refine aA rfl (aNs (DC [11] [11] [] 13 (CF 0 rfl rfl rfl (qFA (off := 0) rfl) (CQ 1 rfl rfl rfl (bC 2 tk9 rfl rfl rfl) (CF 2 rfl rfl rfl (qFA (off := 1) rfl) (CQ 3 rfl rfl rfl (bC 2 tk9 rfl rfl rfl) (CF 4 rfl rfl rfl (l3 (l := [(0, .tmp 11), (1, .tmp 13)]) (zs := [.string .empty, .string .empty]) (sz := 1) (m := 2) (by kernel_rfl) (by kernel_rfl) rfl rfl rfl) (CF 5 rfl rfl rfl (qFA (off := 11) rfl) (CF 6 rfl rfl rfl (bj (o := 11) tk25 rfl (.of (aD 3 rfl)) rfl) (CF 7 rfl rfl rfl (aP rfl) (tQ 8 rfl (by kernel_rfl) rfl rfl (eB Tryz.underlying25 tk3 rfl ((ax.f_slots (.of (aD 0 rfl)))) rfl (aI hs) rfl rfl) (fun ⟨b1_8, o1_8⟩ => (CF 9 rfl rfl rfl (bj (o := 0) tk3 rfl (.of (aD 0 rfl)) rfl) ?_)))))))))))))
 refine cY 10 [] (by kernel_rfl) (b9 ?_ cH)
 refine dq 10 rfl rfl (Eff.x (id (bI (zs := [.string .empty, .string .empty]) (by kernel_rfl) rfl (fun b1_10 => (CST ?_)))))
 refine cY 11 [] (by kernel_rfl) (b9 ?_ cH)
 refine dq 11 rfl rfl (Eff.wild (q := false) (id (bg 3 tk171 rfl rfl rfl rfl (CST ?_))))
 refine CF 12 rfl rfl rfl (bw rfl) (fP (by kernel_rfl) (an (aj (aSR (UD 0 tk170 3 rfl rfl rfl rfl (UL 3 tk171 rfl rfl rfl rfl (aU rfl (l4 (k := (x.name, x.version)) (v0 := false) 0 Tryz.underlying170 (kyP) (by kernel_rfl) rfl rfl rfl) (aM rfl (aG rfl rfl (fun hc => aP rfl) (aG rfl rfl (fun hc => eG (ae rfl hc) rfl) (aG rfl rfl (fun hc => aP (ae rfl hc)) (aG rfl rfl (fun hc => bj (o := 0) tk178 rfl (.of (aD 2 rfl)) rfl) (aG rfl rfl (fun hc => aP rfl) (aG rfl rfl (fun hc => l4 (k := mC im i) (v0 := false) 1 Tryz.underlying178 (kyI) (by kernel_rfl) (ae rfl hc) (ae rfl hc) rfl) ?_))))))))))))))
 refine aG rfl rfl (fun hc => aP (ae rfl hc)) (aG rfl rfl (fun hc => aP rfl) (GO 2 rfl rfl rfl (aG rfl rfl (fun hc => bj (o := 2) tk3 (ae rfl hc) (.of (aD 4 rfl)) rfl) (GO 3 rfl rfl rfl (aG rfl rfl (fun hc => bj (o := 3) tk3 (ae rfl hc) (.of (aD 4 rfl)) rfl) ?_)))))
 refine aG rfl rfl (fun hc => cU (ae rfl hc) rfl (by (first | omega | (simp at hc; omega)))) ?_
 refine aG rfl rfl (fun hc => eK (by kernel_rfl) (aJ (ae rfl hc) (aJ (ae rfl hc) (aJ (ae rfl hc) rfl))) (fun w S fp hst => (dg _ _ _).quiet0 hst)) (aG rfl rfl (fun hc => dp (ae rfl hc)) (aG rfl rfl (fun hc => cK (ae rfl hc) rfl (fun h => gf hc h)) (aG rfl rfl (fun hc => aP (ae rfl hc)) (aG rfl rfl (fun hc => aP rfl) (aG rfl rfl (fun hc => iF (ae rfl hc) rfl (by decide)) (aG rfl rfl (fun hc => eG (ae rfl hc) rfl) (aG rfl rfl (fun hc => cK (ae rfl hc) rfl (fun h => gf hc h)) (aG rfl rfl (fun hc => bp (ae rfl hc) rfl (fun h => gt hc h)) (aU rfl (cK rfl rfl (fun h => gf rfl h)) (aNn ?_))))))))))
 refine ao _ rfl (fun h1 => ?_) (fun h1 => ?_)
 ·skip
  refine aSR (aA rfl (aNn (az (bu (FZ1 [0, 1] Tryz.results104 rfl ?_)))))
  have hb : wW im st i x = true := h1
  unfold wN; rw [if_pos hb]; exact ⟨rfl, rfl, rfl⟩
 ·skip
  have hb : wW im st i x = false := h1
  refine ar (an (aj (DC [4, 5] [] [] 6 (CF 0 rfl rfl rfl (bj (o := 0) tk170 rfl (.of (aD 3 rfl)) rfl) (CQ 1 rfl rfl rfl (bC 3 tk171 rfl rfl rfl) (CF 2 rfl rfl rfl (bj (o := 0) tk178 rfl (.of (aD 2 rfl)) rfl) (CF 3 rfl rfl rfl (aP rfl) ?_)))))))
  refine cY 4 [] (by kernel_rfl) (b9 ?_ cH)
  refine dq 4 rfl rfl (Eff.framed (q := false) [0] rfl rfl acY (id (eN (k := (x.name, x.version)) (v := true) 0 Tryz.underlying170 (kyP) rfl rfl rfl rfl (xK (CST ?_)))))
  refine cY 5 [] (by kernel_rfl) (b9 ?_ cH)
  refine dq 5 rfl rfl (Eff.framed (q := false) [1] rfl rfl acY (id (eN (k := mC im i) (v := true) 0 Tryz.underlying178 (kyI) rfl rfl rfl rfl (xK (CST ?_)))))
  refine fP (by kernel_rfl) (an (aSR (UO 0 rfl rfl (UL 2 tk9 rfl rfl rfl rfl (aU rfl (Q0 rfl (gn _ hsn)) (aM rfl (GO 1 rfl rfl rfl (GL 2 tk9 rfl rfl rfl rfl rfl (aG rfl rfl (fun hc => Q0 (aJ (ae rfl hc) rfl) (jZ _ hsv)) (aU rfl (bp rfl rfl (fun h => gt rfl h)) (aM rfl (GO 2 rfl rfl rfl (GL 2 tk3 rfl rfl rfl rfl rfl (aG rfl rfl (fun hc => eK (by kernel_rfl) (aJ (ae rfl hc) (aJ (ae rfl rfl) (aJ (ae rfl rfl) rfl))) (fun w S fp hst => (dg _ _ _).quiet0 hst)) ?_))))))))))))))
  refine aU rfl (bp rfl rfl (fun h => gt rfl h)) (aA rfl (aNn (az (FZ1 [0, 1] Tryz.results104 rfl ?_))))
  unfold wN; rw [if_neg (by rw [hb]; decide)]
  refine ⟨rfl, rfl, ?_⟩
  show _ = [ft b1 dG vBo (fc (st.1 ++ [aed x])), ft b2 kZ vBo (fc (st.2 ++ [mC im i]))]
  rw [gJ, gJ]; rfl
theorem uO (im : ax) (hS : eY im) : Con Tryz.prog 43 [im.val] [im.ok] [] fun r _ _ => r = .bool (gQ im) := by
 refine EN1 Tryz.func43 rfl (aSR (LT rfl (cx rfl rfl rfl (fun b0_0 => (aHN ?_)))))
 refine aA rfl (aNs (aj (bR 0 rfl rfl ?_)))
 show awp _ _ _ _ ⟨_, At _ 0 _ :: _, _⟩
 refine aa (UO 10 rfl rfl (UD 10 tk24 0 rfl rfl rfl rfl (aU rfl (aW Tryz.underlying24 rfl) (aU rfl (cJ rfl rfl) (aM rfl (GO 11 rfl rfl rfl (aG rfl rfl (fun hc => bj (o := 11) tk25 (ae rfl hc) (.of (aD 0 rfl)) rfl) (aG rfl rfl (fun hc => aW Tryz.underlying25 (ae rfl hc)) (GO 10 rfl rfl rfl (aG rfl rfl (fun hc => bj (o := 10) tk24 (ae rfl hc) (.of (aD 0 rfl)) rfl) (aG rfl rfl (fun hc => aW Tryz.underlying24 (ae rfl hc)) (aG rfl rfl (fun hc => eG (ae rfl hc) (ae rfl hc)) (aU rfl (cK rfl rfl (fun h => gf rfl h)) (aNn ?_))))))))))))))
 refine ao _ rfl (fun h1 => ?_) (fun h1 => ?_)
 ·skip
  refine aSR (aA rfl (aNn (az (bu (FZ1 [] Tryz.results43 rfl ?_)))))
  have hh : uZ im = true := h1
  unfold gQ; rw [if_pos hh]
 ·skip
  have hh : uZ im = false := h1
  have hh2 : im.imports.l.length ≤ 4096 ∧ im.slots.l.length = im.imports.l.length := by
    unfold uZ at hh
    simp only [Bool.or_eq_false_iff, Bool.not_eq_false', decide_eq_false_iff_not, decide_eq_true_eq] at hh
    omega
  refine ar (an (aSR (LT rfl (fQ (dG) (vBo) rfl (fun b3_0 => (aHN ?_))))))
  refine LT rfl (bI (zs := [.map none]) (by kernel_rfl) rfl (fun b3_1 => (aHN ?_)))
  refine aT rfl (bg 2 tk170 rfl rfl rfl rfl (aHK ?_))
  refine aNn (aSR (LT rfl (fQ (kZ) (vBo) rfl (fun b4_0 => (aHN ?_)))))
  refine LT rfl (bI (zs := [.map none]) (by kernel_rfl) rfl (fun b4_1 => (aHN ?_)))
  refine aT rfl (bg 4 tk178 rfl rfl rfl rfl (aHK ?_))
  refine aNs (bR 2 rfl rfl (bR 4 rfl rfl ?_))
  show awp _ _ _ _ ⟨_, At b4_1 0 [.v (.map (some b4_0))] :: At b3_1 0 [.v (.map (some b3_0))] :: _, _⟩
  refine aa (UO 10 rfl rfl (UD 10 tk24 2 rfl rfl rfl rfl (aU rfl (cq (l := [.tmp 1, .tmp 3, .tmp 4]) rfl) ?_)))
  refine LF rfl (EC [1, 2, 3, 0] [1, 3] rfl (Con.clH (acS (R := fun r _ _ => r = .bool (fJ (wN im) ([], []) 0 im.imports.l).1) (((qQ im.imports 104 [.pointer (some ⟨b0_0, 0, none⟩), .pointer (some ⟨b3_1, 0, none⟩), .pointer (some ⟨b4_1, 0, none⟩)] (aeu im b0_0 b3_0 b4_0 b3_1 b4_1) (fun st => Bun (ad9 b3_0 b4_0 st)) (wN im) ([], []) (by kernel_rfl) (fun st i x hx => (acF (sE im hS hh2.1 hh2.2 b0_0 b3_0 b4_0 b3_1 b4_1 st i x hx)).post fun _ _ _ ⟨_, h1, h2, h3, h4⟩ => ⟨h2, h3, by rw [h1, h4]⟩)).pre2 (ax.f_imports (.of (aD 3 rfl))) (Ent.mk2 (.of (aD 0 rfl)) (Ent.mk2 (.of (aD 1 rfl)) (Ent.mk2 (.of (aD 2 rfl)) (.of (aD 3 rfl)))))).post fun r ps' hp' ⟨_, h2, h3⟩ => ⟨_, h3, h2⟩)) (fun _ _ _ h => h)) ?_)
  rintro _ _ _ ⟨rfl, rfl, rfl⟩
  refine aST ?_
  refine aA rfl (aNn (az (FZ1 [] Tryz.results43 rfl ?_)))
  unfold gQ; rw [if_neg (by rw [hh]; decide)]
theorem aaO (im : ax) (hS : eY im) (hsl : im.slots.l.length = im.imports.l.length) : Con Tryz.prog 44 [im.val] [im.ok] [] fun r _ _ => r = .bool (lG im) := by
 have hc0 := hS.c0
 have hcd := hS.cd
 have hdz := hS.dz
 have hzm := hS.zm
 obtain ⟨w0, hw0⟩ : ∃ w0, fJ (gS im) (0, 0) 0 im.dyns.l = w0 := ⟨_, rfl⟩
 refine EN1 Tryz.func44 rfl (bQ (ax.f_dyns (.of (aD 0 rfl))) (fun hdl => (bQ (ax.f_slots (.of (aD 0 rfl))) (fun hsll => (bQ (ax.f_imports (.of (aD 0 rfl))) (fun hill => (aSR (LT rfl (cx rfl rfl rfl (fun b0_0 => (aHN ?_)))))))))))
 refine aA rfl (aNn (aSR (aA rfl (aA rfl (bS (an (aj (aj (bR 0 rfl rfl ?_)))))))))
 show awp _ _ _ _ ⟨_, At _ 0 _ :: _, _⟩
 refine aa (UO 13 rfl rfl (UD 13 tk26 0 rfl rfl rfl rfl (aU rfl (aW Tryz.underlying26 rfl) (aM rfl (aNn (aq (aQ [1, 3, 4, 10, 11, 12] [1, 0] [] (fun (q : Nat × (Int × Int)) st => (q.1 ≤ im.dyns.l.length ∧ fJ (gS im) q.2 q.1 (im.dyns.l.drop q.1) = w0 ∧ (0 ≤ q.2.1 ∧ q.2.1 ≤ 1048576) ∧ 0 ≤ q.2.2 ∧ q.2.2 ≤ q.1) ∧ st = ⟨[(1, true, .pointer (some ⟨b0_0, 0, none⟩)), (3, true, .int .i64 q.2.1), (4, true, .int .i64 q.2.2), (10, true, im.dyns.val), (11, true, .int .i64 im.dyns.l.length), (12, true, .int .i64 q.1)], [At b0_0 0 im.row, im.ok], []⟩) (fun q => im.dyns.l.length - q.1) rfl (⟨(0, (0, 0)), ⟨Nat.zero_le _, hw0, ⟨by decide, by decide⟩, by decide, by decide⟩, rfl⟩) ?_)))))))
 rintro ⟨k, e, n⟩ st ⟨⟨hk, hw, ⟨he0, he1⟩, hn0, hn1⟩, rfl⟩
 dsimp only at hk hw he0 he1 hn0 hn1 ⊢
 refine aSR (aU rfl (bD rfl rfl) (aNs ?_))
 refine ao _ rfl (fun h1 => ?_) (fun h1 => ?_)
 ·skip
  have hk' : k < im.dyns.l.length := by simpa using h1
  obtain ⟨x, hx⟩ : ∃ x, im.dyns.l[k]? = some x := ⟨_, List.getElem?_eq_getElem hk'⟩
  rw [oS (gS im) hx] at hw
  have hwd := yI x.kind
  refine ar (an (aj (aq (aSR (iD true rfl rfl (fun _ => bF Tryz.underlying26 tk55 rfl ((ax.f_dyns (.of (aD 1 rfl)))) rfl (aI hx) rfl rfl) (fun h => absurd h (by decide)) (fun ⟨b4_0, o4_0⟩ => (US 0 tk55 0 rfl rfl rfl rfl rfl (LT rfl (bI (zs := [.int .i64 0, .int .i64 0, .int .i64 0, .int .i64 0]) (by kernel_rfl) rfl (fun b4_2 => (aHN ?_)))))))))))
  refine aT rfl (bg 0 tk55 rfl rfl rfl rfl (aHK ?_))
  refine aNs (aj (DR [] 27 (VO 0 1 rfl rfl rfl (VL 1 0 tk3 rfl rfl rfl rfl rfl (bV 2 rfl rfl (Q0 rfl (dg _ _ _)) (bV 3 rfl rfl (dp rfl) (VM 4 rfl rfl (bW 5 rfl rfl rfl (fun hc => qFA (off := 0) rfl) (bW 6 rfl rfl rfl (fun hc => bC 0 tk3 (ae rfl hc) rfl rfl) (bW 7 rfl rfl rfl (fun hc => aP rfl) (bW 8 rfl rfl rfl (fun hc => qFA (off := 3) rfl) (bW 9 rfl rfl rfl (fun hc => bj (o := 3) tk3 (ae rfl hc) (.of (aD 1 rfl)) rfl) (bW 10 rfl rfl rfl (fun hc => qFA (off := 1) rfl) (bW 11 rfl rfl rfl (fun hc => bC 0 tk3 (ae rfl hc) rfl rfl) (bW 12 rfl rfl rfl (fun hc => Q0 (aJ (ae rfl hc) rfl) (qk _)) ?_)))))))))))))))
  refine bW 13 rfl rfl rfl (fun hc => cU (ae rfl hc) (ae rfl hc) (by (first | omega | (simp at hc; omega)))) ?_
  refine bW 14 rfl rfl rfl (fun hc => eK (by kernel_rfl) (aJ (ae rfl hc) (aJ (ae rfl hc) (aJ (ae rfl hc) rfl))) (fun w S fp hst => (dg _ _ _).quiet0 hst)) (bW 15 rfl rfl rfl (fun hc => dp (ae rfl hc)) (bV 16 rfl rfl (cK rfl rfl (fun h => gf rfl h)) (VM 17 rfl rfl (bW 18 rfl rfl rfl (fun hc => qFA (off := 2) rfl) (bW 19 rfl rfl rfl (fun hc => bC 0 tk3 (ae rfl hc) rfl rfl) (bW 20 rfl rfl rfl (fun hc => qFA (off := 10) rfl) (bW 21 rfl rfl rfl (fun hc => bj (o := 10) tk24 (ae rfl hc) (.of (aD 1 rfl)) rfl) (bW 22 rfl rfl rfl (fun hc => aW Tryz.underlying24 (ae rfl hc)) ?_))))))))
  refine bW 23 rfl rfl rfl (fun hc => cU (ae rfl hc) rfl (by (first | omega | (simp at hc; omega)))) ?_
  refine bW 24 rfl rfl rfl (fun hc => eK (by kernel_rfl) (aJ (ae rfl hc) (aJ (ae rfl rfl) (aJ (ae rfl hc) rfl))) (fun w S fp hst => (dg _ _ _).quiet0 hst)) (bW 25 rfl rfl rfl (fun hc => dp (ae rfl hc)) (bV 26 rfl rfl (cK rfl rfl (fun h => gf rfl h)) (BN (an ?_))))
  refine ao _ rfl (fun h2 => ?_) (fun h2 => ?_)
  ·skip
   have hb : pg im e x = true := h2
   have hd : gS im (e, n) k x = (false, (e, n)) := by unfold gS; rw [if_pos hb]
   refine aSR (aA rfl (aNn (az (bu (cM (bu (bu (cM (bu (FZ1 [] Tryz.results44 rfl ?_))))))))))
   rw [hd] at hw
   unfold lG; rw [hw0, ← hw]; rfl
  ·skip
   have hb : pg im e x = false := h2
   obtain ⟨hkr, har, hir⟩ := vS hb
   refine ar (an (aj (DR [] 7 (VO 0 0 rfl rfl rfl (VL 1 0 tk3 rfl rfl rfl rfl rfl (VO 2 1 rfl rfl rfl (VL 3 0 tk3 rfl rfl rfl rfl rfl (bV 4 rfl rfl (Q0 rfl (qk _)) (bV 5 rfl rfl (aX rfl rfl (by omega)) (bV 6 rfl rfl (bw rfl) (BN (an (aSR (UO 1 rfl rfl ?_))))))))))))))
   refine UL 0 tk3 rfl rfl rfl rfl (aNn (aq (aSR (aU rfl (ck rfl rfl) (aA rfl (aNn ?_))))))
   refine ao _ rfl (fun h3 => ?_) (fun h3 => ?_)
   ·skip
    have hk3 : x.kind = 3 := by simpa using h3
    refine aj (aj (DR [] 14 (VO 0 2 rfl rfl rfl (VL 1 0 tk3 rfl rfl rfl rfl rfl (bV 2 rfl rfl (bD rfl rfl) (VM 3 rfl rfl (bW 4 rfl rfl rfl (fun hc => qFA (off := 11) rfl) (bW 5 rfl rfl rfl (fun hc => bj (o := 11) tk25 (ae rfl hc) (.of (aD 1 rfl)) rfl) (bW 6 rfl rfl rfl (fun hc => qFA (off := 2) rfl) (bW 7 rfl rfl rfl (fun hc => bC 0 tk3 (ae rfl hc) rfl rfl) ?_))))))))))
    refine q8 8 rfl (by kernel_rfl) _ rfl rfl (fun hc => bF Tryz.underlying25 tk3 (ae rfl hc) ((ax.f_slots (.of (aD 2 rfl)))) (ae rfl hc) (fq (i := x.import_) (by omega) (by simp at hc; omega)) ((Int.toNat_of_nonneg (by simp at hc; omega)).symm) rfl) (fun _ => ⟨(0, 0)⟩) (fun ⟨b10_8, o10_8⟩ => ?_)
    refine bW 9 rfl rfl rfl (fun hc => fV (o := 0) tk3 (ae rfl hc) (aD 0 rfl) hc rfl) (bW 10 rfl rfl rfl (fun hc => qFA (off := 0) rfl) (bW 11 rfl rfl rfl (fun hc => bC 0 tk3 (ae rfl hc) rfl rfl) (bW 12 rfl rfl rfl (fun hc => eG (ae rfl hc) (ae rfl hc)) (bV 13 rfl rfl (cK rfl rfl (fun h => gf rfl h)) (BN (an ?_))))))
    refine ao _ rfl (fun h4 => ?_) (fun h4 => ?_)
    ·skip
     have hs4 : tb im x = true := h4
     have hd : gS im (e, n) k x = (false, (e, n)) := by unfold gS; rw [if_neg (by rw [hb]; decide), if_pos hk3, if_pos hs4]
     refine aSR (aA rfl (aNn (az (bu (cM (cM (bu (bu (cM (bu (FZ1 [] Tryz.results44 rfl ?_)))))))))))
     rw [hd] at hw
     unfold lG; rw [hw0, ← hw]; rfl
    ·skip
     have hs4 : tb im x = false := h4
     have hd : gS im (e, n) k x = (true, (x.at_ + dM x.kind, n + 1)) := by unfold gS; rw [if_neg (by rw [hb]; decide), if_pos hk3, if_neg (by rw [hs4]; decide)]
     refine ar (an (aa (aM rfl (aU rfl (aX rfl rfl (by omega)) (aA rfl (bS (bA (bA (an (aa (aU rfl (aX rfl rfl (by omega)) (aM rfl (aNn ?_)))))))))))))
     refine ⟨[1, 3, 4, 10, 11, 12], [1, 0], [], rfl, ?_⟩
     rw [hd] at hw
     refine ⟨(k + 1, (x.at_ + dM x.kind, n + 1)), ⟨⟨hk', hw, ⟨?_, ?_⟩, ?_, ?_⟩, rfl⟩, ?_⟩ <;> dsimp only <;> omega
   ·skip
    have hk3 : ¬ x.kind = 3 := by simpa using h3
    refine aj (aSR (aU rfl (ck rfl rfl) (aA rfl (aNn ?_))))
    refine ao _ rfl (fun h5 => ?_) (fun h5 => ?_)
    ·skip
     refine ar (an ?_)
     refine ao _ rfl (fun _ => ?_) (fun h => absurd (h5.symm.trans h) (by decide))
     refine aSR (UO 2 rfl rfl (UL 0 tk3 rfl rfl rfl rfl (aU rfl (bD rfl rfl) (aNn ?_))))
     refine ao _ rfl (fun h6 => ?_) (fun h6 => ?_)
     ·skip
      have hki : x.import_ < 0 := by simpa using h6
      have hd : gS im (e, n) k x = (false, (e, n)) := by unfold gS; rw [if_neg (by rw [hb]; decide), if_neg hk3, if_pos ⟨by simp at h5; omega, hki⟩]
      refine aSR (aA rfl (aNn (az (cM (cM (bu (bu (cM (bu (FZ1 [] Tryz.results44 rfl ?_))))))))))
      rw [hd] at hw
      unfold lG; rw [hw0, ← hw]; rfl
     ·skip
      have hki : ¬ x.import_ < 0 := by simpa using h6
      have hd : gS im (e, n) k x = (true, (x.at_ + dM x.kind, n)) := by unfold gS; rw [if_neg (by rw [hb]; decide), if_neg hk3, if_neg (fun h => hki h.2)]
      refine ar (bA (bA (an (aa (aU rfl (aX rfl rfl (by omega)) (aM rfl (aNn ?_)))))))
      refine ⟨[1, 3, 4, 10, 11, 12], [1, 0], [], rfl, ?_⟩
      rw [hd] at hw
      refine ⟨(k + 1, (x.at_ + dM x.kind, n)), ⟨⟨hk', hw, ⟨?_, ?_⟩, ?_, ?_⟩, rfl⟩, ?_⟩ <;> dsimp only <;> omega
    ·skip
     refine aSR (aU rfl (ck rfl rfl) (aA rfl (aNn ?_)))
     refine ao _ rfl (fun h7 => ?_) (fun h7 => ?_)
     ·skip
      refine ar (an ?_)
      refine ao _ rfl (fun _ => ?_) (fun h => absurd (h7.symm.trans h) (by decide))
      refine aSR (UO 2 rfl rfl (UL 0 tk3 rfl rfl rfl rfl (aU rfl (bD rfl rfl) (aNn ?_))))
      refine ao _ rfl (fun h8 => ?_) (fun h8 => ?_)
      ·skip
       have hki : x.import_ < 0 := by simpa using h8
       have hd : gS im (e, n) k x = (false, (e, n)) := by unfold gS; rw [if_neg (by rw [hb]; decide), if_neg hk3, if_pos ⟨by simp at h7; omega, hki⟩]
       refine aSR (aA rfl (aNn (az (cM (cM (bu (bu (cM (bu (FZ1 [] Tryz.results44 rfl ?_))))))))))
       rw [hd] at hw
       unfold lG; rw [hw0, ← hw]; rfl
      ·skip
       have hki : ¬ x.import_ < 0 := by simpa using h8
       have hd : gS im (e, n) k x = (true, (x.at_ + dM x.kind, n)) := by unfold gS; rw [if_neg (by rw [hb]; decide), if_neg hk3, if_neg (fun h => hki h.2)]
       refine ar (bA (bA (an (aa (aU rfl (aX rfl rfl (by omega)) (aM rfl (aNn ?_)))))))
       refine ⟨[1, 3, 4, 10, 11, 12], [1, 0], [], rfl, ?_⟩
       rw [hd] at hw
       refine ⟨(k + 1, (x.at_ + dM x.kind, n)), ⟨⟨hk', hw, ⟨?_, ?_⟩, ?_, ?_⟩, rfl⟩, ?_⟩ <;> dsimp only <;> omega
     ·skip
      refine aa (aU rfl (ck rfl rfl) (aA rfl (aNn ?_)))
      refine ao _ rfl (fun h9 => ?_) (fun h9 => ?_)
      ·skip
       refine aSR (UO 2 rfl rfl (UL 0 tk3 rfl rfl rfl rfl (aU rfl (bD rfl rfl) (aNn ?_))))
       refine ao _ rfl (fun h10 => ?_) (fun h10 => ?_)
       ·skip
        have hki : x.import_ < 0 := by simpa using h10
        have hd : gS im (e, n) k x = (false, (e, n)) := by unfold gS; rw [if_neg (by rw [hb]; decide), if_neg hk3, if_pos ⟨by simp at h9; omega, hki⟩]
        refine aSR (aA rfl (aNn (az (cM (cM (bu (bu (cM (bu (FZ1 [] Tryz.results44 rfl ?_))))))))))
        rw [hd] at hw
        unfold lG; rw [hw0, ← hw]; rfl
       ·skip
        have hki : ¬ x.import_ < 0 := by simpa using h10
        have hd : gS im (e, n) k x = (true, (x.at_ + dM x.kind, n)) := by unfold gS; rw [if_neg (by rw [hb]; decide), if_neg hk3, if_neg (fun h => hki h.2)]
        refine ar (bA (bA (an (aa (aU rfl (aX rfl rfl (by omega)) (aM rfl (aNn ?_)))))))
        refine ⟨[1, 3, 4, 10, 11, 12], [1, 0], [], rfl, ?_⟩
        rw [hd] at hw
        refine ⟨(k + 1, (x.at_ + dM x.kind, n)), ⟨⟨hk', hw, ⟨?_, ?_⟩, ?_, ?_⟩, rfl⟩, ?_⟩ <;> dsimp only <;> omega
      ·skip
       have hkn : ¬ (x.kind = 5 ∨ x.kind = 6 ∨ x.kind = 7) := by simp at h5 h7 h9; omega
       have hd : gS im (e, n) k x = (true, (x.at_ + dM x.kind, n)) := by unfold gS; rw [if_neg (by rw [hb]; decide), if_neg hk3, if_neg (fun h => hkn h.1)]
       refine ar (bA (bA (an (aa (aU rfl (aX rfl rfl (by omega)) (aM rfl (aNn ?_)))))))
       refine ⟨[1, 3, 4, 10, 11, 12], [1, 0], [], rfl, ?_⟩
       rw [hd] at hw
       refine ⟨(k + 1, (x.at_ + dM x.kind, n)), ⟨⟨hk', hw, ⟨?_, ?_⟩, ?_, ?_⟩, rfl⟩, ?_⟩ <;> dsimp only <;> omega
 ·skip
  have hke : k = im.dyns.l.length := by have := of_decide_eq_false h1; omega
  subst hke
  have hwe : (true, (e, n)) = w0 := by rw [← hw, List.drop_length]; rfl
  refine aR (aS (aS (aZ (an (aj (aSR (UO 11 rfl rfl (UD 11 tk25 0 rfl rfl rfl rfl (aU rfl (aW Tryz.underlying25 rfl) (aM rfl (aNn (aq ?_))))))))))))
  refine aQ [4, 78, 79, 80] [1, 0] [] (fun (j : Nat) st => j ≤ im.slots.l.length ∧ st = ⟨[(4, true, .int .i64 (n - mH (im.slots.l.take j))), (78, true, im.slots.val), (79, true, .int .i64 im.slots.l.length), (80, true, .int .i64 j)], [At b0_0 0 im.row, im.ok], []⟩) (fun j => im.slots.l.length - j) rfl (⟨0, ⟨Nat.zero_le _, by rw [List.take_zero]; show _ = (⟨[(4, true, .int .i64 (n - 0)), _, _, _], _, _⟩ : Sta); rw [Int.sub_zero]; rfl⟩⟩) ?_
  rintro j st ⟨hj, rfl⟩
  have hsn := tX (im.slots.l.take j)
  have hsm := List.length_take_le j im.slots.l
  refine aSR (aU rfl (bD rfl rfl) (aNs ?_))
  refine ao _ rfl (fun h11 => ?_) (fun h11 => ?_)
  ·skip
   have hj' : j < im.slots.l.length := by simpa using h11
   obtain ⟨s, hs⟩ : ∃ s, im.slots.l[j]? = some s := ⟨_, List.getElem?_eq_getElem hj'⟩
   have htk := vT (im.slots.l.take j) s
   have hta : im.slots.l.take (j + 1) = im.slots.l.take j ++ [s] := by rw [List.take_add_one, hs]; rfl
   rw [← hta] at htk
   have hsn2 := tX (im.slots.l.take (j + 1))
   have hsm2 := List.length_take_le (j + 1) im.slots.l
   refine ar (an (aj (aq (aSR (iD true rfl rfl (fun _ => bF Tryz.underlying25 tk3 rfl ((ax.f_slots (.of (aD 1 rfl)))) rfl (aI hs) rfl rfl) (fun h => absurd h (by decide)) (fun ⟨b21_0, o21_0⟩ => (US 0 tk3 0 rfl rfl rfl rfl rfl (aA rfl (aNn (aSR (aM rfl (aU rfl (eG rfl rfl) (aNn ?_)))))))))))))
   refine ao _ rfl (fun h12 => ?_) (fun h12 => ?_)
   ·skip
    have hs1 : ¬ s = -1 := by simpa using h12
    rw [if_neg hs1] at htk
    refine aa (aM rfl (aU rfl (cU rfl rfl (by omega)) (aA rfl (bS (bA (an (aa (aU rfl (aX rfl rfl (by omega)) (aM rfl (aNn ?_))))))))))
    refine ⟨[4, 78, 79, 80], [1, 0], [], rfl, ?_⟩
    exact ⟨j + 1, ⟨hj', by rw [htk, ← Int.sub_sub]; rfl⟩, by omega⟩
   ·skip
    have hs1 : s = -1 := by simpa using h12
    rw [if_pos hs1] at htk
    refine ar (bA (an (aa (aU rfl (aX rfl rfl (by omega)) (aM rfl (aNn ?_))))))
    refine ⟨[4, 78, 79, 80], [1, 0], [], rfl, ?_⟩
    exact ⟨j + 1, ⟨hj', by rw [htk]; rfl⟩, by omega⟩
  ·skip
   have hje : j = im.slots.l.length := by have := of_decide_eq_false h11; omega
   subst hje
   refine aR (aS (aS (aZ (an (aSR (aM rfl (aU rfl (ck rfl rfl) (aA rfl (aNn (az (FZ1 [] Tryz.results44 rfl ?_)))))))))))
   unfold lG; rw [hw0, ← hwe, List.take_length]; rfl
end Go.Proofs.YtahgkiicjohonaaGreat

namespace Go.Proofs.YtahgkiicjohonaaGreat
open Go.RowKit Go.Lp Go.Sy Go.Lv
def sO (im : ax) : Bool := (((decide ((im.inits.l.length : Int) ≤ 4096) && decide ((im.lasts.l.length : Int) ≤ 4096)) && allI (fun _ n => instrB im.code n) 0 im.inits.l) && allI (fun _ n => instrB im.code n) 0 im.lasts.l) && (decide (im.entry = -1) || (instrB im.code im.entry && !im.lib))
def xq (s : List ByteArray) (_ : Nat) (n : ByteArray) : Bool × List ByteArray := (eQ n && !(fc s n).getD false, s ++ [n])
def ns (im : ax) (v : Bool) : Bool := (decide ((im.needs.l.length : Int) ≤ 64) && v) && (fJ xq [im.name] 0 im.needs.l).1
def abD (im : ax) (i : Nat) (x : dA) : Bool := (((mO x.name && (decide (x.kind = 0) || decide (x.kind = 1))) && ic x.at_ 0 im.zero) && decide (x.size ≥ 0)) && (decide ((i : Int) = 0) || decide ((elt im.info.marks.l ((i : Int) - 1)).at_ ≤ x.at_))
def abz (im : ax) (i : Nat) (x : du) : Bool := (((decide (x.sec = 0) && mO x.file) && ic x.at_ 0 (im.code - 1)) && decide (x.line ≥ 0)) && (decide ((i : Int) = 0) || decide ((elt im.info.lines.l ((i : Int) - 1)).at_ ≤ x.at_))
def vP (x : dD) : Bool := (ic x.from_ 0 1048576 && ic x.size 0 1048576) && ic x.to_ 0 1048576
def abE (im : ax) (x : cr) : Bool := ((((allI (fun _ p => vP p) 0 x.pieces.l && eQ x.sec) && mN x.obj) && decide ((x.from_.size : Int) = 32)) && (decide (x.code = -1) || instrB im.code x.code)) && decide ((x.pieces.l.length : Int) ≤ 64)
def qt (im : ax) : Bool := decide ((im.changes.l.length : Int) ≤ 4096) && allI (fun _ x => abE im x) 0 im.changes.l
open Go.Proofs.Tryz
attribute [local irreducible] aL aB awp aC fwp Quiet
theorem ox (im : ax) (hS : eY im) (b i : Nat) (x : Int) : Con Tryz.prog 106 [.int .i64 i, .int .i64 x, .pointer (some ⟨b, 0, none⟩)] [At b 0 im.row] [] fun r _ _ => r = .bool (instrB im.code x) := by
 have hc0 := hS.c0
 have hcd := hS.cd
 have hdz := hS.dz
 have hzm := hS.zm
 refine EN3 Tryz.func106 rfl (aSR (aA rfl (aNn (aSR (UD 0 tk39 0 rfl rfl rfl rfl (aM rfl (aU rfl (Q0 rfl (con_instr im ⟨hc0, by omega⟩ x)) (aA rfl (aNn (az (FZ1 [] Tryz.results106 rfl ?_)))))))))))
 rfl
theorem vM (im : ax) (hS : eY im) : Con Tryz.prog 45 [im.val] [im.ok] [] fun r _ _ => r = .bool (sO im) := by
 have hc0 := hS.c0
 have hcd := hS.cd
 have hdz := hS.dz
 have hzm := hS.zm
 refine EN1 Tryz.func45 rfl (aSR (LT rfl (cx rfl rfl rfl (fun b0_0 => (aHN ?_)))))
 refine aA rfl (aNs (bR 0 rfl rfl ?_))
 show awp _ _ _ _ ⟨_, At _ 0 _ :: _, _⟩
 refine aa (aU rfl (cq (l := [.tmp 1]) rfl) (aA rfl (aNn (aSR (UO 14 rfl rfl (UD 14 tk25 0 rfl rfl rfl rfl (aU rfl (aW Tryz.underlying25 rfl) (aU rfl (eF rfl rfl) (aM rfl (GO 15 rfl rfl rfl (aG rfl rfl (fun hc => bj (o := 15) tk25 (ae rfl hc) (.of (aD 0 rfl)) rfl) (aG rfl rfl (fun hc => aW Tryz.underlying25 (ae rfl hc)) (aG rfl rfl (fun hc => eF (ae rfl hc) rfl) (aU rfl (bp rfl rfl (fun h => gt rfl h)) (aM rfl ?_)))))))))))))))
 refine GO 14 rfl rfl rfl (aG rfl rfl (fun hc => bj (o := 14) tk25 (ae rfl hc) (.of (aD 0 rfl)) rfl) (aG rfl rfl (fun hc => aP rfl) (aG rfl rfl (fun hc => QC (aJ (ae rfl hc) (aJ (ae rfl hc) rfl)) (fun w S fp hst => (((jF im.inits 106 [.pointer (some ⟨b0_0, 0, none⟩)] (At b0_0 0 im.row) (fun _ n => instrB im.code n) (by kernel_rfl) (fun i x _ => ox im hS b0_0 i x)).post (fun _ _ _ h => h.2.2)).pre2 (ps := [At b0_0 0 im.row, im.ok]) (ax.f_inits (.of (aD 1 rfl))) (.of (aD 0 rfl))).quiet2 (aD 0 rfl) (aD 1 rfl) hst)) (aU rfl (bp rfl rfl (fun h => gt rfl h)) (aM rfl (GO 15 rfl rfl rfl (aG rfl rfl (fun hc => bj (o := 15) tk25 (ae rfl hc) (.of (aD 0 rfl)) rfl) (aG rfl rfl (fun hc => aP rfl) (aG rfl rfl (fun hc => QC (aJ (ae rfl hc) (aJ (ae rfl hc) rfl)) (fun w S fp hst => (((jF im.lasts 106 [.pointer (some ⟨b0_0, 0, none⟩)] (At b0_0 0 im.row) (fun _ n => instrB im.code n) (by kernel_rfl) (fun i x _ => ox im hS b0_0 i x)).post (fun _ _ _ h => h.2.2)).pre2 (ps := [At b0_0 0 im.row, im.ok]) (ax.f_lasts (.of (aD 1 rfl))) (.of (aD 0 rfl))).quiet2 (aD 0 rfl) (aD 1 rfl) hst)) (aU rfl (bp rfl rfl (fun h => gt rfl h)) (aM rfl (GO 16 rfl rfl rfl ?_))))))))))))
 refine aG rfl rfl (fun hc => bj (o := 16) tk3 (ae rfl hc) (.of (aD 0 rfl)) rfl) (aG rfl rfl (fun hc => ck (ae rfl hc) rfl) (aG rfl rfl (fun hc => aP (ae rfl hc)) (aG rfl rfl (fun hc => bj (o := 0) tk39 rfl (.of (aD 0 rfl)) rfl) (GO 16 rfl rfl rfl (aG rfl rfl (fun hc => bj (o := 16) tk3 (ae rfl hc) (.of (aD 0 rfl)) rfl) (aG rfl rfl (fun hc => Q0 (aJ (ae rfl hc) (aJ (ae rfl hc) rfl)) (con_instr im ⟨hc0, by omega⟩ im.entry)) (aG rfl rfl (fun hc => aP (ae rfl hc)) (GO 1 rfl rfl rfl ?_))))))))
 refine aG rfl rfl (fun hc => bj (o := 1) tk4 (ae rfl hc) (.of (aD 0 rfl)) rfl) (aG rfl rfl (fun hc => dp (ae rfl hc)) (aG rfl rfl (fun hc => bp (ae rfl hc) rfl (fun h => gt hc h)) (aG rfl rfl (fun hc => cK (ae rfl hc) rfl (fun h => gf hc h)) (aU rfl (bp rfl rfl (fun h => gt rfl h)) (aA rfl (aNn (az (FZ1 [] Tryz.results45 rfl ?_))))))))
 rfl
theorem xl (im : ax) (bm b2 : Nat) (s : List ByteArray) (i : Nat) (x : ByteArray) (hx : im.needs.l[i]? = some x) :
   Con Tryz.prog 109 [.int .i64 i, .string x, .pointer (some ⟨b2, 0, none⟩)] [cD (At b2 0 [.v (.map (some bm))]) im.ok] [ft bm i6 vBo (fc s)]
     fun r ps hp => ps = [] ∧ r = .bool (xq s i x).1 ∧ hp = [ft bm i6 vBo (fc (xq s i x).2)] := by
 refine EN3 Tryz.func109 rfl (aY _ (Ent.left (.of (aD 0 rfl))) (fl (Ent.all (f := dY) (ax.f_needsA (Ent.right (.of (aD 1 rfl)))) hx) (fun hsx => (aSR (aA rfl (aNn (aSR (aM rfl (aU rfl (Q0 rfl (gn _ hsx)) (aM rfl (aG rfl rfl (fun hc => bj (o := 0) tk173 rfl (.of (aD 0 rfl)) rfl) (aG rfl rfl (fun hc => aP rfl) (aG rfl rfl (fun hc => l4 (k := x) (v0 := false) 0 Tryz.underlying173 (kyT) (by kernel_rfl) (ae rfl hc) (ae rfl hc) rfl) ?_)))))))))))))
 refine aG rfl rfl (fun hc => dp (ae rfl hc)) (aU rfl (bp rfl rfl (fun h => gt rfl h)) (aA rfl (aNn (aSR (UD 0 tk173 0 rfl rfl rfl rfl (aM rfl (aT rfl (eN (k := x) (v := true) 0 Tryz.underlying173 (kyT) rfl rfl rfl rfl (aHK ?_)))))))))
 refine bS ?_
 rw [← gJ]
 refine an (aSR (aM rfl (aA rfl (aNn (az (FZ1 [0] Tryz.results109 rfl ?_))))))
 exact ⟨rfl, rfl, rfl⟩
theorem y9 (im : ax) : Con Tryz.prog 46 [im.val] [im.ok] [] (YN Value.bool fun b => (b = true → VOk im.versions.l ∧ ns im true = true) ∧ (iR im.versions.l → ns im true = true → b = true)) := by
 refine EN1 Tryz.func46 rfl (aSR (LT rfl (cx rfl rfl rfl (fun b0_0 => (aHN ?_)))))
 refine aA rfl (aNs (bR 0 rfl rfl ?_))
 show awp _ _ _ _ ⟨_, At _ 0 _ :: _, _⟩
 refine aa (LT rfl (fQ (i6) (vBo) rfl (fun b1_0 => (aHN ?_))))
 refine UO 0 rfl rfl (UD 0 tk9 0 rfl rfl rfl rfl (aT rfl (jk (k := im.name) (v := true) 1 Tryz.underlying173 (kyT) rfl rfl rfl rfl (aHK ?_))))
 refine aM rfl (LT rfl (bI (zs := [.map none]) (by kernel_rfl) rfl (fun b1_5 => (aHN ?_))))
 refine aT rfl (bg 2 tk173 rfl rfl rfl rfl (aHK ?_))
 refine aNs ?_
 rw [p6, ← gJ]
 refine bR 2 rfl rfl ?_
 show awp _ _ _ _ ⟨_, At b1_5 0 [.v (.map (some b1_0))] :: _, _⟩
 refine aa (UO 17 rfl rfl (UD 17 tk27 1 rfl rfl rfl rfl (aU rfl (aW Tryz.underlying27 rfl) (aU rfl (eF rfl rfl) (aM rfl (GO 18 rfl rfl rfl (aG rfl rfl (fun hc => bj (o := 18) tk28 (ae rfl hc) (.of (aD 1 rfl)) rfl) ?_)))))))
 refine eT (caps := []) [0] (false) (by kernel_rfl) _ rfl rfl (fun _ => rfl) (fun hc => (aJ (ae rfl hc) rfl)) (fun hc => by rw [List.append_nil]; exact (pk im.versions).pre2 (ax.f_versions (.of (aD 0 rfl))) (ax.f_versionsA (.of (aD 0 rfl)))) (fun v1 hv1 => ?_)
 refine aU rfl (bp rfl rfl (fun h => gt rfl h)) (aM rfl (GO 17 rfl rfl rfl (aG rfl rfl (fun hc => bj (o := 17) tk27 (ae rfl hc) (.of (aD 1 rfl)) rfl) (aG rfl rfl (fun hc => cq (l := [.tmp 3]) rfl) ?_))))
 refine rr (caps := []) [2, 1, 0] 1 (by kernel_rfl) _ rfl rfl (Nat.le_of_ble_eq_true rfl) (fun _ => rfl) (fun hc => (aJ (ae rfl hc) (aJ (ae rfl hc) rfl))) (fun hc => by rw [List.append_nil]; exact (Con.clH (((qI im.needs 109 [.pointer (some ⟨b1_5, 0, none⟩)] (cD (At b1_5 0 [.v (.map (some b1_0))]) im.ok) (fun s => ft b1_0 i6 vBo (fc s)) xq [im.name] (by kernel_rfl) (fun s i x hx => xl im b1_0 b1_5 s i x hx)).pre2 (ax.f_needs (.of (aD 2 rfl))) (Ent.mk2 (.of (aD 0 rfl)) (.of (aD 2 rfl))))) (fun _ _ _ h => h.2.1))) ?_
 refine aHK ?_
 refine aU rfl (bp rfl rfl (fun h => gt rfl h)) (aA rfl (aNn (az (FZ1 [] Tryz.results46 rfl ?_))))
 refine ⟨⟨rfl, rfl⟩, _, rfl, fun h => ?_, fun hs h => ?_⟩
 · rw [Bool.and_eq_true, Bool.and_eq_true] at h
   refine ⟨(hv1 (by rw [h.1.1]; rfl)).1 h.1.2, ?_⟩
   unfold ns; rw [h.1.1, h.2]; rfl
 · unfold ns at h
   rw [Bool.and_eq_true, Bool.and_eq_true] at h
   rw [h.1.1, h.2, (hv1 (by rw [h.1.1]; rfl)).2 hs]; rfl
theorem rk (i : Nat) (x : dD) : Con Tryz.prog 132 [.int .i64 i, x.val] [] [] fun r _ _ => r = .bool (vP x) := by
 refine EN2 Tryz.func132 rfl (aSR (LT rfl (cx rfl rfl rfl (fun b0_0 => (aHN ?_)))))
 refine aA rfl (aNn (aSR (UO 0 rfl rfl (UL 0 tk3 rfl rfl rfl rfl (aU rfl (Q0 rfl (dg _ _ _)) (aM rfl (GO 1 rfl rfl rfl (GL 0 tk3 rfl rfl rfl rfl rfl (aG rfl rfl (fun hc => eK (by kernel_rfl) (aJ (ae rfl hc) (aJ (ae rfl rfl) (aJ (ae rfl rfl) rfl))) (fun w S fp hst => (dg _ _ _).quiet0 hst)) (aU rfl (bp rfl rfl (fun h => gt rfl h)) (aM rfl (GO 2 rfl rfl rfl (GL 0 tk3 rfl rfl rfl rfl rfl (aG rfl rfl (fun hc => eK (by kernel_rfl) (aJ (ae rfl hc) (aJ (ae rfl rfl) (aJ (ae rfl rfl) rfl))) (fun w S fp hst => (dg _ _ _).quiet0 hst)) ?_))))))))))))))
 refine aU rfl (bp rfl rfl (fun h => gt rfl h)) (aA rfl (aNn (az (FZ1 [] Tryz.results132 rfl ?_))))
 rfl
theorem s9 (im : ax) (hS : eY im) (b i : Nat) (x : cr) (hx : im.changes.l[i]? = some x) : Con Tryz.prog 130 [.int .i64 i, x.val, .pointer (some ⟨b, 0, none⟩)] [cD (At b 0 im.row) im.ok] [] fun r _ _ => r = .bool (abE im x) := by
 have hc0 := hS.c0
 have hcd := hS.cd
 have hdz := hS.dz
 have hzm := hS.zm
 refine EN3 Tryz.func130 rfl (aY _ (Ent.left (.of (aD 0 rfl))) (aY _ (Ent.all (f := cr.ok) (ax.f_changesA (Ent.right (.of (aD 1 rfl)))) hx) (fl (cr.f_sec (.of (aD 0 rfl))) (fun hss => (fl (cr.f_obj (.of (aD 0 rfl))) (fun hso => (aSR (LT rfl (cx rfl rfl rfl (fun b0_0 => (aHN ?_)))))))))))
 refine aA rfl (aNn (aSR (UO 3 rfl rfl (UL 0 tk63 rfl rfl rfl rfl ?_))))
 refine aU rfl (Q1 rfl (((qj x.pieces 132 [] x.ok (fun _ p => vP p) (by kernel_rfl) (fun i p _ => (rk i p).pre (fun _ h => by cases h))).post (fun _ _ _ h => h.2.2)).pre2 (ps := [x.ok]) (cr.f_pieces (.of (aD 0 rfl))) (.of (aD 0 rfl))) 0 rfl) ?_
 refine aA rfl (aNn (aSR (aM rfl (aM rfl (GO 1 rfl rfl rfl (GL 0 tk9 rfl rfl rfl rfl rfl (aG rfl rfl (fun hc => Q0 (aJ (ae rfl hc) rfl) (gn _ hss)) (aU rfl (bp rfl rfl (fun h => gt rfl h)) (aM rfl (GO 0 rfl rfl rfl (GL 0 tk9 rfl rfl rfl rfl rfl (aG rfl rfl (fun hc => Q0 (aJ (ae rfl hc) rfl) (jZ _ hso)) (aU rfl (bp rfl rfl (fun h => gt rfl h)) (aM rfl (GO 2 rfl rfl rfl ?_)))))))))))))))
 refine GL 0 tk9 rfl rfl rfl rfl rfl (aG rfl rfl (fun hc => cj Tryz.underlying9 (ae rfl hc)) (aG rfl rfl (fun hc => ck (ae rfl hc) rfl) (aU rfl (bp rfl rfl (fun h => gt rfl h)) (aM rfl (GO 4 rfl rfl rfl (GL 0 tk3 rfl rfl rfl rfl rfl (aG rfl rfl (fun hc => ck (ae rfl hc) rfl) (aG rfl rfl (fun hc => aP (ae rfl hc)) (aG rfl rfl (fun hc => bj (o := 0) tk39 rfl (.of (aD 1 rfl)) rfl) (GO 4 rfl rfl rfl (GL 0 tk3 rfl rfl rfl rfl rfl (aG rfl rfl (fun hc => Q0 (aJ (ae rfl hc) (aJ (ae rfl hc) rfl)) (con_instr im ⟨hc0, by omega⟩ x.code)) (aG rfl rfl (fun hc => cK (ae rfl hc) rfl (fun h => gf hc h)) (aU rfl (bp rfl rfl (fun h => gt rfl h)) (aM rfl ?_)))))))))))))))
 refine GO 3 rfl rfl rfl (GL 0 tk63 rfl rfl rfl rfl rfl (aG rfl rfl (fun hc => aW Tryz.underlying63 (ae rfl hc)) (aG rfl rfl (fun hc => eF (ae rfl hc) rfl) (aU rfl (bp rfl rfl (fun h => gt rfl h)) (aA rfl (aNn (az (FZ1 [] Tryz.results130 rfl ?_))))))))
 rfl
theorem uh (im : ax) (hS : eY im) : Con Tryz.prog 48 [im.val] [im.ok] [] fun r _ _ => r = .bool (qt im) := by
 refine EN1 Tryz.func48 rfl (aSR (LT rfl (cx rfl rfl rfl (fun b0_0 => (aHN ?_)))))
 refine aA rfl (aNs (bR 0 rfl rfl ?_))
 show awp _ _ _ _ ⟨_, At _ 0 _ :: _, _⟩
 refine aa (UO 25 rfl rfl (UD 25 tk37 0 rfl rfl rfl rfl (aU rfl (aW Tryz.underlying37 rfl) (aU rfl (eF rfl rfl) (aM rfl (GO 25 rfl rfl rfl (aG rfl rfl (fun hc => bj (o := 25) tk37 (ae rfl hc) (.of (aD 0 rfl)) rfl) (aG rfl rfl (fun hc => cq (l := [.tmp 1]) rfl) (aG rfl rfl (fun hc => QC (aJ (ae rfl hc) (aJ (ae rfl hc) rfl)) (fun w S fp hst => (((qV im.changes 130 [.pointer (some ⟨b0_0, 0, none⟩)] (cD (At b0_0 0 im.row) im.ok) (fun _ x => abE im x) (by kernel_rfl) (fun i x hx => s9 im hS b0_0 i x hx)).post (fun _ _ _ h => h.2.2)).pre2 (ps := [At b0_0 0 im.row, im.ok]) (ax.f_changes (.of (aD 1 rfl))) (Ent.mk2 (.of (aD 0 rfl)) (.of (aD 1 rfl)))).quiet2 (aD 0 rfl) (aD 1 rfl) hst)) (aU rfl (bp rfl rfl (fun h => gt rfl h)) (aA rfl (aNn (az (FZ1 [] Tryz.results48 rfl ?_))))))))))))))
 rfl
abbrev acn (im : ax) (b b3 : Nat) : Per := cD (At b 0 im.row) (cD (At b3 0 im.info.row) im.ok)
theorem yC (im : ax) (b b3 i : Nat) (x : dA) (hx : im.info.marks.l[i]? = some x) : Con Tryz.prog 111 [.int .i64 i, x.val, .pointer (some ⟨b, 0, none⟩), .pointer (some ⟨b3, 0, none⟩)] [acn im b b3] [] fun r _ _ => r = .bool (abD im i x) := by
 have hil := (List.getElem?_eq_some_iff.1 hx).1
 refine EN4 Tryz.func111 rfl (aY _ (Ent.left (.of (aD 0 rfl))) (aY _ (Ent.left (Ent.right (.of (aD 1 rfl)))) (aY _ (Ent.right (Ent.right (.of (aD 2 rfl)))) (bQ (cA.f_marks (ax.f_info (.of (aD 0 rfl)))) (fun hml => (aSR (LT rfl (cx rfl rfl rfl (fun b0_0 => (aHN ?_))))))))))
 refine aA rfl (aNs (DR [] 42 (VO 0 0 rfl rfl rfl (VL 1 0 tk9 rfl rfl rfl rfl rfl (bV 2 rfl rfl (Q0 rfl (je _)) (VM 3 rfl rfl (bW 4 rfl rfl rfl (fun hc => qFA (off := 1) rfl) (bW 5 rfl rfl rfl (fun hc => bC 0 tk3 (ae rfl hc) rfl rfl) (bW 6 rfl rfl rfl (fun hc => ck (ae rfl hc) rfl) (bW 7 rfl rfl rfl (fun hc => aP (ae rfl hc)) (bW 8 rfl rfl rfl (fun hc => qFA (off := 1) rfl) (bW 9 rfl rfl rfl (fun hc => bC 0 tk3 (ae rfl hc) rfl rfl) (bW 10 rfl rfl rfl (fun hc => ck (ae rfl hc) rfl) (bW 11 rfl rfl rfl (fun hc => cK (ae rfl hc) rfl (fun h => gf hc h)) (bV 12 rfl rfl (bp rfl rfl (fun h => gt rfl h)) ?_)))))))))))))))
 refine VM 13 rfl rfl (bW 14 rfl rfl rfl (fun hc => qFA (off := 2) rfl) (bW 15 rfl rfl rfl (fun hc => bC 0 tk3 (ae rfl hc) rfl rfl) (bW 16 rfl rfl rfl (fun hc => qFA (off := 4) rfl) (bW 17 rfl rfl rfl (fun hc => bj (o := 4) tk3 (ae rfl hc) (.of (aD 2 rfl)) rfl) (bW 18 rfl rfl rfl (fun hc => eK (by kernel_rfl) (aJ (ae rfl hc) (aJ (ae rfl rfl) (aJ (ae rfl hc) rfl))) (fun w S fp hst => (dg _ _ _).quiet0 hst)) (bV 19 rfl rfl (bp rfl rfl (fun h => gt rfl h)) (VM 20 rfl rfl (bW 21 rfl rfl rfl (fun hc => qFA (off := 3) rfl) (bW 22 rfl rfl rfl (fun hc => bC 0 tk3 (ae rfl hc) rfl rfl) (bW 23 rfl rfl rfl (fun hc => fk (ae rfl hc) rfl) (bV 24 rfl rfl (bp rfl rfl (fun h => gt rfl h)) (VM 25 rfl rfl (bW 26 rfl rfl rfl (fun hc => aP rfl) (bW 27 rfl rfl rfl (fun hc => ck (ae rfl hc) rfl) (bW 28 rfl rfl rfl (fun hc => aP (ae rfl hc)) ?_)))))))))))))))
 refine bW 29 rfl rfl rfl (fun hc => qFA (off := 0) rfl) (bW 30 rfl rfl rfl (fun hc => bj (o := 0) tk29 (ae rfl hc) (.of (aD 1 rfl)) rfl) (bW 31 rfl rfl rfl (fun hc => aP rfl) ?_))
 refine bW 32 rfl rfl rfl (fun hc => cU (ae rfl hc) rfl (by (first | omega | (simp at hc; omega)))) ?_
 refine q8 33 rfl (by kernel_rfl) _ rfl rfl (fun hc => bF Tryz.underlying29 tk157 (ae rfl hc) ((cA.f_marks (ax.f_info (.of (aD 0 rfl))))) (ae rfl hc) (fq (i := (i : Int) - 1) (by simp at hc; omega) (by simp at hc; omega)) ((Int.toNat_of_nonneg (by simp at hc; omega)).symm) rfl) (fun _ => ⟨(0, 0)⟩) (fun ⟨b1_33, o1_33⟩ => ?_)
 refine bW 34 rfl rfl rfl (fun hc => qFA (off := 2) (ae rfl hc)) (bW 35 rfl rfl rfl (fun hc => fV (o := 2) tk3 (ae rfl hc) (aD 0 rfl) hc rfl) (bW 36 rfl rfl rfl (fun hc => qFA (off := 2) rfl) (bW 37 rfl rfl rfl (fun hc => bC 0 tk3 (ae rfl hc) rfl rfl) (bW 38 rfl rfl rfl (fun hc => eF (ae rfl hc) (ae rfl hc)) (bW 39 rfl rfl rfl (fun hc => cK (ae rfl hc) rfl (fun h => gf hc h)) (bV 40 rfl rfl (bp rfl rfl (fun h => gt rfl h)) (bV 41 rfl rfl (bw rfl) (BN (an (az (FZ1 [] Tryz.results111 rfl ?_)))))))))))
 rfl
theorem zO (im : ax) (hS : eY im) (b b3 i : Nat) (x : du) (hx : im.info.lines.l[i]? = some x) : Con Tryz.prog 114 [.int .i64 i, x.val, .pointer (some ⟨b, 0, none⟩), .pointer (some ⟨b3, 0, none⟩)] [acn im b b3] [] fun r _ _ => r = .bool (abz im i x) := by
 have hil := (List.getElem?_eq_some_iff.1 hx).1
 have hc0 := hS.c0
 have hcd := hS.cd
 have hdz := hS.dz
 have hzm := hS.zm
 refine EN4 Tryz.func114 rfl (aY _ (Ent.left (.of (aD 0 rfl))) (aY _ (Ent.left (Ent.right (.of (aD 1 rfl)))) (aY _ (Ent.right (Ent.right (.of (aD 2 rfl)))) (bQ (cA.f_lines (ax.f_info (.of (aD 0 rfl)))) (fun hml => (aSR (LT rfl (cx rfl rfl rfl (fun b0_0 => (aHN ?_))))))))))
 refine aA rfl (aNs (DR [] 38 (VO 0 0 rfl rfl rfl (VL 1 0 tk3 rfl rfl rfl rfl rfl (bV 2 rfl rfl (ck rfl rfl) (VM 3 rfl rfl (bW 4 rfl rfl rfl (fun hc => qFA (off := 2) rfl) (bW 5 rfl rfl rfl (fun hc => bC 0 tk9 (ae rfl hc) rfl rfl) (bW 6 rfl rfl rfl (fun hc => Q0 (aJ (ae rfl hc) rfl) (je _)) (bV 7 rfl rfl (bp rfl rfl (fun h => gt rfl h)) (VM 8 rfl rfl (bW 9 rfl rfl rfl (fun hc => qFA (off := 1) rfl) (bW 10 rfl rfl rfl (fun hc => bC 0 tk3 (ae rfl hc) rfl rfl) (bW 11 rfl rfl rfl (fun hc => qFA (off := 2) rfl) (bW 12 rfl rfl rfl (fun hc => bj (o := 2) tk3 (ae rfl hc) (.of (aD 2 rfl)) rfl) ?_)))))))))))))))
 refine bW 13 rfl rfl rfl (fun hc => cU (ae rfl hc) rfl (by (first | omega | (simp at hc; omega)))) ?_
 refine bW 14 rfl rfl rfl (fun hc => eK (by kernel_rfl) (aJ (ae rfl hc) (aJ (ae rfl rfl) (aJ (ae rfl hc) rfl))) (fun w S fp hst => (dg _ _ _).quiet0 hst)) (bV 15 rfl rfl (bp rfl rfl (fun h => gt rfl h)) (VM 16 rfl rfl (bW 17 rfl rfl rfl (fun hc => qFA (off := 3) rfl) (bW 18 rfl rfl rfl (fun hc => bC 0 tk3 (ae rfl hc) rfl rfl) (bW 19 rfl rfl rfl (fun hc => fk (ae rfl hc) rfl) (bV 20 rfl rfl (bp rfl rfl (fun h => gt rfl h)) (VM 21 rfl rfl (bW 22 rfl rfl rfl (fun hc => aP rfl) (bW 23 rfl rfl rfl (fun hc => ck (ae rfl hc) rfl) (bW 24 rfl rfl rfl (fun hc => aP (ae rfl hc)) (bW 25 rfl rfl rfl (fun hc => qFA (off := 1) rfl) (bW 26 rfl rfl rfl (fun hc => bj (o := 1) tk30 (ae rfl hc) (.of (aD 1 rfl)) rfl) (bW 27 rfl rfl rfl (fun hc => aP rfl) ?_)))))))))))))
 refine bW 28 rfl rfl rfl (fun hc => cU (ae rfl hc) rfl (by (first | omega | (simp at hc; omega)))) ?_
 refine q8 29 rfl (by kernel_rfl) _ rfl rfl (fun hc => bF Tryz.underlying30 tk159 (ae rfl hc) ((cA.f_lines (ax.f_info (.of (aD 0 rfl))))) (ae rfl hc) (fq (i := (i : Int) - 1) (by simp at hc; omega) (by simp at hc; omega)) ((Int.toNat_of_nonneg (by simp at hc; omega)).symm) rfl) (fun _ => ⟨(0, 0)⟩) (fun ⟨b1_29, o1_29⟩ => ?_)
 refine bW 30 rfl rfl rfl (fun hc => qFA (off := 1) (ae rfl hc)) (bW 31 rfl rfl rfl (fun hc => fV (o := 1) tk3 (ae rfl hc) (aD 0 rfl) hc rfl) (bW 32 rfl rfl rfl (fun hc => qFA (off := 1) rfl) (bW 33 rfl rfl rfl (fun hc => bC 0 tk3 (ae rfl hc) rfl rfl) (bW 34 rfl rfl rfl (fun hc => eF (ae rfl hc) (ae rfl hc)) (bW 35 rfl rfl rfl (fun hc => cK (ae rfl hc) rfl (fun h => gf hc h)) (bV 36 rfl rfl (bp rfl rfl (fun h => gt rfl h)) (bV 37 rfl rfl (bw rfl) (BN (an (az (FZ1 [] Tryz.results114 rfl ?_)))))))))))
 rfl
end Go.Proofs.YtahgkiicjohonaaGreat

namespace Go.Proofs.YtahgkiicjohonaaGreat
open Go.RowKit Go.Lp Go.Sy Go.Lv
def acA (im : ax) (e : Int) (_ : Nat) (x : bE) : Bool × Int := (ic x.at_ e im.code && ic x.size 1 (IntKind.i64.wrap (im.code - x.at_)), IntKind.i64.wrap (x.at_ + x.size))
def aeD (im : ax) (e : Int) (g : Int × Int × Int) : Bool := ((decide (g.1 = 0) && decide (g.2.1 ≥ e)) && decide (g.2.1 ≤ g.2.2)) && decide (g.2.2 ≤ im.code)
def lN {α : Type} (im : ax) (g : α → Int × Int × Int) (e : Int) (_ : Nat) (x : α) : Bool × Int := (aeD im e (g x), (g x).2.1)
abbrev v3 (g : Int × Int × Int) : Value := .tuple #[.int .i64 g.1, .int .i64 g.2.1, .int .i64 g.2.2]
abbrev inG (x : b8) : Int × Int × Int := (x.sec, x.from_, x.to_)
abbrev vaG (x : eh) : Int × Int × Int := (x.sec, x.from_, x.to_)
abbrev deG (x : cC) : Int × Int × Int := (x.sec, x.from_, x.to_)
def inB (x : b8) : Bool := (mO x.name && mO x.file) && decide (x.line ≥ 0)
def vaB (im : ax) (x : eh) : Bool := mO x.name && ((decide (x.where_ = 1) || (decide (x.where_ = 0) && ic x.n 0 15)) || (decide (x.where_ = 2) && ic x.n (-1) (im.zero - 1)))
def deB (x : cC) : Bool := decide (x.bytes ≥ 0) && decide (x.bytes.tmod 8 = 0)
def abB (im : ax) : Bool := ((((allI (abD im) 0 im.info.marks.l && allI (abz im) 0 im.info.lines.l) && (fJ (acA im) 0 0 im.info.ends.l).1)
 && ((fJ (lN im inG) 0 0 im.info.inlines.l).1 && allI (fun _ x => inB x) 0 im.info.inlines.l))
 && ((fJ (lN im vaG) 0 0 im.info.vars.l).1 && allI (fun _ x => vaB im x) 0 im.info.vars.l))
 && ((fJ (lN im deG) 0 0 im.info.depths.l).1 && allI (fun _ x => deB x) 0 im.info.depths.l)
end Go.Proofs.YtahgkiicjohonaaGreat

