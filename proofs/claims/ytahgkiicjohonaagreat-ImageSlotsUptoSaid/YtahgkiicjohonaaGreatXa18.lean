/- Parts of the proof, in build order. No condition. -/
import Derived.Test.YtahgkiicjohonaaGreatXa17
import Derived.Test.YtahgkiicjohonaaGreatXa05
import Derived.Test.YtahgkiicjohonaaGreatXa09
import Derived.Lib.UnsafeStr
import Derived.Lib.Builder
import Derived.Test.YtahgkiicjohonaaGreatXa04
import Derived.Test.YtahgkiicjohonaaGreatXa11
import Derived.Lib.BufferWrite
import Derived.Test.YtahgkiicjohonaaGreatXa06
import Derived.Test.YtahgkiicjohonaaGreatXa08
set_option linter.unusedSimpArgs false
set_option linter.unusedVariables false
set_option maxHeartbeats 1000000
set_option maxRecDepth 20000
namespace Go.Proofs.YtahgkiicjohonaaGreat
open Go.RowKit Go.Lp Go.Sy Go.Lv
open Go.Proofs.Tryz
attribute [local irreducible] aL aB awp aC fwp Quiet
theorem yP (im : ax) (b b2 : Nat) (e : Int) (i : Nat) (x : bE) : Con Tryz.prog 116 [.int .i64 i, x.val, .pointer (some ⟨b2, 0, none⟩), .pointer (some ⟨b, 0, none⟩)] [At b 0 im.row] [Box b2 3 [.int .i64 e]] fun r ps hp => ps = [] ∧ r = .bool (acA im e i x).1 ∧ hp = [Box b2 3 [.int .i64 (acA im e i x).2]] := by
 refine EN4 Tryz.func116 rfl (aSR (LT rfl (cx rfl rfl rfl (fun b0_0 => (aHN ?_)))))
 refine aA rfl (aNn (aSR (UO 0 rfl rfl (UL 1 tk3 rfl rfl rfl rfl (UL 0 tk3 rfl rfl rfl rfl (UO 2 rfl rfl (UD 2 tk3 0 rfl rfl rfl rfl (aU rfl (Q0 rfl (dg _ _ _)) (aM rfl (GO 1 rfl rfl rfl (GL 1 tk3 rfl rfl rfl rfl rfl (GO 2 rfl rfl rfl (aG rfl rfl (fun hc => bj (o := 2) tk3 (ae rfl hc) (.of (aD 0 rfl)) rfl) (GO 0 rfl rfl rfl ?_))))))))))))))
 refine GL 1 tk3 rfl rfl rfl rfl rfl (aG rfl rfl (fun hc => yd (ae rfl hc) (ae rfl hc)) (aG rfl rfl (fun hc => eK (by kernel_rfl) (aJ (ae rfl hc) (aJ (ae rfl rfl) (aJ (ae rfl hc) rfl))) (fun w S fp hst => (dg _ _ _).quiet0 hst)) (aU rfl (bp rfl rfl (fun h => gt rfl h)) (aA rfl (aNn (aSR (UO 0 rfl rfl (UL 1 tk3 rfl rfl rfl rfl (UO 1 rfl rfl (UL 1 tk3 rfl rfl rfl rfl (aU rfl (rv rfl rfl) (aT rfl (bg 0 tk3 rfl rfl rfl rfl (aHK ?_))))))))))))))
 refine aNn (aSR (aM rfl (aA rfl (aNn (az (FZ1 [0] Tryz.results116 rfl ?_))))))
 exact ⟨rfl, rfl, rfl⟩
theorem tk193 : tyk Tryz.prog 193 = some (false, 1) := by kernel_rfl
theorem aai (x : b8) : Con Tryz.prog 118 [x.val] [] [] fun r _ _ => r = v3 (inG x) := by
 refine EN1 Tryz.func118 rfl (aSR (LT rfl (cx rfl rfl rfl (fun b0_0 => (aHN ?_)))))
 refine aA rfl (aA rfl (aA rfl (aNs (DR [] 9 (VO 0 0 rfl rfl rfl (VL 1 0 tk3 rfl rfl rfl rfl rfl (VO 2 1 rfl rfl rfl (VL 3 0 tk3 rfl rfl rfl rfl rfl (VO 4 2 rfl rfl rfl (VL 5 0 tk3 rfl rfl rfl rfl rfl (bV 6 rfl rfl (bw rfl) (bV 7 rfl rfl (bw rfl) (bV 8 rfl rfl (bw rfl) (BN ?_))))))))))))))
 refine an (az ?_)
 refine adF [] [] rfl Tryz.results118 rfl rfl rfl ?_ (.inr rfl)
 rfl
theorem nw (im : ax) (b bf b2 : Nat) (e : Int) (i : Nat) (x : b8) : Con Tryz.prog 177 [.int .i64 i, x.val, .pointer (some ⟨bf, 0, none⟩), .pointer (some ⟨b2, 0, none⟩), .pointer (some ⟨b, 0, none⟩)] [cD (At bf 0 [.v (.func (.func 118) #[] #[])]) (At b 0 im.row)] [Box b2 3 [.int .i64 e]] fun r ps hp => ps = [] ∧ r = .bool (lN im inG e i x).1 ∧ hp = [Box b2 3 [.int .i64 (lN im inG e i x).2]] := by
 refine EN5 Tryz.func177 rfl (aY _ (Ent.left (.of (aD 0 rfl))) (aY _ (Ent.right (.of (aD 1 rfl))) (aSR (LT rfl (cx rfl rfl rfl (fun b0_0 => (aHN ?_)))))))
 refine aA rfl (aNn (aSR (UD 0 tk193 1 rfl rfl rfl rfl (UL 1 tk192 rfl rfl rfl rfl (aU rfl (iU (by kernel_rfl) rfl rfl (fun w S fp hst => (aai x).quiet0 hst)) ?_)))))
 refine aM rfl (aU rfl (bP rfl rfl) (aU rfl (bP rfl rfl) (aU rfl (bP rfl rfl) (aA rfl (aA rfl (aA rfl (aNn (aSR (aM rfl (aU rfl (ck rfl rfl) (aM rfl (aG rfl rfl (fun hc => aP rfl) (aG rfl rfl (fun hc => bC 0 tk3 rfl rfl rfl) ?_)))))))))))))
 refine aG rfl rfl (fun hc => fk (ae rfl hc) (ae rfl hc)) (aU rfl (bp rfl rfl (fun h => gt rfl h)) (aM rfl (aG rfl rfl (fun hc => aP rfl) (aG rfl rfl (fun hc => aP rfl) (aG rfl rfl (fun hc => eF (ae rfl hc) (ae rfl hc)) (aU rfl (bp rfl rfl (fun h => gt rfl h)) (aM rfl (aG rfl rfl (fun hc => aP rfl) (GO 2 rfl rfl rfl ?_)))))))))
 refine aG rfl rfl (fun hc => bj (o := 2) tk3 (ae rfl hc) (.of (aD 0 rfl)) rfl) (aG rfl rfl (fun hc => eF (ae rfl hc) (ae rfl hc)) (aU rfl (bp rfl rfl (fun h => gt rfl h)) (aA rfl (aNn (aSR (aM rfl (aT rfl (bg 0 tk3 rfl rfl rfl rfl (aHK ?_)))))))))
 refine aNn (aSR (aM rfl (aA rfl (aNn (az (FZ1 [0] Tryz.results177 rfl ?_))))))
 exact ⟨rfl, rfl, rfl⟩
theorem oP (im : ax) (l : Sl b8) : Con Tryz.prog 117 [im.val, l.val, .func (.func 118) #[] #[]] [ShF b8.row l] [] fun r _ _ => r = .bool (fJ (lN im inG) 0 0 l.l).1 := by
 refine EN3 Tryz.func117 rfl (aSR (LT rfl (cx rfl rfl rfl (fun b0_0 => (aHN ?_)))))
 refine LT rfl (cx rfl rfl rfl (fun b0_1 => (aHN ?_)))
 refine aA rfl (aNs (bR 0 rfl rfl ?_))
 show awp _ _ _ _ ⟨_, At _ 0 _ :: _, _⟩
 refine aa (LT rfl (bI (zs := [.int .i64 0]) (by kernel_rfl) rfl (fun b1_0 => (aHN ?_))))
 refine aT rfl (bg 2 tk3 rfl rfl rfl rfl (aHK ?_))
 refine aNs (bR 1 rfl rfl ?_)
 show awp _ _ _ _ ⟨_, At b0_1 0 [.v (.func (.func 118) #[] #[])] :: _, _⟩
 refine aa (aM rfl (aU rfl (cq (l := [.tmp 5, .tmp 7, .tmp 3]) rfl) (LF rfl (EC [0, 1, 2] [2] rfl (Con.clH (((qP l 177 [.pointer (some ⟨b0_1, 0, none⟩), .pointer (some ⟨b1_0, 0, none⟩), .pointer (some ⟨b0_0, 0, none⟩)] (cD (At b0_1 0 [.v (.func (.func 118) #[] #[])]) (At b0_0 0 im.row)) (fun e => Box b1_0 3 [.int .i64 e]) (lN im inG) 0 (by kernel_rfl) (fun s i x _ => nw im b0_0 b0_1 b1_0 s i x)).pre2 (.of (aD 0 rfl)) (Ent.mk2 (.of (aD 2 rfl)) (.of (aD 1 rfl))))) (fun _ _ _ h => h.2.1)) ?_))))
 rintro _ _ _ ⟨rfl, rfl, rfl⟩
 refine aST ?_
 refine aA rfl (aNn (az (FZ1 [] Tryz.results117 rfl ?_)))
 rfl
theorem tk199 : tyk Tryz.prog 199 = some (false, 1) := by kernel_rfl
theorem ze (x : eh) : Con Tryz.prog 122 [x.val] [] [] fun r _ _ => r = v3 (vaG x) := by
 refine EN1 Tryz.func122 rfl (aSR (LT rfl (cx rfl rfl rfl (fun b0_0 => (aHN ?_)))))
 refine aA rfl (aA rfl (aA rfl (aNs (DR [] 9 (VO 0 0 rfl rfl rfl (VL 1 0 tk3 rfl rfl rfl rfl rfl (VO 2 1 rfl rfl rfl (VL 3 0 tk3 rfl rfl rfl rfl rfl (VO 4 2 rfl rfl rfl (VL 5 0 tk3 rfl rfl rfl rfl rfl (bV 6 rfl rfl (bw rfl) (bV 7 rfl rfl (bw rfl) (bV 8 rfl rfl (bw rfl) (BN ?_))))))))))))))
 refine an (az ?_)
 refine adF [] [] rfl Tryz.results122 rfl rfl rfl ?_ (.inr rfl)
 rfl
theorem q4 (im : ax) (b bf b2 : Nat) (e : Int) (i : Nat) (x : eh) : Con Tryz.prog 178 [.int .i64 i, x.val, .pointer (some ⟨bf, 0, none⟩), .pointer (some ⟨b2, 0, none⟩), .pointer (some ⟨b, 0, none⟩)] [cD (At bf 0 [.v (.func (.func 122) #[] #[])]) (At b 0 im.row)] [Box b2 3 [.int .i64 e]] fun r ps hp => ps = [] ∧ r = .bool (lN im vaG e i x).1 ∧ hp = [Box b2 3 [.int .i64 (lN im vaG e i x).2]] := by
 refine EN5 Tryz.func178 rfl (aY _ (Ent.left (.of (aD 0 rfl))) (aY _ (Ent.right (.of (aD 1 rfl))) (aSR (LT rfl (cx rfl rfl rfl (fun b0_0 => (aHN ?_)))))))
 refine aA rfl (aNn (aSR (UD 0 tk199 1 rfl rfl rfl rfl (UL 1 tk198 rfl rfl rfl rfl (aU rfl (iU (by kernel_rfl) rfl rfl (fun w S fp hst => (ze x).quiet0 hst)) ?_)))))
 refine aM rfl (aU rfl (bP rfl rfl) (aU rfl (bP rfl rfl) (aU rfl (bP rfl rfl) (aA rfl (aA rfl (aA rfl (aNn (aSR (aM rfl (aU rfl (ck rfl rfl) (aM rfl (aG rfl rfl (fun hc => aP rfl) (aG rfl rfl (fun hc => bC 0 tk3 rfl rfl rfl) ?_)))))))))))))
 refine aG rfl rfl (fun hc => fk (ae rfl hc) (ae rfl hc)) (aU rfl (bp rfl rfl (fun h => gt rfl h)) (aM rfl (aG rfl rfl (fun hc => aP rfl) (aG rfl rfl (fun hc => aP rfl) (aG rfl rfl (fun hc => eF (ae rfl hc) (ae rfl hc)) (aU rfl (bp rfl rfl (fun h => gt rfl h)) (aM rfl (aG rfl rfl (fun hc => aP rfl) (GO 2 rfl rfl rfl ?_)))))))))
 refine aG rfl rfl (fun hc => bj (o := 2) tk3 (ae rfl hc) (.of (aD 0 rfl)) rfl) (aG rfl rfl (fun hc => eF (ae rfl hc) (ae rfl hc)) (aU rfl (bp rfl rfl (fun h => gt rfl h)) (aA rfl (aNn (aSR (aM rfl (aT rfl (bg 0 tk3 rfl rfl rfl rfl (aHK ?_)))))))))
 refine aNn (aSR (aM rfl (aA rfl (aNn (az (FZ1 [0] Tryz.results178 rfl ?_))))))
 exact ⟨rfl, rfl, rfl⟩
theorem sM (im : ax) (l : Sl eh) : Con Tryz.prog 121 [im.val, l.val, .func (.func 122) #[] #[]] [ShF eh.row l] [] fun r _ _ => r = .bool (fJ (lN im vaG) 0 0 l.l).1 := by
 refine EN3 Tryz.func121 rfl (aSR (LT rfl (cx rfl rfl rfl (fun b0_0 => (aHN ?_)))))
 refine LT rfl (cx rfl rfl rfl (fun b0_1 => (aHN ?_)))
 refine aA rfl (aNs (bR 0 rfl rfl ?_))
 show awp _ _ _ _ ⟨_, At _ 0 _ :: _, _⟩
 refine aa (LT rfl (bI (zs := [.int .i64 0]) (by kernel_rfl) rfl (fun b1_0 => (aHN ?_))))
 refine aT rfl (bg 2 tk3 rfl rfl rfl rfl (aHK ?_))
 refine aNs (bR 1 rfl rfl ?_)
 show awp _ _ _ _ ⟨_, At b0_1 0 [.v (.func (.func 122) #[] #[])] :: _, _⟩
 refine aa (aM rfl (aU rfl (cq (l := [.tmp 5, .tmp 7, .tmp 3]) rfl) (LF rfl (EC [0, 1, 2] [2] rfl (Con.clH (((ve l 178 [.pointer (some ⟨b0_1, 0, none⟩), .pointer (some ⟨b1_0, 0, none⟩), .pointer (some ⟨b0_0, 0, none⟩)] (cD (At b0_1 0 [.v (.func (.func 122) #[] #[])]) (At b0_0 0 im.row)) (fun e => Box b1_0 3 [.int .i64 e]) (lN im vaG) 0 (by kernel_rfl) (fun s i x _ => q4 im b0_0 b0_1 b1_0 s i x)).pre2 (.of (aD 0 rfl)) (Ent.mk2 (.of (aD 2 rfl)) (.of (aD 1 rfl))))) (fun _ _ _ h => h.2.1)) ?_))))
 rintro _ _ _ ⟨rfl, rfl, rfl⟩
 refine aST ?_
 refine aA rfl (aNn (az (FZ1 [] Tryz.results121 rfl ?_)))
 rfl
theorem tk205 : tyk Tryz.prog 205 = some (false, 1) := by kernel_rfl
theorem zF (x : cC) : Con Tryz.prog 126 [x.val] [] [] fun r _ _ => r = v3 (deG x) := by
 refine EN1 Tryz.func126 rfl (aSR (LT rfl (cx rfl rfl rfl (fun b0_0 => (aHN ?_)))))
 refine aA rfl (aA rfl (aA rfl (aNs (DR [] 9 (VO 0 0 rfl rfl rfl (VL 1 0 tk3 rfl rfl rfl rfl rfl (VO 2 1 rfl rfl rfl (VL 3 0 tk3 rfl rfl rfl rfl rfl (VO 4 2 rfl rfl rfl (VL 5 0 tk3 rfl rfl rfl rfl rfl (bV 6 rfl rfl (bw rfl) (bV 7 rfl rfl (bw rfl) (bV 8 rfl rfl (bw rfl) (BN ?_))))))))))))))
 refine an (az ?_)
 refine adF [] [] rfl Tryz.results126 rfl rfl rfl ?_ (.inr rfl)
 rfl
theorem oE (im : ax) (b bf b2 : Nat) (e : Int) (i : Nat) (x : cC) : Con Tryz.prog 179 [.int .i64 i, x.val, .pointer (some ⟨bf, 0, none⟩), .pointer (some ⟨b2, 0, none⟩), .pointer (some ⟨b, 0, none⟩)] [cD (At bf 0 [.v (.func (.func 126) #[] #[])]) (At b 0 im.row)] [Box b2 3 [.int .i64 e]] fun r ps hp => ps = [] ∧ r = .bool (lN im deG e i x).1 ∧ hp = [Box b2 3 [.int .i64 (lN im deG e i x).2]] := by
 refine EN5 Tryz.func179 rfl (aY _ (Ent.left (.of (aD 0 rfl))) (aY _ (Ent.right (.of (aD 1 rfl))) (aSR (LT rfl (cx rfl rfl rfl (fun b0_0 => (aHN ?_)))))))
 refine aA rfl (aNn (aSR (UD 0 tk205 1 rfl rfl rfl rfl (UL 1 tk204 rfl rfl rfl rfl (aU rfl (iU (by kernel_rfl) rfl rfl (fun w S fp hst => (zF x).quiet0 hst)) ?_)))))
 refine aM rfl (aU rfl (bP rfl rfl) (aU rfl (bP rfl rfl) (aU rfl (bP rfl rfl) (aA rfl (aA rfl (aA rfl (aNn (aSR (aM rfl (aU rfl (ck rfl rfl) (aM rfl (aG rfl rfl (fun hc => aP rfl) (aG rfl rfl (fun hc => bC 0 tk3 rfl rfl rfl) ?_)))))))))))))
 refine aG rfl rfl (fun hc => fk (ae rfl hc) (ae rfl hc)) (aU rfl (bp rfl rfl (fun h => gt rfl h)) (aM rfl (aG rfl rfl (fun hc => aP rfl) (aG rfl rfl (fun hc => aP rfl) (aG rfl rfl (fun hc => eF (ae rfl hc) (ae rfl hc)) (aU rfl (bp rfl rfl (fun h => gt rfl h)) (aM rfl (aG rfl rfl (fun hc => aP rfl) (GO 2 rfl rfl rfl ?_)))))))))
 refine aG rfl rfl (fun hc => bj (o := 2) tk3 (ae rfl hc) (.of (aD 0 rfl)) rfl) (aG rfl rfl (fun hc => eF (ae rfl hc) (ae rfl hc)) (aU rfl (bp rfl rfl (fun h => gt rfl h)) (aA rfl (aNn (aSR (aM rfl (aT rfl (bg 0 tk3 rfl rfl rfl rfl (aHK ?_)))))))))
 refine aNn (aSR (aM rfl (aA rfl (aNn (az (FZ1 [0] Tryz.results179 rfl ?_))))))
 exact ⟨rfl, rfl, rfl⟩
theorem qS (im : ax) (l : Sl cC) : Con Tryz.prog 125 [im.val, l.val, .func (.func 126) #[] #[]] [ShF cC.row l] [] fun r _ _ => r = .bool (fJ (lN im deG) 0 0 l.l).1 := by
 refine EN3 Tryz.func125 rfl (aSR (LT rfl (cx rfl rfl rfl (fun b0_0 => (aHN ?_)))))
 refine LT rfl (cx rfl rfl rfl (fun b0_1 => (aHN ?_)))
 refine aA rfl (aNs (bR 0 rfl rfl ?_))
 show awp _ _ _ _ ⟨_, At _ 0 _ :: _, _⟩
 refine aa (LT rfl (bI (zs := [.int .i64 0]) (by kernel_rfl) rfl (fun b1_0 => (aHN ?_))))
 refine aT rfl (bg 2 tk3 rfl rfl rfl rfl (aHK ?_))
 refine aNs (bR 1 rfl rfl ?_)
 show awp _ _ _ _ ⟨_, At b0_1 0 [.v (.func (.func 126) #[] #[])] :: _, _⟩
 refine aa (aM rfl (aU rfl (cq (l := [.tmp 5, .tmp 7, .tmp 3]) rfl) (LF rfl (EC [0, 1, 2] [2] rfl (Con.clH (((qX l 179 [.pointer (some ⟨b0_1, 0, none⟩), .pointer (some ⟨b1_0, 0, none⟩), .pointer (some ⟨b0_0, 0, none⟩)] (cD (At b0_1 0 [.v (.func (.func 126) #[] #[])]) (At b0_0 0 im.row)) (fun e => Box b1_0 3 [.int .i64 e]) (lN im deG) 0 (by kernel_rfl) (fun s i x _ => oE im b0_0 b0_1 b1_0 s i x)).pre2 (.of (aD 0 rfl)) (Ent.mk2 (.of (aD 2 rfl)) (.of (aD 1 rfl))))) (fun _ _ _ h => h.2.1)) ?_))))
 rintro _ _ _ ⟨rfl, rfl, rfl⟩
 refine aST ?_
 refine aA rfl (aNn (az (FZ1 [] Tryz.results125 rfl ?_)))
 rfl
theorem zZ (i : Nat) (x : b8) : Con Tryz.prog 120 [.int .i64 i, x.val] [] [] fun r _ _ => r = .bool (inB x) := by
 refine EN2 Tryz.func120 rfl (aSR (LT rfl (cx rfl rfl rfl (fun b0_0 => (aHN ?_)))))
 refine aA rfl (aNn (aSR (UO 3 rfl rfl (UL 0 tk9 rfl rfl rfl rfl (aU rfl (Q0 rfl (je _)) (aM rfl (GO 4 rfl rfl rfl (GL 0 tk9 rfl rfl rfl rfl rfl (aG rfl rfl (fun hc => Q0 (aJ (ae rfl hc) rfl) (je _)) (aU rfl (bp rfl rfl (fun h => gt rfl h)) (aM rfl (GO 5 rfl rfl rfl ?_))))))))))))
 refine GL 0 tk3 rfl rfl rfl rfl rfl (aG rfl rfl (fun hc => fk (ae rfl hc) rfl) (aU rfl (bp rfl rfl (fun h => gt rfl h)) (aA rfl (aNn (az (FZ1 [] Tryz.results120 rfl ?_))))))
 rfl
theorem y4 (im : ax) (hS : eY im) (b i : Nat) (x : eh) : Con Tryz.prog 124 [.int .i64 i, x.val, .pointer (some ⟨b, 0, none⟩)] [At b 0 im.row] [] fun r _ _ => r = .bool (vaB im x) := by
 have hc0 := hS.c0
 have hcd := hS.cd
 have hdz := hS.dz
 have hzm := hS.zm
 refine EN3 Tryz.func124 rfl (aSR (LT rfl (cx rfl rfl rfl (fun b0_0 => (aHN ?_)))))
 refine aA rfl (aNn (aSR (UO 4 rfl rfl (UL 0 tk3 rfl rfl rfl rfl (aU rfl (ck rfl rfl) (aM rfl (GO 4 rfl rfl rfl (GL 0 tk3 rfl rfl rfl rfl rfl (aG rfl rfl (fun hc => ck (ae rfl hc) rfl) (aG rfl rfl (fun hc => aP (ae rfl hc)) (GO 5 rfl rfl rfl (GL 0 tk3 rfl rfl rfl rfl rfl (aG rfl rfl (fun hc => eK (by kernel_rfl) (aJ (ae rfl hc) (aJ (ae rfl rfl) (aJ (ae rfl rfl) rfl))) (fun w S fp hst => (dg _ _ _).quiet0 hst)) ?_)))))))))))))
 refine aG rfl rfl (fun hc => bp (ae rfl hc) rfl (fun h => gt hc h)) (aU rfl (cK rfl rfl (fun h => gf rfl h)) (aM rfl (GO 4 rfl rfl rfl (GL 0 tk3 rfl rfl rfl rfl rfl (aG rfl rfl (fun hc => ck (ae rfl hc) rfl) (aG rfl rfl (fun hc => aP (ae rfl hc)) (GO 5 rfl rfl rfl (GL 0 tk3 rfl rfl rfl rfl rfl (GO 4 rfl rfl rfl (aG rfl rfl (fun hc => bj (o := 4) tk3 (ae rfl hc) (.of (aD 0 rfl)) rfl) ?_))))))))))
 refine aG rfl rfl (fun hc => cU (ae rfl hc) rfl (by (first | omega | (simp at hc; omega)))) ?_
 refine aG rfl rfl (fun hc => eK (by kernel_rfl) (aJ (ae rfl hc) (aJ (ae rfl rfl) (aJ (ae rfl hc) rfl))) (fun w S fp hst => (dg _ _ _).quiet0 hst)) (aG rfl rfl (fun hc => bp (ae rfl hc) rfl (fun h => gt hc h)) (aU rfl (cK rfl rfl (fun h => gf rfl h)) (aA rfl (aNn (aSR (UO 3 rfl rfl (UL 0 tk9 rfl rfl rfl rfl (aU rfl (Q0 rfl (je _)) (aM rfl (aG rfl rfl (fun hc => aP rfl) (aU rfl (bp rfl rfl (fun h => gt rfl h)) (aA rfl (aNn (az (FZ1 [] Tryz.results124 rfl ?_)))))))))))))))
 rfl
theorem zJ (i : Nat) (x : cC) : Con Tryz.prog 128 [.int .i64 i, x.val] [] [] fun r _ _ => r = .bool (deB x) := by
 refine EN2 Tryz.func128 rfl (aSR (LT rfl (cx rfl rfl rfl (fun b0_0 => (aHN ?_)))))
 refine aA rfl (aNn (aSR (UO 3 rfl rfl (UL 0 tk3 rfl rfl rfl rfl (aU rfl (fk rfl rfl) (aM rfl (GO 3 rfl rfl rfl (GL 0 tk3 rfl rfl rfl rfl rfl (aG rfl rfl (fun hc => iF (ae rfl hc) rfl (by decide)) (aG rfl rfl (fun hc => ck (ae rfl hc) rfl) (aU rfl (bp rfl rfl (fun h => gt rfl h)) (aA rfl (aNn (az (FZ1 [] Tryz.results128 rfl ?_)))))))))))))))
 rfl
theorem abd (im : ax) (hS : eY im) : Con Tryz.prog 47 [im.val] [im.ok] [] fun r _ _ => r = .bool (abB im) := by
 refine EN1 Tryz.func47 rfl (aSR (LT rfl (cx rfl rfl rfl (fun b0_0 => (aHN ?_)))))
 refine aA rfl (aNs (bR 0 rfl rfl ?_))
 show awp _ _ _ _ ⟨_, At _ 0 _ :: _, _⟩
 refine aa (UO 19 rfl rfl (UD 19 tk36 0 rfl rfl rfl rfl (LT rfl (bI (zs := [.slice none 0 0, .slice none 0 0, .slice none 0 0, .slice none 0 0, .slice none 0 0, .slice none 0 0]) (by kernel_rfl) rfl (fun b1_2 => (aHN ?_))))))
 refine aT rfl (bg 1 tk36 rfl rfl rfl rfl (aHK ?_))
 refine aNs (bR 1 rfl rfl ?_)
 show awp _ _ _ _ ⟨_, At b1_2 0 im.info.row :: _, _⟩
 refine aa (UO 0 rfl rfl (UD 0 tk29 0 rfl rfl rfl rfl (aU rfl (cq (l := [.tmp 1, .tmp 3]) rfl) (aU rfl (QC rfl (fun w S fp hst => (((ri im.info.marks 111 [.pointer (some ⟨b0_0, 0, none⟩), .pointer (some ⟨b1_2, 0, none⟩)] (acn im b0_0 b1_2) (abD im) (by kernel_rfl) (fun i x hx => yC im b0_0 b1_2 i x hx)).post (fun _ _ _ h => h.2.2)).pre2 (ps := [At b1_2 0 im.info.row, At b0_0 0 im.row, im.ok]) (cA.f_marks (ax.f_info (.of (aD 2 rfl)))) (Ent.mk2 (.of (aD 1 rfl)) (Ent.mk2 (.of (aD 0 rfl)) (.of (aD 2 rfl))))).quiet3 (aD 0 rfl) (aD 1 rfl) (aD 2 rfl) hst)) (aA rfl (aNn (aSR (UO 1 rfl rfl (UD 1 tk30 0 rfl rfl rfl rfl (aU rfl (cq (l := [.tmp 1, .tmp 3]) rfl) (aU rfl (QC rfl (fun w S fp hst => (((qT im.info.lines 114 [.pointer (some ⟨b0_0, 0, none⟩), .pointer (some ⟨b1_2, 0, none⟩)] (acn im b0_0 b1_2) (abz im) (by kernel_rfl) (fun i x hx => zO im hS b0_0 b1_2 i x hx)).post (fun _ _ _ h => h.2.2)).pre2 (ps := [At b1_2 0 im.info.row, At b0_0 0 im.row, im.ok]) (cA.f_lines (ax.f_info (.of (aD 2 rfl)))) (Ent.mk2 (.of (aD 1 rfl)) (Ent.mk2 (.of (aD 0 rfl)) (.of (aD 2 rfl))))).quiet3 (aD 0 rfl) (aD 1 rfl) (aD 2 rfl) hst)) (aA rfl (aNn (aSR ?_))))))))))))))
 refine LT rfl (bI (zs := [.int .i64 0]) (by kernel_rfl) rfl (fun b4_0 => (aHN ?_)))
 refine aT rfl (bg 2 tk3 rfl rfl rfl rfl (aHK ?_))
 refine aNn (aSR (UO 2 rfl rfl (UD 2 tk31 0 rfl rfl rfl rfl (aU rfl (cq (l := [.tmp 6, .tmp 1]) rfl) (LF rfl (EC [0, 1, 2] [2] rfl (Con.clH (((tg im.info.ends 116 [.pointer (some ⟨b4_0, 0, none⟩), .pointer (some ⟨b0_0, 0, none⟩)] (At b0_0 0 im.row) (fun e => Box b4_0 3 [.int .i64 e]) (acA im) 0 (by kernel_rfl) (fun s i x _ => yP im b0_0 b4_0 s i x)).pre2 (cA.f_ends (ax.f_info (.of (aD 0 rfl)))) (.of (aD 1 rfl)))) (fun _ _ _ h => h.2.1)) ?_))))))
 rintro _ _ _ ⟨rfl, rfl, rfl⟩
 refine aST ?_
 refine aA rfl (aNn (aSR (UD 0 tk39 1 rfl rfl rfl rfl (UO 3 rfl rfl (UD 3 tk32 0 rfl rfl rfl rfl (aU rfl (Q1 rfl ((oP im im.info.inlines).pre1 (ps := [im.ok]) (cA.f_inlines (ax.f_info (.of (aD 0 rfl))))) 2 rfl) (aM rfl (GO 3 rfl rfl rfl (aG rfl rfl (fun hc => bj (o := 3) tk32 (ae rfl hc) (.of (aD 0 rfl)) rfl) ?_)))))))))
 refine aG rfl rfl (fun hc => Q1 (aJ (ae rfl hc) (aJ (ae rfl rfl) rfl)) (((oB im.info.inlines 120 [] im.ok (fun _ x => inB x) (by kernel_rfl) (fun i x _ => (zZ i x).pre (fun _ h => by cases h))).post (fun _ _ _ h => h.2.2)).pre2 (ps := [im.ok]) (cA.f_inlines (ax.f_info (.of (aD 0 rfl)))) (.of (aD 0 rfl))) 2 rfl) ?_
 refine aU rfl (bp rfl rfl (fun h => gt rfl h)) (aA rfl (aNn (aSR (UD 0 tk39 1 rfl rfl rfl rfl (UO 4 rfl rfl (UD 4 tk33 0 rfl rfl rfl rfl (aU rfl (Q1 rfl ((sM im im.info.vars).pre1 (ps := [im.ok]) (cA.f_vars (ax.f_info (.of (aD 0 rfl))))) 2 rfl) (aM rfl (GO 4 rfl rfl rfl (aG rfl rfl (fun hc => bj (o := 4) tk33 (ae rfl hc) (.of (aD 0 rfl)) rfl) (aG rfl rfl (fun hc => cq (l := [.tmp 1]) rfl) (aG rfl rfl (fun hc => QC (aJ (ae rfl hc) (aJ (ae rfl hc) rfl)) (fun w S fp hst => (((tm im.info.vars 124 [.pointer (some ⟨b0_0, 0, none⟩)] (At b0_0 0 im.row) (fun _ x => vaB im x) (by kernel_rfl) (fun i x _ => y4 im hS b0_0 i x)).post (fun _ _ _ h => h.2.2)).pre2 (ps := [At b0_0 0 im.row, im.ok]) (cA.f_vars (ax.f_info (.of (aD 1 rfl)))) (.of (aD 0 rfl))).quiet2 (aD 1 rfl) (aD 2 rfl) hst)) ?_))))))))))))
 refine aU rfl (bp rfl rfl (fun h => gt rfl h)) (aA rfl (aNn (aSR (UD 0 tk39 1 rfl rfl rfl rfl (UO 5 rfl rfl (UD 5 tk34 0 rfl rfl rfl rfl (aU rfl (Q1 rfl ((qS im im.info.depths).pre1 (ps := [im.ok]) (cA.f_depths (ax.f_info (.of (aD 0 rfl))))) 2 rfl) (aM rfl (GO 5 rfl rfl rfl (aG rfl rfl (fun hc => bj (o := 5) tk34 (ae rfl hc) (.of (aD 0 rfl)) rfl) ?_))))))))))
 refine aG rfl rfl (fun hc => Q1 (aJ (ae rfl hc) (aJ (ae rfl rfl) rfl)) (((qg im.info.depths 128 [] im.ok (fun _ x => deB x) (by kernel_rfl) (fun i x _ => (zJ i x).pre (fun _ h => by cases h))).post (fun _ _ _ h => h.2.2)).pre2 (ps := [im.ok]) (cA.f_depths (ax.f_info (.of (aD 0 rfl)))) (.of (aD 0 rfl))) 2 rfl) ?_
 refine aU rfl (bp rfl rfl (fun h => gt rfl h)) (aA rfl (aNn (aSR (aM rfl (aM rfl (aG rfl rfl (fun hc => aP rfl) (aU rfl (bp rfl rfl (fun h => gt rfl h)) (aM rfl (aG rfl rfl (fun hc => aP rfl) (aU rfl (bp rfl rfl (fun h => gt rfl h)) (aM rfl (aG rfl rfl (fun hc => aP rfl) (aU rfl (bp rfl rfl (fun h => gt rfl h)) ?_)))))))))))))
 refine aM rfl (aG rfl rfl (fun hc => aP rfl) (aU rfl (bp rfl rfl (fun h => gt rfl h)) (aM rfl (aG rfl rfl (fun hc => aP rfl) (aU rfl (bp rfl rfl (fun h => gt rfl h)) (aA rfl (aNn (az (FZ1 [] Tryz.results47 rfl ?_)))))))))
 rfl
theorem sX {im : ax} (h : gQ im = true) : im.imports.l.length ≤ 4096 ∧ im.slots.l.length = im.imports.l.length := by
 unfold gQ at h
 split at h
 · cases h
 · rename_i hh
   rw [Bool.not_eq_true] at hh
   unfold uZ at hh
   simp only [Bool.or_eq_false_iff, Bool.not_eq_false', decide_eq_false_iff_not, decide_eq_true_eq] at hh
   omega
def gT (im : ax) : Bool := ((((((((lW im && iM im) && qq im) && gQ im) && lG im) && sO im) && ns im true) && abB im) && qt im)
theorem kf (im : ax) (hi : I64 im.code ∧ I64 im.data ∧ I64 im.zero) : Con Tryz.prog 13 [im.val] [im.ok] [] (YN Value.bool fun b => (b = true → VOk im.versions.l ∧ gT im = true) ∧ (iR im.versions.l → gT im = true → b = true)) := by
 refine EN1 Tryz.func13 rfl (fl (ax.f_name (.of (aD 0 rfl))) (fun hsn => (aSR (LT rfl (cx rfl rfl rfl (fun b0_0 => (aHN ?_)))))))
 refine aA rfl (aNs (bR 0 rfl rfl ?_))
 show awp _ _ _ _ ⟨_, At _ 0 _ :: _, _⟩
 refine aa (UD 0 tk39 0 rfl rfl rfl rfl (aU rfl (Q0 rfl (yS im hsn hi)) (aM rfl (aG rfl rfl (fun hc => bj (o := 0) tk39 rfl (.of (aD 0 rfl)) rfl) ?_))))
 refine aG rfl rfl (fun hc => Q1 (aJ (ae rfl hc) rfl) (za im (fM.1 (by simpa using hc))) 1 rfl) ?_
 refine aU rfl (bp rfl rfl (fun h => gt rfl h)) (aM rfl (aG rfl rfl (fun hc => bj (o := 0) tk39 rfl (.of (aD 0 rfl)) rfl) (aG rfl rfl (fun hc => Q1 (aJ (ae rfl hc) rfl) (uJ im) 1 rfl) (aU rfl (bp rfl rfl (fun h => gt rfl h)) (aM rfl (aG rfl rfl (fun hc => bj (o := 0) tk39 rfl (.of (aD 0 rfl)) rfl) ?_))))))
 refine aG rfl rfl (fun hc => Q1 (aJ (ae rfl hc) rfl) (uO im (fM.1 (by simp at hc; exact hc.1.1))) 1 rfl) ?_
 refine aU rfl (bp rfl rfl (fun h => gt rfl h)) (aM rfl (aG rfl rfl (fun hc => bj (o := 0) tk39 rfl (.of (aD 0 rfl)) rfl) ?_))
 refine aG rfl rfl (fun hc => Q1 (aJ (ae rfl hc) rfl) (aaO im (fM.1 (by simp at hc; exact hc.1.1.1)) (sX (by simp at hc; exact hc.2)).2) 1 rfl) ?_
 refine aU rfl (bp rfl rfl (fun h => gt rfl h)) (aM rfl (aG rfl rfl (fun hc => bj (o := 0) tk39 rfl (.of (aD 0 rfl)) rfl) ?_))
 refine aG rfl rfl (fun hc => Q1 (aJ (ae rfl hc) rfl) (vM im (fM.1 (by simp at hc; exact hc.1.1.1.1))) 1 rfl) ?_
 refine aU rfl (bp rfl rfl (fun h => gt rfl h)) (aM rfl (aG rfl rfl (fun hc => bj (o := 0) tk39 rfl (.of (aD 0 rfl)) rfl) ?_))
 refine eT (caps := []) [0] (false) (by kernel_rfl) _ rfl rfl (fun _ => rfl) (fun hc => (aJ (ae rfl hc) rfl)) (fun hc => by rw [List.append_nil]; exact y9 im) (fun v8 hv8 => ?_)
 refine aU rfl (bp rfl rfl (fun h => gt rfl h)) (aM rfl (aG rfl rfl (fun hc => bj (o := 0) tk39 rfl (.of (aD 0 rfl)) rfl) ?_))
 refine aG rfl rfl (fun hc => Q1 (aJ (ae rfl hc) rfl) (abd im (fM.1 (by simp at hc; exact hc.1.1.1.1.1.1))) 1 rfl) ?_
 refine aU rfl (bp rfl rfl (fun h => gt rfl h)) (aM rfl (aG rfl rfl (fun hc => bj (o := 0) tk39 rfl (.of (aD 0 rfl)) rfl) ?_))
 refine aG rfl rfl (fun hc => Q1 (aJ (ae rfl hc) rfl) (uh im (fM.1 (by simp at hc; exact hc.1.1.1.1.1.1.1))) 1 rfl) ?_
 refine aU rfl (bp rfl rfl (fun h => gt rfl h)) (aA rfl (aNn (az (FZ1 [] Tryz.results13 rfl ?_))))
 refine ⟨⟨rfl, rfl⟩, _, rfl, fun h => ?_, fun hs h => ?_⟩
 · simp only [Bool.and_eq_true] at h
   have h8 := (hv8 (by simp; exact h.1.1.1)).1 h.1.1.2
   refine ⟨h8.1, ?_⟩
   unfold gT; simp only [Bool.and_eq_true]
   exact ⟨⟨⟨h.1.1.1, h8.2⟩, h.1.2⟩, h.2⟩
 · unfold gT at h
   simp only [Bool.and_eq_true] at h ⊢
   exact ⟨⟨⟨h.1.1.1, (hv8 (by simp; exact h.1.1.1)).2 hs h.1.1.2⟩, h.1.2⟩, h.2⟩
def i7 (at_ : Int) (x : bk) : Bool := (gj x.kind && decide (x.at_ ≤ at_)) && decide (at_ < x.at_ + x.size)
def nodeAt (at_ : Int) : Nat → List bk → Int × Bool
 | _, [] => (0, false)
 | i, x :: l => if i7 at_ x = true then ((i : Int), true) else nodeAt at_ (i + 1) l
theorem yv (z : Int) {l : List bk} {k : Nat} {x : bk} (h : l[k]? = some x) : nodeAt z k (l.drop k) = if i7 z x = true then ((k : Int), true) else nodeAt z (k + 1) (l.drop (k + 1)) := by
 obtain ⟨h1, h2⟩ := List.getElem?_eq_some_iff.1 h
 rw [List.drop_eq_getElem_cons h1, h2]; rfl
def sT (l : List bk) : Prop := ∀ x ∈ l, (0 ≤ x.at_ ∧ x.at_ ≤ 1048576) ∧ (0 ≤ x.size ∧ x.size ≤ 1048576)
theorem jI (im : ax) (hf : sT im.nodes.l) (z : Int) : Con Tryz.prog 14 [im.val, .int .i64 z] [im.ok] [] fun r _ _ => r = .tuple #[.int .i64 (nodeAt z 0 im.nodes.l).1, .bool (nodeAt z 0 im.nodes.l).2] := by
 obtain ⟨w0, hw0⟩ : ∃ w0, nodeAt z 0 im.nodes.l = w0 := ⟨_, rfl⟩
 rw [hw0]
 refine EN2 Tryz.func14 rfl (bQ (ax.f_nodes (.of (aD 0 rfl))) (fun hlen => (aSR (LT rfl (cx rfl rfl rfl (fun b0_0 => (aHN ?_)))))))
 refine aA rfl (aA rfl (aNs (aj (bR 0 rfl rfl ?_))))
 show awp _ _ _ _ ⟨_, At _ 0 _ :: _, _⟩
 refine aa (UO 8 rfl rfl (UD 8 tk22 0 rfl rfl rfl rfl (aU rfl (aW Tryz.underlying22 rfl) (aM rfl (aNn (aq (aQ [1, 4, 5, 9, 10, 11] [1, 0] [] (fun (k : Nat) st => (k ≤ im.nodes.l.length ∧ nodeAt z k (im.nodes.l.drop k) = w0) ∧ st = ⟨[(1, true, .int .i64 z), (4, true, .int .i64 0), (5, true, .bool false), (9, true, im.nodes.val), (10, true, .int .i64 im.nodes.l.length), (11, true, .int .i64 k)], [At b0_0 0 im.row, im.ok], []⟩) (fun k => im.nodes.l.length - k) rfl (⟨0, ⟨Nat.zero_le _, hw0⟩, rfl⟩) ?_)))))))
 rintro k st ⟨⟨hk, hw⟩, rfl⟩
 refine aSR (aU rfl (bD rfl rfl) (aNs ?_))
 refine ao _ rfl (fun h1 => ?_) (fun h1 => ?_)
 ·skip
  have hk' : k < im.nodes.l.length := by simpa using h1
  obtain ⟨x, hx⟩ : ∃ x, im.nodes.l[k]? = some x := ⟨_, List.getElem?_eq_getElem hk'⟩
  rw [yv z hx] at hw
  have hxf := hf x (List.mem_of_getElem? hx)
  refine ar (an (aj (aq (aSR (aM rfl (iD true rfl rfl (fun _ => bF Tryz.underlying22 tk51 rfl ((ax.f_nodes (.of (aD 1 rfl)))) rfl (aI hx) rfl rfl) (fun h => absurd h (by decide)) (fun ⟨b3_1, o3_1⟩ => (US 0 tk51 0 rfl rfl rfl rfl rfl (LT rfl (bI (zs := [.string .empty, .string .empty, .int .i64 0, .int .i64 0, .int .i64 0, .string .empty, .string .empty]) (by kernel_rfl) rfl (fun b3_3 => (aHN ?_))))))))))))
  refine aA rfl (aT rfl (bg 0 tk51 rfl rfl rfl rfl (aHK ?_)))
  refine aNn (aSR (UO 2 rfl rfl (UL 0 tk3 rfl rfl rfl rfl (aU rfl (Q0 rfl (rC _)) (aM rfl (GO 3 rfl rfl rfl (GL 0 tk3 rfl rfl rfl rfl rfl (aG rfl rfl (fun hc => aP rfl) (aG rfl rfl (fun hc => eF (ae rfl hc) (ae rfl hc)) (aU rfl (bp rfl rfl (fun h => gt rfl h)) (aM rfl (aG rfl rfl (fun hc => aP rfl) (GO 3 rfl rfl rfl (GL 0 tk3 rfl rfl rfl rfl rfl (GO 4 rfl rfl rfl ?_)))))))))))))))
  refine GL 0 tk3 rfl rfl rfl rfl rfl ?_
  refine aG rfl rfl (fun hc => aX (ae rfl hc) (ae rfl hc) (by (first | omega | (simp at hc; omega)))) ?_
  refine aG rfl rfl (fun hc => bD (ae rfl hc) (ae rfl hc)) (aU rfl (bp rfl rfl (fun h => gt rfl h)) (aNn ?_))
  refine ao _ rfl (fun h2 => ?_) (fun h2 => ?_)
  ·skip
   have hb : i7 z x = true := h2
   rw [if_pos hb] at hw
   refine aSR (aM rfl (aA rfl (aA rfl (aNn (az (cM (bu (bu (cM (bu (FZ2 [] Tryz.results14 rfl rfl ?_)))))))))))
   rw [← hw]
  ·skip
   have hb : i7 z x = false := h2
   rw [if_neg (by rw [hb]; decide)] at hw
   refine ar (bA (an (aa (aU rfl (aX rfl rfl (by omega)) (aM rfl (aNn ?_))))))
   refine ⟨[1, 4, 5, 9, 10, 11], [1, 0], [], rfl, ?_⟩
   exact ⟨k + 1, ⟨⟨hk', hw⟩, rfl⟩, by omega⟩
 ·skip
  rw [List.drop_eq_nil_of_le (by simp at h1; omega)] at hw
  refine aR (aS (aS (aZ (an (aSR (aA rfl (aA rfl (aNn (az (FZ2 [] Tryz.results14 rfl rfl ?_))))))))))
  rw [← hw]; rfl
end Go.Proofs.YtahgkiicjohonaaGreat

namespace Go.Sy
open Go.RowKit Go.Lp
def adz : Res := ⟨fun _ _ _ => True, fun _ _ _ _ => trivial⟩
section
variable {P : Program} {n : Fr} {env : Env} {ps : List Per} {hp : List Res} {d : Option Tmp} {ty : TypeId} {pos : String} {af : Array Edge} {gd : Option (Nat × Bool)}
theorem nh {w : World} {b : Nat} {T : TypeId} {cs : List Value} (h : w.heap[b]? = some (.cells cs.toArray T (0, 0))) : w.shape? b = some (T, cs.length) := by
 unfold World.shape?; rw [h]; simp
theorem aau {src dst t T : TypeId} {x : Operand} {b : Nat} {cs : List Value} (i : Nat) (hs : P.underlying src = some (.pointer t)) (hd : P.underlying dst = some .unsafePointer) (ht : ((P.info? t).map fun j => decide (j.size ≠ 0)) = some true) (hx : ev env x = some (true, .pointer (some ⟨b, 0, none⟩))) (hi : hp[i]? = some (Box b T cs)) (h0 : 0 < cs.length) :
   Quiet P n ⟨d, .convert src dst x, ty, pos, af, gd⟩ ⟨env, ps, hp⟩ (.pointer (some ⟨b, 0, none⟩)) := fun w S fp a hst he hn => by
 have h1 := he.val hx rfl
 obtain ⟨hb, _⟩ := hst.res i _ hi
 obtain ⟨j, hj, hjs⟩ := Option.map_eq_some_iff.1 ht
 have hrun := Lib.run_to_unsafe (P := P) w ⟨b, 0, none⟩ hs hd hj (by simpa using hjs) (nh hb) h0
 have : (execOp a.eval ⟨d, .convert src dst x, ty, pos, af, gd⟩).run P w = .ok (.value (.pointer (some ⟨b, 0, none⟩))) w := by
   unfold execOp; dsimp only; rw [h1]
   show ((convert src dst (.pointer (some ⟨b, 0, none⟩))).bind fun r => Sem.pure (Next.value r)).run P w = _
   rw [Sem.run_bind', hrun]; rfl
 rw [this]; exact cg _ _
theorem uQ {src dst u T : TypeId} {x : Operand} {b : Nat} {cs : List Value} (i m : Nat) (hs : P.underlying src = some .unsafePointer) (hd : P.underlying dst = some (.pointer u)) (hu : (P.info? u).isSome = true) (hx : ev env x = some (true, .pointer (some ⟨b, 0, none⟩))) (hi : hp[i]? = some (Box b T cs)) (hm : cs.length = m) (hlies : liesAt P P.depth T (m / P.cellsOf T) 0 u 1 = true) :
   Quiet P n ⟨d, .convert src dst x, ty, pos, af, gd⟩ ⟨env, ps, hp⟩ (.pointer (some ⟨b, 0, none⟩)) := fun w S fp a hst he hn => by
 have h1 := he.val hx rfl
 obtain ⟨hb, _⟩ := hst.res i _ hi
 obtain ⟨j, hj⟩ := Option.isSome_iff_exists.1 hu
 have hsh := nh hb
 rw [hm] at hsh
 have hrun := Lib.run_from_unsafe (P := P) w ⟨b, 0, none⟩ hs hd hj hsh hlies
 have : (execOp a.eval ⟨d, .convert src dst x, ty, pos, af, gd⟩).run P w = .ok (.value (.pointer (some ⟨b, 0, none⟩))) w := by
   unfold execOp; dsimp only; rw [h1]
   show ((convert src dst (.pointer (some ⟨b, 0, none⟩))).bind fun r => Sem.pure (Next.value r)).run P w = _
   rw [Sem.run_bind', hrun]; rfl
 rw [this]; exact cg _ _
theorem kG {x : Operand} {t t' : TypeId} (hT : (match P.underlying t with | some (.pointer _) => true | _ => false) = true) (hx : ev env x = some (true, .pointer none)) : Quiet P n ⟨d, .binOp .eql t x (.const (.pointer none)) t', ty, pos, af, gd⟩ ⟨env, ps, hp⟩ (.bool true) := .run2 hx (y := .const (.pointer none)) (vy := .pointer none) rfl fun ρ w h1 h2 => by
 have hu : ∃ e, P.underlying t = some (.pointer e) := by
   cases h : P.underlying t with
   | none => rw [h] at hT; cases hT
   | some dd => rw [h] at hT; cases dd <;> first | exact ⟨_, rfl⟩ | cases hT
 obtain ⟨e, hu⟩ := hu
 unfold execOp; dsimp only; rw [h1, h2]
 have e1 : (do eqGuard BinOp.eql t x (.const (.pointer none)) (Value.pointer none) (Value.pointer none); binOp BinOp.eql t (Value.pointer none) (Value.pointer none)) = binOp BinOp.eql t (Value.pointer none) (Value.pointer none) := rfl
 have e2 : (binOp BinOp.eql t (Value.pointer none) (Value.pointer none)).run P w = .ok (.bool true) w := by
   have := run_eql_pointer_nil (P := P) (w := w) t none (by rw [hu]; unfold Program.pointee; rw [hu])
   exact this
 show ((do eqGuard BinOp.eql t x (.const (.pointer none)) (Value.pointer none) (Value.pointer none); binOp BinOp.eql t (Value.pointer none) (Value.pointer none)).bind fun r => Sem.pure (Next.value r)).run P w = _
 rw [e1, Sem.run_bind', e2]; rfl
theorem r6 {x y : Operand} {t t' te : TypeId} {a0 : Addr} (hu : P.underlying t = some (.pointer te)) (hte : (P.info? te).isSome = true) (hx : ev env x = some (true, .pointer (some a0))) (hy : ev env y = some (true, .pointer (some a0))) : Quiet P n ⟨d, .binOp .neq t x y t', ty, pos, af, gd⟩ ⟨env, ps, hp⟩ (.bool false) := .run2 hx hy fun ρ w h1 h2 => by
 obtain ⟨j, hj⟩ := Option.isSome_iff_exists.1 hte
 unfold execOp; dsimp only; rw [h1, h2]
 have e1 : ∀ x y : Operand, (do eqGuard BinOp.neq t x y (Value.pointer (some a0)) (Value.pointer (some a0)); binOp BinOp.neq t (Value.pointer (some a0)) (Value.pointer (some a0))) = binOp BinOp.neq t (Value.pointer (some a0)) (Value.pointer (some a0)) := fun _ _ => rfl
 have e2 := Lib.run_neq_ptr_same (P := P) w a0 hu hj
 show ((do eqGuard BinOp.neq t x y (Value.pointer (some a0)) (Value.pointer (some a0)); binOp BinOp.neq t (Value.pointer (some a0)) (Value.pointer (some a0))).bind fun r => Sem.pure (Next.value r)).run P w = _
 rw [e1, Sem.run_bind', e2]; rfl
theorem om {x : Operand} {T : TypeId} {a0 : Addr} {m c : Nat} (hc : c ≠ 0) (hx : ev env x = some (true, .slice (some a0) m c)) : Quiet P n ⟨d, .call ⟨.builtin .unsafeSliceData, #[x], #[T]⟩, ty, pos, af, gd⟩ ⟨env, ps, hp⟩ (.pointer (some a0)) := .run1 hx fun ρ w h => by
 have hr := Lib.run_unsafeSliceData_row (P := P) w #[T] ty a0 m c hc
 have hexec : execOp ρ ⟨d, .call ⟨.builtin .unsafeSliceData, #[x], #[T]⟩, ty, pos, af, gd⟩ = (Builtin.unsafeSliceData_ #[T] ty (#[x].map ρ)).bind fun r => Sem.pure (Next.value r) := rfl
 rw [hexec, show #[x].map ρ = #[ρ x] by simp, h, Sem.run_bind', hr]; rfl
abbrev cX : UInt8 → List D := fun u => [.v (.int .u8 u.toNat)]
theorem pn {t : Nat} {x y : Operand} {pt it E : TypeId} {g cp : Nat} {l : List UInt8} {K : Sta → Prop} (i : Nat) (hp1 : P.underlying pt = some (.pointer E)) (hc : P.cellsOf E = 1) (h0 : l ≠ []) (hx : ev env x = some (true, .pointer (some ⟨g, 0, none⟩))) (hy : ev env y = some (true, .int .i64 l.length))
   (hi : hp[i]? = some (aN (.slice (some ⟨g, 0, none⟩) l.length cp) E 1 (l.map cX))) (ht : fits n.size (some t) = true) (hK : K ⟨(t, true, .string ⟨l.toArray⟩) :: env, ps, hp.set i adz⟩) :
   Eff P n ⟨some t, .call ⟨.builtin .unsafeString, #[x, y], #[pt, it]⟩, ty, pos, af, gd⟩ ⟨env, ps, hp⟩ false K := .change i hi fun w S fp a hst he hn hR => by
 have h1 := he.val hx rfl
 have h2 := he.val hy rfl
 rcases hR with ⟨h, _⟩ | ⟨b, cap, hv, ⟨cs, sp, hb, hrows, hcap, hrc, hcm⟩, hF⟩
 · cases h
 · simp only [Value.slice.injEq, Option.some.injEq, Addr.mk.injEq] at hv
   obtain ⟨⟨rfl, _⟩, _, rfl⟩ := hv
   have hlen : cs.length = l.length := by rw [hrows.len, List.length_map, Nat.mul_one]
   rw [List.length_map] at hrc
   have hsh := nh hb
   have hcell : ∀ j u, l[j]? = some u → w.cell? ((⟨g, 0, none⟩ : Addr).add j) = some (.int .u8 u.toNat) := fun j u hj => by
     obtain ⟨v, hv, hrep⟩ := hrows.rep j 0 (cX u) (.v (.int .u8 u.toNat)) (by rw [List.getElem?_map, hj]; rfl) rfl
     rw [Nat.mul_one, Nat.add_zero] at hv
     rw [jY hrep] at hv
     have hjl := (List.getElem?_eq_some_iff.1 hv).1
     have : (⟨g, 0, none⟩ : Addr).add j = ⟨g, j, none⟩ := by
       unfold Addr.add
       by_cases h : j = 0
       · subst h; simp
       · simp [h]
     rw [this, dQ hb, List.getElem?_append_left hjl]; exact hv
   have hcl : l.length ≤ (cs ++ sp).length := by rw [List.length_append]; omega
   have hr := Lib.run_unsafeString_row (P := P) w pt it ty E hp1 hc g (cs ++ sp).length hsh l h0 hcl (by unfold maxLen at hcm; omega) hcell
   have hexec : execOp a.eval ⟨some t, .call ⟨.builtin .unsafeString, #[x, y], #[pt, it]⟩, ty, pos, af, gd⟩ = (Builtin.unsafeString_ #[pt, it] ty (#[x, y].map a.eval)).bind fun r => Sem.pure (Next.value r) := rfl
   rw [hexec, show #[x, y].map a.eval = #[a.eval x, a.eval y] by simp, h1, h2, Sem.run_bind', hr]
   have hl0 : l.length ≠ 0 := fun h => h0 (List.eq_nil_of_length_eq_zero h)
   obtain ⟨f, hfz⟩ : ∃ f : Obj → Obj, w.freeze ⟨g, 0, none⟩ l.length = { w with heap := w.heap.modify g f } := ⟨_, by unfold World.freeze; rw [if_neg hl0]⟩
   refine ⟨adz, ⟨(t, true, .string ⟨l.toArray⟩) :: env, ps, hp.set i adz⟩, hK, rfl, rfl, ?_, trivial, ?_, ?_, ?_, ?_, ?_⟩
   · exact he.put (g := true) (by rw [hn]; simpa [fits] using ht) _
   · rw [hfz]
   · rw [hfz]
   · rw [hfz]; exact ⟨rfl, rfl⟩
   · rw [hfz]; simp
   · intro b' hb' hne
     rw [hfz]
     simp only [Array.getElem?_modify]
     rw [if_neg (fun h => hne ((hF b').2 h.symm))]
end
theorem j9 {P : Program} {n : Fr} {s : Sta} {d : Option Tmp} {ty : TypeId} {pos : String} {af : Array Edge} {gd : Option (Nat × Bool)} {x y : Operand} {t t' : TypeId} {k : IntKind} {a b : Int} (hx : ev s.env x = some (true, .int k a)) (hy : ev s.env y = some (true, .int k b)) : Quiet P n ⟨d, .binOp .xor t x y t', ty, pos, af, gd⟩ s (.int k (bits .xor k a b)) := .run2 hx hy fun ρ w h1 h2 => by unfold execOp; dsimp only; rw [h1, h2]; cases k <;> rfl
end Go.Sy
namespace Go.Proofs.YtahgkiicjohonaaGreat
open Go.RowKit Go.Lp Go.Sy
end Go.Proofs.YtahgkiicjohonaaGreat

namespace Go.Sy
open Go.RowKit Go.Lp Go.Proofs.YtahgkiicjohonaaGreat
section
variable {P : Program} {n : Fr} {env : Env} {ps : List Per} {hp : List Res} {d : Option Tmp} {ty : TypeId} {pos : String} {af : Array Edge} {gd : Option (Nat × Bool)} {v : Value}
theorem zS (bs : List UInt8) : ∀ (r : ByteArray), (bs.map fun b => (b.toNat : Int)).foldl (fun r n => r.push (UInt8.ofNat n.toNat)) r = ⟨r.data ++ bs.toArray⟩ := by
 induction bs with
 | nil => intro r; simp
 | cons b bs ih =>
   intro r
   rw [List.map_cons, List.foldl_cons, ih]
   simp [ByteArray.push]
theorem jP {x : Operand} {T E T2 : TypeId} {m c : Nat} {ad : Option Addr} {rows : List (List D)} (i : Nat) (bs : List UInt8) (hT : P.underlying T = some (.slice E)) (hE : P.underlying E = some (.int .u8)) (hD : P.underlying T2 = some .string) (hx : ev env x = some (true, .slice ad m c))
   (hi : hp[i]? = some (aN (.slice ad m c) E 1 rows)) (hr : rows = bs.map fun b => [.v (.int .u8 b.toNat)]) (h0 : bs ≠ []) :
   Quiet P n ⟨d, .convert T T2 x, ty, pos, af, gd⟩ ⟨env, ps, hp⟩ (.string (ofBytes bs)) := fun w S fp a hst he hn => by
 have h1 := he.val hx rfl
 subst hr
 rcases hst.res i _ hi with ⟨_, h, _⟩ | ⟨b, cap, hv, ⟨cs, sp, hb, hrows, hcap, _, _⟩, _⟩
 · simp at h; exact absurd h h0
 · injection hv with hv1 hv2 hv3
   subst hv1; subst hv2; subst hv3
   have hl : cs.length = bs.length := by have := hrows.len; simpa using this
   have hcs : cs = bs.map fun b => (.int .u8 b.toNat : Value) := by
     apply List.ext_getElem?
     intro k
     cases hk : bs[k]? with
     | none => rw [List.getElem?_eq_none (by have := List.getElem?_eq_none_iff.1 hk; omega)]; simp [hk]
     | some u =>
       obtain ⟨y, hy, hrep⟩ := hrows.rep k 0 [.v (.int .u8 u.toNat)] (.v (.int .u8 u.toNat)) (by simp [hk]) rfl
       rw [Nat.mul_one, Nat.add_zero] at hy
       rw [hy, jY hrep]; simp [hk]
   have hload : (loadCells ⟨b, 0, none⟩ bs.length).run P w = .ok ((bs.map fun b => (b.toNat : Int)).map (Value.int .u8)).toArray w := by
     rw [run_loadCells w ⟨b, 0, none⟩ bs.length (fun k => cs.getD k undef) (fun k hk => by
       have : (Addr.mk b 0 none).add k = ⟨b, k, none⟩ := by
         unfold Addr.add; split
         · rename_i h; rw [h]
         · simp
       rw [this, dQ hb, List.getElem?_append_left (by omega)]
       simp [List.getD, show k < cs.length by omega])]
     congr 2
     rw [hcs, List.map_map]
     apply List.ext_getElem
     · simp
     · intro k h1 h2
       simp at h1 h2 ⊢
       simp [List.getD, h2]
   have : (convert T T2 (.slice (some ⟨b, 0, none⟩) (bs.map fun b => [D.v (.int .u8 b.toNat)]).length c)).run P w = .ok (.string (ofBytes bs)) w := by
     rw [List.length_map, run_convert_bytes_string w T T2 E _ _ _ hT hE hD, run_bytesToString w ⟨b, 0, none⟩ bs.length c (bs.map fun b => (b.toNat : Int)) hload]
     congr 2
     rw [zS]; simp [ofBytes]
   have hx2 : (execOp a.eval ⟨d, .convert T T2 x, ty, pos, af, gd⟩).run P w = .ok (.value (.string (ofBytes bs))) w := by
     unfold execOp; dsimp only; rw [h1]
     show ((convert T T2 _).bind fun r => Sem.pure (Next.value r)).run P w = _
     rw [Sem.run_bind', this]; rfl
   rw [hx2]; exact cg _ _
end
end Go.Sy
namespace Go.Proofs.YtahgkiicjohonaaGreat
open Go.RowKit Go.Lp Go.Sy
end Go.Proofs.YtahgkiicjohonaaGreat

namespace Go.Sy
open Go.RowKit Go.Lp
section
variable {P : Program} {n : Fr} {s : Sta} {d : Option Tmp} {ty : TypeId} {pos : String} {af : Array Edge} {gd : Option (Nat × Bool)}
theorem xu {x y : Operand} {T : TypeId} {kk : IntKind} {z : Int} {b : ByteArray} (hT : P.underlying T = some .string) (hx : ev s.env x = some (true, .string b)) (hy : ev s.env y = some (true, .int kk z)) (h0 : 0 ≤ z) (h1 : z ≤ b.size) :
   Quiet P n ⟨d, .slice T x (some y) none none, ty, pos, af, gd⟩ s (.string (b.extract z.toNat b.size)) := .run2 hx hy fun ρ w e1 e2 => by
 unfold execOp; dsimp only; simp only [Option.map_some, Option.map_none]; rw [e1, e2]
 show ((Instr.sliceAt T (.string b) (some (.int kk z)) none none).bind fun r => Sem.pure (Next.value r)).run P w = _
 have : (Instr.sliceAt T (.string b) (some (.int kk z)) none none).run P w = .ok (.string (b.extract z.toNat b.size)) w := by
   rw [run_sliceAt_string w T _ _ _ _ hT]
   exact run_slice_string_l w T b hT kk z h0 h1
 rw [Sem.run_bind', this]; rfl
end
end Go.Sy
namespace Go.Proofs.YtahgkiicjohonaaGreat
open Go.RowKit Go.Lp Go.Sy
theorem xQ (z : Int) : ∃ u : UInt8, IntKind.u8.wrap z = u.toNat := by
 have h : 0 ≤ IntKind.u8.wrap z ∧ IntKind.u8.wrap z < 256 := by
   have : IntKind.u8.wrap z = z % 256 := rfl
   rw [this]; omega
 obtain ⟨k, hk⟩ := Int.eq_ofNat_of_zero_le h.1
 refine ⟨UInt8.ofNat k, ?_⟩
 have h2 : (UInt8.ofNat k).toNat = k % 256 := by simp
 rw [hk, h2]
 omega
end Go.Proofs.YtahgkiicjohonaaGreat

namespace Go.Sy
open Go.RowKit Go.Lp Go.Proofs.YtahgkiicjohonaaGreat
end Go.Sy
namespace Go.Proofs.YtahgkiicjohonaaGreat
open Go.RowKit Go.Lp Go.Sy
theorem adi {m : Nat} (h : m < 18446744073709551616) : IntKind.u64.wrap ((m : Int).tdiv 128) = ((m / 128 : Nat) : Int) := by
 rw [show ((m : Int)).tdiv 128 = ((m / 128 : Nat) : Int) from rfl, IntKind.wrap_u64]; omega
end Go.Proofs.YtahgkiicjohonaaGreat

namespace Go.Sy
open Go.RowKit Go.Lp Go.Proofs.YtahgkiicjohonaaGreat
theorem adM {P : Program} {env : Env} {ps : List Per} {hp : List Res} {tx : TypeId} {l : List UInt8} (hk : P.underlying tx = some .string) : lS P ⟨env, ps, hp⟩ tx 1 (.string (Go.Lv.bytesOf l)) (l.map cX) := ⟨fun w S fp hst => by
 refine ⟨l.map fun u => .int .u8 u.toNat, ⟨by simp, fun i r h => ?_, fun v hv => ?_, fun i j r d h1 h2 => ?_⟩, ?_⟩
 · rw [List.getElem?_map] at h
   obtain ⟨u, _, rfl⟩ := Option.map_eq_some_iff.1 h
   rfl
 · obtain ⟨u, _, rfl⟩ := List.mem_map.1 hv
   rfl
 · rw [List.getElem?_map] at h1
   obtain ⟨u, hu, rfl⟩ := Option.map_eq_some_iff.1 h1
   have hj : j = 0 := by
     have := (List.getElem?_eq_some_iff.1 h2).1; simpa using this
   subst hj
   simp only [List.getElem?_cons_zero, Option.some.injEq] at h2
   subst h2
   exact ⟨_, by rw [List.getElem?_map, Nat.mul_one, Nat.add_zero, hu]; rfl, .v _⟩
 · have := Src.ofString (P := P) (w := w) hk (Go.Lv.bytesOf l)
   rw [List.length_map]
   have e : byteCells (Go.Lv.bytesOf l) = l.map fun u => .int .u8 u.toNat := rfl
   rw [← e]; exact this⟩
end Go.Sy
namespace Go.Proofs.YtahgkiicjohonaaGreat
open Go.RowKit Go.Lp Go.Sy Go.Lv
open Go.Proofs.Tryz
attribute [local irreducible] aL aB awp aC fwp Quiet
theorem vE (p : Value) (w : World) : (Extern.AbiNoEscape.same #[p]).run Tryz.prog w = .ok p w := rfl
abbrev bO (b : Nat) (p v x : Value) : Res := Box b 72 [p, v, x]
theorem vW (b : Nat) (v x : Value) : Con Tryz.prog 183 [.pointer (some ⟨b, 0, none⟩)] [] [bO b (.pointer none) v x] fun _ ps hp => ps = [] ∧ hp = [bO b (.pointer (some ⟨b, 0, none⟩)) v x] := by
 refine EN1 Tryz.func183 rfl (aSR (aM rfl (UN rfl rfl (UO 0 rfl rfl (UL 0 tk66 rfl rfl rfl rfl (aU rfl (kG (by kernel_rfl) rfl) (aNn ?_)))))))
 refine ao _ rfl (fun h1 => ?_) (fun h1 => ?_)
 ·skip
  refine aa (aM rfl (aM rfl ?_))
  refine aU rfl (aau (t := 69) 0 (by kernel_rfl) (by kernel_rfl) (by kernel_rfl) rfl rfl (by simp)) ?_
  refine aU rfl (adm (vs := _) Tryz.func201 rfl rfl (by kernel_rfl) (by kernel_rfl) rfl (fun w => vE _ w)) (aU rfl (uQ (u := 69) 0 3 (by kernel_rfl) (by kernel_rfl) (by kernel_rfl) rfl rfl rfl (by kernel_rfl)) (UN rfl rfl (UO 0 rfl rfl (aT rfl (bg 0 tk66 rfl rfl rfl rfl (aHK ?_))))))
  refine bS (FZ0 [0] Tryz.results183 ?_)
  exact ⟨rfl, rfl⟩
 ·skip
  exact absurd h1 (by decide)
theorem xd (b : Nat) (v x : Value) : Con Tryz.prog 183 [.pointer (some ⟨b, 0, none⟩)] [] [bO b (.pointer (some ⟨b, 0, none⟩)) v x] fun _ ps hp => ps = [] ∧ hp = [bO b (.pointer (some ⟨b, 0, none⟩)) v x] := by
 refine EN1 Tryz.func183 rfl (aSR (aM rfl (UN rfl rfl (UO 0 rfl rfl (UL 0 tk66 rfl rfl rfl rfl (aU rfl (pT (by kernel_rfl) rfl) (aNn ?_)))))))
 refine ao _ rfl (fun h1 => ?_) (fun h1 => ?_)
 ·skip
  exact absurd h1 (by decide)
 ·skip
  refine aSR (aM rfl (UN rfl rfl (UO 0 rfl rfl (UL 0 tk66 rfl rfl rfl rfl (aM rfl (aU rfl (r6 (te := 69) (by kernel_rfl) (by kernel_rfl) rfl rfl) (aNn ?_)))))))
  refine ao _ rfl (fun h2 => ?_) (fun h2 => ?_)
  ·skip
   exact absurd h2 (by decide)
  ·skip
   refine ar (FZ0 [0] Tryz.results183 ?_)
   exact ⟨rfl, rfl⟩
theorem zg (b : Nat) (p : Value) (hp : p = .pointer none ∨ p = .pointer (some ⟨b, 0, none⟩)) (v x : Value) : Con Tryz.prog 183 [.pointer (some ⟨b, 0, none⟩)] [] [bO b p v x] fun _ ps hp => ps = [] ∧ hp = [bO b (.pointer (some ⟨b, 0, none⟩)) v x] := by
 rcases hp with rfl | rfl
 · exact vW b v x
 · exact xd b v x
theorem mY (b : Nat) (p : Value) (hp : p = .pointer none ∨ p = .pointer (some ⟨b, 0, none⟩)) (v x : Value) (l t : List UInt8) (ht : t ≠ []) (hl : l.length + t.length ≤ 1000000000) : Con Tryz.prog 136 [.pointer (some ⟨b, 0, none⟩), .string (bytesOf t)] [] [bO b p v x, aN v 5 1 (l.map cX)]
   fun _ ps hp => ps = [] ∧ ∃ (ad : Option Addr) (c : Nat), hp = [bO b (.pointer (some ⟨b, 0, none⟩)) (.slice ad (l ++ t).length c) x, aN (.slice ad (l ++ t).length c) 5 1 ((l ++ t).map cX)] := by
 refine EN2 Tryz.func136 rfl ?_
 have ht' : t.map cX ≠ [] := by simpa using ht
 refine aSR (aA rfl (aA rfl (aNn (aSR (aM rfl (LF rfl (EC [] [0] rfl (zg b p hp v x) ?_)))))))
 rintro _ _ _ ⟨rfl, rfl⟩
 refine aST ?_
 refine aNn (aSR (aM rfl (aM rfl (UN rfl rfl (UO 1 rfl rfl (UL 0 tk67 rfl rfl rfl rfl (aM rfl ?_)))))))
 refine aT rfl (cT 1 el67 rfl rfl rfl rfl (adM Tryz.underlying9) (by first | assumption | simp) (by rw [List.length_map, List.length_map]; omega) ((l ++ t).length) (by rw [List.length_map, List.length_map, List.length_append]) (fun v2_6 c2_6 => ?_))
 refine aHK ?_
 refine UN rfl rfl (UO 1 rfl rfl (aT rfl (bg 0 tk67 rfl rfl rfl rfl (aHK ?_))))
 refine aNn (aSR (aM rfl (aU rfl (cj Tryz.underlying9 rfl) (aA rfl (aA rfl (aNn (az (FZ2 [0, 1] Tryz.results136 rfl rfl ?_))))))))
 exact ⟨rfl, v2_6, c2_6, by rw [List.map_append]; rfl⟩
theorem abH (b : Nat) (p : Value) (g cp : Nat) (hcp : cp ≠ 0) (x : Value) (l : List UInt8) (hl : l ≠ []) : Con Tryz.prog 23 [.pointer (some ⟨b, 0, none⟩)] [] [bO b p (.slice (some ⟨g, 0, none⟩) l.length cp) x, aN (.slice (some ⟨g, 0, none⟩) l.length cp) 5 1 (l.map cX)]
   fun r ps hp => ps = [] ∧ hp = [] ∧ r = .string (bytesOf l) := by
 refine EN1 Tryz.func23 rfl (aSR (aA rfl (aNs (DR [10] 12 (VM 0 rfl rfl (VN 1 rfl rfl rfl (VO 2 1 rfl rfl rfl (VL 3 0 tk67 rfl rfl rfl rfl rfl (bV 4 rfl rfl (om hcp rfl) (VM 5 rfl rfl (VN 6 rfl rfl rfl (VO 7 1 rfl rfl rfl (VL 8 0 tk67 rfl rfl rfl rfl rfl (bV 9 rfl rfl (aW Tryz.underlying67 rfl) ?_))))))))))))))
 refine VE 10 rfl rfl (pn 1 (by kernel_rfl) (by kernel_rfl) hl rfl rfl rfl rfl (bST rfl ?_))
 refine bV 11 rfl rfl (bw rfl) (BN (an (az (FZ1 [] Tryz.results23 rfl ?_))))
 exact ⟨rfl, rfl, rfl⟩
theorem xP (m0 : Nat) (h0 : m0 < 18446744073709551616) : Con Tryz.prog 189 [.slice none 0 0, .int .u64 m0] [] [] fun r ps hp => ps = [] ∧ ∃ (ad : Option Addr) (c : Nat), r = .slice ad (aO m0).length c ∧ hp = [aN (.slice ad (aO m0).length c) 5 1 ((aO m0).map cX)] := by
 refine EN2 Tryz.func189 rfl (aj (eH 5 1 ?_))
 show awp _ _ _ _ ⟨_, _, [_]⟩
 refine aa (aA rfl (aNs (aq (aQ [0, 1, 4] [] [0] (fun (q : Nat × (Value × List UInt8)) st => WrI m0 q.2.2 q.1 ∧ st = ⟨[(0, true, q.2.1), (1, true, .int .u64 q.1), (4, true, .slice none 0 0)], [], [aN q.2.1 5 1 (q.2.2.map cX)]⟩) (fun q => q.1) rfl (⟨(m0, (.slice none 0 0, [])), .start h0, rfl⟩) ?_))))
 rintro ⟨m, v, l⟩ st ⟨hI, rfl⟩
 dsimp only at hI ⊢
 have hll := hI.le
 refine aj (aSR (aM rfl (aU rfl (fk rfl rfl) (aNn ?_))))
 refine ao _ rfl (fun h1 => ?_) (fun h1 => ?_)
 ·skip
  have h128 : 128 ≤ m := by simp at h1; omega
  refine ar (an (aq (aSR (aM rfl (aM rfl (aU rfl (iF rfl rfl (by decide)) (aU rfl (dh (by kernel_rfl) Tryz.underlying5 rfl) (aU rfl (xD rfl rfl) (LT rfl (WL (zs := [.int .u8 0]) el67 rfl rfl rfl (.more rfl (.v rfl .nil) .nil) rfl rfl (fun v2_5 => (aHN ?_))))))))))))
  refine aT rfl (cT 0 el67 rfl rfl rfl rfl (ea 1 el67 rfl (by simp)) (by first | assumption | simp) (by rw [List.length_map]; exact Nat.le_trans (show l.length + 1 ≤ 10 by omega) (by decide)) ((l.length + 1)) (by rw [List.length_map]; rfl) (fun v2_6 c2_6 => ?_))
  refine aHK ?_
  refine aA rfl (aNn ?_)
  rw [adr m]
  refine aa (aM rfl (aU rfl (vh rfl rfl (by decide)) (aA rfl (bS (bA (an ?_))))))
  refine ⟨[0, 1, 4], [], [0], rfl, ?_⟩
  have hlt : m < 18446744073709551616 := Nat.lt_of_lt_of_le hI.lt (Nat.le_trans (Nat.mul_le_mul_left 2 (Nat.pow_le_pow_right (by decide) (show 9 - l.length ≤ 9 by omega))) (by decide))
  exact ⟨(m / 128, (_, l ++ [UInt8.ofNat (m % 128 + 128)])), ⟨hI.step h128, by dsimp only; rw [← adi hlt, List.map_append, List.map_singleton, cX, zu (show m % 128 + 128 < 256 by omega)]; rfl⟩, by dsimp only; omega⟩
 ·skip
  have h128 : m < 128 := by simp at h1; omega
  refine aR (aS (aS (aZ (an (aSR (aM rfl (aM rfl (aU rfl (dh (by kernel_rfl) Tryz.underlying5 rfl) (LT rfl (WL (zs := [.int .u8 0]) el67 rfl rfl rfl (.more rfl (.v rfl .nil) .nil) rfl rfl (fun v4_3 => (aHN ?_))))))))))))
  refine aT rfl (cT 0 el67 rfl rfl rfl rfl (ea 1 el67 rfl (by simp)) (by first | assumption | simp) (by rw [List.length_map]; exact Nat.le_trans (show l.length + 1 ≤ 10 by omega) (by decide)) ((aO m0).length) (by rw [← hI.last h128, List.length_map, List.length_append]; rfl) (fun v4_4 c4_4 => ?_))
  refine aHK ?_
  refine aA rfl (aNn (az (FZ1 [0] Tryz.results189 rfl ?_)))
  refine ⟨rfl, v4_4, c4_4, rfl, ?_⟩
  rw [← hI.last h128, List.map_append, List.map_singleton, cX, zu (show m < 256 by omega), xX h128]
  rfl
theorem vi (m : Nat) (hm : m ≤ 9223372036854775807) : Con Tryz.prog 148 [.int .i64 m] [] [] fun r ps hp => ps = [] ∧ hp = [] ∧ r = .string (bytesOf (aO m)) := by
 refine EN1 Tryz.func148 rfl (aSR (aA rfl (aNs (aSR (aM rfl (aU rfl (bD rfl rfl) (aNn ?_)))))))
 refine ao _ rfl (fun h1 => ?_) (fun h1 => ?_)
 ·skip
  exact absurd h1 (by simp)
 ·skip
  refine ar (an (aSR (aM rfl (aU rfl (dh (by kernel_rfl) Tryz.underlying222 rfl) ?_))))
  refine LT rfl (EC [] [] rfl ((by show Con _ _ [.slice none 0 0, .int .u64 (IntKind.u64.wrap (m : Int))] [] [] _; rw [Go.wraps_u64 (m : Int) (by omega) (by omega)]; exact xP m (by omega))) ?_)
  rintro _ _ _ ⟨rfl, ad, c, rfl, rfl⟩
  refine aST ?_
  refine aU rfl (jP 0 (aO m) Tryz.underlying67 Tryz.underlying5 Tryz.underlying9 rfl rfl rfl (oU m)) (aA rfl (aNn (az (FZ1 [] Tryz.results148 rfl ?_))))
  exact ⟨rfl, rfl, rfl⟩
theorem ab5 (z : Int) (hz : I64 z) : Con Tryz.prog 145 [.int .i64 z] [] [] fun r ps hp => ps = [] ∧ hp = [] ∧ r = .string (bytesOf (aO (zz z))) := by
 refine EN1 Tryz.func145 rfl (aSR (aA rfl (aNn (aSR (aM rfl (aU rfl (dh (by kernel_rfl) Tryz.underlying222 rfl) (aU rfl (xJ rfl rfl (by decide)) (aM rfl (aU rfl (abG rfl rfl (by decide)) (aU rfl (dh (by kernel_rfl) Tryz.underlying222 rfl) (aU rfl ((j9 rfl rfl).castV (congrArg (Value.int .u64) (adx hz))) (LT rfl (EC [] [] rfl (xP (zz z) (xR hz)) ?_)))))))))))))
 rintro _ _ _ ⟨rfl, ad, c, rfl, rfl⟩
 refine aST ?_
 refine aU rfl (jP 0 (aO (zz z)) Tryz.underlying67 Tryz.underlying5 Tryz.underlying9 rfl rfl rfl (oU _)) (aA rfl (aNn (az (FZ1 [] Tryz.results145 rfl ?_))))
 exact ⟨rfl, rfl, rfl⟩
theorem yq (s : ByteArray) (hs : s.size ≤ 4611686018427387904) : Con Tryz.prog 147 [.string s] [] [] fun r ps hp => ps = [] ∧ hp = [] ∧ r = .string (bytesOf (q3 s)) := by
 refine EN1 Tryz.func147 rfl (aSR (aA rfl (aNn (aSR (aM rfl (aU rfl (cj Tryz.underlying9 rfl) (LT rfl (EC [] [] rfl (vi s.size (by omega)) ?_))))))))
 rintro _ _ _ ⟨rfl, rfl, rfl⟩
 refine aST ?_
 refine aM rfl ?_
 refine aU rfl (kv rfl rfl (by have h : (aO s.size).length ≤ 10 := ey 10 s.size; show (aO s.size).length + s.size ≤ _; omega)) ?_
 refine aA rfl (aNn (az (FZ1 [] Tryz.results147 rfl ?_)))
 exact ⟨rfl, rfl, congrArg Value.string (eb (aO s.size) (gq s)).symm⟩
end Go.Proofs.YtahgkiicjohonaaGreat

