/- Parts of the proof, in build order. No condition. -/
import Derived.Test.YtahgkiicjohonaaGreatXa19
import Derived.Test.YtahgkiicjohonaaGreatXa14
import Derived.Test.YtahgkiicjohonaaGreatXa08
import Derived.Test.YtahgkiicjohonaaGreatXa05
import Derived.Test.YtahgkiicjohonaaGreatXa09
set_option linter.unusedSimpArgs false
set_option linter.unusedVariables false
set_option maxHeartbeats 1000000
set_option maxRecDepth 20000
namespace Go.Proofs.YtahgkiicjohonaaGreat
open Go.RowKit Go.Lp Go.Sy Go.Lv
open Go.Proofs.Tryz
attribute [local irreducible] aL aB awp aC fwp Quiet
def fY (v0 v1 v2 v3 v4 : Nat) : Code := (.seq (.seq (.region 0 #[⟨(.some 10), (.move (.tmp 0)), 105, "image.go:55", #[], none⟩, ⟨(.some 11), (.nilCheck (.tmp 10)), 0, "image.go:55", #[⟨0, Go.Ground.data⟩], none⟩, ⟨(.some 12), (.fieldAddr 72 (.tmp 11) 1), 0, "image.go:55", #[⟨1, Go.Ground.data⟩], none⟩, ⟨(.some 13), (.load 70 (.tmp 12)), 70, "image.go:55", #[⟨2, Go.Ground.data⟩], none⟩, ⟨(.some 14), (.binOp Go.BinOp.eql 70 (.tmp 13) (.const (Go.Value.pointer none)) 70), 4, "image.go:55", #[⟨3, Go.Ground.data⟩], none⟩] false) (.cond (.tmp 14) (.seq (.region 1 #[⟨(.some 15), (.move (.tmp 0)), 105, "image.go:56", #[], none⟩, ⟨(.some 16), (.nilCheck (.tmp 15)), 0, "image.go:56", #[⟨0, Go.Ground.data⟩], none⟩, ⟨(.some 17), (.fieldAddr 72 (.tmp 16) 0), 0, "image.go:56", #[⟨1, Go.Ground.data⟩], none⟩, ⟨(.some 18), (.move (.tmp 1)), v0, "image.go:56", #[], none⟩, ⟨(.some 19), (.nilCheck (.tmp 18)), 0, "image.go:56", #[⟨3, Go.Ground.data⟩], none⟩, ⟨(.some 20), (.load v1 (.tmp 19)), v1, "image.go:56", #[⟨4, Go.Ground.data⟩], none⟩, ⟨(.some 21), (.call ⟨(Go.Callee.builtin Go.Builtin.len), #[(.tmp 20)], #[v1]⟩), 3, "image.go:56", #[⟨5, Go.Ground.data⟩], none⟩, ⟨(.some 22), (.call ⟨(Go.Callee.value (.func 148)), #[(.tmp 21)], #[3]⟩), 9, "image.go:56", #[⟨6, Go.Ground.data⟩], none⟩, ⟨(.some 23), (.call ⟨(Go.Callee.value (.func 136)), #[(.tmp 17), (.tmp 22)], #[69, 9]⟩), 219, "image.go:56", #[⟨2, Go.Ground.data⟩, ⟨7, Go.Ground.data⟩, ⟨7, Go.Ground.chain⟩], none⟩] true) (.seq (.seq (.region 2 #[⟨(.some 24), (.move (.tmp 1)), v0, "image.go:57", #[], none⟩, ⟨(.some 25), (.nilCheck (.tmp 24)), 0, "image.go:57", #[⟨0, Go.Ground.data⟩], none⟩, ⟨(.some 26), (.load v1 (.tmp 25)), v1, "image.go:57", #[⟨1, Go.Ground.data⟩], none⟩, ⟨(.some 27), (.call ⟨(Go.Callee.builtin Go.Builtin.len), #[(.tmp 26)], #[v1]⟩), 3, "image.go:57", #[⟨2, Go.Ground.data⟩], none⟩, ⟨(.some 28), (.move (.const (Go.Value.int Go.IntKind.i64 0))), 3, "image.go:57", #[], none⟩] false) (.block 0 (.loop (.seq (.region 3 #[⟨(.some 29), (.binOp Go.BinOp.lss 3 (.tmp 28) (.tmp 27) 3), 0, "image.go:57", #[], none⟩] false) (.seq (.cond (.tmp 29) Go.Code.skip (.exit 0)) (.seq (.block 1 (.seq (.region 4 #[⟨(.some 30), (.move (.tmp 28)), 3, "image.go:57", #[], none⟩, ⟨(.some 6), (.assign (.tmp 30)), 3, "image.go:57", #[⟨0, Go.Ground.data⟩, ⟨0, Go.Ground.phase⟩], none⟩] false) (.seq (.region 5 #[⟨(.some 31), (.move (.tmp 1)), v0, "image.go:58", #[], none⟩, ⟨(.some 32), (.nilCheck (.tmp 31)), 0, "image.go:58", #[⟨0, Go.Ground.data⟩], none⟩, ⟨(.some 33), (.load v1 (.tmp 32)), v1, "image.go:58", #[⟨1, Go.Ground.data⟩], none⟩, ⟨(.some 34), (.move (.tmp 6)), 3, "image.go:58", #[], none⟩, ⟨(.some 35), (.indexAddr v1 (.tmp 33) (.tmp 34)), 0, "image.go:58", #[⟨2, Go.Ground.data⟩, ⟨3, Go.Ground.data⟩], none⟩, ⟨(.some 36), (.load v2 (.tmp 35)), v2, "image.go:58", #[⟨4, Go.Ground.data⟩], none⟩, ⟨(.some 7), (.alloc v2), 0, "image.go:58", #[], none⟩, ⟨none, (.store v2 (.tmp 7) (.tmp 36)), 0, "image.go:58", #[⟨6, Go.Ground.data⟩, ⟨5, Go.Ground.data⟩, ⟨0, Go.Ground.phase⟩, ⟨1, Go.Ground.phase⟩, ⟨2, Go.Ground.phase⟩, ⟨3, Go.Ground.phase⟩, ⟨4, Go.Ground.phase⟩, ⟨5, Go.Ground.phase⟩, ⟨6, Go.Ground.phase⟩], none⟩] false) (.region 6 #[⟨(.some 37), (.move (.tmp 2)), v3, "image.go:59", #[], none⟩, ⟨(.some 38), (.call ⟨(Go.Callee.value (.tmp 37)), #[(.tmp 7)], #[v4]⟩), 0, "image.go:59", #[⟨0, Go.Ground.data⟩], none⟩] false)))) (.region 7 #[⟨(.some 39), (.binOp Go.BinOp.add 3 (.tmp 28) (.const (Go.Value.int Go.IntKind.i64 1)) 3), 3, "image.go:57", #[], none⟩, ⟨(.some 28), (.move (.tmp 39)), 3, "image.go:57", #[⟨0, Go.Ground.data⟩], none⟩] false))))))) Go.Code.ret)) Go.Code.skip)) (.seq (.region 8 #[⟨(.some 40), (.move (.tmp 0)), 105, "image.go:63", #[], none⟩, ⟨(.some 41), (.nilCheck (.tmp 40)), 0, "image.go:63", #[⟨0, Go.Ground.data⟩], none⟩, ⟨(.some 42), (.fieldAddr 72 (.tmp 41) 1), 0, "image.go:63", #[⟨1, Go.Ground.data⟩], none⟩, ⟨(.some 43), (.load 70 (.tmp 42)), 70, "image.go:63", #[⟨2, Go.Ground.data⟩], none⟩, ⟨(.some 44), (.call ⟨(Go.Callee.value (.func 149)), #[(.tmp 43)], #[70]⟩), 3, "image.go:63", #[⟨3, Go.Ground.data⟩], none⟩, ⟨(.some 8), (.assign (.tmp 44)), 3, "image.go:63", #[⟨4, Go.Ground.data⟩, ⟨4, Go.Ground.chain⟩, ⟨0, Go.Ground.phase⟩, ⟨1, Go.Ground.phase⟩, ⟨2, Go.Ground.phase⟩, ⟨3, Go.Ground.phase⟩, ⟨4, Go.Ground.phase⟩], none⟩] false) (.block 2 (.loop (.seq (.seq (.region 9 #[⟨(.some 45), (.move (.tmp 8)), 3, "image.go:63", #[], none⟩, ⟨(.some 46), (.binOp Go.BinOp.gtr 3 (.tmp 45) (.const (Go.Value.int Go.IntKind.i64 0)) 3), 4, "image.go:63", #[⟨0, Go.Ground.data⟩], none⟩, ⟨(.some 47), (.move (.tmp 46)), 4, "image.go:63", #[⟨1, Go.Ground.data⟩], none⟩, ⟨(.some 48), (.move (.tmp 0)), 105, "image.go:63", #[⟨2, Go.Ground.guard⟩], (.some (2, true))⟩, ⟨(.some 49), (.call ⟨(Go.Callee.value (.func 150)), #[(.tmp 48)], #[105]⟩), 4, "image.go:63", #[⟨3, Go.Ground.data⟩, ⟨2, Go.Ground.chain⟩, ⟨2, Go.Ground.guard⟩], (.some (2, true))⟩, ⟨(.some 50), (.unOp Go.UnOp.not 4 (.tmp 49)), 4, "image.go:63", #[⟨4, Go.Ground.data⟩, ⟨2, Go.Ground.guard⟩], (.some (2, true))⟩, ⟨(.some 51), (.pick (.tmp 47) (.tmp 50) (.const (Go.Value.bool false))), 4, "image.go:63", #[⟨2, Go.Ground.data⟩, ⟨5, Go.Ground.data⟩], none⟩] false) (.cond (.tmp 51) Go.Code.skip (.exit 2))) (.seq (.block 3 (.seq (.region 11 #[⟨(.some 9), (.alloc v2), 0, "image.go:64", #[], none⟩] false) (.seq (.region 12 #[⟨(.some 54), (.move (.tmp 2)), v3, "image.go:65", #[], none⟩, ⟨(.some 55), (.call ⟨(Go.Callee.value (.tmp 54)), #[(.tmp 9)], #[v4]⟩), 0, "image.go:65", #[⟨0, Go.Ground.data⟩], none⟩] false) (.region 13 #[⟨(.some 56), (.move (.tmp 1)), v0, "image.go:66", #[], none⟩, ⟨(.some 57), (.move (.tmp 1)), v0, "image.go:66", #[], none⟩, ⟨(.some 58), (.nilCheck (.tmp 57)), 0, "image.go:66", #[⟨1, Go.Ground.data⟩], none⟩, ⟨(.some 59), (.load v1 (.tmp 58)), v1, "image.go:66", #[⟨2, Go.Ground.data⟩], none⟩, ⟨(.some 60), (.load v2 (.tmp 9)), v2, "image.go:66", #[], none⟩, ⟨(.some 61), (.buildSlice v1 1 #[(0, (.tmp 60))]), v1, "image.go:66", #[⟨4, Go.Ground.data⟩], none⟩, ⟨(.some 62), (.call ⟨(Go.Callee.builtin Go.Builtin.append), #[(.tmp 59), (.tmp 61)], #[v1, v1]⟩), v1, "image.go:66", #[⟨3, Go.Ground.data⟩, ⟨5, Go.Ground.data⟩], none⟩, ⟨(.some 63), (.nilCheck (.tmp 56)), 0, "image.go:66", #[⟨0, Go.Ground.data⟩, ⟨0, Go.Ground.phase⟩, ⟨1, Go.Ground.phase⟩, ⟨2, Go.Ground.phase⟩, ⟨3, Go.Ground.phase⟩, ⟨4, Go.Ground.phase⟩, ⟨5, Go.Ground.phase⟩, ⟨6, Go.Ground.phase⟩], none⟩, ⟨none, (.store v1 (.tmp 63) (.tmp 62)), 0, "image.go:66", #[⟨7, Go.Ground.data⟩, ⟨6, Go.Ground.data⟩, ⟨6, Go.Ground.chain⟩, ⟨0, Go.Ground.phase⟩, ⟨1, Go.Ground.phase⟩, ⟨2, Go.Ground.phase⟩, ⟨3, Go.Ground.phase⟩, ⟨4, Go.Ground.phase⟩, ⟨5, Go.Ground.phase⟩, ⟨6, Go.Ground.phase⟩], none⟩] true)))) (.region 10 #[⟨(.some 52), (.move (.tmp 8)), 3, "image.go:63", #[], none⟩, ⟨(.some 53), (.binOp Go.BinOp.sub 3 (.tmp 52) (.const (Go.Value.int Go.IntKind.i64 1)) 3), 3, "image.go:63", #[⟨0, Go.Ground.data⟩], none⟩, ⟨(.some 8), (.assign (.tmp 53)), 3, "image.go:63", #[⟨1, Go.Ground.data⟩, ⟨0, Go.Ground.phase⟩, ⟨1, Go.Ground.phase⟩], none⟩] false)))))))
theorem bT {F0 v0 v1 v2 v3 v4 : Nat} {α : Type} (X : ElT Tryz.prog v2 v1 α) (hF : isF Tryz.prog F0 (fY v0 v1 v2 v3 v4) 64 #[]) (b bt : Nat) (T : TypeId) (cs : List Value) (o : Nat) (l : Sl α) (hco : cs[o]? = some l.val) (p v : Value) (hp : p = .pointer none ∨ p = .pointer (some ⟨b, 0, none⟩)) (out : List UInt8) (e : α → List UInt8) (hl : (out ++ (aO l.l.length ++ aK e l.l)).length ≤ 1000000000)
   (F : FuncId) (caps : List Value) (pF : Per) (hFc : dJ Tryz.prog F = true)
   (h : ∀ (x : α) (p v : Value) (out : List UInt8) (bx : Nat), x ∈ l.l → (p = .pointer none ∨ p = .pointer (some ⟨b, 0, none⟩)) → (out ++ e x).length ≤ 1000000000 → Con Tryz.prog F (.pointer (some ⟨bx, 0, none⟩) :: caps) [pF] [bO b p v (.pointer none), aN v 5 1 (out.map cX), Box bx v2 (X.vs x)]
     fun _ ps hp' => ps = [] ∧ ∃ p' v', (p' = .pointer none ∨ p' = .pointer (some ⟨b, 0, none⟩)) ∧ hp' = [bO b p' v' (.pointer none), aN v' 5 1 ((out ++ e x).map cX), Box bx v2 (X.vs x)]) :
   Con Tryz.prog F0 [.pointer (some ⟨b, 0, none⟩), .pointer (some ⟨bt, o, none⟩), .func (.func F) #[] caps.toArray] [ShF X.row l, pF] [bO b p v (.pointer none), aN v 5 1 (out.map cX), Box bt T cs]
     fun _ ps hp' => ps = [] ∧ ∃ p' v', (p' = .pointer none ∨ p' = .pointer (some ⟨b, 0, none⟩)) ∧ hp' = [bO b p' v' (.pointer none), aN v' 5 1 ((out ++ (aO l.l.length ++ aK e l.l)).map cX), Box bt T cs] := by
 have hol := (List.getElem?_eq_some_iff.1 hco).1
 have tk_v1 := X.tA
 have tk_v2 := X.tE
 have un_v1 := X.uA
 rw [List.length_append, List.length_append] at hl
 obtain ⟨fn, hf, hb, hn, hr⟩ := hF
 refine Con.enterG hf hb hn (by simp) ?_
 unfold fY
 show awp _ _ _ _ ⟨[(0, true, _), (1, true, _), (2, true, _)], _, _⟩
 refine bQ (.of (aD 0 rfl)) (fun hlen => (aj (aSR (aM rfl (UN rfl rfl (UO 2 rfl rfl (UL 0 tk70 rfl rfl rfl rfl (aU rfl (kG (by kernel_rfl) rfl) (aNn ?_)))))))))
 refine ao _ rfl (fun h1 => ?_) (fun h1 => ?_)
 ·skip
  refine aj (DR [8] 9 (VM 0 rfl rfl (VN 1 rfl rfl rfl (VO 2 0 rfl rfl rfl (VM 3 rfl rfl (VN 4 rfl rfl rfl (bV 5 rfl rfl (bC 2 tk_v1 rfl rfl hco) (bV 6 rfl rfl (aW un_v1 rfl) (bV 7 rfl rfl (Q0 rfl ((vi l.l.length hlen).post (fun _ _ _ h => h.2.2))) (VE 8 rfl rfl (EC [] [0, 1] rfl (mY b p hp v (.pointer none) out (aO l.l.length) (oU _) (by omega)) ?_)))))))))))
  rintro _ _ _ ⟨rfl, ad2, c2, rfl⟩
  refine bST rfl ?_
  refine BN (an (aj (aSR (aM rfl (UN rfl rfl (aU rfl (bC 2 tk_v1 rfl rfl hco) (aU rfl (aW un_v1 rfl) (aM rfl (aNn (aq ?_))))))))))
  refine aQ [0, 1, 2, 27, 28] [1, 0] [0, 1, 2] (fun (q : Nat × Value × Value) st => (q.1 ≤ l.l.length ∧ (q.2.1 = .pointer none ∨ q.2.1 = .pointer (some ⟨b, 0, none⟩))) ∧ st = ⟨[(0, true, .pointer (some ⟨b, 0, none⟩)), (1, true, .pointer (some ⟨bt, o, none⟩)), (2, true, .func (.func F) #[] caps.toArray), (27, true, .int .i64 l.l.length), (28, true, .int .i64 q.1)], [ShF X.row l, pF], [bO b q.2.1 q.2.2 (.pointer none), aN q.2.2 5 1 ((out ++ (aO l.l.length ++ aK e (l.l.take q.1))).map cX), Box bt T cs]⟩) (fun q => l.l.length - q.1) rfl (⟨(0, _, _), ⟨Nat.zero_le _, .inr rfl⟩, by dsimp only; rw [List.take_zero]; show _ = (⟨_, _, [_, aN _ _ 1 ((out ++ (aO l.l.length ++ [])).map cX), _]⟩ : Sta); rw [List.append_nil]; rfl⟩) ?_
  rintro ⟨k, p1, v1⟩ st ⟨⟨hk, hp1⟩, rfl⟩
  dsimp only at hk hp1 ⊢
  refine aSR (aU rfl (bD rfl rfl) (aNs ?_))
  refine ao _ rfl (fun h2 => ?_) (fun h2 => ?_)
  ·skip
   have hk' : k < l.l.length := by simpa using h2
   obtain ⟨x, hx⟩ : ∃ x, l.l[k]? = some x := ⟨_, List.getElem?_eq_getElem hk'⟩
   have hen := eA (e := e) hx
   have hst : out ++ (aO l.l.length ++ aK e (l.l.take (k + 1))) = (out ++ (aO l.l.length ++ aK e (l.l.take k))) ++ e x := by rw [hen]; simp only [List.append_assoc]
   have hle := ij (e := e) l.l (k + 1)
   rw [hen, List.length_append] at hle
   refine ar (an (aj (aq (aSR (aM rfl (aA rfl (aNn (aSR (aM rfl (UN rfl rfl (aU rfl (bC 2 tk_v1 rfl rfl hco) (aM rfl (iD true rfl rfl (fun _ => bF un_v1 tk_v2 rfl ((.of (aD 0 rfl))) rfl (aI hx) rfl ((X.rl x))) (fun h => absurd h (by decide)) (fun ⟨b5_4, o5_4⟩ => (aU rfl (fV (o := 0) tk_v2 rfl (aD 0 rfl) rfl (X.ldD x)) ?_)))))))))))))))
   refine LT rfl (bI (zs := X.zs) X.hz rfl (fun b5_6 => (aHN ?_)))
   refine aT rfl (bg 3 tk_v2 rfl rfl rfl (X.put x) (aHK ?_))
   refine aNn (aa (aM rfl ?_))
   refine LF rfl (fv [0] [0, 1, 3] hFc rfl rfl rfl rfl rfl (h x p1 v1 (out ++ (aO l.l.length ++ aK e (l.l.take k))) b5_6 (List.mem_of_getElem? hx) hp1 (by rw [List.length_append, List.length_append, List.length_append]; omega)) ?_)
   rintro _ _ _ ⟨rfl, p2, v2, hp2, rfl⟩
   refine aST ?_
   refine bS (bA (an (aa (aU rfl (aX rfl rfl (by omega)) (aM rfl (aNn ?_))))))
   refine ⟨[0, 1, 2, 27, 28], [1, 0], [0, 1, 2], rfl, ?_⟩
   exact ⟨(k + 1, p2, v2), ⟨⟨hk', hp2⟩, by dsimp only; rw [hst]; rfl⟩, by dsimp only; omega⟩
  ·skip
   have hke : k = l.l.length := by simp at h2; omega
   subst hke
   refine aR (aS (aS (aZ (an (az (bu ?_))))))
   refine ta [] [0, 1, 2] rfl hr ?_ (.inr rfl)
   exact ⟨rfl, p1, v1, hp1, by rw [List.take_length]; rfl⟩
 ·skip
  exact absurd h1 (by decide)
abbrev su : ElT Tryz.prog 3 25 Int := ⟨false, 1, [.int .i64 0], fun z => [.int .i64 z], fun z => [.v (.int .i64 z)], fun z => .int .i64 z, tk3, tk25, Tryz.underlying25, el25, by kernel_rfl, by decide, by decide, rfl, fun _ => rfl, fun _ => rfl, fun _ => rfl, fun _ => rfl, fun _ => rfl, fun _ => rfl⟩
abbrev lb : ElT Tryz.prog 9 27 ByteArray := ⟨false, 1, [.string .empty], fun z => [.string z], fun z => [.v (.string z)], fun z => .string z, tk9, tk27, Tryz.underlying27, el27, by kernel_rfl, by decide, by decide, rfl, fun _ => rfl, fun _ => rfl, fun _ => rfl, fun _ => rfl, fun _ => rfl, fun _ => rfl⟩
theorem lA : isF Tryz.prog 73 (fY 127 25 3 108 106) 64 #[] := ⟨_, Tryz.func73, rfl, Tryz.ntmps73, Tryz.results73⟩
theorem gF : type_of% (bT su lA) := bT su lA
theorem gY : isF Tryz.prog 76 (fY 133 27 9 111 109) 64 #[] := ⟨_, Tryz.func76, rfl, Tryz.ntmps76, Tryz.results76⟩
theorem jf : type_of% (bT lb gY) := bT lb gY
theorem ik : isF Tryz.prog 67 (fY 115 22 51 117 116) 64 #[] := ⟨_, Tryz.func67, rfl, Tryz.ntmps67, Tryz.results67⟩
theorem ng : type_of% (bT il ik) := bT il ik
theorem ib : isF Tryz.prog 69 (fY 119 23 96 121 120) 64 #[] := ⟨_, Tryz.func69, rfl, Tryz.ntmps69, Tryz.results69⟩
theorem na : type_of% (bT ix ib) := bT ix ib
theorem ia : isF Tryz.prog 71 (fY 123 24 94 125 124) 64 #[] := ⟨_, Tryz.func71, rfl, Tryz.ntmps71, Tryz.results71⟩
theorem mV : type_of% (bT iw ia) := bT iw ia
theorem k7 : isF Tryz.prog 74 (fY 129 26 55 131 130) 64 #[] := ⟨_, Tryz.func74, rfl, Tryz.ntmps74, Tryz.results74⟩
theorem qW : type_of% (bT tG k7) := bT tG k7
theorem fC : isF Tryz.prog 77 (fY 135 28 62 137 136) 64 #[] := ⟨_, Tryz.func77, rfl, Tryz.ntmps77, Tryz.results77⟩
theorem ka : type_of% (bT gI fC) := bT gI fC
theorem jW : isF Tryz.prog 80 (fY 141 37 65 149 142) 64 #[] := ⟨_, Tryz.func80, rfl, Tryz.ntmps80, Tryz.results80⟩
theorem qK : type_of% (bT ly jW) := bT ly jW
theorem iO : isF Tryz.prog 82 (fY 146 63 145 148 147) 64 #[] := ⟨_, Tryz.func82, rfl, Tryz.ntmps82, Tryz.results82⟩
theorem oF : type_of% (bT jq iO) := bT jq iO
theorem jL : isF Tryz.prog 151 (fY 229 29 157 231 230) 64 #[] := ⟨_, Tryz.func151, rfl, Tryz.ntmps151, Tryz.results151⟩
theorem pe : type_of% (bT kI jL) := bT kI jL
theorem jK : isF Tryz.prog 153 (fY 233 30 159 235 234) 64 #[] := ⟨_, Tryz.func153, rfl, Tryz.ntmps153, Tryz.results153⟩
theorem pD : type_of% (bT kP jK) := bT kP jK
theorem jU : isF Tryz.prog 155 (fY 237 31 161 239 238) 64 #[] := ⟨_, Tryz.func155, rfl, Tryz.ntmps155, Tryz.results155⟩
theorem pE : type_of% (bT iQ jU) := bT iQ jU
theorem gZ : isF Tryz.prog 157 (fY 241 32 192 243 242) 64 #[] := ⟨_, Tryz.func157, rfl, Tryz.ntmps157, Tryz.results157⟩
theorem mP : type_of% (bT fR gZ) := bT fR gZ
theorem kN : isF Tryz.prog 159 (fY 245 33 198 247 246) 64 #[] := ⟨_, Tryz.func159, rfl, Tryz.ntmps159, Tryz.results159⟩
theorem ra : type_of% (bT kg kN) := bT kg kN
theorem iZ : isF Tryz.prog 161 (fY 249 34 204 251 250) 64 #[] := ⟨_, Tryz.func161, rfl, Tryz.ntmps161, Tryz.results161⟩
theorem oG : type_of% (bT gL iZ) := bT gL iZ
end Go.Proofs.YtahgkiicjohonaaGreat

namespace Go.Sy
open Go.RowKit Go.Lp
theorem aak {P : Program} {n : Fr} {ops : Array Oper} {Q : Exit → Sta → Prop} {env : Env} {ps : List Per} {hp : List Res} {ty : TypeId} {pos : String} {af : Array Edge} {gd : Option (Nat × Bool)} {rest : List Oper} {t : Nat} {f : FuncId} {g : Operand} {caps : List Value} {l : List Operand} {ts : Array TypeId} {vs : List Value} {v : Value} (lp lh : List Nat) (hf : dJ P f = true) (c : Bool) (hc : guardOf ops env ⟨some t, .call ⟨.value g, l.toArray, ts⟩, ty, pos, af, gd⟩ = some c) (ht : fits n.size (some t) = true) (hi : okH hp lh = true)
   (hgv : c = true → ev env g = some (true, .func (.func f) #[] caps.toArray)) (hx : c = true → evs env l = some vs) (hcon : c = true → Con P f (vs ++ caps) (fj ps lp) (cF hp lh) fun r ps' hp' => ps' = [] ∧ hp' = cF hp lh ∧ r = v)
   (h : aL P n ops Q rest ⟨(t, c, v) :: env, ps, hp⟩) : aL P n ops Q (⟨some t, .call ⟨.value g, l.toArray, ts⟩, ty, pos, af, gd⟩ :: rest) ⟨env, ps, hp⟩ := by
 cases c with
 | true =>
   refine aT (q := false) hc (fv lp lh hf (hgv rfl) (hx rfl) ht hi rfl (hcon rfl) ?_)
   rintro _ _ _ ⟨rfl, rfl, rfl⟩
   refine iP ?_ h
   apply List.ext_getElem?; intro j; rw [iI, Nat.zero_add]
   by_cases hj : j < hp.length
   · rw [if_pos hj]
     cases hpl : place lh j with
     | none => rfl
     | some k =>
       obtain ⟨h1, h2⟩ := gy _ _ _ hpl
       have e1 : lh[k]? = some j := by
         rw [List.getD_eq_getElem?_getD, List.getElem?_eq_getElem h1] at h2
         rw [List.getElem?_eq_getElem h1]; exact congrArg some h2
       have e : (cF hp lh)[k]? = some (hp.getD j emp) := by unfold cF; rw [List.getElem?_map, e1]; rfl
       show some ((cF hp lh).getD k emp) = hp[j]?
       rw [List.getD_eq_getElem?_getD, e, List.getElem?_eq_getElem hj]
       show some (hp.getD j emp) = _
       rw [List.getD_eq_getElem?_getD, List.getElem?_eq_getElem hj]; rfl
   · rw [if_neg hj, List.getElem?_eq_none (by simp [cF]), List.getElem?_eq_none (by omega)]
 | false => exact ko (v := v) false hc ht (fun h => by cases h) h
theorem Ent.snoc {α : Type} {ps : List Per} {f : α → Per} {l : List α} {x : α} (h : Ent ps (b7 f l)) (hx : Ent ps (f x)) : Ent ps (b7 f (l ++ [x])) := fun w S hp y hy => (List.mem_append.1 hy).elim (h w S hp y) fun e => by rw [List.mem_singleton.1 e]; exact hx w S hp
end Go.Sy
namespace Go.Proofs.YtahgkiicjohonaaGreat
open Go.RowKit Go.Lp Go.Sy Go.Lv
open Go.Proofs.Tryz
attribute [local irreducible] aL aB awp aC fwp Quiet
theorem xE (r : List UInt8) (bad : Bool) {t : List UInt8} {bad' : Bool} (h : (iK r bad).1 = .R t bad') : t.length ≤ r.length := by
 rcases iJ r bad with ⟨t1, m, h1, _, _, hl⟩ | h1
 · rw [h1] at h; obtain ⟨rfl, rfl⟩ := CS.R.inj h; omega
 · rw [h1] at h; obtain ⟨rfl, rfl⟩ := CS.R.inj h; exact Nat.zero_le _
theorem acf (r : List UInt8) (bad : Bool) : (iK r bad).2 ≤ 9223372036854775807 := by
 rcases iJ r bad with ⟨t1, m, h1, _, hm, _⟩ | h1
 · rw [h1]; exact hm
 · rw [h1]; exact Nat.zero_le _
theorem bX {F0 v0 v1 v2 v3 v4 : Nat} {α : Type} (X : ElT Tryz.prog v2 v1 α) (hF : isF Tryz.prog F0 (fY v0 v1 v2 v3 v4) 64 #[]) (b rb bt : Nat) (T : TypeId) (cs : List Value) (o : Nat) (hco : cs[o]? = some (.slice none 0 0)) (p v : Value) (r : List UInt8) (bad : Bool) (hr : r.length ≤ 1000000) {τ : Type} (A : Cod τ) (pu : α → τ) (okF : α → Per)
   (F : FuncId) (caps : List Value) (pF : Per) (hFc : dJ Tryz.prog F = true)
   (h : ∀ (r : List UInt8) (bad : Bool) (bx : Nat), r.length ≤ 1000000 → Con Tryz.prog F (.pointer (some ⟨bx, 0, none⟩) :: caps) [pF] [bO b p v (.pointer (some ⟨rb, 0, none⟩)), rdB rb r bad, Box bx v2 X.zs]
     fun _ ps hp' => ∃ (x : α) (r' : List UInt8) (bad' : Bool), A.one (.R r bad) A.zero = (.R r' bad', pu x) ∧ ps = [okF x] ∧ hp' = [bO b p v (.pointer (some ⟨rb, 0, none⟩)), rdB rb r' bad', Box bx v2 (X.vs x)]) :
   Con Tryz.prog F0 [.pointer (some ⟨b, 0, none⟩), .pointer (some ⟨bt, o, none⟩), .func (.func F) #[] caps.toArray] [pF] [bO b p v (.pointer (some ⟨rb, 0, none⟩)), rdB rb r bad, Box bt T cs]
     fun _ ps hp' => ∃ (l : Sl α) (r' : List UInt8) (bad' : Bool), (dw A).one (.R r bad) [] = (.R r' bad', l.l.map pu) ∧ ps = [ShF X.row l, b7 okF l.l] ∧ hp' = [bO b p v (.pointer (some ⟨rb, 0, none⟩)), rdB rb r' bad', Box bt T (cs.set o l.val)] := by
 have hol := (List.getElem?_eq_some_iff.1 hco).1
 obtain ⟨w0, hw0⟩ : ∃ w0, (dw A).one (.R r bad) [] = w0 := ⟨_, rfl⟩
 rw [hw0]
 have tk_v1 := X.tA
 have tk_v2 := X.tE
 have un_v1 := X.uA
 have el_v1 := X.el
 obtain ⟨fn, hf, hb, hn, hr⟩ := hF
 refine Con.enterG hf hb hn (by simp) ?_
 unfold fY
 show awp _ _ _ _ ⟨[(0, true, _), (1, true, _), (2, true, _)], _, _⟩
 refine eH v2 X.sz ?_
 refine aY (b7 okF []) (fun _ _ _ _ hx => by cases hx) ?_
 show awp _ _ _ _ ⟨_, _, [_, _, _, _]⟩
 refine aj (aSR (aM rfl (UN rfl rfl (UO 2 rfl rfl (UL 0 tk70 rfl rfl rfl rfl (aU rfl (pT (by kernel_rfl) rfl) (aNn ?_)))))))
 refine ao _ rfl (fun h1 => ?_) (fun h1 => ?_)
 ·skip
  exact absurd h1 (by simp)
 ·skip
  refine ar (an (aSR (aM rfl (UN rfl rfl (UO 2 rfl rfl (UL 0 tk70 rfl rfl rfl rfl (LF rfl (EC [] [1] rfl (tL rb r bad (by omega)) ?_))))))))
  rintro _ _ _ ⟨rfl, t0, bad0, hq0, rfl, rfl⟩
  refine aST ?_
  refine aA rfl (aNn (aq ?_))
  refine aQ [0, 1, 2, 8] [1, 0] [0, 1, 2, 3] (fun (q : Nat × (Option Addr × Nat × List α) × List UInt8 × Bool) st => (fH A q.1 (.R q.2.2.1 q.2.2.2) (q.2.1.2.2.map pu) = w0 ∧ q.1 ≤ 9223372036854775807 ∧ q.2.2.1.length ≤ r.length ∧ q.2.1.2.2.length + q.2.2.1.length ≤ r.length + (if (CS.R q.2.2.1 q.2.2.2).fails then 1 else 0)) ∧ st = ⟨[(0, true, .pointer (some ⟨b, 0, none⟩)), (1, true, .pointer (some ⟨bt, o, none⟩)), (2, true, .func (.func F) #[] caps.toArray), (8, true, .int .i64 q.1)], [b7 okF q.2.1.2.2, pF], [bO b p v (.pointer (some ⟨rb, 0, none⟩)), rdB rb q.2.2.1 q.2.2.2, Box bt T (cs.set o (.slice q.2.1.1 q.2.1.2.2.length q.2.1.2.1)), aN (.slice q.2.1.1 q.2.1.2.2.length q.2.1.2.1) v2 X.sz (q.2.1.2.2.map X.row)]⟩) (fun q => q.1) rfl (⟨((iK r bad).2, (none, 0, []), t0, bad0), ⟨by rw [← hw0, ← hq0]; rfl, acf r bad, xE r bad hq0, by have := xE r bad hq0; show 0 + t0.length ≤ _; omega⟩, by show _ = (⟨_, _, [_, _, Box bt T (cs.set o (.slice none 0 0)), _]⟩ : Sta); rw [qy hco]; rfl⟩) ?_
  rintro ⟨n, ⟨ad, cp, m⟩, r1, bad1⟩ st ⟨⟨hw, hnm, hr1, hm⟩, rfl⟩
  dsimp only at hw hnm hr1 hm ⊢
  refine aj (aSR (aM rfl (aU rfl (cJ rfl rfl) (aM rfl (aG rfl rfl (fun hc => aP rfl) ?_)))))
  refine aak (caps := []) [] [0, 1] (by kernel_rfl) _ rfl rfl rfl (fun _ => rfl) (fun hc => (aJ (ae rfl hc) rfl)) (fun hc => by rw [List.append_nil]; exact (vA b rb p v r1 bad1).post (fun _ _ _ ⟨h1, h2, h3⟩ => ⟨h1, h3, h2⟩)) ?_
  refine aG rfl rfl (fun hc => dp (ae rfl hc)) (aU rfl (bp rfl rfl (fun h => gt rfl h)) (aNn ?_))
  refine ao _ rfl (fun h2 => ?_) (fun h2 => ?_)
  ·skip
   have hnf : 0 < n ∧ (CS.R r1 bad1).fails = false := by
     rw [Bool.and_eq_true, decide_eq_true_eq, Bool.not_eq_true'] at h2
     exact ⟨by omega, h2.2⟩
   rw [hnf.2] at hm
   obtain ⟨n, rfl⟩ : ∃ k, n = k + 1 := ⟨n - 1, by omega⟩
   unfold fH at hw
   rw [if_neg (by rw [hnf.2]; decide)] at hw
   have hn1 : ((n + 1 : Nat) : Int) - 1 = (n : Int) := by omega
   refine ar (an (aj (aq (aSR (LT rfl (bI (zs := X.zs) X.hz rfl (fun b11_0 => (aHN ?_))))))))
   refine aNn (aSR (aM rfl (LF rfl (fv [0] [0, 1, 4] hFc rfl rfl rfl rfl rfl (h r1 bad1 b11_0 (by omega)) ?_))))
   rintro _ _ _ ⟨x, r2, bad2, hone, rfl, rfl⟩
   refine aST ?_
   refine aNn ?_
   rw [hone] at hw
   have hless := A.less r1 bad1 (by omega)
   obtain ⟨rd, bd, hrd1, hrd2, _⟩ := A.rd r1 bad1 (by omega)
   rw [hone] at hless hrd1
   obtain ⟨rfl, rfl⟩ := CS.R.inj hrd1
   refine aY (b7 okF (m ++ [x])) (Ent.snoc (.of (aD 1 rfl)) (.of (aD 0 rfl))) (DR [6, 8] 9 (yK 0 rfl (by kernel_rfl) true rfl rfl (fun _ => aP rfl) (VM 1 rfl rfl (VN 2 rfl rfl rfl ?_))))
   refine bV 3 rfl rfl (bC 2 tk_v1 rfl rfl (List.getElem?_set_self hol)) ?_
   refine bV 4 rfl rfl (bC 4 tk_v2 rfl rfl (X.ld x)) (fh (q := true) 5 rfl (by kernel_rfl) rfl rfl (adA X x rfl rfl (fun v13_5 => (bST rfl ?_))))
   refine fh 6 rfl (by kernel_rfl) rfl rfl (cT 3 el_v1 rfl rfl rfl rfl (ea 5 el_v1 rfl (by simp)) (by first | assumption | simp) (by rw [List.length_map]; exact Nat.le_trans (show m.length + 1 ≤ 1000001 by simp only [Bool.false_eq_true, if_false] at hm; omega) (by decide)) ((m ++ [x]).length) (by rw [List.length_map, List.length_append]; rfl) (fun v13_6 c13_6 => ?_))
   refine bST rfl ?_
   refine VN 7 rfl rfl rfl ?_
   refine fh 8 rfl (by kernel_rfl) rfl rfl (iH 2 ([.slice v13_6 (m ++ [x]).length c13_6]) ((cs.set o (.slice v13_6 (m ++ [x]).length c13_6))) tk_v1 rfl rfl rfl rfl rfl ((fun _ h => by rw [List.mem_singleton.1 h]; rfl)) ((by rw [List.length_set]; omega)) ((by rw [jD (by rw [List.length_set]; exact hol), List.set_set])) ?_)
   refine bST rfl ?_
   refine BN (bA (an (aa (aM rfl (aU rfl (cU rfl rfl (by omega)) (aA rfl (aNn ?_)))))))
   refine ⟨[0, 1, 2, 8], [3, 0], [0, 1, 2, 3], rfl, ?_⟩
   refine ⟨(n, (v13_6, c13_6, m ++ [x]), r2, bad2), ⟨⟨by dsimp only; rw [List.map_append]; exact hw, by dsimp only; omega, by dsimp only; omega, ?_⟩, by dsimp only; rw [hn1, List.map_append]; rfl⟩, by dsimp only; omega⟩
   dsimp only
   rw [List.length_append, List.length_singleton]
   simp only [Bool.false_eq_true, if_false] at hm
   rcases hless with hless | hless
   · have : r2.length < r1.length := hless
     omega
   · obtain ⟨rfl, rfl⟩ := CS.R.inj (show CS.R r2 bad2 = CS.R [] true from hless)
     rw [if_pos (show (CS.R [] true).fails = true from rfl), List.length_nil]
     omega
  ·skip
   have hfin : fH A n (.R r1 bad1) (m.map pu) = (.R r1 bad1, m.map pu) := by
     cases n with
     | zero => rfl
     | succ n =>
       apply kA
       rw [Bool.and_eq_false_iff] at h2
       rcases h2 with h2 | h2
       · exact absurd (of_decide_eq_false h2) (by omega)
       · simpa using h2
   refine dW 3 rfl (aR (aS (aS (aZ ?_))))
   refine ta [2, 1] [0, 1, 2] rfl hr ?_ (.inl rfl)
   exact ⟨⟨ad, cp, m⟩, r1, bad1, by rw [← hw, hfin], rfl, rfl⟩
theorem gH : type_of% (bX su lA) := bX su lA
theorem jr : type_of% (bX lb gY) := bX lb gY
theorem mS : type_of% (bX il ik) := bX il ik
theorem ny : type_of% (bX ix ib) := bX ix ib
theorem nb : type_of% (bX iw ia) := bX iw ia
theorem rh : type_of% (bX tG k7) := bX tG k7
theorem kz : type_of% (bX gI fC) := bX gI fC
theorem pM : type_of% (bX ly jW) := bX ly jW
theorem oN : type_of% (bX jq iO) := bX jq iO
theorem qA : type_of% (bX kI jL) := bX kI jL
theorem pY : type_of% (bX kP jK) := bX kP jK
theorem pq : type_of% (bX iQ jU) := bX iQ jU
theorem nr : type_of% (bX fR gZ) := bX fR gZ
theorem q5 : type_of% (bX kg kN) := bX kg kN
theorem oH : type_of% (bX gL iZ) := bX gL iZ
end Go.Proofs.YtahgkiicjohonaaGreat

namespace Go.Proofs.YtahgkiicjohonaaGreat
open Go.RowKit Go.Lp Go.Sy Go.Lv
abbrev sW : Type := ByteArray × ByteArray × Int × Int × Int × ByteArray × ByteArray
def ee : Cod sW := Cod.prod ak (Cod.prod ak (Cod.prod ai (Cod.prod ai (Cod.prod ai (Cod.prod ak (ak))))))
abbrev ej (x : bk) : sW := (x.obj, x.sec, x.kind, x.at_, x.size, x.digest, x.form)
def ir (x : bk) : Prop := Go.Lv.I64 x.kind ∧ Go.Lv.I64 x.at_ ∧ Go.Lv.I64 x.size
abbrev tH : Type := ByteArray × ByteArray × Bool × Int × Int × Int
def ed : Cod tH := Cod.prod ak (Cod.prod ak (Cod.prod bK (Cod.prod ai (Cod.prod ai (ai)))))
abbrev et (x : bN) : tH := (x.name, x.version, x.main, x.kind, x.at_, x.size)
def iq (x : bN) : Prop := Go.Lv.I64 x.kind ∧ Go.Lv.I64 x.at_ ∧ Go.Lv.I64 x.size
abbrev tv : Type := ByteArray × ByteArray × Int × Bool × Bool
def ef : Cod tv := Cod.prod ak (Cod.prod ak (Cod.prod ai (Cod.prod bK (bK))))
abbrev eu (x : bY) : tv := (x.name, x.version, x.kind, x.weak, x.own)
def jg (x : bY) : Prop := Go.Lv.I64 x.kind
abbrev adE : Type := Int × Int × Int × Int
def lC : Cod adE := Cod.prod ai (Cod.prod ai (Cod.prod ai (ai)))
abbrev jn (x : fm) : adE := (x.at_, x.kind, x.import_, x.add)
def qJ (x : fm) : Prop := Go.Lv.I64 x.at_ ∧ Go.Lv.I64 x.kind ∧ Go.Lv.I64 x.import_ ∧ Go.Lv.I64 x.add
abbrev wV : Type := Int × Int × Int
def eX : Cod wV := Cod.prod ai (Cod.prod ai (ai))
abbrev fa (x : dD) : wV := (x.from_, x.size, x.to_)
def kh (x : dD) : Prop := Go.Lv.I64 x.from_ ∧ Go.Lv.I64 x.size ∧ Go.Lv.I64 x.to_
abbrev aaq : Type := ByteArray × Int × Int × Int
def gi : Cod aaq := Cod.prod ak (Cod.prod ai (Cod.prod ai (ai)))
abbrev ga (x : dA) : aaq := (x.name, x.kind, x.at_, x.size)
def mx (x : dA) : Prop := Go.Lv.I64 x.kind ∧ Go.Lv.I64 x.at_ ∧ Go.Lv.I64 x.size
abbrev abb : Type := Int × Int × ByteArray × Int
def fS : Cod abb := Cod.prod ai (Cod.prod ai (Cod.prod ak (ai)))
abbrev gh (x : du) : abb := (x.sec, x.at_, x.file, x.line)
def l9 (x : du) : Prop := Go.Lv.I64 x.sec ∧ Go.Lv.I64 x.at_ ∧ Go.Lv.I64 x.line
abbrev aax : Type := Int × Int
def gM : Cod aax := Cod.prod ai (ai)
abbrev gz (x : bE) : aax := (x.at_, x.size)
def mz (x : bE) : Prop := Go.Lv.I64 x.at_ ∧ Go.Lv.I64 x.size
abbrev tB : Type := Int × Int × Int × ByteArray × ByteArray × Int
def dU : Cod tB := Cod.prod ai (Cod.prod ai (Cod.prod ai (Cod.prod ak (Cod.prod ak (ai)))))
abbrev ep (x : b8) : tB := (x.sec, x.from_, x.to_, x.name, x.file, x.line)
def jw (x : b8) : Prop := Go.Lv.I64 x.sec ∧ Go.Lv.I64 x.from_ ∧ Go.Lv.I64 x.to_ ∧ Go.Lv.I64 x.line
abbrev adw : Type := Int × Int × Int × ByteArray × Int × Int
def jO : Cod adw := Cod.prod ai (Cod.prod ai (Cod.prod ai (Cod.prod ak (Cod.prod ai (ai)))))
abbrev iS (x : eh) : adw := (x.sec, x.from_, x.to_, x.name, x.where_, x.n)
def pL (x : eh) : Prop := Go.Lv.I64 x.sec ∧ Go.Lv.I64 x.from_ ∧ Go.Lv.I64 x.to_ ∧ Go.Lv.I64 x.where_ ∧ Go.Lv.I64 x.n
abbrev wC : Type := Int × Int × Int × Int
def fo : Cod wC := Cod.prod ai (Cod.prod ai (Cod.prod ai (ai)))
abbrev fw (x : cC) : wC := (x.sec, x.from_, x.to_, x.bytes)
def kq (x : cC) : Prop := Go.Lv.I64 x.sec ∧ Go.Lv.I64 x.from_ ∧ Go.Lv.I64 x.to_ ∧ Go.Lv.I64 x.bytes
end Go.Proofs.YtahgkiicjohonaaGreat

