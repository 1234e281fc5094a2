/- Parts of the proof, in build order. No condition. -/
import Derived.Test.YtgmiihmahaahiaaGreatDoorQc09
import Derived.Test.YtgmiihmahaahiaaGreatDoorQc03
import Derived.Test.YtgmiihmahaahiaaGreatDoorQc04
import Derived.Test.YtgmiihmahaahiaaGreatDoorQc08
import Derived.Test.YtgmiihmahaahiaaGreatDoorProg
import Derived.Ground.NamesProg
import Derived.Shelf.Bits.Mul64
set_option linter.unusedSimpArgs false
set_option linter.unusedVariables false
set_option maxHeartbeats 1000000
set_option maxRecDepth 20000
namespace Go.Proofs.YtgmiihmahaahiaaGreatDoor
open Go.RowKit Go.Lp Go.Sy
open Go.Proofs.Tryz
attribute [local irreducible] aL aB awp aC fwp
theorem tk189 : tyk Tryz.prog 189 = some (false, 1) := by kernel_rfl
theorem pU (a n s : Int) (p : Per) : Con Tryz.prog 176 [.int .i64 a, .int .i64 n, .int .i64 s] [p] [] (YB True) := by
 refine Con.enter Tryz.func176 rfl (by simp [Tryz.ntmps176]) ?_
 show awp _ _ _ _ ⟨[(0, true, _), (1, true, _), (2, true, _)], _, _⟩
 refine aSR (aA rfl (aNn (aSR (aM rfl (aU rfl (cL rfl rfl) (aM rfl (aG rfl rfl (fun hc => ar rfl) (aG rfl rfl (fun hc => cL (aa rfl hc) rfl) (aU rfl (bn rfl rfl (fun h => gt rfl h)) (aM rfl (aG rfl rfl (fun hc => ar rfl) (aG rfl rfl (fun hc => ar rfl) ?_))))))))))))
 refine aG rfl rfl (fun hc => eE (aa rfl hc) (aa rfl hc)) (aU rfl (bn rfl rfl (fun h => gt rfl h)) (aM rfl (aG rfl rfl (fun hc => ar rfl) (aG rfl rfl (fun hc => ar rfl) (aG rfl rfl (fun hc => ar rfl) (aG rfl rfl (fun hc => qk (aa rfl hc) (aa rfl hc)) (aG rfl rfl (fun hc => eE (aa rfl hc) (aa rfl hc)) (aU rfl (bn rfl rfl (fun h => gt rfl h)) (aA rfl (aNn (aq ?_)))))))))))
 refine aV [] [] rfl Tryz.results176 rfl ?_ (.inr rfl)
 exact ⟨⟨rfl, rfl⟩, _, rfl, fun _ => trivial⟩
theorem xb (b1 b2 : Nat) (n : Int) (x : dC) : Con Tryz.prog 178 [x.val, .pointer (some ⟨b1, 0, none⟩), .pointer (some ⟨b2, 0, none⟩)] [At b1 0 [.v (.func (.func 176) #[] #[])], At b2 0 [.v (.int .i64 n)]] [] (YB True) := by
 refine Con.enter Tryz.func178 rfl (by simp [Tryz.ntmps178]) ?_
 show awp _ _ _ _ ⟨[(0, true, _), (1, true, _), (2, true, _)], _, _⟩
 refine aSR ?_
 refine aj (q := true) rfl (bI rfl rfl rfl (fun b0_0 => ?_))
 refine aHN ?_
 refine aA rfl (aNn (aSR (aU rfl (aN (o := 0) tk189 rfl (.of (an 0 rfl)) rfl) ?_)))
 refine aU rfl (qFA (off := 0) rfl) ?_
 refine aU rfl (ab 0 tk3 rfl rfl rfl) ?_
 refine aU rfl (qFA (off := 1) rfl) ?_
 refine aU rfl (ab 0 tk3 rfl rfl rfl) ?_
 refine aQ [0] (false) (by kernel_rfl) true rfl rfl (fun _ => rfl) (fun hc => rfl) (fun hc => pU _ _ _ _) (fun c1 hc1 => ?_)
 refine aM rfl (aG rfl rfl (fun hc => aN (o := 0) tk189 rfl (.of (an 0 rfl)) rfl) ?_)
 refine aG rfl rfl (fun hc => qFA (off := 2) rfl) ?_
 refine aG rfl rfl (fun hc => ab 0 tk3 (aa rfl hc) rfl rfl) ?_
 refine aG rfl rfl (fun hc => qFA (off := 1) rfl) ?_
 refine aG rfl rfl (fun hc => ab 0 tk3 (aa rfl hc) rfl rfl) (aG rfl rfl (fun hc => aN (o := 0) tk3 rfl (.of (an 1 rfl)) rfl) ?_)
 refine aQ [0] (false) (by kernel_rfl) _ rfl rfl (fun hc => (aa rfl hc)) (fun hc => (aI (aa rfl hc) (aI (aa rfl hc) (aI (aa rfl hc) rfl)))) (fun hc => pU _ _ _ _) (fun c2 hc2 => ?_)
 refine aU rfl (bn rfl rfl (fun h => gt rfl h)) (aA rfl (aNn (aq ?_)))
 refine aV [] [] rfl Tryz.results178 rfl ?_ (.inr rfl)
 exact ⟨⟨rfl, rfl⟩, _, rfl, fun _ => trivial⟩
theorem xr (x y : dC) (p : Per) : Con Tryz.prog 180 [x.val, y.val] [p] [] (YB True) := by
 refine Con.enter Tryz.func180 rfl (by simp [Tryz.ntmps180]) ?_
 show awp _ _ _ _ ⟨[(0, true, _), (1, true, _)], _, _⟩
 refine aSR ?_
 refine aj (q := true) rfl (bI rfl rfl rfl (fun b0_0 => ?_))
 refine aHN ?_
 refine aj (q := true) rfl (bI rfl rfl rfl (fun b0_1 => ?_))
 refine aHN ?_
 refine aA rfl (aNn (aSR ?_))
 refine aU rfl (qFA (off := 2) rfl) ?_
 refine aU rfl (ab 0 tk3 rfl rfl rfl) ?_
 refine aU rfl (qFA (off := 1) rfl) ?_
 refine aU rfl (ab 0 tk3 rfl rfl rfl) (aU rfl (xE rfl rfl) ?_)
 refine aU rfl (qFA (off := 2) rfl) ?_
 refine aU rfl (ab 1 tk3 rfl rfl rfl) (aU rfl (eE rfl rfl) (aA rfl (aNn (aq ?_))))
 refine aV [] [] rfl Tryz.results180 rfl ?_ (.inr rfl)
 exact ⟨⟨rfl, rfl⟩, _, rfl, fun _ => trivial⟩
theorem xK (x y : bZ) (p : Per) : Con Tryz.prog 181 [x.val, y.val] [p] [] (YB True) := by
 refine Con.enter Tryz.func181 rfl (by simp [Tryz.ntmps181]) ?_
 show awp _ _ _ _ ⟨[(0, true, _), (1, true, _)], _, _⟩
 refine aSR ?_
 refine aj (q := true) rfl (bI rfl rfl rfl (fun b0_0 => ?_))
 refine aHN ?_
 refine aj (q := true) rfl (bI rfl rfl rfl (fun b0_1 => ?_))
 refine aHN ?_
 refine aA rfl (aNn (aSR ?_))
 refine aU rfl (qFA (off := 0) rfl) ?_
 refine aU rfl (ab 0 tk3 rfl rfl rfl) ?_
 refine aU rfl (qFA (off := 0) rfl) ?_
 refine aU rfl (ab 1 tk3 rfl rfl rfl) (aU rfl (bt rfl rfl) (aM rfl ?_))
 refine aG rfl rfl (fun hc => qFA (off := 0) rfl) ?_
 refine aG rfl rfl (fun hc => ab 0 tk3 (aa rfl hc) rfl rfl) ?_
 refine aG rfl rfl (fun hc => qFA (off := 0) rfl) ?_
 refine aG rfl rfl (fun hc => ab 1 tk3 (aa rfl hc) rfl rfl) (aG rfl rfl (fun hc => bB (aa rfl hc) (aa rfl hc)) (aG rfl rfl (fun hc => ar (aa rfl hc)) ?_))
 refine aG rfl rfl (fun hc => qFA (off := 1) rfl) ?_
 refine aG rfl rfl (fun hc => ab 0 tk9 (aa rfl hc) rfl rfl) ?_
 refine aG rfl rfl (fun hc => qFA (off := 1) rfl) ?_
 refine aG rfl rfl (fun hc => ab 1 tk9 (aa rfl hc) rfl rfl) (aG rfl rfl (fun hc => rL (aa rfl hc) (aa rfl hc)) (aG rfl rfl (fun hc => bn (aa rfl hc) rfl (fun h => gt hc h)) (aU rfl (ct rfl rfl (fun h => gf rfl h)) (aA rfl (aNn (aq ?_))))))
 refine aV [] [] rfl Tryz.results181 rfl ?_ (.inr rfl)
 exact ⟨⟨rfl, rfl⟩, _, rfl, fun _ => trivial⟩
theorem x1 (b : Nat) (o : ax) (x : bZ) : Con Tryz.prog 175 [x.val, .pointer (some ⟨b, 0, none⟩)] [At b 0 o.row, o.ok, x.ok] [] (YB True) := by
 refine Con.enter Tryz.func175 rfl (by simp [Tryz.ntmps175]) ?_
 show awp _ _ _ _ ⟨[(0, true, _), (1, true, _)], _, _⟩
 refine bd (ax.f_secs (.of (an 1 rfl))) (fun hlen => ?_)
 refine aSR ?_
 refine aj (q := true) rfl (bI rfl rfl rfl (fun b0_0 => ?_))
 refine aHN ?_
 refine aA rfl (aNs (aSR (aU rfl (aN (o := 0) tk145 rfl (.of (an 0 rfl)) rfl) ?_)))
 refine aU rfl (qFA (off := 0) rfl) ?_
 refine aU rfl (ab 0 tk3 rfl rfl rfl) ?_
 refine fW (zs := [.int .i64 0]) (l := [(0, .const (.int .i64 1))]) el90 (by kernel_rfl) (by decide) (by decide) (by decide) rfl _ rfl (fun hc => rfl) rfl (.more rfl (.v rfl .nil) .nil) rfl rfl (fun v1_3 => ?_)
 refine aQ (caps := []) [3, 1] (false) (by kernel_rfl) true rfl rfl (fun _ => rfl) (fun hc => rfl) (fun hc => by rw [List.append_nil]; exact (jz o ⟨v1_3, 1, [1]⟩ _).pre (eD (.yes (.of (an 0 rfl)) rfl) (.of (an 1 rfl)))) (fun c1 hc1 => ?_)
 refine aU rfl (bT rfl) (aM rfl ?_)
 refine aG rfl rfl (fun hc => qFA (off := 1) rfl) ?_
 refine aG rfl rfl (fun hc => ab 0 tk9 (aa rfl hc) rfl rfl) (aG rfl rfl (fun hc => dW Tryz.underlying9 (aa rfl hc)) (aG rfl rfl (fun hc => cN (aa rfl hc) rfl) (aU rfl (ct rfl rfl (fun h => gf rfl h)) (aM rfl ?_))))
 refine aG rfl rfl (fun hc => qFA (off := 3) rfl) ?_
 refine aG rfl rfl (fun hc => ab 0 tk3 (aa rfl hc) rfl rfl) (aG rfl rfl (fun hc => cN (aa rfl hc) rfl) (aG rfl rfl (fun hc => ar (aa rfl hc)) (aG rfl rfl (fun hc => aN (o := 0) tk145 rfl (.of (an 1 rfl)) rfl) ?_)))
 refine aG rfl rfl (fun hc => qFA (off := 3) rfl) ?_
 refine aG rfl rfl (fun hc => ab 0 tk3 (aa rfl hc) rfl rfl) ?_
 refine aQ (caps := []) [1] (false) (by kernel_rfl) _ rfl rfl (fun _ => rfl) (fun hc => (aI (aa rfl hc) (aI (aa rfl hc) (aI (aa rfl rfl) rfl)))) (fun hc => by rw [List.append_nil]; exact lR o _ _) (fun c2 hc2 => ?_)
 refine aG rfl rfl (fun hc => bT (aa rfl hc)) (aG rfl rfl (fun hc => bn (aa rfl hc) rfl (fun h => gt hc h)) (aU rfl (ct rfl rfl (fun h => gf rfl h)) (aNn ?_)))
 refine ah _ rfl (fun h1 => ?_) (fun h1 => ?_)
 ·skip
  refine aSR (aA rfl (aNn (aq (aK ?_))))
  refine aV [] [] rfl Tryz.results175 rfl ?_ (.inr rfl)
  exact ⟨⟨rfl, rfl⟩, _, rfl, fun _ => trivial⟩
 ·skip
  have hsec : 0 ≤ x.sec ∧ x.sec < o.secs.l.length := by
    simp only [Bool.or_eq_false_iff, Bool.not_eq_false'] at h1
    exact hc1 rfl h1.1.1
  refine au (av (aSR ?_))
  refine aU rfl (qFA (off := 0) rfl) ?_
  refine aU rfl (qFA (off := 1) rfl) ?_
  refine aU rfl (aN (o := 1) tk50 rfl (.of (an 1 rfl)) rfl) ?_
  refine aU rfl (qFA (off := 0) rfl) ?_
  refine aU rfl (ab 0 tk3 rfl rfl rfl) ?_
  refine ck true rfl rfl (fun _ => ai Tryz.underlying50 tk85 rfl ((ax.f_secs (.of (an 2 rfl)))) rfl (cR (i := x.sec) (by omega) (by omega)) (by omega) rfl) (fun h => absurd h (by decide)) (fun ⟨b3_5, o3_5⟩ => ?_)
  refine aU rfl (qFA (off := 3) rfl) ?_
  refine aU rfl (aF (o := 3) tk3 rfl (an 0 rfl) rfl rfl) ?_
  refine aj (q := true) rfl (bp (zs := [.int .i64 0]) (by kernel_rfl) rfl (fun b3_8 => ?_))
  refine aHN ?_
  refine aj rfl (aT 1 tk3 rfl rfl rfl rfl ?_)
  refine aHK ?_
  refine aNs (bL 1 rfl rfl ?_)
  show awp _ _ _ _ ⟨_, At _ 0 _ :: _, _⟩
  refine ae ?_
  refine aj (q := true) rfl (bp (zs := [.nilFunc]) (by kernel_rfl) rfl (fun b4_0 => ?_))
  refine aHN ?_
  refine aj rfl (aT 2 tk189 rfl rfl rfl rfl ?_)
  refine aHK ?_
  refine aNs (bL 2 rfl rfl ?_)
  show awp _ _ _ _ ⟨_, At _ 0 _ :: _, _⟩
  refine ae ?_
  refine aU rfl (qFA (off := 2) rfl) ?_
  refine aU rfl (ab 0 tk208 rfl rfl rfl) (aU rfl (dq (l := [.tmp 5, .tmp 4]) rfl) ?_)
  refine aQ (caps := []) [6, 5, 0] (false) (by kernel_rfl) true rfl rfl (fun _ => rfl) (fun hc => rfl) (fun hc => by rw [List.append_nil]; exact (kZ x.pieces 178 [.pointer (some ⟨b4_0, 0, none⟩), .pointer (some ⟨b3_8, 0, none⟩)] (cx (At b4_0 0 [.v (.func (.func 176) #[] #[])]) (At b3_8 0 [.v (.int .i64 (elt o.secs.l x.sec).size)])) (fun _ => True) (by kernel_rfl) (fun y _ => (xb b4_0 b3_8 _ y).pre (eD fw.left fw.right))).pre (eD (bZ.f_pieces (.of (an 2 rfl))) (.mk2 (.of (an 0 rfl)) (.of (an 1 rfl))))) (fun c3 hc3 => ?_)
  refine aM rfl ?_
  refine aG rfl rfl (fun hc => qFA (off := 2) rfl) ?_
  refine aG rfl rfl (fun hc => ab 0 tk208 (aa rfl hc) rfl rfl) ?_
  refine aQ (caps := []) [0] (false) (by kernel_rfl) _ rfl rfl (fun _ => rfl) (fun hc => (aI (aa rfl hc) (aI (aa rfl rfl) rfl))) (fun hc => by rw [List.append_nil]; exact (kT x.pieces 180 [] x.ok (by kernel_rfl) (fun y _ z _ => xr y z _)).pre (eD (bZ.f_pieces (.of (an 0 rfl))) (.of (an 0 rfl)))) (fun c4 hc4 => ?_)
  refine aU rfl (bn rfl rfl (fun h => gt rfl h)) (aA rfl (aNn (aq ?_)))
  refine aV [] [] rfl Tryz.results175 rfl ?_ (.inr rfl)
  exact ⟨⟨rfl, rfl⟩, _, rfl, fun _ => trivial⟩
theorem mZ (o : ax) : Con Tryz.prog 76 [o.val] [o.ok] [] (YB True) := by
 refine Con.enter Tryz.func76 rfl (by simp [Tryz.ntmps76]) ?_
 show awp _ _ _ _ ⟨[(0, true, _)], _, _⟩
 refine aSR ?_
 refine aj (q := true) rfl (bI rfl rfl rfl (fun b0_0 => ?_))
 refine aHN ?_
 refine aA rfl (aNn (aSR (aU rfl (dq (l := [.tmp 1]) rfl) (aA rfl (cr ?_)))))
 refine av (aSR (aA rfl (aNs (bL 0 rfl rfl ?_))))
 show awp _ _ _ _ ⟨_, At _ 0 _ :: _, _⟩
 refine ae ?_
 refine aU rfl (qFA (off := 0) rfl) ?_
 refine aU rfl (qFA (off := 10) rfl) ?_
 refine aU rfl (aN (o := 10) tk59 rfl (.of (an 0 rfl)) rfl) (aM rfl ?_)
 refine aQ (caps := []) [1, 0] (false) (by kernel_rfl) true rfl rfl (fun _ => rfl) (fun hc => rfl) (fun hc => by rw [List.append_nil]; exact (jS o.converts 175 [.pointer (some ⟨b0_0, 0, none⟩)] (cx (At b0_0 0 o.row) o.ok) (fun _ => True) (by kernel_rfl) (fun x hx => (x1 b0_0 o x).pre (rY fw.left fw.right (.allm (ax.f_convertsA fw.right) hx)))).pre (eD (ax.f_converts (.of (an 1 rfl))) (.mk2 (.of (an 0 rfl)) (.of (an 1 rfl))))) (fun c1 hc1 => ?_)
 refine aM rfl ?_
 refine aG rfl rfl (fun hc => qFA (off := 0) rfl) ?_
 refine aG rfl rfl (fun hc => qFA (off := 10) (aa rfl hc)) ?_
 refine aG rfl rfl (fun hc => aN (o := 10) tk59 (aa rfl hc) (.of (an 0 rfl)) rfl) (aG rfl rfl (fun hc => ar rfl) ?_)
 refine aQ (caps := []) [0] (false) (by kernel_rfl) _ rfl rfl (fun _ => rfl) (fun hc => (aI (aa rfl hc) (aI (aa rfl hc) rfl))) (fun hc => by rw [List.append_nil]; exact (jK o.converts 181 [] o.ok (by kernel_rfl) (fun x _ y _ => xK x y _)).pre (eD (ax.f_converts (.of (an 0 rfl))) (.of (an 0 rfl)))) (fun c2 hc2 => ?_)
 refine aU rfl (bn rfl rfl (fun h => gt rfl h)) (aA rfl (aNn (aq ?_)))
 refine aV [] [] rfl Tryz.results76 rfl ?_ (.inr rfl)
 exact ⟨⟨rfl, rfl⟩, _, rfl, fun _ => trivial⟩
end Go.Proofs.YtgmiihmahaahiaaGreatDoor

namespace Go.Sy
open Go.RowKit Go.Lp
section
variable {P : Program} {d : Option Tmp} {ty : TypeId} {pos : String} {af : Array Edge} {gd : Option (Nat × Bool)}
theorem rO {f : FuncId} (hf : bE P f = true) {ts : Array TypeId} {g : Operand} {fst caps : Array Value} {ρ : Operand → Value} (hg : ρ g = .func (.func f) fst caps) (w : World) :
   (execOp ρ ⟨d, .call ⟨.value g, #[], ts⟩, ty, pos, af, gd⟩).run P w = .ok (.enter f (fst ++ caps)) w := by
 unfold execOp
 dsimp only
 show ((resolve ρ ⟨.value g, #[], ts⟩ ty).bind fun x => invoke x.target x.args).run P w = _
 have : resolve ρ ⟨.value g, #[], ts⟩ ty = Sem.pure { target := .fn (.func f) caps, args := fst } := by
   unfold resolve
   dsimp only
   rw [hg]
   show Deferred.ofValue _ _ = _
   unfold Deferred.ofValue
   dsimp only
   rw [Array.map_empty, Array.append_empty]
   rfl
 rw [this]
 show (callFunc f (fst ++ caps)).run P w = _
 exact gX hf _ w
variable {n : Fr} {s : Sta}
theorem gL {fn : Fn} {l : List Operand} {vs : List Value} (hx : evs s.env l = some vs) :
   Quiet P n ⟨d, .makeFunc fn l.toArray #[], ty, pos, af, gd⟩ s (.func fn vs.toArray #[]) := fun w S fp a hst he hn => by
 have : (execOp a.eval ⟨d, .makeFunc fn l.toArray #[], ty, pos, af, gd⟩).run P w = .ok (.value (.func fn (l.toArray.map a.eval) #[])) w := by
   show Result.ok (Next.value (.func fn (l.toArray.map a.eval) ((#[] : Array Operand).map a.eval))) w = _
   rw [Array.map_empty]
 rw [this, List.map_toArray, fI he l vs hx]
 exact bY _ _
variable {ops : Array Oper} {Q : Exit → Sta → Prop} {env : Env} {ps : List Per} {hp : List Res} {rest : List Oper}
theorem xL {t : Nat} {f : FuncId} {g : Operand} {fst : List Value} {ts : Array TypeId} {q : Bool} {R : Value → List Per → List Res → Prop} {K : Sta → Prop} (lp lh : List Nat) (hf : bE P f = true) (hgv : ev env g = some (true, .func (.func f) fst.toArray #[])) (ht : fits n (some t) = true) (ok : okH hp lh = true)
   (hq : (!q || lh.isEmpty) = true) (hc : Con P f fst (fA ps lp) (bX hp lh) R) (hK : ∀ v ps' hp', R v ps' hp' → K ⟨(t, true, v) :: env, ps' ++ ps, dt lh hp' 0 hp⟩) :
   Eff P n ⟨some t, .call ⟨.value g, #[], ts⟩, ty, pos, af, gd⟩ ⟨env, ps, hp⟩ q K := fun w S fp a hst he hn => by
 rw [rO hf (he.val hgv rfl)]
 obtain ⟨k1, k2⟩ := hst.bX lp lh ok
 have hcc := hc w S _ k1
 rw [Array.append_empty]
 refine hcc.mono fun e w' ⟨v, ps', hp', S', fp', he', hR, hst', hE, hg⟩ => ⟨v, he', ?_⟩
 obtain ⟨m1, m2⟩ := hst.back lp lh ok hst' hE hg
 refine ⟨_, S', _, hK v ps' hp' hR, m1, ?_, hE.wider k2, m2, fun hq' => ?_⟩
 · exact he.put (g := true) (by rw [hn]; simpa [fits] using ht) v
 · rw [hq'] at hq
   have : lh = [] := by simpa using hq
   subst this
   exact hE.toX (fun b hb => tz _ b hb)
theorem v7 {β : Type} {v : β → Value} {Φ : β → Prop} {t : Nat} {f : FuncId} {g : Operand} {fst : List Value} {ts : Array TypeId} (lp : List Nat) (hf : bE P f = true) (hc : guardOf ops env ⟨some t, .call ⟨.value g, #[], ts⟩, ty, pos, af, gd⟩ = some true) (ht : fits n.size (some t) = true)
   (hgv : ev env g = some (true, .func (.func f) fst.toArray #[])) (hcon : Con P f fst (fA ps lp) [] (YN v Φ))
   (h : ∀ b, Φ b → aL P n ops Q rest ⟨(t, true, v b) :: env, ps, hp⟩) : aL P n ops Q (⟨some t, .call ⟨.value g, #[], ts⟩, ty, pos, af, gd⟩ :: rest) ⟨env, ps, hp⟩ := by
 refine aj (q := true) hc (xL lp [] hf hgv ht rfl rfl hcon ?_)
 rintro _ _ _ ⟨⟨rfl, rfl⟩, b, rfl, hb⟩
 refine tr ?_ (h b hb)
 apply List.ext_getElem?; intro i; rw [iN]
 by_cases hi : i < hp.length
 · rw [if_pos hi]; rfl
 · rw [if_neg hi, List.getElem?_eq_none (by simp), List.getElem?_eq_none (by omega)]
end
end Go.Sy

namespace Go.Proofs.YtgmiihmahaahiaaGreatDoor
open Go.RowKit Go.Lp Go.Sy
open Go.Proofs.Tryz
attribute [local irreducible] aL aB awp aC fwp
structure yZ (o : ax) : Prop where
 secs : ∀ s ∈ o.secs.l, s.bytes.size ≤ 1048576
 syms : ∀ s ∈ o.syms.l, (s.sec = -1 ∧ s.bind ≠ 0) ∨ (0 ≤ s.sec ∧ s.sec < o.secs.l.length)
 groups : ∀ g ∈ o.groups.l, g.secs.l.length ≤ o.secs.l.length ∧ ∀ z ∈ g.secs.l, 0 ≤ z ∧ z < o.secs.l.length
def RtK (o : ax) (k : Nat) : Prop := match k with
 | 0 => ∀ s ∈ o.secs.l, s.bytes.size ≤ 1048576
 | 1 => ∀ s ∈ o.syms.l, (s.sec = -1 ∧ s.bind ≠ 0) ∨ (0 ≤ s.sec ∧ s.sec < o.secs.l.length)
 | 3 => ∀ g ∈ o.groups.l, g.secs.l.length ≤ o.secs.l.length ∧ ∀ z ∈ g.secs.l, 0 ≤ z ∧ z < o.secs.l.length
 | _ => True
abbrev zg : List FuncId := [67, 68, 69, 70, 71, 72, 73, 74, 75, 76]
structure sP (o : ax) : Prop where
 secs : o.secs.l.length ≤ 1000
 groups : o.groups.l.length ≤ 1000
 inlines : o.inlines.l.length ≤ 1000
theorem zW (o : ax) (hf : sP o) : ∀ k : Nat, k < 10 → ∃ f, zg[k]? = some f ∧ bE Tryz.prog f = true ∧ Con Tryz.prog f [o.val] [dT, o.ok] [] (YN Value.bool fun b => b = true → RtK o k) := by
 have up : ∀ {f : FuncId} {Φ : Prop}, Con Tryz.prog f [o.val] [o.ok] [] (YB Φ) → Con Tryz.prog f [o.val] [dT, o.ok] [] (YN Value.bool fun b => b = true → Φ) := fun h => h.pre fun p hp => (List.mem_singleton.1 hp) ▸ .of (an 1 rfl)
 intro k hk
 rcases (by omega : k = 0 ∨ k = 1 ∨ k = 2 ∨ k = 3 ∨ k = 4 ∨ k = 5 ∨ k = 6 ∨ k = 7 ∨ k = 8 ∨ k = 9) with rfl | rfl | rfl | rfl | rfl | rfl | rfl | rfl | rfl | rfl
 · exact ⟨_, rfl, by kernel_rfl, up (uA o)⟩
 · exact ⟨_, rfl, by kernel_rfl, up (tX o)⟩
 · exact ⟨_, rfl, by kernel_rfl, vt o⟩
 · exact ⟨_, rfl, by kernel_rfl, up (qt o hf.groups hf.secs)⟩
 · exact ⟨_, rfl, by kernel_rfl, up (rM o)⟩
 · exact ⟨_, rfl, by kernel_rfl, up (rA o)⟩
 · exact ⟨_, rfl, by kernel_rfl, up (oI o hf.inlines)⟩
 · exact ⟨_, rfl, by kernel_rfl, up (uT o)⟩
 · exact ⟨_, rfl, by kernel_rfl, up (qB o)⟩
 · exact ⟨_, rfl, by kernel_rfl, up (mZ o)⟩
theorem tk25 : tyk Tryz.prog 25 = some (false, 1) := by kernel_rfl
theorem rN (o : ax) (hf : sP o) : Con Tryz.prog 30 [o.val] [dT, o.ok] [] (YB (yZ o)) := by
 refine Con.enter Tryz.func30 rfl (by simp [Tryz.ntmps30]) ?_
 show awp _ _ _ _ ⟨[(0, true, _)], _, _⟩
 refine eR (ax.f_name (.of (an 1 rfl))) (fun hnl => ?_)
 refine aSR ?_
 refine aj (q := true) rfl (bI rfl rfl rfl (fun b0_0 => ?_))
 refine aHN ?_
 refine aA rfl (aNn (aSR (aU rfl (ab 0 tk61 rfl rfl rfl) ?_)))
 refine aU rfl (cU (l := [(0, .tmp 6)]) (zs := [.string .empty, .slice none 0 0, .slice none 0 0, .slice none 0 0, .slice none 0 0, .slice none 0 0, .slice none 0 0, .slice none 0 0, .slice none 0 0, .slice none 0 0, .slice none 0 0]) (pl := [(0, 11)]) (by kernel_rfl) (by kernel_rfl) (by kernel_rfl) rfl rfl rfl) ?_
 refine aj (q := true) rfl (bp (zs := [.string .empty, .slice none 0 0, .slice none 0 0, .slice none 0 0, .slice none 0 0, .slice none 0 0, .slice none 0 0, .slice none 0 0, .slice none 0 0, .slice none 0 0, .slice none 0 0]) (by kernel_rfl) rfl (fun b1_2 => ?_))
 refine aHN ?_
 refine aj rfl (aT 1 tk145 rfl rfl rfl rfl ?_)
 refine aHK ?_
 refine aNs (aSR (aU rfl (ab 1 tk145 rfl rfl rfl) (aU rfl (gL (l := [.tmp 8]) rfl) (aU rfl (ab 1 tk145 rfl rfl rfl) (aU rfl (gL (l := [.tmp 10]) rfl) (aU rfl (ab 1 tk145 rfl rfl rfl) (aU rfl (gL (l := [.tmp 12]) rfl) (aU rfl (ab 1 tk145 rfl rfl rfl) (aU rfl (gL (l := [.tmp 14]) rfl) (aU rfl (ab 1 tk145 rfl rfl rfl) (aU rfl (gL (l := [.tmp 16]) rfl) (aU rfl (ab 1 tk145 rfl rfl rfl) ?_))))))))))))
 refine aU rfl (gL (l := [.tmp 18]) rfl) (aU rfl (ab 1 tk145 rfl rfl rfl) (aU rfl (gL (l := [.tmp 20]) rfl) (aU rfl (ab 1 tk145 rfl rfl rfl) (aU rfl (gL (l := [.tmp 22]) rfl) (aU rfl (ab 1 tk145 rfl rfl rfl) (aU rfl (gL (l := [.tmp 24]) rfl) (aU rfl (ab 1 tk145 rfl rfl rfl) (aU rfl (gL (l := [.tmp 26]) rfl) ?_))))))))
 refine aj (q := true) rfl (cG (zs := [.nilFunc]) (l := [(0, .tmp 9), (1, .tmp 11), (2, .tmp 13), (3, .tmp 15), (4, .tmp 17), (5, .tmp 19), (6, .tmp 21), (7, .tmp 23), (8, .tmp 25), (9, .tmp 27)]) el146 (by kernel_rfl) (by decide) (by decide) (by decide) rfl rfl rfl (.more rfl (.v rfl .nil) (.more rfl (.v rfl .nil) (.more rfl (.v rfl .nil) (.more rfl (.v rfl .nil) (.more rfl (.v rfl .nil) (.more rfl (.v rfl .nil) (.more rfl (.v rfl .nil) (.more rfl (.v rfl .nil) (.more rfl (.v rfl .nil) (.more rfl (.v rfl .nil) .nil)))))))))) rfl rfl (fun v2_20 => ?_))
 refine aHN ?_
 refine aU rfl (fG 2 Tryz.underlying146 rfl rfl) (aM rfl (aNn (aw ?_)))
 refine aP [1, 28, 29, 30] [1, 0] [0, 2] (fun (k : Nat) s => (k ≤ 10 ∧ ∀ j, j < k → RtK o j) ∧ s = ⟨[(1, true, .pointer (some ⟨b0_0, 0, none⟩)), (28, true, .slice v2_20 10 10), (29, true, .int .i64 (10 : Nat)), (30, true, .int .i64 k)], [dT, o.ok], [Box b0_0 61 o.vs, bA (.slice v2_20 10 10) 25 1 (zg.map fun f => [.v (.func (.func f) #[o.val] #[])])]⟩) (fun k => 10 - k) rfl (⟨0, ⟨Nat.zero_le _, fun j h => by omega⟩, rfl⟩) ?_
 rintro k s ⟨⟨hk, hR⟩, rfl⟩
 refine aSR (aU rfl (bt rfl rfl) (aNs ?_))
 refine ah _ rfl (fun h1 => ?_) (fun h1 => ?_)
 ·skip
  have hk' : k < 10 := by simp at h1; omega
  obtain ⟨f, hfk, hfo, hfc⟩ := zW o hf k hk'
  have hrow : (zg.map fun f => [D.v (.func (.func f) #[o.val] #[])])[k]? = some [.v (.func (.func f) #[o.val] #[])] := by rw [List.getElem?_map, hfk]; rfl
  refine au (av (az (aw (aSR (aU rfl (dV 1 k el146 rfl rfl rfl rfl hk') (aU rfl (ez 1 k 0 tk25 rfl rfl hrow rfl rfl) (aA rfl (aNn (aSR (aM rfl ?_))))))))))
  refine v7 (fst := [o.val]) [1, 0] hfo rfl rfl rfl hfc (fun c1 hc1 => ?_)
  refine aU rfl (bT rfl) (aNn ?_)
  refine ah _ rfl (fun h2 => ?_) (fun h2 => ?_)
  ·skip
   refine aSR (aA rfl (aNn (aq (bj (aK (aK (bj (aK ?_))))))))
   refine aV [] [] rfl Tryz.results30 rfl ?_ (.inr rfl)
   exact ⟨⟨rfl, rfl⟩, _, rfl, fun h => by cases h⟩
  ·skip
   refine au (bu (av (ae ?_)))
   refine aU rfl (bf rfl rfl (by omega)) ?_
   refine aM rfl (aNn ?_)
   refine ⟨[1, 28, 29, 30], [1, 0], [0, 1], rfl, ?_⟩
   refine ⟨k + 1, ⟨⟨by omega, fun j hj => ?_⟩, rfl⟩, by omega⟩
   by_cases hjk : j = k
   · subst hjk; exact hc1 (by simpa using h2)
   · exact hR j (by omega)
 ·skip
  refine aR (aS (aS (aY (av (aSR ?_)))))
  refine aU rfl (qFA (off := 0) rfl) ?_
  refine aU rfl (ab 0 tk9 rfl rfl rfl) ?_
  refine aQ (caps := []) [] (false) (by kernel_rfl) true rfl rfl (fun _ => rfl) (fun hc => rfl) (fun hc => by rw [List.append_nil]; exact eY _ hnl) (fun c2 hc2 => ?_)
  refine aA rfl (aNn (aq ?_))
  refine aV [] [] rfl Tryz.results30 rfl ?_ (.inr rfl)
  have hk10 : k = 10 := by simp at h1; omega
  subst hk10
  exact ⟨⟨rfl, rfl⟩, _, rfl, fun _ => ⟨hR 0 (by omega), hR 1 (by omega), hR 3 (by omega)⟩⟩
end Go.Proofs.YtgmiihmahaahiaaGreatDoor

namespace Go.Sy
open Go.RowKit Go.Lp
theorem zd {P : Program} {n : Fr} {s : Sta} {d : Option Tmp} {ty : TypeId} {pos : String} {af : Array Edge} {gd : Option (Nat × Bool)} {x : Operand} {T t' E : TypeId} {ad : Option Addr} {k c : Nat} (hT : P.underlying T = some (.slice E)) (hx : ev s.env x = some (true, .slice ad k c)) : Quiet P n ⟨d, .binOp .neq T x (.const (.slice none 0 0)) t', ty, pos, af, gd⟩ s (.bool (!ad.isNone)) :=
 .run2 (vy := .slice none 0 0) hx rfl fun ρ w h1 h2 => by
   unfold execOp; dsimp only; rw [h1, h2]
   simp only [eqGuard_at_slice, binOp, Sem.run_bind, Sem.run_pure, run_equal_slice_nil w T E ad k c hT, Result.andThen_ok]
end Go.Sy
namespace Go.Proofs.YtgmiihmahaahiaaGreatDoor
open Go.RowKit Go.Lp Go.Sy
open Go.Proofs.Tryz
attribute [local irreducible] aL aB awp aC fwp
theorem x3 (o : ax) (sec : Int) : Con Tryz.prog 187 [o.val, .int .i64 sec] [o.ok] [] (YB (0 ≤ sec ∧ sec < o.secs.l.length)) := by
 refine Con.enter Tryz.func187 rfl (by simp [Tryz.ntmps187]) ?_
 show awp _ _ _ _ ⟨[(0, true, _), (1, true, _)], _, _⟩
 refine bd (ax.f_secs (.of (an 0 rfl))) (fun hlen => ?_)
 refine aSR ?_
 refine aj (q := true) rfl (bI rfl rfl rfl (fun b0_0 => ?_))
 refine aHN ?_
 refine aA rfl (aNn (aSR (aM rfl ?_)))
 refine aU rfl (qFA (off := 1) rfl) ?_
 refine aU rfl (ab 0 tk50 rfl rfl rfl) (aU rfl (aZ Tryz.underlying50 rfl) ?_)
 refine aU rfl (bw (by kernel_rfl) rfl (fun w S fp hst => (cB _ _).quiet0 hst)) ?_
 refine aM rfl ?_
 refine aG rfl rfl (fun hc => qFA (off := 1) rfl) ?_
 refine aG rfl rfl (fun hc => ab 0 tk50 (aa rfl hc) rfl rfl) (aG rfl rfl (fun hc => ar rfl) ?_)
 refine ck _ rfl rfl (fun hc => ai Tryz.underlying50 tk85 (aa rfl hc) ((ax.f_secs (.of (an 0 rfl)))) (aa rfl hc) (cR (i := sec) (by simp at hc; omega) (by simp at hc; omega)) (by simp at hc; omega) rfl) (fun _ => ⟨(0, 0)⟩) (fun ⟨b1_9, o1_9⟩ => ?_)
 refine aG rfl rfl (fun hc => qFA (off := 1) (aa rfl hc)) ?_
 refine aG rfl rfl (fun hc => aF (o := 1) tk3 (aa rfl hc) (an 0 rfl) hc rfl) (aG rfl rfl (fun hc => cL (aa rfl hc) rfl) (aU rfl (bn rfl rfl (fun h => gt rfl h)) (aM rfl ?_)))
 refine aG rfl rfl (fun hc => qFA (off := 1) rfl) ?_
 refine aG rfl rfl (fun hc => ab 0 tk50 (aa rfl hc) rfl rfl) (aG rfl rfl (fun hc => ar rfl) ?_)
 refine ck _ rfl rfl (fun hc => ai Tryz.underlying50 tk85 (aa rfl hc) ((ax.f_secs (.of (an 1 rfl)))) (aa rfl hc) (cR (i := sec) (by simp at hc; omega) (by simp at hc; omega)) (by simp at hc; omega) rfl) (fun _ => ⟨(0, 0)⟩) (fun ⟨b1_18, o1_18⟩ => ?_)
 refine aG rfl rfl (fun hc => qFA (off := 2) (aa rfl hc)) ?_
 refine aG rfl rfl (fun hc => aF (o := 2) tk3 (aa rfl hc) (an 0 rfl) hc rfl) (aG rfl rfl (fun hc => cL (aa rfl hc) rfl) (aU rfl (bn rfl rfl (fun h => gt rfl h)) (aM rfl ?_)))
 refine aG rfl rfl (fun hc => qFA (off := 1) rfl) ?_
 refine aG rfl rfl (fun hc => ab 0 tk50 (aa rfl hc) rfl rfl) (aG rfl rfl (fun hc => ar rfl) ?_)
 refine ck _ rfl rfl (fun hc => ai Tryz.underlying50 tk85 (aa rfl hc) ((ax.f_secs (.of (an 2 rfl)))) (aa rfl hc) (cR (i := sec) (by simp at hc; omega) (by simp at hc; omega)) (by simp at hc; omega) rfl) (fun _ => ⟨(0, 0)⟩) (fun ⟨b1_27, o1_27⟩ => ?_)
 refine aG rfl rfl (fun hc => qFA (off := 3) (aa rfl hc)) ?_
 refine aG rfl rfl (fun hc => aF (o := 3) tk3 (aa rfl hc) (an 0 rfl) hc rfl) (aG rfl rfl (fun hc => cL (aa rfl hc) rfl) (aU rfl (bn rfl rfl (fun h => gt rfl h)) (aA rfl (aNn (aq ?_)))))
 refine aV [] [] rfl Tryz.results187 rfl ?_ (.inr rfl)
 refine ⟨⟨rfl, rfl⟩, _, rfl, fun hb => ?_⟩
 simp at hb; omega
theorem w8 (k : Int) : Con Tryz.prog 141 [.int .i64 k] [] [] fun r ps hp => ps = [] ∧ hp = [] ∧ ∃ (ad : Option Addr) (m c : Nat), r = .slice ad m c ∧ (ad ≠ none → gI k = 8) := by
 refine Con.enter Tryz.func141 rfl (by simp [Tryz.ntmps141]) ?_
 show awp _ _ _ _ ⟨[(0, true, _)], _, _⟩
 refine aSR (aA rfl (aNs (aSR (aM rfl (aNn (aw (aSR (aU rfl (bB rfl rfl) (aA rfl (aNn ?_))))))))))
 refine ah _ rfl (fun h1 => ?_) (fun h1 => ?_)
 ·skip
  refine aSR ?_
  refine aj (q := true) rfl (cG (zs := [.int .i64 0]) (l := [(0, .const (.int .i64 14)), (1, .const (.int .i64 19)), (2, .const (.int .i64 20)), (3, .const (.int .i64 21))]) el90 (by kernel_rfl) (by decide) (by decide) (by decide) rfl rfl rfl (.more rfl (.v rfl .nil) (.more rfl (.v rfl .nil) (.more rfl (.v rfl .nil) (.more rfl (.v rfl .nil) .nil)))) rfl rfl (fun v3_0 => ?_))
  refine aHN ?_
  refine aA rfl (aNn (aq (bj (aK ?_))))
  refine aV [] [] rfl Tryz.results141 rfl ?_ (.inr rfl)
  exact ⟨rfl, rfl, v3_0, _, _, rfl, fun _ => by rw [show k = 5 by simpa using h1]; rfl⟩
 ·skip
  refine aSR (aU rfl (bB rfl rfl) (aA rfl (aNn ?_)))
  refine ah _ rfl (fun h2 => ?_) (fun h2 => ?_)
  ·skip
   refine aSR ?_
   refine aj (q := true) rfl (cG (zs := [.int .i64 0]) (l := [(0, .const (.int .i64 22))]) el90 (by kernel_rfl) (by decide) (by decide) (by decide) rfl rfl rfl (.more rfl (.v rfl .nil) .nil) rfl rfl (fun v5_0 => ?_))
   refine aHN ?_
   refine aA rfl (aNn (aq (bj (aK ?_))))
   refine aV [] [] rfl Tryz.results141 rfl ?_ (.inr rfl)
   exact ⟨rfl, rfl, v5_0, _, _, rfl, fun _ => by rw [show k = 6 by simpa using h2]; rfl⟩
  ·skip
   refine aSR (aU rfl (bB rfl rfl) (aA rfl (aNn ?_)))
   refine ah _ rfl (fun h3 => ?_) (fun h3 => ?_)
   ·skip
    refine aSR ?_
    refine aj (q := true) rfl (cG (zs := [.int .i64 0]) (l := [(0, .const (.int .i64 24)), (1, .const (.int .i64 25))]) el90 (by kernel_rfl) (by decide) (by decide) (by decide) rfl rfl rfl (.more rfl (.v rfl .nil) (.more rfl (.v rfl .nil) .nil)) rfl rfl (fun v7_0 => ?_))
    refine aHN ?_
    refine aA rfl (aNn (aq (bj (aK ?_))))
    refine aV [] [] rfl Tryz.results141 rfl ?_ (.inr rfl)
    exact ⟨rfl, rfl, v7_0, _, _, rfl, fun _ => by rw [show k = 7 by simpa using h3]; rfl⟩
   ·skip
    refine aSR (aU rfl (bB rfl rfl) (aA rfl (aNn ?_)))
    refine ah _ rfl (fun h4 => ?_) (fun h4 => ?_)
    ·skip
     refine aSR ?_
     refine aj (q := true) rfl (cG (zs := [.int .i64 0]) (l := [(0, .const (.int .i64 3))]) el90 (by kernel_rfl) (by decide) (by decide) (by decide) rfl rfl rfl (.more rfl (.v rfl .nil) .nil) rfl rfl (fun v9_0 => ?_))
     refine aHN ?_
     refine aA rfl (aNn (aq (bj (aK ?_))))
     refine aV [] [] rfl Tryz.results141 rfl ?_ (.inr rfl)
     exact ⟨rfl, rfl, v9_0, _, _, rfl, fun _ => by rw [show k = 8 by simpa using h4]; rfl⟩
    ·skip
     refine aSR (aU rfl (bB rfl rfl) (aA rfl (aNn ?_)))
     refine ah _ rfl (fun h5 => ?_) (fun h5 => ?_)
     ·skip
      refine aSR ?_
      refine aj (q := true) rfl (cG (zs := [.int .i64 0]) (l := [(0, .const (.int .i64 4))]) el90 (by kernel_rfl) (by decide) (by decide) (by decide) rfl rfl rfl (.more rfl (.v rfl .nil) .nil) rfl rfl (fun v11_0 => ?_))
      refine aHN ?_
      refine aA rfl (aNn (aq (bj (aK ?_))))
      refine aV [] [] rfl Tryz.results141 rfl ?_ (.inr rfl)
      exact ⟨rfl, rfl, v11_0, _, _, rfl, fun _ => by rw [show k = 9 by simpa using h5]; rfl⟩
     ·skip
      refine aSR (aU rfl (bB rfl rfl) (aA rfl (aNn ?_)))
      refine ah _ rfl (fun h6 => ?_) (fun h6 => ?_)
      ·skip
       refine aSR ?_
       refine aj (q := true) rfl (cG (zs := [.int .i64 0]) (l := [(0, .const (.int .i64 13)), (1, .const (.int .i64 3))]) el90 (by kernel_rfl) (by decide) (by decide) (by decide) rfl rfl rfl (.more rfl (.v rfl .nil) (.more rfl (.v rfl .nil) .nil)) rfl rfl (fun v13_0 => ?_))
       refine aHN ?_
       refine aA rfl (aNn (aq (bj (aK ?_))))
       refine aV [] [] rfl Tryz.results141 rfl ?_ (.inr rfl)
       exact ⟨rfl, rfl, v13_0, _, _, rfl, fun _ => by rw [show k = 10 by simpa using h6]; rfl⟩
      ·skip
       refine au (bu (av (aSR (aA rfl (aNn (aq ?_))))))
       refine aV [] [] rfl Tryz.results141 rfl ?_ (.inr rfl)
       exact ⟨rfl, rfl, none, 0, 0, rfl, fun h => absurd rfl h⟩
theorem rz (k : Int) : 2 ≤ gI k ∧ gI k ≤ 8 := by unfold gI; split <;> (try split) <;> decide
theorem xo (o : ax) (hb : ∀ s ∈ o.secs.l, s.bytes.size ≤ 1048576) (sec : Int) : Con Tryz.prog 82 [o.val, .int .i64 sec] [dn, dm, o.ok] [] fun r ps hp => ps = [] ∧ hp = [] ∧ ∃ t : ByteArray, r = .string t := by
 refine Con.enter Tryz.func82 rfl (by simp [Tryz.ntmps82]) ?_
 show awp _ _ _ _ ⟨[(0, true, _), (1, true, _)], _, _⟩
 refine bd (ax.f_secs (.of (an 2 rfl))) (fun hlen => ?_)
 refine bd (ax.f_rels (.of (an 2 rfl))) (fun hlen2 => ?_)
 refine aSR ?_
 refine aj (q := true) rfl (bI rfl rfl rfl (fun b0_0 => ?_))
 refine aHN ?_
 refine aA rfl (aNs (aSR (aU rfl (ab 0 tk61 rfl rfl rfl) (aM rfl ?_))))
 refine aQ (caps := []) [0] (false) (by kernel_rfl) true rfl rfl (fun _ => rfl) (fun hc => rfl) (fun hc => by rw [List.append_nil]; exact x3 o _) (fun c1 hc1 => ?_)
 refine aU rfl (bT rfl) (aNn ?_)
 refine ah _ rfl (fun h1 => ?_) (fun h1 => ?_)
 ·skip
  refine aSR (aA rfl (aNn (aq (aK ?_))))
  refine aV [] [] rfl Tryz.results82 rfl ?_ (.inr rfl)
  exact ⟨rfl, rfl, _, rfl⟩
 ·skip
  have hsec : 0 ≤ sec ∧ sec < o.secs.l.length := hc1 rfl (by simpa using h1)
  have hsm := lV (l := o.secs.l) (i := sec) hsec.2 hsec.1
  have hbs := hb _ (List.mem_of_getElem? hsm)
  generalize hss : elt o.secs.l sec = s at hsm hbs
  refine au (av (aSR ?_))
  refine aU rfl (qFA (off := 1) rfl) ?_
  refine aU rfl (ab 0 tk50 rfl rfl rfl) (aM rfl ?_)
  refine ck true rfl rfl (fun _ => ai Tryz.underlying50 tk85 rfl ((ax.f_secs (.of (an 2 rfl)))) rfl (row := s.row) (hss ▸ cR (i := sec) hsec.2 hsec.1) (by omega) rfl) (fun h => absurd h (by decide)) (fun ⟨b3_3, o3_3⟩ => ?_)
  refine aU rfl (aF (o := 0) tk85 rfl (an 0 rfl) rfl rfl) ?_
  refine aj (q := true) rfl (bp (zs := [.string .empty, .int .i64 0, .int .i64 0, .int .i64 0, .string .empty, .bool false]) (by kernel_rfl) rfl (fun b3_5 => ?_))
  refine aHN ?_
  refine aj rfl (aT 1 tk85 rfl rfl rfl rfl ?_)
  refine aHK ?_
  refine aNn (aSR ?_)
  refine aU rfl (qFA (off := 4) rfl) ?_
  refine aU rfl (ab 1 tk9 rfl rfl rfl) ?_
  refine aj (q := true) rfl (qq Tryz.underlying9 Tryz.underlying280 Tryz.underlying5 rfl rfl (fun gb cb hcb => ?_))
  refine aHN ?_
  refine aA rfl (aNs (aSR ?_))
  refine aU rfl (qFA (off := 3) rfl) ?_
  refine aU rfl (ab 0 tk52 rfl rfl rfl) (aU rfl (aZ Tryz.underlying52 rfl) (aM rfl (aNn (aw (aP [1, 2, 5, 6, 24, 25, 26] [2, 1, 0] [0, 1, 2] (fun (k : Nat) st => k ≤ o.rels.l.length ∧ st = ⟨[(1, true, .int .i64 sec), (2, true, .pointer (some ⟨b0_0, 0, none⟩)), (5, true, .pointer (some ⟨b3_5, 0, none⟩)), (6, true, .slice (some ⟨gb, 0, none⟩) s.bytes.size cb), (24, true, o.rels.val), (25, true, .int .i64 o.rels.l.length), (26, true, .int .i64 k)], [dn, dm, o.ok], [Box b0_0 61 o.vs, Box b3_5 85 s.vs, ByB gb cb]⟩) (fun k => o.rels.l.length - k) rfl (⟨0, Nat.zero_le _, rfl⟩) ?_)))))
  rintro k st ⟨hk, rfl⟩
  refine aSR (aU rfl (bt rfl rfl) (aNs ?_))
  refine ah _ rfl (fun h2 => ?_) (fun h2 => ?_)
  ·skip
   have hk' : k < o.rels.l.length := by simpa using h2
   obtain ⟨r, hr⟩ : ∃ r, o.rels.l[k]? = some r := ⟨_, List.getElem?_eq_getElem hk'⟩
   have hw := rz r.kind
   refine au (av (az (aw (aSR ?_))))
   refine ck true rfl rfl (fun _ => ai Tryz.underlying52 tk182 rfl ((ax.f_rels (.of (an 2 rfl)))) rfl (aJ hr) rfl rfl) (fun h => absurd h (by decide)) (fun ⟨b7_0, o7_0⟩ => ?_)
   refine aU rfl (aF (o := 0) tk182 rfl (an 0 rfl) rfl rfl) ?_
   refine aj (q := true) rfl (bp (zs := [.int .i64 0, .int .i64 0, .int .i64 0, .int .i64 0, .int .i64 0]) (by kernel_rfl) rfl (fun b7_2 => ?_))
   refine aHN ?_
   refine aj rfl (aT 3 tk182 rfl rfl rfl rfl ?_)
   refine aHK ?_
   refine aNn (aSR ?_)
   refine aU rfl (qFA (off := 2) rfl) ?_
   refine aU rfl (ab 3 tk3 rfl rfl rfl) ?_
   refine aU rfl (bw (by kernel_rfl) rfl (fun w S fp hst => (jj _).quiet0 hst)) ?_
   refine aA rfl (aNs (aSR ?_))
   refine aU rfl (qFA (off := 0) rfl) ?_
   refine aU rfl (ab 3 tk3 rfl rfl rfl) (aM rfl (aU rfl (cN rfl rfl) (aM rfl ?_)))
   refine aG rfl rfl (fun hc => qFA (off := 2) rfl) ?_
   refine aG rfl rfl (fun hc => ab 3 tk3 (aa rfl hc) rfl rfl) ?_
   refine aG rfl rfl (fun hc => bw (by kernel_rfl) (aI (aa rfl hc) (aI (aa rfl rfl) rfl)) (fun w S fp hst => (cB _ _).quiet0 hst)) ?_
   refine aG rfl rfl (fun hc => bT (aa rfl hc)) (aU rfl (ct rfl rfl (fun h => gf rfl h)) (aM rfl ?_))
   refine aG rfl rfl (fun hc => qFA (off := 1) rfl) ?_
   refine aG rfl rfl (fun hc => ab 3 tk3 (aa rfl hc) rfl rfl) (aG rfl rfl (fun hc => bt (aa rfl hc) rfl) (aU rfl (ct rfl rfl (fun h => gf rfl h)) (aM rfl ?_)))
   refine aG rfl rfl (fun hc => qFA (off := 1) rfl) ?_
   refine aG rfl rfl (fun hc => ab 3 tk3 (aa rfl hc) rfl rfl) (aG rfl rfl (fun hc => ar rfl) (aG rfl rfl (fun hc => aZ Tryz.underlying280 (aa rfl hc)) (aG rfl rfl (fun hc => ar rfl) ?_)))
   refine aG rfl rfl (fun hc => dX (aa rfl hc) (aa rfl hc) (by (first | omega | (simp at hc; omega)))) ?_
   refine aG rfl rfl (fun hc => du (aa rfl hc) (aa rfl hc)) (aU rfl (ct rfl rfl (fun h => gf rfl h)) (aNn ?_))
   refine ah _ rfl (fun h3 => ?_) (fun h3 => ?_)
   ·skip
    refine aR (aS (aY (av (ae ?_))))
    refine aU rfl (bf rfl rfl (by omega)) ?_
    refine aM rfl (aNn ?_)
    refine ⟨[1, 2, 5, 6, 24, 25, 26], [2, 1, 0], [0, 1, 2], rfl, ?_⟩
    exact ⟨k + 1, ⟨by omega, rfl⟩, by omega⟩
   ·skip
    have hat : 0 ≤ r.at_ ∧ r.at_ + gI r.kind ≤ s.bytes.size := by simp at h3; omega
    obtain ⟨a0, ha0⟩ := Int.eq_ofNat_of_zero_le hat.1
    obtain ⟨w0, hw0⟩ := Int.eq_ofNat_of_zero_le (show 0 ≤ gI r.kind by omega)
    refine au (av (aSR (aM rfl ?_)))
    refine aU rfl (qFA (off := 1) rfl) ?_
    refine aU rfl (ab 3 tk3 rfl rfl rfl) ?_
    refine aU rfl (qFA (off := 1) rfl) ?_
    refine aU rfl (ab 3 tk3 rfl rfl rfl) (aM rfl ?_)
    refine aU rfl (bf rfl rfl (by omega)) ?_
    refine aU rfl (gr a0 (a0 + w0) el280 rfl rfl rfl ha0 (by omega) (by omega) (by omega) hcb) ?_
    refine aA rfl (aNs (aSR ?_))
    refine aU rfl (qFA (off := 2) rfl) ?_
    refine aU rfl (ab 3 tk3 rfl rfl rfl) ?_
    refine aj (q := true) rfl (bF [] [] (by kernel_rfl) rfl rfl rfl rfl (w8 _) ?_)
    rintro _ _ _ ⟨rfl, rfl, oad, om, oc, rfl, how⟩
    refine aST ?_
    refine aU rfl (zd Tryz.underlying90 rfl) (aNn ?_)
    refine ah _ rfl (fun h4 => ?_) (fun h4 => ?_)
    ·skip
     have hw8 : w0 = 8 := by
       have := how (by intro e; subst e; simp at h4)
       omega
     refine ae (aM rfl ?_)
     refine aU rfl (iY 4 (a0 + w0 - a0 - 4) (0 + a0 * 1 + 4 * 1) el280 rfl rfl rfl (by omega) (by omega) rfl rfl) ?_
     refine aA rfl (aNn (ae (aM rfl ?_)))
     refine aj (q := false) rfl (pQ (cap := cb) 2 Tryz.underlying280 Tryz.zeroValue5 rfl rfl (by omega) (by omega) ?_)
     refine cr (bu (av (ae ?_)))
     refine aU rfl (bf rfl rfl (by omega)) ?_
     refine aM rfl (aNn ?_)
     refine ⟨[1, 2, 5, 6, 24, 25, 26], [2, 1, 0], [0, 1, 2], rfl, ?_⟩
     exact ⟨k + 1, ⟨by omega, rfl⟩, by omega⟩
    ·skip
     refine au (av (ae (aM rfl ?_)))
     refine aj (q := false) rfl (pQ (cap := cb) 2 Tryz.underlying280 Tryz.zeroValue5 rfl rfl (by omega) (by omega) ?_)
     refine cr (bu (av (ae ?_)))
     refine aU rfl (bf rfl rfl (by omega)) ?_
     refine aM rfl (aNn ?_)
     refine ⟨[1, 2, 5, 6, 24, 25, 26], [2, 1, 0], [0, 1, 2], rfl, ?_⟩
     exact ⟨k + 1, ⟨by omega, rfl⟩, by omega⟩
  ·skip
   refine aR (aS (aS (aY (av (az ?_)))))
   refine aX [] (by kernel_rfl) ?_
   show aB _ _ _ _ _ 17 #[false, false, false, false, false, false, false, false, false, false, false, false, false, false, false, false, false] _
   refine bV 0 rfl rfl (qFA (off := 1) rfl) ?_
   refine bV 1 rfl rfl (ab 1 tk3 rfl rfl rfl) ?_
   refine bV 3 rfl rfl (qFA (off := 2) rfl) ?_
   refine bV 4 rfl rfl (ab 1 tk3 rfl rfl rfl) ?_
   refine bV 7 rfl rfl (qFA (off := 3) rfl) ?_
   refine bV 8 rfl rfl (ab 1 tk3 rfl rfl rfl) ?_
   refine bV 11 rfl rfl (ar rfl) ?_
   refine cD 12 rfl (by kernel_rfl) true rfl rfl (fun _ => pO 2 Tryz.underlying280 Tryz.underlying5 Tryz.underlying9 rfl rfl hcb) (fun h => absurd h (by decide)) (fun ⟨tb, htb⟩ => ?_)
   refine bM (q := true) 2 rfl (by kernel_rfl) rfl rfl (bF [] [] (by kernel_rfl) rfl rfl rfl rfl (jT _) ?_)
   rintro _ _ _ ⟨rfl, rfl, t1, ht1, rfl⟩
   refine bST rfl ?_
   refine bM (q := true) 5 rfl (by kernel_rfl) rfl rfl (bF [] [] (by kernel_rfl) rfl rfl rfl rfl (jT _) ?_)
   rintro _ _ _ ⟨rfl, rfl, t2, ht2, rfl⟩
   refine bST rfl ?_
   refine bV 6 rfl rfl (pb rfl rfl (by omega)) ?_
   refine bM (q := true) 9 rfl (by kernel_rfl) rfl rfl (bF [] [] (by kernel_rfl) rfl rfl rfl rfl (jT _) ?_)
   rintro _ _ _ ⟨rfl, rfl, t3, ht3, rfl⟩
   refine bST rfl ?_
   refine bV 10 rfl rfl (pb rfl rfl (by rw [ByteArray.size_append]; omega)) ?_
   refine bM (q := true) 13 rfl (by kernel_rfl) rfl rfl (bF [] [] (by kernel_rfl) rfl rfl rfl rfl (uW tb (by omega)) ?_)
   rintro _ _ _ ⟨rfl, rfl, t4, ht4, rfl⟩
   refine bST rfl ?_
   refine bV 14 rfl rfl (pb rfl rfl (by rw [ByteArray.size_append, ByteArray.size_append]; omega)) ?_
   refine bM (q := true) 15 rfl (by kernel_rfl) rfl rfl (bF [2, 1] [] (by kernel_rfl) rfl rfl rfl rfl (yG _ (by rw [ByteArray.size_append, ByteArray.size_append, ByteArray.size_append]; unfold maxLen; omega)) ?_)
   rintro _ _ _ ⟨rfl, rfl, t5, rfl⟩
   refine bST rfl ?_
   refine bV 16 rfl rfl (bJ rfl) ?_
   refine bD (by kernel_rfl) ?_
   refine av (aq ?_)
   refine aV [] [] rfl Tryz.results82 rfl ?_ (.inr rfl)
   exact ⟨rfl, rfl, _, rfl⟩
end Go.Proofs.YtgmiihmahaahiaaGreatDoor

namespace Go.Proofs.YtgmiihmahaahiaaGreatDoor
open Go.RowKit Go.Lp Go.Sy
open Go.Proofs.Tryz
attribute [local irreducible] aL aB awp aC fwp
theorem ue (v : Value) (zs : List Int) (hz : zs.length ≤ 1000) (F : FuncId) (caps : List Value) (p : Per) (hF : bE Tryz.prog F = true) (h : ∀ a ∈ zs, Con Tryz.prog F (eI a :: caps) [p] [] (fun r _ _ => r = .bool false)) : Con Tryz.prog 186 [v, .func (.func F) #[] caps.toArray] [p] [bA v 3 1 (zs.map eN)]
   fun r ps hp => ps = [] ∧ hp = [bA v 3 1 (zs.map eN)] ∧ r = .int .i64 (-1) := by
 refine Con.enter Tryz.func186 rfl (by simp [Tryz.ntmps186]) ?_
 show awp _ _ _ _ ⟨[(0, true, _), (1, true, _)], _, _⟩
 refine aSR (aA rfl (aNs (aSR (aM rfl (aU rfl (fG 0 Tryz.underlying90 rfl rfl) (aM rfl (aNn (aw ?_))))))))
 refine aP [0, 1, 7, 8] [0] [0] (fun (k : Nat) s => k ≤ zs.length ∧ s = ⟨[(0, true, v), (1, true, .func (.func F) #[] caps.toArray), (7, true, .int .i64 zs.length), (8, true, .int .i64 k)], [p], [bA v 3 1 (zs.map eN)]⟩) (fun k => zs.length - k) rfl (⟨0, Nat.zero_le _, by rw [List.length_map]; rfl⟩) ?_
 rintro k s ⟨hk, rfl⟩
 refine aSR (aU rfl (bt rfl rfl) (aNs ?_))
 refine ah _ rfl (fun h1 => ?_) (fun h1 => ?_)
 ·skip
  have hk' : k < zs.length := by simpa using h1
  obtain ⟨a, ha⟩ : ∃ a, zs[k]? = some a := ⟨zs[k]'hk', by simp⟩
  refine au (av (az (aw (aSR (aM rfl (aA rfl (aNn (aSR (aM rfl (aM rfl (aM rfl ?_)))))))))))
  refine aU rfl (dV 0 k el90 rfl rfl rfl rfl (by rw [List.length_map]; exact hk')) ?_
  refine aU rfl (ez 0 k 0 tk3 rfl rfl (aJ ha) rfl rfl) (aU rfl (lk hF rfl rfl (fun w S fp hst => (h a (List.mem_of_getElem? ha)).quiet1 (an 0 rfl) hst)) (aNn ?_))
  refine ah _ rfl (fun h2 => ?_) (fun h2 => ?_)
  ·skip
   exact absurd h2 (by decide)
  ·skip
   refine au (bu (av (ae ?_)))
   refine aU rfl (bf rfl rfl (by omega)) ?_
   refine aM rfl (aNn ?_)
   refine ⟨[0, 1, 7, 8], [0], [0], rfl, ?_⟩
   exact ⟨k + 1, ⟨by omega, rfl⟩, by omega⟩
 ·skip
  refine aR (aS (aS (aY (av (aSR (aA rfl (aNn (aq ?_))))))))
  refine aV [] [0] rfl Tryz.results186 rfl ?_ (.inr rfl)
  exact ⟨rfl, rfl, rfl⟩
theorem wW (v : Value) (zs : List Int) (hz : zs.length ≤ 1000) (F : FuncId) (caps : List Value) (p : Per) (hF : bE Tryz.prog F = true) (h : ∀ a ∈ zs, Con Tryz.prog F (eI a :: caps) [p] [] (fun r _ _ => r = .bool false)) : Con Tryz.prog 79 [v, .func (.func F) #[] caps.toArray] [p] [bA v 3 1 (zs.map eN)]
   fun r ps hp => ps = [] ∧ hp = [bA v 3 1 (zs.map eN)] ∧ r = v := by
 refine Con.enter Tryz.func79 rfl (by simp [Tryz.ntmps79]) ?_
 show awp _ _ _ _ ⟨[(0, true, _), (1, true, _)], _, _⟩
 refine aSR (aA rfl (aNn (aSR (aM rfl (aM rfl ?_)))))
 refine aj (q := false) rfl (bF [0] [0] (by kernel_rfl) rfl rfl rfl rfl (ue v zs hz F caps p hF h) ?_)
 rintro _ _ _ ⟨rfl, rfl, rfl⟩
 refine aST ?_
 refine aA rfl (aNs (aSR (aM rfl (aU rfl (bB rfl rfl) (aNn ?_)))))
 refine ah _ rfl (fun h1 => ?_) (fun h1 => ?_)
 ·skip
  refine aSR (aM rfl (aA rfl (aNn (aq (aK ?_)))))
  refine aV [] [0] rfl Tryz.results79 rfl ?_ (.inr rfl)
  exact ⟨rfl, rfl, rfl⟩
 ·skip
  exact absurd h1 (by decide)
theorem rX (l : Sl Int) (hl : l.l.length ≤ 1000) : Con Tryz.prog 80 [l.val] [ShF eN l] [] fun r ps hp => ps = [] ∧ ∃ (ad : Option Addr) (c : Nat), r = .slice ad l.l.length c ∧ hp = [bA (.slice ad l.l.length c) 3 1 (l.l.map eN)] := by
 refine Con.enter Tryz.func80 rfl (by simp [Tryz.ntmps80]) ?_
 show awp _ _ _ _ ⟨[(0, true, _)], _, _⟩
 refine jx (φ := l.ad = none → l.l = []) (fun w S fp hst => ?_) (fun hnil => ?_)
 · intro hn
   have hrep : ef w S (.slice l.ad l.l.length l.cap) (.sl (l.l.map eN)) := hst.per _ (an 0 rfl)
   rw [hn] at hrep
   generalize hrw : l.l.map eN = rows at hrep
   generalize l.l.length = m at hrep
   cases hrep with
   | e => exact List.map_eq_nil_iff.1 hrw
 refine aSR (aA rfl (aNs (aSR (aM rfl (aU rfl (xu Tryz.underlying90 rfl) (aNn ?_))))))
 refine ah _ rfl (fun h1 => ?_) (fun h1 => ?_)
 ·skip
  have hl0 : l.l = [] := hnil (by simpa using h1)
  refine az (eb 3 1 ?_)
  show awp _ _ _ _ ⟨_, _, [_]⟩
  refine ae (aA rfl (aNn (aq (aK ?_))))
  refine aV [] [0] rfl Tryz.results80 rfl ?_ (.inr rfl)
  exact ⟨rfl, none, 0, by rw [hl0]; rfl, by rw [hl0]; rfl⟩
 ·skip
  refine au (av (aSR ?_))
  refine aj (q := true) rfl (oO el90 rfl (fun v3_0 => ?_))
  refine aHN ?_
  refine aM rfl ?_
  refine aj rfl (gS 0 el90 el90 rfl rfl rfl rfl (an 0 rfl) ((fun r hr => by obtain ⟨z, _, rfl⟩ := List.mem_map.1 hr; rfl)) (by show ([] : List (List D)).length + (l.l.map eN).length ≤ _; rw [List.length_map]; exact Nat.le_trans (show 0 + l.l.length ≤ 1000 by omega) (by decide)) (l.l.length) (by simp; try omega) (fun v3_2 c3_2 => ?_))
  refine aHK ?_
  refine aA rfl (aNn (aq ?_))
  refine aV [] [0] rfl Tryz.results80 rfl ?_ (.inr rfl)
  exact ⟨rfl, v3_2, c3_2, rfl, rfl⟩
theorem ux (b : Nat) (o : ax) (z : Int) (hz : 0 ≤ z ∧ z < o.secs.l.length) : Con Tryz.prog 81 [eI z, .pointer (some ⟨b, 0, none⟩)] [cx (At b 0 o.row) o.ok] [] (fun r _ _ => r = .bool false) := by
 refine Con.pre (ps := [At b 0 o.row, o.ok]) ?_ (eD fw.left fw.right)
 refine Con.enter Tryz.func81 rfl (by simp [Tryz.ntmps81]) ?_
 show awp _ _ _ _ ⟨[(0, true, _), (1, true, _)], _, _⟩
 refine bd (ax.f_secs (.of (an 1 rfl))) (fun hlen => ?_)
 refine aSR (aA rfl (aNn (aSR (aM rfl (aU rfl (bt rfl rfl) (aM rfl (aG rfl rfl (fun hc => ar rfl) ?_)))))))
 refine aG rfl rfl (fun hc => qFA (off := 1) rfl) ?_
 refine aG rfl rfl (fun hc => aN (o := 1) tk50 (aa rfl hc) (.of (an 0 rfl)) rfl) (aG rfl rfl (fun hc => aZ Tryz.underlying50 (aa rfl hc)) (aG rfl rfl (fun hc => cL (aa rfl hc) (aa rfl hc)) (aU rfl (ct rfl rfl (fun h => gf rfl h)) (aA rfl (aNn (aq ?_))))))
 refine aV [] [] rfl Tryz.results81 rfl ?_ (.inr rfl)
 simp; omega
theorem po (o : ax) (g : cS) (hl : g.secs.l.length ≤ 1000) (hz : ∀ z ∈ g.secs.l, 0 ≤ z ∧ z < o.secs.l.length) : Con Tryz.prog 32 [o.val, g.val] [ShF eN g.secs, o.ok] [] fun r ps hp => hp = [] ∧ ∃ s : Sl Int, s.l = g.secs.l ∧ r = s.val ∧ ps = [ShF eN s] := by
 refine Con.conv (R := fun r ps hp => ps = [] ∧ ∃ (ad : Option Addr) (c : Nat), r = .slice ad g.secs.l.length c ∧ hp = [bA (.slice ad g.secs.l.length c) 3 1 (g.secs.l.map eN)]) ?_ fun _ _ _ ⟨h1, ad, c, h2, h3⟩ => ?_
 rotate_left
 · subst h1 h2 h3
   exact ⟨_, _, (StE.share 0 (ShF eN ⟨ad, c, g.secs.l⟩) rfl fun _ _ _ h => eF h).trans (StE.keep [0] [] rfl), rfl, ⟨ad, c, g.secs.l⟩, rfl, rfl, rfl⟩
 refine Con.enter Tryz.func32 rfl (by simp [Tryz.ntmps32]) ?_
 show awp _ _ _ _ ⟨[(0, true, _), (1, true, _)], _, _⟩
 refine aSR ?_
 refine aj (q := true) rfl (bI rfl rfl rfl (fun b0_0 => ?_))
 refine aHN ?_
 refine aj (q := true) rfl (bI rfl rfl rfl (fun b0_1 => ?_))
 refine aHN ?_
 refine aA rfl (aNs (bL 0 rfl rfl ?_))
 show awp _ _ _ _ ⟨_, At _ 0 _ :: _, _⟩
 refine ae ?_
 refine aU rfl (qFA (off := 1) rfl) ?_
 refine aU rfl (ab 1 tk90 rfl rfl rfl) ?_
 refine aj (q := true) rfl (bF [1] [] (by kernel_rfl) rfl rfl rfl rfl (rX g.secs hl) ?_)
 rintro _ _ _ ⟨rfl, ad, cc, rfl, rfl⟩
 refine aST ?_
 refine aU rfl (dq (l := [.tmp 2]) rfl) ?_
 refine aj (q := false) rfl (bF [2, 0] [2] (by kernel_rfl) rfl rfl rfl rfl ((wW (.slice ad g.secs.l.length cc) g.secs.l hl 81 [.pointer (some ⟨b0_0, 0, none⟩)] (cx (At b0_0 0 o.row) o.ok) (by kernel_rfl) (fun z hz2 => ux b0_0 o z (hz z hz2))).pre (fun p hp => (List.mem_singleton.1 hp) ▸ .mk2 (.of (an 0 rfl)) (.of (an 1 rfl)))) ?_)
 rintro _ _ _ ⟨rfl, rfl, rfl⟩
 refine aST ?_
 refine aA rfl (aNn (aq ?_))
 refine aV [] [2] rfl Tryz.results32 rfl ?_ (.inr rfl)
 exact ⟨rfl, ad, cc, rfl, rfl⟩
end Go.Proofs.YtgmiihmahaahiaaGreatDoor

namespace Go.Proofs.YtgmiihmahaahiaaGreatDoor
open Go.RowKit Go.Lp Go.Sy
open Go.Proofs.Tryz
attribute [local irreducible] aL aB awp aC fwp
abbrev fX : ByteArray → List D := fun s => [.v (.string s)]
theorem lH (a b : Sl ByteArray) : Con Tryz.prog 83 [a.val, b.val] [ShF fX a, ShF fX b] [] (YB True) := by
 refine Con.enter Tryz.func83 rfl (by simp [Tryz.ntmps83]) ?_
 show awp _ _ _ _ ⟨[(0, true, _), (1, true, _)], _, _⟩
 refine bd (.of (an 0 rfl)) (fun hlen => ?_)
 refine bd (.of (an 1 rfl)) (fun hlen2 => ?_)
 refine aSR (aA rfl (aNs (aSR (aM rfl (aU rfl (aZ Tryz.underlying77 rfl) (aM rfl (aU rfl (aZ Tryz.underlying77 rfl) (aU rfl (cN rfl rfl) (aNn ?_)))))))))
 refine ah _ rfl (fun h1 => ?_) (fun h1 => ?_)
 ·skip
  refine aSR (aA rfl (aNn (aq (aK ?_))))
  refine aV [] [] rfl Tryz.results83 rfl ?_ (.inr rfl)
  exact ⟨⟨rfl, rfl⟩, _, rfl, fun _ => trivial⟩
 ·skip
  have hab : a.l.length = b.l.length := by simp at h1; omega
  refine au (av (az (aSR (aM rfl (aU rfl (aZ Tryz.underlying77 rfl) (aM rfl ?_))))))
  refine aNn (aw (aP [0, 1, 11, 12, 13] [1, 0] [] (fun (k : Nat) s => k ≤ a.l.length ∧ s = ⟨[(0, true, a.val), (1, true, b.val), (11, true, a.val), (12, true, .int .i64 a.l.length), (13, true, .int .i64 k)], [ShF fX a, ShF fX b], []⟩) (fun k => a.l.length - k) rfl (⟨0, Nat.zero_le _, rfl⟩) ?_))
  rintro k s ⟨hk, rfl⟩
  refine aSR (aU rfl (bt rfl rfl) (aNs ?_))
  refine ah _ rfl (fun h2 => ?_) (fun h2 => ?_)
  ·skip
   have hk' : k < a.l.length := by simpa using h2
   obtain ⟨x, hx⟩ : ∃ x, a.l[k]? = some x := ⟨_, List.getElem?_eq_getElem hk'⟩
   obtain ⟨y, hy⟩ : ∃ y, b.l[k]? = some y := ⟨_, List.getElem?_eq_getElem (by omega)⟩
   refine au (av (az (aw (aSR (aM rfl (aA rfl (aNs ?_)))))))
   refine aX [] (by kernel_rfl) ?_
   show aB _ _ _ _ _ 9 #[false, false, false, false, false, false, false, false, false] _
   refine bV 0 rfl rfl (ar rfl) ?_
   refine bV 1 rfl rfl (ar rfl) ?_
   refine cD 2 rfl (by kernel_rfl) true rfl rfl (fun _ => ai Tryz.underlying77 tk9 rfl ((.of (an 0 rfl))) rfl (aJ hx) rfl rfl) (fun h => absurd h (by decide)) (fun ⟨b6_2, o6_2⟩ => ?_)
   refine bV 3 rfl rfl (aF (o := 0) tk9 rfl (an 0 rfl) rfl rfl) ?_
   refine bV 4 rfl rfl (ar rfl) ?_
   refine bV 5 rfl rfl (ar rfl) ?_
   refine cD 6 rfl (by kernel_rfl) true rfl rfl (fun _ => ai Tryz.underlying77 tk9 rfl ((.of (an 2 rfl))) rfl (aJ hy) rfl rfl) (fun h => absurd h (by decide)) (fun ⟨b6_6, o6_6⟩ => ?_)
   refine bV 7 rfl rfl (aF (o := 0) tk9 rfl (an 0 rfl) rfl rfl) ?_
   refine bV 8 rfl rfl (oY rfl rfl) ?_
   refine bD (by kernel_rfl) ?_
   refine av ?_
   refine ah _ rfl (fun h3 => ?_) (fun h3 => ?_)
   ·skip
    refine aSR (aA rfl (aNn (aq (bj (aK (aK (bj (aK ?_))))))))
    refine aV [] [] rfl Tryz.results83 rfl ?_ (.inr rfl)
    exact ⟨⟨rfl, rfl⟩, _, rfl, fun _ => trivial⟩
   ·skip
    refine au (bu (av (ae ?_)))
    refine aU rfl (bf rfl rfl (by omega)) ?_
    refine aM rfl (aNn ?_)
    refine ⟨[0, 1, 11, 12, 13], [1, 0], [], rfl, ?_⟩
    exact ⟨k + 1, ⟨by omega, rfl⟩, by omega⟩
  ·skip
   refine aR (aS (aS (aY (av (aSR (aA rfl (aNn (aq ?_))))))))
   refine aV [] [] rfl Tryz.results83 rfl ?_ (.inr rfl)
   exact ⟨⟨rfl, rfl⟩, _, rfl, fun _ => trivial⟩
structure Cp where
 obj : Int
 nm : Sl ByteArray
 fm : Sl ByteArray
 deriving Inhabited
abbrev Cp.val (c : Cp) : Value := .agg #[.int .i64 c.obj, .slice c.nm.ad c.nm.l.length c.nm.cap, .slice c.fm.ad c.fm.l.length c.fm.cap]
abbrev Cp.vs (c : Cp) : List Value := [.int .i64 c.obj, .slice c.nm.ad c.nm.l.length c.nm.cap, .slice c.fm.ad c.fm.l.length c.fm.cap]
def Cp.ok (c : Cp) : Per := cx (ShF fX c.nm) (ShF fX c.fm)
theorem uM (a b : Cp) : Con Tryz.prog 34 [a.val, b.val] [a.ok, b.ok] [] (YB True) := by
 refine Con.enter Tryz.func34 rfl (by simp [Tryz.ntmps34]) ?_
 show awp _ _ _ _ ⟨[(0, true, _), (1, true, _)], _, _⟩
 refine aSR ?_
 refine aj (q := true) rfl (bI rfl rfl rfl (fun b0_0 => ?_))
 refine aHN ?_
 refine aj (q := true) rfl (bI rfl rfl rfl (fun b0_1 => ?_))
 refine aHN ?_
 refine aA rfl (aNn (aSR ?_))
 refine aU rfl (qFA (off := 1) rfl) ?_
 refine aU rfl (ab 0 tk77 rfl rfl rfl) ?_
 refine aU rfl (qFA (off := 1) rfl) ?_
 refine aU rfl (ab 1 tk77 rfl rfl rfl) ?_
 refine aQ (caps := []) [1, 0] (false) (by kernel_rfl) true rfl rfl (fun _ => rfl) (fun hc => rfl) (fun hc => by rw [List.append_nil]; exact (lH a.nm b.nm).pre (eD (Ent.left (p := ShF fX a.nm) (q := ShF fX a.fm) (.of (an 0 rfl))) (Ent.left (p := ShF fX b.nm) (q := ShF fX b.fm) (.of (an 1 rfl))))) (fun c1 hc1 => ?_)
 refine aM rfl ?_
 refine aG rfl rfl (fun hc => qFA (off := 2) rfl) ?_
 refine aG rfl rfl (fun hc => ab 0 tk77 (aa rfl hc) rfl rfl) ?_
 refine aG rfl rfl (fun hc => qFA (off := 2) rfl) ?_
 refine aG rfl rfl (fun hc => ab 1 tk77 (aa rfl hc) rfl rfl) ?_
 refine aQ (caps := []) [1, 0] (false) (by kernel_rfl) _ rfl rfl (fun _ => rfl) (fun hc => (aI (aa rfl hc) (aI (aa rfl hc) rfl))) (fun hc => by rw [List.append_nil]; exact (lH a.fm b.fm).pre (eD (Ent.right (p := ShF fX a.nm) (q := ShF fX a.fm) (.of (an 0 rfl))) (Ent.right (p := ShF fX b.nm) (q := ShF fX b.fm) (.of (an 1 rfl))))) (fun c2 hc2 => ?_)
 refine aU rfl (bn rfl rfl (fun h => gt rfl h)) (aA rfl (aNn (aq ?_)))
 refine aV [] [] rfl Tryz.results34 rfl ?_ (.inr rfl)
 exact ⟨⟨rfl, rfl⟩, _, rfl, fun _ => trivial⟩
theorem xy (os : Sl ax) (i : Nat) (hi : i < os.l.length) (hb : ∀ s ∈ (elt os.l (i : Int)).secs.l, s.bytes.size ≤ 1048576) (s : Sl Int) (hl : s.l.length ≤ 1000) (hz : ∀ z ∈ s.l, 0 ≤ z ∧ z < (elt os.l (i : Int)).secs.l.length) :
   Con Tryz.prog 33 [os.val, .int .i64 i, s.val] [ShF eN s, dn, dm, ShF ax.row os, bP ax.ok os.l] [] fun r ps hp => hp = [] ∧ ∃ c : Cp, r = c.val ∧ ps = [c.ok] := by
 have ho := bN hi
 generalize hoo : elt os.l (i : Int) = o at ho hb hz
 refine Con.conv (R := fun r ps hp => ps = [] ∧ ∃ (na : Option Addr) (nc : Nat) (nm : List ByteArray) (fa : Option Addr) (fc : Nat) (fm : List ByteArray), r = .agg #[.int .i64 i, .slice na nm.length nc, .slice fa fm.length fc] ∧ hp = [bA (.slice na nm.length nc) 9 1 (nm.map fX), bA (.slice fa fm.length fc) 9 1 (fm.map fX)]) ?_ fun _ _ _ ⟨h1, na, nc, nm, fa, fc, fm, h2, h3⟩ => ?_
 rotate_left
 · subst h1 h2 h3
   refine ⟨_, _, (StE.share 0 (ShF fX ⟨na, nc, nm⟩) rfl fun _ _ _ h => eF h).trans ((StE.share 1 (ShF fX ⟨fa, fc, fm⟩) rfl fun _ _ _ h => eF h).trans ((StE.keep [0, 1] [] rfl).trans (StE.ents (ps' := [(⟨i, ⟨na, nc, nm⟩, ⟨fa, fc, fm⟩⟩ : Cp).ok]) fun p hp => ?_))), rfl, ⟨i, ⟨na, nc, nm⟩, ⟨fa, fc, fm⟩⟩, rfl, rfl⟩
   rw [List.mem_singleton.1 hp]
   exact .mk2 (.of (an 0 rfl)) (.of (an 1 rfl))
 refine Con.enter Tryz.func33 rfl (by simp [Tryz.ntmps33]) ?_
 show awp _ _ _ _ ⟨[(0, true, _), (1, true, _), (2, true, _)], _, _⟩
 refine bd (.of (an 0 rfl)) (fun hlen => ?_)
 refine aSR ?_
 refine aj (q := true) rfl (bp (zs := [.int .i64 0, .slice none 0 0, .slice none 0 0]) (by kernel_rfl) rfl (fun b0_0 => ?_))
 refine aHN ?_
 refine aNn (aSR (aM rfl ?_))
 refine aU rfl (cU (l := [(0, .tmp 10)]) (zs := [.int .i64 0, .slice none 0 0, .slice none 0 0]) (pl := [(0, 1), (1, 1), (2, 1)]) (by kernel_rfl) (by kernel_rfl) (by kernel_rfl) rfl rfl rfl) ?_
 refine aj (q := true) rfl (bp (zs := [.int .i64 0, .slice none 0 0, .slice none 0 0]) (by kernel_rfl) rfl (fun b1_2 => ?_))
 refine aHN ?_
 refine aj rfl (aT 1 tk95 rfl rfl rfl rfl ?_)
 refine aHK ?_
 refine aNs (az ?_)
 refine eb 9 1 (eb 9 1 ?_)
 show awp _ _ _ _ ⟨_, _, [_, _, _, _]⟩
 refine ae (aM rfl (aU rfl (aZ Tryz.underlying90 rfl) (aM rfl (aNn (aw (aP [0, 1, 6, 7, 12, 13, 14] [4, 3, 2, 1, 0] [0, 1, 2, 3] (fun (q : Nat × ((Value × List ByteArray) × (Value × List ByteArray))) st => (q.1 ≤ s.l.length ∧ q.2.1.2.length = q.1 ∧ q.2.2.2.length = q.1) ∧ st = ⟨[(0, true, os.val), (1, true, .int .i64 i), (6, true, .pointer (some ⟨b0_0, 0, none⟩)), (7, true, .pointer (some ⟨b1_2, 0, none⟩)), (12, true, s.val), (13, true, .int .i64 s.l.length), (14, true, .int .i64 q.1)], [ShF eN s, dn, dm, ShF ax.row os, bP ax.ok os.l], [Box b0_0 95 [.int .i64 0, .slice none 0 0, .slice none 0 0], Box b1_2 95 [.int .i64 i, q.2.1.1, q.2.2.1], bA q.2.1.1 9 1 (q.2.1.2.map fX), bA q.2.2.1 9 1 (q.2.2.2.map fX)]⟩) (fun q => s.l.length - q.1) rfl (⟨(0, ((.slice none 0 0, []), (.slice none 0 0, []))), ⟨Nat.zero_le _, rfl, rfl⟩, rfl⟩) ?_))))))
 rintro ⟨k, ⟨nv, nm⟩, ⟨fv, fm⟩⟩ st ⟨⟨hk, hn, hf⟩, rfl⟩
 dsimp only at hk hn hf ⊢
 refine aSR (aU rfl (bt rfl rfl) (aNs ?_))
 refine ah _ rfl (fun h1 => ?_) (fun h1 => ?_)
 ·skip
  have hk' : k < s.l.length := by simpa using h1
  obtain ⟨z, hzk⟩ : ∃ z, s.l[k]? = some z := ⟨_, List.getElem?_eq_getElem hk'⟩
  have hzr := hz z (List.mem_of_getElem? hzk)
  refine au (av (az (aw (aSR ?_))))
  refine ck true rfl rfl (fun _ => ai Tryz.underlying90 tk3 rfl ((.of (an 0 rfl))) rfl (aJ hzk) rfl rfl) (fun h => absurd h (by decide)) (fun ⟨b4_0, o4_0⟩ => ?_)
  refine aU rfl (aF (o := 0) tk3 rfl (an 0 rfl) rfl rfl) (aA rfl (aNs ?_))
  refine ec [12, 14] [14] [b1_2] (by kernel_rfl) ?_
  show aC _ _ _ _ _ _ _ 15 #[false, false, false, false, false, false, false, false, false, false, false, false, false, false, false] _
  refine cX 0 rfl (by kernel_rfl) true rfl rfl (fun _ => qFA (off := 1) rfl) ?_
  refine eU 1 1 rfl (by kernel_rfl) true rfl rfl (by simp) tk77 (fun _ => rfl) rfl rfl ?_
  refine cX 2 rfl (by kernel_rfl) true rfl rfl (fun _ => ar rfl) ?_
  refine cX 3 rfl (by kernel_rfl) true rfl rfl (fun _ => ar rfl) ?_
  refine tp 4 rfl (by kernel_rfl) rfl rfl (eP Tryz.underlying22 tk61 rfl ((.of (an 4 rfl))) rfl (aJ ho) rfl rfl) (fun ⟨b5_4, o5_4⟩ => ?_)
  refine cX 5 rfl (by kernel_rfl) true rfl rfl (fun _ => qFA (off := 1) rfl) ?_
  refine cX 6 rfl (by kernel_rfl) true rfl rfl (fun _ => aN (o := 1) tk50 rfl (.of (an 0 rfl)) rfl) ?_
  refine cX 7 rfl (by kernel_rfl) true rfl rfl (fun _ => ar rfl) ?_
  refine tp 8 rfl (by kernel_rfl) rfl rfl (eP Tryz.underlying50 tk85 rfl ((ax.f_secs (Ent.all (.of (an 6 rfl)) ho))) rfl (cR (i := z) hzr.2 hzr.1) (by omega) rfl) (fun ⟨b5_8, o5_8⟩ => ?_)
  refine cX 9 rfl (by kernel_rfl) true rfl rfl (fun _ => qFA (off := 0) rfl) ?_
  refine cX 10 rfl (by kernel_rfl) true rfl rfl (fun _ => aN (o := 0) tk9 rfl (.of (an 0 rfl)) rfl) ?_
  refine cz 11 [] (by kernel_rfl) (bO ?_ cm)
  refine cM 11 rfl rfl (Eff.x ?_)
  refine id (cG (zs := [.string .empty]) (l := [(0, .tmp 28)]) el77 (by kernel_rfl) (by decide) (by decide) (by decide) rfl rfl rfl (.more rfl (.v rfl .nil) .nil) rfl rfl (fun v5_11 => ?_))
  refine dy (by (try simp only [nO, nK, nL]); rfl) (by (try simp only [nM, nN]); rfl) (by (try simp only [bX, nQ, nR, dt, place, Nat.reduceBEq, if_true, if_false, reduceIte, Nat.reduceAdd, nW]); rfl) ?_
  refine cz 12 [] (by kernel_rfl) (bO ?_ cm)
  refine cM 12 rfl rfl (Eff.framed (q := false) [2, 4] rfl rfl (fJ 1 rfl rfl ji) ?_)
  refine id (cE 0 el77 rfl rfl rfl rfl (dH 1 el77 rfl (by simp)) (by first | assumption | simp) (by show (nm.map fX).length + 1 ≤ _; rw [List.length_map]; exact Nat.le_trans (show nm.length + 1 ≤ 1001 by omega) (by decide)) ((nm ++ [(elt o.secs.l z).name]).length) (by show (nm.map fX).length + 1 = _; rw [List.length_map, List.length_append]; rfl) (fun v5_12 c5_12 => ?_))
  refine gn ?_
  refine dy (by (try simp only [nO, nK, nL]); rfl) (by (try simp only [nM, nN]); rfl) (by (try simp only [bX, nQ, nR, dt, place, Nat.reduceBEq, if_true, if_false, reduceIte, Nat.reduceAdd, nW]); rfl) ?_
  refine cX 13 rfl (by kernel_rfl) true rfl rfl (fun _ => qFA (off := 1) rfl) ?_
  refine cz 14 [] (by kernel_rfl) (bO ?_ cm)
  refine cM 14 rfl rfl (Eff.wild (q := false) ?_)
  refine id (aT 1 tk77 rfl rfl rfl rfl ?_)
  refine dy (by (try simp only [nO, nK, nL]); rfl) (by (try simp only [nM, nN]); rfl) (by (try simp only [bX, nQ, nR, dt, place, Nat.reduceBEq, if_true, if_false, reduceIte, Nat.reduceAdd, nW]); rfl) ?_
  refine gu (by kernel_rfl) ?_
  refine av ?_
  refine ec [9, 11] [11] [b1_2] (by kernel_rfl) ?_
  show aC _ _ _ _ _ _ _ 12 #[false, false, false, false, false, false, false, false, false, false, false, false] _
  refine cX 0 rfl (by kernel_rfl) true rfl rfl (fun _ => qFA (off := 2) rfl) ?_
  refine eU 1 1 rfl (by kernel_rfl) true rfl rfl (by simp) tk77 (fun _ => rfl) rfl rfl ?_
  refine cX 2 rfl (by kernel_rfl) true rfl rfl (fun _ => ar rfl) ?_
  refine cX 3 rfl (by kernel_rfl) true rfl rfl (fun _ => ar rfl) ?_
  refine tp 4 rfl (by kernel_rfl) rfl rfl (eP Tryz.underlying22 tk61 rfl ((.of (an 6 rfl))) rfl (aJ ho) rfl rfl) (fun ⟨b6_4, o6_4⟩ => ?_)
  refine cX 5 rfl (by kernel_rfl) true rfl rfl (fun _ => aN (o := 0) tk61 rfl (.of (an 0 rfl)) rfl) ?_
  refine cX 6 rfl (by kernel_rfl) true rfl rfl (fun _ => ar rfl) ?_
  refine cz 7 [] (by kernel_rfl) (bO ?_ cm)
  refine cM 7 rfl rfl (Eff.x ?_)
  refine id (bF [3, 2, 0] [] (by kernel_rfl) rfl rfl rfl rfl ((xo o hb z).pre (rY (.of (an 0 rfl)) (.of (an 1 rfl)) (Ent.all (.of (an 2 rfl)) ho))) ?_)
  rintro _ _ _ ⟨rfl, rfl, t, rfl⟩
  refine dy (by (try simp only [nO, nK, nL]); rfl) (by (try simp only [nM, nN]); rfl) (by (try simp only [bX, nQ, nR, dt, place, Nat.reduceBEq, if_true, if_false, reduceIte, Nat.reduceAdd, nW]); rfl) ?_
  refine cz 8 [] (by kernel_rfl) (bO ?_ cm)
  refine cM 8 rfl rfl (Eff.x ?_)
  refine id (cG (zs := [.string .empty]) (l := [(0, .tmp 39)]) el77 (by kernel_rfl) (by decide) (by decide) (by decide) rfl rfl rfl (.more rfl (.v rfl .nil) .nil) rfl rfl (fun v6_8 => ?_))
  refine dy (by (try simp only [nO, nK, nL]); rfl) (by (try simp only [nM, nN]); rfl) (by (try simp only [bX, nQ, nR, dt, place, Nat.reduceBEq, if_true, if_false, reduceIte, Nat.reduceAdd, nW]); rfl) ?_
  refine cz 9 [] (by kernel_rfl) (bO ?_ cm)
  refine cM 9 rfl rfl (Eff.framed (q := false) [3, 5] rfl rfl (fJ 1 rfl rfl ji) ?_)
  refine id (cE 0 el77 rfl rfl rfl rfl (dH 1 el77 rfl (by simp)) (by first | assumption | simp) (by show (fm.map fX).length + 1 ≤ _; rw [List.length_map]; exact Nat.le_trans (show fm.length + 1 ≤ 1001 by omega) (by decide)) ((fm ++ [t]).length) (by show (fm.map fX).length + 1 = _; rw [List.length_map, List.length_append]; rfl) (fun v6_9 c6_9 => ?_))
  refine gn ?_
  refine dy (by (try simp only [nO, nK, nL]); rfl) (by (try simp only [nM, nN]); rfl) (by (try simp only [bX, nQ, nR, dt, place, Nat.reduceBEq, if_true, if_false, reduceIte, Nat.reduceAdd, nW]); rfl) ?_
  refine cX 10 rfl (by kernel_rfl) true rfl rfl (fun _ => qFA (off := 2) rfl) ?_
  refine cz 11 [] (by kernel_rfl) (bO ?_ cm)
  refine cM 11 rfl rfl (Eff.wild (q := false) ?_)
  refine id (aT 1 tk77 rfl rfl rfl rfl ?_)
  refine dy (by (try simp only [nO, nK, nL]); rfl) (by (try simp only [nM, nN]); rfl) (by (try simp only [bX, nQ, nR, dt, place, Nat.reduceBEq, if_true, if_false, reduceIte, Nat.reduceAdd, nW]); rfl) ?_
  refine gu (by kernel_rfl) ?_
  refine bu (av (ae ?_))
  refine aU rfl (bf rfl rfl (by omega)) ?_
  refine aM rfl (aNn ?_)
  refine ⟨[0, 1, 6, 7, 12, 13, 14], [4, 3, 2, 1, 0], [0, 1, 2, 3], rfl, ?_⟩
  exact ⟨(k + 1, ((_, nm ++ [(elt o.secs.l z).name]), (_, fm ++ [t]))), ⟨⟨by dsimp only; omega, by dsimp only; rw [List.length_append]; simp; omega, by dsimp only; rw [List.length_append]; simp; omega⟩, by dsimp only; rw [List.map_append, List.map_append]; rfl⟩, by dsimp only; omega⟩
 ·skip
  refine aR (aS (aS (aY (av (az ?_)))))
  refine fN 2 rfl (fun na nc hv => ?_)
  refine fN 3 rfl (fun fa fc hv2 => ?_)
  rw [List.length_map] at hv hv2
  subst hv hv2
  refine ae (aU rfl (ab 1 tk95 rfl rfl rfl) ?_)
  refine aj rfl (aT 0 tk95 rfl rfl rfl rfl ?_)
  refine aHK ?_
  refine aNn (aq ?_)
  refine ti [] [2, 3] rfl Tryz.results33 (cv 0 tk95 rfl rfl rfl) ?_ (.inr rfl)
  exact ⟨rfl, na, nc, nm, fa, fc, fm, rfl, rfl⟩
end Go.Proofs.YtgmiihmahaahiaaGreatDoor

namespace Go.Proofs
open Go.Shelf
def Tryz.lays212_ren : Go.Shelf.Ren := ⟨fun | 212 => 78 | 263 => 184 | 264 => 185 | n => n, fun | 46 => 147 | 51 => 272 | 146 => 273 | 53 => 275 | 148 => 276 | n => n, fun | n => n⟩
theorem Tryz.lays212 : Go.Proofs.Lays.n212 Tryz.prog Tryz.lays212_ren := {
 mixed := by kernel_rfl
 f212 := Tryz.func78.trans (congrArg some (by kernel_rfl))
 f263 := Tryz.func184.trans (congrArg some (by kernel_rfl))
 f264 := Tryz.func185.trans (congrArg some (by kernel_rfl))
 t46 := Tryz.underlying147
 a46 := Tryz.isAgg147
 z46 := Tryz.sizeOf147
 v46 := Tryz.zeroValue147
 t51 := Tryz.underlying272
 a51 := Tryz.isAgg272
 z51 := Tryz.sizeOf272
 v51 := Tryz.zeroValue272
 t53 := Tryz.underlying275
 a53 := Tryz.isAgg275
 z53 := Tryz.sizeOf275
 v53 := Tryz.zeroValue275
 t146 := Tryz.underlying273
 a146 := Tryz.isAgg273
 z146 := Tryz.sizeOf273
 v146 := Tryz.zeroValue273
 t148 := Tryz.underlying276
 a148 := Tryz.isAgg276
 z148 := Tryz.sizeOf276
 v148 := Tryz.zeroValue276 }
end Go.Proofs

namespace Go.Proofs.YtgmiihmahaahiaaGreatDoor
open Go.RowKit Go.Lp Go.Sy
open Go.Proofs.Tryz
attribute [local irreducible] aL aB awp aC fwp
theorem aai (N : Nat) (hN : N ≤ 1000000) (w : World) : Calls Tryz.prog 78 #[.int .u64 (IntKind.u64.wrap 1), .int .u64 (IntKind.u64.wrap (N : Int))] w fun e w' => e = .returned (.tuple #[.int .u64 0, .int .u64 N]) ∧ Go.Sy.Below w.heap.size w w' := by
 have h := Any.bits_Mul Tryz.lays212 1 N (by omega) (by omega) w
 have e1 : IntKind.u64.wrap 1 = 1 := by decide
 have e2 : IntKind.u64.wrap (N : Int) = N := by rw [IntKind.wrap_u64]; omega
 rw [e1, e2]
 refine h.mono fun e w' ⟨h1, h2⟩ => ⟨?_, by rw [h2]; exact Go.Sy.Below.refl _ _⟩
 rw [h1]
 have e3 : 1 * N / 18446744073709551616 = 0 := by omega
 have e4 : 1 * N % 18446744073709551616 = N := by omega
 rw [e3, e4]; rfl
theorem zP (N : Nat) (hN : N ≤ 1000000) : IntKind.i64.wrap (N : Int) = N := by rw [IntKind.wrap_i64]; omega
def gF (N k : Nat) (v : Bool) : List Bool := List.replicate k v ++ List.replicate (N - k) false
theorem ns {N k : Nat} (v : Bool) (h : k ≤ N) : (gF N k v).length = N := by simp [gF]; omega
theorem rr {N k j : Nat} (v : Bool) (hj : j ≤ k) (h : k + j ≤ N) : (gF N k v).take k ++ (gF N k v).take j ++ (gF N k v).drop (k + j) = gF N (k + j) v := by
 unfold gF
 rw [List.take_append_of_le_length (by simp), List.take_append_of_le_length (by simpa using hj), List.drop_append, List.drop_of_length_le (by simp)]
 simp only [List.take_replicate, List.drop_replicate, List.length_replicate, List.nil_append, Nat.min_self, Nat.min_eq_left hj]
 rw [List.replicate_append_replicate]
 congr 2; omega
theorem ui {ad : Option Addr} {c : Nat} (v : Bool) : Con Tryz.prog 31 [.slice ad 1 c, .int .i64 ((0 : Nat) : Int)] [Sh (.slice ad 1 c) (.sl (eW Value.bool [v]))] [] fun r ps hp => ps = [] ∧ hp = [bA r 4 1 (eW Value.bool [])] := by
 refine Con.enter Tryz.func31 rfl (by simp [Tryz.ntmps31]) ?_
 show awp _ _ _ _ ⟨[(0, true, _), (1, true, _)], _, _⟩
 refine aSR (aA rfl (aNs (aSR (aM rfl (aU rfl (bt rfl rfl) (aNn ?_))))))
 refine ah _ rfl (fun h1 => ?_) (fun h1 => ?_)
 ·skip
  exact absurd h1 (by simp)
 ·skip
  refine au (av (aSR (aM rfl (aU rfl (aZ Tryz.underlying68 rfl) ?_))))
  refine aU rfl (dG (by kernel_rfl) Tryz.underlying147 rfl) ?_
  refine aM rfl ?_
  refine aU rfl (dG (by kernel_rfl) Tryz.underlying147 rfl) ?_
  refine aU rfl (bw (by kernel_rfl) rfl (fun w S fp hst => aai 0 (by omega) w)) ?_
  refine aM rfl (aU rfl (bc rfl rfl) (aU rfl (bc rfl rfl) (aA rfl (aA rfl (aNs (aSR (aM rfl (aU rfl (du rfl rfl) (aM rfl (aG rfl rfl (fun hc => ar rfl) (aG rfl rfl (fun hc => du (aa rfl hc) rfl) (aU rfl (ct rfl rfl (fun h => gf rfl h)) (aNn ?_)))))))))))))
  refine ah _ rfl (fun h2 => ?_) (fun h2 => ?_)
  ·skip
   exact absurd h2 (by decide)
  ·skip
   refine au (av (aSR (aM rfl ?_)))
   refine aU rfl (dG (by kernel_rfl) Tryz.underlying3 rfl) ?_
   refine aj (q := true) rfl (oH (m := 0) (zs := [.bool false]) el68 (by kernel_rfl) rfl (by decide) (iz rfl (rfl)) (iz rfl (rfl)) (by omega) rfl (fun v6_2 => ?_))
   refine aHN ?_
   refine aA rfl (aNn (aSR (aM rfl (aM rfl (aU rfl (yd el68 rfl rfl) ?_)))))
   refine aA rfl (aNs (aw (aP [7, 8] [] [0] (fun (k : Nat) s => s = ⟨[(7, true, .slice v6_2 0 0), (8, true, .int .i64 0)], [], [bA (.slice v6_2 0 0) 4 1 (eW Value.bool [])]⟩) (fun k => k) rfl (⟨0, rfl⟩) ?_)))
   rintro k s rfl
   refine az (aSR (aM rfl (aM rfl (aU rfl (fG 0 Tryz.underlying68 rfl rfl) (aU rfl (bt rfl rfl) (aNn ?_))))))
   refine ah _ rfl (fun h3 => ?_) (fun h3 => ?_)
   ·skip
    exact absurd h3 (by decide)
   ·skip
    refine aR (aS (aS (aY (av (aSR (aM rfl (aA rfl (aNn (aq ?_)))))))))
    refine aV [] [0] rfl Tryz.results31 rfl ?_ (.inr rfl)
    exact ⟨rfl, rfl⟩
theorem uv {ad : Option Addr} {c : Nat} (v : Bool) (N : Nat) (hN : N ≤ 1000000) (h0 : 0 < N) : Con Tryz.prog 31 [.slice ad 1 c, .int .i64 N] [Sh (.slice ad 1 c) (.sl (eW Value.bool [v]))] [] fun r ps hp => ps = [] ∧ hp = [bA r 4 1 (eW Value.bool (List.replicate N v))] := by
 refine Con.enter Tryz.func31 rfl (by simp [Tryz.ntmps31]) ?_
 show awp _ _ _ _ ⟨[(0, true, _), (1, true, _)], _, _⟩
 refine aSR (aA rfl (aNs (aSR (aM rfl (aU rfl (bt rfl rfl) (aNn ?_))))))
 refine ah _ rfl (fun h1 => ?_) (fun h1 => ?_)
 ·skip
  exact absurd h1 (by simp)
 ·skip
  refine au (av (aSR (aM rfl (aU rfl (aZ Tryz.underlying68 rfl) ?_))))
  refine aU rfl (dG (by kernel_rfl) Tryz.underlying147 rfl) ?_
  refine aM rfl ?_
  refine aU rfl (dG (by kernel_rfl) Tryz.underlying147 rfl) ?_
  refine aU rfl (bw (by kernel_rfl) rfl (fun w S fp hst => aai N hN w)) ?_
  refine aM rfl (aU rfl (bc rfl rfl) (aU rfl (bc rfl rfl) (aA rfl (aA rfl (aNs (aSR (aM rfl (aU rfl (du rfl rfl) (aM rfl (aG rfl rfl (fun hc => ar rfl) (aG rfl rfl (fun hc => du (aa rfl hc) rfl) (aU rfl (ct rfl rfl (fun h => gf rfl h)) (aNn ?_)))))))))))))
  refine ah _ rfl (fun h2 => ?_) (fun h2 => ?_)
  ·skip
   exact absurd h2 (by simp; omega)
  ·skip
   refine au (av (az ?_))
   have hw := zP N hN
   refine ae (aM rfl ?_)
   refine aU rfl (dG (by kernel_rfl) Tryz.underlying3 rfl) ?_
   refine aj (q := true) rfl (oH (m := N) (zs := [.bool false]) el68 (by kernel_rfl) rfl (by decide) (iz rfl (hw)) (iz rfl (hw)) (by omega) rfl (fun v6_2 => ?_))
   refine aHN ?_
   refine aA rfl (aNs ?_)
   refine aal (hp' := [bA (.slice v6_2 N N) 4 1 (eW Value.bool (List.replicate N false))]) (by simp [eW]) ?_
   refine iW 0 rfl (by simp [eW]; omega) (fun B cp hvo hcp => ?_)
   obtain ⟨rfl, rfl⟩ : v6_2 = some ⟨B, 0, none⟩ ∧ N = cp := by simp at hvo; exact ⟨hvo.1, hvo.2.2⟩
   refine ae (aM rfl (aM rfl ?_))
   refine aj (q := false) rfl (yD (zs := List.replicate N false) (xs := [v]) 0 el68 (fun _ => rfl) rfl rfl rfl rfl (by simp) (an 0 rfl) (by simp) (by simp; omega) (by simp; omega) (gF N 1 v) (by simp [gF]) rfl ?_)
   refine aA rfl (aNs (aw ?_))
   refine aP [7, 8] [] [0] (fun (k : Nat) s => (1 ≤ k ∧ k ≤ N) ∧ s = ⟨[(7, true, .slice (some ⟨B, 0, none⟩) N N), (8, true, .int .i64 k)], [], [bA (.slice (some ⟨B, 0, none⟩) N N) 4 1 (eW Value.bool (gF N k v))]⟩) (fun k => N - k) rfl (⟨1, ⟨by omega, by omega⟩, rfl⟩) ?_
   rintro k s ⟨⟨hk1, hk2⟩, rfl⟩
   refine az (aSR (aM rfl (aM rfl (aU rfl (aZ Tryz.underlying68 rfl) (aU rfl (bt rfl rfl) (aNn ?_))))))
   refine ah _ rfl (fun h3 => ?_) (fun h3 => ?_)
   ·skip
    have hkN : k < N := by simp at h3; omega
    obtain ⟨j, hj⟩ : ∃ j, j = min k (N - k) := ⟨_, rfl⟩
    refine au (av (aw ?_))
    refine aX [7] (by kernel_rfl) ?_
    show aB _ _ _ _ _ 10 #[false, false, false, false, false, false, false, false, false, false] _
    refine sx 0 rfl (by kernel_rfl) true rfl rfl (fun _ => ar rfl) ?_
    refine bV 1 rfl rfl (ar rfl) ?_
    refine bV 2 rfl rfl (ar rfl) ?_
    refine bV 3 rfl rfl (iY k (N - k) k el68 rfl rfl rfl hkN (Nat.le_refl _) rfl (by omega)) ?_
    refine bV 4 rfl rfl (ar rfl) ?_
    refine bV 5 rfl rfl (ar rfl) ?_
    refine bV 6 rfl rfl (og k el68 rfl rfl rfl (by omega) (Nat.le_refl _)) ?_
    refine bM (q := false) 7 rfl (by kernel_rfl) rfl rfl (yj (zs := gF N k v) 0 el68 (fun _ => rfl) rfl rfl rfl rfl (ns v hk2) j hj (by rw [ns v hk2]; omega) (gF N (k + j) v) (rr v (by omega) (by omega)) ?_)
    refine bST rfl ?_
    refine bV 8 rfl rfl (bf rfl rfl (by omega)) ?_
    refine bV 9 rfl rfl (bJ rfl) ?_
    refine bD (by kernel_rfl) ?_
    refine bu (av ?_)
    refine ⟨[7, 8], [], [0], rfl, ?_⟩
    refine ⟨k + j, ⟨⟨by omega, by omega⟩, ?_⟩, by omega⟩
    rw [Int.natCast_add]; rfl
   ·skip
    have hkN : k = N := by simp at h3; omega
    subst hkN
    rw [show gF k k v = List.replicate k v by simp [gF]]
    refine aR (aS (aS (aY (av (aSR (aM rfl (aA rfl (aNn (aq ?_)))))))))
    refine aV [] [0] rfl Tryz.results31 rfl ?_ (.inr rfl)
    exact ⟨rfl, rfl⟩
end Go.Proofs.YtgmiihmahaahiaaGreatDoor

